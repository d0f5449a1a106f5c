import Derived.Test.YtlkjkfidmkdchaaTR0
set_option linter.all false
set_option maxRecDepth 100000
set_option maxHeartbeats 4000000
namespace Go.T.R
open Go Go.T
theorem Fx {P:Prop} (h:P:=by kernel_rfl):P:=h
theorem Eu (a b c:Int):aq C fm [vI a,vI b,vI c] (vB (yK a b c)) []:=by
 refine(zT _ _ _ _ ?_).run;simp only[vj,dX,yK]
 split<;>simp_all<;>omega
theorem Is (a b c:Int):aq C iJ [vI a,vI b,vI c] (vB (yK a b c)) []:=by
 refine(Ds _ _ _ _ ?_).run;simp only[vj,dX,yK]
 split<;>simp_all<;>omega
@[simp] theorem Iu (a b c:Int) (q:Bool):aq C fm [vI a,vI b,vI c] (vB q) []↔q=yK a b c:=zJ (Eu a b c)
@[simp] theorem Ly (a b c:Int) (q:Bool):aq C iJ [vI a,vI b,vI c] (vB q) []↔q=yK a b c:=zJ (Is a b c)
theorem yW (b a k c g:Int):aq C oJ [.ag [iI b,iI a,iI k,iI c,iI g]] (vB (cC ⟨b,a,k,c,g⟩)) []:=by
 refine(B6 _ _ _ _ _ _ ?_).run;simp only[Iu,jX,cC,gx,dm,dX]
 cases yK b 0 15<;>cases yK a 1 60<;>cases yK k 0 2<;>by_cases h:k=1<;>by_cases h1:c=0<;>by_cases h2:g=0<;>cases yK c 0 23<;>simp_all
theorem yX (b a k c g:Int):aq C oK [.ag [iI b,iI a,iI k,iI c,iI g]] (vB (cC ⟨b,a,k,c,g⟩)) []:=by
 refine(B2 _ _ _ _ _ _ ?_).run;simp only[Ly,jX,cC,gx,dm,dX]
 cases yK b 0 15<;>cases yK a 1 60<;>cases yK k 0 2<;>by_cases h:k=1<;>by_cases h1:c=0<;>by_cases h2:g=0<;>cases yK c 0 23<;>simp_all
@[simp] theorem BV (b a k c g:Int) (q:Bool):aq C oJ [.ag [iI b,iI a,iI k,iI c,iI g]] (vB q) []↔q=cC ⟨b,a,k,c,g⟩:=zJ (yW b a k c g)
@[simp] theorem BW (b a k c g:Int) (q:Bool):aq C oK [.ag [iI b,iI a,iI k,iI c,iI g]] (vB q) []↔q=cC ⟨b,a,k,c,g⟩:=zJ (yX b a k c g)
@[simp] theorem qy (b a k c g b' a' k' c' g':Int) (q:Bool):aq C kD [.ag [iI b,iI a,iI k,iI c,iI g],.ag [iI b',iI a',iI k',iI c',iI g']] (vB q) []↔q=bn ⟨b,a,k,c,g⟩ ⟨b',a',k',c',g'⟩:=zJ (by
  refine(y7 _ _ _ _ _ _ _ _ _ _ _ ?_).run;simp only[vi,gx,dX,bn]
  by_cases h1:b<b'<;>by_cases h2:b=b'<;>simp_all)
@[simp] theorem qz (b a k c g b' a' k' c' g':Int) (q:Bool):aq C kE [.ag [iI b,iI a,iI k,iI c,iI g],.ag [iI b',iI a',iI k',iI c',iI g']] (vB q) []↔q=bn ⟨b,a,k,c,g⟩ ⟨b',a',k',c',g'⟩:=zJ (by
  refine(zf _ _ _ _ _ _ _ _ _ _ _ ?_).run;simp only[vi,gx,dm,dX,bn]
  by_cases h2:b=b'<;>simp_all)
@[simp] theorem oZ (b a k c g b' a' k' c' g':Int) (q:Bool):aq C cD [.ag [iI b,iI a,iI k,iI c,iI g],.ag [iI b',iI a',iI k',iI c',iI g']] (vB q) []↔q=c8 ⟨b,a,k,c,g⟩ ⟨b',a',k',c',g'⟩:=zJ (by
  refine(w5 _ _ _ _ _ _ _ _ _ _ _ ?_).run;simp only[vi,gx,dm,dX,c8]
  by_cases h2:b=b'<;>simp_all)
@[simp] theorem wG (b a k c g b' a' k' c' g':Int) (q:Bool):aq C g8 [.ag [iI b,iI a,iI k,iI c,iI g],.ag [iI b',iI a',iI k',iI c',iI g']] (vB q) []↔q=c8 ⟨b,a,k,c,g⟩ ⟨b',a',k',c',g'⟩:=zJ (by
  refine(w8 _ _ _ _ _ _ _ _ _ _ _ ?_).run;simp only[vi,gx,dm,dX,c8]
  by_cases h2:b=b'<;>simp_all)
theorem ia (l:List Key) (x:Key) (hl:l.length≤1073741824):aq C aJ [bV l,tW x] (bV (bT l x)) []:=by
 refine(z5 _ _ _ _ _ _ _ ?_).run
 have key: ∀(put:Bool) (acc:List Key),acc.length+(l.drop 0).length≤l.length+(if put then 1 else 0)→acc++bJ x put (l.drop 0)=bT l x→ak C aJ cw 4 0 (cq (l.map bB) put ((0:Nat):Int) x.b x.a x.k x.c x.g (acc.map bB)) (fun u st=>aY C aJ cw u st fun r fs=>r=bV (bT l x)∧fs=[]):=by
  refine cU l (fun i=> ∀(put:Bool) (acc:List Key),acc.length+(l.drop i).length≤l.length+(if put then 1 else 0)→acc++bJ x put (l.drop i)=bT l x→ak C aJ cw 4 0 (cq (l.map bB) put i x.b x.a x.k x.c x.g (acc.map bB)) _) ?_ ?_
  ·intro put acc hb he
   refine pU _ _ _ _ _ _ _ _ _ _ (aK dK (xe _ _ _ _ _ _ _ _ _ _ _ ?_));simp only[rA,ew,iA,fC,dm,dP,dG]
   have hb2:acc.length≤l.length+1:=by simp at hb;split at hb<;>omega
   rw[jb aB];rw[lN] at he
   cases put<;>simp[bJ] at he ⊢ <;>rw[←he]<;>simp
  ·intro i a hi ha hd _ hn put acc hb he
   rw[hd] at hb he;simp only[dH] at hb
   have hb':acc.length+(List.drop (i+1) l).length+1≤l.length+1:=by split at hb<;>omega
   refine pU _ _ _ _ _ _ _ _ _ _ (av sP ?_);simp only[jT,bE,ha,aE,kO,qz,wG,jX,dm,ew,rA,iA,fC,dP,dG,cM,kN];simp (disch:=omega) only[jb,bR,qp];simp only[bJ] at he
   cases put<;>cases hk:bn a x<;>cases hs:c8 a x<;>simp only[qp,yE]<;>simp[hk,hs] at he hb<;>exact hn _ _ (by simp at hb ⊢;omega) (by simpa using he)
 exact key false [] dK rfl
@[simp] theorem zM (l:List Key) (hl:l.length≤1073741824) (b a k c g:Int) (q:RR):aq C aJ [.c (.sub 5 (l.map bB)),.ag [iI b,iI a,iI k,iI c,iI g]] (.c (.sub 5 q)) []↔q=(bT l ⟨b,a,k,c,g⟩).map bB:=Gc (ia l ⟨b,a,k,c,g⟩ hl)
theorem ic (l:List Key) (x:Key) (hl:l.length≤1073741824):aq C aZ [bV l,tW x] (bV (bT l x)) []:=by
 refine(zP _ _ _ _ _ _ _ ?_).run
 have key: ∀(put:Bool) (acc:List Key),acc.length+(l.drop 0).length≤l.length+(if put then 1 else 0)→acc++bJ x put (l.drop 0)=bT l x→ak C aZ cw 4 0 (cn put (l.map bB) ((0:Nat):Int) x.b x.a x.k x.c x.g (acc.map bB)) (fun u st=>aY C aZ cw u st fun r fs=>r=bV (bT l x)∧fs=[]):=by
  refine cU l (fun i=> ∀(put:Bool) (acc:List Key),acc.length+(l.drop i).length≤l.length+(if put then 1 else 0)→acc++bJ x put (l.drop i)=bT l x→ak C aZ cw 4 0 (cn put (l.map bB) i x.b x.a x.k x.c x.g (acc.map bB)) _) ?_ ?_
  ·intro put acc hb he
   refine pM _ _ _ _ _ _ _ _ _ _ (aK dK (wR _ _ _ _ _ _ _ _ _ _ _ _ ?_));simp only[rA,ew,iA,fC,dm,dP,dG]
   have hb2:acc.length≤l.length+1:=by simp at hb;split at hb<;>omega
   rw[jb aB];rw[lN] at he
   cases put<;>simp[bJ] at he ⊢ <;>rw[←he]<;>simp
  ·intro i a hi ha hd _ hn put acc hb he
   rw[hd] at hb he;simp only[dH] at hb
   have hb':acc.length+(List.drop (i+1) l).length+1≤l.length+1:=by split at hb<;>omega
   refine pM _ _ _ _ _ _ _ _ _ _ (av sP ?_);simp only[jT,bE,ha,aE,kO,qy,oZ,jX,dm,ew,rA,iA,fC,dP,dG,cM,kN];simp (disch:=omega) only[jb,bR,qp];simp only[bJ] at he
   cases put<;>cases hk:bn a x<;>cases hs:c8 a x<;>simp only[qp,yE]<;>simp[hk,hs] at he hb<;>exact hn _ _ (by simp at hb ⊢;omega) (by simpa using he)
 exact key false [] dK rfl
@[simp] theorem zN (l:List Key) (hl:l.length≤1073741824) (b a k c g:Int) (q:RR):aq C aZ [.c (.sub 5 (l.map bB)),.ag [iI b,iI a,iI k,iI c,iI g]] (.c (.sub 5 q)) []↔q=(bT l ⟨b,a,k,c,g⟩).map bB:=Gc (ic l ⟨b,a,k,c,g⟩ hl)
theorem sJ (old new:List Key) (hl:old.length+new.length≤1073741824):aq C bQ [bV old,bV new] (bV (aG old new)) []:=by
 refine(vF _ _ _ ?_).run;rw[jy,jb sP];refine av rfl ?_
 have key: ∀(acc:List Key),acc.length+(new.drop 0).length≤old.length+new.length→aG acc (new.drop 0)=aG old new→ak C bQ ai 4 0 (dV (new.map bB) ((0:Nat):Int) (acc.map bB)) (fun u st=>aY C bQ ai u st fun r fs=>r=(bV (aG old new))∧fs=[]):=by
  refine cU new (fun i=> ∀(acc:List Key),acc.length+(new.drop i).length≤old.length+new.length→aG acc (new.drop i)=aG old new→ak C bQ ai 4 0 (dV (new.map bB) i (acc.map bB)) (fun u st=>aY C bQ ai u st fun r fs=>r=(bV (aG old new))∧fs=[])) ?_ ?_
  ·intro acc h0 h1
   refine lF _ _ _ _ (aK dK (sM _ _ _ _ _ ?_));rw[lN] at h1;rw[←h1];exact uE
  ·intro i a hi ha hd ht hn acc h0 h1
   refine lF _ _ _ _ (av sP ?_);rw[hd] at h0 h1;simp only[dH] at h0;simp only[jT,zM acc aB,bE,ha,aE,kO,jX,dm,iW,lg,ew,iY,gz,iZ,ja,lu,dP,natAdd,dG,cM,kN,fC,oO];rw[bR aB];have h2:=gy acc a;exact hn _ aB (by rw[←h1];rfl)
 exact key old dK rfl
theorem vr (old new:List Key) (hl:old.length+new.length≤1073741824) (q:RR):aq C bQ [bV old,bV new] (.c (.sub 5 q)) []↔q=(aG old new).map bB:=Gc (sJ old new hl)
theorem rX (l:List Key) (hl:l.length≤1073741824):aq C bY [bV l] (bV (fj l)) []:=by
 refine(Dq _ _ ?_).run
 have key: ∀(acc:List Key),acc.length+(l.drop 0).length≤l.length→acc++fj (l.drop 0)=fj l→ak C bY ai 4 0 (fM (l.map bB) ((0:Nat):Int) (acc.map bB)) (fun u st=>aY C bY ai u st fun r fs=>r=(bV (fj l))∧fs=[]):=by
  refine cU l (fun i=> ∀(acc:List Key),acc.length+(l.drop i).length≤l.length→acc++fj (l.drop i)=fj l→ak C bY ai 4 0 (fM (l.map bB) i (acc.map bB)) (fun u st=>aY C bY ai u st fun r fs=>r=(bV (fj l))∧fs=[])) ?_ ?_
  ·intro acc h0 h1
   refine r7 _ _ _ _ (aK dK (zU _ _ _ _ _ ?_));rw[lN] at h1;simp[fj] at h1;simp[fj,h1]
  ·intro i a hi ha hd ht hn acc h0 h1
   refine r7 _ _ _ _ (av sP ?_);rw[hd] at h0 h1;simp only[dH] at h0;simp only[jT,rA,iA,gx,dX,bE,ha,aE,kO,jX,dm,iW,lg,ew,iY,gz,iZ,ja,lu,dP,natAdd,dG,cM,kN,fC,oO];simp (disch:=omega) only[jb,bR,qp]
   by_cases hk:a.k=0
   ·rw[aO hk]
    exact hn _ aB (by rw[←h1];simp[fj,hk])
   ·rw[aD hk]
    exact hn (acc++[a]) (by simp only[cM,kN];omega) (by rw[←h1];simp[fj,hk])
 exact key [] dK rfl
theorem uj (n:List (List Key)) (hb:n.length≤1073741824) (hl:tot bF n≤1073741824):aq C aT [di n] (bV (ax n)) []:=by
 refine(wO _ _ ?_).run
 have key: ∀(acc:List Key),acc.length+tot bF (n.drop 0)≤tot bF n→(n.drop 0).foldl aG acc=iH n→ak C aT ai 4 0 (eA ((0:Nat):Int) (n.map bg) (acc.map bB)) (fun u st=>aY C aT ai u st fun r fs=>r=(bV (ax n))∧fs=[]):=by
  refine cU n (fun i=> ∀(acc:List Key),acc.length+tot bF (n.drop i)≤tot bF n→(n.drop i).foldl aG acc=iH n→ak C aT ai 4 0 (eA i (n.map bg) (acc.map bB)) (fun u st=>aY C aT ai u st fun r fs=>r=(bV (ax n))∧fs=[])) ?_ ?_
  ·intro acc h0 h1
   refine mK _ _ _ _ (aK dK (uy _ _ _ _ _ ?_));rw[lN] at h0 h1;simp only[List.foldl_nil] at h1;refine⟨_,rX acc aB,?_⟩;rw[h1];exact uE
  ·intro i a hi ha hd ht hn acc h0 h1
   refine mK _ _ _ _ (av sP ?_);rw[hd] at h0 h1;simp only[tot,bF] at h0;simp only[mZ,vr acc a aB,bE,ha,aE,kO,jX,dm,iW,lg,ew,iY,gz,iZ,ja,lu,dP,natAdd,dG,cM,kN,fC,oO];rw[bR aB];have h2:=jD a acc;exact hn _ aB (by rw[←h1];rfl)
 exact key [] dK rfl
theorem wH (n:List (List Key)) (hb:n.length≤1073741824) (hl:tot bF n≤1073741824) (q:RR):aq C aT [.ag [.sub 1 (n.map bg)]] (.c (.sub 5 q)) []↔q=(ax n).map bB:=Gc (uj n hb hl)
theorem ey (l:List Key) (hl:l.length≤2147483648):aq C fK [bV l] (bV l) []:=by
 refine(w7 _ _ ?_).run;rw[jy,jb sP];exact uE
theorem sK (old new:List Key) (hl:old.length+new.length≤1073741824):aq C bP [bV old,bV new] (bV (aG old new)) []:=by
 refine(vE _ _ _ ?_).run;refine⟨_,ey old aB,?_⟩
 have key: ∀(acc:List Key),acc.length+(new.drop 0).length≤old.length+new.length→aG acc (new.drop 0)=aG old new→ak C bP ai 4 0 (dU (new.map bB) ((0:Nat):Int) (acc.map bB)) (fun u st=>aY C bP ai u st fun r fs=>r=(bV (aG old new))∧fs=[]):=by
  refine cU new (fun i=> ∀(acc:List Key),acc.length+(new.drop i).length≤old.length+new.length→aG acc (new.drop i)=aG old new→ak C bP ai 4 0 (dU (new.map bB) i (acc.map bB)) (fun u st=>aY C bP ai u st fun r fs=>r=(bV (aG old new))∧fs=[])) ?_ ?_
  ·intro acc h0 h1
   refine lE _ _ _ _ (aK dK (sL _ _ _ _ _ _ ?_));rw[lN] at h1;rw[←h1];exact uE
  ·intro i a hi ha hd ht hn acc h0 h1
   refine lE _ _ _ _ (av sP ?_);rw[hd] at h0 h1;simp only[dH] at h0;simp only[jT,zN acc aB,bE,ha,aE,kO,jX,dm,iW,lg,ew,iY,gz,iZ,ja,lu,dP,natAdd,dG,cM,kN,fC,oO];rw[bR aB];have h2:=gy acc a;exact hn _ aB (by rw[←h1];rfl)
 exact key old dK rfl
theorem vt (old new:List Key) (hl:old.length+new.length≤1073741824) (q:RR):aq C bP [bV old,bV new] (.c (.sub 5 q)) []↔q=(aG old new).map bB:=Gc (sK old new hl)
theorem rY (l:List Key) (hl:l.length≤1073741824):aq C dB [bV l] (bV (fj l)) []:=by
 refine(Dt _ _ ?_).run
 have key: ∀(acc:List Key),acc.length+(l.drop 0).length≤l.length→acc++fj (l.drop 0)=fj l→ak C dB ai 4 0 (fO (l.map bB) ((0:Nat):Int) (acc.map bB)) (fun u st=>aY C dB ai u st fun r fs=>r=(bV (fj l))∧fs=[]):=by
  refine cU l (fun i=> ∀(acc:List Key),acc.length+(l.drop i).length≤l.length→acc++fj (l.drop i)=fj l→ak C dB ai 4 0 (fO (l.map bB) i (acc.map bB)) (fun u st=>aY C dB ai u st fun r fs=>r=(bV (fj l))∧fs=[])) ?_ ?_
  ·intro acc h0 h1
   refine r8 _ _ _ _ (aK dK (zW _ _ _ _ _ _ ?_));rw[lN] at h1;simp[fj] at h1;simp[fj,h1]
  ·intro i a hi ha hd ht hn acc h0 h1
   refine r8 _ _ _ _ (av sP ?_);rw[hd] at h0 h1;simp only[dH] at h0;simp only[jT,rA,iA,gx,dX,bE,ha,aE,kO,jX,dm,iW,lg,ew,iY,gz,iZ,ja,lu,dP,natAdd,dG,cM,kN,fC,oO];simp (disch:=omega) only[jb,bR,qp]
   by_cases hk:a.k=0
   ·rw[aO hk]
    exact hn _ aB (by rw[←h1];simp[fj,hk])
   ·rw[aD hk]
    exact hn (acc++[a]) (by simp only[cM,kN];omega) (by rw[←h1];simp[fj,hk])
 exact key [] dK rfl
theorem ez (n:List (List Key)) (hb:n.length≤1073741824) (hl:tot bF n≤1073741824):aq C aR [di n] (bV (ax n)) []:=by
 refine(wU _ _ ?_).run
 have key: ∀(acc:List Key),acc.length+tot bF (n.drop 0)≤tot bF n→(n.drop 0).foldl aG acc=iH n→ak C aR ai 4 0 (eB (n.map bg) ((0:Nat):Int) (acc.map bB)) (fun u st=>aY C aR ai u st fun r fs=>r=(bV (ax n))∧fs=[]):=by
  refine cU n (fun i=> ∀(acc:List Key),acc.length+tot bF (n.drop i)≤tot bF n→(n.drop i).foldl aG acc=iH n→ak C aR ai 4 0 (eB (n.map bg) i (acc.map bB)) (fun u st=>aY C aR ai u st fun r fs=>r=(bV (ax n))∧fs=[])) ?_ ?_
  ·intro acc h0 h1
   refine mL _ _ _ _ (aK dK (uz _ _ _ _ _ _ ?_));rw[lN] at h0 h1;simp only[List.foldl_nil] at h1;refine⟨_,rY acc aB,?_⟩;rw[h1];exact uE
  ·intro i a hi ha hd ht hn acc h0 h1
   refine mL _ _ _ _ (av sP ?_);rw[hd] at h0 h1;simp only[tot,bF] at h0;simp only[mZ,vt acc a aB,bE,ha,aE,kO,jX,dm,iW,lg,ew,iY,gz,iZ,ja,lu,dP,natAdd,dG,cM,kN,fC,oO];rw[bR aB];have h2:=jD a acc;exact hn _ aB (by rw[←h1];rfl)
 exact key [] dK rfl
theorem o5 (n:List (List Key)) (hb:n.length≤1073741824) (hl:tot bF n≤1073741824) (q:RR):aq C aR [.ag [.sub 1 (n.map bg)]] (.c (.sub 5 q)) []↔q=(ax n).map bB:=Gc (ez n hb hl)
theorem vu (l:List Key) (hl:l.length≤1073741824):aq C cW [bV l] (vB (iL l.length (fh l bn))) []:=by
 refine(zm _ _ ?_).run
 have key: ∀(k i:Nat),i+k=l.length→1≤i→(List.range' i k).all (fh l bn)=iL l.length (fh l bn)→ak C cW aU 4 0 (gL (l.map bB) i) (fun u st=>aY C cW aU u st fun r fs=>r=vB (iL l.length (fh l bn))∧fs=[]):=by
  intro k
  induction k with
  |zero=>
   intro i h h1 h0;refine jA _ _ _ (aK sP (nS _ _ _ _ ?_));simp only[List.range'_zero,Aa] at h0;rw[←h0];exact uE
  |succ k ih=>
   intro i h h1 h0;obtain⟨j,rfl⟩: ∃j,i=j+1:=⟨i-1,by omega⟩;have hj:l[j]?=some l[j]:=aN aB;have Ms:l[j+1]?=some l[j+1]:=aN aB
   have e:fh l bn (j+1)=bn l[j] l[j+1]:=by simp only[fh,hj,Ms]
   rw[List.range'_succ,sS,e] at h0;refine jA _ _ _ (av sP ?_);rw[iX aB,show((j+1:Nat):Int)-1=(j:Int) by omega];simp only[jT,bE,hj,Ms,aE,kO,qz,jX,ew,dm];rw[bR aB]
   cases hb:bn l[j] l[j+1] with
   |true=>
    rw[hb,fC] at h0;exact av rfl (ih (j+1+1) aB aB h0)
   |false=>
    rw[hb,Bool.false_and] at h0;refine aK rfl (vH _ ?_);rw[←h0];exact uE
 cases hz:l.length with
 |zero=>
  have:l=[]:=rL hz;subst this;exact jA _ _ _ (aK dK (nS _ _ _ _ uE))
 |succ n=>
  rw[hz] at key;exact key n 1 aB aB (by unfold iL;rw[List.range'_succ,sS];rfl)
theorem yY (l:List Key) (hl:l.length≤1073741824):aq C cc [bV l] (vB ((l.all cC&&(iL l.length (fh l bn)&&decide (l.length≤60))))) []:=by
 refine(B1 _ _ ?_).run
 have key:((l.drop 0).all cC&&(iL l.length (fh l bn)&&decide (l.length≤60)))=(l.all cC&&(iL l.length (fh l bn)&&decide (l.length≤60)))→ak C cc aU 4 0 (eT (l.map bB) ((0:Nat):Int)) (fun u st=>aY C cc aU u st fun r fs=>r=vB ((l.all cC&&(iL l.length (fh l bn)&&decide (l.length≤60))))∧fs=[]):=by
  refine cU l (fun i=>((l.drop i).all cC&&(iL l.length (fh l bn)&&decide (l.length≤60)))=(l.all cC&&(iL l.length (fh l bn)&&decide (l.length≤60)))→ak C cc aU 4 0 (eT (l.map bB) i) (fun u st=>aY C cc aU u st fun r fs=>r=vB ((l.all cC&&(iL l.length (fh l bn)&&decide (l.length≤60))))∧fs=[])) ?_ ?_
  ·intro h0
   refine qN _ _ _ (aK dK (za _ _ _ _ ?_));rw[lN] at h0;simp only[Aa,fC] at h0;rw[←h0];refine⟨_,vu l hl,?_⟩;simp only[vj,dG,sR]
   cases iL l.length (fh l bn)<;>simp
   omega
  ·intro i a hi ha hd J5 hn h0
   have gO:cC a=false→(l.all cC&&(iL l.length (fh l bn)&&decide (l.length≤60)))=false:=fun e=>by rw[←h0,hd];simp[e]
   have gN:cC a=true→ak C cc aU 4 0 (eT (l.map bB) ((i:Int)+1)) (fun u st=>aY C cc aU u st fun r fs=>r=vB ((l.all cC&&(iL l.length (fh l bn)&&decide (l.length≤60))))∧fs=[]):=fun e=>hn (by rw[←h0,hd];simp[e]);refine qN _ _ _ (av sP ?_);simp only[jT,BW,bE,ha,aE,kO,jX,dm,iW,lg,ew,iY,gz,iZ,ja,lu,dP,natAdd,dG,cM,kN,fC,oO];rw[bR aB]
   cases h1:cC a<;>simp only[qp,yE]<;>first|exact gN L0|exact y9 _ (by rw[gO L0];exact uE)
 exact key rfl
theorem wI (l:List Key) (hl:l.length≤1073741824):aq C cc [bV l] (vB (oX l)) []:=by
 have:=yY l hl;rw[tZ];exact this
theorem BX (l:List Key) (hl:l.length≤1073741824) (q:Bool):aq C cc [bV l] (vB q) []↔q=oX l:=zJ (wI l hl)
theorem wJ (l:List Key) (hl:l.length≤1073741824):aq C bZ [bV l] (vB ((iL l.length (eI l)&&decide (l.length≤60)))) []:=by
 refine(B0 _ _ ?_).run
 have key:((List.range' 0 (l.length-0)).all (eI l)&&decide (l.length≤60))=(iL l.length (eI l)&&decide (l.length≤60))→ak C bZ aU 4 0 (dS (l.map bB) ((0:Nat):Int)) (fun u st=>aY C bZ aU u st fun r fs=>r=vB ((iL l.length (eI l)&&decide (l.length≤60)))∧fs=[]):=by
  refine H6 (l.length) (fun i=>((List.range' i (l.length-i)).all (eI l)&&decide (l.length≤60))=(iL l.length (eI l)&&decide (l.length≤60))→ak C bZ aU 4 0 (dS (l.map bB) i) (fun u st=>aY C bZ aU u st fun r fs=>r=vB ((iL l.length (eI l)&&decide (l.length≤60)))∧fs=[])) ?_ ?_
  ·intro h0
   refine qL _ _ _ (aK dK (y8 _ _ _ _ _ ?_));rw[oR] at h0;simp only[List.range'_zero,Aa,fC] at h0;rw[←h0];simp[vj];omega
  ·intro i hi hn h0
   rw[Ei hi,sS] at h0
   have gO:(eI l) i=false→(iL l.length (eI l)&&decide (l.length≤60))=false:=fun e=>by rw[←h0,e];rfl
   have gN:(eI l) i=true→ak C bZ aU 4 0 (dS (l.map bB) ((i:Int)+1)) (fun u st=>aY C bZ aU u st fun r fs=>r=vB ((iL l.length (eI l)&&decide (l.length≤60)))∧fs=[]):=fun e=>hn (by rw[←h0,e];rfl);refine qL _ _ _ (av sP ?_);have ha:l[i]?=some l[i]:=aN hi;simp only[jT,BV,qy,bE,ha,aE,kO,jX,dm,iW,lg,ew,iY,gz,iZ,ja,lu,dP,natAdd,dG,cM,kN,fC,oO];rw[bR aB]
   cases i with
   |zero=>
    have e:eI l 0=cC l[0]:=by simp[eI,Mb,fh,hi]
    simp only[e] at gO gN
    cases h1:cC l[0]<;>simp only[h1,qp,yE,vi,dX,Int.natCast_zero,Int.lt_irrefl,if_false]<;>first|exact gN h1|exact qM _ _ _ _ _ _ (by rw[gO h1];exact uE)
   |succ k=>
    have hk:l[k]?=some l[k]:=aN aB
    have e:eI l (k+1)=(cC l[k+1]&&bn l[k] l[k+1]):=by simp only[eI,Mb,fh,hk,ha]
    simp only[e] at gO gN;rw[iX aB,show((k+1:Nat):Int)-1=(k:Int) by omega];simp only[bE,hk,aE,kO,ew,vi,dX];rw[aO aB]
    cases h1:cC l[k+1]<;>cases h2:bn l[k] l[k+1]<;>simp only[qp,yE]<;>first|exact gN (by rw[h1,h2];rfl)|exact qM _ _ _ _ _ _ (by rw[gO (by rw[h1,h2];rfl)];exact uE)
 exact key rfl
theorem BY (l:List Key) (hl:l.length≤1073741824) (q:Bool):aq C bZ [bV l] (vB q) []↔q=oX l:=zJ (wJ l hl)
theorem vv (n:List (List Key)) (hb:n.length≤1073741824) (hl:tot bF n≤1073741824):aq C cK [di n] (vI (aQ n)) []:=by
 refine(zb _ _ ?_).run
 have key: ∀(c:Nat),c+tot bF (n.drop 0)=aQ n→ak C cK ai 4 0 (eU c ((0:Nat):Int) (n.map bg)) (fun u st=>aY C cK ai u st fun r fs=>r=(vI (aQ n))∧fs=[]):=by
  refine cU n (fun i=> ∀(c:Nat),c+tot bF (n.drop i)=aQ n→ak C cK ai 4 0 (eU c i (n.map bg)) (fun u st=>aY C cK ai u st fun r fs=>r=(vI (aQ n))∧fs=[])) ?_ ?_
  ·intro c h0
   refine nQ _ _ _ _ (aK dK (vD _ _ _ _ _ ?_));rw[lN] at h0;simp only[tot,jF] at h0;rw[h0];exact uE
  ·intro i a hi ha hd ht hn c h0
   refine nQ _ _ _ _ (av sP ?_);rw[hd] at h0;have e5:tot bF (a::n.drop (i+1))=a.length+tot bF (n.drop (i+1)):=rfl;rw[e5] at h0;unfold aQ at h0;simp only[mZ,bE,ha,aE,kO,jX,dm,iW,lg,ew,iY,gz,iZ,ja,lu,dP,natAdd,dG,cM,kN,fC,oO];rw[bR (by simp only[sR];omega),bR aB];exact hn (c+a.length) (by unfold aQ;omega)
 exact key 0 (by simp[aQ])
theorem vw (n:List (List Key)) (hs:tot bF n≤1073741824) (hl:n.length≤1073741824):aq C aC [di n] (vB ((n.all bf&&(decide (n.length≤3)&&decide (aQ n≤8))))) []:=by
 refine(zV _ _ ?_).run
 have key:((n.drop 0).all bf&&(decide (n.length≤3)&&decide (aQ n≤8)))=(n.all bf&&(decide (n.length≤3)&&decide (aQ n≤8)))→ak C aC aU 4 0 (eg ((0:Nat):Int) (n.map bg)) (fun u st=>aY C aC aU u st fun r fs=>r=vB ((n.all bf&&(decide (n.length≤3)&&decide (aQ n≤8))))∧fs=[]):=by
  refine cU n (fun i=>((n.drop i).all bf&&(decide (n.length≤3)&&decide (aQ n≤8)))=(n.all bf&&(decide (n.length≤3)&&decide (aQ n≤8)))→ak C aC aU 4 0 (eg i (n.map bg)) (fun u st=>aY C aC aU u st fun r fs=>r=vB ((n.all bf&&(decide (n.length≤3)&&decide (aQ n≤8))))∧fs=[])) ?_ ?_
  ·intro h0
   refine pQ _ _ _ (aK dK (w6 _ _ _ _ ?_));rw[lN] at h0;simp only[Aa,fC] at h0;rw[←h0];simp only[vj,dG,sR,dX]
   by_cases h3:n.length≤3
   ·rw[aO aB]
    refine⟨_,vv n hl hs,?_⟩;simp[h3];omega
   ·rw[aD aB]
    simp[h3]
  ·intro i a hi ha hd J5 hn h0
   have gO:bf a=false→(n.all bf&&(decide (n.length≤3)&&decide (aQ n≤8)))=false:=fun e=>by rw[←h0,hd];simp[e]
   have gN:bf a=true→ak C aC aU 4 0 (eg ((i:Int)+1) (n.map bg)) (fun u st=>aY C aC aU u st fun r fs=>r=vB ((n.all bf&&(decide (n.length≤3)&&decide (aQ n≤8))))∧fs=[]):=fun e=>hn (by rw[←h0,hd];simp[e]);refine pQ _ _ _ (av sP ?_);have hz:a.length≤tot bF n:=BN (w:=bF) ha;have hh: ∀q,aq C cc [bV a] (vB q) []↔q=oX a:=fun q=>BX a aB q;simp only[mZ,hh,gx,sR,dX,bE,ha,aE,kO,jX,dm,iW,lg,ew,iY,gz,iZ,ja,lu,dP,natAdd,dG,cM,kN,fC,oO]
   rw[bR aB]
   cases h1:oX a<;>by_cases h2:a.length=0<;>simp only[qp,yE]<;>first|(rw[aO aB];exact pR _ _ (by rw[gO (by simp[bf,h1,h2])];exact uE))|(rw[aD aB];exact gN (by simp[bf,h1,h2]))|exact pR _ _ (by rw[gO (by simp[bf,h1,h2])];exact uE)
 exact key rfl
theorem o6 (n:List (List Key)) (hb:n.length≤1073741824) (hl:tot bF n≤1073741824):aq C aC [di n] (vB (bO n)) []:=by
 have:=vw n hl hb;rw[AS];exact this
theorem vz (n:List (List Key)) (hb:n.length≤1073741824) (hl:tot bF n≤1073741824):aq C az [di n] (vB (n.all bf&&(decide (n.length≤3)&&decide (aQ n≤8)))) []:=by
 refine(zZ _ _ ?_).run
 have key: ∀(c:Nat),c+tot bF (n.drop 0)=aQ n→((n.drop 0).all bf&&(decide (n.length≤3)&&decide (aQ n≤8)))=(n.all bf&&(decide (n.length≤3)&&decide (aQ n≤8)))→ak C az ai 4 0 (fG c (n.map bg) ((0:Nat):Int)) (fun u st=>aY C az ai u st fun r fs=>r=(vB (n.all bf&&(decide (n.length≤3)&&decide (aQ n≤8))))∧fs=[]):=by
  refine cU n (fun i=> ∀(c:Nat),c+tot bF (n.drop i)=aQ n→((n.drop i).all bf&&(decide (n.length≤3)&&decide (aQ n≤8)))=(n.all bf&&(decide (n.length≤3)&&decide (aQ n≤8)))→ak C az ai 4 0 (fG c (n.map bg) i) (fun u st=>aY C az ai u st fun r fs=>r=(vB (n.all bf&&(decide (n.length≤3)&&decide (aQ n≤8))))∧fs=[])) ?_ ?_
  ·intro c h0 h1
   refine pT _ _ _ _ (aK dK (xb _ _ _ _ _ _ ?_));rw[lN] at h0 h1;simp only[tot,jF] at h0;simp only[Aa,fC] at h1;rw[←h1];simp only[vj,dG,sR,dX]
   by_cases h3:n.length≤3
   ·rw[aO aB]
    simp[h3];omega
   ·rw[aD aB]
    simp[h3]
  ·intro i a hi ha hd ht hn c h0 h1
   refine pT _ _ _ _ (av sP ?_);have hz:a.length≤tot bF n:=BN (w:=bF) ha;have hh: ∀q,aq C bZ [bV a] (vB q) []↔q=oX a:=fun q=>BY a aB q;rw[hd] at h0 h1;have e5:tot bF (a::n.drop (i+1))=a.length+tot bF (n.drop (i+1)):=rfl;rw[e5] at h0;unfold aQ at h0;have hO:bf a=false→aY C az ai TX.ret (ir (n.map bg)) (fun r fs=>r=vB (n.all bf&&(decide (n.length≤3)&&decide (aQ n≤8)))∧fs=[]):=fun e=>w9 _ _ (by rw[←h1];simp only[sS,e];exact uE)
   simp only[mZ,hh,gx,sR,dX,bE,ha,aE,kO,jX,dm,iW,lg,ew,iY,gz,iZ,ja,lu,dP,natAdd,dG,cM,kN,fC,oO];rw[bR aB,bR aB]
   cases h2:oX a<;>by_cases h3:a.length=0<;>simp only[qp,yE]
   ·exact hO (by simp[bf,h2])
   ·exact hO (by simp[bf,h2])
   ·rw[aO aB];exact hO (by simp[bf,h3])
   ·rw[aD aB]
    exact hn (c+a.length) (by unfold aQ;omega) (by rw[←h1];simp[bf,h2,h3])
 exact key 0 (by simp[aQ]) rfl
theorem ie (n:List (List Key)) (hb:n.length≤1073741824) (hl:tot bF n≤1073741824):aq C az [di n] (vB (bO n)) []:=by
 have:=vz n hb hl;rw[AS];exact this
theorem yZ (l:List Key) (b a:Int) (hl:l.length≤1073741824):aq C cV [bV l,vI b,vI a] (IP (oF l b a)) []:=by
 refine(B3 _ _ _ _ ?_).run
 have key:setAt (l.drop 0) b a=setAt l b a→ak C cV aU 4 0 (eW (l.map bB) b a ((0:Nat):Int)) (fun u st=>aY C cV aU u st fun r fs=>r=(IP (oF l b a))∧fs=[]):=by
  refine cU l (fun i=>setAt (l.drop i) b a=setAt l b a→ak C cV aU 4 0 (eW (l.map bB) b a i) (fun u st=>aY C cV aU u st fun r fs=>r=(IP (oF l b a))∧fs=[])) ?_ ?_
  ·intro h0
   rw[lN] at h0;refine qP _ _ _ _ _ (aK dK (ze _ _ _ _ _ _ ⟨?_,by trivial⟩));unfold oF;rw[←h0];rfl
  ·intro i x hi hx hd J5 hn h0
   rw[hd] at h0;simp only[setAt,List.find?_cons] at h0;refine qP _ _ _ _ _ (av sP ?_);simp only[jT,bE,hx,aE,kO,gx,dX];rw[bR aB]
   by_cases h1:x.b=b
   ·rw[aO h1]
    by_cases h2:x.a=a
    ·rw[aO h2]
     rw[Gv ⟨h1,h2⟩] at h0;refine zd _ _ _ _ _ _ ⟨?_,by trivial⟩;unfold oF setAt;rw[←h0]
    ·rw[aD h2]
     rw[xH (fun h=>h2 h.2)] at h0;exact hn h0
   ·rw[aD h1]
    rw[xH (fun h=>h1 h.1)] at h0;exact hn h0
 exact key rfl
theorem qA (l:List Key) (b a:Int) (hl:l.length≤1073741824):aq C cu [bV l,vI b,vI a] (IP (oF l b a)) []:=by
 refine(B5 _ _ _ _ ?_).run
 have key:setAt (l.drop 0) b a=setAt l b a→ak C cu aU 4 0 (eY b a (l.map bB) ((0:Nat):Int)) (fun u st=>aY C cu aU u st fun r fs=>r=(IP (oF l b a))∧fs=[]):=by
  refine cU l (fun i=>setAt (l.drop i) b a=setAt l b a→ak C cu aU 4 0 (eY b a (l.map bB) i) (fun u st=>aY C cu aU u st fun r fs=>r=(IP (oF l b a))∧fs=[])) ?_ ?_
  ·intro h0
   rw[lN] at h0;refine qS _ _ _ _ _ (aK dK (zk _ _ _ _ _ _ _ ⟨?_,by trivial⟩));unfold oF;rw[←h0];rfl
  ·intro i x hi hx hd J5 hn h0
   rw[hd] at h0;simp only[setAt,List.find?_cons] at h0;refine qS _ _ _ _ _ (av sP ?_);simp only[jT,bE,hx,aE,kO,gx,dX];rw[bR aB]
   by_cases h1:x.b=b
   ·rw[aO h1]
    by_cases h2:x.a=a
    ·rw[aO h2]
     rw[Gv ⟨h1,h2⟩] at h0;refine zj _ _ _ _ _ _ ⟨?_,by trivial⟩;unfold oF setAt;rw[←h0]
    ·rw[aD h2]
     rw[xH (fun h=>h2 h.2)] at h0;exact hn h0
   ·rw[aD h1]
    rw[xH (fun h=>h1 h.1)] at h0;exact hn h0
 exact key rfl
theorem o7 (n:List (List Key)) (b a:Int) (hl:n.length≤1073741824) (hs: ∀s∈n,s.length≤1073741824):aq C bG [di n,vI b,vI a] (IP (dF n b a n.length)) []:=by
 refine(zS _ _ _ _ ?_).run
 have key: ∀k:Nat,k≤n.length→dF n b a k=dF n b a n.length→ak C bG aU 4 0 (iq b a ((k:Int)-1) (n.map bg)) (fun u st=>aY C bG aU u st fun r fs=>r=(IP (dF n b a n.length))∧fs=[]):=by
  intro k
  induction k with
  |zero=>
   intro _ hk;refine pP _ _ _ _ _ (aK dK (wY _ _ _ _ _ _ ⟨?_,by trivial⟩));rw[←hk];rfl
  |succ k ih=>
   intro hle hk;have hx:n[k]?=some n[k]:=aN aB;rw[show((k+1:Nat):Int)-1=(k:Int) by omega];have Qh:=hs n[k] (p0 aB);generalize n[k]=s at hx Qh;simp only[dF,hx] at hk;refine pP _ _ _ _ _ (av dK ?_);simp only[mZ,bE,hx,aE,kO];rw[iX aB];refine⟨_,_,_,_,_,_,qA s b a Qh,?_⟩
   cases h2:(oF s b a).2 with
   |false=>
    rw[h2] at hk;exact av rfl (ih aB (by simpa using hk))
   |true=>
    rw[h2] at hk;simp only[if_true] at hk;refine aK rfl ?_
    by_cases h3:(oF s b a).1.k=0
    ·refine av (by simp[h3]) (wW _ _ _ _ _ _ _ _ ⟨?_,by trivial⟩)
     rw[aO h3] at hk;rw[←hk];rfl
    ·refine aK (by simp[h3]) (wX _ _ _ _ _ _ _ ⟨?_,by trivial⟩)
     rw[aD h3] at hk;rw[←hk,←h2]
 rw[dG,show dy (Int.ofNat n.length) 1=(n.length:Int)-1 from iX sP];exact key n.length (bH _) rfl
theorem uk (n:List (List Key)) (hl:n.length≤1073741824) (hs: ∀s∈n,s.length≤1073741824):aq C au [di n] (di n) []:=by
 refine(w4 _ _ ?_).run
 skip
 have key:((0:Nat)=0→ak C au ai 4 0 (ga (n.map bg)) (fun u st=>aY C au ai u st fun r fs=>r=(di n)∧fs=[]))∧(0<(0:Nat)→ak C au ai 4 0 (eC (n.map bg) ((0:Nat):Int) ((n.take 0).map bg)) (fun u st=>aY C au ai u st fun r fs=>r=(di n)∧fs=[])):=by
  refine cU n (fun i=>(i=0→ak C au ai 4 0 (ga (n.map bg)) (fun u st=>aY C au ai u st fun r fs=>r=(di n)∧fs=[]))∧(0<i→ak C au ai 4 0 (eC (n.map bg) i ((n.take i).map bg)) (fun u st=>aY C au ai u st fun r fs=>r=(di n)∧fs=[]))) ?_ ?_
  ·refine⟨fun h=> ?_,fun h=> ?_⟩
   ·have hnil:n=[]:=List.length_eq_zero_iff.1 h
    refine mN _ _ (aK (by simp[h]) (uB _ _ _ _ ⟨?_,by trivial⟩));simp[hnil]
   ·rw[Gu]
    exact mO _ _ _ _ (aK dK (uC _ _ _ _ _ _ uE))
  ·intro i a hi ha hd J5 hn
   have hmem:=c7 ha;refine⟨fun h=> ?_,fun h=> ?_⟩
   ·subst h
    have hz:jL n 0=some a:=(bE n 0).trans ha;have hn2:=hn.2 aB;rw[J5] at hn2;refine mN _ _ (av sP ?_);simp only[mZ,hz,aE,kO];refine⟨_,ey a (by have:=hs a hmem;omega),av (jb (by simp;try omega)) ?_⟩;rw[bR aB];exact hn2
   ·have hn2:=hn.2 aB
    rw[J5] at hn2;refine mO _ _ _ _ (av sP ?_);simp only[mZ,bE,ha,aE,kO];refine⟨_,ey a (by have:=hs a hmem;omega),av (jb (by simp;try omega)) ?_⟩;rw[bR aB];rw[xD] at hn2;exact hn2
 exact key.1 rfl
theorem wK (n:List (List Key)) (hl:n.length≤1073741824) (hs: ∀s∈n,s.length≤1073741824):aq C aA [di n] (di n) []:=by
 refine(zQ _ _ ?_).run
 skip
 have key:((0:Nat)=0→ak C aA ai 4 0 (ij (n.map bg)) (fun u st=>aY C aA ai u st fun r fs=>r=(di n)∧fs=[]))∧(0<(0:Nat)→ak C aA ai 4 0 (fF ((0:Nat):Int) (n.map bg) ((n.take 0).map bg)) (fun u st=>aY C aA ai u st fun r fs=>r=(di n)∧fs=[])):=by
  refine cU n (fun i=>(i=0→ak C aA ai 4 0 (ij (n.map bg)) (fun u st=>aY C aA ai u st fun r fs=>r=(di n)∧fs=[]))∧(0<i→ak C aA ai 4 0 (fF i (n.map bg) ((n.take i).map bg)) (fun u st=>aY C aA ai u st fun r fs=>r=(di n)∧fs=[]))) ?_ ?_
  ·refine⟨fun h=> ?_,fun h=> ?_⟩
   ·have hnil:n=[]:=List.length_eq_zero_iff.1 h
    refine pN _ _ (aK (by simp[h]) (wS _ _ _ ⟨?_,by trivial⟩));simp[hnil]
   ·rw[Gu]
    exact pO _ _ _ _ (aK dK (wT _ _ _ _ _ uE))
  ·intro i a hi ha hd J5 hn
   have hmem:=c7 ha;refine⟨fun h=> ?_,fun h=> ?_⟩
   ·subst h
    have hz:jL n 0=some a:=(bE n 0).trans ha;have hn2:=hn.2 aB;rw[J5] at hn2;refine pN _ _ (av sP ?_);simp only[mZ,hz,aE,kO];have hsa:=hs a hmem;refine av (by rw[show cT (a.map bB)=true from jy _,jb sP];rfl) (av (jb (by simp;try omega)) ?_);rw[bR aB];exact hn2
   ·have hn2:=hn.2 aB
    rw[J5] at hn2;refine pO _ _ _ _ (av sP ?_);simp only[mZ,bE,ha,aE,kO];have hsa:=hs a hmem;refine av (by rw[show cT (a.map bB)=true from jy _,jb sP];rfl) (av (jb (by simp;try omega)) ?_);rw[bR aB];rw[xD] at hn2;exact hn2
 exact key.1 rfl
theorem vA (l:List Key) (hl:l.length≤1073741824):aq C cJ [bV l] (di (newNode l)) []:=by
 refine(qO _ _ ?_).run;unfold newNode
 by_cases h:l.length=0
 ·exact av (by simp[h]) ⟨by rw[aO h];rfl,by trivial⟩
 ·refine aK (by rw[dG,sR,gx];exact xH aB) ?_
  exact⟨_,ey l aB,⟨by rw[aD h];rfl,by trivial⟩⟩
theorem um (n:List (List Key)) (hb:n.length≤1073741824) (hl:tot bF n≤1073741824):aq C m8 [di n] (di (lz n)) []:=by
 have h1:=fy n;exact(wN _ _ ⟨_,(o5 n hb hl _).2 rfl,_,vA (ax n) aB,uE⟩).run
theorem mB (l:List Key) (hl:l.length≤1073741824):aq C bA [bV l] (di (cH l)) []:=by
 refine(zc _ _ ?_).run;unfold cH
 by_cases h:l.length=0
 ·exact av (by simp[h]) ⟨by rw[aO h];rfl,rfl⟩
 ·refine aK (by rw[dG,sR,gx];exact xH aB) ?_
  rw[show cT (l.map bB)=true from jy _,jb sP];exact⟨by rw[aD h];rfl,rfl⟩
theorem uo (l:List Key) (hl:l.length≤1073741824):aq C cJ [bV l] (di (cH l)) []:=by
 refine(qO _ _ ?_).run;unfold cH
 by_cases h:l.length=0
 ·exact av (by simp[h]) ⟨by rw[aO h];rfl,rfl⟩
 ·refine aK (by rw[dG,sR,gx];exact xH aB) ?_
  exact⟨_,ey l aB,⟨by rw[aD h];rfl,rfl⟩⟩
theorem uq (n:List (List Key)) (k:Key) (hb:n.length≤1073740000) (hl:tot bF n≤1073740000):aq C cS [di n,tW k] (bV (bu n k)) []:=by
 have h1:=fy n;have h2:=gy (ax n) k;exact(xd _ _ _ _ _ _ _ ⟨_,(o5 n aB aB _).2 rfl,_,ic (ax n) k aB,_,rY (bT (ax n) k) aB,uE⟩).run
theorem vC (n:List (List Key)) (k:Key) (hb:n.length≤1073740000) (hl:tot bF n≤1073740000):aq C oI [di n,tW k] (Ge (bU n k)) []:=by
 have hs: ∀s∈n,s.length≤1073741824:=fun s hm=>by have:=tX (w:=bF) hm;unfold bF at this hl;omega
 have JZ:=uk n aB hs;have PC:=yL n k;have PD:=yM n k
 have tail: ∀(X:List (List Key)) (Q:QV),X=c6 n k→Q (Ge (bU n k)) []→ ∃(b18:Bool),aq C az ([TV.ag [TC.sub 1 (X.map bg)]]) (TV.c (iB b18)) []∧(aX b18 (Q (TV.tu [(1,[TC.sub 1 (X.map bg)]),(0,[iB true])]) ([])) (∃(l19:RR),aq C cS ([TV.ag [TC.sub 1 (n.map bg)],tW k]) (TV.c (TC.sub 5 l19)) []∧(∃(l20:RR),aq C cJ ([TV.c (TC.sub 5 l19)]) (TV.ag [TC.sub 1 l20]) []∧(aX (eD 8 (Int.ofNat (List.length l19))) (∃(l21:RR),aq C au ([TV.ag [TC.sub 1 (n.map bg)]]) (TV.ag [TC.sub 1 l21]) []∧(Q (TV.tu [(1,[TC.sub 1 l21]),(0,[iB false])]) ([]))) (∃(b22:Bool),aq C az ([TV.ag [TC.sub 1 l20]]) (TV.c (iB b22)) []∧(aX (!b22) (∃(l23:RR),aq C au ([TV.ag [TC.sub 1 (n.map bg)]]) (TV.ag [TC.sub 1 l23]) []∧(Q (TV.tu [(1,[TC.sub 1 l23]),(0,[iB false])]) ([]))) (Q (TV.tu [(1,[TC.sub 1 l20]),(0,[iB true])]) ([])))))))):=by
  intro X Q hX hQ;rw[←hX] at PC PD;have hok:aq C az [di X] (vB (bO X)) []:=ie X aB aB;have hkl:=uc n k;have hnl:=qu (bu n k);have hnt:=wq (bu n k);have LY:aq C az [di (cH (bu n k))] (vB (bO (cH (bu n k)))) []:=ie _ aB aB;refine⟨_,hok,?_⟩;unfold bU at hQ;rw[←hX] at hQ
  cases h1:bO X with
  |true=>
   rw[aO h1] at hQ;exact av rfl hQ
  |false=>
   rw[aD (by rw[h1];simp)] at hQ;refine aK rfl ⟨_,uq n k aB aB,_,uo (bu n k) aB,?_⟩
   by_cases h2:8<(bu n k).length
   ·rw[aO h2] at hQ
    exact av nV ⟨_,JZ,hQ⟩
   ·rw[aD h2] at hQ
    refine aK nV ⟨_,LY,?_⟩
    cases h3:bO (cH (bu n k)) with
    |true=>
     rw[aO h3] at hQ;exact aK rfl hQ
    |false=>
     rw[aD (by rw[h3];simp)] at hQ;exact av rfl ⟨_,JZ,hQ⟩
 refine(zh _ _ _ _ _ _ _ ⟨_,JZ,?_⟩).run
 (try dsimp only)
 rw[dG]
 cases hD:n[n.length-1]? with
 |none=>
  have h0:n.length=0:=Classical.byContradiction fun h=>by rw[aN aB] at hD;cases hD
  have hX:n++[[k]]=c6 n k:=by unfold c6;rw[hD]
  refine aK (by rw[h0,iX dK];simp) ((av (jb nV) ?_));rw[show List.append (n.map bg) [[TC.sub 5 [[iI k.b,iI k.a,iI k.k,iI k.c,iI k.g]]]]=(n++[[k]]).map bg from by simp[bg,bB]];exact tail _ (fun r fs=>r=Ge (bU n k)∧fs=[]) hX uE
 |some s=>
  have hlt:=(List.getElem?_eq_some_iff.1 hD).1
  have hsub:dy (Int.ofNat n.length) 1=((n.length-1:Nat):Int):=by rw[iX nV];simp;omega
  have hrow:rowAt (n.map bg) ((n.length-1:Nat):Int)=some [TC.sub 5 (s.map bB)]:=by rw[bS,bE,hD];rfl
  have IY:=hs s (c7 hD);have pY:setRow (n.map bg) ((n.length-1:Nat):Int) 0 [TC.sub 5 ((bT s k).map bB)]=(n.set (n.length-1) (bT s k)).map bg:=yF (a:=s) (a':=bT s k) hD rfl
  have LZ:List.append (n.map bg) [[TC.sub 5 [[iI k.b,iI k.a,iI k.k,iI k.c,iI k.g]]]]=(n++[[k]]).map bg:=by simp[bg,bB]
  have hfit:fits (Nat.succ n.length) 24=true:=jb nV;rw[hsub];refine av dK ⟨_,hrow,?_⟩
  have key: ∀Q:QV,Q (Ge (bU n k)) []→ ∃(n8:Int) (n9:Int) (n10:Int) (n11:Int) (n12:Int) (b13:Bool),aq C cu ([TV.c (TC.sub 5 (s.map bB)),TV.c (iI k.b),TV.c (iI k.a)]) (TV.tu [(1,[iI n8,iI n9,iI n10,iI n11,iI n12]),(0,[iB b13])]) []∧(aX b13 (∃(l14:RR),rowAt (n.map bg) ((n.length-1:Nat):Int)=some [TC.sub 5 l14]∧(∃(l15:RR),aq C aZ ([TV.c (TC.sub 5 l14),tW k]) (TV.c (TC.sub 5 l15)) []∧(∃(l16:RR),rowAt (n.map bg) ((n.length-1:Nat):Int)=some [TC.sub 5 l16]∧(∃(l17:RR),rowAt (n.map bg) ((n.length-1:Nat):Int)=some [TC.sub 5 l17]∧(∃(b18:Bool),aq C az ([TV.ag [TC.sub 1 (setRow (n.map bg) ((n.length-1:Nat):Int) 0 [TC.sub 5 l15])]]) (TV.c (iB b18)) []∧(aX b18 (Q (TV.tu [(1,[TC.sub 1 (setRow (n.map bg) ((n.length-1:Nat):Int) 0 [TC.sub 5 l15])]),(0,[iB true])]) ([])) (∃(l19:RR),aq C cS ([TV.ag [TC.sub 1 (n.map bg)],tW k]) (TV.c (TC.sub 5 l19)) []∧(∃(l20:RR),aq C cJ ([TV.c (TC.sub 5 l19)]) (TV.ag [TC.sub 1 l20]) []∧(aX (eD 8 (Int.ofNat (List.length l19))) (∃(l21:RR),aq C au ([TV.ag [TC.sub 1 (n.map bg)]]) (TV.ag [TC.sub 1 l21]) []∧(Q (TV.tu [(1,[TC.sub 1 l21]),(0,[iB false])]) ([]))) (∃(b22:Bool),aq C az ([TV.ag [TC.sub 1 l20]]) (TV.c (iB b22)) []∧(aX (!b22) (∃(l23:RR),aq C au ([TV.ag [TC.sub 1 (n.map bg)]]) (TV.ag [TC.sub 1 l23]) []∧(Q (TV.tu [(1,[TC.sub 1 l23]),(0,[iB false])]) ([]))) (Q (TV.tu [(1,[TC.sub 1 l20]),(0,[iB true])]) ([])))))))))))))
   (∃(l24:RR),rowAt (n.map bg) ((n.length-1:Nat):Int)=some [TC.sub 5 l24]∧(aX (eD (Int.ofNat (List.length l24)) 4) (∃(l25:RR),rowAt (n.map bg) ((n.length-1:Nat):Int)=some [TC.sub 5 l25]∧(∃(l26:RR),aq C aZ ([TV.c (TC.sub 5 l25),tW k]) (TV.c (TC.sub 5 l26)) []∧(∃(l27:RR),rowAt (n.map bg) ((n.length-1:Nat):Int)=some [TC.sub 5 l27]∧(∃(l28:RR),rowAt (n.map bg) ((n.length-1:Nat):Int)=some [TC.sub 5 l28]∧(∃(b18:Bool),aq C az ([TV.ag [TC.sub 1 (setRow (n.map bg) ((n.length-1:Nat):Int) 0 [TC.sub 5 l26])]]) (TV.c (iB b18)) []∧(aX b18 (Q (TV.tu [(1,[TC.sub 1 (setRow (n.map bg) ((n.length-1:Nat):Int) 0 [TC.sub 5 l26])]),(0,[iB true])]) ([])) (∃(l19:RR),aq C cS ([TV.ag [TC.sub 1 (n.map bg)],tW k]) (TV.c (TC.sub 5 l19)) []∧(∃(l20:RR),aq C cJ ([TV.c (TC.sub 5 l19)]) (TV.ag [TC.sub 1 l20]) []∧(aX (eD 8 (Int.ofNat (List.length l19))) (∃(l21:RR),aq C au ([TV.ag [TC.sub 1 (n.map bg)]]) (TV.ag [TC.sub 1 l21]) []∧(Q (TV.tu [(1,[TC.sub 1 l21]),(0,[iB false])]) ([]))) (∃(b22:Bool),aq C az ([TV.ag [TC.sub 1 l20]]) (TV.c (iB b22)) []∧(aX (!b22) (∃(l23:RR),aq C au ([TV.ag [TC.sub 1 (n.map bg)]]) (TV.ag [TC.sub 1 l23]) []∧(Q (TV.tu [(1,[TC.sub 1 l23]),(0,[iB false])]) ([]))) (Q (TV.tu [(1,[TC.sub 1 l20]),(0,[iB true])]) ([]))))))))))))) (aX (fits (Nat.succ (List.length n)) 24) (∃(b18:Bool),aq C az ([TV.ag [TC.sub 1 (List.append (n.map bg) [[TC.sub 5 [[iI k.b,iI k.a,iI k.k,iI k.c,iI k.g]]]])]]) (TV.c (iB b18)) []∧(aX b18 (Q (TV.tu [(1,[TC.sub 1 (List.append (n.map bg) [[TC.sub 5 [[iI k.b,iI k.a,iI k.k,iI k.c,iI k.g]]]])]),(0,[iB true])]) ([])) (∃(l19:RR),aq C cS ([TV.ag [TC.sub 1 (n.map bg)],tW k]) (TV.c (TC.sub 5 l19)) []∧(∃(l20:RR),aq C cJ ([TV.c (TC.sub 5 l19)]) (TV.ag [TC.sub 1 l20]) []∧(aX (eD 8 (Int.ofNat (List.length l19))) (∃(l21:RR),aq C au ([TV.ag [TC.sub 1 (n.map bg)]]) (TV.ag [TC.sub 1 l21]) []∧(Q (TV.tu [(1,[TC.sub 1 l21]),(0,[iB false])]) ([]))) (∃(b22:Bool),aq C az ([TV.ag [TC.sub 1 l20]]) (TV.c (iB b22)) []∧(aX (!b22) (∃(l23:RR),aq C au ([TV.ag [TC.sub 1 (n.map bg)]]) (TV.ag [TC.sub 1 l23]) []∧(Q (TV.tu [(1,[TC.sub 1 l23]),(0,[iB false])]) ([]))) (Q (TV.tu [(1,[TC.sub 1 l20]),(0,[iB true])]) ([]))))))))) (False))))):=by
   intro Q hQ;refine⟨_,_,_,_,_,_,qA s k.b k.a IY,?_⟩
   cases h1:(oF s k.b k.a).2 with
   |true=>
    have hX:n.set (n.length-1) (bT s k)=c6 n k:=by unfold c6 sE;rw[hD];simp[h1]
    refine av rfl ⟨_,hrow,_,ic s k IY,_,hrow,_,hrow,?_⟩;rw[pY];exact tail _ _ hX hQ
   |false=>
    refine aK rfl ⟨_,hrow,?_⟩
    by_cases h2:s.length<4
    ·have hX:n.set (n.length-1) (bT s k)=c6 n k:=by unfold c6 sE;rw[hD];simp[h1,h2]
     refine av nV ⟨_,hrow,_,ic s k IY,_,hrow,_,hrow,?_⟩;rw[pY];exact tail _ _ hX hQ
    ·have hX:n++[[k]]=c6 n k:=by unfold c6 sE;rw[hD];simp[h1,h2]
     refine aK nV (av hfit ?_);rw[LZ];exact tail _ _ hX hQ
  exact⟨(Ge (bU n k),[]),key (fun a b=>(a,b)=(Ge (bU n k),([]:List TV))) rfl,key (fun a b=>(a,b)=(Ge (bU n k),([]:List TV))) rfl,⟨rfl,rfl⟩⟩
theorem nJ (n:List (List Key)) (k:Key) (hb:n.length≤1073740000) (hl:tot bF n≤1073740000):aq C kC [di n,tW k] (Ge (bU n k)) []:=by
 have hs: ∀s∈n,s.length≤1073741824:=fun s hm=>by have:=tX (w:=bF) hm;unfold bF at this hl;omega
 have JZ:=wK n aB hs;have PC:=yL n k;have PD:=yM n k
 have tail: ∀(X:List (List Key)) (Q:QV),X=c6 n k→Q (Ge (bU n k)) []→ ∃(b22:Bool),aq C aC ([TV.ag [TC.sub 1 (X.map bg)]]) (TV.c (iB b22)) []∧(aX b22 (Q (TV.tu [(1,[TC.sub 1 (X.map bg)]),(0,[iB true])]) ([])) (∃(l23:RR),aq C aT ([TV.ag [TC.sub 1 (n.map bg)]]) (TV.c (TC.sub 5 l23)) []∧(∃(l24:RR),aq C aJ ([TV.c (TC.sub 5 l23),tW k]) (TV.c (TC.sub 5 l24)) []∧(∃(l25:RR),aq C bY ([TV.c (TC.sub 5 l24)]) (TV.c (TC.sub 5 l25)) []∧(aX (eD 8 (Int.ofNat (List.length l25))) (∃(l26:RR),aq C aA ([TV.ag [TC.sub 1 (n.map bg)]]) (TV.ag [TC.sub 1 l26]) []∧(Q (TV.tu [(1,[TC.sub 1 l26]),(0,[iB false])]) ([]))) (∃(l27:RR),aq C bA ([TV.c (TC.sub 5 l25)]) (TV.ag [TC.sub 1 l27]) []∧(∃(b28:Bool),aq C aC ([TV.ag [TC.sub 1 l27]]) (TV.c (iB b28)) []∧(aX (!b28) (∃(l29:RR),aq C aA ([TV.ag [TC.sub 1 (n.map bg)]]) (TV.ag [TC.sub 1 l29]) []∧(Q (TV.tu [(1,[TC.sub 1 l29]),(0,[iB false])]) ([]))) (∃(l30:RR),aq C bA ([TV.c (TC.sub 5 l25)]) (TV.ag [TC.sub 1 l30]) []∧(Q (TV.tu [(1,[TC.sub 1 l30]),(0,[iB true])]) ([]))))))))))):=by
  intro X Q hX hQ;rw[←hX] at PC PD;have hok:aq C aC [di X] (vB (bO X)) []:=o6 X aB aB;have hkl:=uc n k;have hnl:=qu (bu n k);have hnt:=wq (bu n k);have LY:aq C aC [di (cH (bu n k))] (vB (bO (cH (bu n k)))) []:=o6 _ aB aB;refine⟨_,hok,?_⟩;unfold bU at hQ;rw[←hX] at hQ
  cases h1:bO X with
  |true=>
   rw[aO h1] at hQ;exact av rfl hQ
  |false=>
   rw[aD (by rw[h1];simp)] at hQ;have g1:=fy n;have g2:=gy (ax n) k;refine aK rfl ⟨_,(wH n aB aB _).2 rfl,_,ia (ax n) k aB,_,rX (bT (ax n) k) aB,?_⟩;change aX (eD 8 (Int.ofNat (List.length ((bu n k).map bB)))) _ _
   by_cases h2:8<(bu n k).length
   ·rw[aO h2] at hQ
    exact av nV ⟨_,JZ,hQ⟩
   ·rw[aD h2] at hQ
    refine aK nV ⟨_,mB (bu n k) aB,_,LY,?_⟩
    cases h3:bO (cH (bu n k)) with
    |true=>
     rw[aO h3] at hQ;exact aK rfl ⟨_,mB (bu n k) aB,hQ⟩
    |false=>
     rw[aD (by rw[h3];simp)] at hQ;exact av rfl ⟨_,JZ,hQ⟩
 refine(y6 _ _ _ _ _ _ _ ⟨_,JZ,?_⟩).run
 (try dsimp only)
 rw[dG]
 cases hD:n[n.length-1]? with
 |none=>
  have h0:n.length=0:=Classical.byContradiction fun h=>by rw[aN aB] at hD;cases hD
  have hX:n++[[k]]=c6 n k:=by unfold c6;rw[hD]
  refine aK (by rw[h0,iX dK];simp) (aK (by rw[h0,iX dK];simp) (av (jb nV) ?_));rw[show List.append (n.map bg) [[TC.sub 5 [[iI k.b,iI k.a,iI k.k,iI k.c,iI k.g]]]]=(n++[[k]]).map bg from by simp[bg,bB]];exact tail _ (fun r fs=>r=Ge (bU n k)∧fs=[]) hX uE
 |some s=>
  have hlt:=(List.getElem?_eq_some_iff.1 hD).1
  have hsub:dy (Int.ofNat n.length) 1=((n.length-1:Nat):Int):=by rw[iX nV];simp;omega
  have hrow:rowAt (n.map bg) ((n.length-1:Nat):Int)=some [TC.sub 5 (s.map bB)]:=by rw[bS,bE,hD];rfl
  have IY:=hs s (c7 hD);have pY:setRow (n.map bg) ((n.length-1:Nat):Int) 0 [TC.sub 5 ((bT s k).map bB)]=(n.set (n.length-1) (bT s k)).map bg:=yF (a:=s) (a':=bT s k) hD rfl
  have LZ:List.append (n.map bg) [[TC.sub 5 [[iI k.b,iI k.a,iI k.k,iI k.c,iI k.g]]]]=(n++[[k]]).map bg:=by simp[bg,bB]
  have hfit:fits (Nat.succ n.length) 24=true:=jb nV;rw[hsub];refine av dK ⟨_,hrow,_,hrow,_,_,_,_,_,_,yZ s k.b k.a IY,av dK ⟨_,hrow,_,hrow,?_⟩⟩
  by_cases h2:s.length<4
  ·have hX:n.set (n.length-1) (bT s k)=c6 n k:=by unfold c6 sE;rw[hD];simp[h2]
   refine av nV ⟨_,hrow,_,hrow,_,ia s k IY,_,hrow,_,hrow,?_⟩;rw[pY];exact tail _ (fun r fs=>r=Ge (bU n k)∧fs=[]) hX uE
  ·refine aK nV ?_
   cases h1:(oF s k.b k.a).2 with
   |true=>
    have hX:n.set (n.length-1) (bT s k)=c6 n k:=by unfold c6 sE;rw[hD];simp[h1]
    refine av rfl ⟨_,hrow,_,hrow,_,ia s k IY,_,hrow,_,hrow,?_⟩;rw[pY];exact tail _ (fun r fs=>r=Ge (bU n k)∧fs=[]) hX uE
   |false=>
    have hX:n++[[k]]=c6 n k:=by unfold c6 sE;rw[hD];simp[h1,h2]
    refine aK rfl (av hfit ?_);rw[LZ];exact tail _ (fun r fs=>r=Ge (bU n k)∧fs=[]) hX uE
attribute [local semireducible] dL cF in
theorem Md {rows:RR} {i c:Nat} (hk:i+c≤rows.length):cF (dL 1 rows 0 (i:Int)) ((i:Int)+(c:Int)) (Int.ofNat rows.length)=rows.drop (i+c):=by
 unfold cF dL;rw[Gs,show((i:Int)+(c:Int)).toNat=i+c from by omega,show(0:Int).toNat=0 from rfl,show(Int.ofNat rows.length).toNat=rows.length from rfl,List.take_zero,lO,Nat.sub_zero];rw[J6 nV,List.drop_append,List.length_replicate,vP dK,lO,List.drop_drop]
 congr 1;omega
theorem JO (b:List Int) (hb:b.length≤1048576):cN C dQ [yI b] (fun r fs=>fs=[]∧ ∃h,r=BO b 0 h):=by
 refine B4 _ _ ?_
 have key: ∀(d i:Nat) (h:Int),i+d=4000→ak C dQ ai 4 0 (jd (b.map gR) h (i:Int)) (fun x st=>aY C dQ ai x st fun r fs=>fs=[]∧ ∃h,r=BO b 0 h):=by
  intro d
  induction d with
  |zero=>
   intro i h hd;refine qQ _ _ _ _ ?_
   by_cases h1:(i:Int)<(b.length:Int)
   ·exact av nV (aK nV (zi _ _ _ _ ⟨rfl,_,rfl⟩))
   ·exact aK nV (qR _ _ _ _ ⟨rfl,_,rfl⟩)
  |succ d ih=>
   intro i h hd;refine qQ _ _ _ _ ?_
   by_cases h1:(i:Int)<(b.length:Int)
   ·refine av nV (av nV ⟨b[i]'aB,by rw[bS,bE,aN aB];rfl,?_⟩)
    rw[bR (a:=(i:Int)) aB];exact ih (i+1) _ aB
   ·exact aK nV (qR _ _ _ _ ⟨rfl,_,rfl⟩)
 exact key 4000 0 _ rfl
theorem ur (b:List Int) (i h:Int) (hi:0≤i) (hb:b.length≤1048576):cN C iK [BO b i h] (Dr b fun r=> ∃x,r=vI x∧0≤x∧x≤255):=by
 refine zY _ _ _ _ ?_
 by_cases h1:i<(b.length:Int)
 ·obtain⟨x,hx⟩:=AO hi h1
  refine av nV ⟨x,by rw[bS,hx];rfl,bW i 1,_,?_,rfl,_,rfl,Ib _⟩;rw[bR aB];omega
 ·exact aK nV ⟨i,_,hi,rfl,_,rfl,Ib _⟩
theorem nK (b:List Int) (i h:Int) (hi:0≤i) (hb:b.length≤1048576) (n:Int) (hn:n≤16777216):cN C fz [BO b i h,vI n] (Dr b fun r=> ∃x,r=vI x∧0≤x∧(0<n→x<n)):=by
 refine zl _ _ _ _ _ ?_
 by_cases h0:n≤0
 ·exact av nV ⟨i,h,hi,rfl,0,rfl,Int.le_refl _,fun h=>by omega⟩
 refine aK nV ?_
 by_cases h1:n≤256
 ·obtain⟨_,_,hr,i1,wC,hi1,rfl,x,rfl,x0,x1⟩:=ur b i h hi hb
  refine av nV ⟨x,_,i1,wC,hr,aK nV ⟨i1,wC,hi1,rfl,_,rfl,?_⟩⟩;rw[Fi];have:=Dc x0 (show 0<n by omega);exact⟨this.1,fun _=>this.2⟩
 ·obtain⟨_,_,hr,i1,wC,hi1,rfl,x,rfl,x0,x1⟩:=ur b i h hi hb
  obtain⟨_,_,A7,i2,FD,hi2,rfl,y,rfl,y0,y1⟩:=ur b i1 wC hi1 hb;obtain⟨_,_,Ry,i3,IQ,KE,rfl,z,rfl,z0,z1⟩:=ur b i2 FD hi2 hb;refine aK nV ⟨x,_,i1,wC,hr,y,_,i2,FD,A7,z,_,i3,IQ,Ry,aK nV ⟨i3,IQ,KE,rfl,_,rfl,?_⟩⟩;have e1:vl x 65536=x*65536:=BL aB;have e2:vl y 256=y*256:=BL aB;rw[Fi,e1,e2,bR (a:=x*65536) aB,bR aB];have:=Dc (show 0≤x*65536+y*256+z by omega) (show 0<n by omega);exact⟨this.1,fun _=>this.2⟩
theorem Fy (b:List Int) (i h:Int) (hi:0≤i) (hb:b.length≤1048576) (l:List Int) (h0:0<l.length) (hl:l.length≤1000):cN C oL [BO b i h,MN l] (Dr b fun r=> ∃x,r=vI x∧x∈l):=by
 obtain⟨_,_,hr,i1,wC,hi1,rfl,x,rfl,x0,x1⟩:=nK b i h hi hb (l.length:Int) aB;have:=x1 aB;obtain⟨y,hy⟩:=AO x0 this;refine B7 _ _ _ _ _ ⟨x,_,i1,wC,by rw[dG];exact hr,y,by rw[bS,hy];rfl,i1,wC,hi1,rfl,y,rfl,HY hy⟩
theorem JP (b:List Int):aq C yV [yI b] (vB (decide (1048576<b.length))) []:=by
 refine(Ez _ _ ⟨?_,by trivial⟩).run;simp<;>omega
theorem LA {l:List Int} {x lo hi:Int} (h:x∈l) (ha:l.all (fun y=>decide (lo≤y∧y≤hi))=true):lo≤x∧x≤hi:=sW (List.all_eq_true.1 ha x h)
attribute [local semireducible] Gx in
theorem PL {a:Int} (h0:0≤a) (h1:a≤9223372036854775807):Gx .i64 a 12=a/12:=by
 show IntKind.i64.wrap (a.tdiv 12)=_;rw[Int.tdiv_eq_ediv_of_nonneg h0];exact IntWalk.i64_in _ aB
theorem y5 (b:List Int) (i h:Int) (hi:0≤i) (hb:b.length≤1048576):cN C jP [BO b i h] (Dr b fun r=> ∃x,r=TV.ag (bB x)∧cC x=true):=by
 refine zR _ _ _ _ ?_;refine vq (nK b _ _ hi hb _ (by first|omega|(simp<;>omega))) fun n3 i1 h1 hi1 hx1=> ?_;refine vq (nK b _ _ hi1 hb _ (by first|omega|(simp<;>omega))) fun n7 i2 h2 hi2 KJ=> ?_;refine vq (Fy b _ _ hi2 hb [0,1,1,1,2] dK dK) fun n11 i3 h3 KE Ol=> ?_;refine HW (fun e=> ?_) fun e=> ?_
 ·refine vq (nK b _ _ KE hb _ (by first|omega|(simp<;>omega))) fun n15 i4 h4 Rz Qi=> ?_
  refine vq (Fy b _ _ Rz hb [0,1,256,999] dK dK) fun n19 i5 h5 RA RB=> ?_;have p1:=hx1.2 aB;have p2:=KJ.2 aB;have p3:=LA Ol (lo:=0) (hi:=2) rfl;have q1:=hx1.1;have q2:=KJ.1;have p4:=Qi.2 aB;have q4:=Qi.1;have p5:=LA RB (lo:=0) (hi:=999) rfl;have e1:=sW ((gx _ _).symm.trans e);exact BU RA ⟨⟨n3,bW 1 n7,n11,n15,n19⟩,rfl,by rw[bR aB];exact Iq aB aB aB (.inl ⟨e1,by omega⟩)⟩
 ·have p1:=hx1.2 aB
  have p2:=KJ.2 aB;have p3:=LA Ol (lo:=0) (hi:=2) rfl;have q1:=hx1.1;have q2:=KJ.1;have e1:=of_decide_eq_false ((gx _ _).symm.trans e);exact BU KE ⟨⟨n3,bW 1 n7,n11,0,0⟩,rfl,by rw[bR aB];exact Iq aB aB aB (.inr ⟨e1,rfl,rfl⟩)⟩
theorem Iv (b:List Int) (i h:Int) (hi:0≤i) (hb:b.length≤1048576):cN C cQ [BO b i h] (Dr b fun r=> ∃x:List (List Key),r=TV.ag [TC.sub 1 (x.map bg)]∧bO x=true):=by
 refine zO _ _ _ _ (vq (nK b _ _ hi hb _ aB) fun x i1 h1 hi1 hx=> ?_);have hx1:=hx.2 aB
 have key: ∀(d:Nat) (i h:Int) (n:List (List Key)),d≤100→0≤i→bO n=true→ak C cQ ai 4 0 (ig (d:Int) (b.map gR) i h (n.map bg)) (fun x st=>aY C cQ ai x st (Dr b fun r=> ∃x:List (List Key),r=TV.ag [TC.sub 1 (x.map bg)]∧bO x=true)):=by
  intro d
  induction d with
  |zero=>
   intro i h n hd hi hn;exact pL _ _ _ _ _ _ (aK dK (wQ _ _ _ _ _ _ _ (BU hi ⟨n,rfl,hn⟩)))
  |succ d ih=>
   intro i h n hd hi hn;have hs:=kJ hn;have e:dy ((d+1:Nat):Int) 1=(d:Int):=(iX aB).trans aB;refine pL _ _ _ _ _ _ (av nV (Es (y5 b _ _ hi hb) fun k i2 h2 hi2 _=>⟨_,_,nJ n k aB aB,?_⟩));rw[e];exact ih _ _ _ aB hi2 (qx hn k)
 obtain⟨d,rfl⟩: ∃d:Nat,x=(d:Int):=⟨x.toNat,by omega⟩
 cases d with
 |zero=>exact pK _ _ _ _ _ (aK dK (wP _ _ _ _ _ _ (BU hi1 ⟨[],rfl,by decide+kernel⟩)))
 |succ d=>
  have e:dy ((d+1:Nat):Int) 1=(d:Int):=(iX aB).trans aB;refine pK _ _ _ _ _ (av nV (Es (y5 b _ _ hi1 hb) fun k i2 h2 hi2 _=>⟨_,_,nJ [] k (rM _) (rM _),?_⟩));rw[e];exact key d _ _ _ aB hi2 (qx (by decide+kernel) k)
theorem Ew (b:List Int) (hb:b.length≤1048576):cN C m7 [yI b] (fun r fs=>fs=[]∧ ∃(n:List (List Key)) (k:Key),r= .tu [(1,[.sub 1 (n.map bg)]),(1,bB k)]∧bO n=true∧cC k=true):=by
 refine wV _ _ ?_;refine Lu (JO b hb) fun h1=> ?_;refine JK (Iv b _ _ (Int.le_refl 0) hb) fun v2 i2 h2 hi2 KJ=> ?_;refine Es (y5 b _ _ hi2 hb) fun k3 i3 h3 KE Ol=> ?_;exact⟨rfl,v2,k3,rfl,KJ,Ol⟩
theorem mC (l:List Key) (hl:l.length≤1073741824):aq C cE [bV l,bV l] (vB true) []:=by
 refine(wZ _ _ _ ?_).run;refine aK dK ?_;refine cU l (fun i=>ak C cE ai 4 0 (fZ (l.map bB) (l.map bB) i) _) ?_ ?_
 ·exact mM _ _ _ _ (aK dK (uA _ _ _ _ _ uE))
 ·intro i a hi ha _ _ hn
  refine mM _ _ _ _ (av nV ?_);simp only[jT,bE,ha,aE,kO];refine aK dK ?_;rw[bR aB];exact hn
theorem uu (n:List (List Key)) (hz:yJ n≤4194304):aq C dr [di n,di n] (vB true) []:=by
 refine(wM _ _ _ ?_).run;refine aK dK ?_
 have hN:n.length≤4194304:=by unfold yJ at hz;omega
 refine cU n (fun i=>ak C dr ai 4 0 (fY i (n.map bg) (n.map bg)) _) ?_ ?_
 ·exact mJ _ _ _ _ (aK dK (ux _ _ _ _ _ uE))
 ·intro i a hi ha _ _ hn
  have h1:bF a≤tot bF n:=BN (w:=bF) ha;have e2:bF a=a.length:=rfl
  have hl:a.length≤1073741824:=by unfold yJ at hz;omega
  have hr:rowAt (n.map bg) (i:Int)=some [TC.sub 5 (a.map bB)]:=by rw[bS,bE,ha];rfl
  refine mJ _ _ _ _ (av nV ?_);rw[bR aB]
  repeat' first
   |refine⟨_,hr,?_⟩
   |refine⟨_,mC a hl,?_⟩
   |refine aK rfl ?_
  exact hn
theorem Iw {x y:Int} (h:x≤y):vB (rG x y)=vB true:=by simp[h]
theorem Dn (b:List Int):aq C dn [yI b] (vB true) []:=by
 refine(zg _ _ ⟨_,JP b,?_⟩).run
 by_cases hb:1048576<b.length
 ·exact av nV uE
 have hb:b.length≤1048576:=by omega
 obtain⟨_,_,e1,rfl,n,k,rfl,hn,hk⟩:=Ew b hb;have hs:=kJ hn;have Om:=qx hn k;have hxs:=kJ Om;have hkl:=fy n;refine aK nV ⟨_,_,_,_,_,_,e1,_,_,vC n k aB aB,?_⟩
 cases hp:(bU n k).2 with
 |false=>
  obtain⟨h8,he⟩:=BS hn hk hp;rw[he];exact av rfl ⟨_,uu n (by have:=Er hn;omega),av rfl ⟨_,ez n aB aB,⟨Iw nV,by trivial⟩⟩⟩
 |true=>
  have hfind:=fun b a=>Eo hn hp b a;obtain⟨x,hx⟩: ∃x,x=(bU n k).1:=⟨_,rfl⟩;simp only[←hx] at hfind Om hxs ⊢
  have IY: ∀s∈x,s.length≤1073741824:=fun s hs=>by have:=tX (w:=bF) hs;have e:bF s=s.length:=rfl;omega
  obtain⟨Z,hZ⟩: ∃Z,Z=dF x k.b k.a x.length:=⟨_,rfl⟩;have LM:=hfind k.b k.a;rw[aO uE,←hZ] at LM
  have RC:aq C bG [di x,vI k.b,vI k.a] (IP Z) []:=by rw[hZ];exact o7 x k.b k.a aB IY
  refine aK rfl ⟨_,_,_,_,_,_,RC,_,ez n aB aB,?_⟩;refine cU (ax n) (fun i=>ak C dn gC 4 0 (eX Z.2 (i:Int) k.b k.a k.k k.c k.g Z.1.b Z.1.a Z.1.k Z.1.c Z.1.g ((ax n).map bB) (x.map bg)) _) ?_ ?_
  ·refine nR _ _ _ _ _ _ _ _ _ _ _ _ _ _ _ (aK dK (vG _ _ _ _ _ _ _ _ _ _ _ _ _ _ _ _ ?_))
   have hpk:=Dk Om;have hps:=kJ hpk.1;have Qe:=fy x;have q1:=ie x aB aB;rw[Om] at q1;have q2:=ie (lz x) aB aB;rw[hpk.1] at q2;have q3:=ez (lz x) aB aB;rw[Ip x] at q3;have q4:=ez x aB aB;have q5:=mC (ax x) aB;refine⟨_,um x aB aB,?_⟩
   by_cases h0:k.k=0
   ·rw[aO h0] at LM
    rw[LM];refine av (by simp[h0]) (av rfl ?_);exact⟨_,q1,av rfl ⟨_,q2,av rfl ⟨_,q3,_,q4,_,q5,av rfl ⟨Iw nV,by trivial⟩⟩⟩⟩
   ·rw[aD h0] at LM
    rw[LM];refine av (by simp[h0]) (aK rfl (av dK ?_));exact⟨_,q1,av rfl ⟨_,q2,av rfl ⟨_,q3,_,q4,_,q5,av rfl ⟨Iw nV,by trivial⟩⟩⟩⟩
  ·intro i a hi ha _ _ LO
   have hr:rowAt ((ax n).map bB) (i:Int)=some [iI a.b,iI a.a,iI a.k,iI a.c,iI a.g]:=by rw[bS,bE,ha];rfl
   have hmem:a∈ax n:=c7 ha;have On:aq C cD [tW a,tW k] (vB (c8 a k)) []:=(oZ _ _ _ _ _ _ _ _ _ _ _).2 rfl;have hT:aq C bG [di x,vI a.b,vI a.a] (IP (dF x a.b a.a x.length)) []:=o7 x a.b a.a aB IY;refine nR _ _ _ _ _ _ _ _ _ _ _ _ _ _ _ (av nV ?_);rw[bR aB]
   cases A6:c8 a k with
   |true=>
    rw[A6] at On
    repeat' first
     |exact LO
     |refine⟨_,_,_,_,_,hr,?_⟩
     |refine⟨_,_,_,_,_,_,hT,?_⟩
     |refine⟨_,On,?_⟩
     |refine aK rfl ?_
     |rfl
     |refine⟨?_,?_⟩
   |false=>
    rw[A6] at On
    have hv:dF x a.b a.a x.length=(a,true):=by
     rw[hfind,aD (fun h=>by have:=jc.2 ⟨h.1.symm,h.2.symm⟩;rw[A6] at this;cases this),Dj hn hmem]
    rw[hv] at hT
    repeat' first
     |exact LO
     |refine⟨_,_,_,_,_,hr,?_⟩
     |refine⟨_,_,_,_,_,_,hT,?_⟩
     |refine⟨_,On,?_⟩
     |refine av rfl ?_
     |refine aK rfl ?_
     |refine aK dK ?_
     |rfl
     |refine⟨?_,?_⟩
theorem LB {n z:Nat} (h:n*z≤reachBytes) (hz:1≤z):n≤140737488355328:=by
 have:reachBytes≤140737488355328:=by decide
 have h2:n*1≤n*z:=Nat.mul_le_mul_left n hz;omega
theorem JQ {r:List TC} (h:vf C.tt Fw r): ∃n:Int,r=gR n∧(0≤n∧n≤255):=by
 obtain⟨n,rfl,h1⟩:=h.JA (k:= .u8) Fx;exact⟨n,rfl,MK h1⟩
theorem Ex {r:List TC} (h:vf C.tt nI r): ∃l:List (Int),r=[.sub 1 (l.map gR)]∧l.length≤140737488355328∧ ∀x∈l,0≤x∧x≤255:=by
 obtain⟨w,rfl,y,z⟩:=h.Ga (e:=Fw) Fx;obtain⟨l,rfl,hl⟩:=yG fun r hr=>JQ (y r hr);rw[dG] at z;exact⟨l,rfl,LB z (by decide+kernel),hl⟩
theorem JR {v:TV} (h:Ki C.tt nI v): ∃l:List Int,v=yI l∧l.length≤140737488355328∧ ∀x∈l,0≤x∧x≤255:=by
 have ht:(C.tt nI).ti= .slice 5:=by kernel_rfl
 cases h with
 |c _ hw=>
  obtain⟨l,h1,h2,h3⟩:=Ex hw
  cases h1
  exact⟨l,rfl,h2,h3⟩
 |ag h1 _=>rw[ht] at h1;cases h1
theorem Dp (vs:List TV) (h:C7 C.tt [nI] vs): ∃k,dw C k dn vs (vB true) []:=by
 cases h with
 |cons h0 h=>
  cases h
  obtain⟨b,rfl,_⟩:=JR h0;exact Dn b
end Go.T.R
