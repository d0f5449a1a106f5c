import Derived.Test.YtlkjkfidmkdchaaTR0
set_option linter.all false
set_option maxRecDepth 100000
set_option maxHeartbeats 4000000
namespace Go.T.R
open Go Go.T
theorem Gg {P:Prop} (h:P:=by kernel_rfl):P:=h
theorem Ff (a b c:Int):ak C fk [vI a,vI b,vI c] (vB (zl a b c)) []:=by
 refine(Aw _ _ _ _ ?_).run;simp only[vQ,dZ,zl]
 split<;>simp_all<;>omega
theorem Jf (a b c:Int):ak C iT [vI a,vI b,vI c] (vB (zl a b c)) []:=by
 refine(D8 _ _ _ _ ?_).run;simp only[vQ,dZ,zl]
 split<;>simp_all<;>omega
@[simp] theorem Jg (a b c:Int) (q:Bool):ak C fk [vI a,vI b,vI c] (vB q) []↔q=zl a b c:=Ai (Ff a b c)
@[simp] theorem Me (a b c:Int) (q:Bool):ak C iT [vI a,vI b,vI c] (vB q) []↔q=zl a b c:=Ai (Jf a b c)
theorem zy (b a k c g:Int):ak C oY [.ag [iI b,iI a,iI k,iI c,iI g]] (vB (c7 ⟨b,a,k,c,g⟩)) []:=by
 refine(CC _ _ _ _ _ _ ?_).run;simp only[Jg,ku,c7,fX,dy,dZ]
 cases zl b 0 15<;>cases zl a 1 60<;>cases zl k 0 2<;>by_cases h:k=1<;>by_cases h1:c=0<;>by_cases h2:g=0<;>cases zl c 0 23<;>simp_all
theorem zz (b a k c g:Int):ak C oZ [.ag [iI b,iI a,iI k,iI c,iI g]] (vB (c7 ⟨b,a,k,c,g⟩)) []:=by
 refine(Cv _ _ _ _ _ _ ?_).run;simp only[Me,ku,c7,fX,dy,dZ]
 cases zl b 0 15<;>cases zl a 1 60<;>cases zl k 0 2<;>by_cases h:k=1<;>by_cases h1:c=0<;>by_cases h2:g=0<;>cases zl c 0 23<;>simp_all
@[simp] theorem Cl (b a k c g:Int) (q:Bool):ak C oY [.ag [iI b,iI a,iI k,iI c,iI g]] (vB q) []↔q=c7 ⟨b,a,k,c,g⟩:=Ai (zy b a k c g)
@[simp] theorem Cm (b a k c g:Int) (q:Bool):ak C oZ [.ag [iI b,iI a,iI k,iI c,iI g]] (vB q) []↔q=c7 ⟨b,a,k,c,g⟩:=Ai (zz b a k c g)
@[simp] theorem qP (b a k c g b' a' k' c' g':Int) (q:Bool):ak C kX [.ag [iI b,iI a,iI k,iI c,iI g],.ag [iI b',iI a',iI k',iI c',iI g']] (vB q) []↔q=bw ⟨b,a,k,c,g⟩ ⟨b',a',k',c',g'⟩:=Ai (by
  refine(zI _ _ _ _ _ _ _ _ _ _ _ ?_).run;simp only[vP,fX,dZ,bw]
  by_cases h1:b<b'<;>by_cases h2:b=b'<;>simp_all)
@[simp] theorem qQ (b a k c g b' a' k' c' g':Int) (q:Bool):ak C kY [.ag [iI b,iI a,iI k,iI c,iI g],.ag [iI b',iI a',iI k',iI c',iI g']] (vB q) []↔q=bw ⟨b,a,k,c,g⟩ ⟨b',a',k',c',g'⟩:=Ai (by
  refine(zP _ _ _ _ _ _ _ _ _ _ _ ?_).run;simp only[vP,fX,dy,dZ,bw]
  by_cases h2:b=b'<;>simp_all)
@[simp] theorem xj (b a k c g b' a' k' c' g':Int) (q:Bool):ak C ia [.ag [iI b,iI a,iI k,iI c,iI g],.ag [iI b',iI a',iI k',iI c',iI g']] (vB q) []↔q=dJ ⟨b,a,k,c,g⟩ ⟨b',a',k',c',g'⟩:=Ai (by
  refine(xO _ _ _ _ _ _ _ _ _ _ _ ?_).run;simp only[vP,fX,dy,dZ,dJ]
  by_cases h2:b=b'<;>simp_all)
@[simp] theorem xk (b a k c g b' a' k' c' g':Int) (q:Bool):ak C ic [.ag [iI b,iI a,iI k,iI c,iI g],.ag [iI b',iI a',iI k',iI c',iI g']] (vB q) []↔q=dJ ⟨b,a,k,c,g⟩ ⟨b',a',k',c',g'⟩:=Ai (by
  refine(xS _ _ _ _ _ _ _ _ _ _ _ ?_).run;simp only[vP,fX,dy,dZ,dJ]
  by_cases h2:b=b'<;>simp_all)
theorem fE (l:List Key) (x:Key) (hl:l.length≤1073741824):ak C aJ [bR l,xh x] (bR (cj l x)) []:=by
 refine(AD _ _ _ _ _ _ _ ?_).run
 have key: ∀(put:Bool) (acc:List Key),acc.length+(l.drop 0).length≤l.length+(if put then 1 else 0)→acc++bI x put (l.drop 0)=cj l x→an C aJ cz 4 0 (cl (l.map aT) put ((0:Nat):Int) x.b x.a x.k x.c x.g (acc.map aT)) (fun u st=>aV C aJ cz u st fun r fs=>r=bR (cj l x)∧fs=[]):=by
  refine dj l (fun i=> ∀(put:Bool) (acc:List Key),acc.length+(l.drop i).length≤l.length+(if put then 1 else 0)→acc++bI x put (l.drop i)=cj l x→an C aJ cz 4 0 (cl (l.map aT) put i x.b x.a x.k x.c x.g (acc.map aT)) _) ?_ ?_
  ·intro put acc hb he
   refine qi _ _ _ _ _ _ _ _ _ _ (aL dh (xW _ _ _ _ _ _ _ _ _ _ _ ?_));simp only[rS,ez,iJ,fA,dy,dS,dH]
   have hb2:acc.length≤l.length+1:=by simp at hb;split at hb<;>omega
   rw[gJ az];rw[mh] at he
   cases put<;>simp[bI] at he ⊢ <;>rw[←he]<;>simp
  ·intro i a hi ha hd _ hn put acc hb he
   rw[hd] at hb he;simp only[dL] at hb
   have hb':acc.length+(List.drop (i+1) l).length+1≤l.length+1:=by split at hb<;>omega
   refine qi _ _ _ _ _ _ _ _ _ _ (au rZ ?_);simp only[ke,bq,ha,aE,kJ,qQ,xk,ku,dy,ez,rS,iJ,fA,dS,dH,cE,lz];simp (disch:=omega) only[gJ,bQ,qK];simp only[bI] at he
   cases put<;>cases hk:bw a x<;>cases hs:dJ a x<;>simp only[qK,zh]<;>simp[hk,hs] at he hb<;>exact hn _ _ (by simp at hb ⊢;omega) (by simpa using he)
 exact key false [] dh rfl
@[simp] theorem Ak (l:List Key) (hl:l.length≤1073741824) (b a k c g:Int) (q:RR):ak C aJ [.c (.sub 5 (l.map aT)),.ag [iI b,iI a,iI k,iI c,iI g]] (.c (.sub 5 q)) []↔q=(cj l ⟨b,a,k,c,g⟩).map aT:=GY (fE l ⟨b,a,k,c,g⟩ hl)
theorem ir (l:List Key) (x:Key) (hl:l.length≤1073741824):ak C bh [bR l,xh x] (bR (cj l x)) []:=by
 refine(Aq _ _ _ _ _ _ _ ?_).run
 have key: ∀(put:Bool) (acc:List Key),acc.length+(l.drop 0).length≤l.length+(if put then 1 else 0)→acc++bI x put (l.drop 0)=cj l x→an C bh cz 4 0 (ck put (l.map aT) ((0:Nat):Int) x.b x.a x.k x.c x.g (acc.map aT)) (fun u st=>aV C bh cz u st fun r fs=>r=bR (cj l x)∧fs=[]):=by
  refine dj l (fun i=> ∀(put:Bool) (acc:List Key),acc.length+(l.drop i).length≤l.length+(if put then 1 else 0)→acc++bI x put (l.drop i)=cj l x→an C bh cz 4 0 (ck put (l.map aT) i x.b x.a x.k x.c x.g (acc.map aT)) _) ?_ ?_
  ·intro put acc hb he
   refine p8 _ _ _ _ _ _ _ _ _ _ (aL dh (xD _ _ _ _ _ _ _ _ _ _ _ _ ?_));simp only[rS,ez,iJ,fA,dy,dS,dH]
   have hb2:acc.length≤l.length+1:=by simp at hb;split at hb<;>omega
   rw[gJ az];rw[mh] at he
   cases put<;>simp[bI] at he ⊢ <;>rw[←he]<;>simp
  ·intro i a hi ha hd _ hn put acc hb he
   rw[hd] at hb he;simp only[dL] at hb
   have hb':acc.length+(List.drop (i+1) l).length+1≤l.length+1:=by split at hb<;>omega
   refine p8 _ _ _ _ _ _ _ _ _ _ (au rZ ?_);simp only[ke,bq,ha,aE,kJ,qP,xj,ku,dy,ez,rS,iJ,fA,dS,dH,cE,lz];simp (disch:=omega) only[gJ,bQ,qK];simp only[bI] at he
   cases put<;>cases hk:bw a x<;>cases hs:dJ a x<;>simp only[qK,zh]<;>simp[hk,hs] at he hb<;>exact hn _ _ (by simp at hb ⊢;omega) (by simpa using he)
 exact key false [] dh rfl
@[simp] theorem Al (l:List Key) (hl:l.length≤1073741824) (b a k c g:Int) (q:RR):ak C bh [.c (.sub 5 (l.map aT)),.ag [iI b,iI a,iI k,iI c,iI g]] (.c (.sub 5 q)) []↔q=(cj l ⟨b,a,k,c,g⟩).map aT:=GY (ir l ⟨b,a,k,c,g⟩ hl)
theorem tI (old new:List Key) (hl:old.length+new.length≤1073741824):ak C bP [bR old,bR new] (bR (aG old new)) []:=by
 refine(wA _ _ _ ?_).run;rw[iQ,gJ rZ];refine au rfl ?_
 have key: ∀(acc:List Key),acc.length+(new.drop 0).length≤old.length+new.length→aG acc (new.drop 0)=aG old new→an C bP ai 4 0 (dX (new.map aT) ((0:Nat):Int) (acc.map aT)) (fun u st=>aV C bP ai u st fun r fs=>r=(bR (aG old new))∧fs=[]):=by
  refine dj new (fun i=> ∀(acc:List Key),acc.length+(new.drop i).length≤old.length+new.length→aG acc (new.drop i)=aG old new→an C bP ai 4 0 (dX (new.map aT) i (acc.map aT)) (fun u st=>aV C bP ai u st fun r fs=>r=(bR (aG old new))∧fs=[])) ?_ ?_
  ·intro acc h0 h1
   refine lW _ _ _ _ (aL dh (tN _ _ _ _ _ ?_));rw[mh] at h1;rw[←h1];exact tT
  ·intro i a hi ha hd ht hn acc h0 h1
   refine lW _ _ _ _ (au rZ ?_);rw[hd] at h0 h1;simp only[dL] at h0;simp only[ke,Ak acc az,bq,ha,aE,kJ,ku,dy,jg,lN,ez,jh,gH,ji,jj,lQ,dS,natAdd,dH,cE,lz,fA,o8];rw[bQ az];have h2:=gG acc a;exact hn _ az (by rw[←h1];rfl)
 exact key old dh rfl
theorem v8 (old new:List Key) (hl:old.length+new.length≤1073741824) (q:RR):ak C bP [bR old,bR new] (.c (.sub 5 q)) []↔q=(aG old new).map aT:=GY (tI old new hl)
theorem sG (l:List Key) (hl:l.length≤1073741824):ak C bT [bR l] (bR (fj l)) []:=by
 refine(D7 _ _ ?_).run
 have key: ∀(acc:List Key),acc.length+(l.drop 0).length≤l.length→acc++fj (l.drop 0)=fj l→an C bT ai 4 0 (fP (l.map aT) ((0:Nat):Int) (acc.map aT)) (fun u st=>aV C bT ai u st fun r fs=>r=(bR (fj l))∧fs=[]):=by
  refine dj l (fun i=> ∀(acc:List Key),acc.length+(l.drop i).length≤l.length→acc++fj (l.drop i)=fj l→an C bT ai 4 0 (fP (l.map aT) i (acc.map aT)) (fun u st=>aV C bT ai u st fun r fs=>r=(bR (fj l))∧fs=[])) ?_ ?_
  ·intro acc h0 h1
   refine sM _ _ _ _ (aL dh (Ax _ _ _ _ _ ?_));rw[mh] at h1;simp[fj] at h1;simp[fj,h1]
  ·intro i a hi ha hd ht hn acc h0 h1
   refine sM _ _ _ _ (au rZ ?_);rw[hd] at h0 h1;simp only[dL] at h0;simp only[ke,rS,iJ,fX,dZ,bq,ha,aE,kJ,ku,dy,jg,lN,ez,jh,gH,ji,jj,lQ,dS,natAdd,dH,cE,lz,fA,o8];simp (disch:=omega) only[gJ,bQ,qK]
   by_cases hk:a.k=0
   ·rw[aY hk]
    exact hn _ az (by rw[←h1];simp[fj,hk])
   ·rw[aH hk]
    exact hn (acc++[a]) (by simp only[cE,lz];omega) (by rw[←h1];simp[fj,hk])
 exact key [] dh rfl
theorem mQ (n:List (List Key)) (hb:n.length≤1073741824) (hl:tot bg n≤1073741824):ak C aP [cQ n] (bR (aC n)) []:=by
 refine(xA _ _ ?_).run
 have key: ∀(acc:List Key),acc.length+tot bg (n.drop 0)≤tot bg n→(n.drop 0).foldl aG acc=iR n→an C aP ai 4 0 (eC ((0:Nat):Int) (n.map aZ) (acc.map aT)) (fun u st=>aV C aP ai u st fun r fs=>r=(bR (aC n))∧fs=[]):=by
  refine dj n (fun i=> ∀(acc:List Key),acc.length+tot bg (n.drop i)≤tot bg n→(n.drop i).foldl aG acc=iR n→an C aP ai 4 0 (eC i (n.map aZ) (acc.map aT)) (fun u st=>aV C aP ai u st fun r fs=>r=(bR (aC n))∧fs=[])) ?_ ?_
  ·intro acc h0 h1
   refine m6 _ _ _ _ (aL dh (u5 _ _ _ _ _ ?_));rw[mh] at h0 h1;simp only[List.foldl_nil] at h1;refine⟨_,sG acc az,?_⟩;rw[h1];exact tT
  ·intro i a hi ha hd ht hn acc h0 h1
   refine m6 _ _ _ _ (au rZ ?_);rw[hd] at h0 h1;simp only[tot,bg] at h0;simp only[lP,v8 acc a az,bq,ha,aE,kJ,ku,dy,jg,lN,ez,jh,gH,ji,jj,lQ,dS,natAdd,dH,cE,lz,fA,o8];rw[bQ az];have h2:=jR a acc;exact hn _ az (by rw[←h1];rfl)
 exact key [] dh rfl
theorem pJ (n:List (List Key)) (hb:n.length≤1073741824) (hl:tot bg n≤1073741824) (q:RR):ak C aP [.ag [.sub 1 (n.map aZ)]] (.c (.sub 5 q)) []↔q=(aC n).map aT:=GY (mQ n hb hl)
theorem eB (l:List Key) (hl:l.length≤2147483648):ak C fM [bR l] (bR l) []:=by
 refine(xR _ _ ?_).run;rw[iQ,gJ rZ];exact tT
theorem tJ (old new:List Key) (hl:old.length+new.length≤1073741824):ak C bO [bR old,bR new] (bR (aG old new)) []:=by
 refine(wz _ _ _ ?_).run;refine⟨_,eB old az,?_⟩
 have key: ∀(acc:List Key),acc.length+(new.drop 0).length≤old.length+new.length→aG acc (new.drop 0)=aG old new→an C bO ai 4 0 (dW (new.map aT) ((0:Nat):Int) (acc.map aT)) (fun u st=>aV C bO ai u st fun r fs=>r=(bR (aG old new))∧fs=[]):=by
  refine dj new (fun i=> ∀(acc:List Key),acc.length+(new.drop i).length≤old.length+new.length→aG acc (new.drop i)=aG old new→an C bO ai 4 0 (dW (new.map aT) i (acc.map aT)) (fun u st=>aV C bO ai u st fun r fs=>r=(bR (aG old new))∧fs=[])) ?_ ?_
  ·intro acc h0 h1
   refine lV _ _ _ _ (aL dh (tM _ _ _ _ _ _ ?_));rw[mh] at h1;rw[←h1];exact tT
  ·intro i a hi ha hd ht hn acc h0 h1
   refine lV _ _ _ _ (au rZ ?_);rw[hd] at h0 h1;simp only[dL] at h0;simp only[ke,Al acc az,bq,ha,aE,kJ,ku,dy,jg,lN,ez,jh,gH,ji,jj,lQ,dS,natAdd,dH,cE,lz,fA,o8];rw[bQ az];have h2:=gG acc a;exact hn _ az (by rw[←h1];rfl)
 exact key old dh rfl
theorem we (old new:List Key) (hl:old.length+new.length≤1073741824) (q:RR):ak C bO [bR old,bR new] (.c (.sub 5 q)) []↔q=(aG old new).map aT:=GY (tJ old new hl)
theorem sH (l:List Key) (hl:l.length≤1073741824):ak C dG [bR l] (bR (fj l)) []:=by
 refine(D9 _ _ ?_).run
 have key: ∀(acc:List Key),acc.length+(l.drop 0).length≤l.length→acc++fj (l.drop 0)=fj l→an C dG ai 4 0 (fQ (l.map aT) ((0:Nat):Int) (acc.map aT)) (fun u st=>aV C dG ai u st fun r fs=>r=(bR (fj l))∧fs=[]):=by
  refine dj l (fun i=> ∀(acc:List Key),acc.length+(l.drop i).length≤l.length→acc++fj (l.drop i)=fj l→an C dG ai 4 0 (fQ (l.map aT) i (acc.map aT)) (fun u st=>aV C dG ai u st fun r fs=>r=(bR (fj l))∧fs=[])) ?_ ?_
  ·intro acc h0 h1
   refine sN _ _ _ _ (aL dh (Az _ _ _ _ _ _ ?_));rw[mh] at h1;simp[fj] at h1;simp[fj,h1]
  ·intro i a hi ha hd ht hn acc h0 h1
   refine sN _ _ _ _ (au rZ ?_);rw[hd] at h0 h1;simp only[dL] at h0;simp only[ke,rS,iJ,fX,dZ,bq,ha,aE,kJ,ku,dy,jg,lN,ez,jh,gH,ji,jj,lQ,dS,natAdd,dH,cE,lz,fA,o8];simp (disch:=omega) only[gJ,bQ,qK]
   by_cases hk:a.k=0
   ·rw[aY hk]
    exact hn _ az (by rw[←h1];simp[fj,hk])
   ·rw[aH hk]
    exact hn (acc++[a]) (by simp only[cE,lz];omega) (by rw[←h1];simp[fj,hk])
 exact key [] dh rfl
theorem mR (n:List (List Key)) (hb:n.length≤1073741824) (hl:tot bg n≤1073741824):ak C bH [cQ n] (bR (aC n)) []:=by
 refine(xH _ _ ?_).run
 have key: ∀(acc:List Key),acc.length+tot bg (n.drop 0)≤tot bg n→(n.drop 0).foldl aG acc=iR n→an C bH ai 4 0 (eD (n.map aZ) ((0:Nat):Int) (acc.map aT)) (fun u st=>aV C bH ai u st fun r fs=>r=(bR (aC n))∧fs=[]):=by
  refine dj n (fun i=> ∀(acc:List Key),acc.length+tot bg (n.drop i)≤tot bg n→(n.drop i).foldl aG acc=iR n→an C bH ai 4 0 (eD (n.map aZ) i (acc.map aT)) (fun u st=>aV C bH ai u st fun r fs=>r=(bR (aC n))∧fs=[])) ?_ ?_
  ·intro acc h0 h1
   refine m7 _ _ _ _ (aL dh (u6 _ _ _ _ _ _ ?_));rw[mh] at h0 h1;simp only[List.foldl_nil] at h1;refine⟨_,sH acc az,?_⟩;rw[h1];exact tT
  ·intro i a hi ha hd ht hn acc h0 h1
   refine m7 _ _ _ _ (au rZ ?_);rw[hd] at h0 h1;simp only[tot,bg] at h0;simp only[lP,we acc a az,bq,ha,aE,kJ,ku,dy,jg,lN,ez,jh,gH,ji,jj,lQ,dS,natAdd,dH,cE,lz,fA,o8];rw[bQ az];have h2:=jR a acc;exact hn _ az (by rw[←h1];rfl)
 exact key [] dh rfl
theorem pK (n:List (List Key)) (hb:n.length≤1073741824) (hl:tot bg n≤1073741824) (q:RR):ak C bH [.ag [.sub 1 (n.map aZ)]] (.c (.sub 5 q)) []↔q=(aC n).map aT:=GY (mR n hb hl)
theorem wg (l:List Key) (hl:l.length≤1073741824):ak C cW [bR l] (vB (iV l.length (fh l bw))) []:=by
 refine(zV _ _ ?_).run
 have key: ∀(k i:Nat),i+k=l.length→1≤i→(List.range' i k).all (fh l bw)=iV l.length (fh l bw)→an C cW aN 4 0 (gR (l.map aT) i) (fun u st=>aV C cW aN u st fun r fs=>r=vB (iV l.length (fh l bw))∧fs=[]):=by
  intro k
  induction k with
  |zero=>
   intro i h h1 h0;refine jO _ _ _ (aL rZ (ot _ _ _ _ ?_));simp only[List.range'_zero,AH] at h0;rw[←h0];exact tT
  |succ k ih=>
   intro i h h1 h0;obtain⟨j,rfl⟩: ∃j,i=j+1:=⟨i-1,by omega⟩;have hj:l[j]?=some l[j]:=aO az;have M6:l[j+1]?=some l[j+1]:=aO az
   have e:fh l bw (j+1)=bw l[j] l[j+1]:=by simp only[fh,hj,M6]
   rw[List.range'_succ,tV,e] at h0;refine jO _ _ _ (au rZ ?_);rw[gh az,show((j+1:Nat):Int)-1=(j:Int) by omega];simp only[ke,bq,hj,M6,aE,kJ,qQ,ku,ez,dy];rw[bQ az]
   cases hb:bw l[j] l[j+1] with
   |true=>
    rw[hb,fA] at h0;exact au rfl (ih (j+1+1) az az h0)
   |false=>
    rw[hb,Bool.false_and] at h0;refine aL rfl (wB _ ?_);rw[←h0];exact tT
 cases hz:l.length with
 |zero=>
  have:l=[]:=sn hz;subst this;exact jO _ _ _ (aL dh (ot _ _ _ _ tT))
 |succ n=>
  rw[hz] at key;exact key n 1 az az (by unfold iV;rw[List.range'_succ,tV];rfl)
theorem zA (l:List Key) (hl:l.length≤1073741824):ak C bV [bR l] (vB ((l.all c7&&(iV l.length (fh l bw)&&decide (l.length≤60))))) []:=by
 refine(Cu _ _ ?_).run
 have key:((l.drop 0).all c7&&(iV l.length (fh l bw)&&decide (l.length≤60)))=(l.all c7&&(iV l.length (fh l bw)&&decide (l.length≤60)))→an C bV aN 4 0 (eW (l.map aT) ((0:Nat):Int)) (fun u st=>aV C bV aN u st fun r fs=>r=vB ((l.all c7&&(iV l.length (fh l bw)&&decide (l.length≤60))))∧fs=[]):=by
  refine dj l (fun i=>((l.drop i).all c7&&(iV l.length (fh l bw)&&decide (l.length≤60)))=(l.all c7&&(iV l.length (fh l bw)&&decide (l.length≤60)))→an C bV aN 4 0 (eW (l.map aT) i) (fun u st=>aV C bV aN u st fun r fs=>r=vB ((l.all c7&&(iV l.length (fh l bw)&&decide (l.length≤60))))∧fs=[])) ?_ ?_
  ·intro h0
   refine rj _ _ _ (aL dh (zL _ _ _ _ ?_));rw[mh] at h0;simp only[AH,fA] at h0;rw[←h0];refine⟨_,wg l hl,?_⟩;simp only[vQ,dH,si]
   cases iV l.length (fh l bw)<;>simp
   omega
  ·intro i a hi ha hd KN hn h0
   have gO:c7 a=false→(l.all c7&&(iV l.length (fh l bw)&&decide (l.length≤60)))=false:=fun e=>by rw[←h0,hd];simp[e]
   have gN:c7 a=true→an C bV aN 4 0 (eW (l.map aT) ((i:Int)+1)) (fun u st=>aV C bV aN u st fun r fs=>r=vB ((l.all c7&&(iV l.length (fh l bw)&&decide (l.length≤60))))∧fs=[]):=fun e=>hn (by rw[←h0,hd];simp[e]);refine rj _ _ _ (au rZ ?_);simp only[ke,Cm,bq,ha,aE,kJ,ku,dy,jg,lN,ez,jh,gH,ji,jj,lQ,dS,natAdd,dH,cE,lz,fA,o8];rw[bQ az]
   cases h1:c7 a<;>simp only[qK,zh]<;>first|exact gN MF|exact zK _ (by rw[gO MF];exact tT)
 exact key rfl
theorem xm (l:List Key) (hl:l.length≤1073741824):ak C bV [bR l] (vB (pH l)) []:=by
 have:=zA l hl;rw[uL];exact this
theorem Cn (l:List Key) (hl:l.length≤1073741824) (q:Bool):ak C bV [bR l] (vB q) []↔q=pH l:=Ai (xm l hl)
theorem xo (l:List Key) (hl:l.length≤1073741824):ak C bU [bR l] (vB ((iV l.length (eJ l)&&decide (l.length≤60)))) []:=by
 refine(Ct _ _ ?_).run
 have key:((List.range' 0 (l.length-0)).all (eJ l)&&decide (l.length≤60))=(iV l.length (eJ l)&&decide (l.length≤60))→an C bU aN 4 0 (dV (l.map aT) ((0:Nat):Int)) (fun u st=>aV C bU aN u st fun r fs=>r=vB ((iV l.length (eJ l)&&decide (l.length≤60)))∧fs=[]):=by
  refine IV (l.length) (fun i=>((List.range' i (l.length-i)).all (eJ l)&&decide (l.length≤60))=(iV l.length (eJ l)&&decide (l.length≤60))→an C bU aN 4 0 (dV (l.map aT) i) (fun u st=>aV C bU aN u st fun r fs=>r=vB ((iV l.length (eJ l)&&decide (l.length≤60)))∧fs=[])) ?_ ?_
  ·intro h0
   refine q8 _ _ _ (aL dh (zJ _ _ _ _ _ ?_));rw[pk] at h0;simp only[List.range'_zero,AH,fA] at h0;rw[←h0];simp[vQ];omega
  ·intro i hi hn h0
   rw[E1 hi,tV] at h0
   have gO:(eJ l) i=false→(iV l.length (eJ l)&&decide (l.length≤60))=false:=fun e=>by rw[←h0,e];rfl
   have gN:(eJ l) i=true→an C bU aN 4 0 (dV (l.map aT) ((i:Int)+1)) (fun u st=>aV C bU aN u st fun r fs=>r=vB ((iV l.length (eJ l)&&decide (l.length≤60)))∧fs=[]):=fun e=>hn (by rw[←h0,e];rfl);refine q8 _ _ _ (au rZ ?_);have ha:l[i]?=some l[i]:=aO hi;simp only[ke,Cl,qP,bq,ha,aE,kJ,ku,dy,jg,lN,ez,jh,gH,ji,jj,lQ,dS,natAdd,dH,cE,lz,fA,o8];rw[bQ az]
   cases i with
   |zero=>
    have e:eJ l 0=c7 l[0]:=by simp[eJ,MO,fh,hi]
    simp only[e] at gO gN
    cases h1:c7 l[0]<;>simp only[h1,qK,zh,vP,dZ,Int.natCast_zero,Int.lt_irrefl,if_false]<;>first|exact gN h1|exact q9 _ _ _ _ _ _ (by rw[gO h1];exact tT)
   |succ k=>
    have hk:l[k]?=some l[k]:=aO az
    have e:eJ l (k+1)=(c7 l[k+1]&&bw l[k] l[k+1]):=by simp only[eJ,MO,fh,hk,ha]
    simp only[e] at gO gN;rw[gh az,show((k+1:Nat):Int)-1=(k:Int) by omega];simp only[bq,hk,aE,kJ,ez,vP,dZ];rw[aY az]
    cases h1:c7 l[k+1]<;>cases h2:bw l[k] l[k+1]<;>simp only[qK,zh]<;>first|exact gN (by rw[h1,h2];rfl)|exact q9 _ _ _ _ _ _ (by rw[gO (by rw[h1,h2];rfl)];exact tT)
 exact key rfl
theorem Co (l:List Key) (hl:l.length≤1073741824) (q:Bool):ak C bU [bR l] (vB q) []↔q=pH l:=Ai (xo l hl)
theorem wh (n:List (List Key)) (hb:n.length≤1073741824) (hl:tot bg n≤1073741824):ak C cH [cQ n] (vI (aR n)) []:=by
 refine(zM _ _ ?_).run
 have key: ∀(c:Nat),c+tot bg (n.drop 0)=aR n→an C cH ai 4 0 (eX c ((0:Nat):Int) (n.map aZ)) (fun u st=>aV C cH ai u st fun r fs=>r=(vI (aR n))∧fs=[]):=by
  refine dj n (fun i=> ∀(c:Nat),c+tot bg (n.drop i)=aR n→an C cH ai 4 0 (eX c i (n.map aZ)) (fun u st=>aV C cH ai u st fun r fs=>r=(vI (aR n))∧fs=[])) ?_ ?_
  ·intro c h0
   refine oq _ _ _ _ (aL dh (wu _ _ _ _ _ ?_));rw[mh] at h0;simp only[tot,jU] at h0;rw[h0];exact tT
  ·intro i a hi ha hd ht hn c h0
   refine oq _ _ _ _ (au rZ ?_);rw[hd] at h0;have e5:tot bg (a::n.drop (i+1))=a.length+tot bg (n.drop (i+1)):=rfl;rw[e5] at h0;unfold aR at h0;simp only[lP,bq,ha,aE,kJ,ku,dy,jg,lN,ez,jh,gH,ji,jj,lQ,dS,natAdd,dH,cE,lz,fA,o8];rw[bQ (by simp only[si];omega),bQ az];exact hn (c+a.length) (by unfold aR;omega)
 exact key 0 (by simp[aR])
theorem wj (n:List (List Key)) (hs:tot bg n≤1073741824) (hl:n.length≤1073741824):ak C aB [cQ n] (vB ((n.all bk&&(decide (n.length≤3)&&decide (aR n≤8))))) []:=by
 refine(Ay _ _ ?_).run
 have key:((n.drop 0).all bk&&(decide (n.length≤3)&&decide (aR n≤8)))=(n.all bk&&(decide (n.length≤3)&&decide (aR n≤8)))→an C aB aN 4 0 (eg ((0:Nat):Int) (n.map aZ)) (fun u st=>aV C aB aN u st fun r fs=>r=vB ((n.all bk&&(decide (n.length≤3)&&decide (aR n≤8))))∧fs=[]):=by
  refine dj n (fun i=>((n.drop i).all bk&&(decide (n.length≤3)&&decide (aR n≤8)))=(n.all bk&&(decide (n.length≤3)&&decide (aR n≤8)))→an C aB aN 4 0 (eg i (n.map aZ)) (fun u st=>aV C aB aN u st fun r fs=>r=vB ((n.all bk&&(decide (n.length≤3)&&decide (aR n≤8))))∧fs=[])) ?_ ?_
  ·intro h0
   refine qf _ _ _ (aL dh (xP _ _ _ _ ?_));rw[mh] at h0;simp only[AH,fA] at h0;rw[←h0];simp only[vQ,dH,si,dZ]
   by_cases h3:n.length≤3
   ·rw[aY az]
    refine⟨_,wh n hl hs,?_⟩;simp[h3];omega
   ·rw[aH az]
    simp[h3]
  ·intro i a hi ha hd KN hn h0
   have gO:bk a=false→(n.all bk&&(decide (n.length≤3)&&decide (aR n≤8)))=false:=fun e=>by rw[←h0,hd];simp[e]
   have gN:bk a=true→an C aB aN 4 0 (eg ((i:Int)+1) (n.map aZ)) (fun u st=>aV C aB aN u st fun r fs=>r=vB ((n.all bk&&(decide (n.length≤3)&&decide (aR n≤8))))∧fs=[]):=fun e=>hn (by rw[←h0,hd];simp[e]);refine qf _ _ _ (au rZ ?_);have hz:a.length≤tot bg n:=Ch (w:=bg) ha;have hh: ∀q,ak C bV [bR a] (vB q) []↔q=pH a:=fun q=>Cn a az q;simp only[lP,hh,fX,si,dZ,bq,ha,aE,kJ,ku,dy,jg,lN,ez,jh,gH,ji,jj,lQ,dS,natAdd,dH,cE,lz,fA,o8]
   rw[bQ az]
   cases h1:pH a<;>by_cases h2:a.length=0<;>simp only[qK,zh]<;>first|(rw[aY az];exact qg _ _ (by rw[gO (by simp[bk,h1,h2])];exact tT))|(rw[aH az];exact gN (by simp[bk,h1,h2]))|exact qg _ _ (by rw[gO (by simp[bk,h1,h2])];exact tT)
 exact key rfl
theorem ki (n:List (List Key)) (hb:n.length≤1073741824) (hl:tot bg n≤1073741824):ak C aB [cQ n] (vB (cK n)) []:=by
 have:=wj n hl hb;rw[Bq];exact this
theorem wk (n:List (List Key)) (hb:n.length≤1073741824) (hl:tot bg n≤1073741824):ak C aD [cQ n] (vB (n.all bk&&(decide (n.length≤3)&&decide (aR n≤8)))) []:=by
 refine(AB _ _ ?_).run
 have key: ∀(c:Nat),c+tot bg (n.drop 0)=aR n→((n.drop 0).all bk&&(decide (n.length≤3)&&decide (aR n≤8)))=(n.all bk&&(decide (n.length≤3)&&decide (aR n≤8)))→an C aD ai 4 0 (fH c (n.map aZ) ((0:Nat):Int)) (fun u st=>aV C aD ai u st fun r fs=>r=(vB (n.all bk&&(decide (n.length≤3)&&decide (aR n≤8))))∧fs=[]):=by
  refine dj n (fun i=> ∀(c:Nat),c+tot bg (n.drop i)=aR n→((n.drop i).all bk&&(decide (n.length≤3)&&decide (aR n≤8)))=(n.all bk&&(decide (n.length≤3)&&decide (aR n≤8)))→an C aD ai 4 0 (fH c (n.map aZ) i) (fun u st=>aV C aD ai u st fun r fs=>r=(vB (n.all bk&&(decide (n.length≤3)&&decide (aR n≤8))))∧fs=[])) ?_ ?_
  ·intro c h0 h1
   refine qh _ _ _ _ (aL dh (xU _ _ _ _ _ _ ?_));rw[mh] at h0 h1;simp only[tot,jU] at h0;simp only[AH,fA] at h1;rw[←h1];simp only[vQ,dH,si,dZ]
   by_cases h3:n.length≤3
   ·rw[aY az]
    simp[h3];omega
   ·rw[aH az]
    simp[h3]
  ·intro i a hi ha hd ht hn c h0 h1
   refine qh _ _ _ _ (au rZ ?_);have hz:a.length≤tot bg n:=Ch (w:=bg) ha;have hh: ∀q,ak C bU [bR a] (vB q) []↔q=pH a:=fun q=>Co a az q;rw[hd] at h0 h1;have e5:tot bg (a::n.drop (i+1))=a.length+tot bg (n.drop (i+1)):=rfl;rw[e5] at h0;unfold aR at h0;have hO:bk a=false→aV C aD ai TX.ret (iC (n.map aZ)) (fun r fs=>r=vB (n.all bk&&(decide (n.length≤3)&&decide (aR n≤8)))∧fs=[]):=fun e=>xT _ _ (by rw[←h1];simp only[tV,e];exact tT)
   simp only[lP,hh,fX,si,dZ,bq,ha,aE,kJ,ku,dy,jg,lN,ez,jh,gH,ji,jj,lQ,dS,natAdd,dH,cE,lz,fA,o8];rw[bQ az,bQ az]
   cases h2:pH a<;>by_cases h3:a.length=0<;>simp only[qK,zh]
   ·exact hO (by simp[bk,h2])
   ·exact hO (by simp[bk,h2])
   ·rw[aY az];exact hO (by simp[bk,h3])
   ·rw[aH az]
    exact hn (c+a.length) (by unfold aR;omega) (by rw[←h1];simp[bk,h2,h3])
 exact key 0 (by simp[aR]) rfl
theorem kj (n:List (List Key)) (hb:n.length≤1073741824) (hl:tot bg n≤1073741824):ak C aD [cQ n] (vB (cK n)) []:=by
 have:=wk n hb hl;rw[Bq];exact this
theorem qR (l:List Key) (b a:Int) (hl:l.length≤1073741824):ak C cL [bR l,vI b,vI a] (Jx (ny l b a)) []:=by
 refine(Cx _ _ _ _ ?_).run
 have key:setAt (l.drop 0) b a=setAt l b a→an C cL aN 4 0 (eY (l.map aT) b a ((0:Nat):Int)) (fun u st=>aV C cL aN u st fun r fs=>r=(Jx (ny l b a))∧fs=[]):=by
  refine dj l (fun i=>setAt (l.drop i) b a=setAt l b a→an C cL aN 4 0 (eY (l.map aT) b a i) (fun u st=>aV C cL aN u st fun r fs=>r=(Jx (ny l b a))∧fs=[])) ?_ ?_
  ·intro h0
   rw[mh] at h0;refine ry _ _ _ _ _ (aL dh (zO _ _ _ _ _ _ ⟨?_,by trivial⟩));unfold ny;rw[←h0];rfl
  ·intro i x hi hx hd KN hn h0
   rw[hd] at h0;simp only[setAt,List.find?_cons] at h0;refine ry _ _ _ _ _ (au rZ ?_);simp only[ke,bq,hx,aE,kJ,fX,dZ];rw[bQ az]
   by_cases h1:x.b=b
   ·rw[aY h1]
    by_cases h2:x.a=a
    ·rw[aY h2]
     rw[Hl ⟨h1,h2⟩] at h0;refine zN _ _ _ _ _ _ ⟨?_,by trivial⟩;unfold ny setAt;rw[←h0]
    ·rw[aH h2]
     rw[wK (fun h=>h2 h.2)] at h0;exact hn h0
   ·rw[aH h1]
    rw[wK (fun h=>h1 h.1)] at h0;exact hn h0
 exact key rfl
theorem xp (n:List (List Key)) (b a:Int) (hl:n.length≤1073741824) (hs: ∀s∈n,s.length≤1073741824):ak C de [cQ n,vI b,vI a] (Jx (dU n b a n.length)) []:=by
 refine(At _ _ _ _ ?_).run
 have key: ∀k:Nat,k≤n.length→dU n b a k=dU n b a n.length→an C de aN 4 0 (fG b a ((k:Int)-1) (n.map aZ)) (fun u st=>aV C de aN u st fun r fs=>r=(Jx (dU n b a n.length))∧fs=[]):=by
  intro k
  induction k with
  |zero=>
   intro _ hk;refine qc _ _ _ _ _ (aL dh (xI _ _ _ _ _ _ ⟨?_,by trivial⟩));rw[←hk];rfl
  |succ k ih=>
   intro hle hk;have hx:n[k]?=some n[k]:=aO az;rw[show((k+1:Nat):Int)-1=(k:Int) by omega];have Ov:=hs n[k] (qo az);generalize n[k]=s at hx Ov;simp only[dU,hx] at hk;refine qc _ _ _ _ _ (au dh ?_);simp only[lP,bq,hx,aE,kJ];rw[gh az];refine⟨_,_,_,_,_,_,qR s b a Ov,?_⟩
   cases h2:(ny s b a).2 with
   |false=>
    rw[h2] at hk;exact aL rfl (aL rfl (ih az (by simpa using hk)))
   |true=>
    rw[h2] at hk;simp only[if_true] at hk;refine au rfl ?_
    by_cases h3:(ny s b a).1.k=0
    ·refine au (by simp[h3]) (qd _ _ _ _ _ _ _ _ _ _ _ _ _ ⟨?_,by trivial⟩)
     rw[aY h3] at hk;rw[←hk];rfl
    ·refine aL (by simp[h3]) (au rfl (qd _ _ _ _ _ _ _ _ _ _ _ _ _ ⟨?_,by trivial⟩))
     rw[aH h3] at hk;rw[←hk,←h2]
 rw[dH,show cZ (Int.ofNat n.length) 1=(n.length:Int)-1 from gh rZ];exact key n.length (bE _) rfl
theorem qS (l:List Key) (b a:Int) (hl:l.length≤1073741824):ak C cv [bR l,vI b,vI a] (Jx (ny l b a)) []:=by
 refine(Cz _ _ _ _ ?_).run
 have key:setAt (l.drop 0) b a=setAt l b a→an C cv aN 4 0 (eZ b a (l.map aT) ((0:Nat):Int)) (fun u st=>aV C cv aN u st fun r fs=>r=(Jx (ny l b a))∧fs=[]):=by
  refine dj l (fun i=>setAt (l.drop i) b a=setAt l b a→an C cv aN 4 0 (eZ b a (l.map aT) i) (fun u st=>aV C cv aN u st fun r fs=>r=(Jx (ny l b a))∧fs=[])) ?_ ?_
  ·intro h0
   rw[mh] at h0;refine rB _ _ _ _ _ (aL dh (zT _ _ _ _ _ _ _ ⟨?_,by trivial⟩));unfold ny;rw[←h0];rfl
  ·intro i x hi hx hd KN hn h0
   rw[hd] at h0;simp only[setAt,List.find?_cons] at h0;refine rB _ _ _ _ _ (au rZ ?_);simp only[ke,bq,hx,aE,kJ,fX,dZ];rw[bQ az]
   by_cases h1:x.b=b
   ·rw[aY h1]
    by_cases h2:x.a=a
    ·rw[aY h2]
     rw[Hl ⟨h1,h2⟩] at h0;refine zS _ _ _ _ _ _ ⟨?_,by trivial⟩;unfold ny setAt;rw[←h0]
    ·rw[aH h2]
     rw[wK (fun h=>h2 h.2)] at h0;exact hn h0
   ·rw[aH h1]
    rw[wK (fun h=>h1 h.1)] at h0;exact hn h0
 exact key rfl
theorem xq (n:List (List Key)) (b a:Int) (hl:n.length≤1073741824) (hs: ∀s∈n,s.length≤1073741824):ak C c8 [cQ n,vI b,vI a] (Jx (dU n b a n.length)) []:=by
 refine(Av _ _ _ _ ?_).run
 have key: ∀k:Nat,k≤n.length→dU n b a k=dU n b a n.length→an C c8 aN 4 0 (iA b a ((k:Int)-1) (n.map aZ)) (fun u st=>aV C c8 aN u st fun r fs=>r=(Jx (dU n b a n.length))∧fs=[]):=by
  intro k
  induction k with
  |zero=>
   intro _ hk;refine qe _ _ _ _ _ (aL dh (xL _ _ _ _ _ _ ⟨?_,by trivial⟩));rw[←hk];rfl
  |succ k ih=>
   intro hle hk;have hx:n[k]?=some n[k]:=aO az;rw[show((k+1:Nat):Int)-1=(k:Int) by omega];have Ov:=hs n[k] (qo az);generalize n[k]=s at hx Ov;simp only[dU,hx] at hk;refine qe _ _ _ _ _ (au dh ?_);simp only[lP,bq,hx,aE,kJ];rw[gh az];refine⟨_,_,_,_,_,_,qS s b a Ov,?_⟩
   cases h2:(ny s b a).2 with
   |false=>
    rw[h2] at hk;exact au rfl (ih az (by simpa using hk))
   |true=>
    rw[h2] at hk;simp only[if_true] at hk;refine aL rfl ?_
    by_cases h3:(ny s b a).1.k=0
    ·refine au (by simp[h3]) (xJ _ _ _ _ _ _ _ _ ⟨?_,by trivial⟩)
     rw[aY h3] at hk;rw[←hk];rfl
    ·refine aL (by simp[h3]) (xK _ _ _ _ _ _ _ ⟨?_,by trivial⟩)
     rw[aH h3] at hk;rw[←hk,←h2]
 rw[dH,show cZ (Int.ofNat n.length) 1=(n.length:Int)-1 from gh rZ];exact key n.length (bE _) rfl
theorem uR (n:List (List Key)) (hl:n.length≤1073741824) (hs: ∀s∈n,s.length≤1073741824):ak C av [cQ n] (cQ n) []:=by
 refine(xN _ _ ?_).run
 skip
 have key:((0:Nat)=0→an C av ai 4 0 (gm (n.map aZ)) (fun u st=>aV C av ai u st fun r fs=>r=(cQ n)∧fs=[]))∧(0<(0:Nat)→an C av ai 4 0 (eE (n.map aZ) ((0:Nat):Int) ((n.take 0).map aZ)) (fun u st=>aV C av ai u st fun r fs=>r=(cQ n)∧fs=[])):=by
  refine dj n (fun i=>(i=0→an C av ai 4 0 (gm (n.map aZ)) (fun u st=>aV C av ai u st fun r fs=>r=(cQ n)∧fs=[]))∧(0<i→an C av ai 4 0 (eE (n.map aZ) i ((n.take i).map aZ)) (fun u st=>aV C av ai u st fun r fs=>r=(cQ n)∧fs=[]))) ?_ ?_
  ·refine⟨fun h=> ?_,fun h=> ?_⟩
   ·have hnil:n=[]:=List.length_eq_zero_iff.1 h
    refine m9 _ _ (aL (by simp[h]) (u9 _ _ _ _ ⟨?_,by trivial⟩));simp[hnil]
   ·rw[Hj]
    exact nc _ _ _ _ (aL dh (va _ _ _ _ _ _ tT))
  ·intro i a hi ha hd KN hn
   have hmem:=dw ha;refine⟨fun h=> ?_,fun h=> ?_⟩
   ·subst h
    have hz:iH n 0=some a:=(bq n 0).trans ha;have hn2:=hn.2 az;rw[KN] at hn2;refine m9 _ _ (au rZ ?_);simp only[lP,hz,aE,kJ];refine⟨_,eB a (by have:=hs a hmem;omega),au (gJ (by simp;try omega)) ?_⟩;rw[bQ az];exact hn2
   ·have hn2:=hn.2 az
    rw[KN] at hn2;refine nc _ _ _ _ (au rZ ?_);simp only[lP,bq,ha,aE,kJ];refine⟨_,eB a (by have:=hs a hmem;omega),au (gJ (by simp;try omega)) ?_⟩;rw[bQ az];rw[yo] at hn2;exact hn2
 exact key.1 rfl
theorem xu (n:List (List Key)) (hl:n.length≤1073741824) (hs: ∀s∈n,s.length≤1073741824):ak C aA [cQ n] (cQ n) []:=by
 refine(Ar _ _ ?_).run
 skip
 have key:((0:Nat)=0→an C aA ai 4 0 (iw (n.map aZ)) (fun u st=>aV C aA ai u st fun r fs=>r=(cQ n)∧fs=[]))∧(0<(0:Nat)→an C aA ai 4 0 (fF ((0:Nat):Int) (n.map aZ) ((n.take 0).map aZ)) (fun u st=>aV C aA ai u st fun r fs=>r=(cQ n)∧fs=[])):=by
  refine dj n (fun i=>(i=0→an C aA ai 4 0 (iw (n.map aZ)) (fun u st=>aV C aA ai u st fun r fs=>r=(cQ n)∧fs=[]))∧(0<i→an C aA ai 4 0 (fF i (n.map aZ) ((n.take i).map aZ)) (fun u st=>aV C aA ai u st fun r fs=>r=(cQ n)∧fs=[]))) ?_ ?_
  ·refine⟨fun h=> ?_,fun h=> ?_⟩
   ·have hnil:n=[]:=List.length_eq_zero_iff.1 h
    refine p9 _ _ (aL (by simp[h]) (xE _ _ _ ⟨?_,by trivial⟩));simp[hnil]
   ·rw[Hj]
    exact qa _ _ _ _ (aL dh (xF _ _ _ _ _ tT))
  ·intro i a hi ha hd KN hn
   have hmem:=dw ha;refine⟨fun h=> ?_,fun h=> ?_⟩
   ·subst h
    have hz:iH n 0=some a:=(bq n 0).trans ha;have hn2:=hn.2 az;rw[KN] at hn2;refine p9 _ _ (au rZ ?_);simp only[lP,hz,aE,kJ];have hsa:=hs a hmem;refine au (by rw[show cM (a.map aT)=true from iQ _,gJ rZ];rfl) (au (gJ (by simp;try omega)) ?_);rw[bQ az];exact hn2
   ·have hn2:=hn.2 az
    rw[KN] at hn2;refine qa _ _ _ _ (au rZ ?_);simp only[lP,bq,ha,aE,kJ];have hsa:=hs a hmem;refine au (by rw[show cM (a.map aT)=true from iQ _,gJ rZ];rfl) (au (gJ (by simp;try omega)) ?_);rw[bQ az];rw[yo] at hn2;exact hn2
 exact key.1 rfl
theorem wm (l:List Key) (hl:l.length≤1073741824):ak C bf [bR l] (cQ (newNode l)) []:=by
 refine(ru _ _ ?_).run;unfold newNode
 by_cases h:l.length=0
 ·exact au (by simp[h]) ⟨by rw[aY h];rfl,by trivial⟩
 ·refine aL (by rw[dH,si,fX];exact wK az) ?_
  rw[show cM (l.map aT)=true from iQ _,gJ rZ];exact⟨by rw[aH h];rfl,by trivial⟩
theorem uS (n:List (List Key)) (hb:n.length≤1073741824) (hl:tot bg n≤1073741824):ak C nD [cQ n] (cQ (DO n)) []:=by
 have h1:=fu n;exact(xQ _ _ ⟨_,(pJ n hb hl _).2 rfl,_,wm (aC n) az,tT⟩).run
theorem wo (l:List Key) (hl:l.length≤1073741824):ak C cn [bR l] (cQ (newNode l)) []:=by
 refine(rm _ _ ?_).run;unfold newNode
 by_cases h:l.length=0
 ·exact au (by simp[h]) ⟨by rw[aY h];rfl,by trivial⟩
 ·refine aL (by rw[dH,si,fX];exact wK az) ?_
  exact⟨_,eB l az,⟨by rw[aH h];rfl,by trivial⟩⟩
theorem uT (n:List (List Key)) (hb:n.length≤1073741824) (hl:tot bg n≤1073741824):ak C nC [cQ n] (cQ (DO n)) []:=by
 have h1:=fu n;exact(xz _ _ ⟨_,(pK n hb hl _).2 rfl,_,wo (aC n) az,tT⟩).run
theorem jn (l:List Key) (hl:l.length≤1073741824):ak C bf [bR l] (cQ (cm l)) []:=by
 refine(ru _ _ ?_).run;unfold cm
 by_cases h:l.length=0
 ·exact au (by simp[h]) ⟨by rw[aY h];rfl,rfl⟩
 ·refine aL (by rw[dH,si,fX];exact wK az) ?_
  rw[show cM (l.map aT)=true from iQ _,gJ rZ];exact⟨by rw[aH h];rfl,rfl⟩
theorem mS (l:List Key) (hl:l.length≤1073741824):ak C cn [bR l] (cQ (cm l)) []:=by
 refine(rm _ _ ?_).run;unfold cm
 by_cases h:l.length=0
 ·exact au (by simp[h]) ⟨by rw[aY h];rfl,rfl⟩
 ·refine aL (by rw[dH,si,fX];exact wK az) ?_
  exact⟨_,eB l az,⟨by rw[aH h];rfl,rfl⟩⟩
theorem uU (n:List (List Key)) (k:Key) (hb:n.length≤1073740000) (hl:tot bg n≤1073740000):ak C cV [cQ n,xh k] (bR (bX n k)) []:=by
 have h1:=fu n;have h2:=gG (aC n) k;exact(xV _ _ _ _ _ _ _ ⟨_,(pK n az az _).2 rfl,_,ir (aC n) k az,_,sH (cj (aC n) k) az,tT⟩).run
theorem wq (n:List (List Key)) (k:Key) (hb:n.length≤1073740000) (hl:tot bg n≤1073740000):ak C oV [cQ n,xh k] (G0 (di n k)) []:=by
 have hs: ∀s∈n,s.length≤1073741824:=fun s hm=>by have:=uJ (w:=bg) hm;unfold bg at this hl;omega
 have KH:=uR n az hs;have Qj:=tD n k;have Qk:=tE n k
 have tail: ∀(X:List (List Key)) (Q:QV),X=dK n k→Q (G0 (di n k)) []→ ∃(b18:Bool),ak C aD ([TV.ag [TC.sub 1 (X.map aZ)]]) (TV.c (iB b18)) []∧(aX b18 (Q (TV.tu [(1,[TC.sub 1 (X.map aZ)]),(0,[iB true])]) ([])) (∃(l19:RR),ak C cV ([TV.ag [TC.sub 1 (n.map aZ)],xh k]) (TV.c (TC.sub 5 l19)) []∧(∃(l20:RR),ak C cn ([TV.c (TC.sub 5 l19)]) (TV.ag [TC.sub 1 l20]) []∧(aX (ej 8 (Int.ofNat (List.length l19))) (∃(l21:RR),ak C av ([TV.ag [TC.sub 1 (n.map aZ)]]) (TV.ag [TC.sub 1 l21]) []∧(Q (TV.tu [(1,[TC.sub 1 l21]),(0,[iB false])]) ([]))) (∃(b22:Bool),ak C aD ([TV.ag [TC.sub 1 l20]]) (TV.c (iB b22)) []∧(aX (!b22) (∃(l23:RR),ak C av ([TV.ag [TC.sub 1 (n.map aZ)]]) (TV.ag [TC.sub 1 l23]) []∧(Q (TV.tu [(1,[TC.sub 1 l23]),(0,[iB false])]) ([]))) (Q (TV.tu [(1,[TC.sub 1 l20]),(0,[iB true])]) ([])))))))):=by
  intro X Q hX hQ;rw[←hX] at Qj Qk;have hok:ak C aD [cQ X] (vB (cK X)) []:=kj X az az;have hkl:=oT n k;have hnl:=mM (bX n k);have hnt:=mN (bX n k);have MC:ak C aD [cQ (cm (bX n k))] (vB (cK (cm (bX n k)))) []:=kj _ az az;refine⟨_,hok,?_⟩;unfold di at hQ;rw[←hX] at hQ
  cases h1:cK X with
  |true=>
   rw[aY h1] at hQ;exact au rfl hQ
  |false=>
   rw[aH (by rw[h1];simp)] at hQ;refine aL rfl ⟨_,uU n k az az,_,mS (bX n k) az,?_⟩
   by_cases h2:8<(bX n k).length
   ·rw[aY h2] at hQ
    exact au ov ⟨_,KH,hQ⟩
   ·rw[aH h2] at hQ
    refine aL ov ⟨_,MC,?_⟩
    cases h3:cK (cm (bX n k)) with
    |true=>
     rw[aY h3] at hQ;exact aL rfl hQ
    |false=>
     rw[aH (by rw[h3];simp)] at hQ;exact au rfl ⟨_,KH,hQ⟩
 refine(zQ _ _ _ _ _ _ _ ⟨_,KH,?_⟩).run
 (try dsimp only)
 rw[dH]
 cases ig:n[n.length-1]? with
 |none=>
  have h0:n.length=0:=Classical.byContradiction fun h=>by rw[aO az] at ig;cases ig
  have hX:n++[[k]]=dK n k:=by unfold dK;rw[ig]
  refine aL (by rw[h0,gh dh];simp) ((au (gJ ov) ?_));rw[show List.append (n.map aZ) [[TC.sub 5 [[iI k.b,iI k.a,iI k.k,iI k.c,iI k.g]]]]=(n++[[k]]).map aZ from by simp[aZ,aT]];exact tail _ (fun r fs=>r=G0 (di n k)∧fs=[]) hX tT
 |some s=>
  have hlt:=(List.getElem?_eq_some_iff.1 ig).1
  have hsub:cZ (Int.ofNat n.length) 1=((n.length-1:Nat):Int):=by rw[gh ov];simp;omega
  have hrow:rowAt (n.map aZ) ((n.length-1:Nat):Int)=some [TC.sub 5 (s.map aT)]:=by rw[bG,bq,ig];rfl
  have MD:=hs s (dw ig);have qm:setRow (n.map aZ) ((n.length-1:Nat):Int) 0 [TC.sub 5 ((cj s k).map aT)]=(n.set (n.length-1) (cj s k)).map aZ:=zi (a:=s) (a':=cj s k) ig rfl
  have ME:List.append (n.map aZ) [[TC.sub 5 [[iI k.b,iI k.a,iI k.k,iI k.c,iI k.g]]]]=(n++[[k]]).map aZ:=by simp[aZ,aT]
  have hfit:fits (Nat.succ n.length) 24=true:=gJ ov;rw[hsub];refine au dh ⟨_,hrow,?_⟩
  have key: ∀Q:QV,Q (G0 (di n k)) []→ ∃(n8:Int) (n9:Int) (n10:Int) (n11:Int) (n12:Int) (b13:Bool),ak C cv ([TV.c (TC.sub 5 (s.map aT)),TV.c (iI k.b),TV.c (iI k.a)]) (TV.tu [(1,[iI n8,iI n9,iI n10,iI n11,iI n12]),(0,[iB b13])]) []∧(aX b13 (∃(l14:RR),rowAt (n.map aZ) ((n.length-1:Nat):Int)=some [TC.sub 5 l14]∧(∃(l15:RR),ak C bh ([TV.c (TC.sub 5 l14),xh k]) (TV.c (TC.sub 5 l15)) []∧(∃(l16:RR),rowAt (n.map aZ) ((n.length-1:Nat):Int)=some [TC.sub 5 l16]∧(∃(l17:RR),rowAt (n.map aZ) ((n.length-1:Nat):Int)=some [TC.sub 5 l17]∧(∃(b18:Bool),ak C aD ([TV.ag [TC.sub 1 (setRow (n.map aZ) ((n.length-1:Nat):Int) 0 [TC.sub 5 l15])]]) (TV.c (iB b18)) []∧(aX b18 (Q (TV.tu [(1,[TC.sub 1 (setRow (n.map aZ) ((n.length-1:Nat):Int) 0 [TC.sub 5 l15])]),(0,[iB true])]) ([])) (∃(l19:RR),ak C cV ([TV.ag [TC.sub 1 (n.map aZ)],xh k]) (TV.c (TC.sub 5 l19)) []∧(∃(l20:RR),ak C cn ([TV.c (TC.sub 5 l19)]) (TV.ag [TC.sub 1 l20]) []∧(aX (ej 8 (Int.ofNat (List.length l19))) (∃(l21:RR),ak C av ([TV.ag [TC.sub 1 (n.map aZ)]]) (TV.ag [TC.sub 1 l21]) []∧(Q (TV.tu [(1,[TC.sub 1 l21]),(0,[iB false])]) ([]))) (∃(b22:Bool),ak C aD ([TV.ag [TC.sub 1 l20]]) (TV.c (iB b22)) []∧(aX (!b22) (∃(l23:RR),ak C av ([TV.ag [TC.sub 1 (n.map aZ)]]) (TV.ag [TC.sub 1 l23]) []∧(Q (TV.tu [(1,[TC.sub 1 l23]),(0,[iB false])]) ([]))) (Q (TV.tu [(1,[TC.sub 1 l20]),(0,[iB true])]) ([])))))))))))))
   (∃(l24:RR),rowAt (n.map aZ) ((n.length-1:Nat):Int)=some [TC.sub 5 l24]∧(aX (ej (Int.ofNat (List.length l24)) 4) (∃(l25:RR),rowAt (n.map aZ) ((n.length-1:Nat):Int)=some [TC.sub 5 l25]∧(∃(l26:RR),ak C bh ([TV.c (TC.sub 5 l25),xh k]) (TV.c (TC.sub 5 l26)) []∧(∃(l27:RR),rowAt (n.map aZ) ((n.length-1:Nat):Int)=some [TC.sub 5 l27]∧(∃(l28:RR),rowAt (n.map aZ) ((n.length-1:Nat):Int)=some [TC.sub 5 l28]∧(∃(b18:Bool),ak C aD ([TV.ag [TC.sub 1 (setRow (n.map aZ) ((n.length-1:Nat):Int) 0 [TC.sub 5 l26])]]) (TV.c (iB b18)) []∧(aX b18 (Q (TV.tu [(1,[TC.sub 1 (setRow (n.map aZ) ((n.length-1:Nat):Int) 0 [TC.sub 5 l26])]),(0,[iB true])]) ([])) (∃(l19:RR),ak C cV ([TV.ag [TC.sub 1 (n.map aZ)],xh k]) (TV.c (TC.sub 5 l19)) []∧(∃(l20:RR),ak C cn ([TV.c (TC.sub 5 l19)]) (TV.ag [TC.sub 1 l20]) []∧(aX (ej 8 (Int.ofNat (List.length l19))) (∃(l21:RR),ak C av ([TV.ag [TC.sub 1 (n.map aZ)]]) (TV.ag [TC.sub 1 l21]) []∧(Q (TV.tu [(1,[TC.sub 1 l21]),(0,[iB false])]) ([]))) (∃(b22:Bool),ak C aD ([TV.ag [TC.sub 1 l20]]) (TV.c (iB b22)) []∧(aX (!b22) (∃(l23:RR),ak C av ([TV.ag [TC.sub 1 (n.map aZ)]]) (TV.ag [TC.sub 1 l23]) []∧(Q (TV.tu [(1,[TC.sub 1 l23]),(0,[iB false])]) ([]))) (Q (TV.tu [(1,[TC.sub 1 l20]),(0,[iB true])]) ([]))))))))))))) (aX (fits (Nat.succ (List.length n)) 24) (∃(b18:Bool),ak C aD ([TV.ag [TC.sub 1 (List.append (n.map aZ) [[TC.sub 5 [[iI k.b,iI k.a,iI k.k,iI k.c,iI k.g]]]])]]) (TV.c (iB b18)) []∧(aX b18 (Q (TV.tu [(1,[TC.sub 1 (List.append (n.map aZ) [[TC.sub 5 [[iI k.b,iI k.a,iI k.k,iI k.c,iI k.g]]]])]),(0,[iB true])]) ([])) (∃(l19:RR),ak C cV ([TV.ag [TC.sub 1 (n.map aZ)],xh k]) (TV.c (TC.sub 5 l19)) []∧(∃(l20:RR),ak C cn ([TV.c (TC.sub 5 l19)]) (TV.ag [TC.sub 1 l20]) []∧(aX (ej 8 (Int.ofNat (List.length l19))) (∃(l21:RR),ak C av ([TV.ag [TC.sub 1 (n.map aZ)]]) (TV.ag [TC.sub 1 l21]) []∧(Q (TV.tu [(1,[TC.sub 1 l21]),(0,[iB false])]) ([]))) (∃(b22:Bool),ak C aD ([TV.ag [TC.sub 1 l20]]) (TV.c (iB b22)) []∧(aX (!b22) (∃(l23:RR),ak C av ([TV.ag [TC.sub 1 (n.map aZ)]]) (TV.ag [TC.sub 1 l23]) []∧(Q (TV.tu [(1,[TC.sub 1 l23]),(0,[iB false])]) ([]))) (Q (TV.tu [(1,[TC.sub 1 l20]),(0,[iB true])]) ([]))))))))) (False))))):=by
   intro Q hQ;refine⟨_,_,_,_,_,_,qS s k.b k.a MD,?_⟩
   cases h1:(ny s k.b k.a).2 with
   |true=>
    have hX:n.set (n.length-1) (cj s k)=dK n k:=by unfold dK tC;rw[ig];simp[h1]
    refine au rfl ⟨_,hrow,_,ir s k MD,_,hrow,_,hrow,?_⟩;rw[qm];exact tail _ _ hX hQ
   |false=>
    refine aL rfl ⟨_,hrow,?_⟩
    by_cases h2:s.length<4
    ·have hX:n.set (n.length-1) (cj s k)=dK n k:=by unfold dK tC;rw[ig];simp[h1,h2]
     refine au ov ⟨_,hrow,_,ir s k MD,_,hrow,_,hrow,?_⟩;rw[qm];exact tail _ _ hX hQ
    ·have hX:n++[[k]]=dK n k:=by unfold dK tC;rw[ig];simp[h1,h2]
     refine aL ov (au hfit ?_);rw[ME];exact tail _ _ hX hQ
  exact⟨(G0 (di n k),[]),key (fun a b=>(a,b)=(G0 (di n k),([]:List TV))) rfl,key (fun a b=>(a,b)=(G0 (di n k),([]:List TV))) rfl,⟨rfl,rfl⟩⟩
theorem jM (n:List (List Key)) (k:Key) (hb:n.length≤1073740000) (hl:tot bg n≤1073740000):ak C jl [cQ n,xh k] (G0 (di n k)) []:=by
 have hs: ∀s∈n,s.length≤1073741824:=fun s hm=>by have:=uJ (w:=bg) hm;unfold bg at this hl;omega
 have KH:=xu n az hs;have Qj:=tD n k;have Qk:=tE n k
 have tail: ∀(X:List (List Key)) (Q:QV),X=dK n k→Q (G0 (di n k)) []→ ∃(b22:Bool),ak C aB ([TV.ag [TC.sub 1 (X.map aZ)]]) (TV.c (iB b22)) []∧(aX b22 (Q (TV.tu [(1,[TC.sub 1 (X.map aZ)]),(0,[iB true])]) ([])) (∃(l23:RR),ak C aP ([TV.ag [TC.sub 1 (n.map aZ)]]) (TV.c (TC.sub 5 l23)) []∧(∃(l24:RR),ak C aJ ([TV.c (TC.sub 5 l23),xh k]) (TV.c (TC.sub 5 l24)) []∧(∃(l25:RR),ak C bT ([TV.c (TC.sub 5 l24)]) (TV.c (TC.sub 5 l25)) []∧(aX (ej 8 (Int.ofNat (List.length l25))) (∃(l26:RR),ak C aA ([TV.ag [TC.sub 1 (n.map aZ)]]) (TV.ag [TC.sub 1 l26]) []∧(Q (TV.tu [(1,[TC.sub 1 l26]),(0,[iB false])]) ([]))) (∃(l27:RR),ak C bf ([TV.c (TC.sub 5 l25)]) (TV.ag [TC.sub 1 l27]) []∧(∃(b28:Bool),ak C aB ([TV.ag [TC.sub 1 l27]]) (TV.c (iB b28)) []∧(aX (!b28) (∃(l29:RR),ak C aA ([TV.ag [TC.sub 1 (n.map aZ)]]) (TV.ag [TC.sub 1 l29]) []∧(Q (TV.tu [(1,[TC.sub 1 l29]),(0,[iB false])]) ([]))) (∃(l30:RR),ak C bf ([TV.c (TC.sub 5 l25)]) (TV.ag [TC.sub 1 l30]) []∧(Q (TV.tu [(1,[TC.sub 1 l30]),(0,[iB true])]) ([]))))))))))):=by
  intro X Q hX hQ;rw[←hX] at Qj Qk;have hok:ak C aB [cQ X] (vB (cK X)) []:=ki X az az;have hkl:=oT n k;have hnl:=mM (bX n k);have hnt:=mN (bX n k);have MC:ak C aB [cQ (cm (bX n k))] (vB (cK (cm (bX n k)))) []:=ki _ az az;refine⟨_,hok,?_⟩;unfold di at hQ;rw[←hX] at hQ
  cases h1:cK X with
  |true=>
   rw[aY h1] at hQ;exact au rfl hQ
  |false=>
   rw[aH (by rw[h1];simp)] at hQ;have g1:=fu n;have g2:=gG (aC n) k;refine aL rfl ⟨_,(pJ n az az _).2 rfl,_,fE (aC n) k az,_,sG (cj (aC n) k) az,?_⟩;change aX (ej 8 (Int.ofNat (List.length ((bX n k).map aT)))) _ _
   by_cases h2:8<(bX n k).length
   ·rw[aY h2] at hQ
    exact au ov ⟨_,KH,hQ⟩
   ·rw[aH h2] at hQ
    refine aL ov ⟨_,jn (bX n k) az,_,MC,?_⟩
    cases h3:cK (cm (bX n k)) with
    |true=>
     rw[aY h3] at hQ;exact aL rfl ⟨_,jn (bX n k) az,hQ⟩
    |false=>
     rw[aH (by rw[h3];simp)] at hQ;exact au rfl ⟨_,KH,hQ⟩
 refine(zG _ _ _ _ _ _ _ ⟨_,KH,?_⟩).run
 (try dsimp only)
 rw[dH]
 cases ig:n[n.length-1]? with
 |none=>
  have h0:n.length=0:=Classical.byContradiction fun h=>by rw[aO az] at ig;cases ig
  have hX:n++[[k]]=dK n k:=by unfold dK;rw[ig]
  refine aL (by rw[h0,gh dh];simp) (aL (by rw[h0,gh dh];simp) (au (gJ ov) ?_));rw[show List.append (n.map aZ) [[TC.sub 5 [[iI k.b,iI k.a,iI k.k,iI k.c,iI k.g]]]]=(n++[[k]]).map aZ from by simp[aZ,aT]];exact tail _ (fun r fs=>r=G0 (di n k)∧fs=[]) hX tT
 |some s=>
  have hlt:=(List.getElem?_eq_some_iff.1 ig).1
  have hsub:cZ (Int.ofNat n.length) 1=((n.length-1:Nat):Int):=by rw[gh ov];simp;omega
  have hrow:rowAt (n.map aZ) ((n.length-1:Nat):Int)=some [TC.sub 5 (s.map aT)]:=by rw[bG,bq,ig];rfl
  have MD:=hs s (dw ig);have qm:setRow (n.map aZ) ((n.length-1:Nat):Int) 0 [TC.sub 5 ((cj s k).map aT)]=(n.set (n.length-1) (cj s k)).map aZ:=zi (a:=s) (a':=cj s k) ig rfl
  have ME:List.append (n.map aZ) [[TC.sub 5 [[iI k.b,iI k.a,iI k.k,iI k.c,iI k.g]]]]=(n++[[k]]).map aZ:=by simp[aZ,aT]
  have hfit:fits (Nat.succ n.length) 24=true:=gJ ov;rw[hsub];refine au dh ⟨_,hrow,_,hrow,_,_,_,_,_,_,qR s k.b k.a MD,au dh ⟨_,hrow,_,hrow,?_⟩⟩
  by_cases h2:s.length<4
  ·have hX:n.set (n.length-1) (cj s k)=dK n k:=by unfold dK tC;rw[ig];simp[h2]
   refine au ov ⟨_,hrow,_,hrow,_,fE s k MD,_,hrow,_,hrow,?_⟩;rw[qm];exact tail _ (fun r fs=>r=G0 (di n k)∧fs=[]) hX tT
  ·refine aL ov ?_
   cases h1:(ny s k.b k.a).2 with
   |true=>
    have hX:n.set (n.length-1) (cj s k)=dK n k:=by unfold dK tC;rw[ig];simp[h1]
    refine au rfl ⟨_,hrow,_,hrow,_,fE s k MD,_,hrow,_,hrow,?_⟩;rw[qm];exact tail _ (fun r fs=>r=G0 (di n k)∧fs=[]) hX tT
   |false=>
    have hX:n++[[k]]=dK n k:=by unfold dK tC;rw[ig];simp[h1,h2]
    refine aL rfl (au hfit ?_);rw[ME];exact tail _ (fun r fs=>r=G0 (di n k)∧fs=[]) hX tT
attribute [local semireducible] dO cF in
theorem MQ {rows:RR} {i c:Nat} (hk:i+c≤rows.length):cF (dO 1 rows 0 (i:Int)) ((i:Int)+(c:Int)) (Int.ofNat rows.length)=rows.drop (i+c):=by
 unfold cF dO;rw[Hh,show((i:Int)+(c:Int)).toNat=i+c from by omega,show(0:Int).toNat=0 from rfl,show(Int.ofNat rows.length).toNat=rows.length from rfl,List.take_zero,mj,Nat.sub_zero];rw[KP ov,List.drop_append,List.length_replicate,AI dh,mj,List.drop_drop]
 congr 1;omega
theorem rX (b:List Int) (hb:b.length≤1048576):bL C cu [nw b] (fun r fs=>fs=[]∧ ∃h,r=tw b 0 h):=by
 refine Cy _ _ ?_
 have key: ∀(d i:Nat) (h:Int),i+d=4000→an C cu ai 4 0 (jq (b.map gi) h (i:Int)) (fun x st=>aV C cu ai x st fun r fs=>fs=[]∧ ∃h,r=tw b 0 h):=by
  intro d
  induction d with
  |zero=>
   intro i h hd;refine rz _ _ _ _ ?_
   by_cases h1:(i:Int)<(b.length:Int)
   ·exact au ov (aL ov (zR _ _ _ _ ⟨rfl,_,rfl⟩))
   ·exact aL ov (rA _ _ _ _ ⟨rfl,_,rfl⟩)
  |succ d ih=>
   intro i h hd;refine rz _ _ _ _ ?_
   by_cases h1:(i:Int)<(b.length:Int)
   ·refine au ov (au ov ⟨b[i]'az,by rw[bG,bq,aO az];rfl,?_⟩)
    rw[bQ (a:=(i:Int)) az];exact ih (i+1) _ az
   ·exact aL ov (rA _ _ _ _ ⟨rfl,_,rfl⟩)
 exact key 4000 0 _ rfl
theorem uV (b:List Int) (i h:Int) (hi:0≤i) (hb:b.length≤1048576):bL C iU [tw b i h] (Dr b fun r=> ∃x,r=vI x∧0≤x∧x≤255):=by
 refine AA _ _ _ _ ?_
 by_cases h1:i<(b.length:Int)
 ·obtain⟨x,hx⟩:=Bm hi h1
  refine au ov ⟨x,by rw[bG,hx];rfl,cP i 1,_,?_,rfl,_,rfl,I0 _⟩;rw[bQ az];omega
 ·exact aL ov ⟨i,_,hi,rfl,_,rfl,I0 _⟩
theorem eU (b:List Int) (i h:Int) (hi:0≤i) (hb:b.length≤1048576) (n:Int) (hn:n≤16777216):bL C cq [tw b i h,vI n] (Dr b fun r=> ∃x,r=vI x∧0≤x∧(0<n→x<n)):=by
 refine zU _ _ _ _ _ ?_
 by_cases h0:n≤0
 ·exact au ov ⟨i,h,hi,rfl,0,rfl,Int.le_refl _,fun h=>by omega⟩
 refine aL ov ?_
 by_cases h1:n≤256
 ·obtain⟨_,_,hr,i1,xb,hi1,rfl,x,rfl,x0,x1⟩:=uV b i h hi hb
  refine au ov ⟨x,_,i1,xb,hr,aL ov ⟨i1,xb,hi1,rfl,_,rfl,?_⟩⟩;rw[F2];have:=DP x0 (show 0<n by omega);exact⟨this.1,fun _=>this.2⟩
 ·obtain⟨_,_,hr,i1,xb,hi1,rfl,x,rfl,x0,x1⟩:=uV b i h hi hb
  obtain⟨_,_,BA,i2,Gn,hi2,rfl,y,rfl,y0,y1⟩:=uV b i1 xb hi1 hb;obtain⟨_,_,Se,i3,JA,CR,rfl,z,rfl,z0,z1⟩:=uV b i2 Gn hi2 hb;refine aL ov ⟨x,_,i1,xb,hr,y,_,i2,Gn,BA,z,_,i3,JA,Se,aL ov ⟨i3,JA,CR,rfl,_,rfl,?_⟩⟩;have e1:vU x 65536=x*65536:=Ce az;have e2:vU y 256=y*256:=Ce az;rw[F2,e1,e2,bQ (a:=x*65536) az,bQ az];have:=DP (show 0≤x*65536+y*256+z by omega) (show 0<n by omega);exact⟨this.1,fun _=>this.2⟩
theorem o5 (b:List Int) (i h:Int) (hi:0≤i) (hb:b.length≤1048576) (l:List Int) (h0:0<l.length) (hl:l.length≤1000):bL C fy [tw b i h,Nu l] (Dr b fun r=> ∃x,r=vI x∧x∈l):=by
 obtain⟨_,_,hr,i1,xb,hi1,rfl,x,rfl,x0,x1⟩:=eU b i h hi hb (l.length:Int) az;have:=x1 az;obtain⟨y,hy⟩:=Bm x0 this;refine CD _ _ _ _ _ ⟨x,_,i1,xb,by rw[dH];exact hr,y,by rw[bG,hy];rfl,i1,xb,hi1,rfl,y,rfl,IT hy⟩
theorem Kv (b:List Int):ak C zx [nw b] (vB (decide (1048576<b.length))) []:=by
 refine(Fi _ _ ⟨?_,by trivial⟩).run;simp<;>omega
theorem Mf {l:List Int} {x lo hi:Int} (h:x∈l) (ha:l.all (fun y=>decide (lo≤y∧y≤hi))=true):lo≤x∧x≤hi:=tX (List.all_eq_true.1 ha x h)
attribute [local semireducible] Hp in
theorem Qu {a:Int} (h0:0≤a) (h1:a≤9223372036854775807):Hp .i64 a 12=a/12:=by
 show IntKind.i64.wrap (a.tdiv 12)=_;rw[Int.tdiv_eq_ediv_of_nonneg h0];exact IntWalk.i64_in _ az
theorem oc (b:List Int) (i h:Int) (hi:0≤i) (hb:b.length≤1048576):bL C eA [tw b i h] (Dr b fun r=> ∃x,r=TV.ag (aT x)∧c7 x=true):=by
 refine Au _ _ _ _ ?_;refine gK (eU b _ _ hi hb _ (by first|omega|(simp<;>omega))) fun n3 i1 h1 hi1 hx1=> ?_;refine gK (eU b _ _ hi1 hb _ (by first|omega|(simp<;>omega))) fun n7 i2 h2 hi2 CS=> ?_;refine gK (o5 b _ _ hi2 hb [0,1,1,1,2] dh dh) fun n11 i3 h3 CR Ow=> ?_;refine gE (fun e=> ?_) fun e=> ?_
 ·refine gK (eU b _ _ CR hb _ (by first|omega|(simp<;>omega))) fun n15 i4 h4 M7 O4=> ?_
  refine gK (o5 b _ _ M7 hb [0,1,256,999] dh dh) fun n19 i5 h5 Ql Q2=> ?_;have p1:=hx1.2 az;have p2:=CS.2 az;have p3:=Mf Ow (lo:=0) (hi:=2) rfl;have q1:=hx1.1;have q2:=CS.1;have p4:=O4.2 az;have q4:=O4.1;have p5:=Mf Q2 (lo:=0) (hi:=999) rfl;have e1:=tX ((fX _ _).symm.trans e);exact fY Ql ⟨⟨n3,cP 1 n7,n11,n15,n19⟩,rfl,by rw[bQ az];exact Jc az az az (.inl ⟨e1,by omega⟩)⟩
 ·have p1:=hx1.2 az
  have p2:=CS.2 az;have p3:=Mf Ow (lo:=0) (hi:=2) rfl;have q1:=hx1.1;have q2:=CS.1;have e1:=of_decide_eq_false ((fX _ _).symm.trans e);exact fY CR ⟨⟨n3,cP 1 n7,n11,0,0⟩,rfl,by rw[bQ az];exact Jc az az az (.inr ⟨e1,rfl,rfl⟩)⟩
theorem Gh (b:List Int) (i h:Int) (hi:0≤i) (hb:b.length≤1048576):bL C oW [tw b i h] (Dr b fun r=> ∃x,r=TV.ag (aT x)∧True):=by
 refine CA _ _ _ _ ?_;refine tH (oc b _ _ hi hb) fun k1 i1 h1 hi1 hx1=> ?_;refine gK (eU b _ _ hi1 hb _ (by first|omega|(simp<;>omega))) fun n11 i2 h2 hi2 CS=> ?_;refine gE (fun e=> ?_) fun e=> ?_
 ·refine gK (o5 b _ _ hi2 hb [(-1),15,16] dh dh) fun n15 i3 h3 CR Ow=> ?_
  exact fY CR ⟨⟨n15,k1.a,k1.k,k1.c,k1.g⟩,rfl,trivial⟩
 ·refine gE (fun e=> ?_) fun e=> ?_
  ·refine gK (o5 b _ _ hi2 hb [0,60,61] dh dh) fun n19 i4 h4 M7 O4=> ?_
   exact fY M7 ⟨⟨k1.b,n19,k1.k,k1.c,k1.g⟩,rfl,trivial⟩
  ·refine gE (fun e=> ?_) fun e=> ?_
   ·refine gK (o5 b _ _ hi2 hb [(-1),3] dh dh) fun n23 i5 h5 Ql Q2=> ?_
    exact fY Ql ⟨⟨k1.b,k1.a,n23,k1.c,k1.g⟩,rfl,trivial⟩
   ·refine gE (fun e=> ?_) fun e=> ?_
    ·refine gK (o5 b _ _ hi2 hb [(-1),1,23,24] dh dh) fun n27 i6 h6 Sf Sv=> ?_
     exact fY Sf ⟨⟨k1.b,k1.a,k1.k,n27,k1.g⟩,rfl,trivial⟩
    ·refine gE (fun e=> ?_) fun e=> ?_
     ·refine gK (o5 b _ _ hi2 hb [(-1),1,999,1000] dh dh) fun n31 i7 h7 Sg Sw=> ?_
      exact fY Sg ⟨⟨k1.b,k1.a,k1.k,k1.c,n31⟩,rfl,trivial⟩
     ·exact fY hi2 ⟨⟨k1.b,k1.a,k1.k,k1.c,k1.g⟩,rfl,trivial⟩
theorem Jh (b:List Int) (i h:Int) (hi:0≤i) (hb:b.length≤1048576) (n:Int) (h0:0≤n) (hn:n≤100):bL C dM [tw b i h,vI n] (Dr b fun r=> ∃l:List Key,r=TV.c (TC.sub 5 (l.map aT))∧(l.length:Int)≤n):=by
 refine As _ _ _ _ _ ?_;rw[bQ az];refine gK (eU b _ _ hi hb _ az) fun x i1 h1 hi1 hx=> ?_;have hx1:=hx.2 az
 have key: ∀(d:Nat) (i h:Int) (l:List Key),0≤i→(l.length:Int)+d≤n→an C dM ai 4 0 (iy (d:Int) (b.map gi) i h (l.map aT)) (fun x st=>aV C dM ai x st (Dr b fun r=> ∃l:List Key,r=TV.c (TC.sub 5 (l.map aT))∧(l.length:Int)≤n)):=by
  intro d
  induction d with
  |zero=>
   intro i h l hi hl;exact qb _ _ _ _ _ _ (aL dh (xG _ _ _ _ _ _ _ (fY hi ⟨l,rfl,by omega⟩)))
  |succ d ih=>
   intro i h l hi hl;have e:cZ ((d+1:Nat):Int) 1=(d:Int):=(gh az).trans az;refine qb _ _ _ _ _ _ (au ov (tH (oc b _ _ hi hb) fun k i2 h2 hi2 _=>⟨_,fE l k az,?_⟩));rw[e];exact ih _ _ _ hi2 (by have:=gG l k;omega)
 obtain⟨d,rfl⟩: ∃d:Nat,x=(d:Int):=⟨x.toNat,by omega⟩;exact key d _ _ [] hi1 rZ
theorem Gi (b:List Int) (i h:Int) (hi:0≤i) (hb:b.length≤1048576) (n:Int) (h0:0≤n) (hn:n≤100):bL C oX [tw b i h,vI n] (Dr b fun r=> ∃l:List Key,r=TV.c (TC.sub 5 (l.map aT))∧(l.length:Int)≤n+1):=by
 refine CB _ _ _ _ _ (Ck (e:=aT) (Jh b _ _ hi hb n h0 hn) fun l i1 h1 hi1 hl=>gK (eU b _ _ hi1 hb _ az) fun x i2 h2 hi2 hx=>gE (fun e0=> ?_) fun e0=>gE (fun e1=>gE (fun e2=> ?_) fun e2=> ?_) fun e1=> ?_)
 ·refine tH (Gh b _ _ hi2 hb) fun k i3 h3 CR _=>au ?_ (fY CR ⟨l++[k],by simp[aT],by simp;omega⟩)
  rw[gJ ov];simp
 ·have rY:1<l.length:=by have:(1:Int)<l.length:=by simpa using e2
                         omega
  have g0:iH l 0=some l[0]:=by rw[show(0:Int)=((0:Nat):Int) from rfl,bq];exact aO az
  have g1:iH l 1=some l[1]:=by rw[show(1:Int)=((1:Nat):Int) from rfl,bq];exact aO rY
  have r0:rowAt (l.map aT) 0=some (aT l[0]):=by rw[bG,g0];rfl
  have r1:rowAt (l.map aT) 1=some (aT l[1]):=by rw[bG,g1];rfl
  have s0:setRow (l.map aT) 0 0 (aT l[1])=(vT l 0 l[1]).map aT:=w4 g0 (a':=l[1]) rfl
  have g2:iH (vT l 0 l[1]) 1=some l[1]:=by
   rw[show(1:Int)=((1:Nat):Int) from rfl,bq];unfold vT;rw[List.getElem?_set_ne dh,aO rY]
  have r2:rowAt ((vT l 0 l[1]).map aT) 1=some (aT l[1]):=by rw[bG,g2];rfl
  have r3:rowAt (setRow (l.map aT) 0 0 (aT l[1])) 1=some (aT l[1]):=by rw[s0];exact r2
  have s1:setRow ((vT l 0 l[1]).map aT) 1 0 (aT l[0])=(vT (vT l 0 l[1]) 1 l[0]).map aT:=w4 g2 (a':=l[0]) rfl;refine⟨_,_,_,_,_,r0,_,_,_,_,_,r0,_,_,_,_,_,r1,_,_,_,_,_,r1,_,_,_,_,_,r0,_,_,_,_,_,r0,_,_,_,_,_,r3,_,_,_,_,_,r3,fY hi2 ⟨vT (vT l 0 l[1]) 1 l[0],?_,by rw[wZ,wZ];omega⟩⟩;show TV.c (TC.sub 5 (setRow (setRow (l.map aT) 0 0 (aT l[1])) 1 0 (aT l[0])))=_;rw[s0,s1]
 ·exact fY hi2 ⟨l,rfl,by omega⟩
 ·exact fY hi2 ⟨l,rfl,by omega⟩
theorem Ji (b:List Int) (i h:Int) (hi:0≤i) (hb:b.length≤1048576):bL C cR [tw b i h] (Dr b fun r=> ∃x:List (List Key),r=TV.ag [TC.sub 1 (x.map aZ)]∧cK x=true):=by
 refine Ap _ _ _ _ (gK (eU b _ _ hi hb _ az) fun x i1 h1 hi1 hx=> ?_);have hx1:=hx.2 az
 have key: ∀(d:Nat) (i h:Int) (n:List (List Key)),d≤100→0≤i→cK n=true→an C cR ai 4 0 (iu (d:Int) (b.map gi) i h (n.map aZ)) (fun x st=>aV C cR ai x st (Dr b fun r=> ∃x:List (List Key),r=TV.ag [TC.sub 1 (x.map aZ)]∧cK x=true)):=by
  intro d
  induction d with
  |zero=>
   intro i h n hd hi hn;exact p7 _ _ _ _ _ _ (aL dh (xC _ _ _ _ _ _ _ (fY hi ⟨n,rfl,hn⟩)))
  |succ d ih=>
   intro i h n hd hi hn;have hs:=vY hn;have e:cZ ((d+1:Nat):Int) 1=(d:Int):=(gh az).trans az;refine p7 _ _ _ _ _ _ (au ov (tH (oc b _ _ hi hb) fun k i2 h2 hi2 _=>⟨_,_,jM n k az az,?_⟩));rw[e];exact ih _ _ _ az hi2 (w8 hn k)
 obtain⟨d,rfl⟩: ∃d:Nat,x=(d:Int):=⟨x.toNat,by omega⟩
 cases d with
 |zero=>exact p6 _ _ _ _ _ (aL dh (xB _ _ _ _ _ _ (fY hi1 ⟨[],rfl,by decide+kernel⟩)))
 |succ d=>
  have e:cZ ((d+1:Nat):Int) 1=(d:Int):=(gh az).trans az;refine p6 _ _ _ _ _ (au ov (tH (oc b _ _ hi1 hb) fun k i2 h2 hi2 _=>⟨_,_,jM [] k (so _) (so _),?_⟩));rw[e];exact key d _ _ _ az hi2 (w8 (by decide+kernel) k)
theorem zC (n m:List (List Key)):cT (n++m)=cT n+cT m:=by
 unfold cT;rw[cE,Ga];omega
theorem uW (b:List Int) (i h:Int) (hi:0≤i) (hb:b.length≤1048576):bL C iK [tw b i h] (Dr b fun r=> ∃x:List (List Key),r=TV.ag [TC.sub 1 (x.map aZ)]∧cT x≤40):=by
 refine Cw _ _ _ _ (rW (Ji b _ _ hi hb) fun n i1 h1 hi1 hn=>gK (eU b _ _ hi1 hb _ az) fun x i2 h2 hi2 hx=> ?_);have hs:=vY hn;have hz:=Fa hn;refine gE (fun e0=> ?_) fun e0=>gE (fun e1=> ?_) fun e1=>fY hi2 ⟨n,rfl,by omega⟩
 ·refine Ck (e:=aT) (Gi b _ _ hi2 hb 6 az az) fun l i3 h3 CR hl=>au (gJ ov) (fY CR ⟨n++[l],by simp[aZ],?_⟩)
  rw[zC]
  have:cT [l]=1+l.length:=by simp[cT,tot,bg]
  omega
 ·refine tH (oc b _ _ hi2 hb) fun k i3 h3 CR _=> ?_
  obtain⟨_,_,hr,i4,h4,M7,rfl,k2,rfl,_⟩:=oc b i3 h3 CR hb;have hfit:fits (Nat.succ (Nat.succ (List.length (n.map aZ)))) 24=true:=gJ ov;refine⟨(TV.ag [TC.sub 1 ((n++[[k],[k2]]).map aZ)],[tw b i4 h4]),?_,?_,fY M7 ⟨_,rfl,?_⟩⟩
  ·refine⟨k2.b,k2.a,k2.k,k2.c,k2.g,_,i4,h4,hr,?_⟩
   exact au hfit (by simp[aZ,aT])
  ·refine⟨k2.b,k2.a,k2.k,k2.c,k2.g,_,i4,h4,hr,(TV.ag [TC.sub 1 ((n++[[k],[k2]]).map aZ)],[tw b i4 h4]),?_,?_,rfl⟩
   ·exact au hfit (by simp[aZ,aT])
   ·exact au hfit (by simp[aZ,aT])
  ·rw[zC]
   have:cT [[k],[k2]]=4:=by simp[cT,tot,bg]
   omega
theorem Cp (b:List Int) (hb:b.length≤1048576):bL C kf [nw b] (fun r fs=>fs=[]∧ ∃n:List (List Key),r=cQ n∧cT n≤40):=by
 refine ve _ _ ?_;refine v7 (rX b hb) fun h1=> ?_;refine rW (uW b _ _ (Int.le_refl 0) hb) fun v2 i2 h2 hi2 CS=> ?_;exact⟨rfl,_,rfl,CS⟩
theorem zE (b:List Int) (hb:b.length≤1048576):bL C jk [nw b] (fun r fs=>fs=[]∧ ∃n:List (List Key),r=cQ n∧cT n≤40):=by
 refine r7 _ _ ?_;refine v7 (rX b hb) fun h1=> ?_;refine rW (uW b _ _ (Int.le_refl 0) hb) fun v2 i2 h2 hi2 CS=> ?_;exact⟨rfl,_,rfl,CS⟩
theorem zF (b:List Int) (hb:b.length≤1048576):bL C jm [nw b] (fun r fs=>fs=[]∧ ∃n:List (List Key),r=cQ n∧cT n≤40):=by
 refine r8 _ _ ?_;refine v7 (rX b hb) fun h1=> ?_;refine rW (uW b _ _ (Int.le_refl 0) hb) fun v2 i2 h2 hi2 CS=> ?_;exact⟨rfl,_,rfl,CS⟩
theorem Am (b:List Int) (hb:b.length≤1048576):bL C jL [nw b] (fun r fs=>fs=[]∧ ∃l:List Key,r=bR l∧l.length≤20):=by
 refine tP _ _ ?_;refine v7 (rX b hb) fun h1=> ?_;refine Ck (Gi b _ _ (Int.le_refl 0) hb 8 az az) fun v2 i2 h2 hi2 CS=> ?_;exact⟨rfl,v2,rfl,by omega⟩
theorem Cq (b:List Int) (hb:b.length≤1048576):bL C kg [nw b] (fun r fs=>fs=[]∧ ∃(n:List (List Key)) (x y:Int),r= .tu [(1,[.sub 1 (n.map aZ)]),(0,[iI x]),(0,[iI y])]∧cT n≤40):=by
 refine u0 _ _ ?_;refine v7 (rX b hb) fun h1=> ?_;refine rW (uW b _ _ (Int.le_refl 0) hb) fun v2 i2 h2 hi2 CS=> ?_;refine gK (eU b _ _ hi2 hb _ (by first|omega|(simp<;>omega))) fun n8 i3 h3 CR Ow=> ?_;refine gK (eU b _ _ CR hb _ (by first|omega|(simp<;>omega))) fun n12 i4 h4 M7 O4=> ?_;exact⟨rfl,v2,_,_,rfl,CS⟩
theorem Ao (b:List Int) (hb:b.length≤1048576):bL C jK [nw b] (fun r fs=>fs=[]∧ ∃(n:List (List Key)) (k:Key),r= .tu [(1,[.sub 1 (n.map aZ)]),(1,aT k)]∧cT n≤40):=by
 refine tO _ _ ?_;refine v7 (rX b hb) fun h1=> ?_;refine rW (uW b _ _ (Int.le_refl 0) hb) fun v2 i2 h2 hi2 CS=> ?_;refine tH (Gh b _ _ hi2 hb) fun k3 i3 h3 CR Ow=> ?_;exact⟨rfl,v2,k3,rfl,CS⟩
theorem mT (l:List Key) (hl:l.length≤1073741824):ak C cU [bR l,bR l] (vB true) []:=by
 refine(xM _ _ _ ?_).run;refine aL dh ?_;refine dj l (fun i=>an C cU ai 4 0 (gl (l.map aT) (l.map aT) i) _) ?_ ?_
 ·exact m8 _ _ _ _ (aL dh (u7 _ _ _ _ _ tT))
 ·intro i a hi ha _ _ hn
  refine m8 _ _ _ _ (au ov ?_);simp only[ke,bq,ha,aE,kJ];refine aL dh ?_;rw[bQ az];exact hn
theorem jo (n:List (List Key)) (hz:cT n≤4194304):ak C cD [cQ n,cQ n] (vB true) []:=by
 refine(xy _ _ _ ?_).run;refine aL dh ?_
 have hN:n.length≤4194304:=by unfold cT at hz;omega
 refine dj n (fun i=>an C cD ai 4 0 (gj i (n.map aZ) (n.map aZ)) _) ?_ ?_
 ·exact m0 _ _ _ _ (aL dh (uZ _ _ _ _ _ tT))
 ·intro i a hi ha _ _ hn
  have h1:bg a≤tot bg n:=Ch (w:=bg) ha;have e2:bg a=a.length:=rfl
  have hl:a.length≤1073741824:=by unfold cT at hz;omega
  have hr:rowAt (n.map aZ) (i:Int)=some [TC.sub 5 (a.map aT)]:=by rw[bG,bq,ha];rfl
  refine m0 _ _ _ _ (au ov ?_);rw[bQ az]
  repeat' first
   |refine⟨_,hr,?_⟩
   |refine⟨_,mT a hl,?_⟩
   |refine aL rfl ?_
  exact hn
theorem xw (b:List Int):ak C jJ [nw b] (vB true) []:=by
 refine(tL _ _ ⟨_,Kv b,?_⟩).run
 by_cases hb:1048576<b.length
 ·exact au ov tT
 have hb:b.length≤1048576:=by omega
 obtain⟨_,_,e1,rfl,n1,rfl,h1⟩:=Cp b hb;obtain⟨_,_,e2,rfl,n2,x2,y2,rfl,h2⟩:=Cq b hb;obtain⟨_,_,e3,rfl,n3,rfl,h3⟩:=zE b hb;obtain⟨_,_,e4,rfl,n4,k4,rfl,h4⟩:=Ao b hb;obtain⟨_,_,e5,rfl,l5,rfl,h5⟩:=Am b hb;obtain⟨_,_,e6,rfl,n6,rfl,h6⟩:=zF b hb;have z1:cT n1=n1.length+tot bg n1:=rfl;have z2:cT n2=n2.length+tot bg n2:=rfl;have z3:cT n3=n3.length+tot bg n3:=rfl;have z4:cT n4=n4.length+tot bg n4:=rfl;have z6:cT n6=n6.length+tot bg n6:=rfl
 have s2: ∀s∈n2,s.length≤1073741824:=fun s hs=>by have:=uJ (w:=bg) hs;have e:bg s=s.length:=rfl;omega
 refine aL ov ?_;refine⟨_,e1,?_⟩;refine⟨_,_,_,e2,?_⟩;refine⟨_,_,_,_,_,_,xq n2 x2 y2 az s2,?_⟩;refine⟨_,_,_,_,_,_,xp n2 x2 y2 az s2,?_⟩;refine⟨_,e3,?_⟩;refine⟨_,_,_,_,_,_,e4,?_⟩;refine⟨_,_,wq n4 k4 az az,?_⟩;refine⟨_,_,jM n4 k4 az az,?_⟩;refine⟨_,e5,?_⟩;refine⟨_,e6,?_⟩;refine⟨_,kj n1 az az,?_⟩;refine⟨_,ki n1 az az,?_⟩;refine au dh (au dh ?_);refine au dh ?_;refine⟨_,mR n3 az az,?_⟩;refine⟨_,mQ n3 az az,?_⟩
 refine⟨_,mT _ (by have:=fu n3;omega),?_⟩;refine au dh (au dh ?_);refine⟨_,jo _ (by have:=DV n4 k4;omega),?_⟩;refine au dh ?_;refine⟨_,mS l5 az,?_⟩;refine⟨_,jn l5 az,?_⟩;refine⟨_,jo _ (by have:=zn l5;omega),?_⟩;refine au dh ?_;refine⟨_,uT n6 az az,?_⟩;refine⟨_,uS n6 az az,?_⟩;refine⟨_,jo _ (by have:=zn (aC n6);have:=fu n6;show cT (cm (aC n6))≤_;omega),?_⟩;exact tT
theorem Mg {n z:Nat} (h:n*z≤reachBytes) (hz:1≤z):n≤140737488355328:=by
 have:reachBytes≤140737488355328:=by decide
 have h2:n*1≤n*z:=Nat.mul_le_mul_left n hz;omega
theorem Kw {r:List TC} (h:vM C.tt Gf r): ∃n:Int,r=gi n∧(0≤n∧n≤255):=by
 obtain⟨n,rfl,h1⟩:=h.Ki (k:= .u8) Gg;exact⟨n,rfl,Nr h1⟩
theorem Fg {r:List TC} (h:vM C.tt nZ r): ∃l:List (Int),r=[.sub 1 (l.map gi)]∧l.length≤140737488355328∧ ∀x∈l,0≤x∧x≤255:=by
 obtain⟨w,rfl,y,z⟩:=h.GW (e:=Gf) Gg;obtain⟨l,rfl,hl⟩:=zj fun r hr=>Kw (y r hr);rw[dH] at z;exact⟨l,rfl,Mg z (by decide+kernel),hl⟩
theorem Kx {v:TV} (h:KZ C.tt nZ v): ∃l:List Int,v=nw l∧l.length≤140737488355328∧ ∀x∈l,0≤x∧x≤255:=by
 have ht:(C.tt nZ).ti= .slice 5:=by kernel_rfl
 cases h with
 |c _ hw=>
  obtain⟨l,h1,h2,h3⟩:=Fg hw
  cases h1
  exact⟨l,rfl,h2,h3⟩
 |ag h1 _=>rw[ht] at h1;cases h1
theorem xx (vs:List TV) (h:DJ C.tt [nZ] vs): ∃k,dz C k jJ vs (vB true) []:=by
 cases h with
 |cons h0 h=>
  cases h
  obtain⟨b,rfl,_⟩:=Kx h0;exact xw b
end Go.T.R
