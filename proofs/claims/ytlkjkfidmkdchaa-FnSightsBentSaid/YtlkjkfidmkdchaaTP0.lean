import Derived.Test.YtlkjkfidmkdchaaTR0
set_option linter.all false
set_option maxRecDepth 100000
set_option maxHeartbeats 4000000
namespace Go.T.R
open Go Go.T
theorem Lb {P:Prop} (h:P:=by kernel_rfl):P:=h
theorem Of (a b c:Int):aq C jk [vI a,vI b,vI c] (vB (Cq a b c)) []:=by
 refine(I1 _ _ _ _ ?_).run;simp only[oV,dP,Cq]
 split<;>simp_all<;>omega
@[simp] theorem Ka (a b c:Int) (q:Bool):aq C jk [vI a,vI b,vI c] (vB q) []↔q=Cq a b c:=Dh (Of a b c)
theorem DA (b a k c g:Int):aq C o7 [.ag [iI b,iI a,iI k,iI c,iI g]] (vB (cT ⟨b,a,k,c,g⟩)) []:=by
 refine(GW _ _ _ _ _ _ ?_).run;simp only[Ka,gm,cT,eZ,cL,dP]
 cases Cq b 0 15<;>cases Cq a 1 60<;>cases Cq k 0 2<;>by_cases h:k=1<;>by_cases h1:c=0<;>by_cases h2:g=0<;>cases Cq c 0 23<;>simp_all
@[simp] theorem zi (b a k c g:Int) (q:Bool):aq C o7 [.ag [iI b,iI a,iI k,iI c,iI g]] (vB q) []↔q=cT ⟨b,a,k,c,g⟩:=Dh (DA b a k c g)
@[simp] theorem DB (b a k c g b' a' k' c' g':Int) (q:Bool):aq C sy [.ag [iI b,iI a,iI k,iI c,iI g],.ag [iI b',iI a',iI k',iI c',iI g']] (vB q) []↔q=bX ⟨b,a,k,c,g⟩ ⟨b',a',k',c',g'⟩:=Dh (by
  refine(DK _ _ _ _ _ _ _ _ _ _ _ ?_).run;simp only[nD,eZ,dP,bX]
  by_cases h1:b<b'<;>by_cases h2:b=b'<;>simp_all)
@[simp] theorem vw (b a k c g b' a' k' c' g':Int) (q:Bool):aq C oB [.ag [iI b,iI a,iI k,iI c,iI g],.ag [iI b',iI a',iI k',iI c',iI g']] (vB q) []↔q=bX ⟨b,a,k,c,g⟩ ⟨b',a',k',c',g'⟩:=Dh (by
  refine(DW _ _ _ _ _ _ _ _ _ _ _ ?_).run;simp only[nD,eZ,cL,dP,bX]
  by_cases h2:b=b'<;>simp_all)
@[simp] theorem Bq (b a k c g b' a' k' c' g':Int) (q:Bool):aq C kH [.ag [iI b,iI a,iI k,iI c,iI g],.ag [iI b',iI a',iI k',iI c',iI g']] (vB q) []↔q=fF ⟨b,a,k,c,g⟩ ⟨b',a',k',c',g'⟩:=Dh (by
  refine(BY _ _ _ _ _ _ _ _ _ _ _ ?_).run;simp only[nD,eZ,cL,dP,fF]
  by_cases h2:b=b'<;>simp_all)
@[simp] theorem Br (b a k c g b' a' k' c' g':Int) (q:Bool):aq C kJ [.ag [iI b,iI a,iI k,iI c,iI g],.ag [iI b',iI a',iI k',iI c',iI g']] (vB q) []↔q=fF ⟨b,a,k,c,g⟩ ⟨b',a',k',c',g'⟩:=Dh (by
  refine(B6 _ _ _ _ _ _ _ _ _ _ _ ?_).run;simp only[nD,eZ,cL,dP,fF]
  by_cases h2:b=b'<;>simp_all)
theorem gz (l:List Key) (x:Key) (hl:l.length≤1073741824):aq C aV [cj l,JV x] (cj (cm l x)) []:=by
 refine(ER _ _ _ _ _ _ _ ?_).run
 have key: ∀(put:Bool) (acc:List Key),acc.length+(l.drop 0).length≤l.length+(if put then 1 else 0)→acc++cu x put (l.drop 0)=cm l x→aj C aV aK 4 0 (dA (l.map bn) put ((0:Nat):Int) x.b x.a x.k x.c x.g (acc.map bn)) (fun u st=>aL C aV aK u st fun r fs=>r=cj (cm l x)∧fs=[]):=by
  refine ck l (fun i=> ∀(put:Bool) (acc:List Key),acc.length+(l.drop i).length≤l.length+(if put then 1 else 0)→acc++cu x put (l.drop i)=cm l x→aj C aV aK 4 0 (dA (l.map bn) put i x.b x.a x.k x.c x.g (acc.map bn)) _) ?_ ?_
  ·intro put acc hb he
   refine uD _ _ _ _ _ _ _ _ _ _ (aH cY (B8 _ _ _ _ _ _ _ _ _ _ _ ?_));simp only[qb,dR,iN,eA,cL,cH,cG]
   have hb2:acc.length≤l.length+1:=by simp at hb;split at hb<;>omega
   rw[dg az];rw[iQ] at he
   cases put<;>simp[cu] at he ⊢ <;>rw[←he]<;>simp
  ·intro i a hi ha hd _ hn put acc hb he
   rw[hd] at hb he;simp only[eB] at hb
   have hb':acc.length+(List.drop (i+1) l).length+1≤l.length+1:=by split at hb<;>omega
   refine uD _ _ _ _ _ _ _ _ _ _ (ak kZ ?_);simp only[lu,aW,ha,aT,iR,vw,Br,gm,cL,dR,qb,iN,eA,cH,cG,bZ,gl];simp (disch:=omega) only[dg,aZ,rm];simp only[cu] at he
   cases put<;>cases hk:bX a x<;>cases hs:fF a x<;>simp only[rm,FA]<;>simp[hk,hs] at he hb<;>exact hn _ _ (by simp at hb ⊢;omega) (by simpa using he)
 exact key false [] cY rfl
@[simp] theorem Ek (l:List Key) (hl:l.length≤1073741824) (b a k c g:Int) (q:RR):aq C aV [.c (.sub 5 (l.map bn)),.ag [iI b,iI a,iI k,iI c,iI g]] (.c (.sub 5 q)) []↔q=(cm l ⟨b,a,k,c,g⟩).map bn:=LX (gz l ⟨b,a,k,c,g⟩ hl)
theorem Bs (l:List Key) (x:Key) (hl:l.length≤1073741824):aq C cJ [cj l,JV x] (cj (cm l x)) []:=by
 refine(Eu _ _ _ _ _ _ _ ?_).run
 have key: ∀(put:Bool) (acc:List Key),acc.length+(l.drop 0).length≤l.length+(if put then 1 else 0)→acc++cu x put (l.drop 0)=cm l x→aj C cJ aK 4 0 (dz put (l.map bn) ((0:Nat):Int) x.b x.a x.k x.c x.g (acc.map bn)) (fun u st=>aL C cJ aK u st fun r fs=>r=cj (cm l x)∧fs=[]):=by
  refine ck l (fun i=> ∀(put:Bool) (acc:List Key),acc.length+(l.drop i).length≤l.length+(if put then 1 else 0)→acc++cu x put (l.drop i)=cm l x→aj C cJ aK 4 0 (dz put (l.map bn) i x.b x.a x.k x.c x.g (acc.map bn)) _) ?_ ?_
  ·intro put acc hb he
   refine ue _ _ _ _ _ _ _ _ _ _ (aH cY (BH _ _ _ _ _ _ _ _ _ _ _ _ ?_));simp only[qb,dR,iN,eA,cL,cH,cG]
   have hb2:acc.length≤l.length+1:=by simp at hb;split at hb<;>omega
   rw[dg az];rw[iQ] at he
   cases put<;>simp[cu] at he ⊢ <;>rw[←he]<;>simp
  ·intro i a hi ha hd _ hn put acc hb he
   rw[hd] at hb he;simp only[eB] at hb
   have hb':acc.length+(List.drop (i+1) l).length+1≤l.length+1:=by split at hb<;>omega
   refine ue _ _ _ _ _ _ _ _ _ _ (ak kZ ?_);simp only[lu,aW,ha,aT,iR,DB,Bq,gm,cL,dR,qb,iN,eA,cH,cG,bZ,gl];simp (disch:=omega) only[dg,aZ,rm];simp only[cu] at he
   cases put<;>cases hk:bX a x<;>cases hs:fF a x<;>simp only[rm,FA]<;>simp[hk,hs] at he hb<;>exact hn _ _ (by simp at hb ⊢;omega) (by simpa using he)
 exact key false [] cY rfl
@[simp] theorem El (l:List Key) (hl:l.length≤1073741824) (b a k c g:Int) (q:RR):aq C cJ [.c (.sub 5 (l.map bn)),.ag [iI b,iI a,iI k,iI c,iI g]] (.c (.sub 5 q)) []↔q=(cm l ⟨b,a,k,c,g⟩).map bn:=LX (Bs l ⟨b,a,k,c,g⟩ hl)
theorem ya (old new:List Key) (hl:old.length+new.length≤1073741824):aq C cD [cj old,cj new] (cj (bq old new)) []:=by
 refine(AL _ _ _ ?_).run;rw[jh,dg kZ];refine ak rfl ?_
 have key: ∀(acc:List Key),acc.length+(new.drop 0).length≤old.length+new.length→bq acc (new.drop 0)=bq old new→aj C cD ah 4 0 (gh (new.map bn) ((0:Nat):Int) (acc.map bn)) (fun u st=>aL C cD ah u st fun r fs=>r=(cj (bq old new))∧fs=[]):=by
  refine ck new (fun i=> ∀(acc:List Key),acc.length+(new.drop i).length≤old.length+new.length→bq acc (new.drop i)=bq old new→aj C cD ah 4 0 (gh (new.map bn) i (acc.map bn)) (fun u st=>aL C cD ah u st fun r fs=>r=(cj (bq old new))∧fs=[])) ?_ ?_
  ·intro acc h0 h1
   refine pz _ _ _ _ (aH cY (yh _ _ _ _ _ ?_));rw[iQ] at h1;rw[←h1];exact jR
  ·intro i a hi ha hd ht hn acc h0 h1
   refine pz _ _ _ _ (ak kZ ?_);rw[hd] at h0 h1;simp only[eB] at h0;simp only[lu,Ek acc az,aW,ha,aT,iR,gm,cL,ff,iu,dR,fh,eg,fj,fk,iw,cH,natAdd,cG,bZ,gl,eA,kk];rw[aZ az];have h2:=gW acc a;exact hn _ az (by rw[←h1];rfl)
 exact key old cY rfl
theorem Au (old new:List Key) (hl:old.length+new.length≤1073741824) (q:RR):aq C cD [cj old,cj new] (.c (.sub 5 q)) []↔q=(bq old new).map bn:=LX (ya old new hl)
theorem qF (l:List Key) (hl:l.length≤1073741824):aq C bP [cj l] (cj (fG l)) []:=by
 refine(I0 _ _ ?_).run
 have key: ∀(acc:List Key),acc.length+(l.drop 0).length≤l.length→acc++fG (l.drop 0)=fG l→aj C bP ah 4 0 (jl (l.map bn) ((0:Nat):Int) (acc.map bn)) (fun u st=>aL C bP ah u st fun r fs=>r=(cj (fG l))∧fs=[]):=by
  refine ck l (fun i=> ∀(acc:List Key),acc.length+(l.drop i).length≤l.length→acc++fG (l.drop i)=fG l→aj C bP ah 4 0 (jl (l.map bn) i (acc.map bn)) (fun u st=>aL C bP ah u st fun r fs=>r=(cj (fG l))∧fs=[])) ?_ ?_
  ·intro acc h0 h1
   refine xu _ _ _ _ (aH cY (EG _ _ _ _ _ ?_));rw[iQ] at h1;simp[fG] at h1;simp[fG,h1]
  ·intro i a hi ha hd ht hn acc h0 h1
   refine xu _ _ _ _ (ak kZ ?_);rw[hd] at h0 h1;simp only[eB] at h0;simp only[lu,qb,iN,eZ,dP,aW,ha,aT,iR,gm,cL,ff,iu,dR,fh,eg,fj,fk,iw,cH,natAdd,cG,bZ,gl,eA,kk];simp (disch:=omega) only[dg,aZ,rm]
   by_cases hk:a.k=0
   ·rw[aY hk]
    exact hn _ az (by rw[←h1];simp[fG,hk])
   ·rw[aO hk]
    exact hn (acc++[a]) (by simp only[bZ,gl];omega) (by rw[←h1];simp[fG,hk])
 exact key [] cY rfl
theorem qf (n:List (List Key)) (hb:n.length≤1073741824) (hl:tot bS n≤1073741824):aq C aD [nc n] (cj (an n)) []:=by
 refine(BA _ _ ?_).run
 have key: ∀(acc:List Key),acc.length+tot bS (n.drop 0)≤tot bS n→(n.drop 0).foldl bq acc=lD n→aj C aD ah 4 0 (gQ ((0:Nat):Int) (n.map dr) (acc.map bn)) (fun u st=>aL C aD ah u st fun r fs=>r=(cj (an n))∧fs=[]):=by
  refine ck n (fun i=> ∀(acc:List Key),acc.length+tot bS (n.drop i)≤tot bS n→(n.drop i).foldl bq acc=lD n→aj C aD ah 4 0 (gQ i (n.map dr) (acc.map bn)) (fun u st=>aL C aD ah u st fun r fs=>r=(cj (an n))∧fs=[])) ?_ ?_
  ·intro acc h0 h1
   refine ql _ _ _ _ (aH cY (zu _ _ _ _ _ ?_));rw[iQ] at h0 h1;simp only[List.foldl_nil] at h1;refine⟨_,qF acc az,?_⟩;rw[h1];exact jR
  ·intro i a hi ha hd ht hn acc h0 h1
   refine ql _ _ _ _ (ak kZ ?_);rw[hd] at h0 h1;simp only[tot,bS] at h0;simp only[Am,Au acc a az,aW,ha,aT,iR,gm,cL,ff,iu,dR,fh,eg,fj,fk,iw,cH,natAdd,cG,bZ,gl,eA,kk];rw[aZ az];have h2:=mT a acc;exact hn _ az (by rw[←h1];rfl)
 exact key [] cY rfl
theorem dU (n:List (List Key)) (hb:n.length≤1073741824) (hl:tot bS n≤1073741824) (q:RR):aq C aD [.ag [.sub 1 (n.map dr)]] (.c (.sub 5 q)) []↔q=(an n).map bn:=LX (qf n hb hl)
theorem lX (t:Tree) (hl:cO t≤1073741824):aq C cE [dW t] (cj (av t)) []:=by
 refine(B1 _ _ _ ?_).run
 have key: ∀(acc:List Key),acc.length+tot aJ (t.nodes.drop 0)≤tot aJ t.nodes→acc++(t.nodes.drop 0).flatMap an=av t→aj C cE ah 4 0 (gU ((0:Nat):Int) (t.au.map c8) (t.nodes.map cc) (acc.map bn)) (fun u st=>aL C cE ah u st fun r fs=>r=(cj (av t))∧fs=[]):=by
  refine ck t.nodes (fun i=> ∀(acc:List Key),acc.length+tot aJ (t.nodes.drop i)≤tot aJ t.nodes→acc++(t.nodes.drop i).flatMap an=av t→aj C cE ah 4 0 (gU i (t.au.map c8) (t.nodes.map cc) (acc.map bn)) (fun u st=>aL C cE ah u st fun r fs=>r=(cj (av t))∧fs=[])) ?_ ?_
  ·intro acc h0 h1
   refine qp _ _ _ _ _ (aH cY (zz _ _ _ _ _ _ ?_));rw[iQ] at h1;simp at h1;simp[h1]
  ·intro i a hi ha hd ht hn acc h0 h1
   refine qp _ _ _ _ _ (ak (by have:=hi;unfold cO ov at hl;simp;omega) ?_);have hz:a.length+tot bS a≤tot aJ t.nodes:=ou (w:=aJ) ha;rw[hd] at h0 h1;simp only[tot,aJ] at h0;unfold cO ov at hl;have h2:=cM a;simp only[KZ,Cp,dU a az az,jh,aW,ha,aT,iR,gm,cL,ff,iu,dR,fh,eg,fj,fk,iw,cH,natAdd,cG,bZ,gl,eA,kk];rw[dg az,aZ az];refine ak rfl ?_;rw[←yt];exact hn _ kZ (by rw[←h1];simp)
 exact key [] cY rfl
theorem sP (t:Tree) (b:Int) (hl:cO t≤1073741824):aq C dK [dW t,vI b] (cj (dI t b)) []:=by
 refine(EE _ _ _ _ ?_).run;refine⟨_,lX t hl,?_⟩
 have key: ∀(acc:List Key),acc.length+((av t).drop 0).length≤(av t).length→acc++((av t).drop 0).filter (fun k=>decide (k.b=b))=dI t b→aj C dK aK 4 0 (gD b ((0:Nat):Int) (acc.map bn) ((av t).map bn)) (fun u st=>aL C dK aK u st fun r fs=>r=(cj (dI t b))∧fs=[]):=by
  refine ck (av t) (fun i=> ∀(acc:List Key),acc.length+((av t).drop i).length≤(av t).length→acc++((av t).drop i).filter (fun k=>decide (k.b=b))=dI t b→aj C dK aK 4 0 (gD b i (acc.map bn) ((av t).map bn)) (fun u st=>aL C dK aK u st fun r fs=>r=(cj (dI t b))∧fs=[])) ?_ ?_
  ·intro acc h0 h1
   refine ur _ _ _ _ _ (aH cY (BS _ _ _ _ _ _ ?_));rw[iQ] at h1;simp at h1;simp[h1]
  ·intro i a hi ha hd ht hn acc h0 h1
   refine ur _ _ _ _ _ (ak kZ ?_);rw[hd] at h0 h1;simp only[eB] at h0;have hz:=jW t;simp only[lu,qb,iN,eZ,dP,aW,ha,aT,iR,gm,cL,ff,iu,dR,fh,eg,fj,fk,iw,cH,natAdd,cG,bZ,gl,eA,kk];simp (disch:=omega) only[dg,aZ,rm]
   by_cases hk:a.b=b
   ·rw[aY hk]
    exact hn (acc++[a]) (by simp only[bZ,gl];omega) (by rw[←h1];simp[hk])
   ·rw[aO hk]
    exact hn _ az (by rw[←h1];simp[hk])
 exact key [] cY rfl
theorem zj (l:List Key) (hl:l.length≤2147483648):aq C qE [cj l] (cj l) []:=by
 refine(B2 _ _ ?_).run;rw[jh,dg kZ];exact jR
theorem yc (old new:List Key) (hl:old.length+new.length≤1073741824):aq C cC [cj old,cj new] (cj (bq old new)) []:=by
 refine(AK _ _ _ ?_).run;refine⟨_,zj old az,?_⟩
 have key: ∀(acc:List Key),acc.length+(new.drop 0).length≤old.length+new.length→bq acc (new.drop 0)=bq old new→aj C cC ah 4 0 (gf (new.map bn) ((0:Nat):Int) (acc.map bn)) (fun u st=>aL C cC ah u st fun r fs=>r=(cj (bq old new))∧fs=[]):=by
  refine ck new (fun i=> ∀(acc:List Key),acc.length+(new.drop i).length≤old.length+new.length→bq acc (new.drop i)=bq old new→aj C cC ah 4 0 (gf (new.map bn) i (acc.map bn)) (fun u st=>aL C cC ah u st fun r fs=>r=(cj (bq old new))∧fs=[])) ?_ ?_
  ·intro acc h0 h1
   refine pn _ _ _ _ (aH cY (yg _ _ _ _ _ _ ?_));rw[iQ] at h1;rw[←h1];exact jR
  ·intro i a hi ha hd ht hn acc h0 h1
   refine pn _ _ _ _ (ak kZ ?_);rw[hd] at h0 h1;simp only[eB] at h0;simp only[lu,El acc az,aW,ha,aT,iR,gm,cL,ff,iu,dR,fh,eg,fj,fk,iw,cH,natAdd,cG,bZ,gl,eA,kk];rw[aZ az];have h2:=gW acc a;exact hn _ az (by rw[←h1];rfl)
 exact key old cY rfl
theorem Av (old new:List Key) (hl:old.length+new.length≤1073741824) (q:RR):aq C cC [cj old,cj new] (.c (.sub 5 q)) []↔q=(bq old new).map bn:=LX (yc old new hl)
theorem Em (l:List Key) (hl:l.length≤1073741824):aq C fQ [cj l] (cj (fG l)) []:=by
 refine(I2 _ _ ?_).run
 have key: ∀(acc:List Key),acc.length+(l.drop 0).length≤l.length→acc++fG (l.drop 0)=fG l→aj C fQ ah 4 0 (jm (l.map bn) ((0:Nat):Int) (acc.map bn)) (fun u st=>aL C fQ ah u st fun r fs=>r=(cj (fG l))∧fs=[]):=by
  refine ck l (fun i=> ∀(acc:List Key),acc.length+(l.drop i).length≤l.length→acc++fG (l.drop i)=fG l→aj C fQ ah 4 0 (jm (l.map bn) i (acc.map bn)) (fun u st=>aL C fQ ah u st fun r fs=>r=(cj (fG l))∧fs=[])) ?_ ?_
  ·intro acc h0 h1
   refine xw _ _ _ _ (aH cY (EL _ _ _ _ _ _ ?_));rw[iQ] at h1;simp[fG] at h1;simp[fG,h1]
  ·intro i a hi ha hd ht hn acc h0 h1
   refine xw _ _ _ _ (ak kZ ?_);rw[hd] at h0 h1;simp only[eB] at h0;simp only[lu,qb,iN,eZ,dP,aW,ha,aT,iR,gm,cL,ff,iu,dR,fh,eg,fj,fk,iw,cH,natAdd,cG,bZ,gl,eA,kk];simp (disch:=omega) only[dg,aZ,rm]
   by_cases hk:a.k=0
   ·rw[aY hk]
    exact hn _ az (by rw[←h1];simp[fG,hk])
   ·rw[aO hk]
    exact hn (acc++[a]) (by simp only[bZ,gl];omega) (by rw[←h1];simp[fG,hk])
 exact key [] cY rfl
theorem zk (n:List (List Key)) (hb:n.length≤1073741824) (hl:tot bS n≤1073741824):aq C cS [nc n] (cj (an n)) []:=by
 refine(BP _ _ ?_).run
 have key: ∀(acc:List Key),acc.length+tot bS (n.drop 0)≤tot bS n→(n.drop 0).foldl bq acc=lD n→aj C cS ah 4 0 (gR (n.map dr) ((0:Nat):Int) (acc.map bn)) (fun u st=>aL C cS ah u st fun r fs=>r=(cj (an n))∧fs=[]):=by
  refine ck n (fun i=> ∀(acc:List Key),acc.length+tot bS (n.drop i)≤tot bS n→(n.drop i).foldl bq acc=lD n→aj C cS ah 4 0 (gR (n.map dr) i (acc.map bn)) (fun u st=>aL C cS ah u st fun r fs=>r=(cj (an n))∧fs=[])) ?_ ?_
  ·intro acc h0 h1
   refine qm _ _ _ _ (aH cY (zw _ _ _ _ _ _ ?_));rw[iQ] at h0 h1;simp only[List.foldl_nil] at h1;refine⟨_,Em acc az,?_⟩;rw[h1];exact jR
  ·intro i a hi ha hd ht hn acc h0 h1
   refine qm _ _ _ _ (ak kZ ?_);rw[hd] at h0 h1;simp only[tot,bS] at h0;simp only[Am,Av acc a az,aW,ha,aT,iR,gm,cL,ff,iu,dR,fh,eg,fj,fk,iw,cH,natAdd,cG,bZ,gl,eA,kk];rw[aZ az];have h2:=mT a acc;exact hn _ az (by rw[←h1];rfl)
 exact key [] cY rfl
theorem Bt (n:List (List Key)) (hb:n.length≤1073741824) (hl:tot bS n≤1073741824) (q:RR):aq C cS [.ag [.sub 1 (n.map dr)]] (.c (.sub 5 q)) []↔q=(an n).map bn:=LX (zk n hb hl)
theorem zl (t:Tree) (hl:cO t≤1073741824):aq C dy [dW t] (cj (av t)) []:=by
 refine(B0 _ _ _ ?_).run
 have key: ∀(acc:List Key),acc.length+tot aJ (t.nodes.drop 0)≤tot aJ t.nodes→acc++(t.nodes.drop 0).flatMap an=av t→aj C dy ah 4 0 (gT (t.nodes.map cc) ((0:Nat):Int) (acc.map bn)) (fun u st=>aL C dy ah u st fun r fs=>r=(cj (av t))∧fs=[]):=by
  refine ck t.nodes (fun i=> ∀(acc:List Key),acc.length+tot aJ (t.nodes.drop i)≤tot aJ t.nodes→acc++(t.nodes.drop i).flatMap an=av t→aj C dy ah 4 0 (gT (t.nodes.map cc) i (acc.map bn)) (fun u st=>aL C dy ah u st fun r fs=>r=(cj (av t))∧fs=[])) ?_ ?_
  ·intro acc h0 h1
   refine qo _ _ _ _ (aH cY (zy _ _ _ _ _ _ ?_));rw[iQ] at h1;simp at h1;simp[h1]
  ·intro i a hi ha hd ht hn acc h0 h1
   refine qo _ _ _ _ (ak (by have:=hi;unfold cO ov at hl;simp;omega) ?_);have hz:a.length+tot bS a≤tot aJ t.nodes:=ou (w:=aJ) ha;rw[hd] at h0 h1;simp only[tot,aJ] at h0;unfold cO ov at hl;have h2:=cM a;simp only[KZ,Cp,Bt a az az,jh,aW,ha,aT,iR,gm,cL,ff,iu,dR,fh,eg,fj,fk,iw,cH,natAdd,cG,bZ,gl,eA,kk];rw[dg az,aZ az];refine ak rfl ?_;rw[←yt];exact hn _ kZ (by rw[←h1];simp)
 exact key [] cY rfl
theorem sQ (t:Tree) (b:Int) (hl:cO t≤1073741824):aq C dJ [dW t,vI b] (cj (dI t b)) []:=by
 refine(Er _ _ _ _ ?_).run;refine⟨_,zl t hl,?_⟩
 have key: ∀(acc:List Key),acc.length+((av t).drop 0).length≤(av t).length→acc++((av t).drop 0).filter (fun k=>decide (k.b=b))=dI t b→aj C dJ ah 4 0 (gC b ((av t).map bn) ((0:Nat):Int) (acc.map bn)) (fun u st=>aL C dJ ah u st fun r fs=>r=(cj (dI t b))∧fs=[]):=by
  refine ck (av t) (fun i=> ∀(acc:List Key),acc.length+((av t).drop i).length≤(av t).length→acc++((av t).drop i).filter (fun k=>decide (k.b=b))=dI t b→aj C dJ ah 4 0 (gC b ((av t).map bn) i (acc.map bn)) (fun u st=>aL C dJ ah u st fun r fs=>r=(cj (dI t b))∧fs=[])) ?_ ?_
  ·intro acc h0 h1
   refine tZ _ _ _ _ _ (aH cY (BC _ _ _ _ _ _ _ ?_));rw[iQ] at h1;simp at h1;simp[h1]
  ·intro i a hi ha hd ht hn acc h0 h1
   refine tZ _ _ _ _ _ (ak kZ ?_);rw[hd] at h0 h1;simp only[eB] at h0;have hz:=jW t;simp only[lu,qb,iN,eZ,dP,aW,ha,aT,iR,gm,cL,ff,iu,dR,fh,eg,fj,fk,iw,cH,natAdd,cG,bZ,gl,eA,kk];simp (disch:=omega) only[dg,aZ,rm]
   by_cases hk:a.b=b
   ·rw[aY hk]
    exact hn (acc++[a]) (by simp only[bZ,gl];omega) (by rw[←h1];simp[hk])
   ·rw[aO hk]
    exact hn _ az (by rw[←h1];simp[hk])
 exact key [] cY rfl
theorem jO (l:List kg) (id:Int) (hl:l.length≤1073741824):aq C ct [m9 l,vI id] (vI (jx l id)) []:=by
 refine(GZ _ _ _ ?_).run
 have key:jX (fun a:kg=>decide (a.id=id)) (l.drop 0) ((0:Nat):Int)=jX (fun a:kg=>decide (a.id=id)) l 0→aj C ct aR 4 0 (jQ (l.map ef) id ((0:Nat):Int)) (fun u st=>aL C ct aR u st fun r fs=>r=vI (jx l id)∧fs=[]):=by
  refine ck l (fun i=>jX (fun a:kg=>decide (a.id=id)) (l.drop i) (i:Int)=jX (fun a:kg=>decide (a.id=id)) l 0→aj C ct aR 4 0 (jQ (l.map ef) id i) _) ?_ ?_
  ·intro h0
   refine vP _ _ _ _ (aH cY (DR _ _ _ _ _ ?_));rw[iQ] at h0;simp only[jX] at h0;change _=vI (jX (fun a:kg=>decide (a.id=id)) l 0)∧_;rw[←h0];exact jR
  ·intro i a hi ha hd Ln hn h0
   refine vP _ _ _ _ (ak kZ ?_);rw[hd] at h0;simp only[jX] at h0;simp only[Dg,eZ,dP,aW,ha,aT,iR,gm,cL,ff,iu,dR,fh,eg,fj,fk,iw,cH,natAdd,cG,bZ,gl,eA,kk];rw[aZ az]
   split at h0
   ·rename_i hp
    have hp:=oI hp
    first|rw[aY hp]|rw[aY hp.symm]
    refine DQ _ _ ?_;rw[h0];exact jR
   ·rename_i hp
    have hp: ¬_:=fun h=>hp (pN h)
    first|rw[aO hp]|rw[aO (fun h=>hp h.symm)]
    exact hn h0
 exact key rfl
@[simp] theorem DC (a b id:Int) (q:Bool):aq C oA [.ag [iI a,iI b],.bx [iI id]] (vB q) []↔q=decide (a=id):=Dh (by
  refine(D0 _ _ _ _ ?_).run
  simp)
theorem En (l:List kg) (id:Int) (hl:l.length≤1073741824):aq C bD [m9 l,.fn oA [[iI id]]] (vI (jx l id)) []:=by
 refine(kK _ _ _ ?_).run
 have key:jX (fun a:kg=>decide (a.id=id)) (l.drop 0) ((0:Nat):Int)=jX (fun a:kg=>decide (a.id=id)) l 0→aj C bD aR 4 0 (bK (l.map ef) ((0:Nat):Int) id) (fun u st=>aL C bD aR u st fun r fs=>r=vI (jx l id)∧fs=[]):=by
  refine ck l (fun i=>jX (fun a:kg=>decide (a.id=id)) (l.drop i) (i:Int)=jX (fun a:kg=>decide (a.id=id)) l 0→aj C bD aR 4 0 (bK (l.map ef) i id) _) ?_ ?_
  ·intro h0
   refine fu _ _ _ _ (aH cY (j6 _ _ _ _ _ _ ?_));rw[iQ] at h0;simp only[jX] at h0;change _=vI (jX (fun a:kg=>decide (a.id=id)) l 0)∧_;rw[←h0];exact jR
  ·intro i a hi ha hd Ln hn h0
   refine fu _ _ _ _ (ak kZ ?_);rw[hd] at h0;simp only[jX] at h0;simp only[Dg,eZ,DC,dP,aW,ha,aT,iR,gm,cL,ff,iu,dR,fh,eg,fj,fk,iw,cH,natAdd,cG,bZ,gl,eA,kk];rw[aZ az]
   split at h0
   ·rename_i hp
    have hp:=oI hp
    first|rw[aY hp]|rw[aY hp.symm]
    refine j5 _ _ _ ?_;rw[h0];exact jR
   ·rename_i hp
    have hp: ¬_:=fun h=>hp (pN h)
    first|rw[aO hp]|rw[aO (fun h=>hp h.symm)]
    exact hn h0
 exact key rfl
theorem DD (l:List kg) (id:Int) (hl:l.length≤1073741824):aq C xY [m9 l,vI id] (vI (jx l id)) []:=(G5 _ _ _ ⟨_,En l id hl,rfl,by trivial⟩).run
theorem GN (l:List kg) (id:Int) (hl:l.length≤1073741824) (q:Int):aq C ct [m9 l,vI id] (vI q) []↔q=jx l id:=RO (jO l id hl)
theorem sR (l:List kg) (id:Int) (hl:l.length≤1073741824):aq C eE [m9 l,vI id] (ru (pathOf l id)) []:=by
 refine(EH _ _ _ ⟨_,jO l id hl,?_⟩).run
 have key: ∀(n:Nat) (id':Int) (acc:List Int),acc.length+n=l.length+1→acc++vh l n id'=pathOf l id→aj C eE vz 4 0 (kV (l.map ef) (jx l id') (acc.map c8)) (fun u st=>aL C eE vz u st fun r fs=>r=ru (pathOf l id)∧fs=[]):=by
  intro n
  induction n with
  |zero=>
   intro id' acc h0 h1;simp only[vh,jD] at h1;refine nL _ _ _ _ (cN (fun _=> ?_) fun _=>uu _ _ _ _ (by rw[h1];exact jR));exact aH kZ (BT _ _ _ _ _ (by rw[h1];exact jR))
  |succ n ih=>
   intro id' acc h0 h1;simp only[vh] at h1
   by_cases h:jx l id'<0
   ·rw[aY h,jD] at h1
    exact nL _ _ _ _ (aH kZ (uu _ _ _ _ (by rw[h1];exact jR)))
   ·rw[aO h] at h1
    obtain⟨a,ha,he⟩:=FF l id' h;rw[ha] at h1;refine nL _ _ _ _ (ak kZ (ak kZ ?_));simp only[Dg,ha,aT,iR,NK,eA,cH,cG];rw[dg az];refine ak rfl ⟨_,jO l a.fr hl,?_⟩
    (try dsimp only)
    rw[K2];exact ih a.fr (acc++[a.id]) kZ (by rw[←h1,he];simp)
 exact key (l.length+1) id [] cY rfl
theorem sS (l:List kg) (id:Int) (hl:l.length≤1073741824):aq C eD [m9 l,vI id] (ru (pathOf l id)) []:=by
 refine(Ex _ _ _ ?_).run
 have key: ∀(n:Nat) (id':Int) (acc:List Int) (k:Nat),k+n=l.length+1→acc.length=k→acc++vh l n id'=pathOf l id→aj C eD ah 4 0 (kR (l.map ef) id' k (acc.map c8)) (fun u st=>aL C eD ah u st fun r fs=>r=ru (pathOf l id)∧fs=[]):=by
  intro n
  induction n with
  |zero=>
   intro id' acc k h0 h2 h1;simp only[vh,jD] at h1;refine uh _ _ _ _ _ (aH ?_ (BL _ _ _ _ _ _ _ (by rw[h1];exact jR)));rw[aZ kZ];simp;omega
  |succ n ih=>
   intro id' acc k h0 h2 h1;simp only[vh] at h1;refine uh _ _ _ _ _ (ak (by rw[aZ kZ];simp;omega) ⟨_,DD l id' hl,?_⟩)
   by_cases h:jx l id'<0
   ·rw[aY h,jD] at h1
    exact ak kZ (BK _ _ _ _ _ _ _ _ (by rw[h1];exact jR))
   ·rw[aO h] at h1
    obtain⟨a,ha,he⟩:=FF l id' h;rw[ha] at h1;refine aH kZ ?_;simp only[Dg,ha,aT,iR,NK,eA,cH,cG];rw[dg az];refine ak rfl ?_;rw[K2,aZ az];exact ih a.fr (acc++[id']) (k+1) az kZ (by rw[←h1];simp)
 exact key (l.length+1) id [] 0 cY rfl rfl
theorem DE (l:List Int) (n:Int) (hl:l.length≤1073741824):aq C eT [ru l,vI n] (vB (zd l n)) []:=by
 refine(GX _ _ _ ?_).run
 have key:(l.drop 0).any (fun a:Int=>decide (a=n))=l.any (fun a:Int=>decide (a=n))→aj C eT aR 4 0 (jP (l.map c8) n ((0:Nat):Int)) (fun u st=>aL C eT aR u st fun r fs=>r=vB (zd l n)∧fs=[]):=by
  refine ck l (fun i=>(l.drop i).any (fun a:Int=>decide (a=n))=l.any (fun a:Int=>decide (a=n))→aj C eT aR 4 0 (jP (l.map c8) n i) _) ?_ ?_
  ·intro h0
   refine vO _ _ _ _ (aH cY (DO _ _ _ _ _ ?_));rw[iQ] at h0;simp only[List.any_nil] at h0;show _=vB (zd l n)∧_
   first|unfold zd|unfold QM|skip
   rw[←h0];exact jR
  ·intro i a hi ha hd Ln hn h0
   refine vO _ _ _ _ (ak kZ ?_);rw[hd] at h0;simp only[List.any_cons] at h0;simp only[Al,eZ,dP,aW,ha,aT,iR,gm,cL,ff,iu,dR,fh,eg,fj,fk,iw,cH,natAdd,cG,bZ,gl,eA,kk];rw[aZ az]
   split
   ·rename_i hp
    refine DN _ ?_
    have e:l.any (fun a:Int=>decide (a=n))=true:=by rw[←h0];simp[hp]
    first|unfold zd|unfold QM|skip
    rw[e];exact jR
   ·rename_i hp
    exact hn (by simpa [hp] using h0)
 exact key rfl
theorem IT (l:List Int) (n:Int) (hl:l.length≤1073741824):aq C cg [ru l,vI n] (vI (jX (fun a:Int=>decide (a=n)) l 0)) []:=by
 refine(yj _ _ _ ?_).run
 have key:jX (fun a:Int=>decide (a=n)) (l.drop 0) ((0:Nat):Int)=jX (fun a:Int=>decide (a=n)) l 0→aj C cg aR 4 0 (e8 (l.map c8) n ((0:Nat):Int)) (fun u st=>aL C cg aR u st fun r fs=>r=vI (jX (fun a:Int=>decide (a=n)) l 0)∧fs=[]):=by
  refine ck l (fun i=>jX (fun a:Int=>decide (a=n)) (l.drop i) (i:Int)=jX (fun a:Int=>decide (a=n)) l 0→aj C cg aR 4 0 (e8 (l.map c8) n i) _) ?_ ?_
  ·intro h0
   refine nv _ _ _ _ (aH cY (vT _ _ _ _ _ _ ?_));rw[iQ] at h0;simp only[jX] at h0;change _=vI (jX (fun a:Int=>decide (a=n)) l 0)∧_;rw[←h0];exact jR
  ·intro i a hi ha hd Ln hn h0
   refine nv _ _ _ _ (ak kZ ?_);rw[hd] at h0;simp only[jX] at h0;simp only[Al,eZ,dP,aW,ha,aT,iR,gm,cL,ff,iu,dR,fh,eg,fj,fk,iw,cH,natAdd,cG,bZ,gl,eA,kk];rw[aZ az]
   split at h0
   ·rename_i hp
    have hp:=oI hp
    first|rw[aY hp]|rw[aY hp.symm]
    refine vR _ _ ?_;rw[h0];exact jR
   ·rename_i hp
    have hp: ¬_:=fun h=>hp (pN h)
    first|rw[aO hp]|rw[aO (fun h=>hp h.symm)]
    exact hn h0
 exact key rfl
theorem GO (l:List Int) (n:Int) (hl:l.length≤1073741824):aq C hJ [ru l,vI n] (vB (zd l n)) []:=by
 refine(uJ _ _ _ ⟨_,IT l n hl,?_⟩).run
 (try dsimp only)
 rw[oV,Iz _ _ _ az];exact jR
theorem sU (t:Tree) (b:Int) (path:List Int) (hl:cO t≤1073741824) (hp:path.length≤1073741824):aq C cV [dW t,vI b,ru path] (LY (near (dI t b) path)) []:=by
 refine(ED _ _ _ _ _ ?_).run;refine⟨_,sP t b hl,?_⟩
 have key: ∀(pr:Key×Bool),((dI t b).drop 0).foldl (ze path) pr=near (dI t b) path→aj C cV iX 4 0 (eG (path.map c8) pr.2 ((0:Nat):Int) pr.1.b pr.1.a pr.1.k pr.1.c pr.1.g ((dI t b).map bn)) (fun u st=>aL C cV iX u st fun r fs=>r=(LY (near (dI t b) path))∧fs=[]):=by
  refine ck (dI t b) (fun i=> ∀(pr:Key×Bool),((dI t b).drop i).foldl (ze path) pr=near (dI t b) path→aj C cV iX 4 0 (eG (path.map c8) pr.2 i pr.1.b pr.1.a pr.1.k pr.1.c pr.1.g ((dI t b).map bn)) (fun u st=>aL C cV iX u st fun r fs=>r=(LY (near (dI t b) path))∧fs=[])) ?_ ?_
  ·intro pr h0
   refine uq _ _ _ _ _ _ _ _ _ _ (aH cY (BQ _ _ _ _ _ _ _ _ _ _ _ ?_));rw[iQ] at h0;simp only[List.foldl_nil] at h0;rw[h0];exact jR
  ·intro i a hi ha hd ht hn pr h0
   have hk:=xP t b;have hz:=jW t;refine uq _ _ _ _ _ _ _ _ _ _ (ak kZ ?_);rw[hd] at h0;simp only[List.foldl_cons] at h0;obtain⟨bk,bf⟩:=pr;have hh: ∀q,aq C eT [ru path,vI a.a] (vB q) []↔q=zd path a.a:=fun q=>Dh (DE path a.a hp);simp only[lu,hh,nD,dP,aW,ha,aT,iR,gm,cL,ff,iu,dR,fh,eg,fj,fk,iw,cH,natAdd,cG,bZ,gl,eA,kk];rw[aZ az]
   have e:ze path (bk,bf) a=if zd path a.a&&(!bf||decide (bk.a<a.a)) then(a,true) else(bk,bf):=rfl
   rw[e] at h0
   cases h1:zd path a.a<;>cases bf<;>by_cases h2:bk.a<a.a<;>simp[h1,h2] at h0 ⊢ <;>first|exact hn (a,true) h0|exact hn (bk,false) h0|exact hn (bk,true) h0
 exact key (dQ,false) rfl
theorem sV (t:Tree) (b:Int) (path:List Int) (hl:cO t≤1073741824) (hp:path.length≤1073741824):aq C cU [dW t,vI b,ru path] (LY (near (dI t b) path)) []:=by
 refine(EM _ _ _ _ _ ?_).run;refine⟨_,sQ t b hl,?_⟩
 have key: ∀(pr:Key×Bool),((dI t b).drop 0).foldl (ze path) pr=near (dI t b) path→aj C cU ah 4 0 (eI (path.map c8) pr.2 ((dI t b).map bn) ((0:Nat):Int) pr.1.b pr.1.a pr.1.k pr.1.c pr.1.g) (fun u st=>aL C cU ah u st fun r fs=>r=(LY (near (dI t b) path))∧fs=[]):=by
  refine ck (dI t b) (fun i=> ∀(pr:Key×Bool),((dI t b).drop i).foldl (ze path) pr=near (dI t b) path→aj C cU ah 4 0 (eI (path.map c8) pr.2 ((dI t b).map bn) i pr.1.b pr.1.a pr.1.k pr.1.c pr.1.g) (fun u st=>aL C cU ah u st fun r fs=>r=(LY (near (dI t b) path))∧fs=[])) ?_ ?_
  ·intro pr h0
   refine uz _ _ _ _ _ _ _ _ _ _ (aH cY (B3 _ _ _ _ _ _ _ _ _ _ _ _ ?_));rw[iQ] at h0;simp only[List.foldl_nil] at h0;rw[h0];exact jR
  ·intro i a hi ha hd ht hn pr h0
   have hk:=xP t b;have hz:=jW t;refine uz _ _ _ _ _ _ _ _ _ _ (ak kZ ?_);rw[hd] at h0;simp only[List.foldl_cons] at h0;obtain⟨bk,bf⟩:=pr;have hh: ∀q,aq C hJ [ru path,vI a.a] (vB q) []↔q=zd path a.a:=fun q=>Dh (GO path a.a hp);simp only[lu,hh,nD,dP,aW,ha,aT,iR,gm,cL,ff,iu,dR,fh,eg,fj,fk,iw,cH,natAdd,cG,bZ,gl,eA,kk];rw[aZ az]
   have e:ze path (bk,bf) a=if zd path a.a&&(!bf||decide (bk.a<a.a)) then(a,true) else(bk,bf):=rfl
   rw[e] at h0
   cases h1:zd path a.a<;>cases bf<;>by_cases h2:bk.a<a.a<;>simp[h1,h2] at h0 ⊢ <;>first|exact hn (a,true) h0|exact hn (bk,false) h0|exact hn (bk,true) h0
 exact key (dQ,false) rfl
theorem Aw (l:List Key) (hl:l.length≤1073741824):aq C ey [cj l] (vB (iV l.length (gu l bX))) []:=by
 refine(DZ _ _ ?_).run
 have key: ∀(k i:Nat),i+k=l.length→1≤i→(List.range' i k).all (gu l bX)=iV l.length (gu l bX)→aj C ey aR 4 0 (jZ (l.map bn) i) (fun u st=>aL C ey aR u st fun r fs=>r=vB (iV l.length (gu l bX))∧fs=[]):=by
  intro k
  induction k with
  |zero=>
   intro i h h1 h0;refine mQ _ _ _ (aH kZ (rH _ _ _ _ ?_));simp only[List.range'_zero,AT] at h0;rw[←h0];exact jR
  |succ k ih=>
   intro i h h1 h0;obtain⟨j,rfl⟩: ∃j,i=j+1:=⟨i-1,by omega⟩;have hj:l[j]?=some l[j]:=aX az;have Q9:l[j+1]?=some l[j+1]:=aX az
   have e:gu l bX (j+1)=bX l[j] l[j+1]:=by simp only[gu,hj,Q9]
   rw[List.range'_succ,uL,e] at h0;refine mQ _ _ _ (ak kZ ?_);rw[lT az,show((j+1:Nat):Int)-1=(j:Int) by omega];simp only[lu,aW,hj,Q9,aT,iR,vw,gm,dR,cL];rw[aZ az]
   cases hb:bX l[j] l[j+1] with
   |true=>
    rw[hb,eA] at h0;exact ak rfl (ih (j+1+1) az az h0)
   |false=>
    rw[hb,Bool.false_and] at h0;refine aH rfl (AM _ ?_);rw[←h0];exact jR
 cases hz:l.length with
 |zero=>
  have:l=[]:=sG hz;subst this;exact mQ _ _ _ (aH cY (rH _ _ _ _ jR))
 |succ n=>
  rw[hz] at key;exact key n 1 az az (by unfold iV;rw[List.range'_succ,uL];rfl)
theorem DF (l:List Key) (hl:l.length≤1073741824):aq C cX [cj l] (vB ((l.all cT&&(iV l.length (gu l bX)&&decide (l.length≤60))))) []:=by
 refine(GV _ _ ?_).run
 have key:((l.drop 0).all cT&&(iV l.length (gu l bX)&&decide (l.length≤60)))=(l.all cT&&(iV l.length (gu l bX)&&decide (l.length≤60)))→aj C cX aR 4 0 (iy (l.map bn) ((0:Nat):Int)) (fun u st=>aL C cX aR u st fun r fs=>r=vB ((l.all cT&&(iV l.length (gu l bX)&&decide (l.length≤60))))∧fs=[]):=by
  refine ck l (fun i=>((l.drop i).all cT&&(iV l.length (gu l bX)&&decide (l.length≤60)))=(l.all cT&&(iV l.length (gu l bX)&&decide (l.length≤60)))→aj C cX aR 4 0 (iy (l.map bn) i) (fun u st=>aL C cX aR u st fun r fs=>r=vB ((l.all cT&&(iV l.length (gu l bX)&&decide (l.length≤60))))∧fs=[])) ?_ ?_
  ·intro h0
   refine vN _ _ _ (aH cY (DM _ _ _ _ ?_));rw[iQ] at h0;simp only[AT,eA] at h0;rw[←h0];refine⟨_,Aw l hl,?_⟩;simp only[oV,cG,wT]
   cases iV l.length (gu l bX)<;>simp
   omega
  ·intro i a hi ha hd Ln hn h0
   have gO:cT a=false→(l.all cT&&(iV l.length (gu l bX)&&decide (l.length≤60)))=false:=fun e=>by rw[←h0,hd];simp[e]
   have gN:cT a=true→aj C cX aR 4 0 (iy (l.map bn) ((i:Int)+1)) (fun u st=>aL C cX aR u st fun r fs=>r=vB ((l.all cT&&(iV l.length (gu l bX)&&decide (l.length≤60))))∧fs=[]):=fun e=>hn (by rw[←h0,hd];simp[e]);refine vN _ _ _ (ak kZ ?_);simp only[lu,zi,aW,ha,aT,iR,gm,cL,ff,iu,dR,fh,eg,fj,fk,iw,cH,natAdd,cG,bZ,gl,eA,kk];rw[aZ az]
   cases h1:cT a<;>simp only[rm,FA]<;>first|exact gN Sg|exact DL _ (by rw[gO Sg];exact jR)
 exact key rfl
theorem Bu (l:List Key) (hl:l.length≤1073741824):aq C cX [cj l] (vB (y8 l)) []:=by
 have:=DF l hl;rw[y9];exact this
theorem GP (l:List Key) (hl:l.length≤1073741824) (q:Bool):aq C cX [cj l] (vB q) []↔q=y8 l:=Dh (Bu l hl)
theorem xj (t:Tree) (l:List kg) (b id:Int) (hl:cO t≤1073741824) (ha:l.length≤1073741823):aq C wN [dW t,m9 l,vI b,vI id] (LY (xb t l b id)) []:=by
 refine(IY _ _ _ _ _ _ ?_).run;refine⟨_,sR l id az,_,_,_,_,_,_,sU t b _ hl (by have:=si l id;omega),?_⟩;exact jR
theorem yd (t:Tree) (l:List kg) (b id:Int) (hl:cO t≤1073741824) (ha:l.length≤1073741823):aq C o6 [dW t,m9 l,vI b,vI id] (LY (wF t l b id)) []:=by
 refine(AI _ _ _ _ _ _ ?_).run;have hp:=si l id;refine⟨_,sR l id az,?_⟩;simp only[cG,wT,eZ,dP,ee];unfold wF
 by_cases h:(pathOf l id).length=0
 ·rw[aY az,sG h]
  simp[NN,dQ]
 ·rw[aO az]
  refine ak kZ ⟨_,_,_,_,_,_,sU t b _ hl kZ,?_⟩
  have e:List.drop (Int.toNat 1) (List.take (Int.toNat ((pathOf l id).length:Int)) (pathOf l id))=(pathOf l id).drop 1:=by rw[qM,wW];rfl
  rw[e];exact jR
theorem Eo (t:Tree) (l:List kg) (k:Key) (id:Int) (hl:cO t≤1073741824) (ha:l.length≤1073741823):aq C At [dW t,m9 l,JV k,vI id] (vB (K1 t l k id)) []:=by
 refine(IZ _ _ _ _ _ _ _ _ _ _ ?_).run;refine⟨_,_,_,_,_,_,xj t l k.b id hl ha,?_⟩;unfold K1;simp only[eZ]
 cases h:(xb t l k.b id).2
 ·exact aH rfl jR
 ·exact ak rfl ⟨by simp,by trivial⟩
theorem xk (t:Tree) (l:List kg) (b id:Int) (hl:cO t≤1073741824) (ha:l.length≤1073741823):aq C wM [dW t,m9 l,vI b,vI id] (LY (xb t l b id)) []:=by
 refine(I3 _ _ _ _ _ _ ?_).run;refine⟨_,sS l id az,_,_,_,_,_,_,sV t b _ hl (by have:=si l id;omega),?_⟩;exact jR
theorem ye (t:Tree) (l:List kg) (b id:Int) (hl:cO t≤1073741824) (ha:l.length≤1073741823):aq C o5 [dW t,m9 l,vI b,vI id] (LY (wF t l b id)) []:=by
 refine(AH _ _ _ _ _ _ ?_).run;have hp:=si l id;refine⟨_,sS l id az,?_⟩;simp only[cG,wT,ee,PB];unfold wF
 have e: ∀m:Int,((m=1∧1≤(pathOf l id).length)∨(m=0∧(pathOf l id).length=0))→List.drop m.toNat (List.take (Int.toNat ((pathOf l id).length:Int)) (pathOf l id))=(pathOf l id).drop 1:=fun m hm=>by
  rw[qM,wW];rcases hm with⟨rfl,_⟩|⟨rfl,h⟩
  ·rfl
  ·rw[sG h];rfl
 have hm:(if((pathOf l id).length:Int)<1 then((pathOf l id).length:Int) else 1)=1∧1≤(pathOf l id).length∨((if((pathOf l id).length:Int)<1 then((pathOf l id).length:Int) else 1)=0∧(pathOf l id).length=0):=by split<;>omega
 revert hm
 generalize (if((pathOf l id).length:Int)<1 then((pathOf l id).length:Int) else 1)=m;intro hm;rw[e m hm];refine ak kZ ⟨_,_,_,_,_,_,sV t b _ hl kZ,?_⟩;exact jR
theorem Ep (t:Tree) (l:List kg) (k:Key) (id:Int) (hl:cO t≤1073741824) (ha:l.length≤1073741823):aq C As [dW t,m9 l,JV k,vI id] (vB (K1 t l k id)) []:=by
 refine(IX _ _ _ _ _ _ _ _ _ _ ?_).run;refine⟨_,_,_,_,_,_,xk t l k.b id hl ha,?_⟩;unfold K1;simp only[eZ]
 cases h:(xb t l k.b id).2
 ·exact aH rfl jR
 ·exact ak rfl ⟨by simp,by trivial⟩
theorem Ax (n:List (List Key)) (hb:n.length≤1073741824) (hl:tot bS n≤1073741824):aq C dS [nc n] (vI (cR n)) []:=by
 refine(DP _ _ ?_).run
 have key: ∀(c:Nat),c+tot bS (n.drop 0)=cR n→aj C dS ah 4 0 (iz c ((0:Nat):Int) (n.map dr)) (fun u st=>aL C dS ah u st fun r fs=>r=(vI (cR n))∧fs=[]):=by
  refine ck n (fun i=> ∀(c:Nat),c+tot bS (n.drop i)=cR n→aj C dS ah 4 0 (iz c i (n.map dr)) (fun u st=>aL C dS ah u st fun r fs=>r=(vI (cR n))∧fs=[])) ?_ ?_
  ·intro c h0
   refine rF _ _ _ _ (aH cY (AG _ _ _ _ _ ?_));rw[iQ] at h0;simp only[tot,nO] at h0;rw[h0];exact jR
  ·intro i a hi ha hd ht hn c h0
   refine rF _ _ _ _ (ak kZ ?_);rw[hd] at h0;have e5:tot bS (a::n.drop (i+1))=a.length+tot bS (n.drop (i+1)):=rfl;rw[e5] at h0;unfold cR at h0;simp only[Am,aW,ha,aT,iR,gm,cL,ff,iu,dR,fh,eg,fj,fk,iw,cH,natAdd,cG,bZ,gl,eA,kk];rw[aZ (by simp only[wT];omega),aZ az];exact hn (c+a.length) (by unfold cR;omega)
 exact key 0 (by simp[cR])
theorem Ay (n:List (List Key)) (hs:tot bS n≤1073741824) (hl:n.length≤1073741824):aq C aU [nc n] (vB ((n.all eR&&(decide (n.length≤3)&&decide (cR n≤8))))) []:=by
 refine(EK _ _ ?_).run
 have key:((n.drop 0).all eR&&(decide (n.length≤3)&&decide (cR n≤8)))=(n.all eR&&(decide (n.length≤3)&&decide (cR n≤8)))→aj C aU aR 4 0 (gE ((0:Nat):Int) (n.map dr)) (fun u st=>aL C aU aR u st fun r fs=>r=vB ((n.all eR&&(decide (n.length≤3)&&decide (cR n≤8))))∧fs=[]):=by
  refine ck n (fun i=>((n.drop i).all eR&&(decide (n.length≤3)&&decide (cR n≤8)))=(n.all eR&&(decide (n.length≤3)&&decide (cR n≤8)))→aj C aU aR 4 0 (gE i (n.map dr)) (fun u st=>aL C aU aR u st fun r fs=>r=vB ((n.all eR&&(decide (n.length≤3)&&decide (cR n≤8))))∧fs=[])) ?_ ?_
  ·intro h0
   refine ux _ _ _ (aH cY (BZ _ _ _ _ ?_));rw[iQ] at h0;simp only[AT,eA] at h0;rw[←h0];simp only[oV,cG,wT,dP]
   by_cases h3:n.length≤3
   ·rw[aY az]
    refine⟨_,Ax n hl hs,?_⟩;simp[h3];omega
   ·rw[aO az]
    simp[h3]
  ·intro i a hi ha hd Ln hn h0
   have gO:eR a=false→(n.all eR&&(decide (n.length≤3)&&decide (cR n≤8)))=false:=fun e=>by rw[←h0,hd];simp[e]
   have gN:eR a=true→aj C aU aR 4 0 (gE ((i:Int)+1) (n.map dr)) (fun u st=>aL C aU aR u st fun r fs=>r=vB ((n.all eR&&(decide (n.length≤3)&&decide (cR n≤8))))∧fs=[]):=fun e=>hn (by rw[←h0,hd];simp[e]);refine ux _ _ _ (ak kZ ?_);have hz:a.length≤tot bS n:=ou (w:=bS) ha;have hh: ∀q,aq C cX [cj a] (vB q) []↔q=y8 a:=fun q=>GP a az q;simp only[Am,hh,eZ,wT,dP,aW,ha,aT,iR,gm,cL,ff,iu,dR,fh,eg,fj,fk,iw,cH,natAdd,cG,bZ,gl,eA,kk]
   rw[aZ az]
   cases h1:y8 a<;>by_cases h2:a.length=0<;>simp only[rm,FA]<;>first|(rw[aY az];exact uy _ _ (by rw[gO (by simp[eR,h1,h2])];exact jR))|(rw[aO az];exact gN (by simp[eR,h1,h2]))|exact uy _ _ (by rw[gO (by simp[eR,h1,h2])];exact jR)
 exact key rfl
theorem nH (n:List (List Key)) (hb:n.length≤1073741824) (hl:tot bS n≤1073741824):aq C aU [nc n] (vB (dw n)) []:=by
 have:=Ay n hl hb;rw[LZ];exact this
theorem Bv (l:List kg) (hl:l.length≤1073741824):aq C bO [m9 l] (vB ((iV l.length (hD l)&&decide (l.length≤16)))) []:=by
 refine(EB _ _ ?_).run
 have key:((List.range' 0 (l.length-0)).all (hD l)&&decide (l.length≤16))=(iV l.length (hD l)&&decide (l.length≤16))→aj C bO aR 4 0 (dV (l.map ef) ((0:Nat):Int)) (fun u st=>aL C bO aR u st fun r fs=>r=vB ((iV l.length (hD l)&&decide (l.length≤16)))∧fs=[]):=by
  refine Iy (l.length) (fun i=>((List.range' i (l.length-i)).all (hD l)&&decide (l.length≤16))=(iV l.length (hD l)&&decide (l.length≤16))→aj C bO aR 4 0 (dV (l.map ef) i) (fun u st=>aL C bO aR u st fun r fs=>r=vB ((iV l.length (hD l)&&decide (l.length≤16)))∧fs=[])) ?_ ?_
  ·intro h0
   refine uo _ _ _ (aH cY (BO _ _ _ _ ?_));rw[qQ] at h0;simp only[List.range'_zero,AT,eA] at h0;rw[←h0];simp[oV];omega
  ·intro i hi hn h0
   rw[Di hi,uL] at h0
   have gO:(hD l) i=false→(iV l.length (hD l)&&decide (l.length≤16))=false:=fun e=>by rw[←h0,e];rfl
   have gN:(hD l) i=true→aj C bO aR 4 0 (dV (l.map ef) ((i:Int)+1)) (fun u st=>aL C bO aR u st fun r fs=>r=vB ((iV l.length (hD l)&&decide (l.length≤16)))∧fs=[]):=fun e=>hn (by rw[←h0,e];rfl);refine uo _ _ _ (ak kZ ?_);have ha:l[i]?=some l[i]:=aX hi;have hh: ∀q,aq C ct [m9 (l.take i),vI l[i].fr] (vI q) []↔q=jx (l.take i) l[i].fr:=fun q=>GN (l.take i) l[i].fr kZ q
   have rI:ay (l.map ef) 0 (i:Int)=(l.take i).map ef:=by rw[ee,qM];rfl
   have hin:fU 0 (i:Int) (l.length:Int)=true:=by simp;omega
   simp only[Dg,Ka,rI,aW,ha,aT,iR,gm,cL,ff,iu,dR,fh,eg,fj,fk,iw,cH,natAdd,cG,bZ,gl,eA,kk];simp only[ha,hin,hh,gm,aT,iR,rm,eZ,oV,nD,dP,wT,cG];rw[aZ az]
   cases i with
   |zero=>
    have e:hD l 0=(Cq l[0].id 1 60&&(decide (l[0].fr=0)|| !decide (jx (l.take 0) l[0].fr<0))):=by simp[hD,QL,gu,hi]
    rw[e] at gO gN
    have hz: ¬((0:Int)<((0:Nat):Int)):=by omega
    simp only[aO hz]
    cases h1:Cq l[0].id 1 60 with
    |false=>simp only[FA];exact jd _ (by rw[gO (by rw[h1];simp)];exact jR)
    |true=>
     simp only[rm]
     by_cases h2:l[0].fr=0
     ·rw[aY h2];exact gN (by rw[h1,pN h2];simp)
     ·rw[aO h2]
      by_cases h3:jx (l.take 0) l[0].fr<0
      ·rw[aY h3];exact jd _ (by rw[gO (by rw[sJ h2,pN h3];simp)];exact jR)
      ·rw[aO h3];exact gN (by rw[h1,sJ h3];simp)
   |succ k=>
    have hk:l[k]?=some l[k]:=aX az
    have e:hD l (k+1)=(Cq l[k+1].id 1 60&&(decide (l[k].id<l[k+1].id)&&(decide (l[k+1].fr=0)|| !decide (jx (l.take (k+1)) l[k+1].fr<0)))):=by simp only[hD,QL,gu,hk,ha]
    rw[e] at gO gN;rw[lT az,show((k+1:Nat):Int)-1=(k:Int) by omega];simp only[aW,hk,aT,iR];rw[aY az]
    cases h1:Cq l[k+1].id 1 60 with
    |false=>simp only[FA];exact jd _ (by rw[gO (by rw[h1];simp)];exact jR)
    |true=>
     simp only[rm]
     by_cases h4:l[k].id<l[k+1].id
     ·rw[aO az]
      by_cases h2:l[k+1].fr=0
      ·rw[aY h2];exact gN (by rw[h1,pN h4,pN h2];simp)
      ·rw[aO h2]
       by_cases h3:jx (l.take (k+1)) l[k+1].fr<0
       ·rw[aY h3];exact jd _ (by rw[gO (by rw[sJ h2,pN h3];simp)];exact jR)
       ·rw[aO h3];exact gN (by rw[h1,pN h4,sJ h3];simp)
     ·rw[aY az];exact jd _ (by rw[gO (by rw[sJ h4];simp)];exact jR)
 exact key rfl
@[simp] theorem xm (b a q:Int):aq C qe [vI b,vI a] (vI q) []↔q=bI b a:=RO ((EF _ _ _ jR).run)
@[simp] theorem xo (b a k c g q:Int):aq C iJ [.ag [iI b,iI a,iI k,iI c,iI g]] (vI q) []↔q=bI b a:=RO (by
  refine(EI _ _ _ _ _ _ ?_).run;simp only[xm,gm]
  simp)
theorem Az (t:Tree) (i:Nat) (n:List (List Key)) (hi:i<t.au.length) (hl:cO t≤1073741824) (hn:n.length≤1073741824) (hz:tot bS n≤1073741824):aj C aN aK 4 0 (eH i ((0:Nat):Int) (t.au.map c8) (t.nodes.map cc) (n.map dr)) (fun u st=>aL C aN aK u st fun r fs=>r=vB (n.all (dh t.au i))∧fs=[]):=by
 have XF:t.au.length≤1073741824:=by unfold cO at hl;omega
 have hlo:t.au[i]?=some t.au[i]:=aX hi
 have key:(n.drop 0).all (dh t.au i)=n.all (dh t.au i)→aj C aN aK 4 0 (eH i ((0:Nat):Int) (t.au.map c8) (t.nodes.map cc) (n.map dr)) (fun u st=>aL C aN aK u st fun r fs=>r=vB (n.all (dh t.au i))∧fs=[]):=by
  refine ck n (fun k=>(n.drop k).all (dh t.au i)=n.all (dh t.au i)→aj C aN aK 4 0 (eH i k (t.au.map c8) (t.nodes.map cc) (n.map dr)) (fun u st=>aL C aN aK u st fun r fs=>r=vB (n.all (dh t.au i))∧fs=[])) ?_ ?_
  ·intro h0
   refine uv _ _ _ _ _ _ (aH cY (BU _ _ _ _ _ _ _ ?_));rw[iQ] at h0;simp only[AT] at h0;rw[←h0];exact jR
  ·intro k s hk hs hd Ln hnext h0
   have Us:s.length≤tot bS n:=ou (w:=bS) hs;rw[hd,uL] at h0;refine uv _ _ _ _ _ _ (ak kZ ?_)
   have keyI:(s.drop 0).all (ji t.au i)=s.all (ji t.au i)→aj C aN g6 3 2 (fA i k ((0:Nat):Int) (t.au.map c8) (t.nodes.map cc) (n.map dr)) (fun u st=>Gy C aN aK 4 0 yf u st (fun u st=>aL C aN aK u st fun r fs=>r=vB (n.all (dh t.au i))∧fs=[])):=by
    refine ck s (fun j=>(s.drop j).all (ji t.au i)=s.all (ji t.au i)→aj C aN g6 3 2 (fA i k j (t.au.map c8) (t.nodes.map cc) (n.map dr)) (fun u st=>Gy C aN aK 4 0 yf u st (fun u st=>aL C aN aK u st fun r fs=>r=vB (n.all (dh t.au i))∧fs=[]))) ?_ ?_
    ·intro h1
     rw[iQ] at h1;simp only[AT] at h1;refine uw _ _ _ _ _ _ _ (⟨_,wE hs,aH cY (BW _ _ _ _ _ _ _ _ ?_)⟩);rw[aZ az];exact hnext (by rw[←h0];unfold dh;rw[←h1];simp)
    ·intro j x hj hx OU XG hn2 h1
     rw[OU,uL] at h1
     have gO:ji t.au i x=false→Gy C aN aK 4 0 yf TX.ret (kW (t.au.map c8) (t.nodes.map cc) (n.map dr)) (fun u st=>aL C aN aK u st fun r fs=>r=vB (n.all (dh t.au i))∧fs=[]):=fun e=>BV _ _ _ _ (BX _ _ _ _ (by
      have e2:dh t.au i s=false:=by unfold dh;rw[←h1,e];rfl
      rw[←h0,e2];exact jR))
     have gN:ji t.au i x=true→aj C aN g6 3 2 (fA i k ((j:Int)+1) (t.au.map c8) (t.nodes.map cc) (n.map dr)) (fun u st=>Gy C aN aK 4 0 yf u st (fun u st=>aL C aN aK u st fun r fs=>r=vB (n.all (dh t.au i))∧fs=[])):=fun e=>hn2 (by rw[←h1,e];rfl)
     have e:ji t.au i x=(!decide (bI x.b x.a<t.au[i])&&(match t.au[i+1]? with|some hi=>decide (bI x.b x.a<hi)|none=>true)):=by simp only[ji,Ap,hlo];rfl
     rw[e] at gO gN;refine uw _ _ _ _ _ _ _ (⟨_,wE hs,ak kZ ⟨_,wE hs,?_⟩⟩);rw[aZ (a:=(i:Int)) az,aZ (a:=(j:Int)) az];simp only[lu,Al,aW,hx,hlo,aT,iR,xo,gm,nD,oV,dP,cG,wT]
     by_cases h2:bI x.b x.a<t.au[i]
     ·rw[aY h2]
      exact gO (by rw[pN h2];rfl)
     ·rw[aO h2]
      by_cases h3:i+1<t.au.length
      ·have hhi:t.au[i+1]?=some t.au[i+1]:=aX h3
       rw[aY az,show((i:Int)+1)=((i+1:Nat):Int) by omega,aW,hhi];simp only[aT,iR];rw[hhi] at gO gN
       by_cases h4:bI x.b x.a<t.au[i+1]
       ·rw[aO az]
        exact gN (by rw[sJ h2];simp[h4])
       ·rw[aY az]
        exact gO (by simp[h4])
      ·rw[aO az]
       have hno:t.au[i+1]?=none:=Qu az;rw[hno] at gN;exact gN (by rw[sJ h2];rfl)
   exact keyI rfl
 exact key rfl
theorem Bw (t:Tree) (i:Nat) (n:List (List Key)) (ha:t.nodes[i]?=some n) (hlo:i<t.au.length) (hl:cO t≤1073741824):aq C aN [dW t,vI i] (vB (dw n&&((decide (i=0)|| !decide ((an n).length=0))&&n.all (dh t.au i)))) []:=by
 have hz:aJ n≤tot aJ t.nodes:=ou (w:=aJ) ha;have e1:aJ n=n.length+tot bS n:=rfl;have e2:cO t=t.au.length+(t.nodes.length+tot aJ t.nodes):=rfl;have hnk:=cM n;refine(EJ _ _ _ _ ⟨_,wE (e:=cc) ha,_,nH n az az,?_⟩).run
 cases h1:dw n with
 |false=>exact ak rfl jR
 |true=>
  refine aH rfl ?_;have TT:=Az t i n hlo hl az az
  have conv: ∀B:Bool,B=n.all (dh t.au i)→aj C aN aK 4 0 (eH i 0 (t.au.map c8) (t.nodes.map cc) (n.map dr)) (fun u st=>aL C aN aK u st fun r fs=>r=vB B∧fs=[]):=fun B hB=>by subst hB;exact TT
  cases i with
  |zero=>exact aH cY (conv _ cY)
  |succ k=>
   refine ak (by first|(simp;done)|(simp;omega)) ⟨_,qf n az az,?_⟩
   by_cases h2:(an n).length=0
   ·refine ak (by simp[h2]) ?_
    simp[h2]
   ·exact aH (by simpa using h2) (conv _ (by simp[h2]))
theorem sW (t:Tree) (hl:cO t≤1073741824):aq C aB [dW t] (vB (de t)) []:=by
 have e2:cO t=t.au.length+(t.nodes.length+tot aJ t.nodes):=rfl;refine(Es _ _ _ ?_).run;simp only[Ka,gm,cG,wT,eZ,cL];unfold de
 cases h1:Cq (t.nodes.length:Int) 1 20 with
 |false=>exact aH rfl jR
 |true=>
  refine ak rfl ?_
  have XH:1≤t.nodes.length:=by have:=oI h1;omega
  by_cases h2:t.au.length=t.nodes.length
  ·refine ak (by simp[h2]) ?_
   have h0:t.au[0]?=some t.au[0]:=aX az
   have Oz:jt t.au 0=some t.au[0]:=by rw[show(0:Int)=((0:Nat):Int) from rfl,aW];exact h0
   simp only[Al,Oz,h0,aT,iR,dP]
   by_cases h3:t.au[0]=0
   ·rw[aY (by simpa using h3)]
    have hw:(true&&(decide (t.au.length=t.nodes.length)&&((decide (t.au[0]=0))&&(iV t.nodes.length (dx t)&&decide ((av t).length≤60)))))=(iV t.nodes.length (dx t)&&decide ((av t).length≤60)):=by simp[h2,h3]
    rw[hw]
    have key:((List.range' 0 (t.nodes.length-0)).all (dx t)&&decide ((av t).length≤60))=(iV t.nodes.length (dx t)&&decide ((av t).length≤60))→aj C aB ah 4 0 (fz ((0:Nat):Int) (t.au.map c8) (t.nodes.map cc)) (fun u st=>aL C aB ah u st fun r fs=>r=vB (iV t.nodes.length (dx t)&&decide ((av t).length≤60))∧fs=[]):=by
     refine Iy t.nodes.length (fun i=>((List.range' i (t.nodes.length-i)).all (dx t)&&decide ((av t).length≤60))=(iV t.nodes.length (dx t)&&decide ((av t).length≤60))→aj C aB ah 4 0 (fz i (t.au.map c8) (t.nodes.map cc)) _) ?_ ?_
     ·intro h0
      rw[qQ] at h0;simp only[List.range'_zero,AT,eA] at h0;refine ua _ _ _ _ (aH cY (BE _ _ _ _ _ ⟨_,lX t hl,?_⟩));rw[←h0];simp[oV];omega
     ·intro i hi hn h0
      rw[Di hi,uL] at h0;have ha:t.nodes[i]?=some t.nodes[i]:=aX hi;have Wb:t.au[i]?=some t.au[i]:=aX az;have gO:dx t i=false→aL C aB ah TX.ret (iY (t.au.map c8) (t.nodes.map cc)) (fun r fs=>r=vB (iV t.nodes.length (dx t)&&decide ((av t).length≤60))∧fs=[]):=fun e=>BD _ _ _ (by rw[←h0,e];exact jR);have gN:dx t i=true→aj C aB ah 4 0 (fz ((i:Int)+1) (t.au.map c8) (t.nodes.map cc)) (fun u st=>aL C aB ah u st fun r fs=>r=vB (iV t.nodes.length (dx t)&&decide ((av t).length≤60))∧fs=[]):=fun e=>hn (by rw[←h0,e];rfl)
      have hh: ∀q,aq C aN [dW t,vI i] (vB q) []↔q=_:=fun q=>Dh (Bw t i t.nodes[i] ha az hl);refine ua _ _ _ _ (ak kZ ?_);rw[aZ az];simp only[hh,gm,nD,oV,dP,cL]
      cases i with
      |zero=>
       have e:dx t 0=(dw t.nodes[0]&&((decide (0=0)|| !decide ((an t.nodes[0]).length=0))&&t.nodes[0].all (dh t.au 0))):=by simp only[dx,gu,ha,eA]
       rw[e] at gO gN;rw[aO az];exact cN gN gO
      |succ k=>
       have hk:t.au[k]?=some t.au[k]:=aX az
       have e:dx t (k+1)=(decide (t.au[k]<t.au[k+1])&&(dw t.nodes[k+1]&&((decide (k+1=0)|| !decide ((an t.nodes[k+1]).length=0))&&t.nodes[k+1].all (dh t.au (k+1))))):=by simp only[dx,gu,ha,hk,Wb]
       rw[e] at gO gN;rw[aY az,lT az,show((k+1:Nat):Int)-1=(k:Int) by omega];simp only[Al,aW,hk,Wb,aT,iR]
       by_cases h4:t.au[k]<t.au[k+1]
       ·rw[aO az]
        rw[pN h4,eA] at gO gN;exact cN gN gO
       ·rw[aY az]
        exact gO (by rw[sJ h4];rfl)
    exact key rfl
   ·rw[aO (by simpa using h3)]
    simp[h3]
  ·refine aH kZ ?_
   simp[h2]
theorem DG (l:List Key) (b a:Int) (hl:l.length≤1073741824):aq C eu [cj l,vI b,vI a] (LY (Dj l b a)) []:=by
 refine(G0 _ _ _ _ ?_).run
 have key:setAt (l.drop 0) b a=setAt l b a→aj C eu aR 4 0 (iA (l.map bn) b a ((0:Nat):Int)) (fun u st=>aL C eu aR u st fun r fs=>r=(LY (Dj l b a))∧fs=[]):=by
  refine ck l (fun i=>setAt (l.drop i) b a=setAt l b a→aj C eu aR 4 0 (iA (l.map bn) b a i) (fun u st=>aL C eu aR u st fun r fs=>r=(LY (Dj l b a))∧fs=[])) ?_ ?_
  ·intro h0
   rw[iQ] at h0;refine vQ _ _ _ _ _ (aH cY (DV _ _ _ _ _ _ ⟨?_,by trivial⟩));unfold Dj;rw[←h0];rfl
  ·intro i x hi hx hd Ln hn h0
   rw[hd] at h0;simp only[setAt,List.find?_cons] at h0;refine vQ _ _ _ _ _ (ak kZ ?_);simp only[lu,aW,hx,aT,iR,eZ,dP];rw[aZ az]
   by_cases h1:x.b=b
   ·rw[aY h1]
    by_cases h2:x.a=a
    ·rw[aY h2]
     rw[pN ⟨h1,h2⟩] at h0;refine DU _ _ _ _ _ _ ⟨?_,by trivial⟩;unfold Dj setAt;rw[←h0]
    ·rw[aO h2]
     rw[sJ (fun h=>h2 h.2)] at h0;exact hn h0
   ·rw[aO h1]
    rw[sJ (fun h=>h1 h.1)] at h0;exact hn h0
 exact key rfl
theorem AA (t:Tree) (b a:Int) (hl:t.au.length≤1073741824):aq C c7 [dW t,vI b,vI a] (vI (fH t b a)) []:=by
 refine(DT _ _ _ _ _ ?_).run;unfold fH
 have key:aj C c7 ah 4 0 (fR b a (kO (fun x=>decide (x≤bI b a)) t.au 0) ((0:Nat):Int) (t.au.map c8) (t.nodes.map cc)) (fun u st=>aL C c7 ah u st fun r fs=>r=(vI (kO (fun x=>decide (x≤bI b a)) t.au t.au.length))∧fs=[]):=by
  refine ck t.au (fun i=>aj C c7 ah 4 0 (fR b a (kO (fun x=>decide (x≤bI b a)) t.au i) i (t.au.map c8) (t.nodes.map cc)) (fun u st=>aL C c7 ah u st fun r fs=>r=(vI (kO (fun x=>decide (x≤bI b a)) t.au t.au.length))∧fs=[])) ?_ ?_
  ·exact rG _ _ _ _ _ _ _ (aH cY (AJ _ _ _ _ _ _ _ _ jR))
  ·intro i x hi hx hd Ln hn
   simp only[kO,hx] at hn;refine rG _ _ _ _ _ _ _ (ak kZ ?_);simp only[Al,aW,hx,aT,iR,xm,gm,oV,dP];rw[aZ az]
   by_cases h1:x≤bI b a
   ·rw[aY h1]
    rw[aY (pN h1)] at hn;exact hn
   ·rw[aO h1]
    rw[aO (by simpa using h1)] at hn;exact hn
 exact key
theorem nI (n:List (List Key)) (hl:n.length≤1073741824) (hs: ∀s∈n,s.length≤1073741824):aq C aQ [nc n] (nc n) []:=by
 refine(Ew _ _ ?_).run
 skip
 have key:((0:Nat)=0→aj C aQ ah 4 0 (kQ (n.map dr)) (fun u st=>aL C aQ ah u st fun r fs=>r=(nc n)∧fs=[]))∧(0<(0:Nat)→aj C aQ ah 4 0 (iZ ((0:Nat):Int) (n.map dr) ((n.take 0).map dr)) (fun u st=>aL C aQ ah u st fun r fs=>r=(nc n)∧fs=[])):=by
  refine ck n (fun i=>(i=0→aj C aQ ah 4 0 (kQ (n.map dr)) (fun u st=>aL C aQ ah u st fun r fs=>r=(nc n)∧fs=[]))∧(0<i→aj C aQ ah 4 0 (iZ i (n.map dr) ((n.take i).map dr)) (fun u st=>aL C aQ ah u st fun r fs=>r=(nc n)∧fs=[]))) ?_ ?_
  ·refine⟨fun h=> ?_,fun h=> ?_⟩
   ·have hnil:n=[]:=List.length_eq_zero_iff.1 h
    refine uf _ _ (aH (by simp[h]) (BI _ _ _ ⟨?_,by trivial⟩));simp[hnil]
   ·rw[wW]
    exact ug _ _ _ _ (aH cY (BJ _ _ _ _ _ jR))
  ·intro i a hi ha hd Ln hn
   have hmem:=eK ha;refine⟨fun h=> ?_,fun h=> ?_⟩
   ·subst h
    have hz:jt n 0=some a:=(aW n 0).trans ha;have hn2:=hn.2 az;rw[Ln] at hn2;refine uf _ _ (ak kZ ?_);simp only[Am,hz,aT,iR];have hsa:=hs a hmem;refine ak (by rw[show bL (a.map bn)=true from jh _,dg kZ];rfl) (ak (dg (by simp;try omega)) ?_);rw[aZ az];exact hn2
   ·have hn2:=hn.2 az
    rw[Ln] at hn2;refine ug _ _ _ _ (ak kZ ?_);simp only[Am,aW,ha,aT,iR];have hsa:=hs a hmem;refine ak (by rw[show bL (a.map bn)=true from jh _,dg kZ];rfl) (ak (dg (by simp;try omega)) ?_);rw[aZ az];rw[yt] at hn2;exact hn2
 exact key.1 rfl
theorem Bx (t:Tree) (hl:t.au.length≤1073741824∧t.nodes.length≤1073741824) (hs: ∀n∈t.nodes,n.length≤1073741824∧ ∀s∈n,s.length≤1073741824):aq C bW [dW t] (dW t) []:=by
 refine(EN _ _ _ ?_).run;refine ak (by rw[show bL (t.au.map c8)=true from mK _,dg kZ];rfl) ?_
 have key:((0:Nat)=0→aj C bW ah 4 0 (kX (t.au.map c8) (t.nodes.map cc)) (fun u st=>aL C bW ah u st fun r fs=>r=(dW t)∧fs=[]))∧(0<(0:Nat)→aj C bW ah 4 0 (jb ((0:Nat):Int) (t.au.map c8) (t.nodes.map cc) ((t.nodes.take 0).map cc)) (fun u st=>aL C bW ah u st fun r fs=>r=(dW t)∧fs=[])):=by
  refine ck t.nodes (fun i=>(i=0→aj C bW ah 4 0 (kX (t.au.map c8) (t.nodes.map cc)) (fun u st=>aL C bW ah u st fun r fs=>r=(dW t)∧fs=[]))∧(0<i→aj C bW ah 4 0 (jb i (t.au.map c8) (t.nodes.map cc) ((t.nodes.take i).map cc)) (fun u st=>aL C bW ah u st fun r fs=>r=(dW t)∧fs=[]))) ?_ ?_
  ·refine⟨fun h=> ?_,fun h=> ?_⟩
   ·have hnil:t.nodes=[]:=List.length_eq_zero_iff.1 h
    refine uA _ _ _ (aH (by simp[h]) (B4 _ _ _ _ ⟨?_,by trivial⟩));simp[hnil]
   ·rw[wW]
    exact uB _ _ _ _ _ (aH cY (B5 _ _ _ _ _ _ jR))
  ·intro i a hi ha hd Ln hn
   have hmem:=eK ha;refine⟨fun h=> ?_,fun h=> ?_⟩
   ·subst h
    have hz:jt t.nodes 0=some a:=(aW t.nodes 0).trans ha;have hn2:=hn.2 az;rw[Ln] at hn2;refine uA _ _ _ (ak kZ ?_);simp only[Cp,hz,aT,iR];refine⟨_,nI a (hs a hmem).1 (hs a hmem).2,ak (dg (by simp;try omega)) ?_⟩;rw[aZ az];exact hn2
   ·have hn2:=hn.2 az
    rw[Ln] at hn2;refine uB _ _ _ _ _ (ak kZ ?_);simp only[Cp,aW,ha,aT,iR];refine⟨_,nI a (hs a hmem).1 (hs a hmem).2,ak (dg (by simp;try omega)) ?_⟩;rw[aZ az];rw[yt] at hn2;exact hn2
 exact key.1 rfl
theorem IU {t:Tree} (h:cO t≤4194304):(t.au.length≤1073741824∧t.nodes.length≤1073741824)∧ ∀n∈t.nodes,n.length≤1073741824∧ ∀s∈n,s.length≤1073741824:=by
 have e2:cO t=t.au.length+(t.nodes.length+tot aJ t.nodes):=rfl;refine⟨⟨by omega,by omega⟩,fun n hn=> ?_⟩;have h1:aJ n≤tot aJ t.nodes:=y7 (w:=aJ) hn;have h2:aJ n=n.length+tot bS n:=rfl;refine⟨by omega,fun s hs=> ?_⟩;have h3:bS s≤tot bS n:=y7 (w:=bS) hs;have h4:bS s=s.length:=rfl;omega
theorem By (l:List kg) (id fr:Int) (hl:l.length≤1073741800):aq C cW [m9 l,vI id,vI fr] (TV.tu [(0,[TC.sub 2 ((mN l id fr).1.map ef)]),(0,[iB (mN l id fr).2])]) []:=by
 refine(EP _ _ _ _ ⟨_,jO l id az,?_⟩).run
 obtain⟨T,hT⟩: ∃T,T=if 0≤jx l id then l else oY l id fr:=⟨_,rfl⟩
 have XI:T.length≤l.length+1:=by
  rw[hT];split
  ·omega
  ·unfold oY;rw[L0];omega
 have key: ∀(b:Bool) (acc:List kg),acc++(if b=true then l.drop 0 else oY (l.drop 0) id fr)=T→aj C cW aK 4 0 (fC (l.map ef) id fr b ((0:Nat):Int) (acc.map ef)) (fun x st=>aL C cW aK x st fun r fs=>r=(TV.tu [(0,[TC.sub 2 ((mN l id fr).1.map ef)]),(0,[iB (mN l id fr).2])])∧fs=[]):=by
  have fin: ∀Q:QV,Q (TV.tu [(0,[TC.sub 2 ((mN l id fr).1.map ef)]),(0,[iB (mN l id fr).2])]) []→
   ∃(n17:Int),aq C ct ([TV.c (TC.sub 2 (l.map ef)),TV.c (iI id)]) (TV.c (iI n17)) []∧(aP (rK 0 n17) (aP (bL (l.map ef)&&fits (Nat.add 0 (List.length (l.map ef))) 16) (Q (TV.tu [(0,[TC.sub 2 (l.map ef)]),(0,[iB false])]) ([])) (False)) (∃(b18:Bool),aq C bO ([TV.c (TC.sub 2 (T.map ef))]) (TV.c (iB b18)) []∧(aP (!b18) (aP (bL (l.map ef)&&fits (Nat.add 0 (List.length (l.map ef))) 16) (Q (TV.tu [(0,[TC.sub 2 (l.map ef)]),(0,[iB false])]) ([])) (False)) (Q (TV.tu [(0,[TC.sub 2 (T.map ef)]),(0,[iB true])]) ([]))))):=by
   intro Q hQ
   have OQ:(bL (l.map ef)&&fits (Nat.add 0 (List.length (l.map ef))) 16)=true:=by rw[Ao,dg jC];rfl
   refine⟨_,jO l id az,?_⟩;unfold mN at hQ
   by_cases h1:0≤jx l id
   ·rw[aY h1] at hQ
    exact ak (by simpa using h1) (ak OQ hQ)
   ·rw[aO h1] at hQ hT
    have hok:aq C bO [m9 T] (vB (nF T)) []:=Bv T az;refine aH jC ⟨_,hok,?_⟩;subst hT
    by_cases h2:nF (oY l id fr)=true
    ·rw[aY h2] at hQ
     rw[h2];exact aH rfl hQ
    ·rw[aO h2] at hQ
     have h2:nF (oY l id fr)=false:=by simpa using h2
     rw[h2];exact ak rfl (ak OQ hQ)
  refine ck l (fun i=> ∀(b:Bool) (acc:List kg),acc++(if b=true then l.drop i else oY (l.drop i) id fr)=T→aj C cW aK 4 0 (fC (l.map ef) id fr b (i:Int) (acc.map ef)) _) ?_ ?_
  ·intro b acc h0
   have hlen:=congrArg List.length h0;rw[bZ] at hlen;refine uC _ _ _ _ _ _ _ (aH cY (B7 _ _ _ _ _ _ _ _ ?_));rw[iQ] at h0
   cases b with
   |true=>
    simp only[if_true,jD] at h0;subst h0;exact aH rfl (fin (fun r fs=>r=(TV.tu [(0,[TC.sub 2 ((mN l id fr).1.map ef)]),(0,[iB (mN l id fr).2])])∧fs=[]) jR)
   |false=>
    have e:acc++[(⟨id,fr⟩:kg)]=T:=by simpa [oY,Dk] using h0
    refine ak rfl (ak (by rw[mL,dg jC];rfl) ?_);rw[sj,e];exact fin (fun r fs=>r=(TV.tu [(0,[TC.sub 2 ((mN l id fr).1.map ef)]),(0,[iB (mN l id fr).2])])∧fs=[]) jR
  ·intro i a hi ha hd ht hn b acc h0
   have hlen:=congrArg List.length h0;rw[bZ] at hlen;refine uC _ _ _ _ _ _ _ (ak jC ?_)
   have hrow:rowAt (l.map ef) (i:Int)=some [iI a.id,iI a.fr]:=by rw[bA,aW,ha];rfl
   have v7:aF (i:Int) 1=((i+1:Nat):Int):=aZ az
   cases b with
   |true=>
    rw[hd] at h0;simp only[if_true] at h0;refine aH rfl ⟨_,_,hrow,ak (by rw[mL,dg jC];rfl) ?_⟩;rw[v7,sj];exact hn true (acc++[a]) (by rw[←h0];simp)
   |false=>
    rw[hd] at h0;simp only[uK,if_false] at h0;unfold oY at h0;rw[JZ] at h0;refine ak rfl ⟨_,_,hrow,?_⟩
    by_cases hlt:id<a.id
    ·have hle:S9 id a=false:=by simp[S9];omega
     rw[hle] at h0;simp only[uK,if_false] at h0;refine ak (by simpa using hlt) (ak (by rw[mL,dg jC];rfl) ⟨_,_,hrow,ak (by rw[mL,sj,dg jC];rfl) ?_⟩);rw[v7,sj,sj];exact hn true (acc++[⟨id,fr⟩]++[a]) (by rw[←h0];simp)
    ·have hle:S9 id a=true:=by simp[S9];omega
     rw[hle] at h0;simp only[if_true] at h0;refine aH (by simpa using hlt) ⟨_,_,hrow,ak (by rw[mL,dg jC];rfl) ?_⟩;rw[v7,sj];exact hn false (acc++[a]) (by rw[←h0];simp[oY])
 refine key (rK 0 (jx l id)) [] ?_;rw[hT,oV]
 by_cases h1:0≤jx l id<;>simp[h1]
theorem gP (l:List Key) (hl:l.length≤1073741824):aq C aA [cj l] (nc (bJ l)) []:=by
 refine(DS _ _ ?_).run;unfold bJ
 by_cases h:l.length=0
 ·exact ak (by simp[h]) ⟨by rw[aY h];rfl,rfl⟩
 ·refine aH (by rw[cG,wT,eZ];exact sJ az) ?_
  rw[show bL (l.map bn)=true from jh _,dg kZ];exact⟨by rw[aO h];rfl,rfl⟩
theorem mP (n:List (List Key)) (k:Key) (hb:n.length≤1073740000) (hl:tot bS n≤1073740000):aq C lW [nc n,JV k] (Sq (bM n k)) []:=by
 have hs: ∀s∈n,s.length≤1073741824:=fun s hm=>by have:=y7 (w:=bS) hm;unfold bS at this hl;omega
 have OQ:=nI n az hs;have Xm:=Dl n k;have Xn:=Dm n k
 have tail: ∀(X:List (List Key)) (Q:QV),X=gX n k→Q (Sq (bM n k)) []→ ∃(b22:Bool),aq C aU ([TV.ag [TC.sub 1 (X.map dr)]]) (TV.c (iB b22)) []∧(aP b22 (Q (TV.tu [(1,[TC.sub 1 (X.map dr)]),(0,[iB true])]) ([])) (∃(l23:RR),aq C aD ([TV.ag [TC.sub 1 (n.map dr)]]) (TV.c (TC.sub 5 l23)) []∧(∃(l24:RR),aq C aV ([TV.c (TC.sub 5 l23),JV k]) (TV.c (TC.sub 5 l24)) []∧(∃(l25:RR),aq C bP ([TV.c (TC.sub 5 l24)]) (TV.c (TC.sub 5 l25)) []∧(aP (dF 8 (Int.ofNat (List.length l25))) (∃(l26:RR),aq C aQ ([TV.ag [TC.sub 1 (n.map dr)]]) (TV.ag [TC.sub 1 l26]) []∧(Q (TV.tu [(1,[TC.sub 1 l26]),(0,[iB false])]) ([]))) (∃(l27:RR),aq C aA ([TV.c (TC.sub 5 l25)]) (TV.ag [TC.sub 1 l27]) []∧(∃(b28:Bool),aq C aU ([TV.ag [TC.sub 1 l27]]) (TV.c (iB b28)) []∧(aP (!b28) (∃(l29:RR),aq C aQ ([TV.ag [TC.sub 1 (n.map dr)]]) (TV.ag [TC.sub 1 l29]) []∧(Q (TV.tu [(1,[TC.sub 1 l29]),(0,[iB false])]) ([]))) (∃(l30:RR),aq C aA ([TV.c (TC.sub 5 l25)]) (TV.ag [TC.sub 1 l30]) []∧(Q (TV.tu [(1,[TC.sub 1 l30]),(0,[iB true])]) ([]))))))))))):=by
  intro X Q hX hQ;rw[←hX] at Xm Xn;have hok:aq C aU [nc X] (vB (dw X)) []:=nH X az az;have hkl:=lU n k;have hnl:=vk (bC n k);have hnt:=vl (bC n k);have Vz:aq C aU [nc (bJ (bC n k))] (vB (dw (bJ (bC n k)))) []:=nH _ az az;refine⟨_,hok,?_⟩;unfold bM at hQ;rw[←hX] at hQ
  cases h1:dw X with
  |true=>
   rw[aY h1] at hQ;exact ak rfl hQ
  |false=>
   rw[aO (by rw[h1];simp)] at hQ;have g1:=cM n;have g2:=gW (an n) k;refine aH rfl ⟨_,(dU n az az _).2 rfl,_,gz (an n) k az,_,qF (cm (an n) k) az,?_⟩;change aP (dF 8 (Int.ofNat (List.length ((bC n k).map bn)))) _ _
   by_cases h2:8<(bC n k).length
   ·rw[aY h2] at hQ
    exact ak jC ⟨_,OQ,hQ⟩
   ·rw[aO h2] at hQ
    refine aH jC ⟨_,gP (bC n k) az,_,Vz,?_⟩
    cases h3:dw (bJ (bC n k)) with
    |true=>
     rw[aY h3] at hQ;exact aH rfl ⟨_,gP (bC n k) az,hQ⟩
    |false=>
     rw[aO (by rw[h3];simp)] at hQ;exact ak rfl ⟨_,OQ,hQ⟩
 refine(DJ _ _ _ _ _ _ _ ⟨_,OQ,?_⟩).run
 (try dsimp only)
 rw[cG]
 cases xA:n[n.length-1]? with
 |none=>
  have h0:n.length=0:=Classical.byContradiction fun h=>by rw[aX az] at xA;cases xA
  have hX:n++[[k]]=gX n k:=by unfold gX;rw[xA]
  refine aH (by rw[h0,lT cY];simp) (aH (by rw[h0,lT cY];simp) (ak (dg jC) ?_));rw[show List.append (n.map dr) [[TC.sub 5 [[iI k.b,iI k.a,iI k.k,iI k.c,iI k.g]]]]=(n++[[k]]).map dr from by simp[dr,bn]];exact tail _ (fun r fs=>r=Sq (bM n k)∧fs=[]) hX jR
 |some s=>
  have hlt:=(List.getElem?_eq_some_iff.1 xA).1
  have hsub:gM (Int.ofNat n.length) 1=((n.length-1:Nat):Int):=by rw[lT jC];simp;omega
  have hrow:rowAt (n.map dr) ((n.length-1:Nat):Int)=some [TC.sub 5 (s.map bn)]:=by rw[bA,aW,xA];rfl
  have Us:=hs s (eK xA);have qI:setRow (n.map dr) ((n.length-1:Nat):Int) 0 [TC.sub 5 ((cm s k).map bn)]=(n.set (n.length-1) (cm s k)).map dr:=JU (a:=s) (a':=cm s k) xA rfl
  have VA:List.append (n.map dr) [[TC.sub 5 [[iI k.b,iI k.a,iI k.k,iI k.c,iI k.g]]]]=(n++[[k]]).map dr:=by simp[dr,bn]
  have hfit:fits (Nat.succ n.length) 24=true:=dg jC;rw[hsub];refine ak cY ⟨_,hrow,_,hrow,_,_,_,_,_,_,DG s k.b k.a Us,ak cY ⟨_,hrow,_,hrow,?_⟩⟩
  by_cases h2:s.length<4
  ·have hX:n.set (n.length-1) (cm s k)=gX n k:=by unfold gX GC;rw[xA];simp[h2]
   refine ak jC ⟨_,hrow,_,hrow,_,gz s k Us,_,hrow,_,hrow,?_⟩;rw[qI];exact tail _ (fun r fs=>r=Sq (bM n k)∧fs=[]) hX jR
  ·refine aH jC ?_
   cases h1:(Dj s k.b k.a).2 with
   |true=>
    have hX:n.set (n.length-1) (cm s k)=gX n k:=by unfold gX GC;rw[xA];simp[h1]
    refine ak rfl ⟨_,hrow,_,hrow,_,gz s k Us,_,hrow,_,hrow,?_⟩;rw[qI];exact tail _ (fun r fs=>r=Sq (bM n k)∧fs=[]) hX jR
   |false=>
    have hX:n++[[k]]=gX n k:=by unfold gX GC;rw[xA];simp[h1,h2]
    refine aH rfl (ak hfit ?_);rw[VA];exact tail _ (fun r fs=>r=Sq (bM n k)∧fs=[]) hX jR
theorem o8 (t:Tree) (i:Nat) (lw:List Int) (nd:List (List (List Key))) (h1:i+1≤t.au.length) (h2:i+1≤t.nodes.length) (hl:t.au.length≤1073741824) (hn:t.nodes.length≤1073741824) (XJ:lw.length≤1073741824) (Ht:nd.length≤1073741824):aq C bH [dW t,vI (i:Int),ru lw,RK nd] (dW (ke t i 1 lw nd)) []:=by
 have e1:ay (t.au.map c8) 0 (i:Int)=(t.au.take i).map c8:=by rw[ee];rfl
 have e2:ay (t.au.map c8) ((i:Int)+1) (Int.ofNat (t.au.map c8).length)=(t.au.drop (i+1)).map c8:=by
  rw[ee,cG,show((i:Int)+1).toNat=i+1 from by omega,show(Int.ofNat t.au.length).toNat=t.au.length from rfl,wW]
 have e3:ay (t.nodes.map cc) 0 (i:Int)=(t.nodes.take i).map cc:=by rw[ee];rfl
 have ea:aF (i:Int) 1=(i:Int)+1:=aZ az
 have k1:(t.au.take i).length≤t.au.length:=by rw[fJ];omega
 have k2:(t.au.drop (i+1)).length≤t.au.length:=by rw[kr];omega
 have k3:(t.nodes.take i).length≤t.nodes.length:=by rw[fJ];omega
 have k4:(t.nodes.drop (i+1)).length≤t.nodes.length:=by rw[kr];omega
 have e4:ay (t.nodes.map cc) ((i:Int)+1) (Int.ofNat (t.nodes.map cc).length)=(t.nodes.drop (i+1)).map cc:=by
  rw[ee,cG,show((i:Int)+1).toNat=i+1 from by omega,show(Int.ofNat t.nodes.length).toNat=t.nodes.length from rfl,wW]
 refine(G7 _ _ _ _ _ _ ?_).run;rw[ea,e1,e2,e3,e4,oX,oX,oX,oX]
 refine ak jC (ak jC (ak (by rw[mK,dg jC];rfl) (ak (by rw[mK,dg (by simp only[cG,yw];omega)];rfl) (ak (by rw[mK,dg (by simp only[cG,bZ,yw];omega)];rfl)
  (ak jC (ak jC (ak (dg jC) (ak (dg (by simp only[cG,yw];omega)) (ak (dg (by simp only[cG,bZ,yw];omega)) ?_)))))))))
 exact jR
attribute [local semireducible] fW ay in
theorem Ss {rows:RR} {i c:Nat} (hk:i+c≤rows.length):ay (fW 1 rows 0 (i:Int)) ((i:Int)+(c:Int)) (Int.ofNat rows.length)=rows.drop (i+c):=by
 unfold ay fW;rw[qM,show((i:Int)+(c:Int)).toNat=i+c from by omega,show(0:Int).toNat=0 from rfl,show(Int.ofNat rows.length).toNat=rows.length from rfl,List.take_zero,pL,Nat.sub_zero];rw[Qv jC,List.drop_append,List.length_replicate,yq cY,pL,List.drop_drop]
 congr 1;omega
def IV:Option Nat→Int
 |some i=>i
 |none=> -1
theorem sX (t:Tree) (hn:t.nodes.length≤1073741824) (hz:tot aJ t.nodes≤1073740000):aq C eF [dW t] (vI (IV (jM t))) []:=by
 refine(EA _ _ _ ?_).run
 have key: ∀(d i:Nat),i+d=t.nodes.length→ni t d i=jM t→aj C eF aR 4 0 (kU (i:Int) (t.au.map c8) (t.nodes.map cc)) (fun x st=>aL C eF aR x st fun r fs=>r=vI (IV (jM t))∧fs=[]):=by
  intro d
  induction d with
  |zero=>
   intro i h he;have ea:aF (i:Int) 1=(i:Int)+1:=aZ az;refine uk _ _ _ _ ?_;rw[ea];exact aH jC (um _ _ _ _ _ ⟨by rw[←he];rfl,rfl⟩)
  |succ d ih=>
   intro i h he;have ea:aF (i:Int) 1=(i:Int)+1:=aZ az
   have ec:(i:Int)+1=((i+1:Nat):Int):=by omega
   unfold ni at he;refine uk _ _ _ _ ?_;rw[ea,ec]
   by_cases h1:i+1<t.nodes.length
   ·rw[aY h1] at he
    obtain⟨a,ha⟩: ∃a,t.nodes[i]?=some a:=⟨_,aX az⟩;obtain⟨b,hb⟩: ∃b,t.nodes[i+1]?=some b:=⟨_,aX h1⟩;have za:a.length+tot bS a≤tot aJ t.nodes:=ou (w:=aJ) ha;have zb:b.length+tot bS b≤tot aJ t.nodes:=ou (w:=aJ) hb
    have ka:e7 t i=an a:=by unfold e7;rw[mV,ha];rfl
    have kb:e7 t (i+1)=an b:=by unfold e7;rw[mV,hb];rfl
    have la:=cM a;have lb:=cM b;rw[ka,kb] at he;refine ak jC ⟨_,by rw[bA,aW,ha];rfl,_,by rw[bA,aW,hb];rfl,_,(dU a az az _).2 rfl,_,(dU b az az _).2 rfl,?_⟩
    (try dsimp only)
    rw[cG,cG,show aF (Int.ofNat (an a).length) (Int.ofNat (an b).length)=((an a).length:Int)+(an b).length from aZ jC]
    by_cases h2:(an a).length+(an b).length≤6
    ·rw[aY h2] at he
     exact ak jC (BN _ _ _ _ _ _ ⟨by rw[←he];rfl,rfl⟩)
    ·rw[aO h2] at he
     exact aH jC (ih (i+1) az he)
   ·rw[aO h1] at he
    exact aH jC (um _ _ _ _ _ ⟨by rw[←he];rfl,rfl⟩)
 exact key t.nodes.length 0 az rfl
theorem Bz (t0:Tree) (hw0:t0.au.length=t0.nodes.length) (Oz:tot aJ t0.nodes+t0.nodes.length≤1073700000):aq C aI [dW t0] (dW (iW t0.nodes.length t0)) []:=by
 refine(ES _ _ _ ⟨_,sX t0 az az,?_⟩).run
 have key: ∀(m:Nat) (t:Tree),t.nodes.length=m→t.au.length=t.nodes.length→tot aJ t.nodes+t.nodes.length≤1073700000→iW m t=iW t0.nodes.length t0→aj C aI aR 4 0 (jc (IV (jM t)) (t.au.map c8) (t.nodes.map cc)) (fun x st=>aL C aI aR x st fun r fs=>r=dW (iW t0.nodes.length t0)∧fs=[]):=by
  intro m
  induction m with
  |zero=>
   intro t hm hw hz he
   have hp:jM t=none:=by unfold jM;rw[hm];rfl
   rw[hp];exact nM _ _ _ _ (aH (by simp[IV]) (uE _ _ _ _ _ ⟨by rw[←he];rfl,rfl⟩))
  |succ m ih=>
   intro t hm hw hz he;rw[xV] at he
   cases hp:jM t with
   |none=>
    rw[hp] at he;have he:t=iW t0.nodes.length t0:=he;exact nM _ _ _ _ (aH (by simp[IV]) (uE _ _ _ _ _ ⟨by rw[←he],rfl⟩))
   |some i=>
   rw[hp] at he;have he:iW m (cP t i)=iW t0.nodes.length t0:=he;have hlt:=wH hp;show aj C aI aR 4 0 (jc (i:Int) (t.au.map c8) (t.nodes.map cc)) _;obtain⟨a,ha⟩: ∃a,t.nodes[i]?=some a:=⟨_,aX az⟩;obtain⟨b,hb⟩: ∃b,t.nodes[i+1]?=some b:=⟨_,aX hlt.1⟩;have za:a.length+tot bS a≤tot aJ t.nodes:=ou (w:=aJ) ha;have zb:b.length+tot bS b≤tot aJ t.nodes:=ou (w:=aJ) hb;have la:=cM a;have lb:=cM b;have h6:=hlt.2;rw[fm ha,fm hb] at h6
   have ea:aF (i:Int) 1=((i+1:Nat):Int):=by rw[aZ az];omega
   have eb:aF (i:Int) 2=((i+2:Nat):Int):=by rw[aZ az];omega
   have ra:rowAt (t.nodes.map cc) (i:Int)=some [TC.sub 1 (a.map dr)]:=by rw[bA,aW,ha];rfl
   have rb:rowAt (t.nodes.map cc) ((i+1:Nat):Int)=some [TC.sub 1 (b.map dr)]:=by rw[bA,aW,hb];rfl
   have c1:ay (t.au.map c8) 0 ((i+1:Nat):Int)=(t.au.take (i+1)).map c8:=by rw[ee];rfl
   have c2:ay (t.au.map c8) ((i+2:Nat):Int) (Int.ofNat (t.au.map c8).length)=(t.au.drop (i+2)).map c8:=by
    rw[ee,cG,qM,show(Int.ofNat t.au.length).toNat=t.au.length from rfl,wW]
   have c3:ay (t.nodes.map cc) 0 (i:Int)=(t.nodes.take i).map cc:=by rw[ee];rfl
   have c4:ay (t.nodes.map cc) ((i+2:Nat):Int) (Int.ofNat (t.nodes.map cc).length)=(t.nodes.drop (i+2)).map cc:=by
    rw[ee,cG,qM,show(Int.ofNat t.nodes.length).toNat=t.nodes.length from rfl,wW]
   have hlo:i<t.au.length:=by omega
   have eL:List.append ((t.au.take (i+1)).map c8) ((t.au.drop (i+2)).map c8)=(cP t i).au.map c8:=by
    rw[oX];unfold cP ke;simp only[];rw[List.take_add_one,mV,aX hlo];simp
   have eN:List.append (List.append ((t.nodes.take i).map cc) [[TC.sub 1 ((bJ (an a++an b)).map dr)]]) ((t.nodes.drop (i+2)).map cc)=(cP t i).nodes.map cc:=by
    rw[IA,oX];unfold cP ke;simp only[];rw[fm ha,fm hb]
   have hsz:=Bh hlt.1;have hjl:=sq hlt.1
   have XK:(cP t i).au.length+1=t.au.length:=by
    have:=xS t i 2 [t.au.getD i 0] [bJ (e7 t i++e7 t (i+1))] az;unfold cP;simp only[gl] at this;omega
   have k1:(t.au.take (i+1)).length≤t.au.length:=by rw[fJ];omega
   have k2:(t.au.drop (i+2)).length≤t.au.length:=by rw[kr];omega
   have k3:(t.nodes.take i).length≤t.nodes.length:=by rw[fJ];omega
   have k4:(t.nodes.drop (i+2)).length≤t.nodes.length:=by rw[kr];omega
   refine nM _ _ _ _ (ak cY ?_);rw[ea,eb];refine⟨_,ra,_,ra,_,rb,_,rb,_,(dU a az az _).2 rfl,_,(dU b az az _).2 rfl,?_⟩
   (try dsimp only)
   rw[oX,c1,c2,c3,c4]
   refine ak (by rw[jh,dg (by simp only[cG,yw];omega)];rfl) (ak jC (ak jC (ak (by rw[mK,dg (by simp only[cG,yw];omega)];rfl) (ak (by rw[mK,dg (by simp only[cG,yw];omega)];rfl)
    (ak jC (ak jC (ak (dg (by simp only[cG,yw];omega)) ⟨_,gP (an a++an b) (by rw[bZ];omega),ak (dg (by simp only[cG,Nat.succ_eq_add_one];omega)) ?_⟩)))))))
   rw[eL,eN];refine ak (dg (by rw[IA];simp only[cG,bZ,gl,yw];omega)) ⟨_,sX (cP t i) az az,?_⟩;exact ih (cP t i) az az az he
 exact key t0.nodes.length t0 rfl hw0 Oz rfl
theorem UX {n:Nat} (h:n≤1073741824):eM .i64 (aF (Int.ofNat n) 1) 2=(((n+1)/2:Nat):Int):=by
 rw[aZ kZ];unfold eM;rw[Int.tdiv_eq_ediv_of_nonneg kZ,show IntKind.wrap .i64 ((Int.ofNat n+1)/2)=(Int.ofNat n+1)/2 from IntWalk.i64_in _ kZ];simp
theorem AB (t:Tree) (k:Key) (hz:cO t≤4194304) (hroom:de t=true→cT k=true→(fG (cm (av t) k)).length≤60):aq C sx [dW t,JV k] (Ho (cn t k)) []:=by
 have hN:=IU hz;have OQ:aq C bW [dW t] (dW t) []:=Bx t hN.1 hN.2;refine(D3 _ _ _ _ _ _ _ _ ⟨_,_,OQ,_,sW t az,?_⟩).run
 cases h1:de t with
 |false=>exact ak rfl ⟨by unfold cn;rw[aO (by rw[h1];simp)],rfl⟩
 |true=>
 refine aH rfl ⟨_,(zi _ _ _ _ _ _).2 rfl,?_⟩;change aP (!cT k) _ _
 cases h2:cT k with
 |false=>exact ak rfl ⟨by unfold cn;rw[aO (by rw[h2];simp)],rfl⟩
 |true=>
 obtain⟨i,hi,OO⟩:=J2 h1 h2;have hlen:=jN h1
 have hw:aq C c7 [dW t,vI k.b,vI k.a] (vI (i:Int)) []:=by rw[←hi];exact AA t k.b k.a az
 have hrow:rowAt (t.nodes.map cc) (i:Int)=some [TC.sub 1 (t.nodes[i].map dr)]:=by rw[bA,aW,aX OO];rfl
 have Qs:rowAt (t.au.map c8) (i:Int)=some [iI (t.au.getD i 0)]:=by
  rw[bA,aW,mV,aX az];rfl
 have hg:t.nodes.getD i []=t.nodes[i]:=by rw[mV,aX OO];rfl
 have hok:=lF h1 (qN OO);have hsz:=jY hok;have hps:=Be t.nodes[i] k;have XL:=Bf t.nodes[i] k;have hkl:=lU t.nodes[i] k;have hnk:=cM t.nodes[i];obtain⟨Sz,I6,V2⟩:=NY (k:=k) h1 OO
 have hR:cn t k=if de (iW (g8 t i k).nodes.length (g8 t i k))=true then(iW (g8 t i k).nodes.length (g8 t i k),true) else(t,false):=by
  unfold cn;rw[aY ⟨h1,h2⟩,hi,qM]
 have fin: ∀Q:QV,Q (Ho (cn t k)) []→ ∃(l39 l40:RR),aq C aI [dW (g8 t i k)] (.ag [.sub 1 l39,.sub 1 l40]) []∧(∃b:Bool,aq C aB [.ag [.sub 1 l39,.sub 1 l40]] (vB b) []∧(aP (!b) (False) (Q (.tu [(1,[.sub 1 l39,.sub 1 l40]),(0,[iB true])]) []))):=by
  intro Q hQ;have h3:=(Dx h1 h2).2.2 (hroom h1 h2);rw[hi,qM] at h3;refine⟨_,_,Bz (g8 t i k) I6 az,_,sW _ az,?_⟩;rw[hR,aY h3] at hQ;exact aH (by rw[h3];rfl) hQ
 have np:=mP t.nodes[i] k az az;have hx:=o8 t i [t.au.getD i 0] [(bM t.nodes[i] k).1] az az az az cY cY;refine aH rfl ⟨_,hw,_,hrow,?_⟩
 cases hp:(bM t.nodes[i] k).2 with
 |false=>
  have hno:=(Dp hok h2 hp).1
  have cno:(!(bM t.nodes[i] k).2)=true:=by rw[hp];rfl
  obtain⟨ks,hks⟩: ∃ks,ks=bC t.nodes[i] k:=⟨_,rfl⟩;rw[←hks] at hno hkl;have hh:=K4 hno;obtain⟨h,Ur⟩: ∃h,h=(ks.length+1)/2:=⟨_,rfl⟩
  have hq:eM .i64 (aF (Int.ofNat (List.length (ks.map bn))) 1) 2=(h:Int):=by rw[cG,UX az,Ur]
  have hkk:rowAt (ks.map bn) (h:Int)=some [iI (ks.getD h dQ).b,iI (ks.getD h dQ).a,iI (ks.getD h dQ).k,iI (ks.getD h dQ).c,iI (ks.getD h dQ).g]:=by
   rw[bA,aW,mV,aX az];rfl
  have ep:g8 t i k=ke t i 1 [t.au.getD i 0,bI (ks.getD h dQ).b (ks.getD h dQ).a] [bJ (ks.take h),bJ (ks.drop h)]:=by
   unfold g8;rw[hg,aO (by rw[hp];simp),←hks,←Ur]
  have rp:=o8 t i [t.au.getD i 0,bI (ks.getD h dQ).b (ks.getD h dQ).a] [bJ (ks.take h),bJ (ks.drop h)] az az az az cY cY;rw[←ep] at rp
  have e1:ay (ks.map bn) 0 (h:Int)=(ks.take h).map bn:=by rw[ee];rfl
  have e2:ay (ks.map bn) (h:Int) (Int.ofNat (List.length (ks.map bn)))=(ks.drop h).map bn:=by
   rw[ee,cG,qM,show(Int.ofNat ks.length).toNat=ks.length from rfl,wW]
  have nn1:aq C aA [.c (.sub 5 (ay (ks.map bn) 0 (h:Int)))] (nc (bJ (ks.take h))) []:=by rw[e1];exact gP _ (by rw[fJ];omega)
  have nn2:aq C aA [.c (.sub 5 (ay (ks.map bn) (h:Int) (Int.ofNat (List.length (ks.map bn)))))] (nc (bJ (ks.drop h))) []:=by rw[e2];exact gP _ (by rw[kr];omega)
  have c1:fU 0 (h:Int) (Int.ofNat (List.length (ks.map bn)))=true:=by rw[Ix];simp;omega
  have c2:fU (h:Int) (Int.ofNat (List.length (ks.map bn))) (Int.ofNat (List.length (ks.map bn)))=true:=by rw[Ix];simp;omega
  have kw:aq C bP [cj (cm (an t.nodes[i]) k)] (cj ks) []:=by
   rw[hks];exact qF (cm (an t.nodes[i]) k) (by have:=gW (an t.nodes[i]) k;omega)
  clear hks Ur hR
  repeat' first
   |refine⟨_,hrow,?_⟩
   |refine⟨_,Qs,?_⟩
   |refine⟨_,_,np,?_⟩
   |refine⟨_,_,hx,?_⟩
   |refine ak cno ?_
   |refine⟨_,kw,?_⟩
   |refine⟨_,(dU t.nodes[i] az az _).2 rfl,?_⟩
   |refine⟨_,gz (an t.nodes[i]) k az,?_⟩
   |refine aH (by rw[eZ];rfl) ?_
   |rw[hq]
   |refine⟨_,_,_,_,_,hkk,?_⟩
   |refine ak c1 ?_
   |refine ak c2 ?_
   |refine⟨_,(xo _ _ _ _ _ _).2 rfl,?_⟩
   |refine⟨_,nn1,?_⟩
   |refine⟨_,nn2,?_⟩
   |refine⟨_,_,rp,?_⟩
   |refine⟨(Ho (cn t k),([]:List TV)),?_,?_,rfl⟩
   |refine⟨(Ho (cn t k),([]:List TV)),?_,?_,jR⟩
   |exact fin (fun a b=>(a,b)=(Ho (cn t k),([]:List TV))) rfl
   |exact fin (fun r fs=>r=Ho (cn t k)∧fs=[]) jR
 |true=>
  have cno:(!(bM t.nodes[i] k).2)=false:=by rw[hp];rfl
  by_cases hc:0<i∧(an (bM t.nodes[i] k).1).length=0
  ·have ci:dF 0 (i:Int)=true:=by rw[nD];simp;omega
   have nk:=(dU (bM t.nodes[i] k).1 az az _).2 rfl
   have cl:fT (Int.ofNat (List.length ((an (bM t.nodes[i] k).1).map bn))) 0=true:=by rw[eZ,cG,hc.2];rfl
   have ep:g8 t i k=ke t i 1 [] []:=by unfold g8;rw[hg,aY hp,aY hc]
   have rp:=o8 t i [] [] az az az az cY cY;rw[←ep] at rp;clear hR
   repeat' first
   |refine⟨_,hrow,?_⟩
   |refine⟨_,Qs,?_⟩
   |refine⟨_,_,np,?_⟩
   |refine⟨_,_,hx,?_⟩
   |refine aH cno ?_
   |refine ak ci ?_
   |refine⟨_,nk,?_⟩
   |refine ak cl ?_
   |refine⟨_,_,rp,?_⟩
   |refine⟨(Ho (cn t k),([]:List TV)),?_,?_,rfl⟩
   |refine⟨(Ho (cn t k),([]:List TV)),?_,?_,jR⟩
   |exact fin (fun a b=>(a,b)=(Ho (cn t k),([]:List TV))) rfl
   |exact fin (fun r fs=>r=Ho (cn t k)∧fs=[]) jR
  ·have ep:ke t i 1 [t.au.getD i 0] [(bM t.nodes[i] k).1]=g8 t i k:=by
    unfold g8;rw[hg,aY hp,aO hc]
   rw[ep] at hx;clear hR
   by_cases VI:0<i
   ·have ci:dF 0 (i:Int)=true:=by rw[nD];simp;omega
    have nk:=(dU (bM t.nodes[i] k).1 az az _).2 rfl
    have cl:fT (Int.ofNat (List.length ((an (bM t.nodes[i] k).1).map bn))) 0=false:=by
     rw[eZ,cG];exact sJ fun e=>hc ⟨VI,by have e:((an (bM t.nodes[i] k).1).length:Int)=0:=e;omega⟩
    repeat' first
   |refine⟨_,hrow,?_⟩
   |refine⟨_,Qs,?_⟩
   |refine⟨_,_,np,?_⟩
   |refine⟨_,_,hx,?_⟩
   |refine aH cno ?_
   |refine ak ci ?_
   |refine⟨_,nk,?_⟩
   |refine aH cl ?_
   |refine⟨(Ho (cn t k),([]:List TV)),?_,?_,rfl⟩
   |refine⟨(Ho (cn t k),([]:List TV)),?_,?_,jR⟩
   |exact fin (fun a b=>(a,b)=(Ho (cn t k),([]:List TV))) rfl
   |exact fin (fun r fs=>r=Ho (cn t k)∧fs=[]) jR
   ·have ci:dF 0 (i:Int)=false:=by rw[nD];simp;omega
    repeat' first
   |refine⟨_,hrow,?_⟩
   |refine⟨_,Qs,?_⟩
   |refine⟨_,_,np,?_⟩
   |refine⟨_,_,hx,?_⟩
   |refine aH cno ?_
   |refine aH ci ?_
   |refine⟨(Ho (cn t k),([]:List TV)),?_,?_,rfl⟩
   |refine⟨(Ho (cn t k),([]:List TV)),?_,?_,jR⟩
   |exact fin (fun a b=>(a,b)=(Ho (cn t k),([]:List TV))) rfl
   |exact fin (fun r fs=>r=Ho (cn t k)∧fs=[]) jR
theorem Lc (b:List Int) (hb:b.length≤1048576):bE C fy [sg b] (fun r fs=>fs=[]∧ ∃h,r=mM b 0 h):=by
 refine G2 _ _ ?_
 have key: ∀(d i:Nat) (h:Int),i+d=4000→aj C fy ah 4 0 (lZ (b.map gr) h (i:Int)) (fun x st=>aL C fy ah x st fun r fs=>fs=[]∧ ∃h,r=mM b 0 h):=by
  intro d
  induction d with
  |zero=>
   intro i h hd;refine vU _ _ _ _ ?_
   by_cases h1:(i:Int)<(b.length:Int)
   ·exact ak jC (aH jC (DX _ _ _ _ ⟨rfl,_,rfl⟩))
   ·exact aH jC (vV _ _ _ _ ⟨rfl,_,rfl⟩)
  |succ d ih=>
   intro i h hd;refine vU _ _ _ _ ?_
   by_cases h1:(i:Int)<(b.length:Int)
   ·refine ak jC (ak jC ⟨b[i]'az,by rw[bA,aW,aX az];rfl,?_⟩)
    rw[aZ (a:=(i:Int)) az];exact ih (i+1) _ az
   ·exact aH jC (vV _ _ _ _ ⟨rfl,_,rfl⟩)
 exact key 4000 0 _ rfl
theorem zm (b:List Int) (i h:Int) (hi:0≤i) (hb:b.length≤1048576):bE C lH [mM b i h] (Dr b fun r=> ∃x,r=vI x∧0≤x∧x≤255):=by
 refine EO _ _ _ _ ?_
 by_cases h1:i<(b.length:Int)
 ·obtain⟨x,hx⟩:=oE hi h1
  refine ak jC ⟨x,by rw[bA,hx];rfl,aF i 1,_,?_,rfl,_,rfl,NP _⟩;rw[aZ az];omega
 ·exact aH jC ⟨i,_,hi,rfl,_,rfl,NP _⟩
theorem cK (b:List Int) (i h:Int) (hi:0≤i) (hb:b.length≤1048576) (n:Int) (hn:n≤16777216):bE C bh [mM b i h,vI n] (Dr b fun r=> ∃x,r=vI x∧0≤x∧(0<n→x<n)):=by
 refine DY _ _ _ _ _ ?_
 by_cases h0:n≤0
 ·exact ak jC ⟨i,h,hi,rfl,0,rfl,Int.le_refl _,fun h=>by omega⟩
 refine aH jC ?_
 by_cases h1:n≤256
 ·obtain⟨_,_,hr,i1,zF,hi1,rfl,x,rfl,x0,x1⟩:=zm b i h hi hb
  refine ak jC ⟨x,_,i1,zF,hr,aH jC ⟨i1,zF,hi1,rfl,_,rfl,?_⟩⟩;rw[KV];have:=IB x0 (show 0<n by omega);exact⟨this.1,fun _=>this.2⟩
 ·obtain⟨_,_,hr,i1,zF,hi1,rfl,x,rfl,x0,x1⟩:=zm b i h hi hb
  obtain⟨_,_,FT,i2,Lk,hi2,rfl,y,rfl,y0,y1⟩:=zm b i1 zF hi1 hb;obtain⟨_,_,VB,i3,OL,yo,rfl,z,rfl,z0,z1⟩:=zm b i2 Lk hi2 hb;refine aH jC ⟨x,_,i1,zF,hr,y,_,i2,Lk,FT,z,_,i3,OL,VB,aH jC ⟨i3,OL,yo,rfl,_,rfl,?_⟩⟩;have e1:y6 x 65536=x*65536:=Gz az;have e2:y6 y 256=y*256:=Gz az;rw[KV,e1,e2,aZ (a:=x*65536) az,aZ az];have:=IB (show 0≤x*65536+y*256+z by omega) (show 0<n by omega);exact⟨this.1,fun _=>this.2⟩
theorem Og (b:List Int) (i h:Int) (hi:0≤i) (hb:b.length≤1048576) (n:Int) (hn:n≤16777216):bE C vv [mM b i h,vI n] (Dr b fun r=> ∃x,r=vB x):=by
 obtain⟨_,_,hr,i1,zF,hi1,rfl,x,rfl,x0,x1⟩:=cK b i h hi hb n hn;exact Ey _ _ _ _ _ ⟨x,_,i1,zF,hr,i1,zF,hi1,rfl,_,rfl⟩
theorem lY (b:List Int) (i h:Int) (hi:0≤i) (hb:b.length≤1048576) (l:List Int) (h0:0<l.length) (hl:l.length≤1000):bE C ew [mM b i h,ru l] (Dr b fun r=> ∃x,r=vI x∧x∈l):=by
 obtain⟨_,_,hr,i1,zF,hi1,rfl,x,rfl,x0,x1⟩:=cK b i h hi hb (l.length:Int) az;have:=x1 az;obtain⟨y,hy⟩:=oE x0 this;refine G6 _ _ _ _ _ ⟨x,_,i1,zF,by rw[cG];exact hr,y,by rw[bA,hy];rfl,i1,zF,hi1,rfl,y,rfl,NI hy⟩
theorem P0 (b:List Int):aq C Dz [sg b] (vB (decide (1048576<b.length))) []:=by
 refine(Kf _ _ ⟨?_,by trivial⟩).run;simp<;>omega
theorem RU {l:List Int} {x lo hi:Int} (h:x∈l) (ha:l.all (fun y=>decide (lo≤y∧y≤hi))=true):lo≤x∧x≤hi:=oI (List.all_eq_true.1 ha x h)
attribute [local semireducible] eM in
theorem Te {a:Int} (h0:0≤a) (h1:a≤9223372036854775807):eM .i64 a 12=a/12:=by
 show IntKind.i64.wrap (a.tdiv 12)=_;rw[Int.tdiv_eq_ediv_of_nonneg h0];exact IntWalk.i64_in _ az
theorem Oh (b:List Int) (n:Int) (h3:3≤n) (hn:n≤1000) (hb:b.length≤1048576): ∃x,3≤x∧x≤n∧aq C vu [sg b,vI n] (vI x) []:=by
 have e:aF 3 (eM .i64 (Int.ofNat (b.map gr).length) 12)=3+(b.length:Int)/12:=by
  rw[Te jC jC,aZ jC];simp
 by_cases h:n<3+(b.length:Int)/12
 ·refine⟨n,h3,Int.le_refl _,(xx _ _ _ (aH cY ?_)).run⟩
  rw[e];exact ak (by simpa using h) jR
 ·refine⟨3+(b.length:Int)/12,by omega,by omega,(xx _ _ _ (aH cY ?_)).run⟩
  rw[e];exact aH (by simpa using h) jR
theorem o9 (b:List Int) (i h:Int) (hi:0≤i) (hb:b.length≤1048576):bE C fK [mM b i h] (Dr b fun r=> ∃x,r=TV.ag (bn x)∧cT x=true):=by
 refine EC _ _ _ _ ?_;refine eo (cK b _ _ hi hb _ (by first|omega|(simp<;>omega))) fun n3 i1 h1 hi1 hx1=> ?_;refine eo (cK b _ _ hi1 hb _ (by first|omega|(simp<;>omega))) fun n7 i2 h2 hi2 Mj=> ?_;refine eo (lY b _ _ hi2 hb [0,1,1,1,2] cY cY) fun n11 i3 h3 yo TU=> ?_;refine cN (fun e=> ?_) fun e=> ?_
 ·refine eo (cK b _ _ yo hb _ (by first|omega|(simp<;>omega))) fun n15 i4 h4 Mg Ut=> ?_
  refine eo (lY b _ _ Mg hb [0,1,256,999] cY cY) fun n19 i5 h5 Uu VC=> ?_;have p1:=hx1.2 az;have p2:=Mj.2 az;have p3:=RU TU (lo:=0) (hi:=2) rfl;have q1:=hx1.1;have q2:=Mj.1;have p4:=Ut.2 az;have q4:=Ut.1;have p5:=RU VC (lo:=0) (hi:=999) rfl;have e1:=oI ((eZ _ _).symm.trans e);exact dX Uu ⟨⟨n3,aF 1 n7,n11,n15,n19⟩,rfl,by rw[aZ az];exact N8 az az az (.inl ⟨e1,by omega⟩)⟩
 ·have p1:=hx1.2 az
  have p2:=Mj.2 az;have p3:=RU TU (lo:=0) (hi:=2) rfl;have q1:=hx1.1;have q2:=Mj.1;have e1:=of_decide_eq_false ((eZ _ _).symm.trans e);exact dX yo ⟨⟨n3,aF 1 n7,n11,0,0⟩,rfl,by rw[aZ az];exact N8 az az az (.inr ⟨e1,rfl,rfl⟩)⟩
theorem P1 (b:List Int) (i h:Int) (hi:0≤i) (hb:b.length≤1048576):bE C xZ [mM b i h] (Dr b fun r=> ∃x,r=TV.ag (bn x)∧True):=by
 refine G3 _ _ _ _ ?_;refine sw (o9 b _ _ hi hb) fun k1 i1 h1 hi1 hx1=> ?_;refine eo (cK b _ _ hi1 hb _ (by first|omega|(simp<;>omega))) fun n11 i2 h2 hi2 Mj=> ?_;refine cN (fun e=> ?_) fun e=> ?_
 ·refine eo (lY b _ _ hi2 hb [(-1),15,16] cY cY) fun n15 i3 h3 yo TU=> ?_
  exact dX yo ⟨⟨n15,k1.a,k1.k,k1.c,k1.g⟩,rfl,trivial⟩
 ·refine cN (fun e=> ?_) fun e=> ?_
  ·refine eo (lY b _ _ hi2 hb [0,60,61] cY cY) fun n19 i4 h4 Mg Ut=> ?_
   exact dX Mg ⟨⟨k1.b,n19,k1.k,k1.c,k1.g⟩,rfl,trivial⟩
  ·refine cN (fun e=> ?_) fun e=> ?_
   ·refine eo (lY b _ _ hi2 hb [(-1),3] cY cY) fun n23 i5 h5 Uu VC=> ?_
    exact dX Uu ⟨⟨k1.b,k1.a,n23,k1.c,k1.g⟩,rfl,trivial⟩
   ·refine cN (fun e=> ?_) fun e=> ?_
    ·refine eo (lY b _ _ hi2 hb [(-1),1,23,24] cY cY) fun n27 i6 h6 Xo XM=> ?_
     exact dX Xo ⟨⟨k1.b,k1.a,k1.k,n27,k1.g⟩,rfl,trivial⟩
    ·refine cN (fun e=> ?_) fun e=> ?_
     ·refine eo (lY b _ _ hi2 hb [(-1),1,999,1000] cY cY) fun n31 i7 h7 Xp XN=> ?_
      exact dX Xp ⟨⟨k1.b,k1.a,k1.k,k1.c,n31⟩,rfl,trivial⟩
     ·exact dX hi2 ⟨⟨k1.b,k1.a,k1.k,k1.c,k1.g⟩,rfl,trivial⟩
theorem Ld (b:List Int) (i h:Int) (hi:0≤i) (hb:b.length≤1048576):bE C sC [mM b i h] (Dr b fun r=> ∃x,r=TV.ag (bn x)∧cT x=true):=by
 refine G1 _ _ _ _ ?_;refine sw (o9 b _ _ hi hb) fun k1 i1 h1 hi1 hx1=> ?_;refine eo (cK b _ _ hi1 hb _ (by first|omega|(simp<;>omega))) fun n11 i2 h2 hi2 Mj=> ?_;exact dX hi2 ⟨⟨_,_,_,_,_⟩,rfl,PR hx1 ⟨Mj.1,by have:=Mj.2 az;omega⟩⟩
theorem Oi (b:List Int) (i h:Int) (hi:0≤i) (hb:b.length≤1048576) (n:Int) (h0:0≤n) (hn:n≤100):bE C fO [mM b i h,vI n] (Dr b fun r=> ∃l:List Key,r=TV.c (TC.sub 5 (l.map bn))∧(l.length:Int)≤n):=by
 refine Ez _ _ _ _ _ ?_;rw[aZ az];refine eo (cK b _ _ hi hb _ az) fun x i1 h1 hi1 hx=> ?_;have hx1:=hx.2 az
 have key: ∀(d:Nat) (i h:Int) (l:List Key),0≤i→(l.length:Int)+d≤n→aj C fO ah 4 0 (kT (d:Int) (b.map gr) i h (l.map bn)) (fun x st=>aL C fO ah x st (Dr b fun r=> ∃l:List Key,r=TV.c (TC.sub 5 (l.map bn))∧(l.length:Int)≤n)):=by
  intro d
  induction d with
  |zero=>
   intro i h l hi hl;exact uj _ _ _ _ _ _ (aH cY (BM _ _ _ _ _ _ _ (dX hi ⟨l,rfl,by omega⟩)))
  |succ d ih=>
   intro i h l hi hl;have e:gM ((d+1:Nat):Int) 1=(d:Int):=(lT az).trans az;refine uj _ _ _ _ _ _ (ak jC (sw (o9 b _ _ hi hb) fun k i2 h2 hi2 _=>⟨_,gz l k az,?_⟩));rw[e];exact ih _ _ _ hi2 (by have:=gW l k;omega)
 obtain⟨d,rfl⟩: ∃d:Nat,x=(d:Int):=⟨x.toNat,by omega⟩;exact key d _ _ [] hi1 kZ
theorem P2 (b:List Int) (i h:Int) (hi:0≤i) (hb:b.length≤1048576) (n:Int) (h0:0≤n) (hn:n≤100):bE C x8 [mM b i h,vI n] (Dr b fun r=> ∃l:List Key,r=TV.c (TC.sub 5 (l.map bn))∧(l.length:Int)≤n+1):=by
 refine G4 _ _ _ _ _ (Cr (e:=bn) (Oi b _ _ hi hb n h0 hn) fun l i1 h1 hi1 hl=>eo (cK b _ _ hi1 hb _ az) fun x i2 h2 hi2 hx=>cN (fun e0=> ?_) fun e0=>cN (fun e1=>cN (fun e2=> ?_) fun e2=> ?_) fun e1=> ?_)
 ·refine sw (P1 b _ _ hi2 hb) fun k i3 h3 yo _=>ak ?_ (dX yo ⟨l++[k],by simp[bn],by simp;omega⟩)
  rw[dg jC];simp
 ·have vZ:1<l.length:=by have:(1:Int)<l.length:=by simpa using e2
                         omega
  have g0:jt l 0=some l[0]:=by rw[show(0:Int)=((0:Nat):Int) from rfl,aW];exact aX az
  have g1:jt l 1=some l[1]:=by rw[show(1:Int)=((1:Nat):Int) from rfl,aW];exact aX vZ
  have r0:rowAt (l.map bn) 0=some (bn l[0]):=by rw[bA,g0];rfl
  have r1:rowAt (l.map bn) 1=some (bn l[1]):=by rw[bA,g1];rfl
  have s0:setRow (l.map bn) 0 0 (bn l[1])=(nE l 0 l[1]).map bn:=m8 g0 (a':=l[1]) rfl
  have g2:jt (nE l 0 l[1]) 1=some l[1]:=by
   rw[show(1:Int)=((1:Nat):Int) from rfl,aW];unfold nE;rw[List.getElem?_set_ne cY,aX vZ]
  have r2:rowAt ((nE l 0 l[1]).map bn) 1=some (bn l[1]):=by rw[bA,g2];rfl
  have r3:rowAt (setRow (l.map bn) 0 0 (bn l[1])) 1=some (bn l[1]):=by rw[s0];exact r2
  have s1:setRow ((nE l 0 l[1]).map bn) 1 0 (bn l[0])=(nE (nE l 0 l[1]) 1 l[0]).map bn:=m8 g2 (a':=l[0]) rfl;refine⟨_,_,_,_,_,r0,_,_,_,_,_,r0,_,_,_,_,_,r1,_,_,_,_,_,r1,_,_,_,_,_,r0,_,_,_,_,_,r0,_,_,_,_,_,r3,_,_,_,_,_,r3,dX hi2 ⟨nE (nE l 0 l[1]) 1 l[0],?_,by rw[m7,m7];omega⟩⟩;show TV.c (TC.sub 5 (setRow (setRow (l.map bn) 0 0 (bn l[1])) 1 0 (bn l[0])))=_;rw[s0,s1]
 ·exact dX hi2 ⟨l,rfl,by omega⟩
 ·exact dX hi2 ⟨l,rfl,by omega⟩
theorem Oj (b:List Int) (i h:Int) (hi:0≤i) (hb:b.length≤1048576):bE C ei [mM b i h] (Dr b fun r=> ∃x:List (List Key),r=TV.ag [TC.sub 1 (x.map dr)]∧dw x=true):=by
 refine Et _ _ _ _ (eo (cK b _ _ hi hb _ az) fun x i1 h1 hi1 hx=> ?_);have hx1:=hx.2 az
 have key: ∀(d:Nat) (i h:Int) (n:List (List Key)),d≤100→0≤i→dw n=true→aj C ei ah 4 0 (kP (d:Int) (b.map gr) i h (n.map dr)) (fun x st=>aL C ei ah x st (Dr b fun r=> ∃x:List (List Key),r=TV.ag [TC.sub 1 (x.map dr)]∧dw x=true)):=by
  intro d
  induction d with
  |zero=>
   intro i h n hd hi hn;exact ud _ _ _ _ _ _ (aH cY (BG _ _ _ _ _ _ _ (dX hi ⟨n,rfl,hn⟩)))
  |succ d ih=>
   intro i h n hd hi hn;have hs:=jY hn;have e:gM ((d+1:Nat):Int) 1=(d:Int):=(lT az).trans az;refine ud _ _ _ _ _ _ (ak jC (sw (o9 b _ _ hi hb) fun k i2 h2 hi2 _=>⟨_,_,mP n k az az,?_⟩));rw[e];exact ih _ _ _ az hi2 (Bj hn k)
 obtain⟨d,rfl⟩: ∃d:Nat,x=(d:Int):=⟨x.toNat,by omega⟩
 cases d with
 |zero=>exact uc _ _ _ _ _ (aH cY (BF _ _ _ _ _ _ (dX hi1 ⟨[],rfl,by decide+kernel⟩)))
 |succ d=>
  have e:gM ((d+1:Nat):Int) 1=(d:Int):=(lT az).trans az;refine uc _ _ _ _ _ (ak jC (sw (o9 b _ _ hi1 hb) fun k i2 h2 hi2 _=>⟨_,_,mP [] k (wX _) (wX _),?_⟩));rw[e];exact key d _ _ _ az hi2 (Bj (by decide+kernel) k)
theorem DH (n m:List (List Key)):aJ (n++m)=aJ n+aJ m:=by
 unfold aJ;rw[bZ,qc];omega
theorem Le (b:List Int) (i h:Int) (hi:0≤i) (hb:b.length≤1048576):bE C sA [mM b i h] (Dr b fun r=> ∃x:List (List Key),r=TV.ag [TC.sub 1 (x.map dr)]∧aJ x≤40):=by
 refine GY _ _ _ _ (GL (Oj b _ _ hi hb) fun n i1 h1 hi1 hn=>eo (cK b _ _ hi1 hb _ az) fun x i2 h2 hi2 hx=> ?_);have hs:=jY hn;have hz:=J6 hn;refine cN (fun e0=> ?_) fun e0=>cN (fun e1=> ?_) fun e1=>dX hi2 ⟨n,rfl,by omega⟩
 ·refine Cr (e:=bn) (P2 b _ _ hi2 hb 6 az az) fun l i3 h3 yo hl=>ak (dg jC) (dX yo ⟨n++[l],by simp[dr],?_⟩)
  rw[DH]
  have:aJ [l]=1+l.length:=by simp[aJ,tot,bS]
  omega
 ·refine sw (o9 b _ _ hi2 hb) fun k i3 h3 yo _=> ?_
  obtain⟨_,_,hr,i4,h4,Mg,rfl,k2,rfl,_⟩:=o9 b i3 h3 yo hb;have hfit:fits (Nat.succ (Nat.succ (List.length (n.map dr)))) 24=true:=dg jC;refine⟨(TV.ag [TC.sub 1 ((n++[[k],[k2]]).map dr)],[mM b i4 h4]),?_,?_,dX Mg ⟨_,rfl,?_⟩⟩
  ·refine⟨k2.b,k2.a,k2.k,k2.c,k2.g,_,i4,h4,hr,?_⟩
   exact ak hfit (by simp[dr,bn])
  ·refine⟨k2.b,k2.a,k2.k,k2.c,k2.g,_,i4,h4,hr,(TV.ag [TC.sub 1 ((n++[[k],[k2]]).map dr)],[mM b i4 h4]),?_,?_,rfl⟩
   ·exact ak hfit (by simp[dr,bn])
   ·exact ak hfit (by simp[dr,bn])
  ·rw[DH]
   have:aJ [[k],[k2]]=4:=by simp[aJ,tot,bS]
   omega
theorem zn (l:List Key) (hl:l.length≤1073741824):aq C eW [cj l,cj l] (vB true) []:=by
 refine(BR _ _ _ ?_).run;refine aH cY ?_;refine ck l (fun i=>aj C eW ah 4 0 (jz (l.map bn) (l.map bn) i) _) ?_ ?_
 ·exact qn _ _ _ _ (aH cY (zx _ _ _ _ _ jR))
 ·intro i a hi ha _ _ hn
  refine qn _ _ _ _ (ak jC ?_);simp only[lu,aW,ha,aT,iR];refine aH cY ?_;rw[aZ az];exact hn
theorem zo:aq C sD [] (dW ⟨[0],[[]]⟩) []:=(D1 _ jR).run
theorem Ok (b:List Int) (i h:Int) (hi:0≤i) (hb:b.length≤1048576) (n:Int) (h0:0≤n) (hn:n≤55):bE C fM [mM b i h,vI n] (Dr b fun r=> ∃t:Tree,r=dW t∧de t=true∧((av t).length:Int)≤n):=by
 refine ET _ _ _ _ _ ⟨_,_,zo,?_⟩;rw[aZ az];refine eo (cK b _ _ hi hb _ az) fun x i1 h1 hi1 hx=> ?_;have hx1:=hx.2 az
 have key: ∀(d:Nat) (i h:Int) (t:Tree),0≤i→de t=true→((av t).length:Int)+d≤n→aj C fM ah 4 0 (kY (d:Int) (b.map gr) i h (t.au.map c8) (t.nodes.map cc)) (fun x st=>aL C fM ah x st (Dr b fun r=> ∃t:Tree,r=dW t∧de t=true∧((av t).length:Int)≤n)):=by
  intro d
  induction d with
  |zero=>
   intro i h t hi ht hl;exact uF _ _ _ _ _ _ _ (aH cY (B9 _ _ _ _ _ _ _ _ (dX hi ⟨t,rfl,ht,by omega⟩)))
  |succ d ih=>
   intro i h t hi ht hl;have hz:=FL ht;have e:gM ((d+1:Nat):Int) 1=(d:Int):=(lT az).trans az
   refine uF _ _ _ _ _ _ _ (ak jC (sw (Ld b _ _ hi hb) fun k i2 h2 hi2 hk=>⟨_,_,_,AB t k az (fun _ _=>by
    have h3:(fG (cm (av t) k)).length≤(cm (av t) k).length:=Hv _ _;have h4:=gW (av t) k
    omega),?_⟩))
   rw[e];exact ih _ _ _ hi2 (IS ht k) (by have:=GK ht hk;omega)
 obtain⟨d,rfl⟩: ∃d:Nat,x=(d:Int):=⟨x.toNat,by omega⟩;exact key d _ _ ⟨[0],[[]]⟩ hi1 J5 (by rw[show av ⟨[0],[[]]⟩=[] from rfl];simp;omega)
theorem IW: ∀(l:List (List (List Key))) (i:Nat) (m:List (List Key)),((l.set i m).flatMap an).length≤(l.flatMap an).length+(an m).length
 |[],i,m=>by simp
 |a::r,0,m=>by simp only[List.set_cons_zero,List.flatMap_cons,bZ];omega
 |a::r,i+1,m=>by have:=IW r i m;simp only[List.set_cons_succ,List.flatMap_cons,bZ];omega
theorem Ol (l:List (List (List Key))) (i:Nat) (m:List (List Key)):tot aJ (l.set i m)≤tot aJ l+aJ m:=by
 induction l generalizing i with
 |nil=>simp[tot]
 |cons a r ih=>
  cases i with
  |zero=>simp only[List.set_cons_zero,tot];omega
  |succ i=>have:=ih i;simp only[List.set_cons_succ,tot];omega
theorem P3 (b:List Int) (i h:Int) (hi:0≤i) (hb:b.length≤1048576) (n:Int) (h0:0≤n) (hn:n≤55):bE C x9 [mM b i h,vI n] (Dr b fun r=> ∃t:Tree,r=dW t∧cO t≤400∧(de t=true→((av t).length:Int)≤n+8)):=by
 refine G8 _ _ _ _ _ (K9 (Ok b _ _ hi hb n h0 hn) fun t i1 h1 hi1 ht=>eo (cK b _ _ hi1 hb _ az) fun x i2 h2 hi2 hx=> ?_);obtain⟨ht,hl⟩:=ht;have hz:=FL ht;have htl:=jN ht;have XO:=xT ht;have e1:cO t=t.au.length+(t.nodes.length+tot aJ t.nodes):=rfl;refine cN (fun e0=> ?_) fun e0=>cN (fun e1=> ?_) fun e1=>cN (fun e2=> ?_) fun e2=>cN (fun e3=> ?_) fun e3=> ?_
 ·obtain⟨_,_,VB,i3,h3,yo,rfl,z,rfl,z0,z1⟩:=cK b i2 h2 hi2 hb (t.au.length:Int) az
  obtain⟨_,_,Xq,i4,h4,Mg,rfl,v,rfl,_⟩:=lY b i3 h3 yo hb [0,-1,1,300] cY cY;obtain⟨u,hu⟩:=oE z0 (z1 az)
  have hrow:rowAt (t.au.map c8) z=some [iI u]:=by rw[bA,hu];rfl
  have qI:setRow (t.au.map c8) z 0 [iI v]=(nE t.au z v).map c8:=m8 hu (a':=v) rfl;rw[show Int.ofNat (List.length (t.au.map c8))=(t.au.length:Int) from by simp]
  have A: ∀Q:QV,Q (dW ⟨nE t.au z v,t.nodes⟩) [mM b i4 h4]→ ∃(n13:Int) (l14:RR) (n15 n16:Int),aq C bh [mM b i2 h2,vI (t.au.length:Int)] (vI n13) [TV.bx [TC.sub 1 l14,iI n15,iI n16]]∧ ∃(n17:Int) (l18:RR) (n19 n20:Int),aq C ew [TV.bx [TC.sub 1 l14,iI n15,iI n16],TV.c (TC.sub 1 [[iI 0],[iI (-1)],[iI 1],[iI 300]])] (vI n17) [TV.bx [TC.sub 1 l18,iI n19,iI n20]]∧ ∃n21:Int,rowAt (t.au.map c8) n13=some [iI n21]∧ ∃n22:Int,rowAt (t.au.map c8) n13=some [iI n22]∧Q (TV.ag [TC.sub 1 (setRow (t.au.map c8) n13 0 [iI n17]),TC.sub 1 (t.nodes.map cc)]) [TV.bx [TC.sub 1 l18,iI n19,iI n20]]:=fun Q hQ=>
   ⟨z,_,i3,h3,VB,v,_,i4,h4,Xq,u,hrow,u,hrow,by rw[qI];exact hQ⟩
  refine⟨(dW ⟨nE t.au z v,t.nodes⟩,[mM b i4 h4]),A (fun u w=>(u,w)=(dW ⟨nE t.au z v,t.nodes⟩,[mM b i4 h4])) rfl,A (fun u w=>(u,w)=(dW ⟨nE t.au z v,t.nodes⟩,[mM b i4 h4])) rfl,dX Mg ⟨_,rfl,?_,fun _=> ?_⟩⟩
  ·show(nE t.au z v).length+(t.nodes.length+tot aJ t.nodes)≤400
   rw[m7];omega
  ·show((av t).length:Int)≤n+8
   omega
 ·refine GL (Le b _ _ hi2 hb) fun m i3 h3 yo hm=>ak (dg jC) (dX yo ⟨⟨t.au,t.nodes++[m]⟩,by simp[cc],?_,fun hk=> ?_⟩)
  ·show t.au.length+((t.nodes++[m]).length+tot aJ (t.nodes++[m]))≤400
   rw[qc,bZ];simp[tot];omega
  ·have Xt:=jY (lF hk (n:=m) cY)
   have:=cM m;show(((t.nodes++[m]).flatMap an).length:Int)≤n+8;have e5:(av t).length=(t.nodes.flatMap an).length:=rfl;rw[List.flatMap_append,bZ];simp only[List.flatMap_cons,List.flatMap_nil,jD];omega
 ·refine eo (cK b _ _ hi2 hb _ jC) fun z i3 h3 yo SG=>GL (Le b _ _ yo hb) fun m i4 h4 Mg hm=> ?_
  obtain⟨u,hu⟩:=oE (l:=t.nodes) SG.1 (by have:=SG.2 jC;simpa using this)
  have hrow:rowAt (t.nodes.map cc) z=some [TC.sub 1 (u.map dr)]:=by rw[bA,hu];rfl
  have qI:setRow (t.nodes.map cc) z 0 [TC.sub 1 (m.map dr)]=(nE t.nodes z m).map cc:=m8 hu (a':=m) rfl;refine⟨_,hrow,_,hrow,?_⟩;rw[qI];refine dX Mg ⟨⟨t.au,nE t.nodes z m⟩,rfl,?_,fun hk=> ?_⟩
  ·show t.au.length+((nE t.nodes z m).length+tot aJ (nE t.nodes z m))≤400
   have:=Ol t.nodes z.toNat m;rw[m7];unfold nE;omega
  ·have XP:=(NQ hu)
   have Xt:=jY (lF hk (n:=m) (by show m∈t.nodes.set z.toNat m;exact List.mem_set az m));have:=cM m;have h6:=IW t.nodes z.toNat m;show(((t.nodes.set z.toNat m).flatMap an).length:Int)≤n+8;have e5:(av t).length=(t.nodes.flatMap an).length:=rfl;omega
 ·exact dX hi2 ⟨⟨[],[]⟩,rfl,by simp[cO,ov,tot],fun _=>by rw[show av ⟨[],[]⟩=[] from rfl];simp;omega⟩
 ·exact dX hi2 ⟨t,rfl,by omega,fun _=>by omega⟩
theorem Om (b:List Int) (i h:Int) (hi:0≤i) (hb:b.length≤1048576):bE C dL [mM b i h] (Dr b fun r=> ∃l:List kg,r=TV.c (TC.sub 2 (l.map ef))∧nF l=true):=by
 refine EU _ _ _ _ (eo (cK b _ _ hi hb _ az) fun x i1 h1 hi1 hx=> ?_);have hx1:=hx.2 az
 have key: ∀(d:Nat) (i h:Int) (l:List kg),d≤100→0≤i→nF l=true→aj C dL ah 4 0 (fD (d:Int) (b.map gr) i h (l.map ef)) (fun x st=>aL C dL ah x st (Dr b fun r=> ∃l:List kg,r=TV.c (TC.sub 2 (l.map ef))∧nF l=true)):=by
  intro d
  induction d with
  |zero=>
   intro i h l hd hi hl;exact uG _ _ _ _ _ _ (aH cY (Ca _ _ _ _ _ _ _ (dX hi ⟨l,rfl,hl⟩)))
  |succ d ih=>
   intro i h l hd hi hl;have hlen:=Dy hl;have e:gM ((d+1:Nat):Int) 1=(d:Int):=(lT az).trans az
   have tail: ∀(i h fr:Int),0≤i→ ∃(n24:Int) (l25:RR) (n26 n27:Int),aq C bh [mM b i h,vI 8] (vI n24) [TV.bx [TC.sub 1 l25,iI n26,iI n27]]∧ ∃(l28:RR) (b29:Bool),aq C cW [m9 l,vI (aF 1 n24),vI fr] (TV.tu [(0,[TC.sub 2 l28]),(0,[iB b29])]) []∧aj C dL ah 4 0 (fD (d:Int) l25 n26 n27 l28) (fun x st=>aL C dL ah x st (Dr b fun r=> ∃l:List kg,r=TV.c (TC.sub 2 (l.map ef))∧nF l=true)):=fun i h fr hi=>
    eo (cK b _ _ hi hb _ az) fun z i2 h2 hi2 hz=>⟨_,_,By l (aF 1 z) fr az,ih _ _ _ az hi2 (L6 hl _ _)⟩
   refine uG _ _ _ _ _ _ (ak jC ?_);rw[e];refine cN (fun e1=>PS (Og b _ _ hi hb 4 az) fun y i2 h2 hi2=>cN (fun e2=> ?_) fun e2=>tail _ _ _ hi2) fun e1=>tail _ _ _ hi
   have e1':0<l.length:=by simpa using e1
   refine eo (cK b _ _ hi2 hb _ jC) fun z i3 h3 yo hz=> ?_;obtain⟨a,ha⟩:=oE (l:=l) hz.1 (by have:=hz.2 jC;simpa using this)
   have hrow:rowAt (l.map ef) z=some [iI a.id,iI a.fr]:=by rw[bA,ha];rfl
   exact⟨_,_,hrow,_,_,hrow,tail _ _ _ yo⟩
 obtain⟨d,rfl⟩: ∃d:Nat,x=(d:Int):=⟨x.toNat,by omega⟩;exact key d _ _ [] az hi1 (by decide+kernel)
theorem P4 (b:List Int) (i h:Int) (hi:0≤i) (hb:b.length≤1048576):bE C gY [mM b i h] (Dr b fun r=> ∃l:List kg,r=TV.c (TC.sub 2 (l.map ef))∧l.length≤40):=by
 refine G9 _ _ _ _ (Cr (e:=ef) (Om b _ _ hi hb) fun l i1 h1 hi1 hl=>eo (cK b _ _ hi1 hb _ az) fun x i2 h2 hi2 hx=> ?_);have hlen:=Dy hl;refine cN (fun e0=> ?_) fun e0=>cN (fun e1=>cN (fun e2=> ?_) fun e2=>dX hi2 ⟨l,rfl,by omega⟩) fun e1=>cN (fun e2=> ?_) fun e2=>dX hi2 ⟨l,rfl,by omega⟩
 ·refine eo (lY b _ _ hi2 hb [0,3,60,61] cY cY) fun z i3 h3 yo _=>eo (lY b _ _ yo hb [0,1,9,-1] cY cY) fun y i4 h4 Mg _=>ak ?_ (dX Mg ⟨l++[⟨z,y⟩],by simp[ef],by simp;omega⟩)
  rw[dg jC];simp
 ·have e2':0<l.length:=by simpa using e2
  refine eo (lY b _ _ hi2 hb [1,2,3] cY cY) fun z i3 h3 yo _=> ?_
  have h0:jt l 0=some l[0]:=by rw[show(0:Int)=((0:Nat):Int) from rfl,aW];exact aX e2'
  have hrow:rowAt (l.map ef) 0=some [iI l[0].id,iI l[0].fr]:=by rw[bA,h0];rfl
  have qI:setRow (l.map ef) 0 1 [iI z]=(nE l 0 ⟨l[0].id,z⟩).map ef:=m8 h0 (a':=⟨l[0].id,z⟩) rfl;refine⟨_,_,hrow,_,_,hrow,?_⟩;rw[qI];exact dX yo ⟨_,rfl,by rw[m7];omega⟩
 ·have key: ∀(d k:Nat) (m:List kg),k+d=14→m.length+d≤40→aj C gY ga 4 1 (me (k:Int) (b.map gr) i2 h2 (m.map ef)) (fun x st=>aL C gY ga x st (Dr b fun r=> ∃l:List kg,r=TV.c (TC.sub 2 (l.map ef))∧l.length≤40)):=by
   intro d
   induction d with
   |zero=>
    intro k m hk hm;exact vW _ _ _ _ _ _ (aH jC (D2 _ _ _ _ _ _ (dX hi2 ⟨m,rfl,by omega⟩)))
   |succ d ih=>
    intro k m hk hm;refine vW _ _ _ _ _ _ (ak jC (ak ?_ ?_))
    ·rw[dg jC];simp
    ·rw[aZ (a:=(k:Int)) az,sj]
     exact ih (k+1) _ az kZ
  exact key 14 0 l rfl az
theorem DI (b:List Int) (hb:b.length≤1048576):bE C nr [sg b] (fun r fs=>fs=[]∧ ∃(t:Tree) (l:List kg) (x y:Int),r= .tu [(1,FB t),(0,[.sub 2 (l.map ef)]),(0,[iI x]),(0,[iI y])]∧cO t≤400∧l.length≤40):=by
 obtain⟨z,Oz,hz1,hz⟩:=Oh b 24 az az hb;refine EV _ _ ?_;refine N9 (Lc b hb) fun h1=> ?_;refine⟨_,hz,?_⟩;refine K9 (P3 b _ _ (Int.le_refl 0) hb _ (by rw[aZ az];omega) (by rw[aZ az];omega)) fun v2 i2 h2 hi2 Mj=> ?_;refine Cr (P4 b _ _ hi2 hb) fun v3 i3 h3 yo TU=> ?_;refine eo (cK b _ _ yo hb _ (by first|omega|(simp<;>omega))) fun n14 i4 h4 Mg Ut=> ?_;refine eo (cK b _ _ Mg hb _ (by first|omega|(simp<;>omega))) fun n18 i5 h5 Uu VC=> ?_
 exact⟨rfl,v2,v3,_,_,rfl,Mj.1,TU⟩
theorem Kb (b:List Int) (hb:b.length≤1048576):bE C qC [sg b] (fun r fs=>fs=[]∧ ∃(t:Tree) (l:List kg) (x y:Int),r= .tu [(1,FB t),(0,[.sub 2 (l.map ef)]),(0,[iI x]),(0,[iI y])]∧cO t≤400∧l.length≤40):=by
 obtain⟨_,_,e,rfl,t,l,x,y,rfl,hz,hl⟩:=DI b hb;exact Cb _ _ ⟨_,_,_,_,_,e,rfl,t,l,x,y,rfl,hz,hl⟩
theorem GQ (b:List Int) (hb:b.length≤1048576):bE C nG [sg b] (fun r fs=>fs=[]∧ ∃(t:Tree) (x:Int),r= .tu [(1,FB t),(0,[iI x])]∧cO t≤400):=by
 obtain⟨_,_,e,rfl,t,l,x,y,rfl,hz,hl⟩:=DI b hb;exact zA _ _ ⟨_,_,_,_,_,e,rfl,t,x,rfl,hz⟩
theorem Kd (b:List Int) (hb:b.length≤1048576):bE C qD [sg b] (fun r fs=>fs=[]∧ ∃(t:Tree) (l:List kg) (k:Key) (y:Int),r= .tu [(1,FB t),(0,[.sub 2 (l.map ef)]),(1,bn k),(0,[iI y])]∧cO t≤400∧l.length≤40):=by
 obtain⟨_,_,e,rfl,t,l,x,y,rfl,hz,hl⟩:=DI b hb;have hkl:=jW t;refine Cc _ _ ⟨_,_,_,_,_,e,N9 (Lc b hb) fun h1=>sw (Ld b _ _ (Int.le_refl 0) hb) fun k1 i2 h2 hi2 _=>⟨_,lX t az,cN (fun e1=> ?_) fun e1=>⟨rfl,t,l,k1,y,rfl,hz,hl⟩⟩⟩
 have e1':0<(av t).length:=by simpa using e1
 refine eo (cK b _ _ hi2 hb _ jC) fun z i3 h3 yo SG=> ?_;obtain⟨a,ha⟩:=oE (l:=av t) SG.1 (by have:=SG.2 jC;simpa using this)
 have hrow:rowAt ((av t).map bn) z=some [iI a.b,iI a.a,iI a.k,iI a.c,iI a.g]:=by rw[bA,ha];rfl
 exact⟨_,_,_,_,_,hrow,_,_,_,_,_,hrow,rfl,t,l,a,y,rfl,hz,hl⟩
theorem AD (b:List Int):aq C lV [sg b] (vB true) []:=by
 refine(wQ _ _ ⟨_,P0 b,?_⟩).run
 by_cases hb:1048576<b.length
 ·exact ak jC jR
 have hb:b.length≤1048576:=by omega
 obtain⟨_,_,e1,rfl,t1,l1,x1,y1,rfl,hz1,AP⟩:=Kb b hb;obtain⟨_,_,e2,rfl,t2,l2,k2,y2,rfl,VV,vZ⟩:=Kd b hb;obtain⟨_,_,e3,rfl,t3,x3,rfl,SG⟩:=GQ b hb;have Un:=jW t3;refine aH jC ?_;refine⟨_,_,_,_,_,e1,?_⟩;refine⟨_,_,_,_,_,_,xk t1 l1 x1 y1 az az,?_⟩;refine⟨_,_,_,_,_,_,xj t1 l1 x1 y1 az az,?_⟩;refine⟨_,_,_,_,_,_,ye t1 l1 x1 y1 az az,?_⟩;refine⟨_,_,_,_,_,_,yd t1 l1 x1 y1 az az,?_⟩;refine⟨_,_,_,_,_,_,_,_,_,e2,?_⟩
 refine⟨_,_,_,e3,?_⟩;refine ak cY (ak cY ?_);refine ak cY (ak cY ?_);refine⟨_,Ep t2 l2 k2 y2 az az,?_⟩;refine⟨_,Eo t2 l2 k2 y2 az az,?_⟩;refine ak cY ?_;refine⟨_,sQ t3 x3 az,?_⟩;refine⟨_,sP t3 x3 az,?_⟩;refine⟨_,zn _ (by have:=xP t3 x3;omega),?_⟩;exact jR
theorem RV {n z:Nat} (h:n*z≤reachBytes) (hz:1≤z):n≤140737488355328:=by
 have:reachBytes≤140737488355328:=by decide
 have h2:n*1≤n*z:=Nat.mul_le_mul_left n hz;omega
theorem P5 {r:List TC} (h:Ag C.tt La r): ∃n:Int,r=gr n∧(0≤n∧n≤255):=by
 obtain⟨n,rfl,h1⟩:=h.PE (k:= .u8) Lb;exact⟨n,rfl,SX h1⟩
theorem Ke {r:List TC} (h:Ag C.tt rA r): ∃l:List (Int),r=[.sub 1 (l.map gr)]∧l.length≤140737488355328∧ ∀x∈l,0≤x∧x≤255:=by
 obtain⟨w,rfl,y,z⟩:=h.LW (e:=La) Lb;obtain⟨l,rfl,hl⟩:=Df fun r hr=>P5 (y r hr);rw[cG] at z;exact⟨l,rfl,RV z (by decide+kernel),hl⟩
theorem P6 {v:TV} (h:QF C.tt rA v): ∃l:List Int,v=sg l∧l.length≤140737488355328∧ ∀x∈l,0≤x∧x≤255:=by
 have ht:(C.tt rA).ti= .slice 5:=by kernel_rfl
 cases h with
 |c _ hw=>
  obtain⟨l,h1,h2,h3⟩:=Ke hw
  cases h1
  exact⟨l,rfl,h2,h3⟩
 |ag h1 _=>rw[ht] at h1;cases h1
theorem AE (vs:List TV) (h:Is C.tt [rA] vs): ∃k,eX C k lV vs (vB true) []:=by
 cases h with
 |cons h0 h=>
  cases h
  obtain⟨b,rfl,_⟩:=P6 h0;exact AD b
end Go.T.R
