import Derived.Test.YtlkjkfidmkdchaaGreatTR3
set_option linter.all false
set_option maxRecDepth 100000
set_option maxHeartbeats 4000000
namespace Go.T.R
open Go Go.T
theorem zYk {P:Prop} (h:P:=by kernel_rfl):P:=h
theorem sW (a b c:Int):ai C iZ [vI a,vI b,vI c] (vB (iU a b c)) []:=by
 refine(UE _ _ _ _ ?_).run;simp only[nJ,dI,iU]
 split<;>simp_all<;>omega
theorem mB (a b c:Int):ai C cN [vI a,vI b,vI c] (vB (iU a b c)) []:=by
 refine(aan _ _ _ _ ?_).run;simp only[nJ,dI,iU]
 split<;>simp_all<;>omega
@[simp] theorem R7 (a b c:Int) (q:Bool):ai C iZ [vI a,vI b,vI c] (vB q) []↔q=iU a b c:=zA (sW a b c)
@[simp] theorem Bg (a b c:Int) (q:Bool):ai C cN [vI a,vI b,vI c] (vB q) []↔q=iU a b c:=zA (mB a b c)
theorem R8 (b a k c g:Int):ai C sV [.ag [iI b,iI a,iI k,iI c,iI g]] (vB (fM ⟨b,a,k,c,g⟩)) []:=by
 refine(XJ _ _ _ _ _ _ ?_).run;simp only[Bg,gv,fM,cJ,cX,dI]
 cases iU b 0 15<;>cases iU a 1 60<;>cases iU k 0 2<;>by_cases h:k=1<;>by_cases h1:c=0<;>by_cases h2:g=0<;>cases iU c 0 23<;>simp_all
@[simp] theorem xV (b a k c g:Int) (q:Bool):ai C sV [.ag [iI b,iI a,iI k,iI c,iI g]] (vB q) []↔q=fM ⟨b,a,k,c,g⟩:=zA (R8 b a k c g)
@[simp] theorem R9 (b a k c g b' a' k' c' g':Int) (q:Bool):ai C Df [.ag [iI b,iI a,iI k,iI c,iI g],.ag [iI b',iI a',iI k',iI c',iI g']] (vB q) []↔q=eJ ⟨b,a,k,c,g⟩ ⟨b',a',k',c',g'⟩:=zA (by
  refine(Sz _ _ _ _ _ _ _ _ _ _ _ ?_).run;simp only[mO,cJ,dI,eJ]
  by_cases h1:b<b'<;>by_cases h2:b=b'<;>simp_all)
@[simp] theorem Gq (b a k c g b' a' k' c' g':Int) (q:Bool):ai C xU [.ag [iI b,iI a,iI k,iI c,iI g],.ag [iI b',iI a',iI k',iI c',iI g']] (vB q) []↔q=eJ ⟨b,a,k,c,g⟩ ⟨b',a',k',c',g'⟩:=zA (by
  refine(SK _ _ _ _ _ _ _ _ _ _ _ ?_).run;simp only[mO,cJ,cX,dI,eJ]
  by_cases h2:b=b'<;>simp_all)
@[simp] theorem Oh (b a k c g b' a' k' c' g':Int) (q:Bool):ai C rR [.ag [iI b,iI a,iI k,iI c,iI g],.ag [iI b',iI a',iI k',iI c',iI g']] (vB q) []↔q=lC ⟨b,a,k,c,g⟩ ⟨b',a',k',c',g'⟩:=zA (by
  refine(Pf _ _ _ _ _ _ _ _ _ _ _ ?_).run;simp only[mO,cJ,cX,dI,lC]
  by_cases h2:b=b'<;>simp_all)
@[simp] theorem Oi (b a k c g b' a' k' c' g':Int) (q:Bool):ai C rT [.ag [iI b,iI a,iI k,iI c,iI g],.ag [iI b',iI a',iI k',iI c',iI g']] (vB q) []↔q=lC ⟨b,a,k,c,g⟩ ⟨b',a',k',c',g'⟩:=zA (by
  refine(Pq _ _ _ _ _ _ _ _ _ _ _ ?_).run;simp only[mO,cJ,cX,dI,lC]
  by_cases h2:b=b'<;>simp_all)
theorem kX (l:List Key) (x:Key) (hl:l.length≤1073741824):ai C bH [eo l,BD x] (eo (eB l x)) []:=by
 refine(UP _ _ _ _ _ _ _ ?_).run
 have key: ∀(put:Bool) (acc:List Key),acc.length+(l.drop 0).length≤l.length+(if put then 1 else 0)→acc++fm x put (l.drop 0)=eB l x→aj C bH aP 4 0 (g9 (l.map bK) put ((0:Nat):Int) x.b x.a x.k x.c x.g (acc.map bK)) (fun u st=>aH C bH aP u st fun r fs=>r=eo (eB l x)∧fs=[]):=by
  refine bV l (fun i=> ∀(put:Bool) (acc:List Key),acc.length+(l.drop i).length≤l.length+(if put then 1 else 0)→acc++fm x put (l.drop i)=eB l x→aj C bH aP 4 0 (g9 (l.map bK) put i x.b x.a x.k x.c x.g (acc.map bK)) _) ?_ ?_
  ·intro put acc hb he
   refine E9 _ _ _ _ _ _ _ _ _ _ (ak bZ (Pv _ _ _ _ _ _ _ _ _ _ _ ?_));simp only[Aa,fA,oP,eO,cX,dL,cq]
   have hb2:acc.length≤l.length+1:=by simp at hb;split at hb<;>omega
   rw[bR au];rw[gu] at he
   cases put<;>simp[fm] at he ⊢ <;>rw[←he]<;>simp
  ·intro i a hi ha hd _ hn put acc hb he
   rw[hd] at hb he;simp only[gG] at hb
   have hb':acc.length+(List.drop (i+1) l).length+1≤l.length+1:=by split at hb<;>omega
   refine E9 _ _ _ _ _ _ _ _ _ _ (aa gZ ?_);simp only[pZ,aK,ha,bq,fj,Gq,Oi,gv,cX,fA,Aa,oP,eO,dL,cq,ct,ic];simp (disch:=omega) only[bR,aO,ry];simp only[fm] at he
   cases put<;>cases hk:eJ a x<;>cases hs:lC a x<;>simp only[ry,Dz]<;>simp[hk,hs] at he hb<;>exact hn _ _ (by simp at hb ⊢;omega) (by simpa using he)
 exact key false [] bZ rfl
@[simp] theorem T7 (l:List Key) (hl:l.length≤1073741824) (b a k c g:Int) (q:RR):ai C bH [.c (.sub 5 (l.map bK)),.ag [iI b,iI a,iI k,iI c,iI g]] (.c (.sub 5 q)) []↔q=(eB l ⟨b,a,k,c,g⟩).map bK:=abn (kX l ⟨b,a,k,c,g⟩ hl)
theorem Oj (l:List Key) (x:Key) (hl:l.length≤1073741824):ai C fT [eo l,BD x] (eo (eB l x)) []:=by
 refine(Us _ _ _ _ _ _ _ ?_).run
 have key: ∀(put:Bool) (acc:List Key),acc.length+(l.drop 0).length≤l.length+(if put then 1 else 0)→acc++fm x put (l.drop 0)=eB l x→aj C fT aP 4 0 (g8 put (l.map bK) ((0:Nat):Int) x.b x.a x.k x.c x.g (acc.map bK)) (fun u st=>aH C fT aP u st fun r fs=>r=eo (eB l x)∧fs=[]):=by
  refine bV l (fun i=> ∀(put:Bool) (acc:List Key),acc.length+(l.drop i).length≤l.length+(if put then 1 else 0)→acc++fm x put (l.drop i)=eB l x→aj C fT aP 4 0 (g8 put (l.map bK) i x.b x.a x.k x.c x.g (acc.map bK)) _) ?_ ?_
  ·intro put acc hb he
   refine EN _ _ _ _ _ _ _ _ _ _ (ak bZ (OW _ _ _ _ _ _ _ _ _ _ _ _ ?_));simp only[Aa,fA,oP,eO,cX,dL,cq]
   have hb2:acc.length≤l.length+1:=by simp at hb;split at hb<;>omega
   rw[bR au];rw[gu] at he
   cases put<;>simp[fm] at he ⊢ <;>rw[←he]<;>simp
  ·intro i a hi ha hd _ hn put acc hb he
   rw[hd] at hb he;simp only[gG] at hb
   have hb':acc.length+(List.drop (i+1) l).length+1≤l.length+1:=by split at hb<;>omega
   refine EN _ _ _ _ _ _ _ _ _ _ (aa gZ ?_);simp only[pZ,aK,ha,bq,fj,R9,Oh,gv,cX,fA,Aa,oP,eO,dL,cq,ct,ic];simp (disch:=omega) only[bR,aO,ry];simp only[fm] at he
   cases put<;>cases hk:eJ a x<;>cases hs:lC a x<;>simp only[ry,Dz]<;>simp[hk,hs] at he hb<;>exact hn _ _ (by simp at hb ⊢;omega) (by simpa using he)
 exact key false [] bZ rfl
@[simp] theorem T8 (l:List Key) (hl:l.length≤1073741824) (b a k c g:Int) (q:RR):ai C fT [.c (.sub 5 (l.map bK)),.ag [iI b,iI a,iI k,iI c,iI g]] (.c (.sub 5 q)) []↔q=(eB l ⟨b,a,k,c,g⟩).map bK:=abn (Oj l ⟨b,a,k,c,g⟩ hl)
theorem Jn (old new:List Key) (hl:old.length+new.length≤1073741824):ai C fK [eo old,eo new] (eo (cj old new)) []:=by
 refine(MZ _ _ _ ?_).run;rw[lQ,bR gZ];refine aa rfl ?_
 have key: ∀(acc:List Key),acc.length+(new.drop 0).length≤old.length+new.length→cj acc (new.drop 0)=cj old new→aj C fK ah 4 0 (mF (new.map bK) ((0:Nat):Int) (acc.map bK)) (fun u st=>aH C fK ah u st fun r fs=>r=(eo (cj old new))∧fs=[]):=by
  refine bV new (fun i=> ∀(acc:List Key),acc.length+(new.drop i).length≤old.length+new.length→cj acc (new.drop i)=cj old new→aj C fK ah 4 0 (mF (new.map bK) i (acc.map bK)) (fun u st=>aH C fK ah u st fun r fs=>r=(eo (cj old new))∧fs=[])) ?_ ?_
  ·intro acc h0 h1
   refine zg _ _ _ _ (ak bZ (JD _ _ _ _ _ ?_));rw[gu] at h1;rw[←h1];exact dH
  ·intro i a hi ha hd ht hn acc h0 h1
   refine zg _ _ _ _ (aa gZ ?_);rw[hd] at h0 h1;simp only[gG] at h0;simp only[pZ,T7 acc au,aK,ha,bq,fj,gv,cX,gJ,jH,fA,gL,fo,gM,gP,jI,dL,natAdd,cq,ct,ic,eO,mJ];rw[aO au];have h2:=mq acc a;exact hn _ au (by rw[←h1];rfl)
 exact key old bZ rfl
theorem Mq (old new:List Key) (hl:old.length+new.length≤1073741824) (q:RR):ai C fK [eo old,eo new] (.c (.sub 5 q)) []↔q=(cj old new).map bK:=abn (Jn old new hl)
theorem vR (l:List Key) (hl:l.length≤1073741824):ai C cT [eo l] (eo (kH l)) []:=by
 refine(aam _ _ ?_).run
 have key: ∀(acc:List Key),acc.length+(l.drop 0).length≤l.length→acc++kH (l.drop 0)=kH l→aj C cT ah 4 0 (pR (l.map bK) ((0:Nat):Int) (acc.map bK)) (fun u st=>aH C cT ah u st fun r fs=>r=(eo (kH l))∧fs=[]):=by
  refine bV l (fun i=> ∀(acc:List Key),acc.length+(l.drop i).length≤l.length→acc++kH (l.drop i)=kH l→aj C cT ah 4 0 (pR (l.map bK) i (acc.map bK)) (fun u st=>aH C cT ah u st fun r fs=>r=(eo (kH l))∧fs=[])) ?_ ?_
  ·intro acc h0 h1
   refine IA _ _ _ _ (ak bZ (UF _ _ _ _ _ ?_));rw[gu] at h1;simp[kH] at h1;simp[kH,h1]
  ·intro i a hi ha hd ht hn acc h0 h1
   refine IA _ _ _ _ (aa gZ ?_);rw[hd] at h0 h1;simp only[gG] at h0;simp only[pZ,Aa,oP,cJ,dI,aK,ha,bq,fj,gv,cX,gJ,jH,fA,gL,fo,gM,gP,jI,dL,natAdd,cq,ct,ic,eO,mJ];simp (disch:=omega) only[bR,aO,ry]
   by_cases hk:a.k=0
   ·rw[aR hk]
    exact hn _ au (by rw[←h1];simp[kH,hk])
   ·rw[aJ hk]
    exact hn (acc++[a]) (by simp only[ct,ic];omega) (by rw[←h1];simp[kH,hk])
 exact key [] bZ rfl
theorem Ao (n:List (List Key)) (hb:n.length≤1073741824) (hl:tot c8 n≤1073741824):ai C aN [o8 n] (eo (aB n)) []:=by
 refine(OP _ _ ?_).run
 have key: ∀(acc:List Key),acc.length+tot c8 (n.drop 0)≤tot c8 n→(n.drop 0).foldl cj acc=tE n→aj C aN ah 4 0 (nw ((0:Nat):Int) (n.map fO) (acc.map bK)) (fun u st=>aH C aN ah u st fun r fs=>r=(eo (aB n))∧fs=[]):=by
  refine bV n (fun i=> ∀(acc:List Key),acc.length+tot c8 (n.drop i)≤tot c8 n→(n.drop i).foldl cj acc=tE n→aj C aN ah 4 0 (nw i (n.map fO) (acc.map bK)) (fun u st=>aH C aN ah u st fun r fs=>r=(eo (aB n))∧fs=[])) ?_ ?_
  ·intro acc h0 h1
   refine AJ _ _ _ _ (ak bZ (Lc _ _ _ _ _ ?_));rw[gu] at h0 h1;simp only[List.foldl_nil] at h1;refine⟨_,vR acc au,?_⟩;rw[h1];exact dH
  ·intro i a hi ha hd ht hn acc h0 h1
   refine AJ _ _ _ _ (aa gZ ?_);rw[hd] at h0 h1;simp only[tot,c8] at h0;simp only[I0,Mq acc a au,aK,ha,bq,fj,gv,cX,gJ,jH,fA,gL,fo,gM,gP,jI,dL,natAdd,cq,ct,ic,eO,mJ];rw[aO au];have h2:=vK a acc;exact hn _ au (by rw[←h1];rfl)
 exact key [] bZ rfl
theorem eA (n:List (List Key)) (hb:n.length≤1073741824) (hl:tot c8 n≤1073741824) (q:RR):ai C aN [.ag [.sub 1 (n.map fO)]] (.c (.sub 5 q)) []↔q=(aB n).map bK:=abn (Ao n hb hl)
theorem jr (t:Tree) (hl:dZ t≤1073741824):ai C dP [eR t] (eo (az t)) []:=by
 refine(Pk _ _ _ ?_).run
 have key: ∀(acc:List Key),acc.length+tot aW (t.nodes.drop 0)≤tot aW t.nodes→acc++(t.nodes.drop 0).flatMap aB=az t→aj C dP ah 4 0 (nC ((0:Nat):Int) (t.aA.map bA) (t.nodes.map bn) (acc.map bK)) (fun u st=>aH C dP ah u st fun r fs=>r=(eo (az t))∧fs=[]):=by
  refine bV t.nodes (fun i=> ∀(acc:List Key),acc.length+tot aW (t.nodes.drop i)≤tot aW t.nodes→acc++(t.nodes.drop i).flatMap aB=az t→aj C dP ah 4 0 (nC i (t.aA.map bA) (t.nodes.map bn) (acc.map bK)) (fun u st=>aH C dP ah u st fun r fs=>r=(eo (az t))∧fs=[])) ?_ ?_
  ·intro acc h0 h1
   refine AN _ _ _ _ _ (ak bZ (Lh _ _ _ _ _ _ ?_));rw[gu] at h1;simp at h1;simp[h1]
  ·intro i a hi ha hd ht hn acc h0 h1
   refine AN _ _ _ _ _ (aa (by have:=hi;unfold dZ xF at hl;simp;omega) ?_);have hz:a.length+tot c8 a≤tot aW t.nodes:=qH (w:=aW) ha;rw[hd] at h0 h1;simp only[tot,aW] at h0;unfold dZ xF at hl;have h2:=cY a;simp only[acJ,Ht,eA a au au,lQ,aK,ha,bq,fj,gv,cX,gJ,jH,fA,gL,fo,gM,gP,jI,dL,natAdd,cq,ct,ic,eO,mJ];rw[bR au,aO au];refine aa rfl ?_;rw[←td];exact hn _ gZ (by rw[←h1];simp)
 exact key [] bZ rfl
theorem Ok (t:Tree) (b:Int) (hl:dZ t≤1073741824):ai C jb [eR t,vI b] (eo (iq t b)) []:=by
 refine(UC _ _ _ _ ?_).run;refine⟨_,jr t hl,?_⟩
 have key: ∀(acc:List Key),acc.length+((az t).drop 0).length≤(az t).length→acc++((az t).drop 0).filter (fun k=>decide (k.b=b))=iq t b→aj C jb aP 4 0 (mV b ((0:Nat):Int) (acc.map bK) ((az t).map bK)) (fun u st=>aH C jb aP u st fun r fs=>r=(eo (iq t b))∧fs=[]):=by
  refine bV (az t) (fun i=> ∀(acc:List Key),acc.length+((az t).drop i).length≤(az t).length→acc++((az t).drop i).filter (fun k=>decide (k.b=b))=iq t b→aj C jb aP 4 0 (mV b i (acc.map bK) ((az t).map bK)) (fun u st=>aH C jb aP u st fun r fs=>r=(eo (iq t b))∧fs=[])) ?_ ?_
  ·intro acc h0 h1
   refine EZ _ _ _ _ _ (ak bZ (O7 _ _ _ _ _ _ ?_));rw[gu] at h1;simp at h1;simp[h1]
  ·intro i a hi ha hd ht hn acc h0 h1
   refine EZ _ _ _ _ _ (aa gZ ?_);rw[hd] at h0 h1;simp only[gG] at h0;have hz:=jk t;simp only[pZ,Aa,oP,cJ,dI,aK,ha,bq,fj,gv,cX,gJ,jH,fA,gL,fo,gM,gP,jI,dL,natAdd,cq,ct,ic,eO,mJ];simp (disch:=omega) only[bR,aO,ry]
   by_cases hk:a.b=b
   ·rw[aR hk]
    exact hn (acc++[a]) (by simp only[ct,ic];omega) (by rw[←h1];simp[hk])
   ·rw[aJ hk]
    exact hn _ au (by rw[←h1];simp[hk])
 exact key [] bZ rfl
theorem KO (l:List Key) (hl:l.length≤2147483648):ai C Bd [eo l] (eo l) []:=by
 refine(Pm _ _ ?_).run;rw[lQ,bR gZ];exact dH
theorem Jo (old new:List Key) (hl:old.length+new.length≤1073741824):ai C fJ [eo old,eo new] (eo (cj old new)) []:=by
 refine(MY _ _ _ ?_).run;refine⟨_,KO old au,?_⟩
 have key: ∀(acc:List Key),acc.length+(new.drop 0).length≤old.length+new.length→cj acc (new.drop 0)=cj old new→aj C fJ ah 4 0 (mE (new.map bK) ((0:Nat):Int) (acc.map bK)) (fun u st=>aH C fJ ah u st fun r fs=>r=(eo (cj old new))∧fs=[]):=by
  refine bV new (fun i=> ∀(acc:List Key),acc.length+(new.drop i).length≤old.length+new.length→cj acc (new.drop i)=cj old new→aj C fJ ah 4 0 (mE (new.map bK) i (acc.map bK)) (fun u st=>aH C fJ ah u st fun r fs=>r=(eo (cj old new))∧fs=[])) ?_ ?_
  ·intro acc h0 h1
   refine zf _ _ _ _ (ak bZ (JC _ _ _ _ _ _ ?_));rw[gu] at h1;rw[←h1];exact dH
  ·intro i a hi ha hd ht hn acc h0 h1
   refine zf _ _ _ _ (aa gZ ?_);rw[hd] at h0 h1;simp only[gG] at h0;simp only[pZ,T8 acc au,aK,ha,bq,fj,gv,cX,gJ,jH,fA,gL,fo,gM,gP,jI,dL,natAdd,cq,ct,ic,eO,mJ];rw[aO au];have h2:=mq acc a;exact hn _ au (by rw[←h1];rfl)
 exact key old bZ rfl
theorem Mr (old new:List Key) (hl:old.length+new.length≤1073741824) (q:RR):ai C fJ [eo old,eo new] (.c (.sub 5 q)) []↔q=(cj old new).map bK:=abn (Jo old new hl)
theorem T9 (l:List Key) (hl:l.length≤1073741824):ai C lS [eo l] (eo (kH l)) []:=by
 refine(aao _ _ ?_).run
 have key: ∀(acc:List Key),acc.length+(l.drop 0).length≤l.length→acc++kH (l.drop 0)=kH l→aj C lS ah 4 0 (pT (l.map bK) ((0:Nat):Int) (acc.map bK)) (fun u st=>aH C lS ah u st fun r fs=>r=(eo (kH l))∧fs=[]):=by
  refine bV l (fun i=> ∀(acc:List Key),acc.length+(l.drop i).length≤l.length→acc++kH (l.drop i)=kH l→aj C lS ah 4 0 (pT (l.map bK) i (acc.map bK)) (fun u st=>aH C lS ah u st fun r fs=>r=(eo (kH l))∧fs=[])) ?_ ?_
  ·intro acc h0 h1
   refine IB _ _ _ _ (ak bZ (UK _ _ _ _ _ _ ?_));rw[gu] at h1;simp[kH] at h1;simp[kH,h1]
  ·intro i a hi ha hd ht hn acc h0 h1
   refine IB _ _ _ _ (aa gZ ?_);rw[hd] at h0 h1;simp only[gG] at h0;simp only[pZ,Aa,oP,cJ,dI,aK,ha,bq,fj,gv,cX,gJ,jH,fA,gL,fo,gM,gP,jI,dL,natAdd,cq,ct,ic,eO,mJ];simp (disch:=omega) only[bR,aO,ry]
   by_cases hk:a.k=0
   ·rw[aR hk]
    exact hn _ au (by rw[←h1];simp[kH,hk])
   ·rw[aJ hk]
    exact hn (acc++[a]) (by simp only[ct,ic];omega) (by rw[←h1];simp[kH,hk])
 exact key [] bZ rfl
theorem KP (n:List (List Key)) (hb:n.length≤1073741824) (hl:tot c8 n≤1073741824):ai C gj [o8 n] (eo (aB n)) []:=by
 refine(O4 _ _ ?_).run
 have key: ∀(acc:List Key),acc.length+tot c8 (n.drop 0)≤tot c8 n→(n.drop 0).foldl cj acc=tE n→aj C gj ah 4 0 (ny (n.map fO) ((0:Nat):Int) (acc.map bK)) (fun u st=>aH C gj ah u st fun r fs=>r=(eo (aB n))∧fs=[]):=by
  refine bV n (fun i=> ∀(acc:List Key),acc.length+tot c8 (n.drop i)≤tot c8 n→(n.drop i).foldl cj acc=tE n→aj C gj ah 4 0 (ny (n.map fO) i (acc.map bK)) (fun u st=>aH C gj ah u st fun r fs=>r=(eo (aB n))∧fs=[])) ?_ ?_
  ·intro acc h0 h1
   refine AL _ _ _ _ (ak bZ (Lf _ _ _ _ _ _ ?_));rw[gu] at h0 h1;simp only[List.foldl_nil] at h1;refine⟨_,T9 acc au,?_⟩;rw[h1];exact dH
  ·intro i a hi ha hd ht hn acc h0 h1
   refine AL _ _ _ _ (aa gZ ?_);rw[hd] at h0 h1;simp only[tot,c8] at h0;simp only[I0,Mr acc a au,aK,ha,bq,fj,gv,cX,gJ,jH,fA,gL,fo,gM,gP,jI,dL,natAdd,cq,ct,ic,eO,mJ];rw[aO au];have h2:=vK a acc;exact hn _ au (by rw[←h1];rfl)
 exact key [] bZ rfl
theorem Ol (n:List (List Key)) (hb:n.length≤1073741824) (hl:tot c8 n≤1073741824) (q:RR):ai C gj [.ag [.sub 1 (n.map fO)]] (.c (.sub 5 q)) []↔q=(aB n).map bK:=abn (KP n hb hl)
theorem KQ (t:Tree) (hl:dZ t≤1073741824):ai C g6 [eR t] (eo (az t)) []:=by
 refine(Pj _ _ _ ?_).run
 have key: ∀(acc:List Key),acc.length+tot aW (t.nodes.drop 0)≤tot aW t.nodes→acc++(t.nodes.drop 0).flatMap aB=az t→aj C g6 ah 4 0 (nB (t.nodes.map bn) ((0:Nat):Int) (acc.map bK)) (fun u st=>aH C g6 ah u st fun r fs=>r=(eo (az t))∧fs=[]):=by
  refine bV t.nodes (fun i=> ∀(acc:List Key),acc.length+tot aW (t.nodes.drop i)≤tot aW t.nodes→acc++(t.nodes.drop i).flatMap aB=az t→aj C g6 ah 4 0 (nB (t.nodes.map bn) i (acc.map bK)) (fun u st=>aH C g6 ah u st fun r fs=>r=(eo (az t))∧fs=[])) ?_ ?_
  ·intro acc h0 h1
   refine AM _ _ _ _ (ak bZ (Lg _ _ _ _ _ _ ?_));rw[gu] at h1;simp at h1;simp[h1]
  ·intro i a hi ha hd ht hn acc h0 h1
   refine AM _ _ _ _ (aa (by have:=hi;unfold dZ xF at hl;simp;omega) ?_);have hz:a.length+tot c8 a≤tot aW t.nodes:=qH (w:=aW) ha;rw[hd] at h0 h1;simp only[tot,aW] at h0;unfold dZ xF at hl;have h2:=cY a;simp only[acJ,Ht,Ol a au au,lQ,aK,ha,bq,fj,gv,cX,gJ,jH,fA,gL,fo,gM,gP,jI,dL,natAdd,cq,ct,ic,eO,mJ];rw[bR au,aO au];refine aa rfl ?_;rw[←td];exact hn _ gZ (by rw[←h1];simp)
 exact key [] bZ rfl
theorem Om (t:Tree) (b:Int) (hl:dZ t≤1073741824):ai C ja [eR t,vI b] (eo (iq t b)) []:=by
 refine(Uo _ _ _ _ ?_).run;refine⟨_,KQ t hl,?_⟩
 have key: ∀(acc:List Key),acc.length+((az t).drop 0).length≤(az t).length→acc++((az t).drop 0).filter (fun k=>decide (k.b=b))=iq t b→aj C ja ah 4 0 (mU b ((az t).map bK) ((0:Nat):Int) (acc.map bK)) (fun u st=>aH C ja ah u st fun r fs=>r=(eo (iq t b))∧fs=[]):=by
  refine bV (az t) (fun i=> ∀(acc:List Key),acc.length+((az t).drop i).length≤(az t).length→acc++((az t).drop i).filter (fun k=>decide (k.b=b))=iq t b→aj C ja ah 4 0 (mU b ((az t).map bK) i (acc.map bK)) (fun u st=>aH C ja ah u st fun r fs=>r=(eo (iq t b))∧fs=[])) ?_ ?_
  ·intro acc h0 h1
   refine EI _ _ _ _ _ (ak bZ (OQ _ _ _ _ _ _ _ ?_));rw[gu] at h1;simp at h1;simp[h1]
  ·intro i a hi ha hd ht hn acc h0 h1
   refine EI _ _ _ _ _ (aa gZ ?_);rw[hd] at h0 h1;simp only[gG] at h0;have hz:=jk t;simp only[pZ,Aa,oP,cJ,dI,aK,ha,bq,fj,gv,cX,gJ,jH,fA,gL,fo,gM,gP,jI,dL,natAdd,cq,ct,ic,eO,mJ];simp (disch:=omega) only[bR,aO,ry]
   by_cases hk:a.b=b
   ·rw[aR hk]
    exact hn (acc++[a]) (by simp only[ct,ic];omega) (by rw[←h1];simp[hk])
   ·rw[aJ hk]
    exact hn _ au (by rw[←h1];simp[hk])
 exact key [] bZ rfl
theorem om (l:List mS) (id:Int) (hl:l.length≤1073741824):ai C dF [qq l,vI id] (vI (ie l id)) []:=by
 refine(XM _ _ _ ?_).run
 have key:fW (fun a:mS=>decide (a.id=id)) (l.drop 0) ((0:Nat):Int)=fW (fun a:mS=>decide (a.id=id)) l 0→aj C dF aG 4 0 (qz (l.map cn) id ((0:Nat):Int)) (fun u st=>aH C dF aG u st fun r fs=>r=vI (ie l id)∧fs=[]):=by
  refine bV l (fun i=>fW (fun a:mS=>decide (a.id=id)) (l.drop i) (i:Int)=fW (fun a:mS=>decide (a.id=id)) l 0→aj C dF aG 4 0 (qz (l.map cn) id i) _) ?_ ?_
  ·intro h0
   refine GP _ _ _ _ (ak bZ (SG _ _ _ _ _ ?_));rw[gu] at h0;simp only[fW] at h0;change _=vI (fW (fun a:mS=>decide (a.id=id)) l 0)∧_;rw[←h0];exact dH
  ·intro i a hi ha hd zw hn h0
   refine GP _ _ _ _ (aa gZ ?_);rw[hd] at h0;simp only[fW] at h0;simp only[F5,cJ,dI,aK,ha,bq,fj,gv,cX,gJ,jH,fA,gL,fo,gM,gP,jI,dL,natAdd,cq,ct,ic,eO,mJ];rw[aO au]
   split at h0
   ·rename_i hp
    have hp:=th hp
    first|rw[aR hp]|rw[aR hp.symm]
    refine SF _ _ ?_;rw[h0];exact dH
   ·rename_i hp
    have hp: ¬_:=fun h=>hp (lB h)
    first|rw[aJ hp]|rw[aJ (fun h=>hp h.symm)]
    exact hn h0
 exact key rfl
@[simp] theorem Sa (a b id:Int) (q:Bool):ai C xS [.ag [iI a,iI b],.bx [iI id]] (vB q) []↔q=decide (a=id):=zA (by
  refine(SO _ _ _ _ ?_).run
  simp)
theorem Ua (l:List mS) (id:Int) (hl:l.length≤1073741824):ai C dn [qq l,.fn xS [[iI id]]] (vI (ie l id)) []:=by
 refine(rX _ _ _ ?_).run
 have key:fW (fun a:mS=>decide (a.id=id)) (l.drop 0) ((0:Nat):Int)=fW (fun a:mS=>decide (a.id=id)) l 0→aj C dn aG 4 0 (dN (l.map cn) ((0:Nat):Int) id) (fun u st=>aH C dn aG u st fun r fs=>r=vI (ie l id)∧fs=[]):=by
  refine bV l (fun i=>fW (fun a:mS=>decide (a.id=id)) (l.drop i) (i:Int)=fW (fun a:mS=>decide (a.id=id)) l 0→aj C dn aG 4 0 (dN (l.map cn) i id) _) ?_ ?_
  ·intro h0
   refine kT _ _ _ _ (ak bZ (qW _ _ _ _ _ _ ?_));rw[gu] at h0;simp only[fW] at h0;change _=vI (fW (fun a:mS=>decide (a.id=id)) l 0)∧_;rw[←h0];exact dH
  ·intro i a hi ha hd zw hn h0
   refine kT _ _ _ _ (aa gZ ?_);rw[hd] at h0;simp only[fW] at h0;simp only[F5,cJ,Sa,dI,aK,ha,bq,fj,gv,cX,gJ,jH,fA,gL,fo,gM,gP,jI,dL,natAdd,cq,ct,ic,eO,mJ];rw[aO au]
   split at h0
   ·rename_i hp
    have hp:=th hp
    first|rw[aR hp]|rw[aR hp.symm]
    refine qV _ _ _ ?_;rw[h0];exact dH
   ·rename_i hp
    have hp: ¬_:=fun h=>hp (lB h)
    first|rw[aJ hp]|rw[aJ (fun h=>hp h.symm)]
    exact hn h0
 exact key rfl
theorem Sb (l:List mS) (id:Int) (hl:l.length≤1073741824):ai C Jj [qq l,vI id] (vI (ie l id)) []:=(X0 _ _ _ ⟨_,Ua l id hl,rfl,by trivial⟩).run
theorem Di (l:List mS) (id:Int) (hl:l.length≤1073741824) (q:Int):ai C dF [qq l,vI id] (vI q) []↔q=ie l id:=ajY (om l id hl)
theorem DB (l:List mS) (id:Int) (hl:l.length≤1073741824):ai C jz [qq l,vI id] (nq (pathOf l id)) []:=by
 refine(UG _ _ _ ⟨_,om l id hl,?_⟩).run
 have key: ∀(n:Nat) (id':Int) (acc:List Int),acc.length+n=l.length+1→acc++F6 l n id'=pathOf l id→aj C jz jg 4 0 (sC (l.map cn) (ie l id') (acc.map bA)) (fun u st=>aH C jz jg u st fun r fs=>r=nq (pathOf l id)∧fs=[]):=by
  intro n
  induction n with
  |zero=>
   intro id' acc h0 h1;simp only[F6,m0] at h1;refine w4 _ _ _ _ (aZ (fun _=> ?_) fun _=>E0 _ _ _ _ (by rw[h1];exact dH));exact ak gZ (O8 _ _ _ _ _ (by rw[h1];exact dH))
  |succ n ih=>
   intro id' acc h0 h1;simp only[F6] at h1
   by_cases h:ie l id'<0
   ·rw[aR h,m0] at h1
    exact w4 _ _ _ _ (ak gZ (E0 _ _ _ _ (by rw[h1];exact dH)))
   ·rw[aJ h] at h1
    obtain⟨a,ha,he⟩:=L9 l id' h;rw[ha] at h1;refine w4 _ _ _ _ (aa gZ (aa gZ ?_));simp only[F5,ha,bq,fj,CV,eO,dL,cq];rw[bR au];refine aa rfl ⟨_,om l a.fr hl,?_⟩
    (try dsimp only)
    rw[CW];exact ih a.fr (acc++[a.id]) gZ (by rw[←h1,he];simp)
 exact key (l.length+1) id [] bZ rfl
theorem On (l:List mS) (id:Int) (hl:l.length≤1073741824):ai C kj [qq l,vI id] (nq (pathOf l id)) []:=by
 refine(Uu _ _ _ ?_).run
 have key: ∀(n:Nat) (id':Int) (acc:List Int) (k:Nat),k+n=l.length+1→acc.length=k→acc++F6 l n id'=pathOf l id→aj C kj ah 4 0 (sw (l.map cn) id' k (acc.map bA)) (fun u st=>aH C kj ah u st fun r fs=>r=nq (pathOf l id)∧fs=[]):=by
  intro n
  induction n with
  |zero=>
   intro id' acc k h0 h2 h1;simp only[F6,m0] at h1;refine ER _ _ _ _ _ (ak ?_ (O0 _ _ _ _ _ _ _ (by rw[h1];exact dH)));rw[aO gZ];simp;omega
  |succ n ih=>
   intro id' acc k h0 h2 h1;simp only[F6] at h1;refine ER _ _ _ _ _ (aa (by rw[aO gZ];simp;omega) ⟨_,Sb l id' hl,?_⟩)
   by_cases h:ie l id'<0
   ·rw[aR h,m0] at h1
    exact aa gZ (OZ _ _ _ _ _ _ _ _ (by rw[h1];exact dH))
   ·rw[aJ h] at h1
    obtain⟨a,ha,he⟩:=L9 l id' h;rw[ha] at h1;refine ak gZ ?_;simp only[F5,ha,bq,fj,CV,eO,dL,cq];rw[bR au];refine aa rfl ?_;rw[CW,aO au];exact ih a.fr (acc++[id']) (k+1) au gZ (by rw[←h1];simp)
 exact key (l.length+1) id [] 0 bZ rfl rfl
theorem Sc (l:List Int) (n:Int) (hl:l.length≤1073741824):ai C jT [nq l,vI n] (vB (HI l n)) []:=by
 refine(XK _ _ _ ?_).run
 have key:(l.drop 0).any (fun a:Int=>decide (a=n))=l.any (fun a:Int=>decide (a=n))→aj C jT aG 4 0 (qy (l.map bA) n ((0:Nat):Int)) (fun u st=>aH C jT aG u st fun r fs=>r=vB (HI l n)∧fs=[]):=by
  refine bV l (fun i=>(l.drop i).any (fun a:Int=>decide (a=n))=l.any (fun a:Int=>decide (a=n))→aj C jT aG 4 0 (qy (l.map bA) n i) _) ?_ ?_
  ·intro h0
   refine GO _ _ _ _ (ak bZ (SD _ _ _ _ _ ?_));rw[gu] at h0;simp only[List.any_nil] at h0;show _=vB (HI l n)∧_
   first|unfold HI|unfold rM|skip
   rw[←h0];exact dH
  ·intro i a hi ha hd zw hn h0
   refine GO _ _ _ _ (aa gZ ?_);rw[hd] at h0;simp only[List.any_cons] at h0;simp only[yA,cJ,dI,aK,ha,bq,fj,gv,cX,gJ,jH,fA,gL,fo,gM,gP,jI,dL,natAdd,cq,ct,ic,eO,mJ];rw[aO au]
   split
   ·rename_i hp
    refine SC _ ?_
    have e:l.any (fun a:Int=>decide (a=n))=true:=by rw[←h0];simp[hp]
    first|unfold HI|unfold rM|skip
    rw[e];exact dH
   ·rename_i hp
    exact hn (by simpa [hp] using h0)
 exact key rfl
theorem Iq (p:bu) (id:Int) (hl:p.aD.length≤1073741824):ai C lR [fz p,vI id] (vB (rM p.aD id)) []:=by
 refine(aar _ _ _ _ _ _ _ _ ?_).run
 have key:(p.aD.drop 0).any (fun v:oO=>decide (v.fq=id))=p.aD.any (fun v:oO=>decide (v.fq=id))→aj C lR aG 4 0 (rW id ((0:Nat):Int) (p.t.aA.map bA) (p.t.nodes.map bn) (p.aY.map cn) (p.cells.map cC) (p.aD.map dh) p.next) (fun u st=>aH C lR aG u st fun r fs=>r=vB (rM p.aD id)∧fs=[]):=by
  refine bV p.aD (fun i=>(p.aD.drop i).any (fun v:oO=>decide (v.fq=id))=p.aD.any (fun v:oO=>decide (v.fq=id))→aj C lR aG 4 0 (rW id i (p.t.aA.map bA) (p.t.nodes.map bn) (p.aY.map cn) (p.cells.map cC) (p.aD.map dh) p.next) _) ?_ ?_
  ·intro h0
   refine ID _ _ _ _ _ _ _ _ _ (ak bZ (U3 _ _ _ _ _ _ _ _ _ _ ?_));rw[gu] at h0;simp only[List.any_nil] at h0;show _=vB (rM p.aD id)∧_
   first|unfold HI|unfold rM|skip
   rw[←h0];exact dH
  ·intro i a hi ha hd zw hn h0
   refine ID _ _ _ _ _ _ _ _ _ (aa gZ ?_);rw[hd] at h0;simp only[List.any_cons] at h0;simp only[wL,cJ,dI,aK,ha,bq,fj,gv,cX,gJ,jH,fA,gL,fo,gM,gP,jI,dL,natAdd,cq,ct,ic,eO,mJ];rw[aO au]
   split
   ·rename_i hp
    refine U2 _ _ _ _ _ _ _ ?_
    have e:p.aD.any (fun v:oO=>decide (v.fq=id))=true:=by rw[←h0];simp[hp]
    first|unfold HI|unfold rM|skip
    rw[e];exact dH
   ·rename_i hp
    exact hn (by simpa [hp] using h0)
 exact key rfl
theorem Z8 (l:List Int) (n:Int) (hl:l.length≤1073741824):ai C eX [nq l,vI n] (vI (fW (fun a:Int=>decide (a=n)) l 0)) []:=by
 refine(JE _ _ _ ?_).run
 have key:fW (fun a:Int=>decide (a=n)) (l.drop 0) ((0:Nat):Int)=fW (fun a:Int=>decide (a=n)) l 0→aj C eX aG 4 0 (ku (l.map bA) n ((0:Nat):Int)) (fun u st=>aH C eX aG u st fun r fs=>r=vI (fW (fun a:Int=>decide (a=n)) l 0)∧fs=[]):=by
  refine bV l (fun i=>fW (fun a:Int=>decide (a=n)) (l.drop i) (i:Int)=fW (fun a:Int=>decide (a=n)) l 0→aj C eX aG 4 0 (ku (l.map bA) n i) _) ?_ ?_
  ·intro h0
   refine wF _ _ _ _ (ak bZ (GU _ _ _ _ _ _ ?_));rw[gu] at h0;simp only[fW] at h0;change _=vI (fW (fun a:Int=>decide (a=n)) l 0)∧_;rw[←h0];exact dH
  ·intro i a hi ha hd zw hn h0
   refine wF _ _ _ _ (aa gZ ?_);rw[hd] at h0;simp only[fW] at h0;simp only[yA,cJ,dI,aK,ha,bq,fj,gv,cX,gJ,jH,fA,gL,fo,gM,gP,jI,dL,natAdd,cq,ct,ic,eO,mJ];rw[aO au]
   split at h0
   ·rename_i hp
    have hp:=th hp
    first|rw[aR hp]|rw[aR hp.symm]
    refine GS _ _ ?_;rw[h0];exact dH
   ·rename_i hp
    have hp: ¬_:=fun h=>hp (lB h)
    first|rw[aJ hp]|rw[aJ (fun h=>hp h.symm)]
    exact hn h0
 exact key rfl
theorem XA (l:List Int) (n:Int) (hl:l.length≤1073741824):ai C nS [nq l,vI n] (vB (HI l n)) []:=by
 refine(FC _ _ _ ⟨_,Z8 l n hl,?_⟩).run
 (try dsimp only)
 rw[nJ,Zf _ _ _ au];exact dH
theorem DC (t:Tree) (b:Int) (path:List Int) (hl:dZ t≤1073741824) (hp:path.length≤1073741824):ai C gl [eR t,vI b,nq path] (tKB (near (iq t b) path)) []:=by
 refine(UB _ _ _ _ _ ?_).run;refine⟨_,Ok t b hl,?_⟩
 have key: ∀(pr:Key×Bool),((iq t b).drop 0).foldl (Kx path) pr=near (iq t b) path→aj C gl dw 4 0 (jB (path.map bA) pr.2 ((0:Nat):Int) pr.1.b pr.1.a pr.1.k pr.1.c pr.1.g ((iq t b).map bK)) (fun u st=>aH C gl dw u st fun r fs=>r=(tKB (near (iq t b) path))∧fs=[]):=by
  refine bV (iq t b) (fun i=> ∀(pr:Key×Bool),((iq t b).drop i).foldl (Kx path) pr=near (iq t b) path→aj C gl dw 4 0 (jB (path.map bA) pr.2 i pr.1.b pr.1.a pr.1.k pr.1.c pr.1.g ((iq t b).map bK)) (fun u st=>aH C gl dw u st fun r fs=>r=(tKB (near (iq t b) path))∧fs=[])) ?_ ?_
  ·intro pr h0
   refine EY _ _ _ _ _ _ _ _ _ _ (ak bZ (O6 _ _ _ _ _ _ _ _ _ _ _ ?_));rw[gu] at h0;simp only[List.foldl_nil] at h0;rw[h0];exact dH
  ·intro i a hi ha hd ht hn pr h0
   have hk:=Ry t b;have hz:=jk t;refine EY _ _ _ _ _ _ _ _ _ _ (aa gZ ?_);rw[hd] at h0;simp only[List.foldl_cons] at h0;obtain⟨bk,bf⟩:=pr;have hh: ∀q,ai C jT [nq path,vI a.a] (vB q) []↔q=HI path a.a:=fun q=>zA (Sc path a.a hp);simp only[pZ,hh,mO,dI,aK,ha,bq,fj,gv,cX,gJ,jH,fA,gL,fo,gM,gP,jI,dL,natAdd,cq,ct,ic,eO,mJ];rw[aO au]
   have e:Kx path (bk,bf) a=if HI path a.a&&(!bf||decide (bk.a<a.a)) then(a,true) else(bk,bf):=rfl
   rw[e] at h0
   cases h1:HI path a.a<;>cases bf<;>by_cases h2:bk.a<a.a<;>simp[h1,h2] at h0 ⊢ <;>first|exact hn (a,true) h0|exact hn (bk,false) h0|exact hn (bk,true) h0
 exact key (eK,false) rfl
theorem Oo (t:Tree) (b:Int) (path:List Int) (hl:dZ t≤1073741824) (hp:path.length≤1073741824):ai C gX [eR t,vI b,nq path] (tKB (near (iq t b) path)) []:=by
 refine(UL _ _ _ _ _ ?_).run;refine⟨_,Om t b hl,?_⟩
 have key: ∀(pr:Key×Bool),((iq t b).drop 0).foldl (Kx path) pr=near (iq t b) path→aj C gX ah 4 0 (jD (path.map bA) pr.2 ((iq t b).map bK) ((0:Nat):Int) pr.1.b pr.1.a pr.1.k pr.1.c pr.1.g) (fun u st=>aH C gX ah u st fun r fs=>r=(tKB (near (iq t b) path))∧fs=[]):=by
  refine bV (iq t b) (fun i=> ∀(pr:Key×Bool),((iq t b).drop i).foldl (Kx path) pr=near (iq t b) path→aj C gX ah 4 0 (jD (path.map bA) pr.2 ((iq t b).map bK) i pr.1.b pr.1.a pr.1.k pr.1.c pr.1.g) (fun u st=>aH C gX ah u st fun r fs=>r=(tKB (near (iq t b) path))∧fs=[])) ?_ ?_
  ·intro pr h0
   refine E5 _ _ _ _ _ _ _ _ _ _ (ak bZ (Pn _ _ _ _ _ _ _ _ _ _ _ _ ?_));rw[gu] at h0;simp only[List.foldl_nil] at h0;rw[h0];exact dH
  ·intro i a hi ha hd ht hn pr h0
   have hk:=Ry t b;have hz:=jk t;refine E5 _ _ _ _ _ _ _ _ _ _ (aa gZ ?_);rw[hd] at h0;simp only[List.foldl_cons] at h0;obtain⟨bk,bf⟩:=pr;have hh: ∀q,ai C nS [nq path,vI a.a] (vB q) []↔q=HI path a.a:=fun q=>zA (XA path a.a hp);simp only[pZ,hh,mO,dI,aK,ha,bq,fj,gv,cX,gJ,jH,fA,gL,fo,gM,gP,jI,dL,natAdd,cq,ct,ic,eO,mJ];rw[aO au]
   have e:Kx path (bk,bf) a=if HI path a.a&&(!bf||decide (bk.a<a.a)) then(a,true) else(bk,bf):=rfl
   rw[e] at h0
   cases h1:HI path a.a<;>cases bf<;>by_cases h2:bk.a<a.a<;>simp[h1,h2] at h0 ⊢ <;>first|exact hn (a,true) h0|exact hn (bk,false) h0|exact hn (bk,true) h0
 exact key (eK,false) rfl
@[simp] theorem rU (a:Int) (q:Bool):ai C iy [vI a] (vB q) []↔q=jj a:=zA ((US _ _ ⟨_,mB _ _ _,rfl,by trivial⟩).run)
theorem wP (l:List Cell) (i gen:Int) (hl:l.length≤1073741824):ai C tJ [qt l,vI i,vI gen] (tIB (cellAt l i gen)) []:=by
 refine(U4 _ _ _ _ ?_).run;simp only[Bg,gv,cq,vU,cX,um];rw[eg au]
 by_cases h:0≤i∧i<l.length
 ·obtain⟨a,ha⟩:=eT h.1 h.2
  have e:iU i 0 ((l.length:Int)-1)=true:=lB au;simp only[e,ry,ha,bq,fj,cJ,dI,cellAt]
  cases h1:a.u<;>by_cases h2:a.g=gen<;>simp[h1,h2]
 ·have e:iU i 0 ((l.length:Int)-1)=false:=lH au
  have hn:ew l i=none:=gh h;simp[e,cellAt,hn]
theorem Ub (l:List Cell) (hl:l.length≤1073741824) (i gen:Int) (n:Int) (q:Bool):ai C tJ [qt l,vI i,vI gen] (.tu [(0,[iI n]),(0,[iB q])]) []↔n=(cellAt l i gen).1∧q=(cellAt l i gen).2:=aln (wP l i gen hl)
theorem Jp (l:List Cell) (hl:l.length≤1073741824):ai C fI [qt l] (vI (fF l)) []:=by
 refine(Nh _ _ ?_).run
 have key: ∀(n:Nat),n+(l.drop 0).length≤l.length→n+fF (l.drop 0)=fF l→aj C fI ah 4 0 (jY (l.map cC) n ((0:Nat):Int)) (fun u st=>aH C fI ah u st fun r fs=>r=(vI (fF l))∧fs=[]):=by
  refine bV l (fun i=> ∀(n:Nat),n+(l.drop i).length≤l.length→n+fF (l.drop i)=fF l→aj C fI ah 4 0 (jY (l.map cC) n i) (fun u st=>aH C fI ah u st fun r fs=>r=(vI (fF l))∧fs=[])) ?_ ?_
  ·intro n h0 h1
   refine zh _ _ _ _ (ak bZ (JF _ _ _ _ _ ?_));rw[gu] at h1;simp[fF] at h1;simp[h1,fF]
  ·intro i a hi ha hd ht hn n h0 h1
   refine zh _ _ _ _ (aa gZ ?_);rw[hd] at h0 h1;simp only[gG] at h0;simp only[um,aK,ha,bq,fj,gv,cX,gJ,jH,fA,gL,fo,gM,gP,jI,dL,natAdd,cq,ct,ic,eO,mJ];rw[aO au,aO au]
   cases hu:a.u
   ·exact hn n au (by rw[←h1];simp[fF,hu])
   ·exact hn (n+1) au (by rw[←h1];simp[fF,hu];omega)
 exact key 0 bZ bZ
theorem Ms (l:List Cell) (hl:l.length≤1073741824):ai C ej [qt l] (vB ((l.all sP&&decide (l.length=24)))) []:=by
 refine(S0 _ _ ?_).run
 have key:((l.drop 0).all sP&&decide (l.length=24))=(l.all sP&&decide (l.length=24))→aj C ej aG 4 0 (jU (l.map cC) ((0:Nat):Int)) (fun u st=>aH C ej aG u st fun r fs=>r=vB ((l.all sP&&decide (l.length=24)))∧fs=[]):=by
  refine bV l (fun i=>((l.drop i).all sP&&decide (l.length=24))=(l.all sP&&decide (l.length=24))→aj C ej aG 4 0 (jU (l.map cC) i) (fun u st=>aH C ej aG u st fun r fs=>r=vB ((l.all sP&&decide (l.length=24)))∧fs=[])) ?_ ?_
  ·intro h0
   refine Ch _ _ _ (ak bZ (M5 _ _ _ _ ?_));rw[gu] at h0;simp only[tQ,eO] at h0;rw[←h0];simp[cJ]
   try omega
  ·intro i a hi ha hd zw hn h0
   have gO:sP a=false→(l.all sP&&decide (l.length=24))=false:=fun e=>by rw[←h0,hd];simp[e]
   have gN:sP a=true→aj C ej aG 4 0 (jU (l.map cC) ((i:Int)+1)) (fun u st=>aH C ej aG u st fun r fs=>r=vB ((l.all sP&&decide (l.length=24)))∧fs=[]):=fun e=>hn (by rw[←h0,hd];simp[e]);refine Ch _ _ _ (aa gZ ?_);simp only[um,Bg,rU,cJ,aK,ha,bq,fj,gv,cX,gJ,jH,fA,gL,fo,gM,gP,jI,dL,natAdd,cq,ct,ic,eO,mJ];rw[aO au]
   cases h1:iU a.g 0 999<;>cases h2:jj a.n<;>cases h3:a.u<;>by_cases h4:a.n=0<;>simp only[h1,h2,h3,h4,ry,Dz,decide_true,decide_false,not_true_eq_false,not_false_eq_true,QC,Bool.not_false]<;>first|exact gN (by unfold sP;rw[h1,h2,h3];simp[h4])|exact M4 _ (by rw[gO (by unfold sP;rw[h1,h2,h3];simp[h4])];exact dH)
 exact key rfl
theorem yO (l:List Cell) (hl:l.length≤1073741824) (q:Bool):ai C ej [qt l] (vB q) []↔q=gK l:=zA (Ms l hl)
@[simp] theorem Uc (a:Int) (q:Bool):ai C Gm [vI a] (vB q) []↔q=jj a:=zA ((UU _ _ ⟨_,sW _ _ _,rfl,by trivial⟩).run)
theorem DD (l:List Cell) (i gen:Int) (hl:l.length≤1073741824):ai C Gk [qt l,vI i,vI gen] (tIB (cellAt l i gen)) []:=by
 refine(UZ _ _ _ _ ?_).run;simp only[R7,gv,cq,vU,cX,um];rw[eg au]
 by_cases h:0≤i∧i<l.length
 ·obtain⟨a,ha⟩:=eT h.1 h.2
  have e:iU i 0 ((l.length:Int)-1)=true:=lB au;simp only[e,ry,ha,bq,fj,cJ,dI,cellAt]
  cases h1:a.u<;>by_cases h2:a.g=gen<;>simp[h1,h2]
 ·have e:iU i 0 ((l.length:Int)-1)=false:=lH au
  have hn:ew l i=none:=gh h;simp[e,cellAt,hn]
theorem Oq (s:ByteArray) (hl:s.size≤140737488355328):ai C cV [vS s] (vB ((dK s.size (fE s)&&iU s.size 1 6))) []:=by
 refine(UX _ _ ?_).run
 have key:((List.range' 0 (s.size-0)).all (fE s)&&iU s.size 1 6)=(dK s.size (fE s)&&iU s.size 1 6)→aj C cV aG 4 0 (lu s ((0:Nat):Int)) (fun u st=>aH C cV aG u st fun r fs=>r=vB ((dK s.size (fE s)&&iU s.size 1 6))∧fs=[]):=by
  refine rK (s.size) (fun i=>((List.range' i (s.size-i)).all (fE s)&&iU s.size 1 6)=(dK s.size (fE s)&&iU s.size 1 6)→aj C cV aG 4 0 (lu s i) (fun u st=>aH C cV aG u st fun r fs=>r=vB ((dK s.size (fE s)&&iU s.size 1 6))∧fs=[])) ?_ ?_
  ·intro h0
   refine Ff _ _ _ (ak bZ (PF _ _ _ _ ?_));rw[oI] at h0;simp only[List.range'_zero,tQ,eO] at h0;rw[←h0];simp only[Bg,gv,afF,vU];simp
  ·intro i hi hn h0
   rw[nK hi,tP] at h0
   have gO:(fE s) i=false→(dK s.size (fE s)&&iU s.size 1 6)=false:=fun e=>by rw[←h0,e];rfl
   have gN:(fE s) i=true→aj C cV aG 4 0 (lu s ((i:Int)+1)) (fun u st=>aH C cV aG u st fun r fs=>r=vB ((dK s.size (fE s)&&iU s.size 1 6))∧fs=[]):=fun e=>hn (by rw[←h0,e];rfl);refine Ff _ _ _ (aa gZ ?_);obtain⟨n,hb,hn0,hn1⟩:=VX hi;have hw:vV .i64 n=n:=Ze au;simp only[hb,bq,fj,Bg,gv,hw,cX];rw[aO au]
   have e:fE s i=(iU n 97 122||iU n 48 57):=by unfold fE;rw[hb];rfl
   rw[e] at gO gN
   cases h1:iU n 97 122<;>cases h2:iU n 48 57<;>simp only[ry,Dz]<;>first|exact gN (by rw[h1,h2];rfl)|exact PE _ (by rw[gO (by rw[h1,h2];rfl)];exact dH)
 exact key rfl
theorem ke (s:ByteArray) (hl:s.size≤140737488355328) (q:Bool):ai C cV [vS s] (vB q) []↔q=dR s:=zA (Oq s hl)
theorem ai9 (l:List mS): ∀(id:Int),id=0→gD l id=[]:=fun id h=>aR h
theorem wQ (l:List mS) (id:Int) (hl:l.length≤1073741824):ai C fP [qq l,vI id] (nq (gD l id)) []:=by
 refine(U5 _ _ _ ?_).run
 have key: ∀(acc:List Int),acc.length+(l.drop 0).length≤l.length→acc++gD (l.drop 0) id=gD l id→aj C fP ah 4 0 (lz (l.map cn) id ((0:Nat):Int) (acc.map bA)) (fun u st=>aH C fP ah u st fun r fs=>r=(nq (gD l id))∧fs=[]):=by
  refine bV l (fun i=> ∀(acc:List Int),acc.length+(l.drop i).length≤l.length→acc++gD (l.drop i) id=gD l id→aj C fP ah 4 0 (lz (l.map cn) id i (acc.map bA)) (fun u st=>aH C fP ah u st fun r fs=>r=(nq (gD l id))∧fs=[])) ?_ ?_
  ·intro acc h0 h1
   refine Fj _ _ _ _ _ (ak bZ (PK _ _ _ _ _ _ ?_));rw[gu] at h1;simp[gD] at h1;simp[gD,h1]
  ·intro i a hi ha hd ht hn acc h0 h1
   refine Fj _ _ _ _ _ (aa gZ ?_);rw[hd] at h0 h1;simp only[gG] at h0;simp only[F5,CW,CV,cJ,dI,aK,ha,bq,fj,gv,cX,gJ,jH,fA,gL,fo,gM,gP,jI,dL,natAdd,cq,ct,ic,eO,mJ];simp (disch:=omega) only[bR,aO,ry]
   by_cases hz:id=0
   ·rw[ai9 _ _ hz] at h1
    have e: ∀(A B:Prop),(if a.fr=id then(if id=0 then A else B) else A)=if a.fr=id then A else A:=fun A B=>by rw[aR hz]
    rw[e,ite_self];exact hn _ au (by rw[ai9 _ _ hz,←h1])
   by_cases hk:a.fr=id
   ·rw[aR hk,aJ hz]
    exact hn (acc++[a.id]) (by simp only[ct,ic];omega) (by rw[←h1];simp[gD,hk,hz])
   ·rw[aJ hk]
    exact hn _ au (by rw[←h1];simp[gD,hk,hz])
 exact key [] bZ rfl
theorem Mt (l:List Key) (hl:l.length≤1073741824):ai C jq [eo l] (vB (dK l.length (jy l eJ))) []:=by
 refine(SN _ _ ?_).run
 have key: ∀(k i:Nat),i+k=l.length→1≤i→(List.range' i k).all (jy l eJ)=dK l.length (jy l eJ)→aj C jq aG 4 0 (qQ (l.map bK) i) (fun u st=>aH C jq aG u st fun r fs=>r=vB (dK l.length (jy l eJ))∧fs=[]):=by
  intro k
  induction k with
  |zero=>
   intro i h h1 h0;refine vF _ _ _ (ak gZ (Ce _ _ _ _ ?_));simp only[List.range'_zero,tQ] at h0;rw[←h0];exact dH
  |succ k ih=>
   intro i h h1 h0;obtain⟨j,rfl⟩: ∃j,i=j+1:=⟨i-1,by omega⟩;have hj:l[j]?=some l[j]:=bC au;have hj1:l[j+1]?=some l[j+1]:=bC au
   have e:jy l eJ (j+1)=eJ l[j] l[j+1]:=by simp only[jy,hj,hj1]
   rw[List.range'_succ,tP,e] at h0;refine vF _ _ _ (aa gZ ?_);rw[eg au,show((j+1:Nat):Int)-1=(j:Int) by omega];simp only[pZ,aK,hj,hj1,bq,fj,Gq,gv,fA,cX];rw[aO au]
   cases hb:eJ l[j] l[j+1] with
   |true=>
    rw[hb,eO] at h0;exact aa rfl (ih (j+1+1) au au h0)
   |false=>
    rw[hb,Bool.false_and] at h0;refine ak rfl (M0 _ ?_);rw[←h0];exact dH
 cases hz:l.length with
 |zero=>
  have:l=[]:=Dt hz;subst this;exact vF _ _ _ (ak bZ (Ce _ _ _ _ dH))
 |succ n=>
  rw[hz] at key;exact key n 1 au au (by unfold dK;rw[List.range'_succ,tP];rfl)
theorem Sd (l:List Key) (hl:l.length≤1073741824):ai C gr [eo l] (vB ((l.all fM&&(dK l.length (jy l eJ)&&decide (l.length≤60))))) []:=by
 refine(XI _ _ ?_).run
 have key:((l.drop 0).all fM&&(dK l.length (jy l eJ)&&decide (l.length≤60)))=(l.all fM&&(dK l.length (jy l eJ)&&decide (l.length≤60)))→aj C gr aG 4 0 (ov (l.map bK) ((0:Nat):Int)) (fun u st=>aH C gr aG u st fun r fs=>r=vB ((l.all fM&&(dK l.length (jy l eJ)&&decide (l.length≤60))))∧fs=[]):=by
  refine bV l (fun i=>((l.drop i).all fM&&(dK l.length (jy l eJ)&&decide (l.length≤60)))=(l.all fM&&(dK l.length (jy l eJ)&&decide (l.length≤60)))→aj C gr aG 4 0 (ov (l.map bK) i) (fun u st=>aH C gr aG u st fun r fs=>r=vB ((l.all fM&&(dK l.length (jy l eJ)&&decide (l.length≤60))))∧fs=[])) ?_ ?_
  ·intro h0
   refine GN _ _ _ (ak bZ (SB _ _ _ _ ?_));rw[gu] at h0;simp only[tQ,eO] at h0;rw[←h0];refine⟨_,Mt l hl,?_⟩;simp only[nJ,cq,vU]
   cases dK l.length (jy l eJ)<;>simp
   omega
  ·intro i a hi ha hd zw hn h0
   have gO:fM a=false→(l.all fM&&(dK l.length (jy l eJ)&&decide (l.length≤60)))=false:=fun e=>by rw[←h0,hd];simp[e]
   have gN:fM a=true→aj C gr aG 4 0 (ov (l.map bK) ((i:Int)+1)) (fun u st=>aH C gr aG u st fun r fs=>r=vB ((l.all fM&&(dK l.length (jy l eJ)&&decide (l.length≤60))))∧fs=[]):=fun e=>hn (by rw[←h0,hd];simp[e]);refine GN _ _ _ (aa gZ ?_);simp only[pZ,xV,aK,ha,bq,fj,gv,cX,gJ,jH,fA,gL,fo,gM,gP,jI,dL,natAdd,cq,ct,ic,eO,mJ];rw[aO au]
   cases h1:fM a<;>simp only[ry,Dz]<;>first|exact gN ir|exact SA _ (by rw[gO ir];exact dH)
 exact key rfl
theorem Ot (l:List Key) (hl:l.length≤1073741824):ai C gr [eo l] (vB (Ku l)) []:=by
 have:=Sd l hl;rw[Kv];exact this
theorem XC (l:List Key) (hl:l.length≤1073741824) (q:Bool):ai C gr [eo l] (vB q) []↔q=Ku l:=zA (Ot l hl)
theorem Ou (s:ByteArray) (hl:s.size≤140737488355328):ai C eu [vS s] (vB ((dK s.size (fE s)&&iU s.size 1 6))) []:=by
 refine(UR _ _ ?_).run
 have key:((List.range' 0 (s.size-0)).all (fE s)&&iU s.size 1 6)=(dK s.size (fE s)&&iU s.size 1 6)→aj C eu aG 4 0 (lq s ((0:Nat):Int)) (fun u st=>aH C eu aG u st fun r fs=>r=vB ((dK s.size (fE s)&&iU s.size 1 6))∧fs=[]):=by
  refine rK (s.size) (fun i=>((List.range' i (s.size-i)).all (fE s)&&iU s.size 1 6)=(dK s.size (fE s)&&iU s.size 1 6)→aj C eu aG 4 0 (lq s i) (fun u st=>aH C eu aG u st fun r fs=>r=vB ((dK s.size (fE s)&&iU s.size 1 6))∧fs=[])) ?_ ?_
  ·intro h0
   refine Fb _ _ _ (ak bZ (Py _ _ _ _ ?_));rw[oI] at h0;simp only[List.range'_zero,tQ,eO] at h0;rw[←h0];simp only[R7,gv,afF,vU];simp
  ·intro i hi hn h0
   rw[nK hi,tP] at h0
   have gO:(fE s) i=false→(dK s.size (fE s)&&iU s.size 1 6)=false:=fun e=>by rw[←h0,e];rfl
   have gN:(fE s) i=true→aj C eu aG 4 0 (lq s ((i:Int)+1)) (fun u st=>aH C eu aG u st fun r fs=>r=vB ((dK s.size (fE s)&&iU s.size 1 6))∧fs=[]):=fun e=>hn (by rw[←h0,e];rfl);refine Fb _ _ _ (aa gZ ?_);obtain⟨n,hb,hn0,hn1⟩:=VX hi;have hw:vV .i64 n=n:=Ze au;simp only[hb,bq,fj,R7,gv,hw,cX];rw[aO au]
   have e:fE s i=(iU n 97 122||iU n 48 57):=by unfold fE;rw[hb];rfl
   rw[e] at gO gN
   cases h1:iU n 97 122<;>cases h2:iU n 48 57<;>simp only[ry,Dz]<;>first|exact gN (by rw[h1,h2];rfl)|exact Px _ (by rw[gO (by rw[h1,h2];rfl)];exact dH)
 exact key rfl
theorem rV (s:ByteArray) (hl:s.size≤140737488355328) (q:Bool):ai C eu [vS s] (vB q) []↔q=dR s:=zA (Ou s hl)
theorem Bh (t:Tree) (l:List mS) (b id:Int) (hl:dZ t≤1073741824) (ha:l.length≤1073741823):ai C HE [eR t,qq l,vI b,vI id] (tKB (o9 t l b id)) []:=by
 refine(aak _ _ _ _ _ _ ?_).run;refine⟨_,DB l id au,_,_,_,_,_,_,DC t b _ hl (by have:=I1 l id;omega),?_⟩;exact dH
theorem yP (t:Tree) (l:List mS) (b id:Int) (hl:dZ t≤1073741824) (ha:l.length≤1073741823):ai C uJ [eR t,qq l,vI b,vI id] (tKB (x8 t l b id)) []:=by
 refine(MW _ _ _ _ _ _ ?_).run;have hp:=I1 l id;refine⟨_,DB l id au,?_⟩;simp only[cq,vU,cJ,dI,cc];unfold x8
 by_cases h:(pathOf l id).length=0
 ·rw[aR au,Dt h]
  simp[afN,eK]
 ·rw[aJ au]
  refine aa gZ ⟨_,_,_,_,_,_,DC t b _ hl gZ,?_⟩
  have e:List.drop (Int.toNat 1) (List.take (Int.toNat ((pathOf l id).length:Int)) (pathOf l id))=(pathOf l id).drop 1:=by rw[oF,rj];rfl
  rw[e];exact dH
theorem Ud (t:Tree) (l:List mS) (k:Key) (id:Int) (hl:dZ t≤1073741824) (ha:l.length≤1073741823):ai C HG [eR t,qq l,BD k,vI id] (vB (xj t l k id)) []:=by
 refine(aal _ _ _ _ _ _ _ _ _ _ ?_).run;refine⟨_,_,_,_,_,_,Bh t l k.b id hl ha,?_⟩;unfold xj;simp only[cJ]
 cases h:(o9 t l k.b id).2
 ·exact ak rfl dH
 ·exact aa rfl ⟨by simp,by trivial⟩
theorem Jq (p:bu) (k:Key) (ht:dZ p.t≤1073741824) (hg:p.aY.length≤1073741823) (hl:p.aD.length≤1073741824):ai C dG [fz p,BD k] (vB ((p.aD.any (fun v:oO=>decide (k.b<v.size)&&xj p.t p.aY k v.fq)))) []:=by
 refine(Nk _ _ _ _ _ _ _ _ _ _ _ _ ?_).run
 have key:((p.aD.drop 0).any (fun v:oO=>decide (k.b<v.size)&&xj p.t p.aY k v.fq))=(p.aD.any (fun v:oO=>decide (k.b<v.size)&&xj p.t p.aY k v.fq))→aj C dG aG 4 0 (iT ((0:Nat):Int) (p.t.aA.map bA) (p.t.nodes.map bn) (p.aY.map cn) (p.cells.map cC) (p.aD.map dh) p.next k.b k.a k.k k.c k.g) (fun u st=>aH C dG aG u st fun r fs=>r=vB ((p.aD.any (fun v:oO=>decide (k.b<v.size)&&xj p.t p.aY k v.fq)))∧fs=[]):=by
  refine bV p.aD (fun i=>((p.aD.drop i).any (fun v:oO=>decide (k.b<v.size)&&xj p.t p.aY k v.fq))=(p.aD.any (fun v:oO=>decide (k.b<v.size)&&xj p.t p.aY k v.fq))→aj C dG aG 4 0 (iT i (p.t.aA.map bA) (p.t.nodes.map bn) (p.aY.map cn) (p.cells.map cC) (p.aD.map dh) p.next k.b k.a k.k k.c k.g) (fun u st=>aH C dG aG u st fun r fs=>r=vB ((p.aD.any (fun v:oO=>decide (k.b<v.size)&&xj p.t p.aY k v.fq)))∧fs=[])) ?_ ?_
  ·intro h0
   refine zj _ _ _ _ _ _ _ _ _ _ _ _ _ (ak bZ (JJ _ _ _ _ _ _ _ _ _ _ _ _ _ _ ?_));rw[gu] at h0;simp only[List.any_nil,eO] at h0;rw[←h0];exact dH
  ·intro i a hi ha hd zw hn h0
   have gO:(fun v:oO=>decide (k.b<v.size)&&xj p.t p.aY k v.fq) a=true→(p.aD.any (fun v:oO=>decide (k.b<v.size)&&xj p.t p.aY k v.fq))=true:=fun e=>by rw[←h0,hd];simp[e]
   have gN:(fun v:oO=>decide (k.b<v.size)&&xj p.t p.aY k v.fq) a=false→aj C dG aG 4 0 (iT ((i:Int)+1) (p.t.aA.map bA) (p.t.nodes.map bn) (p.aY.map cn) (p.cells.map cC) (p.aD.map dh) p.next k.b k.a k.k k.c k.g) (fun u st=>aH C dG aG u st fun r fs=>r=vB ((p.aD.any (fun v:oO=>decide (k.b<v.size)&&xj p.t p.aY k v.fq)))∧fs=[]):=fun e=>hn (by rw[←h0,hd];simp[e]);refine zj _ _ _ _ _ _ _ _ _ _ _ _ _ (aa gZ ?_)
   have hh: ∀q,ai C HG [eR p.t,qq p.aY,BD k,vI a.fq] (vB q) []↔q=xj p.t p.aY k a.fq:=fun q=>zA (Ud p.t p.aY k a.fq ht hg);simp only[wL,hh,mO,dI,aK,ha,bq,fj,gv,cX,gJ,jH,fA,gL,fo,gM,gP,jI,dL,natAdd,cq,ct,ic,eO,mJ];rw[aO au]
   by_cases h1:k.b<a.size<;>cases h2:xj p.t p.aY k a.fq<;>simp only[h1,if_true,if_false,ry,Dz]<;>first|exact gN (by simp[h1,h2])|exact JI _ _ _ _ _ _ _ _ _ _ _ _ (by rw[gO (by simp[h1,h2])];exact dH)
 exact key rfl
theorem HN (p:bu) (k:Key) (ht:dZ p.t≤1073741824) (hg:p.aY.length≤1073741823) (hl:p.aD.length≤1073741824):ai C dG [fz p,BD k] (vB (VZ p k)) []:=Jq p k ht hg hl
theorem Ir (t:Tree) (l:List mS) (b id:Int) (hl:dZ t≤1073741824) (ha:l.length≤1073741823):ai C Mm [eR t,qq l,vI b,vI id] (tKB (o9 t l b id)) []:=by
 refine(aap _ _ _ _ _ _ ?_).run;refine⟨_,On l id au,_,_,_,_,_,_,Oo t b _ hl (by have:=I1 l id;omega),?_⟩;exact dH
theorem iL (p:bu) (s:ByteArray) (hl:p.aD.length≤1073741824):ai C dD [fz p,vS s] (vI (dU p.aD s)) []:=by
 refine(XX _ _ _ _ _ _ _ _ ?_).run
 have key:fW (fun v:oO=>decide (v.name=s)) (p.aD.drop 0) ((0:Nat):Int)=fW (fun v:oO=>decide (v.name=s)) p.aD 0→aj C dD aG 4 0 (qA s ((0:Nat):Int) (p.t.aA.map bA) (p.t.nodes.map bn) (p.aY.map cn) (p.cells.map cC) (p.aD.map dh) p.next) (fun u st=>aH C dD aG u st fun r fs=>r=vI (dU p.aD s)∧fs=[]):=by
  refine bV p.aD (fun i=>fW (fun v:oO=>decide (v.name=s)) (p.aD.drop i) (i:Int)=fW (fun v:oO=>decide (v.name=s)) p.aD 0→aj C dD aG 4 0 (qA s i (p.t.aA.map bA) (p.t.nodes.map bn) (p.aY.map cn) (p.cells.map cC) (p.aD.map dh) p.next) _) ?_ ?_
  ·intro h0
   refine GY _ _ _ _ _ _ _ _ _ (ak bZ (SX _ _ _ _ _ _ _ _ _ _ ?_));rw[gu] at h0;simp only[fW] at h0;change _=vI (fW (fun v:oO=>decide (v.name=s)) p.aD 0)∧_;rw[←h0];exact dH
  ·intro i a hi ha hd zw hn h0
   refine GY _ _ _ _ _ _ _ _ _ (aa gZ ?_);rw[hd] at h0;simp only[fW] at h0;simp only[wL,W4,dI,aK,ha,bq,fj,gv,cX,gJ,jH,fA,gL,fo,gM,gP,jI,dL,natAdd,cq,ct,ic,eO,mJ];rw[aO au]
   split at h0
   ·rename_i hp
    have hp:=th hp
    first|rw[aR hp]|rw[aR hp.symm]
    refine SW _ _ _ _ _ _ _ _ ?_;rw[h0];exact dH
   ·rename_i hp
    have hp: ¬_:=fun h=>hp (lB h)
    first|rw[aJ hp]|rw[aJ (fun h=>hp h.symm)]
    exact hn h0
 exact key rfl
theorem Mu (n:List (List Key)) (hb:n.length≤1073741824) (hl:tot c8 n≤1073741824):ai C iN [o8 n] (vI (gi n)) []:=by
 refine(SE _ _ ?_).run
 have key: ∀(c:Nat),c+tot c8 (n.drop 0)=gi n→aj C iN ah 4 0 (oy c ((0:Nat):Int) (n.map fO)) (fun u st=>aH C iN ah u st fun r fs=>r=(vI (gi n))∧fs=[]):=by
  refine bV n (fun i=> ∀(c:Nat),c+tot c8 (n.drop i)=gi n→aj C iN ah 4 0 (oy c i (n.map fO)) (fun u st=>aH C iN ah u st fun r fs=>r=(vI (gi n))∧fs=[])) ?_ ?_
  ·intro c h0
   refine Cc _ _ _ _ (ak bZ (MV _ _ _ _ _ ?_));rw[gu] at h0;simp only[tot,tW] at h0;rw[h0];exact dH
  ·intro i a hi ha hd ht hn c h0
   refine Cc _ _ _ _ (aa gZ ?_);rw[hd] at h0;have e5:tot c8 (a::n.drop (i+1))=a.length+tot c8 (n.drop (i+1)):=rfl;rw[e5] at h0;unfold gi at h0;simp only[I0,aK,ha,bq,fj,gv,cX,gJ,jH,fA,gL,fo,gM,gP,jI,dL,natAdd,cq,ct,ic,eO,mJ];rw[aO (by simp only[vU];omega),aO au];exact hn (c+a.length) (by unfold gi;omega)
 exact key 0 (by simp[gi])
theorem Mv (n:List (List Key)) (hs:tot c8 n≤1073741824) (hl:n.length≤1073741824):ai C bS [o8 n] (vB ((n.all jR&&(decide (n.length≤3)&&decide (gi n≤8))))) []:=by
 refine(UJ _ _ ?_).run
 have key:((n.drop 0).all jR&&(decide (n.length≤3)&&decide (gi n≤8)))=(n.all jR&&(decide (n.length≤3)&&decide (gi n≤8)))→aj C bS aG 4 0 (mW ((0:Nat):Int) (n.map fO)) (fun u st=>aH C bS aG u st fun r fs=>r=vB ((n.all jR&&(decide (n.length≤3)&&decide (gi n≤8))))∧fs=[]):=by
  refine bV n (fun i=>((n.drop i).all jR&&(decide (n.length≤3)&&decide (gi n≤8)))=(n.all jR&&(decide (n.length≤3)&&decide (gi n≤8)))→aj C bS aG 4 0 (mW i (n.map fO)) (fun u st=>aH C bS aG u st fun r fs=>r=vB ((n.all jR&&(decide (n.length≤3)&&decide (gi n≤8))))∧fs=[])) ?_ ?_
  ·intro h0
   refine E3 _ _ _ (ak bZ (Pg _ _ _ _ ?_));rw[gu] at h0;simp only[tQ,eO] at h0;rw[←h0];simp only[nJ,cq,vU,dI]
   by_cases h3:n.length≤3
   ·rw[aR au]
    refine⟨_,Mu n hl hs,?_⟩;simp[h3];omega
   ·rw[aJ au]
    simp[h3]
  ·intro i a hi ha hd zw hn h0
   have gO:jR a=false→(n.all jR&&(decide (n.length≤3)&&decide (gi n≤8)))=false:=fun e=>by rw[←h0,hd];simp[e]
   have gN:jR a=true→aj C bS aG 4 0 (mW ((i:Int)+1) (n.map fO)) (fun u st=>aH C bS aG u st fun r fs=>r=vB ((n.all jR&&(decide (n.length≤3)&&decide (gi n≤8))))∧fs=[]):=fun e=>hn (by rw[←h0,hd];simp[e]);refine E3 _ _ _ (aa gZ ?_);have hz:a.length≤tot c8 n:=qH (w:=c8) ha;have hh: ∀q,ai C gr [eo a] (vB q) []↔q=Ku a:=fun q=>XC a au q;simp only[I0,hh,cJ,vU,dI,aK,ha,bq,fj,gv,cX,gJ,jH,fA,gL,fo,gM,gP,jI,dL,natAdd,cq,ct,ic,eO,mJ]
   rw[aO au]
   cases h1:Ku a<;>by_cases h2:a.length=0<;>simp only[ry,Dz]<;>first|(rw[aR au];exact E4 _ _ (by rw[gO (by simp[jR,h1,h2])];exact dH))|(rw[aJ au];exact gN (by simp[jR,h1,h2]))|exact E4 _ _ (by rw[gO (by simp[jR,h1,h2])];exact dH)
 exact key rfl
theorem wR (n:List (List Key)) (hb:n.length≤1073741824) (hl:tot c8 n≤1073741824):ai C bS [o8 n] (vB (gn n)) []:=by
 have:=Mv n hl hb;rw[adE];exact this
theorem wS (l:List mS) (hl:l.length≤1073741824):ai C dj [qq l] (vB ((dK l.length (nR l)&&decide (l.length≤16)))) []:=by
 refine(Uy _ _ ?_).run
 have key:((List.range' 0 (l.length-0)).all (nR l)&&decide (l.length≤16))=(dK l.length (nR l)&&decide (l.length≤16))→aj C dj aG 4 0 (iO (l.map cn) ((0:Nat):Int)) (fun u st=>aH C dj aG u st fun r fs=>r=vB ((dK l.length (nR l)&&decide (l.length≤16)))∧fs=[]):=by
  refine rK (l.length) (fun i=>((List.range' i (l.length-i)).all (nR l)&&decide (l.length≤16))=(dK l.length (nR l)&&decide (l.length≤16))→aj C dj aG 4 0 (iO (l.map cn) i) (fun u st=>aH C dj aG u st fun r fs=>r=vB ((dK l.length (nR l)&&decide (l.length≤16)))∧fs=[])) ?_ ?_
  ·intro h0
   refine EV _ _ _ (ak bZ (O3 _ _ _ _ ?_));rw[oI] at h0;simp only[List.range'_zero,tQ,eO] at h0;rw[←h0];simp[nJ];omega
  ·intro i hi hn h0
   rw[nK hi,tP] at h0
   have gO:(nR l) i=false→(dK l.length (nR l)&&decide (l.length≤16))=false:=fun e=>by rw[←h0,e];rfl
   have gN:(nR l) i=true→aj C dj aG 4 0 (iO (l.map cn) ((i:Int)+1)) (fun u st=>aH C dj aG u st fun r fs=>r=vB ((dK l.length (nR l)&&decide (l.length≤16)))∧fs=[]):=fun e=>hn (by rw[←h0,e];rfl);refine EV _ _ _ (aa gZ ?_);have ha:l[i]?=some l[i]:=bC hi;have hh: ∀q,ai C dF [qq (l.take i),vI l[i].fr] (vI q) []↔q=ie (l.take i) l[i].fr:=fun q=>Di (l.take i) l[i].fr gZ q
   have Ct:aq (l.map cn) 0 (i:Int)=(l.take i).map cn:=by rw[cc,oF];rfl
   have hin:eP 0 (i:Int) (l.length:Int)=true:=by simp;omega
   simp only[F5,Bg,Ct,aK,ha,bq,fj,gv,cX,gJ,jH,fA,gL,fo,gM,gP,jI,dL,natAdd,cq,ct,ic,eO,mJ];simp only[ha,hin,hh,gv,bq,fj,ry,cJ,nJ,mO,dI,vU,cq];rw[aO au]
   cases i with
   |zero=>
    have e:nR l 0=(iU l[0].id 1 60&&(decide (l[0].fr=0)|| !decide (ie (l.take 0) l[0].fr<0))):=by simp[nR,atL,jy,hi]
    rw[e] at gO gN
    have hz: ¬((0:Int)<((0:Nat):Int)):=by omega
    simp only[aJ hz]
    cases h1:iU l[0].id 1 60 with
    |false=>simp only[Dz];exact pL _ (by rw[gO (by rw[h1];simp)];exact dH)
    |true=>
     simp only[ry]
     by_cases h2:l[0].fr=0
     ·rw[aR h2];exact gN (by rw[h1,lB h2];simp)
     ·rw[aJ h2]
      by_cases h3:ie (l.take 0) l[0].fr<0
      ·rw[aR h3];exact pL _ (by rw[gO (by rw[lH h2,lB h3];simp)];exact dH)
      ·rw[aJ h3];exact gN (by rw[h1,lH h3];simp)
   |succ k=>
    have hk:l[k]?=some l[k]:=bC au
    have e:nR l (k+1)=(iU l[k+1].id 1 60&&(decide (l[k].id<l[k+1].id)&&(decide (l[k+1].fr=0)|| !decide (ie (l.take (k+1)) l[k+1].fr<0)))):=by simp only[nR,atL,jy,hk,ha]
    rw[e] at gO gN;rw[eg au,show((k+1:Nat):Int)-1=(k:Int) by omega];simp only[aK,hk,bq,fj];rw[aR au]
    cases h1:iU l[k+1].id 1 60 with
    |false=>simp only[Dz];exact pL _ (by rw[gO (by rw[h1];simp)];exact dH)
    |true=>
     simp only[ry]
     by_cases h4:l[k].id<l[k+1].id
     ·rw[aJ au]
      by_cases h2:l[k+1].fr=0
      ·rw[aR h2];exact gN (by rw[h1,lB h4,lB h2];simp)
      ·rw[aJ h2]
       by_cases h3:ie (l.take (k+1)) l[k+1].fr<0
       ·rw[aR h3];exact pL _ (by rw[gO (by rw[lH h2,lB h3];simp)];exact dH)
       ·rw[aJ h3];exact gN (by rw[h1,lB h4,lH h3];simp)
     ·rw[aR au];exact pL _ (by rw[gO (by rw[lH h4];simp)];exact dH)
 exact key rfl
theorem Ue (l:List mS) (hl:l.length≤1073741824) (q:Bool):ai C dj [qq l] (vB q) []↔q=iJ l:=zA (wS l hl)
@[simp] theorem Is (b a q:Int):ai C Am [vI b,vI a] (vI q) []↔q=dz b a:=ajY ((UD _ _ _ dH).run)
@[simp] theorem vT (b a k c g q:Int):ai C iA [.ag [iI b,iI a,iI k,iI c,iI g]] (vI q) []↔q=dz b a:=ajY (by
  refine(UH _ _ _ _ _ _ ?_).run;simp only[Is,gv]
  simp)
theorem Mw (t:Tree) (i:Nat) (n:List (List Key)) (hi:i<t.aA.length) (hl:dZ t≤1073741824) (hn:n.length≤1073741824) (hz:tot c8 n≤1073741824):aj C bJ aP 4 0 (jC i ((0:Nat):Int) (t.aA.map bA) (t.nodes.map bn) (n.map fO)) (fun u st=>aH C bJ aP u st fun r fs=>r=vB (n.all (gH t.aA i))∧fs=[]):=by
 have hll:t.aA.length≤1073741824:=by unfold dZ at hl;omega
 have hlo:t.aA[i]?=some t.aA[i]:=bC hi
 have key:(n.drop 0).all (gH t.aA i)=n.all (gH t.aA i)→aj C bJ aP 4 0 (jC i ((0:Nat):Int) (t.aA.map bA) (t.nodes.map bn) (n.map fO)) (fun u st=>aH C bJ aP u st fun r fs=>r=vB (n.all (gH t.aA i))∧fs=[]):=by
  refine bV n (fun k=>(n.drop k).all (gH t.aA i)=n.all (gH t.aA i)→aj C bJ aP 4 0 (jC i k (t.aA.map bA) (t.nodes.map bn) (n.map fO)) (fun u st=>aH C bJ aP u st fun r fs=>r=vB (n.all (gH t.aA i))∧fs=[])) ?_ ?_
  ·intro h0
   refine E1 _ _ _ _ _ _ (ak bZ (O9 _ _ _ _ _ _ _ ?_));rw[gu] at h0;simp only[tQ] at h0;rw[←h0];exact dH
  ·intro k s hk hs hd zw hnext h0
   have hsl:s.length≤tot c8 n:=qH (w:=c8) hs;rw[hd,tP] at h0;refine E1 _ _ _ _ _ _ (aa gZ ?_)
   have keyI:(s.drop 0).all (pP t.aA i)=s.all (pP t.aA i)→aj C bJ g7 3 2 (kZ i k ((0:Nat):Int) (t.aA.map bA) (t.nodes.map bn) (n.map fO)) (fun u st=>pY C bJ aP 4 0 wX u st (fun u st=>aH C bJ aP u st fun r fs=>r=vB (n.all (gH t.aA i))∧fs=[])):=by
    refine bV s (fun j=>(s.drop j).all (pP t.aA i)=s.all (pP t.aA i)→aj C bJ g7 3 2 (kZ i k j (t.aA.map bA) (t.nodes.map bn) (n.map fO)) (fun u st=>pY C bJ aP 4 0 wX u st (fun u st=>aH C bJ aP u st fun r fs=>r=vB (n.all (gH t.aA i))∧fs=[]))) ?_ ?_
    ·intro h1
     rw[gu] at h1;simp only[tQ] at h1;refine E2 _ _ _ _ _ _ _ (⟨_,Hs hs,ak bZ (Pc _ _ _ _ _ _ _ _ ?_)⟩);rw[aO au];exact hnext (by rw[←h0];unfold gH;rw[←h1];simp)
    ·intro j x hj hx hdj htj hn2 h1
     rw[hdj,tP] at h1
     have gO:pP t.aA i x=false→pY C bJ aP 4 0 wX TX.ret (sD (t.aA.map bA) (t.nodes.map bn) (n.map fO)) (fun u st=>aH C bJ aP u st fun r fs=>r=vB (n.all (gH t.aA i))∧fs=[]):=fun e=>Pb _ _ _ _ (Pd _ _ _ _ (by
      have e2:gH t.aA i s=false:=by unfold gH;rw[←h1,e];rfl
      rw[←h0,e2];exact dH))
     have gN:pP t.aA i x=true→aj C bJ g7 3 2 (kZ i k ((j:Int)+1) (t.aA.map bA) (t.nodes.map bn) (n.map fO)) (fun u st=>pY C bJ aP 4 0 wX u st (fun u st=>aH C bJ aP u st fun r fs=>r=vB (n.all (gH t.aA i))∧fs=[])):=fun e=>hn2 (by rw[←h1,e];rfl)
     have e:pP t.aA i x=(!decide (dz x.b x.a<t.aA[i])&&(match t.aA[i+1]? with|some hi=>decide (dz x.b x.a<hi)|none=>true)):=by simp only[pP,Ma,hlo];rfl
     rw[e] at gO gN;refine E2 _ _ _ _ _ _ _ (⟨_,Hs hs,aa gZ ⟨_,Hs hs,?_⟩⟩);rw[aO (a:=(i:Int)) au,aO (a:=(j:Int)) au];simp only[pZ,yA,aK,hx,hlo,bq,fj,vT,gv,mO,nJ,dI,cq,vU]
     by_cases h2:dz x.b x.a<t.aA[i]
     ·rw[aR h2]
      exact gO (by rw[lB h2];rfl)
     ·rw[aJ h2]
      by_cases h3:i+1<t.aA.length
      ·have hhi:t.aA[i+1]?=some t.aA[i+1]:=bC h3
       rw[aR au,show((i:Int)+1)=((i+1:Nat):Int) by omega,aK,hhi];simp only[bq,fj];rw[hhi] at gO gN
       by_cases h4:dz x.b x.a<t.aA[i+1]
       ·rw[aJ au]
        exact gN (by rw[lH h2];simp[h4])
       ·rw[aR au]
        exact gO (by simp[h4])
      ·rw[aJ au]
       have hno:t.aA[i+1]?=none:=Vq au;rw[hno] at gN;exact gN (by rw[lH h2];rfl)
   exact keyI rfl
 exact key rfl
theorem Ov (t:Tree) (i:Nat) (n:List (List Key)) (ha:t.nodes[i]?=some n) (hlo:i<t.aA.length) (hl:dZ t≤1073741824):ai C bJ [eR t,vI i] (vB (gn n&&((decide (i=0)|| !decide ((aB n).length=0))&&n.all (gH t.aA i)))) []:=by
 have hz:aW n≤tot aW t.nodes:=qH (w:=aW) ha;have e1:aW n=n.length+tot c8 n:=rfl;have e2:dZ t=t.aA.length+(t.nodes.length+tot aW t.nodes):=rfl;have hnk:=cY n;refine(UI _ _ _ _ ⟨_,Hs (e:=bn) ha,_,wR n au au,?_⟩).run
 cases h1:gn n with
 |false=>exact aa rfl dH
 |true=>
  refine ak rfl ?_;have amg:=Mw t i n hlo hl au au
  have conv: ∀B:Bool,B=n.all (gH t.aA i)→aj C bJ aP 4 0 (jC i 0 (t.aA.map bA) (t.nodes.map bn) (n.map fO)) (fun u st=>aH C bJ aP u st fun r fs=>r=vB B∧fs=[]):=fun B hB=>by subst hB;exact amg
  cases i with
  |zero=>exact ak bZ (conv _ bZ)
  |succ k=>
   refine aa (by first|(simp;done)|(simp;omega)) ⟨_,Ao n au au,?_⟩
   by_cases h2:(aB n).length=0
   ·refine aa (by simp[h2]) ?_
    simp[h2]
   ·exact ak (by simpa using h2) (conv _ (by simp[h2]))
theorem sj (t:Tree) (hl:dZ t≤1073741824):ai C aI [eR t] (vB (de t)) []:=by
 have e2:dZ t=t.aA.length+(t.nodes.length+tot aW t.nodes):=rfl;refine(Uq _ _ _ ?_).run;simp only[Bg,gv,cq,vU,cJ,cX];unfold de
 cases h1:iU (t.nodes.length:Int) 1 20 with
 |false=>exact ak rfl dH
 |true=>
  refine aa rfl ?_
  have hn1:1≤t.nodes.length:=by have:=th h1;omega
  by_cases h2:t.aA.length=t.nodes.length
  ·refine aa (by simp[h2]) ?_
   have h0:t.aA[0]?=some t.aA[0]:=bC au
   have Qg:ew t.aA 0=some t.aA[0]:=by rw[show(0:Int)=((0:Nat):Int) from rfl,aK];exact h0
   simp only[yA,Qg,h0,bq,fj,dI]
   by_cases h3:t.aA[0]=0
   ·rw[aR (by simpa using h3)]
    have hw:(true&&(decide (t.aA.length=t.nodes.length)&&((decide (t.aA[0]=0))&&(dK t.nodes.length (gW t)&&decide ((az t).length≤60)))))=(dK t.nodes.length (gW t)&&decide ((az t).length≤60)):=by simp[h2,h3]
    rw[hw]
    have key:((List.range' 0 (t.nodes.length-0)).all (gW t)&&decide ((az t).length≤60))=(dK t.nodes.length (gW t)&&decide ((az t).length≤60))→aj C aI ah 4 0 (kY ((0:Nat):Int) (t.aA.map bA) (t.nodes.map bn)) (fun u st=>aH C aI ah u st fun r fs=>r=vB (dK t.nodes.length (gW t)&&decide ((az t).length≤60))∧fs=[]):=by
     refine rK t.nodes.length (fun i=>((List.range' i (t.nodes.length-i)).all (gW t)&&decide ((az t).length≤60))=(dK t.nodes.length (gW t)&&decide ((az t).length≤60))→aj C aI ah 4 0 (kY i (t.aA.map bA) (t.nodes.map bn)) _) ?_ ?_
     ·intro h0
      rw[oI] at h0;simp only[List.range'_zero,tQ,eO] at h0;refine EJ _ _ _ _ (ak bZ (OS _ _ _ _ _ ⟨_,jr t hl,?_⟩));rw[←h0];simp[nJ];omega
     ·intro i hi hn h0
      rw[nK hi,tP] at h0;have ha:t.nodes[i]?=some t.nodes[i]:=bC hi;have hli:t.aA[i]?=some t.aA[i]:=bC au;have gO:gW t i=false→aH C aI ah TX.ret (pz (t.aA.map bA) (t.nodes.map bn)) (fun r fs=>r=vB (dK t.nodes.length (gW t)&&decide ((az t).length≤60))∧fs=[]):=fun e=>OR _ _ _ (by rw[←h0,e];exact dH);have gN:gW t i=true→aj C aI ah 4 0 (kY ((i:Int)+1) (t.aA.map bA) (t.nodes.map bn)) (fun u st=>aH C aI ah u st fun r fs=>r=vB (dK t.nodes.length (gW t)&&decide ((az t).length≤60))∧fs=[]):=fun e=>hn (by rw[←h0,e];rfl)
      have hh: ∀q,ai C bJ [eR t,vI i] (vB q) []↔q=_:=fun q=>zA (Ov t i t.nodes[i] ha au hl);refine EJ _ _ _ _ (aa gZ ?_);rw[aO au];simp only[hh,gv,mO,nJ,dI,cX]
      cases i with
      |zero=>
       have e:gW t 0=(gn t.nodes[0]&&((decide (0=0)|| !decide ((aB t.nodes[0]).length=0))&&t.nodes[0].all (gH t.aA 0))):=by simp only[gW,jy,ha,eO]
       rw[e] at gO gN;rw[aJ au];exact aZ gN gO
      |succ k=>
       have hk:t.aA[k]?=some t.aA[k]:=bC au
       have e:gW t (k+1)=(decide (t.aA[k]<t.aA[k+1])&&(gn t.nodes[k+1]&&((decide (k+1=0)|| !decide ((aB t.nodes[k+1]).length=0))&&t.nodes[k+1].all (gH t.aA (k+1))))):=by simp only[gW,jy,ha,hk,hli]
       rw[e] at gO gN;rw[aR au,eg au,show((k+1:Nat):Int)-1=(k:Int) by omega];simp only[yA,aK,hk,hli,bq,fj]
       by_cases h4:t.aA[k]<t.aA[k+1]
       ·rw[aJ au]
        rw[lB h4,eO] at gO gN;exact aZ gN gO
       ·rw[aR au]
        exact gO (by rw[lH h4];rfl)
    exact key rfl
   ·rw[aJ (by simpa using h3)]
    simp[h3]
  ·refine ak gZ ?_
   simp[h2]
theorem Mx (p:bu) (hS:aV p≤4194304):ai C bI [fz p] (vB (nY p)) []:=by
 have hP:=fG hS
 have hname: ∀v∈p.aD,v.name.size≤140737488355328:=fun v hv=>by have:=xE (w:=xh) hv;have e:xh v=v.name.size:=rfl;omega
 refine(S3 _ _ _ _ _ _ _ ?_).run;unfold nY
 have key:((List.range' 0 (p.aD.length-0)).all (gy p)&&decide (p.aD.length≤6))=(dK p.aD.length (gy p)&&decide (p.aD.length≤6))→aj C bI aG 4 0 (lV ((0:Nat):Int) (p.t.aA.map bA) (p.t.nodes.map bn) (p.aY.map cn) (p.cells.map cC) (p.aD.map dh) p.next) (fun u st=>aH C bI aG u st fun r fs=>r=vB (dK p.aD.length (gy p)&&decide (p.aD.length≤6))∧fs=[]):=by
  refine rK p.aD.length (fun i=>((List.range' i (p.aD.length-i)).all (gy p)&&decide (p.aD.length≤6))=(dK p.aD.length (gy p)&&decide (p.aD.length≤6))→aj C bI aG 4 0 (lV i (p.t.aA.map bA) (p.t.nodes.map bn) (p.aY.map cn) (p.cells.map cC) (p.aD.map dh) p.next) (fun u st=>aH C bI aG u st fun r fs=>r=vB (dK p.aD.length (gy p)&&decide (p.aD.length≤6))∧fs=[])) ?_ ?_
  ·intro h0
   rw[oI] at h0;simp only[List.range'_zero,tQ,eO] at h0;refine Ci _ _ _ _ _ _ _ _ (ak bZ (M8 _ _ _ _ _ _ _ _ _ ?_));rw[←h0];simp[nJ];omega
  ·intro i hi hn h0
   rw[nK hi,tP] at h0;have ha:p.aD[i]?=some p.aD[i]:=bC hi;have hv:=hname p.aD[i] (tV hi);have hkl:=abo p.aY p.aD[i].fq;have gO1:gy p i=false→aH C bI aG TX.ret (lW (p.t.aA.map bA) (p.t.nodes.map bn) (p.aY.map cn) (p.cells.map cC) (p.aD.map dh) p.next p.aD[i].name p.aD[i].fq p.aD[i].size p.aD[i].fx) (fun r fs=>r=vB (dK p.aD.length (gy p)&&decide (p.aD.length≤6))∧fs=[]):=fun e=>M6 _ _ _ _ _ _ _ _ _ _ _ (by rw[←h0,e];exact dH)
   have gO2:gy p i=false→aH C bI aG TX.ret (qT (p.t.aA.map bA) (p.t.nodes.map bn) (p.aY.map cn) (p.cells.map cC) (p.aD.map dh) p.next p.aD[i].name p.aD[i].fq p.aD[i].size p.aD[i].fx ((gD p.aY p.aD[i].fq).map bA)) (fun r fs=>r=vB (dK p.aD.length (gy p)&&decide (p.aD.length≤6))∧fs=[]):=fun e=>M7 _ _ _ _ _ _ _ _ _ _ _ _ (by rw[←h0,e];exact dH);have gN:gy p i=true→aj C bI aG 4 0 (lV ((i:Int)+1) (p.t.aA.map bA) (p.t.nodes.map bn) (p.aY.map cn) (p.cells.map cC) (p.aD.map dh) p.next) (fun u st=>aH C bI aG u st fun r fs=>r=vB (dK p.aD.length (gy p)&&decide (p.aD.length≤6))∧fs=[]):=fun e=>hn (by rw[←h0,e];rfl)
   have hin: ∀b:Bool,((p.aD.take i).any fun u=>decide (u.fq=p.aD[i].fq))=b→(b=true→gy p i=false)→(b=false→gy p i=true)→aj C bI nN 3 2 (jV i 0 (p.t.aA.map bA) (p.t.nodes.map bn) (p.aY.map cn) (p.cells.map cC) (p.aD.map dh) p.next p.aD[i].name p.aD[i].fq p.aD[i].size p.aD[i].fx) (fun u st=>pY C bI aG 4 0 yW u st (fun u st=>aH C bI aG u st fun r fs=>r=vB (dK p.aD.length (gy p)&&decide (p.aD.length≤6))∧fs=[])):=by
    intro b hb hbt hbf
    have keyI:(((p.aD.take i).drop 0).any fun u=>decide (u.fq=p.aD[i].fq))=b→aj C bI nN 3 2 (jV i ((0:Nat):Int) (p.t.aA.map bA) (p.t.nodes.map bn) (p.aY.map cn) (p.cells.map cC) (p.aD.map dh) p.next p.aD[i].name p.aD[i].fq p.aD[i].size p.aD[i].fx) (fun u st=>pY C bI aG 4 0 yW u st (fun u st=>aH C bI aG u st fun r fs=>r=vB (dK p.aD.length (gy p)&&decide (p.aD.length≤6))∧fs=[])):=by
     have hle:(p.aD.take i).length=i:=by simp;omega
     refine bV (p.aD.take i) (fun k=>(((p.aD.take i).drop k).any fun u=>decide (u.fq=p.aD[i].fq))=b→aj C bI nN 3 2 (jV i k (p.t.aA.map bA) (p.t.nodes.map bn) (p.aY.map cn) (p.cells.map cC) (p.aD.map dh) p.next p.aD[i].name p.aD[i].fq p.aD[i].size p.aD[i].fx) (fun u st=>pY C bI aG 4 0 yW u st (fun u st=>aH C bI aG u st fun r fs=>r=vB (dK p.aD.length (gy p)&&decide (p.aD.length≤6))∧fs=[]))) ?_ ?_
     ·intro h1
      rw[gu] at h1;simp only[List.any_nil] at h1;refine Cj _ _ _ _ _ _ _ _ _ _ _ _ _ (ak gZ (Na _ _ _ _ _ _ _ _ _ _ _ _ _ ?_));rw[aO au];exact gN (hbf h1.symm)
     ·intro k u hk hu hd zw hn2 h1
      have hu':p.aD[k]?=some u:=by rw[←hu,zG];simp;omega
      rw[hd,List.any_cons] at h1;refine Cj _ _ _ _ _ _ _ _ _ _ _ _ _ (aa gZ ?_);rw[aO au];simp only[wL,aK,hu',bq,fj,cJ,dI]
      by_cases h2:u.fq=p.aD[i].fq
      ·rw[aR h2]
       rw[lB h2,Bool.true_or] at h1;exact M9 _ _ _ _ _ _ _ _ _ _ _ (gO1 (hbt h1.symm))
      ·rw[aJ h2]
       rw[lH h2,HZ] at h1;exact hn2 h1
    exact keyI hb
   have akB: ∀z,ai C dF [qq p.aY,vI p.aD[i].fq] (vI z) []↔z=ie p.aY p.aD[i].fq:=fun z=>Di p.aY p.aD[i].fq au z;have an4: ∀z,ai C fP [qq p.aY,vI p.aD[i].fq] (.c (.sub 1 z)) []↔z=(gD p.aY p.aD[i].fq).map bA:=fun z=>abn (wQ p.aY p.aD[i].fq au);refine Ci _ _ _ _ _ _ _ _ (aa gZ ?_);simp only[wL,aK,ha,bq,fj,ke p.aD[i].name hv,Bg,akB,an4,gv,cX,mO,dI,cq,vU]
   cases h1:dR p.aD[i].name with
   |false=>exact ak rfl (gO1 (by simp[gy,ha,h1]))
   |true=>
    refine aa rfl ?_
    cases h2:iU p.aD[i].size 1 12 with
    |false=>exact ak rfl (gO1 (by simp[gy,ha,h2]))
    |true=>
     refine aa rfl ?_
     by_cases h3:ie p.aY p.aD[i].fq<0
     ·rw[aR h3];exact gO1 (by simp[gy,ha,h3])
     ·rw[aJ h3]
      by_cases h4:(gD p.aY p.aD[i].fq).length=0
      ·rw[aJ au]
       cases i with
       |zero=>
        rw[aJ au];exact hin _ rfl (fun e=>by simp at e) (fun e=>by simp[gy,ha,h1,h2,h3,h4,jy])
       |succ k=>
        have hk:p.aD[k]?=some p.aD[k]:=bC au;rw[aR au,eg au,show((k+1:Nat):Int)-1=(k:Int) by omega];simp only[aK,hk,bq,fj]
        cases h5:LA p.aD[k].name p.aD[k+1].name with
        |false=>exact ak rfl (gO2 (by simp[gy,ha,hk,jy,h5]))
        |true=>exact aa rfl (hin _ rfl (fun e=>by simp only[gy,ha,e];simp) (fun e=>by simp only[gy,ha,hk,jy,h5,h1,h2,e];simp[h3,h4]))
      ·rw[aR au];exact gO2 (by simp[gy,ha,h4])
 exact key rfl
theorem ago:uX 24=24:=by unfold uX;rfl
theorem g24 {n:Nat} (h:n≤1000):(true&&cO 24 24&&qC 0 24&&fits (uX 24) n)=true:=by rw[ago,bR au];simp
theorem My (p:bu) (hS:aV p≤4194304):ai C bN [fz p] (vB (qI p)) []:=by
 have hP:=fG hS;have htl:=jk p.t;refine(S4 _ _ _ _ _ _ _ ?_).run;refine⟨_,jr p.t au,?_⟩;unfold qI;generalize az p.t=L at*;have hdk:gz L≤L.length:=QD _ _
 have key: ∀c:Nat,c+gz (L.drop 0)=gz L→((List.range' 0 (L.length-0)).all (iK p L)&&decide ((fF p.cells:Int)=gz L))=(dK L.length (iK p L)&&decide ((fF p.cells:Int)=gz L))→aj C bN aP 4 0 (jW (c:Int) ((0:Nat):Int) (p.t.aA.map bA) (p.t.nodes.map bn) (p.aY.map cn) (p.cells.map cC) (p.aD.map dh) p.next (L.map bK)) (fun u st=>aH C bN aP u st fun r fs=>r=vB (dK L.length (iK p L)&&decide ((fF p.cells:Int)=gz L))∧fs=[]):=by
  refine rK L.length (fun i=> ∀c:Nat,c+gz (L.drop i)=gz L→((List.range' i (L.length-i)).all (iK p L)&&decide ((fF p.cells:Int)=gz L))=(dK L.length (iK p L)&&decide ((fF p.cells:Int)=gz L))→aj C bN aP 4 0 (jW (c:Int) i (p.t.aA.map bA) (p.t.nodes.map bn) (p.aY.map cn) (p.cells.map cC) (p.aD.map dh) p.next (L.map bK)) (fun u st=>aH C bN aP u st fun r fs=>r=vB (dK L.length (iK p L)&&decide ((fF p.cells:Int)=gz L))∧fs=[])) ?_ ?_
  ·intro c hc h0
   rw[oI] at h0;simp only[List.range'_zero,tQ,eO] at h0;rw[gu] at hc
   have hc0:c=gz L:=by simpa [gz] using hc
   subst hc0;refine Ck _ _ _ _ _ _ _ _ _ _ (ak bZ (Nc _ _ _ _ _ _ _ _ _ _ _ ⟨_,Jp p.cells au,?_⟩));rw[←h0];refine⟨?_,by trivial⟩;simp[cJ,eq_comm]
  ·intro i hi hn c hc h0
   rw[nK hi,tP] at h0;have ha:L[i]?=some L[i]:=bC hi;rw[zF hi,TQ] at hc;have gO1:iK p L i=false→aH C bN aP TX.ret (oA (p.t.aA.map bA) (p.t.nodes.map bn) (p.aY.map cn) (p.cells.map cC) (p.aD.map dh) p.next (L.map bK)) (fun r fs=>r=vB (dK L.length (iK p L)&&decide ((fF p.cells:Int)=gz L))∧fs=[]):=fun e=>Nb _ _ _ _ _ _ _ _ (by rw[←h0,e];exact dH);have gN: ∀c':Nat,c'+gz (L.drop (i+1))=gz L→iK p L i=true→aj C bN aP 4 0 (jW (c':Int) ((i:Int)+1) (p.t.aA.map bA) (p.t.nodes.map bn) (p.aY.map cn) (p.cells.map cC) (p.aD.map dh) p.next (L.map bK)) (fun u st=>aH C bN aP u st fun r fs=>r=vB (dK L.length (iK p L)&&decide ((fF p.cells:Int)=gz L))∧fs=[]):=fun c' e' e=>hn c' e' (by rw[←h0,e];rfl)
   have hin: ∀b:Bool,((L.take i).any fun x=>decide (x.k=1)&&decide (x.c=L[i].c))=b→(b=true→iK p L i=false)→(b=false→iK p L i=true)→L[i].k=1→aj C bN iR 3 2 (jX c i 0 (p.t.aA.map bA) (p.t.nodes.map bn) (p.aY.map cn) (p.cells.map cC) (p.aD.map dh) p.next (L.map bK)) (fun u st=>pY C bN aP 4 0 tO u st (fun u st=>aH C bN aP u st fun r fs=>r=vB (dK L.length (iK p L)&&decide ((fF p.cells:Int)=gz L))∧fs=[])):=by
    intro b hb hbt hbf Cu;rw[aR Cu] at hc
    have keyI:(((L.take i).drop 0).any fun x=>decide (x.k=1)&&decide (x.c=L[i].c))=b→aj C bN iR 3 2 (jX c i ((0:Nat):Int) (p.t.aA.map bA) (p.t.nodes.map bn) (p.aY.map cn) (p.cells.map cC) (p.aD.map dh) p.next (L.map bK)) (fun u st=>pY C bN aP 4 0 tO u st (fun u st=>aH C bN aP u st fun r fs=>r=vB (dK L.length (iK p L)&&decide ((fF p.cells:Int)=gz L))∧fs=[])):=by
     have hle:(L.take i).length=i:=by simp;omega
     refine bV (L.take i) (fun k=>(((L.take i).drop k).any fun x=>decide (x.k=1)&&decide (x.c=L[i].c))=b→aj C bN iR 3 2 (jX c i k (p.t.aA.map bA) (p.t.nodes.map bn) (p.aY.map cn) (p.cells.map cC) (p.aD.map dh) p.next (L.map bK)) (fun u st=>pY C bN aP 4 0 tO u st (fun u st=>aH C bN aP u st fun r fs=>r=vB (dK L.length (iK p L)&&decide ((fF p.cells:Int)=gz L))∧fs=[]))) ?_ ?_
     ·intro h1
      rw[gu] at h1;simp only[List.any_nil] at h1;refine Cl _ _ _ _ _ _ _ _ _ _ _ (ak gZ (Ng _ _ _ _ _ _ _ _ _ _ _ ?_));rw[aO au,aO au];exact gN (c+1) au (hbf h1.symm)
     ·intro k u hk hu hd zw hn2 h1
      have hu':L[k]?=some u:=by rw[←hu,zG];simp;omega
      rw[hd,List.any_cons] at h1;refine Cl _ _ _ _ _ _ _ _ _ _ _ (aa gZ ?_);rw[aO au];simp only[pZ,aK,hu',ha,bq,fj,cJ,dI]
      by_cases h3:u.k=1
      ·rw[aR h3]
       by_cases h2:u.c=L[i].c
       ·rw[aR h2]
        rw[lB h3,lB h2,Bool.and_self,Bool.true_or] at h1;exact Nf _ _ _ _ _ _ _ _ (gO1 (hbt h1.symm))
       ·rw[aJ h2]
        rw[lH h2,Bool.and_false,HZ] at h1;exact hn2 h1
      ·rw[aJ h3]
       rw[lH h3,Bool.false_and,HZ] at h1;exact hn2 h1
    exact keyI hb
   have akB: ∀z,ai C dF [qq p.aY,vI L[i].a] (vI z) []↔z=ie p.aY L[i].a:=fun z=>Di p.aY L[i].a au z;have hcell: ∀n b,ai C tJ [qt p.cells,vI L[i].c,vI L[i].g] (.tu [(0,[iI n]),(0,[iB b])]) []↔n=(cellAt p.cells L[i].c L[i].g).1∧b=(cellAt p.cells L[i].c L[i].g).2:=fun n b=>Ub p.cells au _ _ n b;refine Ck _ _ _ _ _ _ _ _ _ _ (aa gZ ?_);simp only[pZ,aK,ha,bq,fj,akB,hcell,and_assoc,exists_and_left,gv,mO,cJ,cX,dI]
   rw[aO (a:=(i:Int)) au]
   by_cases h1:ie p.aY L[i].a<0
   ·rw[aR h1];exact gO1 (by simp[iK,ha,h1])
   ·rw[aJ h1]
    by_cases h2:L[i].k=1
    ·rw[aR h2]
     cases h3:(cellAt p.cells L[i].c L[i].g).2 with
     |false=>exact ak rfl (gO1 (by simp[iK,ha,h2,h3]))
     |true=>
      refine aa rfl ?_;exact hin _ rfl (fun e=>by simp only[iK,ha,e,h2];simp) (fun e=>by simp only[iK,ha,e,h2,h3];simp[h1]) h2
    ·rw[aJ h2]
     rw[aJ h2] at hc;exact gN c au (by simp[iK,ha,h1,h2])
 exact key 0 bZ rfl
theorem Mz:ai C C9 [] (fz W7) []:=by
 refine(S5 _ ?_).run;refine⟨_,_,(SU _ dH).run,_,(Fk _ (aa (g24 au) dH)).run,?_⟩;rw[ago];exact dH
def vw (n:Int) (a:mS):Bool:=decide (a.id<n)
theorem MA (p:bu) (hS:aV p≤4194304):ai C cm [fz p] (vB ((p.aY.all (vw p.next)&&(de p.t&&(iJ p.aY&&(gK p.cells&&(iU p.next 1 61&&(nY p&&qI p)))))))) []:=by
 refine(U1 _ _ _ _ _ _ _ ?_).run;have hP:=fG hS;have htl:=jk p.t
 have key:((p.aY.drop 0).all (vw p.next)&&(de p.t&&(iJ p.aY&&(gK p.cells&&(iU p.next 1 61&&(nY p&&qI p))))))=(p.aY.all (vw p.next)&&(de p.t&&(iJ p.aY&&(gK p.cells&&(iU p.next 1 61&&(nY p&&qI p))))))→aj C cm aG 4 0 (mX ((0:Nat):Int) (p.t.aA.map bA) (p.t.nodes.map bn) (p.aY.map cn) (p.cells.map cC) (p.aD.map dh) p.next) (fun u st=>aH C cm aG u st fun r fs=>r=vB ((p.aY.all (vw p.next)&&(de p.t&&(iJ p.aY&&(gK p.cells&&(iU p.next 1 61&&(nY p&&qI p)))))))∧fs=[]):=by
  refine bV p.aY (fun i=>((p.aY.drop i).all (vw p.next)&&(de p.t&&(iJ p.aY&&(gK p.cells&&(iU p.next 1 61&&(nY p&&qI p))))))=(p.aY.all (vw p.next)&&(de p.t&&(iJ p.aY&&(gK p.cells&&(iU p.next 1 61&&(nY p&&qI p))))))→aj C cm aG 4 0 (mX i (p.t.aA.map bA) (p.t.nodes.map bn) (p.aY.map cn) (p.cells.map cC) (p.aD.map dh) p.next) (fun u st=>aH C cm aG u st fun r fs=>r=vB ((p.aY.all (vw p.next)&&(de p.t&&(iJ p.aY&&(gK p.cells&&(iU p.next 1 61&&(nY p&&qI p)))))))∧fs=[])) ?_ ?_
  ·intro h0
   refine Fi _ _ _ _ _ _ _ _ (ak bZ (PJ _ _ _ _ _ _ _ _ _ ?_));rw[gu] at h0;simp only[tQ,eO] at h0;rw[←h0];refine⟨_,sj p.t au,?_⟩
   cases h1:de p.t with
   |false=>exact ak rfl dH
   |true=>
    refine aa rfl ⟨_,(Ue p.aY au (iJ p.aY)).2 rfl,?_⟩
    cases h2:iJ p.aY with
    |false=>exact ak rfl dH
    |true=>
     refine aa rfl ⟨_,(yO p.cells au (gK p.cells)).2 rfl,?_⟩
     cases h3:gK p.cells with
     |false=>exact ak rfl dH
     |true=>
      refine aa rfl ⟨_,mB p.next 1 61,?_⟩
      cases h4:iU p.next 1 61 with
      |false=>exact ak rfl dH
      |true=>
       refine aa rfl ⟨_,Mx p hS,?_⟩
       cases h5:nY p with
       |false=>exact ak rfl dH
       |true=>exact aa rfl ⟨_,My p hS,dH⟩
  ·intro i a hi ha hd zw hn h0
   have gO:(vw p.next) a=false→(p.aY.all (vw p.next)&&(de p.t&&(iJ p.aY&&(gK p.cells&&(iU p.next 1 61&&(nY p&&qI p))))))=false:=fun e=>by rw[←h0,hd];simp[e]
   have gN:(vw p.next) a=true→aj C cm aG 4 0 (mX ((i:Int)+1) (p.t.aA.map bA) (p.t.nodes.map bn) (p.aY.map cn) (p.cells.map cC) (p.aD.map dh) p.next) (fun u st=>aH C cm aG u st fun r fs=>r=vB ((p.aY.all (vw p.next)&&(de p.t&&(iJ p.aY&&(gK p.cells&&(iU p.next 1 61&&(nY p&&qI p)))))))∧fs=[]):=fun e=>hn (by rw[←h0,hd];simp[e]);refine Fi _ _ _ _ _ _ _ _ (aa gZ ?_);simp only[F5,aK,ha,bq,fj,nJ,dI];rw[aO au]
   by_cases h1:p.next≤a.id
   ·rw[aR h1];exact PI _ _ _ _ _ _ _ (by rw[gO (by simp[vw];omega)];exact dH)
   ·rw[aJ h1];exact gN (by simp[vw];omega)
 exact key rfl
theorem fZ (p:bu) (hS:aV p≤4194304):ai C cm [fz p] (vB (cK p)) []:=MA p hS
theorem MB (p:bu) (hS:aV p≤4194304) (i b:Int) (v:oO) (hv:ew p.aD i=some v) (hb:0≤b∧b<v.size) (hm:v.size≤9223372036854775807):ai C uA [fz p,vI i,vI b] (vI (r8 p i b)) []:=by
 have hP:=fG hS
 have hi:0≤i∧i<p.aD.length:=by
  apply Classical.byContradiction
  intro hn;rw[gh hn] at hv
  cases hv
 have hq:r8 p i b=if(o9 p.t p.aY b v.fq).2=true∧(o9 p.t p.aY b v.fq).1.k=1 then(cellAt p.cells (o9 p.t p.aY b v.fq).1.c (o9 p.t p.aY b v.fq).1.g).1 else 0:=by
  unfold r8;rw[hv];exact aR hb
 have inT:iU i 0 (dy (Int.ofNat (p.aD.map dh).length) 1)=true:=by
  rw[eg gZ];simp[iU];omega
 have inT2:iU b 0 (dy v.size 1)=true:=by
  rw[eg au];simp[iU];omega
 refine(SY _ _ _ _ _ _ _ _ _ ?_).run;refine⟨_,mB _ _ _,ak (by rw[inT];rfl) (ak gZ ?_)⟩;simp only[wL,hv,bq,fj];refine ak gZ ?_;refine⟨(vI (r8 p i b),[]),?_,?_,dH⟩
 ·refine⟨_,_,_,_,_,_,Bh p.t p.aY b v.fq au au,?_⟩
  cases h1:(o9 p.t p.aY b v.fq).2 with
  |false=>exact aa rfl (by rw[hq];simp[h1])
  |true=>
   refine ak rfl ?_
   by_cases h2:(o9 p.t p.aY b v.fq).1.k=1
   ·exact ak (by simp[h2]) ⟨_,_,wP p.cells _ _ au,by rw[hq,aR ⟨h1,h2⟩]⟩
   ·exact aa (by simp[h2]) (by rw[hq,aJ (fun h=>h2 h.2)])
 ·refine⟨_,_,_,_,_,_,Bh p.t p.aY b v.fq au au,?_⟩
  cases h1:(o9 p.t p.aY b v.fq).2 with
  |false=>exact aa rfl (by rw[hq];simp[h1])
  |true=>
   refine ak rfl ?_
   by_cases h2:(o9 p.t p.aY b v.fq).1.k=1
   ·exact ak (by simp[h2]) ⟨_,_,wP p.cells _ _ au,by rw[hq,aR ⟨h1,h2⟩]⟩
   ·exact aa (by simp[h2]) (by rw[hq,aJ (fun h=>h2 h.2)])
theorem Ow (p:bu) (hS:aV p≤4194304) (hz: ∀v∈p.aD,v.size≤9223372036854775807):ai C cz [fz p] (cM (nZ p)) []:=by
 have hP:=fG hS;refine(Vh _ _ _ _ _ _ _ ?_).run
 have key: ∀acc:List Mp,acc++mu p 0 (p.aD.drop 0)=nZ p→aj C cz ah 4 0 (jF ((0:Nat):Int) (p.t.aA.map bA) (p.t.nodes.map bn) (p.aY.map cn) (p.cells.map cC) (p.aD.map dh) p.next (acc.map dA)) (fun u st=>aH C cz ah u st fun r fs=>r=cM (nZ p)∧fs=[]):=by
  refine bV p.aD (fun i=> ∀acc:List Mp,acc++mu p i (p.aD.drop i)=nZ p→aj C cz ah 4 0 (jF i (p.t.aA.map bA) (p.t.nodes.map bn) (p.aY.map cn) (p.cells.map cC) (p.aD.map dh) p.next (acc.map dA)) (fun u st=>aH C cz ah u st fun r fs=>r=cM (nZ p)∧fs=[])) ?_ ?_
  ·intro acc h0
   rw[gu] at h0;simp only[mu,m0] at h0;subst h0;exact Fu _ _ _ _ _ _ _ _ _ (ak bZ (P4 _ _ _ _ _ _ _ _ _ _ dH))
  ·intro i v hi hv hd zw hn acc h0
   rw[hd] at h0;simp only[mu] at h0;have hzv:=hz v (iV hv)
   have hal:acc.length+(mu p (i+1) (p.aD.drop (i+1))).length+1=p.aD.length:=by
    have:=congrArg List.length h0;rw[I3,ct,gG] at this;omega
   have hgo:aj C cz ah 4 0 (jF ((i:Int)+1) (p.t.aA.map bA) (p.t.nodes.map bn) (p.aY.map cn) (p.cells.map cC) (p.aD.map dh) p.next ((acc++[wM p i v]).map dA)) (fun u st=>aH C cz ah u st fun r fs=>r=cM (nZ p)∧fs=[]):=hn (acc++[wM p i v]) (by rw[tT];exact h0);have ag3: ∀k:Nat,(k:Int)<v.size→ai C uA [fz p,vI i,vI k] (vI (r8 p i k)) []:=fun k hk=>MB p hS i k v (by rw[aK];exact hv) au hzv
   have hst: ∀m k:Nat,k+m=min v.size.toNat 12→1≤k→aj C cz ou 3 2 (sG i k (p.t.aA.map bA) (p.t.nodes.map bn) (p.aY.map cn) (p.cells.map cC) (p.aD.map dh) p.next v.name v.fx (acc.map dA) ((blocks p i k).map bA)) (fun u st=>pY C cz ah 4 0 Gw u st (fun u st=>aH C cz ah u st fun r fs=>r=cM (nZ p)∧fs=[])):=by
    intro m
    induction m with
    |zero=>
     intro k hk h1
     have e:wM p i v=⟨v.name,v.fx,blocks p i k⟩:=by rw[tW] at hk;rw[hk];rfl
     rw[e] at hgo;refine Fv _ _ _ _ _ _ _ _ _ _ _ _ _ ?_;simp only[wL,aK,hv,bq,fj]
     by_cases h2:(k:Int)<v.size
     ·refine aa gZ (ak gZ (P6 _ _ _ _ _ _ _ _ _ _ _ _ _ (aa (bR gZ) ?_)))
      rw[aO au,xH];exact hgo
     ·refine ak gZ (P7 _ _ _ _ _ _ _ _ _ _ _ _ _ (aa (bR gZ) ?_))
      rw[aO au,xH];exact hgo
    |succ m ih=>
     intro k hk h1;refine Fv _ _ _ _ _ _ _ _ _ _ _ _ _ ?_;simp only[wL,aK,hv,bq,fj];refine aa gZ (aa gZ ⟨_,ag3 k au,aa ?_ ?_⟩)
     ·rw[bR (by simp[I2];omega),CV];rfl
     ·rw[aO au,CW,←NV]
      exact ih (k+1) au au
   refine Fu _ _ _ _ _ _ _ _ _ (aa gZ ?_);simp only[wL,aK,hv,bq,fj];refine P3 _ _ _ _ _ _ _ _ _ _ _ ?_;simp only[wL,aK,hv,bq,fj]
   by_cases h2:0<v.size
   ·refine aa gZ (aa bZ ⟨_,ag3 0 au,aa ?_ ?_⟩)
    ·rw[bR au,CV];rfl
    ·have h3:=hst (min v.size.toNat 12-1) 1 au au
     rw[aO au];exact h3
   ·have e:wM p i v=⟨v.name,v.fx,[]⟩:=by
     have:min v.size.toNat 12=0:=by omega
     unfold wM;rw[this];rfl
    rw[e] at hgo;refine ak gZ (P5 _ _ _ _ _ _ _ _ _ _ _ (aa (bR gZ) ?_));rw[aO au];have e2:List.append (acc.map dA) [[iS v.name,iB v.fx,TC.sub 1 []]]=(acc++[(⟨v.name,v.fx,[]⟩:Mp)]).map dA:=xH (r:=[]);rw[e2];exact hgo
 exact key [] rfl
theorem MC (p:bu) (hS:aV p≤4194304) (i b:Int) (v:oO) (hv:ew p.aD i=some v) (hb:0≤b∧b<v.size) (hm:v.size≤9223372036854775807):ai C uz [fz p,vI i,vI b] (vI (r8 p i b)) []:=by
 have hP:=fG hS
 have hi:0≤i∧i<p.aD.length:=by
  apply Classical.byContradiction
  intro hn;rw[gh hn] at hv
  cases hv
 have hq:r8 p i b=if(o9 p.t p.aY b v.fq).2=true∧(o9 p.t p.aY b v.fq).1.k=1 then(cellAt p.cells (o9 p.t p.aY b v.fq).1.c (o9 p.t p.aY b v.fq).1.g).1 else 0:=by
  unfold r8;rw[hv];exact aR hb
 have inT:iU i 0 (dy (Int.ofNat (p.aD.map dh).length) 1)=true:=by
  rw[eg gZ];simp[iU];omega
 have inT2:iU b 0 (dy v.size 1)=true:=by
  rw[eg au];simp[iU];omega
 refine(SR _ _ _ _ _ _ _ _ _ ?_).run;refine⟨_,sW _ _ _,ak (by rw[inT];rfl) ?_⟩;simp only[wL,hv,bq,fj];refine⟨_,sW _ _ _,ak (by rw[inT2];rfl) ?_⟩;refine⟨(vI (r8 p i b),[]),?_,?_,dH⟩
 ·refine⟨_,_,_,_,_,_,Ir p.t p.aY b v.fq au au,?_⟩
  cases h1:(o9 p.t p.aY b v.fq).2 with
  |false=>exact aa rfl (by rw[hq];simp[h1])
  |true=>
   refine ak rfl ?_
   by_cases h2:(o9 p.t p.aY b v.fq).1.k=1
   ·exact ak (by simp[h2]) ⟨_,_,DD p.cells _ _ au,by rw[hq,aR ⟨h1,h2⟩]⟩
   ·exact aa (by simp[h2]) (by rw[hq,aJ (fun h=>h2 h.2)])
 ·refine⟨_,_,_,_,_,_,Ir p.t p.aY b v.fq au au,?_⟩
  cases h1:(o9 p.t p.aY b v.fq).2 with
  |false=>exact aa rfl (by rw[hq];simp[h1])
  |true=>
   refine ak rfl ?_
   by_cases h2:(o9 p.t p.aY b v.fq).1.k=1
   ·exact ak (by simp[h2]) ⟨_,_,DD p.cells _ _ au,by rw[hq,aR ⟨h1,h2⟩]⟩
   ·exact aa (by simp[h2]) (by rw[hq,aJ (fun h=>h2 h.2)])
theorem Ox (p:bu) (hS:aV p≤4194304) (hz: ∀v∈p.aD,v.size≤9223372036854775807):ai C cw [fz p] (cM (nZ p)) []:=by
 have hP:=fG hS;refine(UW _ _ _ _ _ _ _ ?_).run
 have key: ∀acc:List Mp,acc++mu p 0 (p.aD.drop 0)=nZ p→aj C cw ah 4 0 (jE (p.aD.map dh) (Int.ofNat (p.aD.map dh).length) ((0:Nat):Int) (p.t.aA.map bA) (p.t.nodes.map bn) (p.aY.map cn) (p.cells.map cC) p.next (acc.map dA)) (fun u st=>aH C cw ah u st fun r fs=>r=cM (nZ p)∧fs=[]):=by
  refine bV p.aD (fun i=> ∀acc:List Mp,acc++mu p i (p.aD.drop i)=nZ p→aj C cw ah 4 0 (jE (p.aD.map dh) (Int.ofNat (p.aD.map dh).length) i (p.t.aA.map bA) (p.t.nodes.map bn) (p.aY.map cn) (p.cells.map cC) p.next (acc.map dA)) (fun u st=>aH C cw ah u st fun r fs=>r=cM (nZ p)∧fs=[])) ?_ ?_
  ·intro acc h0
   rw[gu] at h0;simp only[mu,m0] at h0;subst h0;exact Fc _ _ _ _ _ _ _ _ _ _ (ak bZ (PA _ _ _ _ _ _ _ _ _ _ _ dH))
  ·intro i v hi hv hd zw hn acc h0
   rw[hd] at h0;simp only[mu] at h0;have hzv:=hz v (iV hv)
   have hal:acc.length+(mu p (i+1) (p.aD.drop (i+1))).length+1=p.aD.length:=by
    have:=congrArg List.length h0;rw[I3,ct,gG] at this;omega
   have hgo:aj C cw ah 4 0 (jE (p.aD.map dh) (Int.ofNat (p.aD.map dh).length) ((i:Int)+1) (p.t.aA.map bA) (p.t.nodes.map bn) (p.aY.map cn) (p.cells.map cC) p.next ((acc++[wM p i v]).map dA)) (fun u st=>aH C cw ah u st fun r fs=>r=cM (nZ p)∧fs=[]):=hn (acc++[wM p i v]) (by rw[tT];exact h0);have ag3: ∀k:Nat,(k:Int)<v.size→ai C uz [fz p,vI i,vI k] (vI (r8 p i k)) []:=fun k hk=>MC p hS i k v (by rw[aK];exact hv) au hzv
   have hst: ∀m k:Nat,k+m=min v.size.toNat 12→1≤k→aj C cw lT 3 2 (sF i k (p.aD.map dh) (Int.ofNat (p.aD.map dh).length) (p.t.aA.map bA) (p.t.nodes.map bn) (p.aY.map cn) (p.cells.map cC) p.next v.name v.fq v.size v.fx (acc.map dA) ((blocks p i k).map bA)) (fun u st=>pY C cw ah 4 0 yX u st (fun u st=>aH C cw ah u st fun r fs=>r=cM (nZ p)∧fs=[])):=by
    intro m
    induction m with
    |zero=>
     intro k hk h1
     have e:wM p i v=⟨v.name,v.fx,blocks p i k⟩:=by rw[tW] at hk;rw[hk];rfl
     rw[e] at hgo;refine Fe _ _ _ _ _ _ _ _ _ _ _ _ _ _ _ _ ?_
     by_cases h2:(k:Int)<v.size
     ·refine aa gZ (ak gZ (PC _ _ _ _ _ _ _ _ _ _ _ _ _ _ _ _ (aa (bR gZ) ?_)))
      rw[aO au,xH];exact hgo
     ·refine ak gZ (PD _ _ _ _ _ _ _ _ _ _ _ _ _ _ _ _ (aa (bR gZ) ?_))
      rw[aO au,xH];exact hgo
    |succ m ih=>
     intro k hk h1;refine Fe _ _ _ _ _ _ _ _ _ _ _ _ _ _ _ _ ?_;refine aa gZ (aa gZ ⟨_,ag3 k au,aa ?_ ?_⟩)
     ·rw[bR (by simp[I2];omega),CV];rfl
     ·rw[aO au,CW,←NV]
      exact ih (k+1) au au
   refine Fc _ _ _ _ _ _ _ _ _ _ (aa gZ ?_);simp only[wL,aK,hv,bq,fj];refine Pz _ _ _ _ _ _ _ _ _ _ _ _ _ _ ?_
   by_cases h2:0<v.size
   ·refine aa gZ (aa bZ ⟨_,ag3 0 au,aa ?_ ?_⟩)
    ·rw[bR au,CV];rfl
    ·have h3:=hst (min v.size.toNat 12-1) 1 au au
     rw[aO au];exact h3
   ·have e:wM p i v=⟨v.name,v.fx,[]⟩:=by
     have:min v.size.toNat 12=0:=by omega
     unfold wM;rw[this];rfl
    rw[e] at hgo;refine ak gZ (PB _ _ _ _ _ _ _ _ _ _ _ _ _ _ (aa (bR gZ) ?_));rw[aO au];have e2:List.append (acc.map dA) [[iS v.name,iB v.fx,TC.sub 1 []]]=(acc++[(⟨v.name,v.fx,[]⟩:Mp)]).map dA:=xH (r:=[]);rw[e2];exact hgo
 exact key [] rfl
theorem FB (l m:List (Int)) (hl:l.length≤1073741824) (he:l.length=m.length):ai C c6 [nq l,nq m] (vB ((dK l.length (kz jl l m)))) []:=by
 refine(zn _ _ _ ?_).run;refine ak (by simp[he]) ?_
 have key:((List.range' 0 (l.length-0)).all (kz jl l m))=(dK l.length (kz jl l m))→aj C c6 ah 4 0 (jd (l.map bA) (m.map bA) ((0:Nat):Int)) (fun u st=>aH C c6 ah u st fun r fs=>r=vB ((dK l.length (kz jl l m)))∧fs=[]):=by
  refine rK (l.length) (fun i=>((List.range' i (l.length-i)).all (kz jl l m))=(dK l.length (kz jl l m))→aj C c6 ah 4 0 (jd (l.map bA) (m.map bA) i) (fun u st=>aH C c6 ah u st fun r fs=>r=vB ((dK l.length (kz jl l m)))∧fs=[])) ?_ ?_
  ·intro h0
   refine wG _ _ _ _ (ak bZ (G3 _ _ _ _ _ _ ?_));rw[oI] at h0;simp only[List.range'_zero,tQ,eO] at h0;rw[←h0];exact dH
  ·intro i hi hn h0
   rw[nK hi,tP] at h0;have ha:l[i]?=some l[i]:=bC hi
   have gO:(kz jl l m) i=false→(dK l.length (kz jl l m))=false:=fun e=>by rw[←h0,e];rfl
   have gN:(kz jl l m) i=true→aj C c6 ah 4 0 (jd (l.map bA) (m.map bA) ((i:Int)+1)) (fun u st=>aH C c6 ah u st fun r fs=>r=vB ((dK l.length (kz jl l m)))∧fs=[]):=fun e=>hn (by rw[←h0,e];rfl);refine wG _ _ _ _ (aa gZ ?_);have hb:m[i]?=some m[i]:=bC au;have e:kz jl l m i=jl l[i] m[i]:=BG ha hb;simp only[yA,aK,ha,hb,bq,fj];rw[aO au]
   cases h1:jl l[i] m[i] with
   |false=>exact aa (show(!jl l[i] m[i])=true by rw[h1];rfl) (G2 _ (by rw[gO (by rw[e];exact h1)];exact dH))
   |true=>exact ak (show(!jl l[i] m[i])=false by rw[h1];rfl) (gN (by rw[e];exact h1))
 exact key rfl
theorem Gr (l m:List (Int)) (hl:l.length≤1073741824):ai C c6 [nq l,nq m] (vB (Zg jl l m)) []:=by
 by_cases he:l.length=m.length
 ·rw[RA he];exact FB l m hl he
 ·rw[W8 he]
  refine(zn _ _ _ (aa gZ ?_)).run;exact dH
theorem wT (l:List Cell) (hl:l.length≤1073741824):ai C ko [qt l] (qt l) []:=by
 refine(U9 _ _ ?_).run;rw[show bF (l.map cC)=true from by simp[Rw],bR gZ];exact dH
theorem uK (l:List Cell) (i:Int) (hl:l.length≤1073741824):ai C rQ [qt l,vI i] (qt (lD l i)) []:=by
 refine(PT _ _ _ ⟨_,wT l hl,_,(yO l hl (gK l)).2 rfl,?_⟩).run
 cases h1:gK l with
 |false=>exact ak rfl ⟨by rw[W9 h1],by trivial⟩
 |true=>
  refine aa rfl ⟨_,mB _ _ _,?_⟩
  (try dsimp only)
  rw[cq,show dy (Int.ofNat l.length) 1=(l.length:Int)-1 from eg gZ]
  by_cases h2:0≤i∧i<l.length
  ·obtain⟨c,hc⟩:=eT h2.1 h2.2
   refine aa (by simp[iU];omega) ?_;simp only[um,hc,bq,fj]
   cases h3:c.u with
   |false=>exact ak rfl ⟨by rw[Zh hc h3],by trivial⟩
   |true=>
    refine aa rfl (ak bZ ?_);simp only[um,hc,bq,fj,ahV];exact⟨by rw[Xc hc h1 h3],by trivial⟩
  ·exact ak (by simp[iU];omega) ⟨by rw[TT (gh h2)],by trivial⟩
theorem uL (l:List Cell) (n:Int) (hl:l.length≤1073741824):ai C dQ [qt l,vI n] (ajZ (jM l n)) []:=by
 refine(PO _ _ _ ⟨_,wT l hl,?_⟩).run
 have key:fW Mb (l.drop 0) ((0:Nat):Int)=jS l→aj C dQ ah 4 0 (nD (l.map cC) n ((0:Nat):Int) (l.map cC)) (fun u st=>aH C dQ ah u st fun r fs=>r=ajZ (jM l n)∧fs=[]):=by
  refine bV l (fun i=>fW Mb (l.drop i) (i:Int)=jS l→aj C dQ ah 4 0 (nD (l.map cC) n i (l.map cC)) (fun u st=>aH C dQ ah u st fun r fs=>r=ajZ (jM l n)∧fs=[])) ?_ ?_
  ·intro h0
   rw[gu] at h0;simp only[fW] at h0;exact AO _ _ _ _ _ (ak bZ (AP _ _ _ _ _ ⟨by rw[wg (fun h=>by omega)],by trivial⟩))
  ·intro i a hi ha hd zw hn h0
   rw[hd] at h0;simp only[fW] at h0;refine AO _ _ _ _ _ (aa gZ ⟨_,(yO l hl (gK l)).2 rfl,?_⟩)
   cases h2:gK l with
   |false=>exact ak rfl (AP _ _ _ _ _ ⟨by rw[wg (fun h=>by rw[h2] at h;cases h.1)],by trivial⟩)
   |true=>
    refine aa rfl ⟨_,(rU n (jj n)).2 rfl,?_⟩
    cases h1:jj n with
    |false=>exact ak rfl (Lj _ _ _ _ _ _ ⟨by rw[wg (fun h=>by rw[h1] at h;cases h.2.1)],by trivial⟩)
    |true=>
     refine aa rfl ?_
     have hc:ew l (i:Int)=some a:=by rw[aK];exact ha
     simp only[um,hc,bq,fj];rw[aO au]
     cases h3:a.u with
     |false=>
      rw[aR (by simp[Mb,h3])] at h0;refine aa rfl ?_;simp only[um,adC,adD,hc,afJ,Zc,bq,fj,mod_mod];refine Li _ _ _ ⟨?_,by trivial⟩;rw[CY ⟨h2,h1,by omega⟩,←h0]
     |true=>rw[aJ (by simp[Mb,h3])] at h0;exact ak rfl (hn h0)
 exact key rfl
theorem kr (l:List Mp) (s:ByteArray) (hl:l.length≤1073741824):ai C fH [cM l,vS s] (vI (fX l s)) []:=by
 refine(X4 _ _ _ ?_).run
 have key:fW (fun m:Mp=>decide (m.name=s)) (l.drop 0) ((0:Nat):Int)=fW (fun m:Mp=>decide (m.name=s)) l 0→aj C fH aG 4 0 (qB (l.map dA) s ((0:Nat):Int)) (fun u st=>aH C fH aG u st fun r fs=>r=vI (fX l s)∧fs=[]):=by
  refine bV l (fun i=>fW (fun m:Mp=>decide (m.name=s)) (l.drop i) (i:Int)=fW (fun m:Mp=>decide (m.name=s)) l 0→aj C fH aG 4 0 (qB (l.map dA) s i) _) ?_ ?_
  ·intro h0
   refine G1 _ _ _ _ (ak bZ (Ti _ _ _ _ _ ?_));rw[gu] at h0;simp only[fW] at h0;change _=vI (fW (fun m:Mp=>decide (m.name=s)) l 0)∧_;rw[←h0];exact dH
  ·intro i a hi ha hd zw hn h0
   refine G1 _ _ _ _ (aa gZ ?_);rw[hd] at h0;simp only[fW] at h0;simp only[yB,W4,dI,aK,ha,bq,fj,gv,cX,gJ,jH,fA,gL,fo,gM,gP,jI,dL,natAdd,cq,ct,ic,eO,mJ];rw[aO au]
   split at h0
   ·rename_i hp
    have hp:=th hp
    first|rw[aR hp]|rw[aR hp.symm]
    refine Th _ _ ?_;rw[h0];exact dH
   ·rename_i hp
    have hp: ¬_:=fun h=>hp (lB h)
    first|rw[aJ hp]|rw[aJ (fun h=>hp h.symm)]
    exact hn h0
 exact key rfl
@[simp] theorem Se (n:ByteArray) (f:Bool) (r:RR) (s:ByteArray) (q:Bool):ai C xR [.ag [iS n,iB f,.sub 1 r],.bx [iS s]] (vB q) []↔q=decide (n=s):=zA (by
  refine(To _ _ _ _ _ ?_).run
  simp)
theorem Uf (l:List Mp) (s:ByteArray) (hl:l.length≤1073741824):ai C dm [cM l,.fn xR [[iS s]]] (vI (fX l s)) []:=by
 refine(rY _ _ _ ?_).run
 have key:fW (fun m:Mp=>decide (m.name=s)) (l.drop 0) ((0:Nat):Int)=fW (fun m:Mp=>decide (m.name=s)) l 0→aj C dm aG 4 0 (dO (l.map dA) ((0:Nat):Int) s) (fun u st=>aH C dm aG u st fun r fs=>r=vI (fX l s)∧fs=[]):=by
  refine bV l (fun i=>fW (fun m:Mp=>decide (m.name=s)) (l.drop i) (i:Int)=fW (fun m:Mp=>decide (m.name=s)) l 0→aj C dm aG 4 0 (dO (l.map dA) i s) _) ?_ ?_
  ·intro h0
   refine kV _ _ _ _ (ak bZ (q7 _ _ _ _ _ _ ?_));rw[gu] at h0;simp only[fW] at h0;change _=vI (fW (fun m:Mp=>decide (m.name=s)) l 0)∧_;rw[←h0];exact dH
  ·intro i a hi ha hd zw hn h0
   refine kV _ _ _ _ (aa gZ ?_);rw[hd] at h0;simp only[fW] at h0;simp only[yB,cJ,Se,dI,aK,ha,bq,fj,gv,cX,gJ,jH,fA,gL,fo,gM,gP,jI,dL,natAdd,cq,ct,ic,eO,mJ];rw[aO au]
   split at h0
   ·rename_i hp
    have hp:=th hp
    first|rw[aR hp]|rw[aR hp.symm]
    refine qZ _ _ _ ?_;rw[h0];exact dH
   ·rename_i hp
    have hp: ¬_:=fun h=>hp (lB h)
    first|rw[aJ hp]|rw[aJ (fun h=>hp h.symm)]
    exact hn h0
 exact key rfl
theorem oq (l:List Mp) (s:ByteArray) (hl:l.length≤1073741824):ai C oR [cM l,vS s] (vI (fX l s)) []:=(X3 _ _ _ ⟨_,Uf l s hl,rfl,by trivial⟩).run
theorem MD (o:Kq):ai C oT [.ag (NS o)] (vB (RC o)) []:=by
 refine(SS _ _ _ _ _ _ ?_).run;simp only[Bg,gv,nJ,cJ,W4,dI,cX];unfold RC
 (repeat' split)<;>simp_all<;>omega
theorem Sf (k:Int) (s t:ByteArray) (a b:Int) (q:Bool):ai C oT [.ag [iI k,iS s,iS t,iI a,iI b]] (vB q) []↔q=RC ⟨k,s,t,a,b⟩:=zA (MD ⟨k,s,t,a,b⟩)
theorem Iu (o:Kq) (h1:o.name.size≤140737488355328) (h2:o.to.size≤140737488355328):ai C HF [.ag (NS o)] (vB (TU o)) []:=by
 obtain⟨k,s,t,a,b⟩:=o;refine(aaq _ _ _ _ _ _ ?_).run;simp only[Bg,ke s h1,ke t h2,rU,Sf,gv,nJ,cJ,W4,dI,cX];unfold TU opName alq;simp only[];generalize RC ⟨k,s,t,a,b⟩=z;generalize dR s=x;generalize dR t=y;generalize jj a=u;generalize jj b=v;generalize iU k 1 9=w
 by_cases p1:7≤k<;>by_cases p2:k=2<;>by_cases p3:s=lX<;>by_cases p4:t=lX<;>first
  |omega
  |(simp only[p1,p2,p3,p4,if_true,if_false,decide_true,decide_false,reduceIte]
    cases w<;>(try simp only[ry,Dz,eO,Bool.false_and])<;>cases x<;>cases y<;>cases u<;>cases v<;>(try simp only[ry,Dz,mJ,Bool.and_false,eO,Bool.false_and])<;>(first|exact dH|simp))
theorem ME (x y:Mp) (hx:x.l.length≤1073741824):ai C xQ [.ag (dA x),.ag (dA y)] (vB (jm x y)) []:=by
 refine(Tn _ _ _ _ _ _ _ ?_).run;unfold jm
 cases h1:FE x.name y.name with
 |false=>exact ak rfl dH
 |true=>
  refine aa rfl ?_
  cases h2:eqB x.fx y.fx with
  |false=>exact ak rfl dH
  |true=>exact aa rfl ⟨_,Gr x.l y.l hx,dH⟩
theorem qx (l m:List (Mp)) (hl:l.length≤1073741824) (he:l.length=m.length) (hs: ∀x∈l,x.l.length≤1073741824):ai C bW [cM l,cM m,.fn 92 []] (vB ((dK l.length (kz jm l m)))) []:=by
 refine(lO _ _ _ ?_).run;refine ak (by simp[he]) ?_
 have key:((List.range' 0 (l.length-0)).all (kz jm l m))=(dK l.length (kz jm l m))→aj C bW ah 4 0 (cU (m.map dA) (l.map dA) ((0:Nat):Int)) (fun u st=>aH C bW ah u st fun r fs=>r=vB ((dK l.length (kz jm l m)))∧fs=[]):=by
  refine rK (l.length) (fun i=>((List.range' i (l.length-i)).all (kz jm l m))=(dK l.length (kz jm l m))→aj C bW ah 4 0 (cU (m.map dA) (l.map dA) i) (fun u st=>aH C bW ah u st fun r fs=>r=vB ((dK l.length (kz jm l m)))∧fs=[])) ?_ ?_
  ·intro h0
   refine kU _ _ _ _ (ak bZ (qY _ _ _ _ _ _ ?_));rw[oI] at h0;simp only[List.range'_zero,tQ,eO] at h0;rw[←h0];exact dH
  ·intro i hi hn h0
   rw[nK hi,tP] at h0;have ha:l[i]?=some l[i]:=bC hi
   have gO:(kz jm l m) i=false→(dK l.length (kz jm l m))=false:=fun e=>by rw[←h0,e];rfl
   have gN:(kz jm l m) i=true→aj C bW ah 4 0 (cU (m.map dA) (l.map dA) ((i:Int)+1)) (fun u st=>aH C bW ah u st fun r fs=>r=vB ((dK l.length (kz jm l m)))∧fs=[]):=fun e=>hn (by rw[←h0,e];rfl);refine kU _ _ _ _ (aa gZ ?_);have hb:m[i]?=some m[i]:=bC au;have e:kz jm l m i=jm l[i] m[i]:=BG ha hb;have amh: ∀q,ai C xQ [.ag [iS l[i].name,iB l[i].fx,.sub 1 (l[i].l.map bA)],.ag [iS m[i].name,iB m[i].fx,.sub 1 (m[i].l.map bA)]] (vB q) []↔q=jm l[i] m[i]:=fun q=>zA (ME _ _ (hs _ (tV hi)))
   simp only[yB,aK,ha,hb,bq,fj,amh,gv];rw[aO au]
   cases h1:jm l[i] m[i] with
   |false=>exact aa rfl (qX _ _ _ _ _ _ _ (by rw[gO (by rw[e];exact h1)];exact dH))
   |true=>exact ak rfl (gN (by rw[e];exact h1))
 exact key rfl
theorem qM (l m:List (Mp)) (hl:l.length≤1073741824) (hs: ∀x∈l,x.l.length≤1073741824):ai C bW [cM l,cM m,.fn 92 []] (vB (Zg jm l m)) []:=by
 by_cases he:l.length=m.length
 ·rw[RA he];exact qx l m hl he hs
 ·rw[W8 he]
  refine(lO _ _ _ (aa gZ ?_)).run;exact dH
theorem KR (l m:List Mp) (hl:l.length≤1073741824) (hs: ∀x∈l,x.l.length≤1073741824):ai C vN [cM l,cM m] (vB (Zg jm l m)) []:=by
 refine(P2 _ _ _ ?_).run;exact⟨_,qM l m hl hs,dH⟩
theorem Ap (l:List Int) (hl:l.length≤1073741824):ai C vO [nq l] (nq l) []:=by
 refine(Pu _ _ ?_).run;rw[show bF (l.map bA)=true from iG _,bR gZ];exact dH
theorem ia (l:List Mp) (hl:l.length≤1073741824) (hs: ∀x∈l,x.l.length≤1073741824):ai C dM [cM l] (cM l) []:=by
 refine(Tl _ _ ?_).run
 have key:aj C dM ah 4 0 (oB (l.map dA) ((0:Nat):Int) ((l.take 0).map dA)) (fun u st=>aH C dM ah u st fun r fs=>r=cM l∧fs=[]):=by
  refine bV l (fun i=>aj C dM ah 4 0 (oB (l.map dA) i ((l.take i).map dA)) (fun u st=>aH C dM ah u st fun r fs=>r=cM l∧fs=[])) ?_ ?_
  ·rw[rj]
   exact Co _ _ _ _ (ak bZ (Ns _ _ _ _ _ dH))
  ·intro i a hi ha hd zw hn
   have hsa:=hs a (iV ha);rw[zw] at hn;refine Co _ _ _ _ (aa gZ ?_);simp only[yB,aK,ha,bq,fj];rw[show bF (a.l.map bA)=true from iG _,bR (n:=Nat.add 0 _) gZ,Bool.and_self];refine aa rfl (aa (bR gZ) ?_);rw[aO au,xH];exact hn
 exact key
theorem cZ (l:List Mp) (hl:l.length≤1073741824) (hs: ∀x∈l,x.l.length≤1073741824):ai C bP [cM l] (cM l) []:=by
 refine(P8 _ _ ?_).run
 have key:aj C bP ah 4 0 (nH (l.map dA) ((0:Nat):Int) ((l.take 0).map dA)) (fun u st=>aH C bP ah u st fun r fs=>r=cM l∧fs=[]):=by
  refine bV l (fun i=>aj C bP ah 4 0 (nH (l.map dA) i ((l.take i).map dA)) (fun u st=>aH C bP ah u st fun r fs=>r=cM l∧fs=[])) ?_ ?_
  ·rw[rj]
   exact AU _ _ _ _ (ak bZ (Lt _ _ _ _ _ _ dH))
  ·intro i a hi ha hd zw hn
   have hsa:=hs a (iV ha);rw[zw] at hn;refine AU _ _ _ _ (aa gZ ?_);simp only[yB,aK,ha,bq,fj];refine⟨_,Ap a.l au,aa (bR gZ) ?_⟩;rw[aO au,xH];exact hn
 exact key
theorem yQ {l:List Mp} {s:ByteArray} (h: ¬fX l s<0): ∃m,ew l (fX l s)=some m:=by
 obtain⟨m,h1,_⟩:=rL _ l h;exact⟨m,h1⟩
theorem vz (l:List Mp) (s:ByteArray) (hl:l.length≤1073741824) (hz:s.size≤140737488355328):ai C uG [cM l,vS s] (vI (if dR s=false then 1 else if fX l s<0 then 2 else 0)) []:=by
 refine(Tm _ _ _ ⟨_,(ke s hz (dR s)).2 rfl,?_⟩).run
 cases h1:dR s with
 |false=>exact aa rfl dH
 |true=>
  refine ak rfl ⟨_,kr l s hl,?_⟩
  by_cases h2:fX l s<0
  ·exact aa (by simp[h2]) ⟨by simp[h2],by trivial⟩
  ·exact ak gZ ⟨by simp[h2],by trivial⟩
theorem uM (l:List Mp) (s:ByteArray) (b n:Int) (hl:l.length≤1073741824) (hz:s.size≤140737488355328) (hs: ∀x∈l,x.l.length≤1073741824):ai C pQ [cM l,vS s,vI b,vI n] (TA (nr l s b n)) []:=by
 refine(P1 _ _ _ _ _ ⟨_,ia l hl hs,_,vz l s hl hz,_,kr l s hl,?_⟩).run;unfold nr
 cases h1:dR s with
 |false=>exact aa bZ dH
 |true=>
  simp only[Bool.true_eq_false,if_false]
  by_cases h2:fX l s<0
  ·rw[aR h2,gh au]
   exact aa bZ dH
  ·obtain⟨m,hm⟩:=yQ h2
   rw[aJ h2,hm];refine ak bZ ?_;simp only[yB,hm,bq,fj]
   cases h3:m.fx with
   |true=>exact aa rfl ⟨by unfold kW;rw[h3];rfl,by trivial⟩
   |false=>
    refine ak rfl ⟨_,mB _ _ _,?_⟩;have hlm:=hs m (nj hm);rw[cq,show dy (Int.ofNat m.l.length) 1=(m.l.length:Int)-1 from eg gZ]
    cases h4:iU b 0 ((m.l.length:Int)-1) with
    |false=>exact aa rfl ⟨by unfold kW;rw[h3,h4];rfl,by trivial⟩
    |true=>
     refine ak rfl ⟨_,(rU n (jj n)).2 rfl,?_⟩
     cases h5:jj n with
     |false=>exact aa rfl ⟨by unfold kW;rw[h3,h4,h5];rfl,by trivial⟩
     |true=>
      refine ak rfl ?_
      have hb:0≤b∧b<m.l.length:=by simp[iU] at h4;omega
      obtain⟨y,hy⟩:=eT hb.1 hb.2;simp only[yB,yA,hm,hy,bq,fj,afK,Kt];exact⟨by unfold kW;rw[h3,h4,h5];rfl,by trivial⟩
theorem xo (l:List Mp) (s:ByteArray) (hl:l.length≤1073741824) (hz:s.size≤140737488355328):ai C sg [cM l,vS s] (.tu [(0,[iI (fX l s)]),(0,[iI (if dR s=false then 1 else match ew l (fX l s) with|none=>2|some m=>if m.fx=true then 5 else 0)])]) []:=by
 refine(Lu _ _ _ ⟨_,oq l s hl,_,(rV s hz (dR s)).2 rfl,?_⟩).run
 cases h1:dR s with
 |false=>exact aa rfl dH
 |true=>
  refine ak rfl ?_;simp only[Bool.true_eq_false,if_false]
  by_cases h2:fX l s<0
  ·rw[gh au]
   exact aa (by simp[h2]) dH
  ·obtain⟨m,hm⟩:=yQ h2
   refine ak gZ ?_;simp only[yB,hm,bq,fj]
   cases h3:m.fx with
   |true=>exact aa rfl dH
   |false=>exact ak rfl dH
theorem KS (l:List Mp) (s:ByteArray) (b n:Int) (hl:l.length≤1073741824) (hz:s.size≤140737488355328) (hs: ∀x∈l,x.l.length≤1073741824):ai C vM [cM l,vS s,vI b,vI n] (TA (nr l s b n)) []:=by
 refine(P0 _ _ _ _ _ ⟨_,cZ l hl hs,_,_,xo l s hl hz,?_⟩).run;unfold nr
 cases h1:dR s with
 |false=>exact aa bZ dH
 |true=>
  simp only[Bool.true_eq_false,if_false]
  by_cases h2:fX l s<0
  ·rw[gh au]
   exact aa bZ dH
  ·obtain⟨m,hm⟩:=yQ h2
   rw[hm]
   cases h3:m.fx with
   |true=>exact aa (by simp[h3]) ⟨by unfold kW;simp[h3],by trivial⟩
   |false=>
    refine ak (by simp[h3]) ?_;simp only[yB,hm,bq,fj];refine⟨_,sW _ _ _,?_⟩;have hlm:=hs m (nj hm);rw[cq,show dy (Int.ofNat m.l.length) 1=(m.l.length:Int)-1 from eg gZ]
    cases h4:iU b 0 ((m.l.length:Int)-1) with
    |false=>exact aa rfl ⟨by unfold kW;rw[h3,h4];rfl,by trivial⟩
    |true=>
     refine ak rfl ⟨_,(Uc n (jj n)).2 rfl,?_⟩
     cases h5:jj n with
     |false=>exact aa rfl ⟨by unfold kW;rw[h3,h4,h5];rfl,by trivial⟩
     |true=>
      refine ak rfl ?_
      have hb:0≤b∧b<m.l.length:=by simp[iU] at h4;omega
      obtain⟨y,hy⟩:=eT hb.1 hb.2;simp only[yB,yA,hm,hy,bq,fj,afK,Kt];exact⟨by unfold kW;rw[h3,h4,h5];rfl,by trivial⟩
theorem Gs (l:List Key) (b a:Int) (hl:l.length≤1073741824):ai C iP [eo l,vI b,vI a] (tKB (Mc l b a)) []:=by
 refine(XN _ _ _ _ ?_).run
 have key:setAt (l.drop 0) b a=setAt l b a→aj C iP aG 4 0 (oz (l.map bK) b a ((0:Nat):Int)) (fun u st=>aH C iP aG u st fun r fs=>r=(tKB (Mc l b a))∧fs=[]):=by
  refine bV l (fun i=>setAt (l.drop i) b a=setAt l b a→aj C iP aG 4 0 (oz (l.map bK) b a i) (fun u st=>aH C iP aG u st fun r fs=>r=(tKB (Mc l b a))∧fs=[])) ?_ ?_
  ·intro h0
   rw[gu] at h0;refine GR _ _ _ _ _ (ak bZ (SJ _ _ _ _ _ _ ⟨?_,by trivial⟩));unfold Mc;rw[←h0];rfl
  ·intro i x hi hx hd zw hn h0
   rw[hd] at h0;simp only[setAt,List.find?_cons] at h0;refine GR _ _ _ _ _ (aa gZ ?_);simp only[pZ,aK,hx,bq,fj,cJ,dI];rw[aO au]
   by_cases h1:x.b=b
   ·rw[aR h1]
    by_cases h2:x.a=a
    ·rw[aR h2]
     rw[lB ⟨h1,h2⟩] at h0;refine SI _ _ _ _ _ _ ⟨?_,by trivial⟩;unfold Mc setAt;rw[←h0]
    ·rw[aJ h2]
     rw[lH (fun h=>h2 h.2)] at h0;exact hn h0
   ·rw[aJ h1]
    rw[lH (fun h=>h1 h.1)] at h0;exact hn h0
 exact key rfl
theorem Oy (n:List (List Key)) (b a:Int) (hl:n.length≤1073741824) (hs: ∀s∈n,s.length≤1073741824):ai C jA [o8 n,vI b,vI a] (tKB (rN n b a n.length)) []:=by
 refine(Uz _ _ _ _ ?_).run
 have key: ∀k:Nat,k≤n.length→rN n b a k=rN n b a n.length→aj C jA aG 4 0 (pG b a ((k:Int)-1) (n.map fO)) (fun u st=>aH C jA aG u st fun r fs=>r=(tKB (rN n b a n.length))∧fs=[]):=by
  intro k
  induction k with
  |zero=>
   intro _ hk;refine EW _ _ _ _ _ (ak bZ (O5 _ _ _ _ _ _ ⟨?_,by trivial⟩));rw[←hk];rfl
  |succ k ih=>
   intro hle hk;have hx:n[k]?=some n[k]:=bC au;rw[show((k+1:Nat):Int)-1=(k:Int) by omega];have hss:=hs n[k] (tV au);generalize n[k]=s at hx hss;simp only[rN,hx] at hk;refine EW _ _ _ _ _ (aa bZ ?_);simp only[I0,aK,hx,bq,fj];rw[eg au];refine⟨_,_,_,_,_,_,Gs s b a hss,?_⟩
   cases h2:(Mc s b a).2 with
   |false=>
    rw[h2] at hk;exact ak rfl (ak rfl (ih au (by simpa using hk)))
   |true=>
    rw[h2] at hk;simp only[if_true] at hk;refine aa rfl ?_
    by_cases h3:(Mc s b a).1.k=0
    ·refine aa (by simp[h3]) (EX _ _ _ _ _ _ _ _ _ _ _ _ _ ⟨?_,by trivial⟩)
     rw[aR h3] at hk;rw[←hk];rfl
    ·refine ak (by simp[h3]) (aa rfl (EX _ _ _ _ _ _ _ _ _ _ _ _ _ ⟨?_,by trivial⟩))
     rw[aJ h3] at hk;rw[←hk,←h2]
 rw[cq,show dy (Int.ofNat n.length) 1=(n.length:Int)-1 from eg gZ];exact key n.length (cL _) rfl
theorem vA (t:Tree) (b a:Int) (hl:t.aA.length≤1073741824):ai C eF [eR t,vI b,vI a] (vI (jJ t b a)) []:=by
 refine(SH _ _ _ _ _ ?_).run;unfold jJ
 have key:aj C eF ah 4 0 (lU b a (r9 (fun x=>decide (x≤dz b a)) t.aA 0) ((0:Nat):Int) (t.aA.map bA) (t.nodes.map bn)) (fun u st=>aH C eF ah u st fun r fs=>r=(vI (r9 (fun x=>decide (x≤dz b a)) t.aA t.aA.length))∧fs=[]):=by
  refine bV t.aA (fun i=>aj C eF ah 4 0 (lU b a (r9 (fun x=>decide (x≤dz b a)) t.aA i) i (t.aA.map bA) (t.nodes.map bn)) (fun u st=>aH C eF ah u st fun r fs=>r=(vI (r9 (fun x=>decide (x≤dz b a)) t.aA t.aA.length))∧fs=[])) ?_ ?_
  ·exact Cd _ _ _ _ _ _ _ (ak bZ (MX _ _ _ _ _ _ _ _ dH))
  ·intro i x hi hx hd zw hn
   simp only[r9,hx] at hn;refine Cd _ _ _ _ _ _ _ (aa gZ ?_);simp only[yA,aK,hx,bq,fj,Is,gv,nJ,dI];rw[aO au]
   by_cases h1:x≤dz b a
   ·rw[aR h1]
    rw[aR (lB h1)] at hn;exact hn
   ·rw[aJ h1]
    rw[aJ (by simpa using h1)] at hn;exact hn
 exact key
theorem wU (t:Tree) (b a:Int) (hl:dZ t≤1073741824):ai C tN [eR t,vI b,vI a] (tKB (yC t b a)) []:=by
 have e2:dZ t=t.aA.length+(t.nodes.length+tot aW t.nodes):=rfl;refine(Up _ _ _ _ _ ⟨_,vA t b a au,_,mB _ _ _,?_⟩).run;unfold yC;rw[cq,show dy (Int.ofNat t.nodes.length) 1=(t.nodes.length:Int)-1 from eg gZ]
 by_cases h1:0≤jJ t b a∧jJ t b a<t.nodes.length
 ·obtain⟨n,hn⟩:=eT h1.1 h1.2
  have hz:aW n≤tot aW t.nodes:=xE (w:=aW) (nj hn);have e1:aW n=n.length+tot c8 n:=rfl;refine ak (by simp[iU];omega) ?_;simp only[Ht,hn,bq,fj];refine⟨_,_,_,_,_,_,Oy n b a au (fun s hs=> ?_),dH⟩;have h3:c8 s≤tot c8 n:=xE (w:=c8) hs;have h4:c8 s=s.length:=rfl;omega
 ·rw[gh h1]
  exact aa (by simp[iU];omega) dH
theorem DE (p:bu) (hS:aV p≤4194304) (id:Int):ai C wz [fz p,vI id] (vI (F7 p id)) []:=by
 have hP:=fG hS;refine(Vc _ _ _ _ _ _ _ _ ⟨_,wQ p.aY id au,_,Iq p id au,?_⟩).run;unfold F7
 cases h1:rM p.aD id with
 |false=>exact aa rfl ⟨by simp,by trivial⟩
 |true=>
  refine ak rfl ?_
  by_cases h2:(gD p.aY id).length=1
  ·obtain⟨x,hx⟩:=eT (l:=gD p.aY id) (i:=0) au au
   refine ak (by simp[h2]) ?_;simp only[yA,hx,bq,fj];exact⟨by simp[h2],by trivial⟩
  ·exact aa gZ ⟨by simp[h2],by trivial⟩
theorem MF (p:bu) (hS:aV p≤4194304) (k:Key):ai C Dh [fz p,BD k] (vB (Zj p k)) []:=by
 have hP:=fG hS;refine(Tc _ _ _ _ _ _ _ _ _ _ _ _ ⟨_,DE p hS k.a,?_⟩).run;unfold Zj
 by_cases h1:F7 p k.a=0
 ·exact aa (by simp[h1]) ⟨by rw[aR h1],by trivial⟩
 ·exact ak (by simp[h1]) ⟨_,_,_,_,_,_,wU p.t k.b (F7 p k.a) au,⟨by rw[aJ h1],by trivial⟩⟩
theorem Oz (p:bu) (hS:aV p≤4194304) (j:Int) (k:Key):ai C Gp [fz p,vI j,BD k] (vB (xI p j k)) []:=by
 have hP:=fG hS;refine(Vf _ _ _ _ _ _ _ _ _ _ _ _ _ ?_).run;unfold xI
 by_cases h1:j=1
 ·exact aa (by simp[h1]) ⟨_,HN p k au au au,⟨by rw[aR h1],by trivial⟩⟩
 ·refine ak (by simp[h1]) ?_
  rw[aJ h1]
  by_cases h2:j=2
  ·refine aa (by simp[h2]) ⟨_,_,_,_,_,_,yP p.t p.aY k.b k.a au au,?_⟩
   rw[aR h2]
   by_cases h3:k.k=2
   ·exact aa (by simp[h3]) ⟨by simp[h3],by trivial⟩
   ·exact ak (by simp[h3]) ⟨by simp[h3],by trivial⟩
  ·rw[aJ h2]
   exact ak (by simp[h2]) ⟨_,MF p hS k,dH⟩
theorem OA (p:bu) (hS:aV p≤4194304) (id:Int):ai C gY [fz p,vI id] (vB (((az p.t).all (I5 id)&&(rM p.aD id&&decide ((gD p.aY id).length≤1))))) []:=by
 refine(Vg _ _ _ _ _ _ _ _ ?_).run;have hP:=fG hS;have htl:=jk p.t;refine⟨_,jr p.t au,?_⟩
 have key:(((az p.t).drop 0).all (I5 id)&&(rM p.aD id&&decide ((gD p.aY id).length≤1)))=((az p.t).all (I5 id)&&(rM p.aD id&&decide ((gD p.aY id).length≤1)))→aj C gY ah 4 0 (mZ id ((0:Nat):Int) (p.t.aA.map bA) (p.t.nodes.map bn) (p.aY.map cn) (p.cells.map cC) (p.aD.map dh) p.next ((az p.t).map bK)) (fun u st=>aH C gY ah u st fun r fs=>r=vB (((az p.t).all (I5 id)&&(rM p.aD id&&decide ((gD p.aY id).length≤1))))∧fs=[]):=by
  refine bV (az p.t) (fun i=>(((az p.t).drop i).all (I5 id)&&(rM p.aD id&&decide ((gD p.aY id).length≤1)))=((az p.t).all (I5 id)&&(rM p.aD id&&decide ((gD p.aY id).length≤1)))→aj C gY ah 4 0 (mZ id i (p.t.aA.map bA) (p.t.nodes.map bn) (p.aY.map cn) (p.cells.map cC) (p.aD.map dh) p.next ((az p.t).map bK)) (fun u st=>aH C gY ah u st fun r fs=>r=vB (((az p.t).all (I5 id)&&(rM p.aD id&&decide ((gD p.aY id).length≤1))))∧fs=[])) ?_ ?_
  ·intro h0
   refine Fs _ _ _ _ _ _ _ _ _ _ (ak bZ (PZ _ _ _ _ _ _ _ _ _ _ _ ?_));rw[gu] at h0;simp only[tQ,eO] at h0;rw[←h0];refine⟨_,Iq p id au,?_⟩
   cases h1:rM p.aD id with
   |false=>exact ak rfl dH
   |true=>exact aa rfl ⟨_,wQ p.aY id au,⟨by simp[nJ];omega,by trivial⟩⟩
  ·intro i a hi ha hd zw hn h0
   have gO:(I5 id) a=false→((az p.t).all (I5 id)&&(rM p.aD id&&decide ((gD p.aY id).length≤1)))=false:=fun e=>by rw[←h0,hd];simp[e]
   have gN:(I5 id) a=true→aj C gY ah 4 0 (mZ id ((i:Int)+1) (p.t.aA.map bA) (p.t.nodes.map bn) (p.aY.map cn) (p.cells.map cC) (p.aD.map dh) p.next ((az p.t).map bK)) (fun u st=>aH C gY ah u st fun r fs=>r=vB (((az p.t).all (I5 id)&&(rM p.aD id&&decide ((gD p.aY id).length≤1))))∧fs=[]):=fun e=>hn (by rw[←h0,hd];simp[e]);refine Fs _ _ _ _ _ _ _ _ _ _ (aa gZ ?_);simp only[pZ,aK,ha,bq,fj,cJ,dI];rw[aO au]
   by_cases h1:a.a=id
   ·rw[aR h1];exact PY _ _ _ _ _ _ _ _ (by rw[gO (by simp[I5,hasB,h1])];exact dH)
   ·rw[aJ h1];exact gN (by simp[I5,hasB,h1])
 exact key rfl
theorem KT (p:bu) (hS:aV p≤4194304):ai C bD [fz p] (tII (gC p)) []:=by
 have hP:=fG hS;have htl:=jk p.t;refine(PU _ _ _ _ _ _ _ ⟨_,fZ p hS,?_⟩).run
 cases hok:cK p with
 |false=>exact aa rfl ⟨by unfold gC;rw[hok];rfl,by trivial⟩
 |true=>
 refine ak rfl ⟨_,jr p.t au,?_⟩
 have hstep: ∀j:Int,1≤j∧j≤3→(0≤p8 p j→gC p=(j,p8 p j))→(p8 p j<0→aj C bD aP 4 0 (nE (j+1) (p.t.aA.map bA) (p.t.nodes.map bn) (p.aY.map cn) (p.cells.map cC) (p.aD.map dh) p.next ((az p.t).map bK)) (fun u st=>aH C bD aP u st fun r fs=>r=tII (gC p)∧fs=[]))→aj C bD aP 4 0 (nE j (p.t.aA.map bA) (p.t.nodes.map bn) (p.aY.map cn) (p.cells.map cC) (p.aD.map dh) p.next ((az p.t).map bK)) (fun u st=>aH C bD aP u st fun r fs=>r=tII (gC p)∧fs=[]):=by
  intro j hj h1 h2;refine AQ _ _ _ _ _ _ _ _ _ (aa gZ ?_)
  have keyI:fW (xI p j) ((az p.t).drop 0) ((0:Nat):Int)=p8 p j→aj C bD g7 3 2 (nF j ((0:Nat):Int) (p.t.aA.map bA) (p.t.nodes.map bn) (p.aY.map cn) (p.cells.map cC) (p.aD.map dh) p.next ((az p.t).map bK)) (fun u st=>pY C bD aP 4 0 wX u st (fun u st=>aH C bD aP u st fun r fs=>r=tII (gC p)∧fs=[])):=by
   refine bV (az p.t) (fun i=>fW (xI p j) ((az p.t).drop i) (i:Int)=p8 p j→aj C bD g7 3 2 (nF j i (p.t.aA.map bA) (p.t.nodes.map bn) (p.aY.map cn) (p.cells.map cC) (p.aD.map dh) p.next ((az p.t).map bK)) (fun u st=>pY C bD aP 4 0 wX u st (fun u st=>aH C bD aP u st fun r fs=>r=tII (gC p)∧fs=[]))) ?_ ?_
   ·intro h0
    rw[gu] at h0;simp only[fW] at h0;refine AR _ _ _ _ _ _ _ _ _ _ (ak bZ (Ln _ _ _ _ _ _ _ _ _ _ _ ?_));rw[aO au];exact h2 au
   ·intro i x hi hx hd zw hn h0
    rw[hd] at h0;simp only[fW] at h0;refine AR _ _ _ _ _ _ _ _ _ _ (aa gZ ?_);simp only[pZ,aK,hx,bq,fj];refine⟨_,Oz p hS j x,?_⟩;rw[aO au]
    cases h4:xI p j x with
    |true=>
     rw[aR h4] at h0;exact aa rfl (Lm _ _ _ _ _ _ _ _ _ _ (Lo _ _ _ _ _ _ _ _ _ _ ⟨by rw[h1 au,←h0],by trivial⟩))
    |false=>rw[aJ (by simp[h4])] at h0;exact ak rfl (hn h0)
  exact keyI rfl
 refine hstep 1 au (fun h=>by unfold gC;rw[aR hok,aR h]) (fun h1=> ?_);refine hstep 2 au (fun h=>by unfold gC;rw[aR hok,aJ au,aR h]) (fun h2=> ?_);refine hstep 3 au (fun h=>by unfold gC;rw[aR hok,aJ au,aJ au,aR h]) (fun h3=> ?_);refine AQ _ _ _ _ _ _ _ _ _ (ak bZ (Ll _ _ _ _ _ _ _ _ _ ?_))
 have key5:fW (Hu p) (p.aY.drop 0) ((0:Nat):Int)=RE p→aj C bD dw 4 4 (nG ((0:Nat):Int) (p.t.aA.map bA) (p.t.nodes.map bn) (p.aY.map cn) (p.cells.map cC) (p.aD.map dh) p.next) (fun u st=>aH C bD dw u st fun r fs=>r=tII (gC p)∧fs=[]):=by
  refine bV p.aY (fun i=>fW (Hu p) (p.aY.drop i) (i:Int)=RE p→aj C bD dw 4 4 (nG i (p.t.aA.map bA) (p.t.nodes.map bn) (p.aY.map cn) (p.cells.map cC) (p.aD.map dh) p.next) (fun u st=>aH C bD dw u st fun r fs=>r=tII (gC p)∧fs=[])) ?_ ?_
  ·intro h0
   rw[gu] at h0;simp only[fW] at h0;exact AS _ _ _ _ _ _ _ _ (ak bZ (Lr _ _ _ _ _ _ _ _ _ ⟨by unfold gC;rw[aR hok,aJ au,aJ au,aJ au,aJ au],by trivial⟩))
  ·intro i x hi hx hd zw hn h0
   rw[hd] at h0;simp only[fW] at h0;refine AS _ _ _ _ _ _ _ _ (aa gZ ?_);simp only[F5,aK,hx,bq,fj];rw[aO au];refine⟨_,OA p hS x.id,?_⟩;have e:((az p.t).all (I5 x.id)&&(rM p.aD x.id&&decide ((gD p.aY x.id).length≤1)))=Hu p x:=rfl;rw[e]
   cases h4:Hu p x with
   |true=>rw[aR h4] at h0;exact aa rfl (Lq _ _ _ _ _ _ _ _ ⟨by unfold gC;rw[aR hok,aJ au,aJ au,aJ au,aR au,←h0],by trivial⟩)
   |false=>rw[aJ (by simp[h4])] at h0;exact ak rfl (hn h0)
 exact key5 rfl
theorem wV (n:List (List Key)) (hl:n.length≤1073741824) (hs: ∀s∈n,s.length≤1073741824):ai C bM [o8 n] (o8 n) []:=by
 refine(Ut _ _ ?_).run
 skip
 have key:((0:Nat)=0→aj C bM ah 4 0 (sv (n.map fO)) (fun u st=>aH C bM ah u st fun r fs=>r=(o8 n)∧fs=[]))∧(0<(0:Nat)→aj C bM ah 4 0 (pE ((0:Nat):Int) (n.map fO) ((n.take 0).map fO)) (fun u st=>aH C bM ah u st fun r fs=>r=(o8 n)∧fs=[])):=by
  refine bV n (fun i=>(i=0→aj C bM ah 4 0 (sv (n.map fO)) (fun u st=>aH C bM ah u st fun r fs=>r=(o8 n)∧fs=[]))∧(0<i→aj C bM ah 4 0 (pE i (n.map fO) ((n.take i).map fO)) (fun u st=>aH C bM ah u st fun r fs=>r=(o8 n)∧fs=[]))) ?_ ?_
  ·refine⟨fun h=> ?_,fun h=> ?_⟩
   ·have hnil:n=[]:=List.length_eq_zero_iff.1 h
    refine EO _ _ (ak (by simp[h]) (OX _ _ _ ⟨?_,by trivial⟩));simp[hnil]
   ·rw[rj]
    exact EP _ _ _ _ (ak bZ (OY _ _ _ _ _ dH))
  ·intro i a hi ha hd zw hn
   have hmem:=iV ha;refine⟨fun h=> ?_,fun h=> ?_⟩
   ·subst h
    have hz:ew n 0=some a:=(aK n 0).trans ha;have hn2:=hn.2 au;rw[zw] at hn2;refine EO _ _ (aa gZ ?_);simp only[I0,hz,bq,fj];have hsa:=hs a hmem;refine aa (by rw[show bF (a.map bK)=true from lQ _,bR gZ];rfl) (aa (bR (by simp;try omega)) ?_);rw[aO au];exact hn2
   ·have hn2:=hn.2 au
    rw[zw] at hn2;refine EP _ _ _ _ (aa gZ ?_);simp only[I0,aK,ha,bq,fj];have hsa:=hs a hmem;refine aa (by rw[show bF (a.map bK)=true from lQ _,bR gZ];rfl) (aa (bR (by simp;try omega)) ?_);rw[aO au];rw[td] at hn2;exact hn2
 exact key.1 rfl
theorem sn (t:Tree) (hl:t.aA.length≤1073741824∧t.nodes.length≤1073741824) (hs: ∀n∈t.nodes,n.length≤1073741824∧ ∀s∈n,s.length≤1073741824):ai C cH [eR t] (eR t) []:=by
 refine(UM _ _ _ ?_).run;refine aa (by rw[show bF (t.aA.map bA)=true from iG _,bR gZ];rfl) ?_
 have key:((0:Nat)=0→aj C cH ah 4 0 (sE (t.aA.map bA) (t.nodes.map bn)) (fun u st=>aH C cH ah u st fun r fs=>r=(eR t)∧fs=[]))∧(0<(0:Nat)→aj C cH ah 4 0 (pH ((0:Nat):Int) (t.aA.map bA) (t.nodes.map bn) ((t.nodes.take 0).map bn)) (fun u st=>aH C cH ah u st fun r fs=>r=(eR t)∧fs=[])):=by
  refine bV t.nodes (fun i=>(i=0→aj C cH ah 4 0 (sE (t.aA.map bA) (t.nodes.map bn)) (fun u st=>aH C cH ah u st fun r fs=>r=(eR t)∧fs=[]))∧(0<i→aj C cH ah 4 0 (pH i (t.aA.map bA) (t.nodes.map bn) ((t.nodes.take i).map bn)) (fun u st=>aH C cH ah u st fun r fs=>r=(eR t)∧fs=[]))) ?_ ?_
  ·refine⟨fun h=> ?_,fun h=> ?_⟩
   ·have hnil:t.nodes=[]:=List.length_eq_zero_iff.1 h
    refine E6 _ _ _ (ak (by simp[h]) (Po _ _ _ _ ⟨?_,by trivial⟩));simp[hnil]
   ·rw[rj]
    exact E7 _ _ _ _ _ (ak bZ (Pp _ _ _ _ _ _ dH))
  ·intro i a hi ha hd zw hn
   have hmem:=iV ha;refine⟨fun h=> ?_,fun h=> ?_⟩
   ·subst h
    have hz:ew t.nodes 0=some a:=(aK t.nodes 0).trans ha;have hn2:=hn.2 au;rw[zw] at hn2;refine E6 _ _ _ (aa gZ ?_);simp only[Ht,hz,bq,fj];refine⟨_,wV a (hs a hmem).1 (hs a hmem).2,aa (bR (by simp;try omega)) ?_⟩;rw[aO au];exact hn2
   ·have hn2:=hn.2 au
    rw[zw] at hn2;refine E7 _ _ _ _ _ (aa gZ ?_);simp only[Ht,aK,ha,bq,fj];refine⟨_,wV a (hs a hmem).1 (hs a hmem).2,aa (bR (by simp;try omega)) ?_⟩;rw[aO au];rw[td] at hn2;exact hn2
 exact key.1 rfl
theorem Aq {t:Tree} (h:dZ t≤4194304):(t.aA.length≤1073741824∧t.nodes.length≤1073741824)∧ ∀n∈t.nodes,n.length≤1073741824∧ ∀s∈n,s.length≤1073741824:=by
 have e2:dZ t=t.aA.length+(t.nodes.length+tot aW t.nodes):=rfl;refine⟨⟨by omega,by omega⟩,fun n hn=> ?_⟩;have h1:aW n≤tot aW t.nodes:=xE (w:=aW) hn;have h2:aW n=n.length+tot c8 n:=rfl;refine⟨by omega,fun s hs=> ?_⟩;have h3:c8 s≤tot c8 n:=xE (w:=c8) hs;have h4:c8 s=s.length:=rfl;omega
theorem ck (p:bu) (hS:aV p≤4194304):ai C bh [fz p] (fz p) []:=by
 have hP:=fG hS;have hN:=Aq hP.1;have hT:=sn p.t hN.1 hN.2
 have hA:(bF (p.aY.map cn)&&fits (Nat.add 0 (p.aY.map cn).length) 16)=true:=by rw[BE,bR gZ];rfl
 have hC:=wT p.cells au
 have hV:(bF (p.aD.map dh)&&fits (Nat.add 0 (p.aD.map dh).length) 40)=true:=by rw[xZ,bR gZ];rfl
 refine(S6 _ _ _ _ _ _ _ ?_).run
 repeat' first
  |exact rfl
  |refine⟨(fz p,[]),?_,?_,dH⟩
  |refine⟨(fz p,[]),?_,?_,by trivial⟩
  |refine⟨_,_,hT,?_⟩
  |refine aa hA ?_
  |refine⟨_,hC,?_⟩
  |refine aa hV ?_
theorem MG (l:List Key) (hl:l.length≤1073741824):ai C aC [eo l] (o8 (newNode l)) []:=by
 refine(GQ _ _ ?_).run;unfold newNode
 by_cases h:l.length=0
 ·exact aa (by simp[h]) ⟨by rw[aR h];rfl,by trivial⟩
 ·refine ak (by rw[cq,vU,cJ];exact lH au) ?_
  rw[show bF (l.map bK)=true from lQ _,bR gZ];exact⟨by rw[aJ h];rfl,by trivial⟩
theorem KU (n:List (List Key)) (hb:n.length≤1073741824) (hl:tot c8 n≤1073741824):ai C Bf [o8 n] (o8 (nt n)) []:=by
 have h1:=cY n;exact(Ph _ _ ⟨_,(eA n hb hl _).2 rfl,_,MG (aB n) au,dH⟩).run
theorem KV (t:Tree) (i:Int) (hl:dZ t≤4194304):ai C Be [eR t,vI i] (eR (wk t i)) []:=by
 have hN:=Aq hl;have e2:dZ t=t.aA.length+(t.nodes.length+tot aW t.nodes):=rfl;refine(OT _ _ _ _ ⟨_,_,sn t hN.1 hN.2,_,mB _ _ _,?_⟩).run;unfold wk;rw[cq,show dy (Int.ofNat t.nodes.length) 1=(t.nodes.length:Int)-1 from eg gZ]
 by_cases h1:0≤i∧i<t.nodes.length
 ·obtain⟨n,hn⟩:=eT h1.1 h1.2
  have hz:aW n≤tot aW t.nodes:=xE (w:=aW) (nj hn);have e1:aW n=n.length+tot c8 n:=rfl;refine aa (by simp[iU];omega) ?_;simp only[Ht,hn,bq,fj];refine⟨_,KU n au au,?_⟩;simp only[ahW]
  first|exact dH|exact⟨trivial,trivial⟩|trivial|simp
 ·rw[gh h1]
  exact ak (by simp[iU];omega) dH
theorem KW (p:bu) (i:Int) (hS:aV p≤4194304):ai C Bb [fz p,vI i] (tPB (qu p i)) []:=by
 have hP:=fG hS;have e2:dZ p.t=p.t.aA.length+(p.t.nodes.length+tot aW p.t.nodes):=rfl;refine(PR _ _ _ _ _ _ _ _ ⟨_,_,_,_,_,_,ck p hS,_,fZ p hS,?_⟩).run;unfold qu
 cases h0:cK p with
 |false=>exact aa rfl ⟨by simp,by trivial⟩
 |true=>
  refine ak rfl ⟨_,mB _ _ _,?_⟩
  (try dsimp only)
  rw[cq,show dy (Int.ofNat p.t.nodes.length) 1=(p.t.nodes.length:Int)-1 from eg gZ]
  by_cases h1:0≤i∧i<p.t.nodes.length
  ·refine ak (by simp[iU];omega) ⟨_,_,KV p.t i hP.1,?_⟩
   exact⟨by rw[aR ⟨rfl,h1⟩],by trivial⟩
  ·exact aa (by simp[iU];omega) ⟨by rw[aJ (fun h=>h1 h.2)],by trivial⟩
theorem DF (p x:bu) (hS:aV p≤4194304) (hX:aV x≤4194304):ai C fR [fz p,fz x,vB true] (Zn (Xe p x)) []:=by
 refine(IE _ _ _ _ _ _ _ _ _ _ _ _ _ _ ?_).run;refine ak rfl ⟨_,fZ x hX,?_⟩;unfold Xe
 cases h1:cK x with
 |false=>exact aa rfl ⟨_,_,_,_,_,_,ck p hS,dH⟩
 |true=>exact ak rfl dH
theorem Sg {l:List oO} {s:ByteArray} (h: ¬dU l s<0): ∃v,ew l (dU l s)=some v:=by
 obtain⟨m,h1,_⟩:=rL _ l h;exact⟨m,h1⟩
theorem vC (p:bu) (s:ByteArray) (hS:aV p≤4194304) (hz:s.size≤140737488355328):ai C uI [fz p,vS s] (vI (if wh p s=true then 0 else 1)) []:=by
 refine(S9 _ _ _ _ _ _ _ _ ⟨_,fZ p hS,?_⟩).run;unfold wh
 cases h1:cK p with
 |false=>exact aa rfl dH
 |true=>
  refine ak rfl ⟨_,(ke s hz (dR s)).2 rfl,?_⟩
  cases h2:dR s with
  |false=>exact aa rfl dH
  |true=>exact ak rfl dH
theorem DG (p:bu) (s:ByteArray) (hS:aV p≤4194304) (hz:s.size≤140737488355328):ai C Al [fz p,vS s] (vI (if wh p s=true then(if dU p.aD s<0 then 2 else 0) else 1)) []:=by
 have hP:=fG hS;refine(Va _ _ _ _ _ _ _ _ ⟨_,vC p s hS hz,?_⟩).run
 cases h1:wh p s with
 |false=>exact ak bZ dH
 |true=>
  refine aa bZ ⟨_,iL p s au,?_⟩
  by_cases h2:dU p.aD s<0
  ·exact aa (by simp[h2]) ⟨by simp[h2],by trivial⟩
  ·exact ak gZ ⟨by simp[h2],by trivial⟩
theorem Ug (p:bu) (s:ByteArray) (hS:aV p≤4194304) (hz:s.size≤140737488355328):ai C Mo [fz p,vS s] (Zn (KA p s)) []:=by
 have hP:=fG hS;refine(aat _ _ _ _ _ _ _ _ ⟨_,_,_,_,_,_,ck p hS,_,DG p s hS hz,?_⟩).run;unfold KA
 cases h0:wh p s with
 |false=>exact aa bZ dH
 |true=>
  simp only[if_true]
  by_cases hn:dU p.aD s<0
  ·simp only[aR hn]
   exact aa bZ (by first|exact dH|exact⟨trivial,trivial⟩|simp)
  ·simp only[aJ hn]
   obtain⟨v,hv⟩:=Sg hn
   have h1:aq (p.aD.map dh) 0 (dU p.aD s)=(p.aD.take (dU p.aD s).toNat).map dh:=by rw[cc];rfl
   have h2:aq (p.aD.map dh) (dU p.aD s+1) (Int.ofNat p.aD.length)=(p.aD.drop ((dU p.aD s).toNat+1)).map dh:=by
    rw[cc,show(dU p.aD s+1).toNat=(dU p.aD s).toNat+1 by omega,show(Int.ofNat p.aD.length).toNat=p.aD.length from rfl,rj]
   have h3:List.append ((p.aD.take (dU p.aD s).toNat).map dh) ((p.aD.drop ((dU p.aD s).toNat+1)).map dh)=(Md p (dU p.aD s)).aD.map dh:=(td (f:=dh) (l₁:=p.aD.take (dU p.aD s).toNat) (l₂:=p.aD.drop ((dU p.aD s).toNat+1))).symm;have hX:aV (Md p (dU p.aD s))≤4194304:=bQ (V0 p _) hS
   have Ly:(p.aD.take (dU p.aD s).toNat).length≤p.aD.length:=by rw[c7];omega
   have Bn:(p.aD.drop ((dU p.aD s).toNat+1)).length≤p.aD.length:=by rw[gQ];omega
   have hi:0≤dU p.aD s∧dU p.aD s<p.aD.length:=Classical.byContradiction fun hn=>by rw[gh hn] at hv;cases hv
   refine ak bZ ⟨_,iL p s au,?_⟩
   (try dsimp only)
   rw[cq,aO au,h1,h2,h3];refine aa gZ (aa gZ (aa (by rw[xZ,bR gZ];rfl) (aa (by rw[xZ,bR gZ];rfl) ?_)));exact⟨_,_,_,_,_,_,_,DF p (Md p (dU p.aD s)) hS hX,dH⟩
theorem so (l:List mS) (id fr:Int) (hl:l.length≤1073741800):ai C fe [qq l,vI id,vI fr] (TV.tu [(0,[TC.sub 2 ((mw l id fr).1.map cn)]),(0,[iB (mw l id fr).2])]) []:=by
 refine(UO _ _ _ _ ⟨_,om l id au,?_⟩).run
 obtain⟨T,hT⟩: ∃T,T=if 0≤ie l id then l else yD l id fr:=⟨_,rfl⟩
 have hTl:T.length≤l.length+1:=by
  rw[hT];split
  ·omega
  ·unfold yD;rw[Hv];omega
 have key: ∀(b:Bool) (acc:List mS),acc++(if b=true then l.drop 0 else yD (l.drop 0) id fr)=T→aj C fe aP 4 0 (k9 (l.map cn) id fr b ((0:Nat):Int) (acc.map cn)) (fun x st=>aH C fe aP x st fun r fs=>r=(TV.tu [(0,[TC.sub 2 ((mw l id fr).1.map cn)]),(0,[iB (mw l id fr).2])])∧fs=[]):=by
  have fin: ∀Q:QV,Q (TV.tu [(0,[TC.sub 2 ((mw l id fr).1.map cn)]),(0,[iB (mw l id fr).2])]) []→
   ∃(n17:Int),ai C dF ([TV.c (TC.sub 2 (l.map cn)),TV.c (iI id)]) (TV.c (iI n17)) []∧(ax (qC 0 n17) (ax (bF (l.map cn)&&fits (Nat.add 0 (List.length (l.map cn))) 16) (Q (TV.tu [(0,[TC.sub 2 (l.map cn)]),(0,[iB false])]) ([])) (False)) (∃(b18:Bool),ai C dj ([TV.c (TC.sub 2 (T.map cn))]) (TV.c (iB b18)) []∧(ax (!b18) (ax (bF (l.map cn)&&fits (Nat.add 0 (List.length (l.map cn))) 16) (Q (TV.tu [(0,[TC.sub 2 (l.map cn)]),(0,[iB false])]) ([])) (False)) (Q (TV.tu [(0,[TC.sub 2 (T.map cn)]),(0,[iB true])]) ([]))))):=by
   intro Q hQ
   have X9:(bF (l.map cn)&&fits (Nat.add 0 (List.length (l.map cn))) 16)=true:=by rw[BE,bR iE];rfl
   refine⟨_,om l id au,?_⟩;unfold mw at hQ
   by_cases h1:0≤ie l id
   ·rw[aR h1] at hQ
    exact aa (by simpa using h1) (aa X9 hQ)
   ·rw[aJ h1] at hQ hT
    have hok:ai C dj [qq T] (vB (iJ T)) []:=wS T au;refine ak iE ⟨_,hok,?_⟩;subst hT
    by_cases h2:iJ (yD l id fr)=true
    ·rw[aR h2] at hQ
     rw[h2];exact ak rfl hQ
    ·rw[aJ h2] at hQ
     have h2:iJ (yD l id fr)=false:=by simpa using h2
     rw[h2];exact aa rfl (aa X9 hQ)
  refine bV l (fun i=> ∀(b:Bool) (acc:List mS),acc++(if b=true then l.drop i else yD (l.drop i) id fr)=T→aj C fe aP 4 0 (k9 (l.map cn) id fr b (i:Int) (acc.map cn)) _) ?_ ?_
  ·intro b acc h0
   have hlen:=congrArg List.length h0;rw[ct] at hlen;refine E8 _ _ _ _ _ _ _ (ak bZ (Pt _ _ _ _ _ _ _ _ ?_));rw[gu] at h0
   cases b with
   |true=>
    simp only[if_true,m0] at h0;subst h0;exact ak rfl (fin (fun r fs=>r=(TV.tu [(0,[TC.sub 2 ((mw l id fr).1.map cn)]),(0,[iB (mw l id fr).2])])∧fs=[]) dH)
   |false=>
    have e:acc++[(⟨id,fr⟩:mS)]=T:=by simpa [yD,Ab] using h0
    refine aa rfl (aa (by rw[sQ,bR iE];rfl) ?_);rw[xG,e];exact fin (fun r fs=>r=(TV.tu [(0,[TC.sub 2 ((mw l id fr).1.map cn)]),(0,[iB (mw l id fr).2])])∧fs=[]) dH
  ·intro i a hi ha hd ht hn b acc h0
   have hlen:=congrArg List.length h0;rw[ct] at hlen;refine E8 _ _ _ _ _ _ _ (aa iE ?_)
   have hrow:rowAt (l.map cn) (i:Int)=some [iI a.id,iI a.fr]:=by rw[aQ,aK,ha];rfl
   have Bj:aF (i:Int) 1=((i+1:Nat):Int):=aO au
   cases b with
   |true=>
    rw[hd] at h0;simp only[if_true] at h0;refine ak rfl ⟨_,_,hrow,aa (by rw[sQ,bR iE];rfl) ?_⟩;rw[Bj,xG];exact hn true (acc++[a]) (by rw[←h0];simp)
   |false=>
    rw[hd] at h0;simp only[Ds,if_false] at h0;unfold yD at h0;rw[RF] at h0;refine aa rfl ⟨_,_,hrow,?_⟩
    by_cases hlt:id<a.id
    ·have hle:leA id a=false:=by simp[leA];omega
     rw[hle] at h0;simp only[Ds,if_false] at h0;refine aa (by simpa using hlt) (aa (by rw[sQ,bR iE];rfl) ⟨_,_,hrow,aa (by rw[sQ,xG,bR iE];rfl) ?_⟩);rw[Bj,xG,xG];exact hn true (acc++[⟨id,fr⟩]++[a]) (by rw[←h0];simp)
    ·have hle:leA id a=true:=by simp[leA];omega
     rw[hle] at h0;simp only[if_true] at h0;refine ak (by simpa using hlt) ⟨_,_,hrow,aa (by rw[sQ,bR iE];rfl) ?_⟩;rw[Bj,xG];exact hn false (acc++[a]) (by rw[←h0];simp[yD])
 refine key (qC 0 (ie l id)) [] ?_;rw[hT,nJ]
 by_cases h1:0≤ie l id<;>simp[h1]
theorem yR (l:List oO) (v:oO) (hr:zC l) (hl:l.length≤1073741800):ai C ee [NT l,.ag (dh v)] (NT (vp l v)) []:=by
 have key: ∀(k:Nat) (y:oO),k≤l.length→(∀u∈l.drop k,TW v u=false)→aj C ee jg 4 0 (jZ (k:Int) v.name v.fq v.size v.fx ((l.take k++y::l.drop k).map dh)) (fun x st=>aH C ee jg x st fun r fs=>r=NT (vp l v)∧fs=[]):=by
  intro k
  induction k with
  |zero=>
   intro y hk hg
   have w6:rowAt ((l.take 0++y::l.drop 0).map dh) ((0:Nat):Int)=some [iS y.name,iI y.fq,iI y.size,iB y.fx]:=by rw[aQ,aK];rfl
   refine zi _ _ _ _ _ _ _ (ak bZ (JH _ _ _ _ _ _ _ ⟨_,_,_,_,w6,_,_,_,_,w6,?_⟩));refine⟨?_,rfl⟩;have:=Zq (TW v) v l (hr.cut (k:=0) hk hg fun u h=>absurd h au);rw[show vp l v=Ab (TW v) v l from rfl,←this,show((0:Nat):Int)=0 from rfl];simp[setRow,dh]
  |succ k ih=>
   intro y hk hg
   have Cu:k<l.length:=by omega
   obtain⟨a,ha⟩: ∃a,l[k]?=some a:=⟨_,bC Cu⟩
   have hsub:dy ((k+1:Nat):Int) 1=(k:Int):=by rw[eg au];omega
   have htl:(l.take (k+1)).length=k+1:=by rw[c7];omega
   have hgk:(l.take (k+1)++y::l.drop (k+1))[k]?=some a:=by rw[kC au,zG,aR au,ha]
   have ag5:(l.take (k+1)++y::l.drop (k+1))[k+1]?=some y:=by rw[m7 au,htl,oI];rfl
   have hra:rowAt ((l.take (k+1)++y::l.drop (k+1)).map dh) (k:Int)=some [iS a.name,iI a.fq,iI a.size,iB a.fx]:=by rw[aQ,aK,hgk];rfl
   have hry:rowAt ((l.take (k+1)++y::l.drop (k+1)).map dh) ((k+1:Nat):Int)=some [iS y.name,iI y.fq,iI y.size,iB y.fx]:=by rw[aQ,aK,ag5];rfl
   have sZ: ∀u:oO,setRow ((l.take (k+1)++y::l.drop (k+1)).map dh) ((k+1:Nat):Int) 0 [iS u.name,iI u.fq,iI u.size,iB u.fx]=(l.take (k+1)++u::l.drop (k+1)).map dh:=fun u=>by
    rw[IZ (a:=y) (a':=u) ag5 rfl]
    congr 1
    rw[List.set_append_right _ _ au,htl,oI]
    rfl
   refine zi _ _ _ _ _ _ _ (aa iE ?_);rw[hsub];refine⟨_,_,_,_,hra,_,_,_,_,hra,?_⟩
   cases hle:TW v a with
   |false=>
    refine aa (by unfold TW at hle;rw[hle];rfl) ⟨_,_,_,_,hra,_,_,_,_,hra,_,_,_,_,hry,_,_,_,_,hry,?_⟩;rw[sZ a]
    have e:l.take (k+1)++a::l.drop (k+1)=l.take k++a::l.drop k:=by
     rw[List.take_add_one,ha,zF Cu,show l[k]=a from by rw[bC Cu] at ha;exact Option.some.inj ha];simp
    rw[e];refine ih a au fun u hu=> ?_;rw[zF Cu,show l[k]=a from by rw[bC Cu] at ha;exact Option.some.inj ha] at hu;rcases dJ.1 hu with rfl|hu
    ·exact hle
    ·exact hg u hu
   |true=>
    refine ak (by unfold TW at hle;rw[hle];rfl) (JG _ _ _ _ _ _ _ _ ⟨_,_,_,_,hry,_,_,_,_,hry,?_⟩);rw[sZ v];refine⟨?_,rfl⟩;have:=Zq (TW v) v l (hr.cut (k:=k+1) hk hg fun u _ hu=>by rw[Nat.add_sub_cancel,ha] at hu;cases hu;exact hle);rw[show vp l v=Ab (TW v) v l from rfl,←this]
 have h0:(bF (l.map dh)&&fits (Nat.add 0 (l.map dh).length) 40)=true:=by rw[xZ,bR iE];rfl
 have h00:(bF [[iS v.name,iI v.fq,iI v.size,iB v.fx]]&&fits (Nat.succ (l.map dh).length) 40)=true:=by rw[Rz,bR iE];rfl
 have hstart:aj C ee jg 4 0 (jZ (dy (Int.ofNat (List.length (List.append (l.map dh) [[iS v.name,iI v.fq,iI v.size,iB v.fx]]))) 1) v.name v.fq v.size v.fx (List.append (l.map dh) [[iS v.name,iI v.fq,iI v.size,iB v.fx]])) (fun x st=>aH C ee jg x st fun r fs=>(r,fs)=(NT (vp l v),([]:List TV))):=by
  have hk:=key l.length v (cL _) (by rw[gu];intro u hu;cases hu);rw[rj,gu] at hk;rw[ahZ]
  have e:dy (Int.ofNat ((l++[(⟨v.name,v.fq,v.size,v.fx⟩:oO)]).map dh).length) 1=(l.length:Int):=by
   rw[eg iE];simp
  rw[e]
  have eQ:(fun(r:TV) (fs:List TV)=>(r,fs)=(NT (vp l v),([]:List TV)))=fun r fs=>r=NT (vp l v)∧fs=[]:=by
   funext r fs;simp
  rw[eQ];exact hk
 have S:=aa (B:=False) h0 (aa (B:=False) h00 hstart);exact(Ni _ _ _ _ _ _ ⟨(NT (vp l v),[]),⟨(NT (vp l v),[]),S,S,rfl⟩,S,dH⟩).run
theorem jt (p x:bu) (ok:Bool) (hS:aV p≤4194304) (hX:aV x≤4194304):ai C fR [fz p,fz x,vB ok] (Zn (HJ p x ok)) []:=by
 cases ok with
 |true=>exact DF p x hS hX
 |false=>
  refine(IE _ _ _ _ _ _ _ _ _ _ _ _ _ _ ?_).run;exact aa rfl ⟨_,_,_,_,_,_,ck p hS,dH⟩
theorem OC (p:bu) (s:ByteArray) (n:Int) (hS:aV p≤1048576) (hz:s.size≤1048576):ai C Gn [fz p,vS s,vI n] (Zn (Ac p s n)) []:=by
 have hX:aV (KB p s n)≤4194304:=by have:=abq p s n;omega
 have Fx:aV p≤4194304:=by omega
 have hP:=fG Fx;refine(U6 _ _ _ _ _ _ _ _ _ ⟨_,vC p s Fx au,?_⟩).run;unfold Ac
 cases h0:wh p s with
 |false=>exact aa bZ ⟨_,_,_,_,_,_,ck p Fx,dH⟩
 |true=>
  have hPO:cK p=true:=by unfold wh at h0;simp only[dY] at h0;exact h0.1
  have hnx:1≤p.next∧p.next≤61:=by
   have:=hPO;unfold cK at this;simp only[dY] at this;have h:=this.2.2.2.2.1;unfold iU at h;simpa using h
  refine ak bZ ⟨_,iL p s au,?_⟩;simp only[if_true]
  by_cases h1:0≤dU p.aD s
  ·rw[aR h1]
   exact aa (by simpa using h1) ⟨_,_,_,_,_,_,ck p Fx,dH⟩
  ·rw[aJ h1]
   refine ak iE ⟨_,mB n 1 12,?_⟩
   cases h2:iU n 1 12 with
   |false=>exact aa rfl ⟨_,_,_,_,_,_,ck p Fx,dH⟩
   |true=>
    refine ak rfl ⟨_,_,_,_,_,_,ck p Fx,_,_,so p.aY p.next 0 au,_,yR p.aD ⟨s,p.next,n,false⟩ (V3 hPO) au,?_⟩;rw[aO au];exact⟨_,_,_,_,_,_,_,jt p (KB p s n) _ Fx hX,dH⟩
theorem Uh (p:bu) (s to:ByteArray) (fx:Bool) (hS:aV p≤1048576) (hz:s.size≤1048576) (hz2:to.size≤1048576):ai C Mn [fz p,vS s,vS to,vB fx] (Zn (NX p s to fx)) []:=by
 have hX: ∀v,aV (V4 p to (dU p.aD s) v fx)≤4194304:=fun v=>by have:=afV p to (dU p.aD s) v fx;omega
 have Fx:aV p≤4194304:=by omega
 have hP:=fG Fx;refine(aas _ _ _ _ _ _ _ _ _ _ ⟨_,vC p s Fx au,?_⟩).run;unfold NX
 cases h0:wh p s with
 |false=>exact aa bZ ⟨_,_,_,_,_,_,ck p Fx,⟨by simp,by trivial⟩⟩
 |true=>
 have hPO:cK p=true:=by unfold wh at h0;simp only[dY] at h0;exact h0.1
 have hnx:1≤p.next∧p.next≤61:=by
  have:=hPO;unfold cK at this;simp only[dY] at this;have h:=this.2.2.2.2.1;unfold iU at h;simpa using h
 refine ak bZ ⟨_,(ke to au (dR to)).2 rfl,?_⟩
 cases hb:dR to with
 |false=>exact aa rfl ⟨_,_,_,_,_,_,ck p Fx,⟨by simp,by trivial⟩⟩
 |true=>
 rw[aR dH];refine ak rfl ⟨_,iL p s au,?_⟩
 by_cases hn:dU p.aD s<0
 ·rw[gh au]
  exact aa (by simpa using hn) ⟨_,_,_,_,_,_,ck p Fx,dH⟩
 ·obtain⟨v,hv,_⟩:=rL _ p.aD (show ¬fW (fun v:oO=>decide (v.name=s)) p.aD 0<0 from hn)
  have hv:ew p.aD (dU p.aD s)=some v:=hv
  have hrow:rowAt (p.aD.map dh) (dU p.aD s)=some [iS v.name,iI v.fq,iI v.size,iB v.fx]:=by rw[aQ,hv];rfl
  have Ly:=CZ p.aY p.next v.fq;have Ty:zC (p.aD.modify (dU p.aD s).toNat fun u=>{u with fq:=p.next}):=zC.modify (f:=fun u:oO=>{u with fq:=p.next}) (fun _=>rfl) _ (V3 hPO)
  have hml:(p.aD.modify (dU p.aD s).toNat fun u=>{u with fq:=p.next}).length≤4194304:=by rw[NA];omega
  have ha1:aF p.next 1=p.next+1:=aO au;have ha2:aF p.next 2=p.next+2:=aO au;have hXv:=hX v;rw[hv];refine ak (by simpa using hn) ⟨_,iL p to au,?_⟩;simp only[]
  by_cases h1:0≤dU p.aD to
  ·rw[aR h1]
   exact aa (by simpa using h1) ⟨_,_,_,_,_,_,ck p Fx,dH⟩
  ·rw[aJ h1]
   rw[ha1,ha2];refine ak iE ⟨_,_,_,_,_,_,ck p Fx,_,iL p s au,_,_,_,_,hrow,_,_,so p.aY p.next v.fq au,_,_,_,_,hrow,_,_,so (mw p.aY p.next v.fq).1 (p.next+1) v.fq au,_,_,_,_,hrow,_,_,_,_,hrow,_,_,_,_,hrow,?_⟩
   (try dsimp only)
   rw[abm];refine⟨_,yR _ ⟨to,p.next+1,v.size,fx⟩ Ty au,?_⟩
   cases hq:(mw p.aY p.next v.fq).2 with
   |true=>exact aa rfl ⟨_,_,_,_,_,_,_,jt p (V4 p to (dU p.aD s) v fx) _ Fx hXv,dH⟩
   |false=>exact ak rfl ⟨_,_,_,_,_,_,_,jt p (V4 p to (dU p.aD s) v fx) _ Fx hXv,dH⟩
theorem ju (l:List Key) (hl:l.length≤1073741824):ai C aC [eo l] (o8 (cE l)) []:=by
 refine(GQ _ _ ?_).run;unfold cE
 by_cases h:l.length=0
 ·exact aa (by simp[h]) ⟨by rw[aR h];rfl,rfl⟩
 ·refine ak (by rw[cq,vU,cJ];exact lH au) ?_
  rw[show bF (l.map bK)=true from lQ _,bR gZ];exact⟨by rw[aJ h];rfl,rfl⟩
theorem qN (n:List (List Key)) (k:Key) (hb:n.length≤1073740000) (hl:tot c8 n≤1073740000):ai C oU [o8 n,BD k] (tNB (cF n k)) []:=by
 have hs: ∀s∈n,s.length≤1073741824:=fun s hm=>by have:=xE (w:=c8) hm;unfold c8 at this hl;omega
 have X9:=wV n au hs;have hXl:=RI n k;have hXt:=RJ n k
 have tail: ∀(X:List (List Key)) (Q:QV),X=nL n k→Q (tNB (cF n k)) []→ ∃(b22:Bool),ai C bS ([TV.ag [TC.sub 1 (X.map fO)]]) (TV.c (iB b22)) []∧(ax b22 (Q (TV.tu [(1,[TC.sub 1 (X.map fO)]),(0,[iB true])]) ([])) (∃(l23:RR),ai C aN ([TV.ag [TC.sub 1 (n.map fO)]]) (TV.c (TC.sub 5 l23)) []∧(∃(l24:RR),ai C bH ([TV.c (TC.sub 5 l23),BD k]) (TV.c (TC.sub 5 l24)) []∧(∃(l25:RR),ai C cT ([TV.c (TC.sub 5 l24)]) (TV.c (TC.sub 5 l25)) []∧(ax (cP 8 (Int.ofNat (List.length l25))) (∃(l26:RR),ai C bM ([TV.ag [TC.sub 1 (n.map fO)]]) (TV.ag [TC.sub 1 l26]) []∧(Q (TV.tu [(1,[TC.sub 1 l26]),(0,[iB false])]) ([]))) (∃(l27:RR),ai C aC ([TV.c (TC.sub 5 l25)]) (TV.ag [TC.sub 1 l27]) []∧(∃(b28:Bool),ai C bS ([TV.ag [TC.sub 1 l27]]) (TV.c (iB b28)) []∧(ax (!b28) (∃(l29:RR),ai C bM ([TV.ag [TC.sub 1 (n.map fO)]]) (TV.ag [TC.sub 1 l29]) []∧(Q (TV.tu [(1,[TC.sub 1 l29]),(0,[iB false])]) ([]))) (∃(l30:RR),ai C aC ([TV.c (TC.sub 5 l25)]) (TV.ag [TC.sub 1 l30]) []∧(Q (TV.tu [(1,[TC.sub 1 l30]),(0,[iB true])]) ([]))))))))))):=by
  intro X Q hX hQ;rw[←hX] at hXl hXt;have hok:ai C bS [o8 X] (vB (gn X)) []:=wR X au au;have hkl:=qJ n k;have hnl:=Ae (cQ n k);have hnt:=F8 (cQ n k);have an7:ai C bS [o8 (cE (cQ n k))] (vB (gn (cE (cQ n k)))) []:=wR _ au au;refine⟨_,hok,?_⟩;unfold cF at hQ;rw[←hX] at hQ
  cases h1:gn X with
  |true=>
   rw[aR h1] at hQ;exact aa rfl hQ
  |false=>
   rw[aJ (by rw[h1];simp)] at hQ;have g1:=cY n;have g2:=mq (aB n) k;refine ak rfl ⟨_,(eA n au au _).2 rfl,_,kX (aB n) k au,_,vR (eB (aB n) k) au,?_⟩;change ax (cP 8 (Int.ofNat (List.length ((cQ n k).map bK)))) _ _
   by_cases h2:8<(cQ n k).length
   ·rw[aR h2] at hQ
    exact aa iE ⟨_,X9,hQ⟩
   ·rw[aJ h2] at hQ
    refine ak iE ⟨_,ju (cQ n k) au,_,an7,?_⟩
    cases h3:gn (cE (cQ n k)) with
    |true=>
     rw[aR h3] at hQ;exact ak rfl ⟨_,ju (cQ n k) au,hQ⟩
    |false=>
     rw[aJ (by rw[h3];simp)] at hQ;exact aa rfl ⟨_,X9,hQ⟩
 refine(Sy _ _ _ _ _ _ _ ⟨_,X9,?_⟩).run
 (try dsimp only)
 rw[cq]
 cases IJ:n[n.length-1]? with
 |none=>
  have h0:n.length=0:=Classical.byContradiction fun h=>by rw[bC au] at IJ;cases IJ
  have hX:n++[[k]]=nL n k:=by unfold nL;rw[IJ]
  refine ak (by rw[h0,eg bZ];simp) (ak (by rw[h0,eg bZ];simp) (aa (bR iE) ?_));rw[show List.append (n.map fO) [[TC.sub 5 [[iI k.b,iI k.a,iI k.k,iI k.c,iI k.g]]]]=(n++[[k]]).map fO from by simp[fO,bK]];exact tail _ (fun r fs=>r=tNB (cF n k)∧fs=[]) hX dH
 |some s=>
  have hlt:=(List.getElem?_eq_some_iff.1 IJ).1
  have hsub:dy (Int.ofNat n.length) 1=((n.length-1:Nat):Int):=by rw[eg iE];simp;omega
  have hrow:rowAt (n.map fO) ((n.length-1:Nat):Int)=some [TC.sub 5 (s.map bK)]:=by rw[aQ,aK,IJ];rfl
  have hsl:=hs s (iV IJ);have sZ:setRow (n.map fO) ((n.length-1:Nat):Int) 0 [TC.sub 5 ((eB s k).map bK)]=(n.set (n.length-1) (eB s k)).map fO:=IZ (a:=s) (a':=eB s k) IJ rfl
  have an8:List.append (n.map fO) [[TC.sub 5 [[iI k.b,iI k.a,iI k.k,iI k.c,iI k.g]]]]=(n++[[k]]).map fO:=by simp[fO,bK]
  have hfit:fits (Nat.succ n.length) 24=true:=bR iE;rw[hsub];refine aa bZ ⟨_,hrow,_,hrow,_,_,_,_,_,_,Gs s k.b k.a hsl,aa bZ ⟨_,hrow,_,hrow,?_⟩⟩
  by_cases h2:s.length<4
  ·have hX:n.set (n.length-1) (eB s k)=nL n k:=by unfold nL Xg;rw[IJ];simp[h2]
   refine aa iE ⟨_,hrow,_,hrow,_,kX s k hsl,_,hrow,_,hrow,?_⟩;rw[sZ];exact tail _ (fun r fs=>r=tNB (cF n k)∧fs=[]) hX dH
  ·refine ak iE ?_
   cases h1:(Mc s k.b k.a).2 with
   |true=>
    have hX:n.set (n.length-1) (eB s k)=nL n k:=by unfold nL Xg;rw[IJ];simp[h1]
    refine aa rfl ⟨_,hrow,_,hrow,_,kX s k hsl,_,hrow,_,hrow,?_⟩;rw[sZ];exact tail _ (fun r fs=>r=tNB (cF n k)∧fs=[]) hX dH
   |false=>
    have hX:n++[[k]]=nL n k:=by unfold nL Xg;rw[IJ];simp[h1,h2]
    refine ak rfl (aa hfit ?_);rw[an8];exact tail _ (fun r fs=>r=tNB (cF n k)∧fs=[]) hX dH
theorem yS (t:Tree) (i:Nat) (lw:List Int) (nd:List (List (List Key))) (h1:i+1≤t.aA.length) (h2:i+1≤t.nodes.length) (hl:t.aA.length≤1073741824) (hn:t.nodes.length≤1073741824) (hlw:lw.length≤1073741824) (Ya:nd.length≤1073741824):ai C bg [eR t,vI (i:Int),nq lw,afI nd] (eR (mM t i 1 lw nd)) []:=by
 have e1:aq (t.aA.map bA) 0 (i:Int)=(t.aA.take i).map bA:=by rw[cc];rfl
 have e2:aq (t.aA.map bA) ((i:Int)+1) (Int.ofNat (t.aA.map bA).length)=(t.aA.drop (i+1)).map bA:=by
  rw[cc,cq,show((i:Int)+1).toNat=i+1 from by omega,show(Int.ofNat t.aA.length).toNat=t.aA.length from rfl,rj]
 have e3:aq (t.nodes.map bn) 0 (i:Int)=(t.nodes.take i).map bn:=by rw[cc];rfl
 have ea:aF (i:Int) 1=(i:Int)+1:=aO au
 have k1:(t.aA.take i).length≤t.aA.length:=by rw[c7];omega
 have k2:(t.aA.drop (i+1)).length≤t.aA.length:=by rw[gQ];omega
 have k3:(t.nodes.take i).length≤t.nodes.length:=by rw[c7];omega
 have k4:(t.nodes.drop (i+1)).length≤t.nodes.length:=by rw[gQ];omega
 have e4:aq (t.nodes.map bn) ((i:Int)+1) (Int.ofNat (t.nodes.map bn).length)=(t.nodes.drop (i+1)).map bn:=by
  rw[cc,cq,show((i:Int)+1).toNat=i+1 from by omega,show(Int.ofNat t.nodes.length).toNat=t.nodes.length from rfl,rj]
 refine(XW _ _ _ _ _ _ ?_).run;rw[ea,e1,e2,e3,e4,jL,jL,jL,jL]
 refine aa iE (aa iE (aa (by rw[iG,bR iE];rfl) (aa (by rw[iG,bR (by simp only[cq,qi];omega)];rfl) (aa (by rw[iG,bR (by simp only[cq,ct,qi];omega)];rfl)
  (aa iE (aa iE (aa (bR iE) (aa (bR (by simp only[cq,qi];omega)) (aa (bR (by simp only[cq,ct,qi];omega)) ?_)))))))))
 exact dH
def Iv:Option Nat→Int
 |some i=>i
 |none=> -1
theorem sq (t:Tree) (hn:t.nodes.length≤1073741824) (hz:tot aW t.nodes≤1073740000):ai C gm [eR t] (vI (Iv (mz t))) []:=by
 refine(Ux _ _ _ ?_).run
 have key: ∀(d i:Nat),i+d=t.nodes.length→wo t d i=mz t→aj C gm aG 4 0 (sy (i:Int) (t.aA.map bA) (t.nodes.map bn)) (fun x st=>aH C gm aG x st fun r fs=>r=vI (Iv (mz t))∧fs=[]):=by
  intro d
  induction d with
  |zero=>
   intro i h he;have ea:aF (i:Int) 1=(i:Int)+1:=aO au;refine ET _ _ _ _ ?_;rw[ea];exact ak iE (EU _ _ _ _ _ ⟨by rw[←he];rfl,rfl⟩)
  |succ d ih=>
   intro i h he;have ea:aF (i:Int) 1=(i:Int)+1:=aO au
   have ec:(i:Int)+1=((i+1:Nat):Int):=by omega
   unfold wo at he;refine ET _ _ _ _ ?_;rw[ea,ec]
   by_cases h1:i+1<t.nodes.length
   ·rw[aR h1] at he
    obtain⟨a,ha⟩: ∃a,t.nodes[i]?=some a:=⟨_,bC au⟩;obtain⟨b,hb⟩: ∃b,t.nodes[i+1]?=some b:=⟨_,bC h1⟩;have za:a.length+tot c8 a≤tot aW t.nodes:=qH (w:=aW) ha;have zb:b.length+tot c8 b≤tot aW t.nodes:=qH (w:=aW) hb
    have ka:jf t i=aB a:=by unfold jf;rw[oG,ha];rfl
    have kb:jf t (i+1)=aB b:=by unfold jf;rw[oG,hb];rfl
    have la:=cY a;have lb:=cY b;rw[ka,kb] at he;refine aa iE ⟨_,by rw[aQ,aK,ha];rfl,_,by rw[aQ,aK,hb];rfl,_,(eA a au au _).2 rfl,_,(eA b au au _).2 rfl,?_⟩
    (try dsimp only)
    rw[cq,cq,show aF (Int.ofNat (aB a).length) (Int.ofNat (aB b).length)=((aB a).length:Int)+(aB b).length from aO iE]
    by_cases h2:(aB a).length+(aB b).length≤6
    ·rw[aR h2] at he
     exact aa iE (O2 _ _ _ _ _ _ ⟨by rw[←he];rfl,rfl⟩)
    ·rw[aJ h2] at he
     exact ak iE (ih (i+1) au he)
   ·rw[aJ h1] at he
    exact ak iE (EU _ _ _ _ _ ⟨by rw[←he];rfl,rfl⟩)
 exact key t.nodes.length 0 au rfl
theorem OD (t0:Tree) (hw0:t0.aA.length=t0.nodes.length) (Qg:tot aW t0.nodes+t0.nodes.length≤1073700000):ai C aE [eR t0] (eR (j8 t0.nodes.length t0)) []:=by
 refine(U0 _ _ _ ⟨_,sq t0 au au,?_⟩).run
 have key: ∀(m:Nat) (t:Tree),t.nodes.length=m→t.aA.length=t.nodes.length→tot aW t.nodes+t.nodes.length≤1073700000→j8 m t=j8 t0.nodes.length t0→aj C aE aG 4 0 (pI (Iv (mz t)) (t.aA.map bA) (t.nodes.map bn)) (fun x st=>aH C aE aG x st fun r fs=>r=eR (j8 t0.nodes.length t0)∧fs=[]):=by
  intro m
  induction m with
  |zero=>
   intro t hm hw hz he
   have hp:mz t=none:=by unfold mz;rw[hm];rfl
   rw[hp];exact w5 _ _ _ _ (ak (by simp[Iv]) (Fh _ _ _ _ _ ⟨by rw[←he];rfl,rfl⟩))
  |succ m ih=>
   intro t hm hw hz he;rw[vr] at he
   cases hp:mz t with
   |none=>
    rw[hp] at he;have he:t=j8 t0.nodes.length t0:=he;exact w5 _ _ _ _ (ak (by simp[Iv]) (Fh _ _ _ _ _ ⟨by rw[←he],rfl⟩))
   |some i=>
   rw[hp] at he;have he:j8 m (cv t i)=j8 t0.nodes.length t0:=he;have hlt:=x9 hp;show aj C aE aG 4 0 (pI (i:Int) (t.aA.map bA) (t.nodes.map bn)) _;obtain⟨a,ha⟩: ∃a,t.nodes[i]?=some a:=⟨_,bC au⟩;obtain⟨b,hb⟩: ∃b,t.nodes[i+1]?=some b:=⟨_,bC hlt.1⟩;have za:a.length+tot c8 a≤tot aW t.nodes:=qH (w:=aW) ha;have zb:b.length+tot c8 b≤tot aW t.nodes:=qH (w:=aW) hb;have la:=cY a;have lb:=cY b;have h6:=hlt.2;rw[fU ha,fU hb] at h6
   have ea:aF (i:Int) 1=((i+1:Nat):Int):=by rw[aO au];omega
   have eb:aF (i:Int) 2=((i+2:Nat):Int):=by rw[aO au];omega
   have ra:rowAt (t.nodes.map bn) (i:Int)=some [TC.sub 1 (a.map fO)]:=by rw[aQ,aK,ha];rfl
   have rb:rowAt (t.nodes.map bn) ((i+1:Nat):Int)=some [TC.sub 1 (b.map fO)]:=by rw[aQ,aK,hb];rfl
   have c1:aq (t.aA.map bA) 0 ((i+1:Nat):Int)=(t.aA.take (i+1)).map bA:=by rw[cc];rfl
   have c2:aq (t.aA.map bA) ((i+2:Nat):Int) (Int.ofNat (t.aA.map bA).length)=(t.aA.drop (i+2)).map bA:=by
    rw[cc,cq,oF,show(Int.ofNat t.aA.length).toNat=t.aA.length from rfl,rj]
   have c3:aq (t.nodes.map bn) 0 (i:Int)=(t.nodes.take i).map bn:=by rw[cc];rfl
   have c4:aq (t.nodes.map bn) ((i+2:Nat):Int) (Int.ofNat (t.nodes.map bn).length)=(t.nodes.drop (i+2)).map bn:=by
    rw[cc,cq,oF,show(Int.ofNat t.nodes.length).toNat=t.nodes.length from rfl,rj]
   have hlo:i<t.aA.length:=by omega
   have eL:List.append ((t.aA.take (i+1)).map bA) ((t.aA.drop (i+2)).map bA)=(cv t i).aA.map bA:=by
    rw[jL];unfold cv mM;simp only[];rw[List.take_add_one,oG,bC hlo];simp
   have eN:List.append (List.append ((t.nodes.take i).map bn) [[TC.sub 1 ((cE (aB a++aB b)).map fO)]]) ((t.nodes.drop (i+2)).map bn)=(cv t i).nodes.map bn:=by
    rw[BF,jL];unfold cv mM;simp only[];rw[fU ha,fU hb]
   have hsz:=Ah hlt.1;have hjl:=uu hlt.1
   have hjw:(cv t i).aA.length+1=t.aA.length:=by
    have:=yF t i 2 [t.aA.getD i 0] [cE (jf t i++jf t (i+1))] au;unfold cv;simp only[ic] at this;omega
   have k1:(t.aA.take (i+1)).length≤t.aA.length:=by rw[c7];omega
   have k2:(t.aA.drop (i+2)).length≤t.aA.length:=by rw[gQ];omega
   have k3:(t.nodes.take i).length≤t.nodes.length:=by rw[c7];omega
   have k4:(t.nodes.drop (i+2)).length≤t.nodes.length:=by rw[gQ];omega
   refine w5 _ _ _ _ (aa bZ ?_);rw[ea,eb];refine⟨_,ra,_,ra,_,rb,_,rb,_,(eA a au au _).2 rfl,_,(eA b au au _).2 rfl,?_⟩
   (try dsimp only)
   rw[jL,c1,c2,c3,c4]
   refine aa (by rw[lQ,bR (by simp only[cq,qi];omega)];rfl) (aa iE (aa iE (aa (by rw[iG,bR (by simp only[cq,qi];omega)];rfl) (aa (by rw[iG,bR (by simp only[cq,qi];omega)];rfl)
    (aa iE (aa iE (aa (bR (by simp only[cq,qi];omega)) ⟨_,ju (aB a++aB b) (by rw[ct];omega),aa (bR (by simp only[cq,Nat.succ_eq_add_one];omega)) ?_⟩)))))))
   rw[eL,eN];refine aa (bR (by rw[BF];simp only[cq,ct,ic,qi];omega)) ⟨_,sq (cv t i) au au,?_⟩;exact ih (cv t i) au au au he
 cases hp:mz t0 with
 |none=>
  have hj:j8 t0.nodes.length t0=t0:=by
   cases hm:t0.nodes.length with
   |zero=>rfl
   |succ m=>rw[vr,hp]
  exact Fg _ _ _ _ (ak (by simp[Iv]) (PG _ _ _ _ _ ⟨by rw[hj],rfl⟩))
 |some i=>
  have hlt:=x9 hp;obtain⟨t,ht⟩: ∃t,t=t0:=⟨_,rfl⟩;rw[←ht] at hlt hw0 Qg hp ⊢;show aj C aE aG 4 0 (wZ (i:Int) (t.aA.map bA) (t.nodes.map bn)) _;obtain⟨a,ha⟩: ∃a,t.nodes[i]?=some a:=⟨_,bC au⟩;obtain⟨b,hb⟩: ∃b,t.nodes[i+1]?=some b:=⟨_,bC hlt.1⟩;have za:a.length+tot c8 a≤tot aW t.nodes:=qH (w:=aW) ha;have zb:b.length+tot c8 b≤tot aW t.nodes:=qH (w:=aW) hb;have la:=cY a;have lb:=cY b;have h6:=hlt.2;rw[fU ha,fU hb] at h6
  have ea:aF (i:Int) 1=((i+1:Nat):Int):=by rw[aO au];omega
  have eb:aF (i:Int) 2=((i+2:Nat):Int):=by rw[aO au];omega
  have ra:rowAt (t.nodes.map bn) (i:Int)=some [TC.sub 1 (a.map fO)]:=by rw[aQ,aK,ha];rfl
  have rb:rowAt (t.nodes.map bn) ((i+1:Nat):Int)=some [TC.sub 1 (b.map fO)]:=by rw[aQ,aK,hb];rfl
  have c1:aq (t.aA.map bA) 0 ((i+1:Nat):Int)=(t.aA.take (i+1)).map bA:=by rw[cc];rfl
  have c2:aq (t.aA.map bA) ((i+2:Nat):Int) (Int.ofNat (t.aA.map bA).length)=(t.aA.drop (i+2)).map bA:=by
   rw[cc,cq,oF,show(Int.ofNat t.aA.length).toNat=t.aA.length from rfl,rj]
  have c3:aq (t.nodes.map bn) 0 (i:Int)=(t.nodes.take i).map bn:=by rw[cc];rfl
  have c4:aq (t.nodes.map bn) ((i+2:Nat):Int) (Int.ofNat (t.nodes.map bn).length)=(t.nodes.drop (i+2)).map bn:=by
   rw[cc,cq,oF,show(Int.ofNat t.nodes.length).toNat=t.nodes.length from rfl,rj]
  have hlo:i<t.aA.length:=by omega
  have eL:List.append ((t.aA.take (i+1)).map bA) ((t.aA.drop (i+2)).map bA)=(cv t i).aA.map bA:=by
   rw[jL];unfold cv mM;simp only[];rw[List.take_add_one,oG,bC hlo];simp
  have eN:List.append (List.append ((t.nodes.take i).map bn) [[TC.sub 1 ((cE (aB a++aB b)).map fO)]]) ((t.nodes.drop (i+2)).map bn)=(cv t i).nodes.map bn:=by
   rw[BF,jL];unfold cv mM;simp only[];rw[fU ha,fU hb]
  have hsz:=Ah hlt.1;have hjl:=uu hlt.1
  have hjw:(cv t i).aA.length+1=t.aA.length:=by
   have:=yF t i 2 [t.aA.getD i 0] [cE (jf t i++jf t (i+1))] au;unfold cv;simp only[ic] at this;omega
  have k1:(t.aA.take (i+1)).length≤t.aA.length:=by rw[c7];omega
  have k2:(t.aA.drop (i+2)).length≤t.aA.length:=by rw[gQ];omega
  have k3:(t.nodes.take i).length≤t.nodes.length:=by rw[c7];omega
  have k4:(t.nodes.drop (i+2)).length≤t.nodes.length:=by rw[gQ];omega
  refine Fg _ _ _ _ (aa bZ ?_);rw[ea,eb];refine⟨_,ra,_,rb,_,(eA a au au _).2 rfl,_,(eA b au au _).2 rfl,?_⟩
  (try dsimp only)
  rw[jL,c1,c2,c3,c4]
  refine aa (by rw[lQ,bR (by simp only[cq,qi];omega)];rfl) (aa iE (aa iE (aa (by rw[iG,bR (by simp only[cq,qi];omega)];rfl) (aa (by rw[iG,bR (by simp only[cq,qi];omega)];rfl)
   (aa iE (aa iE (aa (bR (by simp only[cq,qi];omega)) ⟨_,ju (aB a++aB b) (by rw[ct];omega),aa (bR (by simp only[cq,Nat.succ_eq_add_one];omega)) ?_⟩)))))))
  rw[eL,eN];refine aa (bR (by rw[BF];simp only[cq,ct,ic,qi];omega)) ⟨_,sq (cv t i) au au,?_⟩;refine ht▸key (cv t i).nodes.length (cv t i) rfl au au ?_;rw[←ht]
  have:t.nodes.length=(cv t i).nodes.length+1:=by omega
  rw[this];rw[vr,hp]
theorem alA {n:Nat} (h:n≤1073741824):dW .i64 (aF (Int.ofNat n) 1) 2=(((n+1)/2:Nat):Int):=by
 rw[aO gZ];unfold dW;rw[Int.tdiv_eq_ediv_of_nonneg gZ,show IntKind.wrap .i64 ((Int.ofNat n+1)/2)=(Int.ofNat n+1)/2 from IntWalk.i64_in _ gZ];simp
theorem qO (t:Tree) (k:Key) (hz:dZ t≤4194304):ai C jo [eR t,BD k] (FF (bB t k)) []:=by
 have hN:=Aq hz;have X9:ai C cH [eR t] (eR t) []:=sn t hN.1 hN.2;refine(SV _ _ _ _ _ _ _ _ ⟨_,_,X9,_,sj t au,?_⟩).run
 cases h1:de t with
 |false=>exact aa rfl ⟨by unfold bB;rw[aJ (by rw[h1];simp)],rfl⟩
 |true=>
 refine ak rfl ⟨_,(xV _ _ _ _ _ _).2 rfl,?_⟩;change ax (!fM k) _ _
 cases h2:fM k with
 |false=>exact aa rfl ⟨by unfold bB;rw[aJ (by rw[h2];simp)],rfl⟩
 |true=>
 obtain⟨i,hi,hil⟩:=RT h1 h2;have hlen:=nM h1
 have hw:ai C eF [eR t,vI k.b,vI k.a] (vI (i:Int)) []:=by rw[←hi];exact vA t k.b k.a au
 have hrow:rowAt (t.nodes.map bn) (i:Int)=some [TC.sub 1 (t.nodes[i].map fO)]:=by rw[aQ,aK,bC hil];rfl
 have Yd:rowAt (t.aA.map bA) (i:Int)=some [iI (t.aA.getD i 0)]:=by
  rw[aQ,aK,oG,bC au];rfl
 have hg:t.nodes.getD i []=t.nodes[i]:=by rw[oG,bC hil];rfl
 have hok:=qv h1 (tV hil);have hsz:=og hok;have hps:=F9 t.nodes[i] k;have hpt:=Ga t.nodes[i] k;have hkl:=qJ t.nodes[i] k;have hnk:=cY t.nodes[i];obtain⟨hp1,X8,hp3⟩:=ZD (k:=k) h1 hil
 have hR:bB t k=if de (j8 (jN t i k).nodes.length (jN t i k))=true then(j8 (jN t i k).nodes.length (jN t i k),true) else(t,false):=by
  unfold bB;rw[aR ⟨h1,h2⟩,hi,oF]
 have fin: ∀Q:QV,Q (FF (bB t k)) []→ ∃(l39 l40:RR),ai C aE [eR (jN t i k)] (.ag [.sub 1 l39,.sub 1 l40]) []∧(∃b:Bool,ai C aI [.ag [.sub 1 l39,.sub 1 l40]] (vB b) []∧(ax (!b) (Q (.tu [(1,afH t),(0,[iB false])]) []) (Q (.tu [(1,[.sub 1 l39,.sub 1 l40]),(0,[iB true])]) []))):=by
  intro Q hQ;refine⟨_,_,OD (jN t i k) X8 au,_,sj _ au,?_⟩;rw[hR] at hQ
  cases h3:de (j8 (jN t i k).nodes.length (jN t i k)) with
  |true=>rw[aR h3] at hQ;exact ak rfl hQ
  |false=>rw[aJ (by rw[h3];simp)] at hQ;exact aa rfl hQ
 have np:=qN t.nodes[i] k au au;have hx:=yS t i [t.aA.getD i 0] [(cF t.nodes[i] k).1] au au au au bZ bZ;refine ak rfl ⟨_,hw,_,hrow,?_⟩
 cases hp:(cF t.nodes[i] k).2 with
 |false=>
  have hno:=(Ja hok h2 hp).1
  have cno:(!(cF t.nodes[i] k).2)=true:=by rw[hp];rfl
  obtain⟨ks,hks⟩: ∃ks,ks=cQ t.nodes[i] k:=⟨_,rfl⟩;rw[←hks] at hno hkl;have hh:=Xk hno;obtain⟨h,hhe⟩: ∃h,h=(ks.length+1)/2:=⟨_,rfl⟩
  have hq:dW .i64 (aF (Int.ofNat (List.length (ks.map bK))) 1) 2=(h:Int):=by rw[cq,alA au,hhe]
  have hkk:rowAt (ks.map bK) (h:Int)=some [iI (ks.getD h eK).b,iI (ks.getD h eK).a,iI (ks.getD h eK).k,iI (ks.getD h eK).c,iI (ks.getD h eK).g]:=by
   rw[aQ,aK,oG,bC au];rfl
  have ep:jN t i k=mM t i 1 [t.aA.getD i 0,dz (ks.getD h eK).b (ks.getD h eK).a] [cE (ks.take h),cE (ks.drop h)]:=by
   unfold jN;rw[hg,aJ (by rw[hp];simp),←hks,←hhe]
  have rp:=yS t i [t.aA.getD i 0,dz (ks.getD h eK).b (ks.getD h eK).a] [cE (ks.take h),cE (ks.drop h)] au au au au bZ bZ;rw[←ep] at rp
  have e1:aq (ks.map bK) 0 (h:Int)=(ks.take h).map bK:=by rw[cc];rfl
  have e2:aq (ks.map bK) (h:Int) (Int.ofNat (List.length (ks.map bK)))=(ks.drop h).map bK:=by
   rw[cc,cq,oF,show(Int.ofNat ks.length).toNat=ks.length from rfl,rj]
  have nn1:ai C aC [.c (.sub 5 (aq (ks.map bK) 0 (h:Int)))] (o8 (cE (ks.take h))) []:=by rw[e1];exact ju _ (by rw[c7];omega)
  have nn2:ai C aC [.c (.sub 5 (aq (ks.map bK) (h:Int) (Int.ofNat (List.length (ks.map bK)))))] (o8 (cE (ks.drop h))) []:=by rw[e2];exact ju _ (by rw[gQ];omega)
  have c1:eP 0 (h:Int) (Int.ofNat (List.length (ks.map bK)))=true:=by rw[F4];simp;omega
  have c2:eP (h:Int) (Int.ofNat (List.length (ks.map bK))) (Int.ofNat (List.length (ks.map bK)))=true:=by rw[F4];simp;omega
  have kw:ai C cT [eo (eB (aB t.nodes[i]) k)] (eo ks) []:=by
   rw[hks];exact vR (eB (aB t.nodes[i]) k) (by have:=mq (aB t.nodes[i]) k;omega)
  clear hks hhe hR
  repeat' first
   |refine⟨_,hrow,?_⟩
   |refine⟨_,Yd,?_⟩
   |refine⟨_,_,np,?_⟩
   |refine⟨_,_,hx,?_⟩
   |refine aa cno ?_
   |refine⟨_,kw,?_⟩
   |refine⟨_,(eA t.nodes[i] au au _).2 rfl,?_⟩
   |refine⟨_,kX (aB t.nodes[i]) k au,?_⟩
   |refine ak (by rw[cJ];rfl) ?_
   |rw[hq]
   |refine⟨_,_,_,_,_,hkk,?_⟩
   |refine aa c1 ?_
   |refine aa c2 ?_
   |refine⟨_,(vT _ _ _ _ _ _).2 rfl,?_⟩
   |refine⟨_,nn1,?_⟩
   |refine⟨_,nn2,?_⟩
   |refine⟨_,_,rp,?_⟩
   |refine⟨(FF (bB t k),([]:List TV)),?_,?_,rfl⟩
   |refine⟨(FF (bB t k),([]:List TV)),?_,?_,dH⟩
   |exact fin (fun a b=>(a,b)=(FF (bB t k),([]:List TV))) rfl
   |exact fin (fun r fs=>r=FF (bB t k)∧fs=[]) dH
 |true=>
  have cno:(!(cF t.nodes[i] k).2)=false:=by rw[hp];rfl
  by_cases hc:0<i∧(aB (cF t.nodes[i] k).1).length=0
  ·have ci:cP 0 (i:Int)=true:=by rw[mO];simp;omega
   have nk:=(eA (cF t.nodes[i] k).1 au au _).2 rfl
   have cl:cO (Int.ofNat (List.length ((aB (cF t.nodes[i] k).1).map bK))) 0=true:=by rw[cJ,cq,hc.2];rfl
   have ep:jN t i k=mM t i 1 [] []:=by unfold jN;rw[hg,aR hp,aR hc]
   have rp:=yS t i [] [] au au au au bZ bZ;rw[←ep] at rp;clear hR
   repeat' first
   |refine⟨_,hrow,?_⟩
   |refine⟨_,Yd,?_⟩
   |refine⟨_,_,np,?_⟩
   |refine⟨_,_,hx,?_⟩
   |refine ak cno ?_
   |refine aa ci ?_
   |refine⟨_,nk,?_⟩
   |refine aa cl ?_
   |refine⟨_,_,rp,?_⟩
   |refine⟨(FF (bB t k),([]:List TV)),?_,?_,rfl⟩
   |refine⟨(FF (bB t k),([]:List TV)),?_,?_,dH⟩
   |exact fin (fun a b=>(a,b)=(FF (bB t k),([]:List TV))) rfl
   |exact fin (fun r fs=>r=FF (bB t k)∧fs=[]) dH
  ·have ep:mM t i 1 [t.aA.getD i 0] [(cF t.nodes[i] k).1]=jN t i k:=by
    unfold jN;rw[hg,aR hp,aJ hc]
   rw[ep] at hx;clear hR
   by_cases hi0:0<i
   ·have ci:cP 0 (i:Int)=true:=by rw[mO];simp;omega
    have nk:=(eA (cF t.nodes[i] k).1 au au _).2 rfl
    have cl:cO (Int.ofNat (List.length ((aB (cF t.nodes[i] k).1).map bK))) 0=false:=by
     rw[cJ,cq];exact lH fun e=>hc ⟨hi0,by have e:((aB (cF t.nodes[i] k).1).length:Int)=0:=e;omega⟩
    repeat' first
   |refine⟨_,hrow,?_⟩
   |refine⟨_,Yd,?_⟩
   |refine⟨_,_,np,?_⟩
   |refine⟨_,_,hx,?_⟩
   |refine ak cno ?_
   |refine aa ci ?_
   |refine⟨_,nk,?_⟩
   |refine ak cl ?_
   |refine⟨(FF (bB t k),([]:List TV)),?_,?_,rfl⟩
   |refine⟨(FF (bB t k),([]:List TV)),?_,?_,dH⟩
   |exact fin (fun a b=>(a,b)=(FF (bB t k),([]:List TV))) rfl
   |exact fin (fun r fs=>r=FF (bB t k)∧fs=[]) dH
   ·have ci:cP 0 (i:Int)=false:=by rw[mO];simp;omega
    repeat' first
   |refine⟨_,hrow,?_⟩
   |refine⟨_,Yd,?_⟩
   |refine⟨_,_,np,?_⟩
   |refine⟨_,_,hx,?_⟩
   |refine ak cno ?_
   |refine ak ci ?_
   |refine⟨(FF (bB t k),([]:List TV)),?_,?_,rfl⟩
   |refine⟨(FF (bB t k),([]:List TV)),?_,?_,dH⟩
   |exact fin (fun a b=>(a,b)=(FF (bB t k),([]:List TV))) rfl
   |exact fin (fun r fs=>r=FF (bB t k)∧fs=[]) dH
theorem MH (p:bu) (k:Key) (b:Bool) (hc:p.cells.length≤1073741824):ai C Dg [.bx (Ks p),BD k,vB b] (.tu []) [.bx (Ks ⟨p.t,p.aY,if b=true∧k.k=1 then lD p.cells k.c else p.cells,p.aD,p.next⟩)]:=by
 refine(Ta _ _ _ _ _ _ _ _ _ _ _ _ _ ?_).run
 cases b with
 |false=>exact ak rfl dH
 |true=>
  refine aa rfl ?_
  by_cases h:k.k=1
  ·exact aa (by rw[cJ];exact lB h) ⟨_,uK p.cells k.c hc,rfl,by rw[aR ⟨rfl,h⟩]⟩
  ·exact ak (by rw[cJ];exact lH h) ⟨rfl,by rw[aJ fun e=>h e.2]⟩
theorem sr (p:bu) (hS:aV p≤4194304) (k:Key):ai C nv [.bx (Ks p),BD k] (vB (hJ p k).2) [.bx (Ks (hJ p k).1)]:=by
 have hP:=fG hS;have ta:=wU p.t k.b k.a au;have tp:=qO p.t k au;obtain⟨T,b,hT⟩: ∃T b,bB p.t k=(T,b):=⟨_,_,rfl⟩;obtain⟨o,f,hO⟩: ∃o f,yC p.t k.b k.a=(o,f):=⟨_,_,rfl⟩
 have e:hJ p k=if b=true then(⟨T,p.aY,if f=true∧o.k=1 then lD p.cells o.c else p.cells,p.aD,p.next⟩,true) else(p,false):=by
  unfold hJ KF;rw[hT,hO]
 have hno:=C2 (t:=p.t) (k:=k);rw[hT] at tp hno;rw[hO] at ta;rw[e];refine(Vb _ _ _ _ _ _ _ _ _ _ _ _ ?_).run
 cases b with
 |false=>
  have hno:T=p.t:=hno rfl;subst hno;rw[aJ bZ];exact eC
 |true=>
  rw[aR rfl];have dr:=MH ⟨T,p.aY,p.cells,p.aD,p.next⟩ o f (by simp only[];omega);exact eC
theorem abJ {l:List oO} {s:ByteArray} (h:dU l s<0):ew l (dU l s)=none:=gh au
theorem uN (p:bu) (s:ByteArray) (b:Int) (hS:aV p≤4194304) (hz:s.size≤140737488355328):ai C rP [fz p,vS s,vI b] (vI (mQ p s b)) []:=by
 have hP:=fG hS;have hva:=iL p s au;have hvl:=DG p s hS hz;refine(PN _ _ _ _ _ _ _ _ _ ?_).run;unfold mQ
 by_cases h1:wh p s=true
 ·rw[aR h1] at hvl ⊢
  by_cases h2:dU p.aD s<0
  ·rw[aR h2] at hvl
   rw[abJ h2];exact eC
  ·rw[aJ h2] at hvl
   obtain⟨v,hv⟩:=Sg h2;have hsz:=NW (wj (by unfold wh at h1;simp only[dY] at h1;exact h1.1)) hv
   have hrv:rowAt (p.aD.map dh) (dU p.aD s)=some [iS v.name,iI v.fq,iI v.size,iB v.fx]:=by rw[aQ,hv];rfl
   have hin:=mB b 0 (v.size-1);have hsub:dy v.size 1=v.size-1:=eg au;rw[hv];simp only[]
   cases h3:v.fx with
   |true=>
    rw[h3] at hrv;rw[aR rfl];exact eC
   |false=>
    rw[h3] at hrv;rw[aJ bZ]
    cases h4:iU b 0 (v.size-1) with
    |true=>
     rw[h4,←hsub] at hin;rw[aR rfl];exact eC
    |false=>
     rw[h4,←hsub] at hin;rw[aJ bZ];exact eC
 ·rw[aJ h1] at hvl ⊢
  exact eC
theorem KX {l:List Cell} {n i:Int} {cs:List Cell} (h:jM l n=(cs,i,true)): ∃c,ew cs i=some c∧acM cs i=c.g:=by
 have h0:gK l=true∧jj n=true∧0≤jS l:=Classical.byContradiction fun hn=>by
  rw[wg hn] at h;cases h
 rw[CY h0] at h;obtain⟨rfl,h2⟩:=Prod.mk.inj h;obtain⟨rfl,_⟩:=Prod.mk.inj h2;have hl: -1≤jS l∧jS l<l.length:=Qv Mb l;obtain⟨c,hc⟩:=eT (l:=l.modify (jS l).toNat fun c=>⟨c.g,true,n⟩) h0.2.2 (by rw[NA];exact hl.2);exact⟨c,hc,by unfold acM;rw[hc]⟩
theorem Si (p:bu) (s:ByteArray) (b n:Int) (hS:aV p≤1048576) (hz:s.size≤1048576):ai C Jk [fz p,vS s,vI b,vI n] (Zn (sR p s b n)) []:=by
 have Fx:aV p≤4194304:=by omega
 have hP:=fG Fx;have X9:=ck p Fx;have hva:=iL p s au;have hbl:=uN p s b Fx au;have zp:=(rU n (jj n)).2 rfl;refine(XZ _ _ _ _ _ _ _ _ _ _ ?_).run
 by_cases h1:mQ p s b=0
 ·rw[h1] at hbl
  obtain⟨v,hv,_⟩:=Gd h1
  have hrv:rowAt (p.aD.map dh) (dU p.aD s)=some [iS v.name,iI v.fq,iI v.size,iB v.fx]:=by rw[aQ,hv];rfl
  cases h2:jj n with
  |false=>
   rw[h2] at zp
   have e:sR p s b n=(p,4):=by unfold sR;rw[aR h1,aJ (by rw[h2];simp)]
   rw[e];exact eC
  |true=>
   rw[h2] at zp;have tk:=uL p.cells n au;obtain⟨cs,i,ok,zw⟩: ∃cs i ok,jM p.cells n=(cs,i,ok):=⟨_,_,_,rfl⟩
   have hcl:cs.length=p.cells.length:=by have:=Kz p.cells n;rw[zw] at this;exact this
   have hX:aV ⟨p.t,p.aY,cs,p.aD,p.next⟩≤2000000:=by unfold aV at hS ⊢;simp only[];omega
   rw[zw] at tk
   cases ok with
   |false=>
    have e:sR p s b n=(p,6):=by unfold sR;rw[aR h1,aR h2,hv];simp only[];rw[zw];rfl
    have en:=jt p ⟨p.t,p.aY,cs,p.aD,p.next⟩ false Fx au;rw[e];exact eC
   |true=>
    obtain⟨c,hc,akC⟩:=KX zw
    have hrc:rowAt (cs.map cC) i=some [iI c.g,iB c.u,iI c.n]:=by rw[aQ,hc];rfl
    have pk:=sr ⟨p.t,p.aY,cs,p.aD,p.next⟩ au ⟨b,v.fq,1,i,c.g⟩;have hpz:=yH ⟨p.t,p.aY,cs,p.aD,p.next⟩ ⟨b,v.fq,1,i,c.g⟩
    have e:sR p s b n=HJ p (hJ ⟨p.t,p.aY,cs,p.aD,p.next⟩ ⟨b,v.fq,1,i,c.g⟩).1 (hJ ⟨p.t,p.aY,cs,p.aD,p.next⟩ ⟨b,v.fq,1,i,c.g⟩).2:=by
     unfold sR;rw[aR h1,aR h2,hv];simp only[];unfold abt;rw[zw];simp only[];rw[akC];rfl
    rw[e];generalize hJ ⟨p.t,p.aY,cs,p.aD,p.next⟩ ⟨b,v.fq,1,i,c.g⟩=X at*;have en:=jt p X.1 X.2 Fx au;exact eC
 ·have c1:cO (mQ p s b) 0=false:=by rw[cJ];exact lH h1
  have c2:(!cO (mQ p s b) 0)=true:=by rw[c1];rfl
  have e:sR p s b n=(p,mQ p s b):=by unfold sR;rw[aJ h1]
  rw[e];exact eC
theorem xp (p:bu) (hS:aV p≤4194304) (i b:Int) (v:oO) (hv:ew p.aD i=some v):ai C si [.bx (Ks p),vI i,vI b] (vB (eU p v.fq b).2) [.bx (Ks (eU p v.fq b).1)]:=by
 have hP:=fG hS
 have hrv:rowAt (p.aD.map dh) i=some [iS v.name,iI v.fq,iI v.size,iB v.fx]:=by rw[aQ,hv];rfl
 have sa:=yP p.t p.aY b v.fq au au;have ta:=wU p.t b v.fq au;have pg:=sr p hS ⟨b,v.fq,2,0,0⟩;have pn:=sr p hS ⟨b,v.fq,0,0,0⟩;obtain⟨a,f,hA⟩: ∃a f,x8 p.t p.aY b v.fq=(a,f):=⟨_,_,rfl⟩;obtain⟨o,q,hO⟩: ∃o q,yC p.t b v.fq=(o,q):=⟨_,_,rfl⟩
 have e:eU p v.fq b=if f=true∧a.k=1 then hJ p ⟨b,v.fq,2,0,0⟩ else if q=true then hJ p ⟨b,v.fq,0,0,0⟩ else(p,true):=by
  unfold eU;rw[hA,hO]
 rw[hA] at sa;rw[hO] at ta;rw[e];generalize hJ p ⟨b,v.fq,2,0,0⟩=X at*;generalize hJ p ⟨b,v.fq,0,0,0⟩=Y at*;refine(Lk _ _ _ _ _ _ _ _ _ ?_).run
 by_cases h1:f=true∧a.k=1
 ·obtain⟨rfl,ha⟩:=h1
  have ce:cO a.k 1=true:=by rw[cJ];exact lB ha
  rw[aR ⟨rfl,ha⟩];exact eC
 ·rw[aJ h1]
  have ce:f=true→cO a.k 1=false:=fun hf=>by rw[cJ];exact lH fun ha=>h1 ⟨hf,ha⟩
  cases f with
  |false=>
   cases q with
   |false=>
    rw[aJ bZ];exact eC
   |true=>
    rw[aR rfl];exact eC
  |true=>
   have ce:=ce rfl
   cases q with
   |false=>
    rw[aJ bZ];exact eC
   |true=>
    rw[aR rfl];exact eC
theorem MI (p:bu) (s:ByteArray) (b:Int) (hS:aV p≤1048576) (hz:s.size≤1048576):ai C Dc [fz p,vS s,vI b] (Zn (qw p s b)) []:=by
 have Fx:aV p≤4194304:=by omega
 have hP:=fG Fx;have X9:=ck p Fx;have hva:=iL p s au;have hbl:=uN p s b Fx au;refine(S7 _ _ _ _ _ _ _ _ _ ?_).run
 by_cases h1:mQ p s b=0
 ·rw[h1] at hbl
  obtain⟨v,hv,_⟩:=Gd h1;have di:=xp p Fx (dU p.aD s) b v hv;have hdz:=KI p v.fq b
  have e:qw p s b=HJ p (eU p v.fq b).1 (eU p v.fq b).2:=by unfold qw;rw[aR h1,hv]
  rw[e];generalize eU p v.fq b=X at*;have en:=jt p X.1 X.2 Fx au;exact eC
 ·have c1:cO (mQ p s b) 0=false:=by rw[cJ];exact lH h1
  have c2:(!cO (mQ p s b) 0)=true:=by rw[c1];rfl
  have e:qw p s b=(p,mQ p s b):=by unfold qw;rw[aJ h1]
  rw[e];exact eC
theorem OE (p:bu) (s:ByteArray) (n:Int) (hS:aV p≤1048576) (hz:s.size≤1048576):ai C fQ [fz p,vS s,vI n] (Zn (uv p s n)) []:=by
 have Fx:aV p≤4194304:=by omega
 have hP:=fG Fx;have X9:=ck p Fx;have hva:=iL p s au;have hbl:=uN p s 0 Fx au;have hin:=mB n 1 12;obtain⟨Z,hZe⟩: ∃Z,Z=uv p s n:=⟨_,rfl⟩;rw[←hZe];refine(U7 _ _ _ _ _ _ _ _ _ ?_).run
 by_cases h1:mQ p s 0=0
 ·rw[h1] at hbl
  obtain⟨v,hv,hfm,_⟩:=Gd h1;have hvz:=NW (wj (by unfold wh at hfm;simp only[dY] at hfm;exact hfm.1)) hv
  have hrv:rowAt (p.aD.map dh) (dU p.aD s)=some [iS v.name,iI v.fq,iI v.size,iB v.fx]:=by rw[aQ,hv];rfl
  cases h2:iU n 1 12 with
  |false=>
   rw[h2] at hin
   have e:Z=(p,4):=by rw[hZe];unfold uv;rw[aR h1,aJ (by rw[h2];simp)]
   rw[e];exact eC
  |true=>
  rw[h2] at hin
  have hn:1≤n∧n≤12:=by unfold iU at h2;simpa using h2
  have hZ:HJ p (KJ (Ik v.fq (v.size-n).toNat (v.size-1) p).1 (dU p.aD s) n) (Ik v.fq (v.size-n).toNat (v.size-1) p).2=Z:=by
   rw[hZe];unfold uv;rw[aR h1,aR h2,hv]
  clear hZe;have hsb:dy v.size 1=v.size-1:=eg au
  have fin: ∀(ok:Bool) (X:bu),aV X≤4000000→X.aD=p.aD→HJ p (KJ X (dU p.aD s) n) ok=Z→ ∀Q:QV,Q (Zn Z) []→ ∃(s62:ByteArray) (n63:Int) (n64:Int) (b65:Bool),rowAt (X.aD.map dh) (dU p.aD s)=some [iS s62,iI n63,iI n64,iB b65]∧(∃(s66:ByteArray) (n67:Int) (n68:Int) (b69:Bool),rowAt (X.aD.map dh) (dU p.aD s)=some [iS s66,iI n67,iI n68,iB b69]∧(∃(l70:RR) (l71:RR) (l72:RR) (l73:RR) (l74:RR) (n75:Int) (n76:Int),ai C fR ([fz p,TV.ag [TC.sub 1 (X.t.aA.map bA),TC.sub 1 (X.t.nodes.map bn),TC.sub 2 (X.aY.map cn),TC.sub 3 (X.cells.map cC),TC.sub 4 (setRow (X.aD.map dh) (dU p.aD s) 2 [iI n]),iI X.next],TV.c (iB ok)]) (TV.tu [(1,[TC.sub 1 l70,TC.sub 1 l71,TC.sub 2 l72,TC.sub 3 l73,TC.sub 4 l74,iI n75]),(0,[iI n76])]) []∧(Q (TV.tu [(1,[TC.sub 1 l70,TC.sub 1 l71,TC.sub 2 l72,TC.sub 3 l73,TC.sub 4 l74,iI n75]),(0,[iI n76])]) ([])))):=by
   intro ok X hX hXv hZ Q hQ
   have hrx:rowAt (X.aD.map dh) (dU p.aD s)=some [iS v.name,iI v.fq,iI v.size,iB v.fx]:=by rw[hXv];exact hrv
   have en:=jt p (KJ X (dU p.aD s) n) ok Fx (by rw[afZ];omega);have e1:setRow (X.aD.map dh) (dU p.aD s) 2 [iI n]=(KJ X (dU p.aD s) n).aD.map dh:=Zd;rw[hZ] at en;rw[e1];exact⟨_,_,_,_,hrx,_,_,_,_,hrx,_,_,_,_,_,_,_,en,hQ⟩
  have Q0:(fun r fs=>r=Zn Z∧fs=([]:List TV)) (Zn Z) []:=dH
  have bad:(p,(6:Int))=Z→ ∀(b:Int) (X:bu),aV X≤4000000→X.aD=p.aD→aj C fQ iD 4 0 (lA n (dU p.aD s) false b (p.t.aA.map bA) (p.t.nodes.map bn) (p.aY.map cn) (p.cells.map cC) (p.aD.map dh) p.next (X.t.aA.map bA) (X.t.nodes.map bn) X.next (X.aY.map cn) (X.cells.map cC) (X.aD.map dh)) (fun x st=>aH C fQ iD x st fun r fs=>r=Zn Z∧fs=[]):=by
   intro hZ b X hX hXv
   by_cases h:n≤b
   ·exact sH _ _ _ _ _ _ _ _ _ _ _ _ _ _ _ _ _ (aa (by rw[nJ];exact lB h) (ak rfl (PL _ _ _ _ _ _ _ _ _ _ _ _ _ _ _ _ _ (fin false X hX hXv hZ (fun r fs=>r=Zn Z∧fs=[]) Q0))))
   ·exact sH _ _ _ _ _ _ _ _ _ _ _ _ _ _ _ _ _ (ak (by rw[nJ];exact lH h) (Fl _ _ _ _ _ _ _ _ _ _ _ _ _ _ _ _ _ (fin false X hX hXv hZ (fun r fs=>r=Zn Z∧fs=[]) Q0)))
  have key: ∀(k:Nat) (b:Int) (X:bu),k=(b+1-n).toNat→ -1≤b→b≤12→aV X+300*k≤4000000→X.aD=p.aD→HJ p (KJ (Ik v.fq k b X).1 (dU p.aD s) n) (Ik v.fq k b X).2=Z→aj C fQ iD 4 0 (lA n (dU p.aD s) true b (p.t.aA.map bA) (p.t.nodes.map bn) (p.aY.map cn) (p.cells.map cC) (p.aD.map dh) p.next (X.t.aA.map bA) (X.t.nodes.map bn) X.next (X.aY.map cn) (X.cells.map cC) (X.aD.map dh)) (fun x st=>aH C fQ iD x st fun r fs=>r=Zn Z∧fs=[]):=by
   intro k
   induction k with
   |zero=>
    intro b X hk hb1 hb hX hXv hZ
    have h: ¬n≤b:=by omega
    have hZ:HJ p (KJ X (dU p.aD s) n) true=Z:=hZ;exact sH _ _ _ _ _ _ _ _ _ _ _ _ _ _ _ _ _ (ak (by rw[nJ];exact lH h) (Fl _ _ _ _ _ _ _ _ _ _ _ _ _ _ _ _ _ (fin true X au hXv hZ (fun r fs=>r=Zn Z∧fs=[]) Q0)))
   |succ k ih=>
    intro b X hk hb1 hb hX hXv hZ
    ·have h:n≤b:=by omega
     have hsub:dy b 1=b-1:=eg au;have hr:=(RN X v.fq b).2.1;have hdz:=KI X v.fq b;have di:=xp X au (dU p.aD s) b v (by rw[hXv];exact hv);unfold Ik at hZ;rw[show(if(eU X v.fq b).2=true then Ik v.fq k (b-1) (eU X v.fq b).1 else(X,false))=if(eU X v.fq b).2=true then Ik v.fq k (b-1) (eU X v.fq b).1 else(X,false) from rfl] at hZ;refine sH _ _ _ _ _ _ _ _ _ _ _ _ _ _ _ _ _ (aa (by rw[nJ];exact lB h) (aa rfl ⟨_,_,_,_,_,_,_,di,?_⟩))
     rw[hsub]
     cases hd:(eU X v.fq b).2 with
     |false=>
      rw[hd] at hZ;exact bad hZ (b-1) (eU X v.fq b).1 au (by rw[hr];exact hXv)
     |true=>
      rw[hd] at hZ;exact ih (b-1) (eU X v.fq b).1 au au au au (by rw[hr];exact hXv) hZ
  have k0:=key (v.size-n).toNat (v.size-1) p au au au au rfl hZ;rw[←hsb] at k0;exact eC
 ·have c1:cO (mQ p s 0) 0=false:=by rw[cJ];exact lH h1
  have c2:(!cO (mQ p s 0) 0)=true:=by rw[c1];rfl
  have e:Z=(p,mQ p s 0):=by rw[hZe];unfold uv;rw[aJ h1]
  rw[e];exact eC
theorem DH (p:bu) (hS:aV p≤4194304) (i:Int):ai C iC [fz p,vI i] (BD (p9 p i)) []:=by
 have hP:=fG hS;have htl:=jk p.t;refine(Ve _ _ _ _ _ _ _ _ ⟨_,jr p.t au,?_⟩).run
 have key:((az p.t).drop 0).find? (yI i)=(az p.t).find? (yI i)→aj C iC ah 4 0 (mY i ((0:Nat):Int) ((az p.t).map bK)) (fun x st=>aH C iC ah x st fun r fs=>r=BD (p9 p i)∧fs=[]):=by
  refine bV (az p.t) (fun j=>((az p.t).drop j).find? (yI i)=(az p.t).find? (yI i)→aj C iC ah 4 0 (mY i (j:Int) ((az p.t).map bK)) (fun x st=>aH C iC ah x st fun r fs=>r=BD (p9 p i)∧fs=[])) ?_ ?_
  ·intro h0
   rw[gu] at h0;exact Fq _ _ _ _ (ak bZ (PX _ _ _ _ _ ⟨by unfold p9;rw[←h0];rfl,rfl⟩))
  ·intro j a hj ha hd ht hn h0
   rw[hd,List.find?_cons] at h0
   have hr:rowAt ((az p.t).map bK) (j:Int)=some [iI a.b,iI a.a,iI a.k,iI a.c,iI a.g]:=by rw[aQ,aK,ha];rfl
   have Bj:aF (j:Int) 1=(j:Int)+1:=aO au;refine Fq _ _ _ _ (aa iE ⟨_,_,_,_,_,hr,_,_,_,_,_,hr,?_⟩);rw[Bj]
   by_cases h1:a.k=1
   ·refine aa (by rw[cJ];exact lB h1) ⟨_,_,_,_,_,hr,_,_,_,_,_,hr,?_⟩
    by_cases h2:a.c=i
    ·have ho:yI i a=true:=by unfold yI;simp[h1,h2]
     rw[ho] at h0;exact aa (by rw[cJ];exact lB h2) ⟨_,_,_,_,_,hr,_,_,_,_,_,hr,PW _ _ _ _ _ _ _ ⟨by unfold p9;rw[←h0],rfl⟩⟩
    ·have ho:yI i a=false:=by unfold yI;simp[h2]
     rw[ho] at h0;exact ak (by rw[cJ];exact lH h2) (hn h0)
   ·have ho:yI i a=false:=by unfold yI;simp[h1]
    rw[ho] at h0;exact ak (by rw[cJ];exact lH h1) (hn h0)
 exact key rfl
theorem Gt {p:bu} {i:Int} {c:Cell} (hc:ew p.cells i=some c) (h: ¬(c.u=true∧0≤jS p.cells∧jS p.cells≤i)):jO p i=(p,false):=by
 unfold jO
 split
 ·rw[hc];exact aJ h
 ·rfl
theorem XD {p:bu} {i:Int} {c:Cell} (hp:cK p=true) (hc:ew p.cells i=some c) (h:c.u=true∧0≤jS p.cells∧jS p.cells≤i):jO p i=Ag p (RO p i c.n):=by
 unfold jO;rw[aR hp,hc];exact aR h
theorem XE {p:bu} {i:Int} (hc:ew p.cells i=none):jO p i=(p,false):=by
 unfold jO
 split
 ·rw[hc]
 ·rfl
theorem XF {p:bu} {i:Int} (hp:cK p=false):jO p i=(p,false):=by
 unfold jO;rw[aJ (by rw[hp];simp)]
theorem BL {p:bu} {x:bu×Bool} (h:x.2=false):Ag p x=(p,false):=by
 unfold Ag;rw[aJ fun e=>by rw[h] at e;cases e.1]
theorem BM {p:bu} {x:bu×Bool} (h:cK x.1=false):Ag p x=(p,false):=by
 unfold Ag;rw[aJ fun e=>by rw[h] at e;cases e.2]
theorem BN {p:bu} {x:bu×Bool} (h1:x.2=true) (h2:cK x.1=true):Ag p x=(x.1,true):=by
 unfold Ag;rw[aR ⟨h1,h2⟩]
theorem abK {p:bu} {i:Int} {c:Cell} (hp:cK p=true) (hc:ew p.cells i=some c):jj c.n=true:=by
 have h:=xK hp;simp only[gK,dY] at h;have:=List.all_eq_true.1 h.1 c (nj hc);simp only[sP,dY] at this;exact this.2.1
theorem KY (p:bu) (i:Int) (hS:aV p≤1048576):ai C Bc [fz p,vI i] (tPB (jO p i)) []:=by
 have Yi:aV p≤4194304:=by omega
 have hP:=fG Yi;have htl:=jk p.t;have X9:=ck p Yi;have hok:=fZ p Yi;have hin:=mB i 0 ((p.cells.length:Int)-1)
 have hsl:dy (Int.ofNat (p.cells.map cC).length) 1=(p.cells.length:Int)-1:=by rw[cq];exact eg iE
 rw[←hsl] at hin;refine(PS _ _ _ _ _ _ _ _ ?_).run
 cases hg:cK p with
 |false=>
  rw[hg] at hok;rw[XF hg];exact eC
 |true=>
 rw[hg] at hok
 cases hc:ew p.cells i with
 |none=>
  have h1:iU i 0 (dy (Int.ofNat (p.cells.map cC).length) 1)=false:=by
   rw[hsl];unfold iU;refine lH fun h=> ?_
   obtain⟨a,ha⟩:=eT (l:=p.cells) h.1 au;rw[hc] at ha;cases ha
  rw[h1] at hin;rw[XE hc];exact eC
 |some c=>
  have hi:0≤i∧i<p.cells.length:=Classical.byContradiction fun hn=>by rw[gh hn] at hc;cases hc
  have h1:iU i 0 (dy (Int.ofNat (p.cells.map cC).length) 1)=true:=by rw[hsl];unfold iU;exact lB au
  rw[h1] at hin
  have hrc:rowAt (p.cells.map cC) i=some [iI c.g,iB c.u,iI c.n]:=by rw[aQ,hc];rfl
  cases hu:c.u with
  |false=>
   rw[hu] at hrc;rw[Gt hc fun h=>by rw[hu] at h;cases h.1];exact eC
  |true=>
  rw[hu] at hrc;have tk:=uL p.cells c.n au;have hk:=DH p Yi i
  by_cases hf:0≤jS p.cells
  ·have zw:=CY ⟨xK hg,abK hg hc,hf⟩
   obtain⟨cs,hcs⟩: ∃cs,cs=p.cells.modify (jS p.cells).toNat (fun d=>⟨d.g,true,c.n⟩):=⟨_,rfl⟩;rw[←hcs] at zw
   have hcl:cs.length=p.cells.length:=by rw[hcs,NA]
   obtain⟨d,hd,akC⟩:=KX zw
   have hrd:rowAt (cs.map cC) (jS p.cells)=some [iI d.g,iB d.u,iI d.n]:=by rw[aQ,hd];rfl
   clear hcs;rw[zw] at tk
   by_cases hle:jS p.cells≤i
   ·have cl:cP i (jS p.cells)=false:=by rw[mO];exact lH au
    rw[XD hg hc ⟨hu,hf,hle⟩];have tp:=qO p.t (Af p i c.n) au;have fc:=uK cs i au;have hk:=DH p Yi i
    have hmk:Af p i c.n=⟨(p9 p i).b,(p9 p i).a,(p9 p i).k,jS p.cells,d.g⟩:=by unfold Af;rw[zw];simp only[];rw[akC]
    have hX:RO p i c.n=(⟨(bB p.t (Af p i c.n)).1,p.aY,lD cs i,p.aD,p.next⟩,(bB p.t (Af p i c.n)).2):=by unfold RO;rw[zw]
    have hsz:=yG p.t (Af p i c.n)
    have hXs:aV (RO p i c.n).1≤4194304:=by
     have h1:=CX cs i;rw[hX];unfold aV at hS ⊢;simp only[];omega
    have pk2:=fZ (RO p i c.n).1 hXs;rw[hmk] at tp hX;obtain⟨T,b,hT⟩: ∃T b,bB p.t ⟨(p9 p i).b,(p9 p i).a,(p9 p i).k,jS p.cells,d.g⟩=(T,b):=⟨_,_,rfl⟩;rw[hT] at tp hX
    cases b with
    |false=>
     rw[BL (by rw[hX])];exact eC
    |true=>
     cases hg:cK (RO p i c.n).1 with
     |false=>
      rw[BM hg];rw[hg,hX] at pk2;exact eC
     |true=>
      rw[BN (by rw[hX]) hg,hX];rw[hg,hX] at pk2;exact eC
   ·have cl:cP i (jS p.cells)=true:=by rw[mO];exact lB au
    rw[Gt hc fun h=>hle h.2.2];exact eC
  ·rw[wg fun h=>hf h.2.2] at tk
   rw[Gt hc fun h=>hf h.2.1];exact eC
theorem Z9 {l:List mS} {id:Int} {a:mS} (h:iJ l=true) (ha:ew l (ie l id)=some a):vq l id=((C3 l id a.fr).take (ie l id).toNat++(C3 l id a.fr).drop ((ie l id).toNat+1),true):=by
 unfold vq;rw[aR h,ha]
theorem aaa {l:List mS} {id:Int} (ha:ew l (ie l id)=none):vq l id=(l,false):=by
 unfold vq
 split
 ·rw[ha]
 ·rfl
theorem abL {l:List mS} {id:Int} (h:iJ l=false):vq l id=(l,false):=by
 unfold vq;rw[aJ (by rw[h];simp)]
theorem abM {l:List mS} {id fr:Int} {j:Nat} {x:mS} (h:l[j]?=some x):(C3 l id fr)[j]?=some (if x.fr=id then {x with fr:=fr} else x):=by
 unfold C3;rw[me,h];rfl
theorem OF (l:List mS) (id:Int) (hl:l.length≤1073741800):ai C eH [qq l,vI id] (TV.tu [(0,[TC.sub 2 ((vq l id).1.map cn)]),(0,[iB (vq l id).2])]) []:=by
 have hat:=om l id au;have hok:ai C dj [qq l] (vB (iJ l)) []:=wS l au
 have X9:(bF (l.map cn)&&fits (Nat.add 0 (List.length (l.map cn))) 16)=true:=by rw[BE,bR iE];rfl
 refine(Vd _ _ _ ?_).run
 by_cases h1:ie l id<0
 ·have cl:cP (ie l id) 0=true:=by rw[mO];exact lB h1
  rw[aaa (gh au)];exact eC
 ·have cl:cP (ie l id) 0=false:=by rw[mO];exact lH h1
  cases hg:iJ l with
  |false=>
   rw[hg] at hok;rw[abL hg];exact eC
  |true=>
   rw[hg] at hok;obtain⟨a,ha,_⟩:=L9 l id h1;rw[Z9 hg ha];have hlt:=afM l id;obtain⟨k,hk⟩: ∃k:Nat,ie l id=k:=⟨(ie l id).toNat,by omega⟩;rw[hk] at hat ha cl hlt ⊢;rw[oF]
   have hra:rowAt (l.map cn) (k:Int)=some [iI a.id,iI a.fr]:=by rw[aQ,ha];rfl
   obtain⟨W,hW⟩: ∃W,W=C3 l id a.fr:=⟨_,rfl⟩
   have hWl:W.length=l.length:=by rw[hW];exact RP _ _ _
   rw[←hW];obtain⟨U,hU⟩: ∃U,U=W.take k++W.drop (k+1):=⟨_,rfl⟩
   have hUl:U.length≤l.length:=by rw[hU,ct,c7,gQ];omega
   rw[←hU]
   have key: ∀acc:List mS,acc++(if 0≤k then(W.drop 0).take (k-0)++W.drop (k+1) else W.drop 0)=U→aj C eH dw 4 0 (hD (l.map cn) id (k:Int) ((0:Nat):Int) (acc.map cn)) (fun x st=>aH C eH dw x st fun r fs=>r=(TV.tu [(0,[TC.sub 2 (U.map cn)]),(0,[iB true])])∧fs=[]):=by
    refine bV l (fun j=> ∀acc:List mS,acc++(if j≤k then(W.drop j).take (k-j)++W.drop (k+1) else W.drop j)=U→aj C eH dw 4 0 (hD (l.map cn) id (k:Int) (j:Int) (acc.map cn)) (fun x st=>aH C eH dw x st fun r fs=>r=(TV.tu [(0,[TC.sub 2 (U.map cn)]),(0,[iB true])])∧fs=[])) ?_ ?_
    ·intro acc h0
     have hk2: ¬l.length≤k:=by omega
     rw[aJ hk2,←hWl,gu,m0] at h0;exact Fo _ _ _ _ _ _ (ak bZ (PV _ _ _ _ _ _ _ ⟨by rw[h0],rfl⟩))
    ·intro j x hj hx hd ht hn acc h0
     have hlen:=congrArg List.length h0;rw[ct] at hlen
     have hr:rowAt (l.map cn) (j:Int)=some [iI x.id,iI x.fr]:=by rw[aQ,aK,hx];rfl
     have Bj:aF (j:Int) 1=(j:Int)+1:=aO au;have hw:=abM (id:=id) (fr:=a.fr) hx;rw[←hW] at hw
     obtain⟨y,hy⟩: ∃y:mS,y=if x.fr=id then {x with fr:=a.fr} else x:=⟨_,rfl⟩
     rw[←hy] at hw;obtain⟨hjw,hwe⟩:=List.getElem?_eq_some_iff.1 hw
     have hdw:W.drop j=y::W.drop (j+1):=by rw[zF hjw,hwe]
     have nx: ¬j=k→aj C eH dw 4 0 (hD (l.map cn) id (k:Int) ((j:Int)+1) ((acc++[y]).map cn)) (fun x st=>aH C eH dw x st fun r fs=>r=(TV.tu [(0,[TC.sub 2 (U.map cn)]),(0,[iB true])])∧fs=[]):=by
      intro hne;refine hn (acc++[y]) ?_;rw[←h0]
      by_cases h:j≤k
      ·rw[aR h,aR au,hdw,show k-j=(k-(j+1))+1 from by omega,List.take_succ_cons];simp
      ·rw[aJ h,aJ au,hdw];simp
     have sk:j=k→aj C eH dw 4 0 (hD (l.map cn) id (k:Int) ((j:Int)+1) (acc.map cn)) (fun x st=>aH C eH dw x st fun r fs=>r=(TV.tu [(0,[TC.sub 2 (U.map cn)]),(0,[iB true])])∧fs=[]):=by
      intro he;refine hn acc ?_;rw[←h0,he,aR (cL _),aJ au,oI,List.take_zero,tg]
     refine Fo _ _ _ _ _ _ (aa iE ⟨_,_,hr,?_⟩);rw[Bj]
     have hfit: ∀u v:Int,(bF [[iI u,iI v]]&&fits (Nat.succ (List.length (acc.map cn))) 16)=true:=fun u v=>by rw[sQ,bR iE];rfl
     by_cases hf:x.fr=id
     ·rw[aR hf] at hy
      subst hy;refine aa (by rw[cJ];exact lB hf) ⟨_,_,hra,?_⟩
      (try dsimp only)
      rw[xG]
      by_cases hjk:j=k
      ·exact ak (by rw[cJ,hjk];simp) (sk hjk)
      ·exact aa (by rw[cJ];simp;omega) (aa (hfit _ _) (nx hjk))
     ·rw[aJ hf] at hy
      subst hy;refine ak (by rw[cJ];exact lH hf) ?_;rw[xG]
      by_cases hjk:j=k
      ·exact ak (by rw[cJ,hjk];simp) (sk hjk)
      ·exact aa (by rw[cJ];simp;omega) (aa (hfit _ _) (nx hjk))
   have k0:=key [] (by rw[aR (cW _),tg,List.drop_zero,Nat.sub_zero,hU]);exact eC
theorem Sj (p:bu):gC p=(0,0)∨(∃i k,(gC p=(1,i)∨gC p=(2,i))∧ew (az p.t) i=some k)∨
 (∃i k x,gC p=(3,i)∧ew (az p.t) i=some k∧ew (gD p.aY k.a) 0=some x∧F7 p k.a=x)∨ ∃i a,gC p=(4,i)∧ew p.aY i=some a:=by
 unfold gC
 split
 ·split
  ·rename_i h
   obtain⟨k,hk,_⟩:=rL (xI p 1) (az p.t) (by unfold p8 at h;omega);exact .inr (.inl ⟨_,k,.inl rfl,hk⟩)
  ·split
   ·rename_i h
    obtain⟨k,hk,_⟩:=rL (xI p 2) (az p.t) (by unfold p8 at h;omega);exact .inr (.inl ⟨_,k,.inr rfl,hk⟩)
   ·split
    ·rename_i h
     obtain⟨k,hk,h3⟩:=rL (xI p 3) (az p.t) (by unfold p8 at h;omega);have h3:Zj p k=true:=h3;unfold Zj at h3
     split at h3
     ·cases h3
     ·rename_i h0
      have hx: ∃x,ew (gD p.aY k.a) 0=some x∧F7 p k.a=x:=by
       unfold F7 at h0 ⊢
       split
       ·rename_i hh
        obtain⟨x,hx⟩:=eT (l:=gD p.aY k.a) (i:=0) au au;exact⟨x,hx,by rw[hx]⟩
       ·rename_i hh;rw[aJ hh] at h0;exact absurd rfl h0
      obtain⟨x,hx1,Qz⟩:=hx;exact .inr (.inr (.inl ⟨_,k,x,rfl,hk,hx1,Qz⟩))
    ·split
     ·rename_i h
      obtain⟨a,ha,_⟩:=rL (Hu p) p.aY (by unfold RE at h;omega);exact .inr (.inr (.inr ⟨_,a,rfl,ha⟩))
     ·exact .inl rfl
 ·exact .inl rfl
theorem agp (p:bu) (k:Key):aV (N0 p k).1≤aV p+520:=by
 have h1:=yG p.t (jK k);have h2:=yG (bB p.t (jK k)).1 (Mf p k);unfold N0 aV;simp only[];omega
theorem aik (p:bu) (id:Int):aV (adG p id).1≤aV p:=by
 have:=abv p.aY id;unfold adG aV;simp only[];omega
theorem xW {p:bu} {j i:Int} {X:bu×Bool} (h:gC p=(j,i)) (hj: ¬j=0) (hX:N3 p j i=X):kJ p=Ag p X:=by
 unfold kJ;rw[h,aJ hj,hX]
theorem Wj {p:bu} {j i:Int} {k:Key} (hj:j=1∨j=2) (hk:ew (az p.t) i=some k):N3 p j i=hJ p (jK k):=by
 unfold N3 Qw;rw[aJ au,aJ au,hk]
theorem abN {p:bu} {i:Int} {k:Key} (hk:ew (az p.t) i=some k):N3 p 3 i=N0 p k:=by
 unfold N3 Qw;rw[aJ au,aR rfl,hk]
theorem adW {p:bu} {i:Int} {a:mS} (ha:ew p.aY i=some a):N3 p 4 i=adG p a.id:=by
 unfold N3;rw[aR rfl,ha]
theorem BO (p:bu) (hS:aV p≤4194304) (k:Key):ai C xT [.bx (Ks p),BD k] (vB (hJ p (jK k)).2) [.bx (Ks (hJ p (jK k)).1)]:=
 (Tb _ _ _ _ _ _ _ _ _ _ _ _ ⟨_,_,_,_,_,_,_,sr p hS (jK k),rfl,by trivial⟩).run
end Go.T.R
