import Derived.Test.YtlkjkfidmkdchaaTR1
set_option linter.all false
set_option maxRecDepth 100000
set_option maxHeartbeats 4000000
namespace Go.T.R
open Go Go.T
theorem Qf {P:Prop} (h:P:=by kernel_rfl):P:=h
theorem kj (a b c:Int):aB C bJ [vI a,vI b,vI c] (vB (mX a b c)) []:=by
 refine(I7 _ _ _ _ ?_).run;simp only[lq,dL,mX]
 split<;>simp_all<;>omega
@[simp] theorem qe (a b c:Int) (q:Bool):aB C bJ [vI a,vI b,vI c] (vB q) []↔q=mX a b c:=ye (kj a b c)
theorem HK (b a k c g:Int):aB C rU [.ag [iI b,iI a,iI k,iI c,iI g]] (vB (jO ⟨b,a,k,c,g⟩)) []:=by
 refine(LL _ _ _ _ _ _ ?_).run;simp only[qe,iw,jO,dN,dP,dL]
 cases mX b 0 15<;>cases mX a 1 60<;>cases mX k 0 2<;>by_cases h:k=1<;>by_cases h1:c=0<;>by_cases h2:g=0<;>cases mX c 0 23<;>simp_all
@[simp] theorem Cw (b a k c g:Int) (q:Bool):aB C rU [.ag [iI b,iI a,iI k,iI c,iI g]] (vB q) []↔q=jO ⟨b,a,k,c,g⟩:=ye (HK b a k c g)
@[simp] theorem y6 (b a k c g b' a' k' c' g':Int) (q:Bool):aB C qU [.ag [iI b,iI a,iI k,iI c,iI g],.ag [iI b',iI a',iI k',iI c',iI g']] (vB q) []↔q=iM ⟨b,a,k,c,g⟩ ⟨b',a',k',c',g'⟩:=ye (by
  refine(HV _ _ _ _ _ _ _ _ _ _ _ ?_).run;simp only[jM,dN,dL,iM]
  by_cases h1:b<b'<;>by_cases h2:b=b'<;>simp_all)
@[simp] theorem EW (b a k c g b' a' k' c' g':Int) (q:Bool):aB C nw [.ag [iI b,iI a,iI k,iI c,iI g],.ag [iI b',iI a',iI k',iI c',iI g']] (vB q) []↔q=jP ⟨b,a,k,c,g⟩ ⟨b',a',k',c',g'⟩:=ye (by
  refine(FA _ _ _ _ _ _ _ _ _ _ _ ?_).run;simp only[jM,dN,dP,dL,jP]
  by_cases h2:b=b'<;>simp_all)
theorem nJ (l:List Key) (x:Key) (hl:l.length≤1073741824):aB C bZ [gZ l,yQ x] (gZ (hD l x)) []:=by
 refine(I0 _ _ _ _ _ _ _ ?_).run
 have key: ∀(put:Bool) (acc:List Key),acc.length+(l.drop 0).length≤l.length+(if put then 1 else 0)→acc++dA x put (l.drop 0)=hD l x→aj C bZ aJ 4 0 (dY put (l.map ck) ((0:Nat):Int) x.b x.a x.k x.c x.g (acc.map ck)) (fun u st=>aD C bZ aJ u st fun r fs=>r=gZ (hD l x)∧fs=[]):=by
  refine ct l (fun i=> ∀(put:Bool) (acc:List Key),acc.length+(l.drop i).length≤l.length+(if put then 1 else 0)→acc++dA x put (l.drop i)=hD l x→aj C bZ aJ 4 0 (dY put (l.map ck) i x.b x.a x.k x.c x.g (acc.map ck)) _) ?_ ?_
  ·intro put acc hb he
   refine xN _ _ _ _ _ _ _ _ _ _ (av eO (Fc _ _ _ _ _ _ _ _ _ _ _ _ ?_));simp only[Gg,fW,rQ,e9,dP,eB,dB]
   have hb2:acc.length≤l.length+1:=by simp at hb;split at hb<;>omega
   rw[fF ax];rw[iu] at he
   cases put<;>simp[dA] at he ⊢ <;>rw[←he]<;>simp
  ·intro i a hi ha hd _ hn put acc hb he
   rw[hd] at hb he;simp only[ez] at hb
   have hb':acc.length+(List.drop (i+1) l).length+1≤l.length+1:=by split at hb<;>omega
   refine xN _ _ _ _ _ _ _ _ _ _ (ah j8 ?_);simp only[rN,aQ,ha,aU,fQ,y6,EW,iw,dP,fW,Gg,rQ,e9,eB,dB,bX,lF];simp (disch:=omega) only[fF,aR,rL];simp only[dA] at he
   cases put<;>cases hk:iM a x<;>cases hs:jP a x<;>simp only[rL,Cb]<;>simp[hk,hs] at he hb<;>exact hn _ _ (by simp at hb ⊢;omega) (by simpa using he)
 exact key false [] eO rfl
@[simp] theorem IK (l:List Key) (hl:l.length≤1073741824) (b a k c g:Int) (q:RR):aB C bZ [.c (.sub 5 (l.map ck)),.ag [iI b,iI a,iI k,iI c,iI g]] (.c (.sub 5 q)) []↔q=(hD l ⟨b,a,k,c,g⟩).map ck:=U4 (nJ l ⟨b,a,k,c,g⟩ hl)
theorem lK (l:List Key) (hl:l.length≤2147483648):aB C kT [gZ l] (gZ l) []:=by
 refine(FD _ _ ?_).run;rw[vr,fF j8];exact gX
theorem Bh (old new:List Key) (hl:old.length+new.length≤1073741824):aB C dh [gZ old,gZ new] (gZ (bU old new)) []:=by
 refine(D6 _ _ _ ?_).run;refine⟨_,lK old ax,?_⟩
 have key: ∀(acc:List Key),acc.length+(new.drop 0).length≤old.length+new.length→bU acc (new.drop 0)=bU old new→aj C dh aq 4 0 (iJ (new.map ck) ((0:Nat):Int) (acc.map ck)) (fun u st=>aD C dh aq u st fun r fs=>r=(gZ (bU old new))∧fs=[]):=by
  refine ct new (fun i=> ∀(acc:List Key),acc.length+(new.drop i).length≤old.length+new.length→bU acc (new.drop i)=bU old new→aj C dh aq 4 0 (iJ (new.map ck) i (acc.map ck)) (fun u st=>aD C dh aq u st fun r fs=>r=(gZ (bU old new))∧fs=[])) ?_ ?_
  ·intro acc h0 h1
   refine sq _ _ _ _ (av eO (Bq _ _ _ _ _ _ ?_));rw[iu] at h1;rw[←h1];exact gX
  ·intro i a hi ha hd ht hn acc h0 h1
   refine sq _ _ _ _ (ah j8 ?_);rw[hd] at h0 h1;simp only[ez] at h0;simp only[rN,IK acc ax,aQ,ha,aU,fQ,iw,dP,iL,lg,fW,iN,fE,iO,iP,lA,eB,natAdd,dB,bX,lF,e9,oq];rw[aR ax];have h2:=rO acc a;exact hn _ ax (by rw[←h1];rfl)
 exact key old eO rfl
theorem DN (old new:List Key) (hl:old.length+new.length≤1073741824) (q:RR):aB C dh [gZ old,gZ new] (.c (.sub 5 q)) []↔q=(bU old new).map ck:=U4 (Bh old new hl)
theorem AF (l:List Key) (hl:l.length≤1073741824):aB C gC [gZ l] (gZ (rP l)) []:=by
 refine(NJ _ _ ?_).run
 have key: ∀(acc:List Key),acc.length+(l.drop 0).length≤l.length→acc++rP (l.drop 0)=rP l→aj C gC aq 4 0 (kW (l.map ck) ((0:Nat):Int) (acc.map ck)) (fun u st=>aD C gC aq u st fun r fs=>r=(gZ (rP l))∧fs=[]):=by
  refine ct l (fun i=> ∀(acc:List Key),acc.length+(l.drop i).length≤l.length→acc++rP (l.drop i)=rP l→aj C gC aq 4 0 (kW (l.map ck) i (acc.map ck)) (fun u st=>aD C gC aq u st fun r fs=>r=(gZ (rP l))∧fs=[])) ?_ ?_
  ·intro acc h0 h1
   refine AJ _ _ _ _ (av eO (Jb _ _ _ _ _ _ ?_));rw[iu] at h1;simp[rP] at h1;simp[rP,h1]
  ·intro i a hi ha hd ht hn acc h0 h1
   refine AJ _ _ _ _ (ah j8 ?_);rw[hd] at h0 h1;simp only[ez] at h0;simp only[rN,Gg,rQ,dN,dL,aQ,ha,aU,fQ,iw,dP,iL,lg,fW,iN,fE,iO,iP,lA,eB,natAdd,dB,bX,lF,e9,oq];simp (disch:=omega) only[fF,aR,rL]
   by_cases hk:a.k=0
   ·rw[aP hk]
    exact hn _ ax (by rw[←h1];simp[rP,hk])
   ·rw[aF hk]
    exact hn (acc++[a]) (by simp only[bX,lF];omega) (by rw[←h1];simp[rP,hk])
 exact key [] eO rfl
theorem Cx (n:List (List Key)) (hb:n.length≤1073741824) (hl:tot cL n≤1073741824):aB C bO [oh n] (gZ (aL n)) []:=by
 refine(Fj _ _ ?_).run
 have key: ∀(acc:List Key),acc.length+tot cL (n.drop 0)≤tot cL n→(n.drop 0).foldl bU acc=q7 n→aj C bO aq 4 0 (jq (n.map dI) ((0:Nat):Int) (acc.map ck)) (fun u st=>aD C bO aq u st fun r fs=>r=(gZ (aL n))∧fs=[]):=by
  refine ct n (fun i=> ∀(acc:List Key),acc.length+tot cL (n.drop i)≤tot cL n→(n.drop i).foldl bU acc=q7 n→aj C bO aq 4 0 (jq (n.map dI) i (acc.map ck)) (fun u st=>aD C bO aq u st fun r fs=>r=(gZ (aL n))∧fs=[])) ?_ ?_
  ·intro acc h0 h1
   refine uv _ _ _ _ (av eO (CQ _ _ _ _ _ _ ?_));rw[iu] at h0 h1;simp only[List.foldl_nil] at h1;refine⟨_,AF acc ax,?_⟩;rw[h1];exact gX
  ·intro i a hi ha hd ht hn acc h0 h1
   refine uv _ _ _ _ (ah j8 ?_);rw[hd] at h0 h1;simp only[tot,cL] at h0;simp only[Hg,DN acc a ax,aQ,ha,aU,fQ,iw,dP,iL,lg,fW,iN,fE,iO,iP,lA,eB,natAdd,dB,bX,lF,e9,oq];rw[aR ax];have h2:=uN a acc;exact hn _ ax (by rw[←h1];rfl)
 exact key [] eO rfl
theorem gR (n:List (List Key)) (hb:n.length≤1073741824) (hl:tot cL n≤1073741824) (q:RR):aB C bO [.ag [.sub 1 (n.map dI)]] (.c (.sub 5 q)) []↔q=(aL n).map ck:=U4 (Cx n hb hl)
theorem gE (t:Tree) (hl:eK t≤1073741824):aB C cX [iD t] (gZ (aE t)) []:=by
 refine(FB _ _ _ ?_).run
 have key: ∀(acc:List Key),acc.length+tot bw (t.nodes.drop 0)≤tot bw t.nodes→acc++(t.nodes.drop 0).flatMap aL=aE t→aj C cX aq 4 0 (jt (t.nodes.map bG) ((0:Nat):Int) (acc.map ck)) (fun u st=>aD C cX aq u st fun r fs=>r=(gZ (aE t))∧fs=[]):=by
  refine ct t.nodes (fun i=> ∀(acc:List Key),acc.length+tot bw (t.nodes.drop i)≤tot bw t.nodes→acc++(t.nodes.drop i).flatMap aL=aE t→aj C cX aq 4 0 (jt (t.nodes.map bG) i (acc.map ck)) (fun u st=>aD C cX aq u st fun r fs=>r=(gZ (aE t))∧fs=[])) ?_ ?_
  ·intro acc h0 h1
   refine uy _ _ _ _ (av eO (CT _ _ _ _ _ _ ?_));rw[iu] at h1;simp at h1;simp[h1]
  ·intro i a hi ha hd ht hn acc h0 h1
   refine uy _ _ _ _ (ah (by have:=hi;unfold eK zQ at hl;simp;omega) ?_);have hz:a.length+tot cL a≤tot bw t.nodes:=wF (w:=bw) ha;rw[hd] at h0 h1;simp only[tot,bw] at h0;unfold eK zQ at hl;have h2:=fT a;simp only[U1,Ce,gR a ax ax,vr,aQ,ha,aU,fQ,iw,dP,iL,lg,fW,iN,fE,iO,iP,lA,eB,natAdd,dB,bX,lF,e9,oq];rw[fF ax,aR ax];refine ah rfl ?_;rw[←ot];exact hn _ j8 (by rw[←h1];simp)
 exact key [] eO rfl
theorem EX (t:Tree) (b:Int) (hl:eK t≤1073741824):aB C eU [iD t,vI b] (gZ (lu t b)) []:=by
 refine(IX _ _ _ _ ?_).run;refine⟨_,gE t hl,?_⟩
 have key: ∀(acc:List Key),acc.length+((aE t).drop 0).length≤(aE t).length→acc++((aE t).drop 0).filter (fun k=>decide (k.b=b))=lu t b→aj C eU aq 4 0 (iY b ((aE t).map ck) ((0:Nat):Int) (acc.map ck)) (fun u st=>aD C eU aq u st fun r fs=>r=(gZ (lu t b))∧fs=[]):=by
  refine ct (aE t) (fun i=> ∀(acc:List Key),acc.length+((aE t).drop i).length≤(aE t).length→acc++((aE t).drop i).filter (fun k=>decide (k.b=b))=lu t b→aj C eU aq 4 0 (iY b ((aE t).map ck) i (acc.map ck)) (fun u st=>aD C eU aq u st fun r fs=>r=(gZ (lu t b))∧fs=[])) ?_ ?_
  ·intro acc h0 h1
   refine xL _ _ _ _ _ (av eO (E8 _ _ _ _ _ _ _ ?_));rw[iu] at h1;simp at h1;simp[h1]
  ·intro i a hi ha hd ht hn acc h0 h1
   refine xL _ _ _ _ _ (ah j8 ?_);rw[hd] at h0 h1;simp only[ez] at h0;have hz:=ji t;simp only[rN,Gg,rQ,dN,dL,aQ,ha,aU,fQ,iw,dP,iL,lg,fW,iN,fE,iO,iP,lA,eB,natAdd,dB,bX,lF,e9,oq];simp (disch:=omega) only[fF,aR,rL]
   by_cases hk:a.b=b
   ·rw[aP hk]
    exact hn (acc++[a]) (by simp only[bX,lF];omega) (by rw[←h1];simp[hk])
   ·rw[aF hk]
    exact hn _ ax (by rw[←h1];simp[hk])
 exact key [] eO rfl
@[simp] theorem HL (a b id:Int) (q:Bool):aB C qV [.ag [iI a,iI b],.bx [iI id]] (vB q) []↔q=decide (a=id):=ye (by
  refine(Il _ _ _ _ ?_).run
  simp)
theorem IL (l:List lU) (id:Int) (hl:l.length≤1073741824):aB C bM [jN l,.fn qV [[iI id]]] (vI (ff l id)) []:=by
 refine(nD _ _ _ ?_).run
 have key:dW (fun a:lU=>decide (a.id=id)) (l.drop 0) ((0:Nat):Int)=dW (fun a:lU=>decide (a.id=id)) l 0→aj C bM au 4 0 (bW (l.map cW) ((0:Nat):Int) id) (fun u st=>aD C bM au u st fun r fs=>r=vI (ff l id)∧fs=[]):=by
  refine ct l (fun i=>dW (fun a:lU=>decide (a.id=id)) (l.drop i) (i:Int)=dW (fun a:lU=>decide (a.id=id)) l 0→aj C bM au 4 0 (bW (l.map cW) i id) _) ?_ ?_
  ·intro h0
   refine gQ _ _ _ _ (av eO (mR _ _ _ _ _ _ ?_));rw[iu] at h0;simp only[dW] at h0;change _=vI (dW (fun a:lU=>decide (a.id=id)) l 0)∧_;rw[←h0];exact gX
  ·intro i a hi ha hd Ek hn h0
   refine gQ _ _ _ _ (ah j8 ?_);rw[hd] at h0;simp only[dW] at h0;simp only[Dz,dN,HL,dL,aQ,ha,aU,fQ,iw,dP,iL,lg,fW,iN,fE,iO,iP,lA,eB,natAdd,dB,bX,lF,e9,oq];rw[aR ax]
   split at h0
   ·rename_i hp
    have hp:=ry hp
    first|rw[aP hp]|rw[aP hp.symm]
    refine mQ _ _ _ ?_;rw[h0];exact gX
   ·rename_i hp
    have hp: ¬_:=fun h=>hp (mT h)
    first|rw[aF hp]|rw[aF (fun h=>hp h.symm)]
    exact hn h0
 exact key rfl
theorem oN (l:List lU) (id:Int) (hl:l.length≤1073741824):aB C eg [jN l,vI id] (vI (ff l id)) []:=(LM _ _ _ ⟨_,IL l id hl,rfl,by trivial⟩).run
theorem wP (l:List lU) (id:Int) (hl:l.length≤1073741824) (q:Int):aB C eg [jN l,vI id] (vI q) []↔q=ff l id:=YJ (oN l id hl)
theorem w6 (l:List lU) (id:Int) (hl:l.length≤1073741824):aB C fq [jN l,vI id] (tE (pathOf l id)) []:=by
 refine(I1 _ _ _ ?_).run
 have key: ∀(n:Nat) (id':Int) (acc:List Int) (k:Nat),k+n=l.length+1→acc.length=k→acc++EG l n id'=pathOf l id→aj C fq aq 4 0 (nL (l.map cW) id' k (acc.map cv)) (fun u st=>aD C fq aq u st fun r fs=>r=tE (pathOf l id)∧fs=[]):=by
  intro n
  induction n with
  |zero=>
   intro id' acc k h0 h2 h1;simp only[EG,lX] at h1;refine xO _ _ _ _ _ (av ?_ (Ff _ _ _ _ _ _ _ (by rw[h1];exact gX)));rw[aR j8];simp;omega
  |succ n ih=>
   intro id' acc k h0 h2 h1;simp only[EG] at h1;refine xO _ _ _ _ _ (ah (by rw[aR j8];simp;omega) ⟨_,oN l id' hl,?_⟩)
   by_cases h:ff l id'<0
   ·rw[aP h,lX] at h1
    exact ah j8 (Fe _ _ _ _ _ _ _ _ (by rw[h1];exact gX))
   ·rw[aF h] at h1
    obtain⟨a,ha,he⟩:=JZ l id' h;rw[ha] at h1;refine av j8 ?_;simp only[Dz,ha,aU,fQ,K5,e9,eB,dB];rw[fF ax];refine ah rfl ?_;rw[K6,aR ax];exact ih a.fr (acc++[id']) (k+1) ax j8 (by rw[←h1];simp)
 exact key (l.length+1) id [] 0 eO rfl rfl
theorem Nx (l:List Int) (n:Int) (hl:l.length≤1073741824):aB C cJ [tE l,vI n] (vI (dW (fun a:Int=>decide (a=n)) l 0)) []:=by
 refine(Bs _ _ _ ?_).run
 have key:dW (fun a:Int=>decide (a=n)) (l.drop 0) ((0:Nat):Int)=dW (fun a:Int=>decide (a=n)) l 0→aj C cJ au 4 0 (gl (l.map cv) n ((0:Nat):Int)) (fun u st=>aD C cJ au u st fun r fs=>r=vI (dW (fun a:Int=>decide (a=n)) l 0)∧fs=[]):=by
  refine ct l (fun i=>dW (fun a:Int=>decide (a=n)) (l.drop i) (i:Int)=dW (fun a:Int=>decide (a=n)) l 0→aj C cJ au 4 0 (gl (l.map cv) n i) _) ?_ ?_
  ·intro h0
   refine qh _ _ _ _ (av eO (zk _ _ _ _ _ _ ?_));rw[iu] at h0;simp only[dW] at h0;change _=vI (dW (fun a:Int=>decide (a=n)) l 0)∧_;rw[←h0];exact gX
  ·intro i a hi ha hd Ek hn h0
   refine qh _ _ _ _ (ah j8 ?_);rw[hd] at h0;simp only[dW] at h0;simp only[A6,dN,dL,aQ,ha,aU,fQ,iw,dP,iL,lg,fW,iN,fE,iO,iP,lA,eB,natAdd,dB,bX,lF,e9,oq];rw[aR ax]
   split at h0
   ·rename_i hp
    have hp:=ry hp
    first|rw[aP hp]|rw[aP hp.symm]
    refine zj _ _ ?_;rw[h0];exact gX
   ·rename_i hp
    have hp: ¬_:=fun h=>hp (mT h)
    first|rw[aF hp]|rw[aF (fun h=>hp h.symm)]
    exact hn h0
 exact key rfl
theorem Lt (l:List Int) (n:Int) (hl:l.length≤1073741824):aB C jG [tE l,vI n] (vB (S8 l n)) []:=by
 refine(ym _ _ _ ⟨_,Nx l n hl,?_⟩).run
 (try dsimp only)
 rw[lq,Ch _ _ _ ax];exact gX
theorem w7 (t:Tree) (b:Int) (path:List Int) (hl:eK t≤1073741824) (hp:path.length≤1073741824):aB C dG [iD t,vI b,tE path] (S9 (near (lu t b) path)) []:=by
 refine(Jc _ _ _ _ _ ?_).run;refine⟨_,EX t b hl,?_⟩
 have key: ∀(pr:Key×Bool),((lu t b).drop 0).foldl (P6 path) pr=near (lu t b) path→aj C dG aq 4 0 (fu (path.map cv) pr.2 ((lu t b).map ck) ((0:Nat):Int) pr.1.b pr.1.a pr.1.k pr.1.c pr.1.g) (fun u st=>aD C dG aq u st fun r fs=>r=(S9 (near (lu t b) path))∧fs=[]):=by
  refine ct (lu t b) (fun i=> ∀(pr:Key×Bool),((lu t b).drop i).foldl (P6 path) pr=near (lu t b) path→aj C dG aq 4 0 (fu (path.map cv) pr.2 ((lu t b).map ck) i pr.1.b pr.1.a pr.1.k pr.1.c pr.1.g) (fun u st=>aD C dG aq u st fun r fs=>r=(S9 (near (lu t b) path))∧fs=[])) ?_ ?_
  ·intro pr h0
   refine xV _ _ _ _ _ _ _ _ _ _ (av eO (FE _ _ _ _ _ _ _ _ _ _ _ _ ?_));rw[iu] at h0;simp only[List.foldl_nil] at h0;rw[h0];exact gX
  ·intro i a hi ha hd ht hn pr h0
   have hk:=OI t b;have hz:=ji t;refine xV _ _ _ _ _ _ _ _ _ _ (ah j8 ?_);rw[hd] at h0;simp only[List.foldl_cons] at h0;obtain⟨bk,bf⟩:=pr;have hh: ∀q,aB C jG [tE path,vI a.a] (vB q) []↔q=S8 path a.a:=fun q=>ye (Lt path a.a hp);simp only[rN,hh,jM,dL,aQ,ha,aU,fQ,iw,dP,iL,lg,fW,iN,fE,iO,iP,lA,eB,natAdd,dB,bX,lF,e9,oq];rw[aR ax]
   have e:P6 path (bk,bf) a=if S8 path a.a&&(!bf||decide (bk.a<a.a)) then(a,true) else(bk,bf):=rfl
   rw[e] at h0
   cases h1:S8 path a.a<;>cases bf<;>by_cases h2:bk.a<a.a<;>simp[h1,h2] at h0 ⊢ <;>first|exact hn (a,true) h0|exact hn (bk,false) h0|exact hn (bk,true) h0
 exact key (gx,false) rfl
@[simp] theorem uU (a:Int) (q:Bool):aB C qc [vI a] (vB q) []↔q=nH a:=ye ((Ja _ _ ⟨_,kj _ _ _,rfl,by trivial⟩).run)
theorem qn (l:List Cell) (i gen:Int) (hl:l.length≤1073741824):aB C om [ql l,vI i,vI gen] (tIB (cellAt l i gen)) []:=by
 refine(Jl _ _ _ _ ?_).run;simp only[qe,iw,dB,wT,dP,wE];rw[kg ax]
 by_cases h:0≤i∧i<l.length
 ·obtain⟨a,ha⟩:=pJ h.1 h.2
  have e:mX i 0 ((l.length:Int)-1)=true:=mT ax;simp only[e,rL,ha,aU,fQ,dN,dL,cellAt]
  cases h1:a.u<;>by_cases h2:a.g=gen<;>simp[h1,h2]
 ·have e:mX i 0 ((l.length:Int)-1)=false:=ng ax
  have hn:dM l i=none:=kQ h;simp[e,cellAt,hn]
theorem IM (l:List Cell) (hl:l.length≤1073741824) (i gen:Int) (n:Int) (q:Bool):aB C om [ql l,vI i,vI gen] (.tu [(0,[iI n]),(0,[iB q])]) []↔n=(cellAt l i gen).1∧q=(cellAt l i gen).2:=YK (qn l i gen hl)
theorem rX (l:List Cell) (hl:l.length≤1073741824):aB C cO [ql l] (vI (dF l)) []:=by
 refine(D4 _ _ ?_).run
 have key: ∀(n:Nat),n+(l.drop 0).length≤l.length→n+dF (l.drop 0)=dF l→aj C cO aq 4 0 (fO n (l.map cE) ((0:Nat):Int)) (fun u st=>aD C cO aq u st fun r fs=>r=(vI (dF l))∧fs=[]):=by
  refine ct l (fun i=> ∀(n:Nat),n+(l.drop i).length≤l.length→n+dF (l.drop i)=dF l→aj C cO aq 4 0 (fO n (l.map cE) i) (fun u st=>aD C cO aq u st fun r fs=>r=(vI (dF l))∧fs=[])) ?_ ?_
  ·intro n h0 h1
   refine so _ _ _ _ (av eO (Bp _ _ _ _ _ _ ?_));rw[iu] at h1;simp[dF] at h1;simp[h1,dF]
  ·intro i a hi ha hd ht hn n h0 h1
   refine so _ _ _ _ (ah j8 ?_);rw[hd] at h0 h1;simp only[ez] at h0;simp only[wE,aQ,ha,aU,fQ,iw,dP,iL,lg,fW,iN,fE,iO,iP,lA,eB,natAdd,dB,bX,lF,e9,oq];rw[aR ax,aR ax]
   cases hu:a.u
   ·exact hn n ax (by rw[←h1];simp[dF,hu])
   ·exact hn (n+1) ax (by rw[←h1];simp[dF,hu];omega)
 exact key 0 eO eO
theorem DO (l:List Cell) (hl:l.length≤1073741824):aB C cn [ql l] (vB ((l.all oI&&decide (l.length=24)))) []:=by
 refine(HY _ _ ?_).run
 have key:((l.drop 0).all oI&&decide (l.length=24))=(l.all oI&&decide (l.length=24))→aj C cn au 4 0 (fM (l.map cE) ((0:Nat):Int)) (fun u st=>aD C cn au u st fun r fs=>r=vB ((l.all oI&&decide (l.length=24)))∧fs=[]):=by
  refine ct l (fun i=>((l.drop i).all oI&&decide (l.length=24))=(l.all oI&&decide (l.length=24))→aj C cn au 4 0 (fM (l.map cE) i) (fun u st=>aD C cn au u st fun r fs=>r=vB ((l.all oI&&decide (l.length=24)))∧fs=[])) ?_ ?_
  ·intro h0
   refine vO _ _ _ (av eO (DZ _ _ _ _ _ ?_));rw[iu] at h0;simp only[wU,e9] at h0;rw[←h0];simp[dN]
   try omega
  ·intro i a hi ha hd Ek hn h0
   have gO:oI a=false→(l.all oI&&decide (l.length=24))=false:=fun e=>by rw[←h0,hd];simp[e]
   have gN:oI a=true→aj C cn au 4 0 (fM (l.map cE) ((i:Int)+1)) (fun u st=>aD C cn au u st fun r fs=>r=vB ((l.all oI&&decide (l.length=24)))∧fs=[]):=fun e=>hn (by rw[←h0,hd];simp[e]);refine vO _ _ _ (ah j8 ?_);simp only[wE,qe,uU,dN,aQ,ha,aU,fQ,iw,dP,iL,lg,fW,iN,fE,iO,iP,lA,eB,natAdd,dB,bX,lF,e9,oq];rw[aR ax]
   cases h1:mX a.g 0 999<;>cases h2:nH a.n<;>cases h3:a.u<;>by_cases h4:a.n=0<;>simp only[h1,h2,h3,h4,rL,Cb,decide_true,decide_false,not_true_eq_false,not_false_eq_true,Gn,Bool.not_false]<;>first|exact gN (by unfold oI;rw[h1,h2,h3];simp[h4])|exact DY _ _ _ _ (by rw[gO (by unfold oI;rw[h1,h2,h3];simp[h4])];exact gX)
 exact key rfl
theorem rY (l:List Cell) (hl:l.length≤1073741824) (q:Bool):aB C cn [ql l] (vB q) []↔q=fU l:=ye (DO l hl)
theorem EY (s:ByteArray) (hl:s.size≤140737488355328):aB C bY [vS s] (vB ((fJ s.size (jj s)&&mX s.size 1 6))) []:=by
 refine(IZ _ _ ?_).run
 have key:((List.range' 0 (s.size-0)).all (jj s)&&mX s.size 1 6)=(fJ s.size (jj s)&&mX s.size 1 6)→aj C bY au 4 0 (gT s ((0:Nat):Int)) (fun u st=>aD C bY au u st fun r fs=>r=vB ((fJ s.size (jj s)&&mX s.size 1 6))∧fs=[]):=by
  refine vt (s.size) (fun i=>((List.range' i (s.size-i)).all (jj s)&&mX s.size 1 6)=(fJ s.size (jj s)&&mX s.size 1 6)→aj C bY au 4 0 (gT s i) (fun u st=>aD C bY au u st fun r fs=>r=vB ((fJ s.size (jj s)&&mX s.size 1 6))∧fs=[])) ?_ ?_
  ·intro h0
   refine xM _ _ _ (av eO (Fb _ _ _ _ ?_));rw[oY] at h0;simp only[List.range'_zero,wU,e9] at h0;rw[←h0];simp only[qe,iw,W8,wT];simp
  ·intro i hi hn h0
   rw[pK hi,pX] at h0
   have gO:(jj s) i=false→(fJ s.size (jj s)&&mX s.size 1 6)=false:=fun e=>by rw[←h0,e];rfl
   have gN:(jj s) i=true→aj C bY au 4 0 (gT s ((i:Int)+1)) (fun u st=>aD C bY au u st fun r fs=>r=vB ((fJ s.size (jj s)&&mX s.size 1 6))∧fs=[]):=fun e=>hn (by rw[←h0,e];rfl);refine xM _ _ _ (ah j8 ?_);obtain⟨n,hb,hn0,hn1⟩:=Q7 hi;have hw:va .i64 n=n:=M3 ax;simp only[hb,aU,fQ,qe,iw,hw,dP];rw[aR ax]
   have e:jj s i=(mX n 97 122||mX n 48 57):=by unfold jj;rw[hb];rfl
   rw[e] at gO gN
   cases h1:mX n 97 122<;>cases h2:mX n 48 57<;>simp only[rL,Cb]<;>first|exact gN (by rw[h1,h2];rfl)|exact Fa _ (by rw[gO (by rw[h1,h2];rfl)];exact gX)
 exact key rfl
theorem kV (s:ByteArray) (hl:s.size≤140737488355328) (q:Bool):aB C bY [vS s] (vB q) []↔q=lz s:=ye (EY s hl)
theorem nK (l:List lU) (id:Int) (hl:l.length≤1073741824):aB C c7 [jN l,vI id] (tE (hJ l id)) []:=by
 refine(Jf _ _ _ ?_).run;unfold hJ
 by_cases hz:id=0
 ·refine ah (by simp[hz]) ?_
  rw[aP hz];exact gX
 refine av (by simp[hz]) ?_;rw[aF hz]
 have key: ∀(acc:List Int),acc.length+(l.drop 0).length≤l.length→acc++((l.drop 0).filter fun a=>decide (a.fr=id)).map (·.id)=(l.filter fun a=>decide (a.fr=id)).map (·.id)→aj C c7 aJ 4 0 (iZ id (l.map cW) ((0:Nat):Int) (acc.map cv)) (fun u st=>aD C c7 aJ u st fun r fs=>r=tE ((l.filter fun a=>decide (a.fr=id)).map (·.id))∧fs=[]):=by
  refine ct l (fun i=> ∀(acc:List Int),acc.length+(l.drop i).length≤l.length→acc++((l.drop i).filter fun a=>decide (a.fr=id)).map (·.id)=(l.filter fun a=>decide (a.fr=id)).map (·.id)→aj C c7 aJ 4 0 (iZ id (l.map cW) i (acc.map cv)) (fun u st=>aD C c7 aJ u st fun r fs=>r=tE ((l.filter fun a=>decide (a.fr=id)).map (·.id))∧fs=[])) ?_ ?_
  ·intro acc h0 h1
   refine xY _ _ _ _ _ (av eO (FL _ _ _ _ _ _ _ ?_));rw[iu] at h1;simp only[List.filter_nil,List.map_nil,lX] at h1;rw[h1];exact gX
  ·intro i a hi ha hd ht hn acc h0 h1
   refine xY _ _ _ _ _ (ah j8 ?_);rw[hd] at h0 h1;simp only[ez] at h0;simp only[Dz,K6,K5,dN,dL,aQ,ha,aU,fQ,iw,dP,iL,lg,fW,iN,fE,iO,iP,lA,eB,natAdd,dB,bX,lF,e9,oq];simp (disch:=omega) only[fF,aR,rL]
   by_cases hk:a.fr=id
   ·rw[aP hk]
    exact hn (acc++[a.id]) (by simp only[bX,lF];omega) (by rw[←h1];simp[hk])
   ·rw[aF hk]
    exact hn _ ax (by rw[←h1];simp[hk])
 exact key [] eO rfl
theorem EZ (l:List Key) (hl:l.length≤1073741824):aB C dJ [gZ l] (vB ((fJ l.length (jF l)&&decide (l.length≤60)))) []:=by
 refine(LG _ _ ?_).run
 have key:((List.range' 0 (l.length-0)).all (jF l)&&decide (l.length≤60))=(fJ l.length (jF l)&&decide (l.length≤60))→aj C dJ au 4 0 (iH (l.map ck) ((0:Nat):Int)) (fun u st=>aD C dJ au u st fun r fs=>r=vB ((fJ l.length (jF l)&&decide (l.length≤60)))∧fs=[]):=by
  refine vt (l.length) (fun i=>((List.range' i (l.length-i)).all (jF l)&&decide (l.length≤60))=(fJ l.length (jF l)&&decide (l.length≤60))→aj C dJ au 4 0 (iH (l.map ck) i) (fun u st=>aD C dJ au u st fun r fs=>r=vB ((fJ l.length (jF l)&&decide (l.length≤60)))∧fs=[])) ?_ ?_
  ·intro h0
   refine zg _ _ _ (av eO (HW _ _ _ _ _ ?_));rw[oY] at h0;simp only[List.range'_zero,wU,e9] at h0;rw[←h0];simp[lq];omega
  ·intro i hi hn h0
   rw[pK hi,pX] at h0
   have gO:(jF l) i=false→(fJ l.length (jF l)&&decide (l.length≤60))=false:=fun e=>by rw[←h0,e];rfl
   have gN:(jF l) i=true→aj C dJ au 4 0 (iH (l.map ck) ((i:Int)+1)) (fun u st=>aD C dJ au u st fun r fs=>r=vB ((fJ l.length (jF l)&&decide (l.length≤60)))∧fs=[]):=fun e=>hn (by rw[←h0,e];rfl);refine zg _ _ _ (ah j8 ?_);have ha:l[i]?=some l[i]:=aZ hi;simp only[rN,Cw,y6,aQ,ha,aU,fQ,iw,dP,iL,lg,fW,iN,fE,iO,iP,lA,eB,natAdd,dB,bX,lF,e9,oq];rw[aR ax]
   cases i with
   |zero=>
    have e:jF l 0=jO l[0]:=by simp[jF,S6,mA,hi]
    simp only[e] at gO gN
    cases h1:jO l[0]<;>simp only[h1,rL,Cb,jM,dL,Int.natCast_zero,Int.lt_irrefl,if_false]<;>first|exact gN h1|exact zh _ _ _ _ _ _ (by rw[gO h1];exact gX)
   |succ k=>
    have hk:l[k]?=some l[k]:=aZ ax
    have e:jF l (k+1)=(jO l[k+1]&&iM l[k] l[k+1]):=by simp only[jF,S6,mA,hk,ha]
    simp only[e] at gO gN;rw[kg ax,show((k+1:Nat):Int)-1=(k:Int) by omega];simp only[aQ,hk,aU,fQ,fW,jM,dL];rw[aP ax]
    cases h1:jO l[k+1]<;>cases h2:iM l[k] l[k+1]<;>simp only[rL,Cb]<;>first|exact gN (by rw[h1,h2];rfl)|exact zh _ _ _ _ _ _ (by rw[gO (by rw[h1,h2];rfl)];exact gX)
 exact key rfl
theorem Lu (l:List Key) (hl:l.length≤1073741824) (q:Bool):aB C dJ [gZ l] (vB q) []↔q=EE l:=ye (EZ l hl)
theorem uV (t:Tree) (l:List lU) (b id:Int) (hl:eK t≤1073741824) (ha:l.length≤1073741823):aB C zY [iD t,jN l,vI b,vI id] (S9 (qC t l b id)) []:=by
 refine(NL _ _ _ _ _ _ ?_).run;refine⟨_,w6 l id ax,_,_,_,_,_,_,w7 t b _ hl (by have:=Hl l id;omega),?_⟩;exact gX
theorem Bi (t:Tree) (l:List lU) (b id:Int) (hl:eK t≤1073741824) (ha:l.length≤1073741823):aB C rT [iD t,jN l,vI b,vI id] (S9 (DD t l b id)) []:=by
 refine(D5 _ _ _ _ _ _ ?_).run;have hp:=Hl l id;refine⟨_,w6 l id ax,?_⟩;simp only[dB,wT,ie,UT];unfold DD
 have e: ∀m:Int,((m=1∧1≤(pathOf l id).length)∨(m=0∧(pathOf l id).length=0))→List.drop m.toNat (List.take (Int.toNat ((pathOf l id).length:Int)) (pathOf l id))=(pathOf l id).drop 1:=fun m hm=>by
  rw[sJ,BC];rcases hm with⟨rfl,_⟩|⟨rfl,h⟩
  ·rfl
  ·rw[yq h];rfl
 have hm:(if((pathOf l id).length:Int)<1 then((pathOf l id).length:Int) else 1)=1∧1≤(pathOf l id).length∨((if((pathOf l id).length:Int)<1 then((pathOf l id).length:Int) else 1)=0∧(pathOf l id).length=0):=by split<;>omega
 revert hm
 generalize (if((pathOf l id).length:Int)<1 then((pathOf l id).length:Int) else 1)=m;intro hm;rw[e m hm];refine ah j8 ⟨_,_,_,_,_,_,w7 t b _ hl j8,?_⟩;exact gX
theorem IN (t:Tree) (l:List lU) (k:Key) (id:Int) (hl:eK t≤1073741824) (ha:l.length≤1073741823):aB C zZ [iD t,jN l,yQ k,vI id] (vB (qD t l k id)) []:=by
 refine(NG _ _ _ _ _ _ _ _ _ _ ?_).run;refine⟨_,_,_,_,_,_,uV t l k.b id hl ha,?_⟩;unfold qD;simp only[dN]
 cases h:(qC t l k.b id).2
 ·exact av rfl gX
 ·exact ah rfl ⟨by simp,by trivial⟩
theorem Bj (p:bn) (k:Key) (ht:eK p.t≤1073741824) (hg:p.aX.length≤1073741823) (hl:p.az.length≤1073741824):aB C bS [iE p,yQ k] (vB ((p.az.any (fun v:iV=>decide (k.b<v.size)&&qD p.t p.aX k v.ga)))) []:=by
 refine(Ed _ _ _ _ _ _ _ _ _ _ _ _ ?_).run
 have key:((p.az.drop 0).any (fun v:iV=>decide (k.b<v.size)&&qD p.t p.aX k v.ga))=(p.az.any (fun v:iV=>decide (k.b<v.size)&&qD p.t p.aX k v.ga))→aj C bS au 4 0 (eN (p.az.map cU) ((0:Nat):Int) (p.t.ay.map cv) (p.t.nodes.map bG) (p.aX.map cW) (p.cells.map cE) p.next k.b k.a k.k k.c k.g) (fun u st=>aD C bS au u st fun r fs=>r=vB ((p.az.any (fun v:iV=>decide (k.b<v.size)&&qD p.t p.aX k v.ga)))∧fs=[]):=by
  refine ct p.az (fun i=>((p.az.drop i).any (fun v:iV=>decide (k.b<v.size)&&qD p.t p.aX k v.ga))=(p.az.any (fun v:iV=>decide (k.b<v.size)&&qD p.t p.aX k v.ga))→aj C bS au 4 0 (eN (p.az.map cU) i (p.t.ay.map cv) (p.t.nodes.map bG) (p.aX.map cW) (p.cells.map cE) p.next k.b k.a k.k k.c k.g) (fun u st=>aD C bS au u st fun r fs=>r=vB ((p.az.any (fun v:iV=>decide (k.b<v.size)&&qD p.t p.aX k v.ga)))∧fs=[])) ?_ ?_
  ·intro h0
   refine su _ _ _ _ _ _ _ _ _ _ _ _ _ (av eO (Bu _ _ _ _ _ _ _ _ _ _ _ _ _ _ _ ?_));rw[iu] at h0;simp only[List.any_nil,e9] at h0;rw[←h0];exact gX
  ·intro i a hi ha hd Ek hn h0
   have gO:(fun v:iV=>decide (k.b<v.size)&&qD p.t p.aX k v.ga) a=true→(p.az.any (fun v:iV=>decide (k.b<v.size)&&qD p.t p.aX k v.ga))=true:=fun e=>by rw[←h0,hd];simp[e]
   have gN:(fun v:iV=>decide (k.b<v.size)&&qD p.t p.aX k v.ga) a=false→aj C bS au 4 0 (eN (p.az.map cU) ((i:Int)+1) (p.t.ay.map cv) (p.t.nodes.map bG) (p.aX.map cW) (p.cells.map cE) p.next k.b k.a k.k k.c k.g) (fun u st=>aD C bS au u st fun r fs=>r=vB ((p.az.any (fun v:iV=>decide (k.b<v.size)&&qD p.t p.aX k v.ga)))∧fs=[]):=fun e=>hn (by rw[←h0,hd];simp[e]);refine su _ _ _ _ _ _ _ _ _ _ _ _ _ (ah j8 ?_)
   have hh: ∀q,aB C zZ [iD p.t,jN p.aX,yQ k,vI a.ga] (vB q) []↔q=qD p.t p.aX k a.ga:=fun q=>ye (IN p.t p.aX k a.ga ht hg);simp only[A7,hh,jM,dL,aQ,ha,aU,fQ,iw,dP,iL,lg,fW,iN,fE,iO,iP,lA,eB,natAdd,dB,bX,lF,e9,oq];rw[aR ax]
   by_cases h1:k.b<a.size<;>cases h2:qD p.t p.aX k a.ga<;>simp only[h1,if_true,if_false,rL,Cb]<;>first|exact gN (by simp[h1,h2])|exact Bt _ _ _ _ _ _ _ _ _ _ _ _ _ _ _ _ (by rw[gO (by simp[h1,h2])];exact gX)
 exact key rfl
theorem Af (p:bn) (k:Key) (ht:eK p.t≤1073741824) (hg:p.aX.length≤1073741823) (hl:p.az.length≤1073741824):aB C bS [iE p,yQ k] (vB (J1 p k)) []:=Bj p k ht hg hl
@[simp] theorem HM (n:ByteArray) (a z:Int) (f:Bool) (s:ByteArray) (q:Bool):aB C qW [.ag [iS n,iI a,iI z,iB f],.bx [iS s]] (vB q) []↔q=decide (n=s):=ye (by
  refine(H6 _ _ _ _ _ _ ?_).run
  simp)
theorem IP (l:List iV) (s:ByteArray) (hl:l.length≤1073741824):aB C an [Cd l,.fn qW [[iS s]]] (vI (dx l s)) []:=by
 refine(nC _ _ _ ?_).run
 have key:dW (fun v:iV=>decide (v.name=s)) (l.drop 0) ((0:Nat):Int)=dW (fun v:iV=>decide (v.name=s)) l 0→aj C an au 4 0 (bV (l.map cU) ((0:Nat):Int) s) (fun u st=>aD C an au u st fun r fs=>r=vI (dx l s)∧fs=[]):=by
  refine ct l (fun i=>dW (fun v:iV=>decide (v.name=s)) (l.drop i) (i:Int)=dW (fun v:iV=>decide (v.name=s)) l 0→aj C an au 4 0 (bV (l.map cU) i s) _) ?_ ?_
  ·intro h0
   refine gP _ _ _ _ (av eO (mO _ _ _ _ _ _ ?_));rw[iu] at h0;simp only[dW] at h0;change _=vI (dW (fun v:iV=>decide (v.name=s)) l 0)∧_;rw[←h0];exact gX
  ·intro i a hi ha hd Ek hn h0
   refine gP _ _ _ _ (ah j8 ?_);rw[hd] at h0;simp only[dW] at h0;simp only[A7,dN,HM,dL,aQ,ha,aU,fQ,iw,dP,iL,lg,fW,iN,fE,iO,iP,lA,eB,natAdd,dB,bX,lF,e9,oq];rw[aR ax]
   split at h0
   ·rename_i hp
    have hp:=ry hp
    first|rw[aP hp]|rw[aP hp.symm]
    refine mN _ _ _ ?_;rw[h0];exact gX
   ·rename_i hp
    have hp: ¬_:=fun h=>hp (mT h)
    first|rw[aF hp]|rw[aF (fun h=>hp h.symm)]
    exact hn h0
 exact key rfl
theorem jV (p:bn) (s:ByteArray) (hl:p.az.length≤1073741824):aB C nX [iE p,vS s] (vI (dx p.az s)) []:=(LH _ _ _ _ _ _ _ _ ⟨_,IP p.az s hl,rfl,by trivial⟩).run
@[simp] theorem IQ (n:ByteArray) (a z:Int) (f:Bool) (id:Int) (q:Bool):aB C qd [.ag [iS n,iI a,iI z,iB f],.bx [iI id]] (vB q) []↔q=decide (a=id):=ye (by
  refine(Jg _ _ _ _ _ _ ?_).run
  simp)
theorem Ag (l:List iV) (id:Int) (hl:l.length≤1073741824):aB C an [Cd l,.fn qd [[iI id]]] (vI (dW (fun v:iV=>decide (v.ga=id)) l 0)) []:=by
 refine(nZ _ _ _ ?_).run
 have key:dW (fun v:iV=>decide (v.ga=id)) (l.drop 0) ((0:Nat):Int)=dW (fun v:iV=>decide (v.ga=id)) l 0→aj C an au 4 0 (cj (l.map cU) ((0:Nat):Int) id) (fun u st=>aD C an au u st fun r fs=>r=vI (dW (fun v:iV=>decide (v.ga=id)) l 0)∧fs=[]):=by
  refine ct l (fun i=>dW (fun v:iV=>decide (v.ga=id)) (l.drop i) (i:Int)=dW (fun v:iV=>decide (v.ga=id)) l 0→aj C an au 4 0 (cj (l.map cU) i id) _) ?_ ?_
  ·intro h0
   refine g9 _ _ _ _ (av eO (m7 _ _ _ _ _ _ ?_));rw[iu] at h0;simp only[dW] at h0;change _=vI (dW (fun v:iV=>decide (v.ga=id)) l 0)∧_;rw[←h0];exact gX
  ·intro i a hi ha hd Ek hn h0
   refine g9 _ _ _ _ (ah j8 ?_);rw[hd] at h0;simp only[dW] at h0;simp only[A7,dN,IQ,dL,aQ,ha,aU,fQ,iw,dP,iL,lg,fW,iN,fE,iO,iP,lA,eB,natAdd,dB,bX,lF,e9,oq];rw[aR ax]
   split at h0
   ·rename_i hp
    have hp:=ry hp
    first|rw[aP hp]|rw[aP hp.symm]
    refine m6 _ _ _ ?_;rw[h0];exact gX
   ·rename_i hp
    have hp: ¬_:=fun h=>hp (mT h)
    first|rw[aF hp]|rw[aF (fun h=>hp h.symm)]
    exact hn h0
 exact key rfl
theorem Ah (l:List iV) (id:Int) (hl:l.length≤1073741824):aB C cD [Cd l,.fn qd [[iI id]]] (vB (l.any (fun v:iV=>decide (v.ga=id)))) []:=by
 refine(mP _ _ _ ⟨_,Ag l id hl,?_⟩).run
 (try dsimp only)
 rw[lq,Ch _ _ _ ax];exact gX
@[simp] theorem E0 (n:ByteArray) (a z:Int) (f:Bool) (s:ByteArray) (a' z':Int) (f':Bool) (q:Bool):aB C kU [.ag [iS n,iI a,iI z,iB f],.bx [iS s,iI a',iI z',iB f']] (vB q) []↔q=decide (a=a'):=ye (by
  refine(F1 _ _ _ _ _ _ _ _ _ ?_).run
  simp)
theorem yh (l:List iV) (s:ByteArray) (a' z':Int) (f':Bool) (hl:l.length≤1073741824):aB C an [Cd l,.fn kU [[iS s,iI a',iI z',iB f']]] (vI (dW (fun v:iV=>decide (v.ga=a')) l 0)) []:=by
 refine(m8 _ _ _ _ _ _ ?_).run
 have key:dW (fun v:iV=>decide (v.ga=a')) (l.drop 0) ((0:Nat):Int)=dW (fun v:iV=>decide (v.ga=a')) l 0→aj C an au 4 0 (bT (l.map cU) ((0:Nat):Int) s a' z' f') (fun u st=>aD C an au u st fun r fs=>r=vI (dW (fun v:iV=>decide (v.ga=a')) l 0)∧fs=[]):=by
  refine ct l (fun i=>dW (fun v:iV=>decide (v.ga=a')) (l.drop i) (i:Int)=dW (fun v:iV=>decide (v.ga=a')) l 0→aj C an au 4 0 (bT (l.map cU) i s a' z' f') _) ?_ ?_
  ·intro h0
   refine gq _ _ _ _ _ _ _ (av eO (mE _ _ _ _ _ _ _ _ _ ?_));rw[iu] at h0;simp only[dW] at h0;change _=vI (dW (fun v:iV=>decide (v.ga=a')) l 0)∧_;rw[←h0];exact gX
  ·intro i a hi ha hd Ek hn h0
   refine gq _ _ _ _ _ _ _ (ah j8 ?_);rw[hd] at h0;simp only[dW] at h0;simp only[A7,dN,E0,dL,aQ,ha,aU,fQ,iw,dP,iL,lg,fW,iN,fE,iO,iP,lA,eB,natAdd,dB,bX,lF,e9,oq];rw[aR ax]
   split at h0
   ·rename_i hp
    have hp:=ry hp
    first|rw[aP hp]|rw[aP hp.symm]
    refine mD _ _ _ _ _ _ ?_;rw[h0];exact gX
   ·rename_i hp
    have hp: ¬_:=fun h=>hp (mT h)
    first|rw[aF hp]|rw[aF (fun h=>hp h.symm)]
    exact hn h0
 exact key rfl
theorem yj (l:List iV) (s:ByteArray) (a' z':Int) (f':Bool) (hl:l.length≤1073741824):aB C cD [Cd l,.fn kU [[iS s,iI a',iI z',iB f']]] (vB (l.any (fun v:iV=>decide (v.ga=a')))) []:=by
 refine(lV _ _ _ _ _ _ ⟨_,yh l s a' z' f' hl,?_⟩).run
 (try dsimp only)
 rw[lq,Ch _ _ _ ax];exact gX
theorem AG (p:bn) (id:Int) (hl:p.az.length≤1073741824):aB C z7 [iE p,vI id] (vB (J2 p.az id)) []:=(NK _ _ _ _ _ _ _ _ ⟨_,Ah p.az id hl,rfl,by trivial⟩).run
theorem DP (n:List (List Key)) (hb:n.length≤1073741824) (hl:tot cL n≤1073741824):aB C aY [oh n] (vB (n.all gy&&(decide (n.length≤3)&&decide (eT n≤8)))) []:=by
 refine(Jh _ _ ?_).run
 have key: ∀(c:Nat),c+tot cL (n.drop 0)=eT n→((n.drop 0).all gy&&(decide (n.length≤3)&&decide (eT n≤8)))=(n.all gy&&(decide (n.length≤3)&&decide (eT n≤8)))→aj C aY aq 4 0 (kL c (n.map dI) ((0:Nat):Int)) (fun u st=>aD C aY aq u st fun r fs=>r=(vB (n.all gy&&(decide (n.length≤3)&&decide (eT n≤8))))∧fs=[]):=by
  refine ct n (fun i=> ∀(c:Nat),c+tot cL (n.drop i)=eT n→((n.drop i).all gy&&(decide (n.length≤3)&&decide (eT n≤8)))=(n.all gy&&(decide (n.length≤3)&&decide (eT n≤8)))→aj C aY aq 4 0 (kL c (n.map dI) i) (fun u st=>aD C aY aq u st fun r fs=>r=(vB (n.all gy&&(decide (n.length≤3)&&decide (eT n≤8))))∧fs=[])) ?_ ?_
  ·intro c h0 h1
   refine xZ _ _ _ _ (av eO (FO _ _ _ _ _ _ ?_));rw[iu] at h0 h1;simp only[tot,oX] at h0;simp only[wU,e9] at h1;rw[←h1];simp only[lq,dB,wT,dL]
   by_cases h3:n.length≤3
   ·rw[aP ax]
    simp[h3];omega
   ·rw[aF ax]
    simp[h3]
  ·intro i a hi ha hd ht hn c h0 h1
   refine xZ _ _ _ _ (ah j8 ?_);have hz:a.length≤tot cL n:=wF (w:=cL) ha;have hh: ∀q,aB C dJ [gZ a] (vB q) []↔q=EE a:=fun q=>Lu a ax q;rw[hd] at h0 h1;have e5:tot cL (a::n.drop (i+1))=a.length+tot cL (n.drop (i+1)):=rfl;rw[e5] at h0;unfold eT at h0;have hO:gy a=false→aD C aY aq TX.ret (nO (n.map dI)) (fun r fs=>r=vB (n.all gy&&(decide (n.length≤3)&&decide (eT n≤8)))∧fs=[]):=fun e=>FN _ _ (by rw[←h1];simp only[pX,e];exact gX)
   simp only[Hg,hh,dN,wT,dL,aQ,ha,aU,fQ,iw,dP,iL,lg,fW,iN,fE,iO,iP,lA,eB,natAdd,dB,bX,lF,e9,oq];rw[aR ax,aR ax]
   cases h2:EE a<;>by_cases h3:a.length=0<;>simp only[rL,Cb]
   ·exact hO (by simp[gy,h2])
   ·exact hO (by simp[gy,h2])
   ·rw[aP ax];exact hO (by simp[gy,h3])
   ·rw[aF ax]
    exact hn (c+a.length) (by unfold eT;omega) (by rw[←h1];simp[gy,h2,h3])
 exact key 0 (by simp[eT]) rfl
theorem qo (n:List (List Key)) (hb:n.length≤1073741824) (hl:tot cL n≤1073741824):aB C aY [oh n] (vB (fe n)) []:=by
 have:=DP n hb hl;rw[Q8];exact this
theorem IS (n:List (List Key)) (hb:n.length≤1073741824) (hl:tot cL n≤1073741824) (q:Bool):aB C aY [.ag [.sub 1 (n.map dI)]] (vB q) []↔q=fe n:=ye (qo n hb hl)
theorem qp (l:List lU) (hl:l.length≤1073741824):aB C bN [jN l] (vB ((fJ l.length (jk l)&&decide (l.length≤16)))) []:=by
 refine(Jd _ _ ?_).run
 have key:((List.range' 0 (l.length-0)).all (jk l)&&decide (l.length≤16))=(fJ l.length (jk l)&&decide (l.length≤16))→aj C bN au 4 0 (eJ (l.map cW) ((0:Nat):Int)) (fun u st=>aD C bN au u st fun r fs=>r=vB ((fJ l.length (jk l)&&decide (l.length≤16)))∧fs=[]):=by
  refine vt (l.length) (fun i=>((List.range' i (l.length-i)).all (jk l)&&decide (l.length≤16))=(fJ l.length (jk l)&&decide (l.length≤16))→aj C bN au 4 0 (eJ (l.map cW) i) (fun u st=>aD C bN au u st fun r fs=>r=vB ((fJ l.length (jk l)&&decide (l.length≤16)))∧fs=[])) ?_ ?_
  ·intro h0
   refine xW _ _ _ (av eO (FH _ _ _ _ _ ?_));rw[oY] at h0;simp only[List.range'_zero,wU,e9] at h0;rw[←h0];simp[lq];omega
  ·intro i hi hn h0
   rw[pK hi,pX] at h0
   have gO:(jk l) i=false→(fJ l.length (jk l)&&decide (l.length≤16))=false:=fun e=>by rw[←h0,e];rfl
   have gN:(jk l) i=true→aj C bN au 4 0 (eJ (l.map cW) ((i:Int)+1)) (fun u st=>aD C bN au u st fun r fs=>r=vB ((fJ l.length (jk l)&&decide (l.length≤16)))∧fs=[]):=fun e=>hn (by rw[←h0,e];rfl);refine xW _ _ _ (ah j8 ?_);have ha:l[i]?=some l[i]:=aZ hi;have hh: ∀q,aB C eg [jN (l.take i),vI l[i].fr] (vI q) []↔q=ff (l.take i) l[i].fr:=fun q=>wP (l.take i) l[i].fr j8 q
   have sH:bg (l.map cW) 0 (i:Int)=(l.take i).map cW:=by rw[ie,sJ];rfl
   have hin:mg 0 (i:Int) (l.length:Int)=true:=by simp;omega
   simp only[Dz,qe,sH,aQ,ha,aU,fQ,iw,dP,iL,lg,fW,iN,fE,iO,iP,lA,eB,natAdd,dB,bX,lF,e9,oq];simp only[ha,hin,hh,iw,aU,fQ,rL,dN,lq,jM,dL,wT,dB];rw[aR ax]
   cases i with
   |zero=>
    have e:jk l 0=(mX l[0].id 1 60&&(decide (l[0].fr=0)|| !decide (ff (l.take 0) l[0].fr<0))):=by simp[jk,S6,mA,hi]
    rw[e] at gO gN
    have hz: ¬((0:Int)<((0:Nat):Int)):=by omega
    simp only[aF hz]
    cases h1:mX l[0].id 1 60 with
    |false=>simp only[Cb];exact kM _ _ _ (by rw[gO (by rw[h1];simp)];exact gX)
    |true=>
     simp only[rL]
     by_cases h2:l[0].fr=0
     ·rw[aP h2];exact gN (by rw[h1,mT h2];simp)
     ·rw[aF h2]
      by_cases h3:ff (l.take 0) l[0].fr<0
      ·rw[aP h3];exact kM _ _ _ (by rw[gO (by rw[ng h2,mT h3];simp)];exact gX)
      ·rw[aF h3];exact gN (by rw[h1,ng h3];simp)
   |succ k=>
    have hk:l[k]?=some l[k]:=aZ ax
    have e:jk l (k+1)=(mX l[k+1].id 1 60&&(decide (l[k].id<l[k+1].id)&&(decide (l[k+1].fr=0)|| !decide (ff (l.take (k+1)) l[k+1].fr<0)))):=by simp only[jk,S6,mA,hk,ha]
    rw[e] at gO gN;rw[kg ax,show((k+1:Nat):Int)-1=(k:Int) by omega];simp only[aQ,hk,aU,fQ];rw[aP ax]
    cases h1:mX l[k+1].id 1 60 with
    |false=>simp only[Cb];exact kM _ _ _ (by rw[gO (by rw[h1];simp)];exact gX)
    |true=>
     simp only[rL]
     by_cases h4:l[k].id<l[k+1].id
     ·rw[aF ax]
      by_cases h2:l[k+1].fr=0
      ·rw[aP h2];exact gN (by rw[h1,mT h4,mT h2];simp)
      ·rw[aF h2]
       by_cases h3:ff (l.take (k+1)) l[k+1].fr<0
       ·rw[aP h3];exact kM _ _ _ (by rw[gO (by rw[ng h2,mT h3];simp)];exact gX)
       ·rw[aF h3];exact gN (by rw[h1,mT h4,ng h3];simp)
     ·rw[aP ax];exact kM _ _ _ (by rw[gO (by rw[ng h4];simp)];exact gX)
 exact key rfl
theorem IT (l:List lU) (hl:l.length≤1073741824) (q:Bool):aB C bN [jN l] (vB q) []↔q=jQ l:=ye (qp l hl)
@[simp] theorem uW (b a q:Int):aB C qb [vI b,vI a] (vI q) []↔q=eL b a:=YJ ((Ji _ _ _ gX).run)
theorem Bk (t:Tree) (i:Nat) (n:List (List Key)) (hi:i<t.ay.length) (hl:eK t≤1073741824) (hn:n.length≤1073741824) (hz:tot cL n≤1073741824):aj C aN au 4 0 (gH i (n.map dI) (n.length:Int) ((0:Nat):Int) (t.ay.map cv) (t.nodes.map bG)) (fun u st=>aD C aN au u st fun r fs=>r=vB (n.all (dO t.ay i))∧fs=[]):=by
 have hll:t.ay.length≤1073741824:=by unfold eK at hl;omega
 have hlo:t.ay[i]?=some t.ay[i]:=aZ hi
 have key:(n.drop 0).all (dO t.ay i)=n.all (dO t.ay i)→aj C aN au 4 0 (gH i (n.map dI) (n.length:Int) ((0:Nat):Int) (t.ay.map cv) (t.nodes.map bG)) (fun u st=>aD C aN au u st fun r fs=>r=vB (n.all (dO t.ay i))∧fs=[]):=by
  refine ct n (fun k=>(n.drop k).all (dO t.ay i)=n.all (dO t.ay i)→aj C aN au 4 0 (gH i (n.map dI) (n.length:Int) k (t.ay.map cv) (t.nodes.map bG)) (fun u st=>aD C aN au u st fun r fs=>r=vB (n.all (dO t.ay i))∧fs=[])) ?_ ?_
  ·intro h0
   refine ur _ _ _ _ _ _ _ (av eO (CM _ _ _ _ _ _ _ _ ?_));rw[iu] at h0;simp only[wU] at h0;rw[←h0];exact gX
  ·intro k s hk hs hd Ek hnext h0
   have hsl:s.length≤tot cL n:=wF (w:=cL) hs;rw[hd,pX] at h0;refine ur _ _ _ _ _ _ _ (ah j8 ⟨_,JX hs,?_⟩)
   have keyI:(s.drop 0).all (kR t.ay i)=s.all (kR t.ay i)→aj C aN jy 3 2 (fj i (n.map dI) (n.length:Int) k (s.map ck) ((0:Nat):Int) (t.ay.map cv) (t.nodes.map bG)) (fun u st=>wD C aN au 4 0 kD u st (fun u st=>aD C aN au u st fun r fs=>r=vB (n.all (dO t.ay i))∧fs=[])):=by
    refine ct s (fun j=>(s.drop j).all (kR t.ay i)=s.all (kR t.ay i)→aj C aN jy 3 2 (fj i (n.map dI) (n.length:Int) k (s.map ck) j (t.ay.map cv) (t.nodes.map bG)) (fun u st=>wD C aN au 4 0 kD u st (fun u st=>aD C aN au u st fun r fs=>r=vB (n.all (dO t.ay i))∧fs=[]))) ?_ ?_
    ·intro h1
     rw[iu] at h1;simp only[wU] at h1;refine uu _ _ _ _ _ _ _ _ _ (av eO (CO _ _ _ _ _ _ _ _ _ _ _ ?_));rw[aR ax];exact hnext (by rw[←h0];unfold dO;rw[←h1];simp)
    ·intro j x hj hx Qp htj hn2 h1
     rw[Qp,pX] at h1
     have gO:kR t.ay i x=false→wD C aN au 4 0 kD TX.ret (lP (t.ay.map cv) (t.nodes.map bG) x.b x.a x.k x.c x.g) (fun u st=>aD C aN au u st fun r fs=>r=vB (n.all (dO t.ay i))∧fs=[]):=fun e=>CN _ _ _ _ _ _ _ _ (CP _ _ _ _ _ _ _ _ (by
      have e2:dO t.ay i s=false:=by unfold dO;rw[←h1,e];rfl
      rw[←h0,e2];exact gX))
     have gN:kR t.ay i x=true→aj C aN jy 3 2 (fj i (n.map dI) (n.length:Int) k (s.map ck) ((j:Int)+1) (t.ay.map cv) (t.nodes.map bG)) (fun u st=>wD C aN au 4 0 kD u st (fun u st=>aD C aN au u st fun r fs=>r=vB (n.all (dO t.ay i))∧fs=[])):=fun e=>hn2 (by rw[←h1,e];rfl)
     have e:kR t.ay i x=(!decide (eL x.b x.a<t.ay[i])&&(match t.ay[i+1]? with|some hi=>decide (eL x.b x.a<hi)|none=>true)):=by simp only[kR,OL,hlo];rfl
     rw[e] at gO gN;refine uu _ _ _ _ _ _ _ _ _ (ah j8 ?_);rw[aR (a:=(i:Int)) ax,aR (a:=(j:Int)) ax];simp only[rN,A6,aQ,hx,hlo,aU,fQ,uW,iw,jM,lq,dL,dB,wT]
     by_cases h2:eL x.b x.a<t.ay[i]
     ·rw[aP h2]
      exact gO (by rw[mT h2];rfl)
     ·rw[aF h2]
      by_cases h3:i+1<t.ay.length
      ·have hhi:t.ay[i+1]?=some t.ay[i+1]:=aZ h3
       rw[aP ax,show((i:Int)+1)=((i+1:Nat):Int) by omega,aQ,hhi];simp only[aU,fQ];rw[hhi] at gO gN
       by_cases h4:eL x.b x.a<t.ay[i+1]
       ·rw[aF ax]
        exact gN (by rw[ng h2];simp[h4])
       ·rw[aP ax]
        exact gO (by simp[h4])
      ·rw[aF ax]
       have hno:t.ay[i+1]?=none:=Jr ax;rw[hno] at gN;exact gN (by rw[ng h2];rfl)
   exact keyI rfl
 exact key rfl
theorem Cy (t:Tree) (i:Nat) (n:List (List Key)) (ha:t.nodes[i]?=some n) (hlo:i<t.ay.length) (hl:eK t≤1073741824):aB C aN [iD t,vI i] (vB (n.all (dO t.ay i))) []:=by
 have hz:bw n≤tot bw t.nodes:=wF (w:=bw) ha;have e1:bw n=n.length+tot cL n:=rfl;have e2:eK t=t.ay.length+(t.nodes.length+tot bw t.nodes):=rfl;refine(Fh _ _ _ _ ⟨_,JX (e:=bG) ha,?_⟩).run;simp only[dB,wT];exact Bk t i n hlo hl ax ax
theorem qq (t:Tree) (hl:eK t≤1073741824):aB C bE [iD t] (vB (gj t)) []:=by
 have e2:eK t=t.ay.length+(t.nodes.length+tot bw t.nodes):=rfl;refine(I5 _ _ _ ?_).run;simp only[qe,iw,dB,wT,dN,dP];unfold gj
 cases h1:mX (t.nodes.length:Int) 1 20 with
 |false=>exact av rfl gX
 |true=>
  refine ah rfl ?_
  have hn1:1≤t.nodes.length:=by have:=ry h1;omega
  by_cases h2:t.ay.length=t.nodes.length
  ·refine ah (by simp[h2]) ?_
   have h0:t.ay[0]?=some t.ay[0]:=aZ ax
   have LZ:dM t.ay 0=some t.ay[0]:=by rw[show(0:Int)=((0:Nat):Int) from rfl,aQ];exact h0
   simp only[A6,LZ,h0,aU,fQ,dL]
   by_cases h3:t.ay[0]=0
   ·rw[aP (by simpa using h3)]
    have hw:(true&&(decide (t.ay.length=t.nodes.length)&&((decide (t.ay[0]=0))&&(fJ t.nodes.length (eC t)&&decide ((aE t).length≤60)))))=(fJ t.nodes.length (eC t)&&decide ((aE t).length≤60)):=by simp[h2,h3]
    rw[hw]
    have key: ∀c:Nat,c+((t.nodes.drop 0).flatMap aL).length=(aE t).length→((List.range' 0 (t.nodes.length-0)).all (eC t)&&decide ((aE t).length≤60))=(fJ t.nodes.length (eC t)&&decide ((aE t).length≤60))→aj C bE aJ 4 0 (eI c (t.nodes.map bG) ((0:Nat):Int) (t.ay.map cv)) (fun u st=>aD C bE aJ u st fun r fs=>r=vB (fJ t.nodes.length (eC t)&&decide ((aE t).length≤60))∧fs=[]):=by
     refine vt t.nodes.length (fun i=> ∀c:Nat,c+((t.nodes.drop i).flatMap aL).length=(aE t).length→((List.range' i (t.nodes.length-i)).all (eC t)&&decide ((aE t).length≤60))=(fJ t.nodes.length (eC t)&&decide ((aE t).length≤60))→aj C bE aJ 4 0 (eI c (t.nodes.map bG) i (t.ay.map cv)) _) ?_ ?_
     ·intro c hc h0
      rw[oY] at h0;simp only[List.range'_zero,wU,e9] at h0;rw[iu] at hc;simp at hc;refine xR _ _ _ _ _ (av eO (Fv _ _ _ _ _ _ _ ?_));rw[←h0];simp[lq];omega
     ·intro i hi hn c hc h0
      rw[pK hi,pX] at h0;have ha:t.nodes[i]?=some t.nodes[i]:=aZ hi;have hli:t.ay[i]?=some t.ay[i]:=aZ ax;rw[El hi,List.flatMap_cons,bX] at hc;have hz:bw t.nodes[i]≤tot bw t.nodes:=wF (w:=bw) ha;have e1:bw t.nodes[i]=t.nodes[i].length+tot cL t.nodes[i]:=rfl;have hnk:=fT t.nodes[i];have Ek:=ji t;have gO1:eC t i=false→aD C bE aJ TX.ret (gU (t.ay.map cv) (t.nodes.map bG) (t.nodes[i].map dI)) (fun r fs=>r=vB (fJ t.nodes.length (eC t)&&decide ((aE t).length≤60))∧fs=[]):=fun e=>Ft _ _ _ _ (by rw[←h0,e];exact gX)
      have gO2:eC t i=false→aD C bE aJ TX.ret (nN (t.ay.map cv) (t.nodes.map bG) (t.nodes[i].map dI) ((aL t.nodes[i]).map ck)) (fun r fs=>r=vB (fJ t.nodes.length (eC t)&&decide ((aE t).length≤60))∧fs=[]):=fun e=>Fu _ _ _ _ _ (by rw[←h0,e];exact gX);have gN:eC t i=true→aj C bE aJ 4 0 (eI ((c:Int)+((aL t.nodes[i]).length:Int)) (t.nodes.map bG) ((i:Int)+1) (t.ay.map cv)) (fun u st=>aD C bE aJ u st fun r fs=>r=vB (fJ t.nodes.length (eC t)&&decide ((aE t).length≤60))∧fs=[]):=fun e=>hn (c+(aL t.nodes[i]).length) ax (by rw[←h0,e];rfl)
      have hb: ∀q,aB C aN [iD t,vI i] (vB q) []↔q=_:=fun q=>ye (Cy t i t.nodes[i] ha ax hl);have hk: ∀q,aB C bO [oh t.nodes[i]] (.c (.sub 5 q)) []↔q=(aL t.nodes[i]).map ck:=fun q=>gR t.nodes[i] ax ax q;have ho: ∀q,aB C aY [oh t.nodes[i]] (vB q) []↔q=fe t.nodes[i]:=fun q=>IS t.nodes[i] ax ax q;refine xR _ _ _ _ _ (ah j8 ?_);simp only[Ce,aQ,ha,aU,fQ,hb,hk,ho,iw,jM,lq,dN,dL,dP,dB,wT];rw[aR (a:=(c:Int)) ax,aR (a:=(i:Int)) ax]
      cases i with
      |zero=>
       have e:eC t 0=(fe t.nodes[0]&&((decide (0=0)|| !decide ((aL t.nodes[0]).length=0))&&t.nodes[0].all (dO t.ay 0))):=by simp only[eC,mA,ha,e9]
       rw[e] at gO1 gN
       have Bw: ¬((0:Int)<((0:Nat):Int)):=by omega
       simp only[aF Bw]
       cases h4:fe t.nodes[0] with
       |false=>exact av rfl (gO1 (by rw[h4];rfl))
       |true=>
        refine ah rfl ?_
        cases h5:t.nodes[0].all (dO t.ay 0) with
        |false=>exact av rfl (gO1 (by rw[h4,h5];simp))
        |true=>exact ah rfl (gN (by rw[h4,h5];simp))
      |succ k=>
       have By:t.ay[k]?=some t.ay[k]:=aZ ax
       have e:eC t (k+1)=(decide (t.ay[k]<t.ay[k+1])&&(fe t.nodes[k+1]&&((decide (k+1=0)|| !decide ((aL t.nodes[k+1]).length=0))&&t.nodes[k+1].all (dO t.ay (k+1))))):=by simp only[eC,mA,ha,By,hli]
       rw[e] at gO1 gO2 gN
       have Bw:(0:Int)<((k+1:Nat):Int):=by omega
       simp only[aP Bw];rw[kg ax,show((k+1:Nat):Int)-1=(k:Int) by omega];simp only[A6,aQ,By,hli,aU,fQ]
       by_cases h6:t.ay[k]<t.ay[k+1]
       ·rw[aF ax]
        cases h4:fe t.nodes[k+1] with
        |false=>exact av rfl (gO1 (by rw[h4];simp))
        |true=>
         refine ah rfl ?_
         cases h5:t.nodes[k+1].all (dO t.ay (k+1)) with
         |false=>exact av rfl (gO1 (by rw[h4,h5];simp))
         |true=>
          refine ah rfl ?_
          by_cases h7:(aL t.nodes[k+1]).length=0
          ·rw[aP ax];exact gO2 (by rw[h4,h5];simp[h7])
          ·rw[aF ax];exact gN (by rw[h4,h5,mT h6];simp[h7])
       ·rw[aP ax]
        exact gO1 (by rw[ng h6];rfl)
    exact key 0 (by simp[aE]) rfl
   ·rw[aF (by simpa using h3)]
    simp[h3]
  ·refine av j8 ?_
   simp[h2]
theorem E1 (p:bn) (hS:aV p≤4194304):aB C cQ [iE p] (vB (lB p)) []:=by
 have hP:=fG hS
 have hname: ∀v∈p.az,v.name.size≤140737488355328:=fun v hv=>by have:=tF (w:=yR) hv;have e:yR v=v.name.size:=rfl;omega
 refine(Jk _ _ _ _ _ _ _ ?_).run;unfold lB
 have key:((List.range' 0 (p.az.length-0)).all (dQ p)&&decide (p.az.length≤6))=(fJ p.az.length (dQ p)&&decide (p.az.length≤6))→aj C cQ au 4 0 (gW (p.az.map cU) ((0:Nat):Int) (p.t.ay.map cv) (p.t.nodes.map bG) (p.aX.map cW) (p.cells.map cE) p.next) (fun u st=>aD C cQ au u st fun r fs=>r=vB (fJ p.az.length (dQ p)&&decide (p.az.length≤6))∧fs=[]):=by
  refine vt p.az.length (fun i=>((List.range' i (p.az.length-i)).all (dQ p)&&decide (p.az.length≤6))=(fJ p.az.length (dQ p)&&decide (p.az.length≤6))→aj C cQ au 4 0 (gW (p.az.map cU) i (p.t.ay.map cv) (p.t.nodes.map bG) (p.aX.map cW) (p.cells.map cE) p.next) (fun u st=>aD C cQ au u st fun r fs=>r=vB (fJ p.az.length (dQ p)&&decide (p.az.length≤6))∧fs=[])) ?_ ?_
  ·intro h0
   rw[oY] at h0;simp only[List.range'_zero,wU,e9] at h0;refine ya _ _ _ _ _ _ _ _ (av eO (FZ _ _ _ _ _ _ _ _ _ _ ?_));rw[←h0];simp[lq];omega
  ·intro i hi hn h0
   rw[pK hi,pX] at h0;have ha:p.az[i]?=some p.az[i]:=aZ hi;have hv:=hname p.az[i] (u7 hi);have hkl:=OJ p.aX p.az[i].ga;have gO1:dQ p i=false→aD C cQ au TX.ret (fz (p.t.ay.map cv) (p.t.nodes.map bG) (p.aX.map cW) (p.cells.map cE) (p.az.map cU) p.next p.az[i].name p.az[i].ga p.az[i].size p.az[i].fx) (fun r fs=>r=vB (fJ p.az.length (dQ p)&&decide (p.az.length≤6))∧fs=[]):=fun e=>FX _ _ _ _ _ _ _ _ _ _ _ (by rw[←h0,e];exact gX)
   have gO2:dQ p i=false→aD C cQ au TX.ret (ja (p.t.ay.map cv) (p.t.nodes.map bG) (p.aX.map cW) (p.cells.map cE) (p.az.map cU) p.next p.az[i].name p.az[i].ga p.az[i].size p.az[i].fx ((hJ p.aX p.az[i].ga).map cv)) (fun r fs=>r=vB (fJ p.az.length (dQ p)&&decide (p.az.length≤6))∧fs=[]):=fun e=>FY _ _ _ _ _ _ _ _ _ _ _ _ (by rw[←h0,e];exact gX);have gN:dQ p i=true→aj C cQ au 4 0 (gW (p.az.map cU) ((i:Int)+1) (p.t.ay.map cv) (p.t.nodes.map bG) (p.aX.map cW) (p.cells.map cE) p.next) (fun u st=>aD C cQ au u st fun r fs=>r=vB (fJ p.az.length (dQ p)&&decide (p.az.length≤6))∧fs=[]):=fun e=>hn (by rw[←h0,e];rfl)
   have XV: ∀z,aB C eg [jN p.aX,vI p.az[i].ga] (vI z) []↔z=ff p.aX p.az[i].ga:=fun z=>wP p.aX p.az[i].ga ax z;have abz: ∀z,aB C c7 [jN p.aX,vI p.az[i].ga] (.c (.sub 1 z)) []↔z=(hJ p.aX p.az[i].ga).map cv:=fun z=>U4 (nK p.aX p.az[i].ga ax)
   have sH:bg (p.az.map cU) 0 (i:Int)=(p.az.take i).map cU:=by rw[ie,sJ];rfl
   have hcin:mg 0 (i:Int) (p.az.length:Int)=true:=by simp;omega
   have abA: ∀z,aB C cD [Cd (p.az.take i),.fn kU [[iS p.az[i].name,iI p.az[i].ga,iI p.az[i].size,iB p.az[i].fx]]] (vB z) []↔z=(p.az.take i).any fun u=>decide (u.ga=p.az[i].ga):=fun z=>ye (yj (p.az.take i) _ _ _ _ j8);refine ya _ _ _ _ _ _ _ _ (ah j8 ?_);simp only[sH,A7,aQ,ha,aU,fQ,kV p.az[i].name hv,qe,XV,abz,abA,iw,dP,jM,dL,dB,wT];rw[aR ax]
   cases h1:lz p.az[i].name with
   |false=>exact av rfl (gO1 (by simp[dQ,ha,h1]))
   |true=>
    refine ah rfl ?_
    cases i with
    |zero=>
     rw[aF ax]
     cases h2:mX p.az[0].size 1 12 with
     |false=>exact av rfl (gO1 (by simp[dQ,ha,h2]))
     |true=>
      refine ah rfl ?_
      by_cases h3:ff p.aX p.az[0].ga<0
      ·rw[aP h3];exact gO1 (by simp[dQ,ha,h3])
      ·rw[aF h3]
       by_cases h4:(hJ p.aX p.az[0].ga).length=0
       ·rw[aF ax]
        refine ah hcin ?_
        cases h6:(p.az.take (0)).any fun u=>decide (u.ga=p.az[0].ga) with
        |true=>exact ah rfl (gO2 (by simp only[dQ,ha,h6];simp))
        |false=>exact av rfl (gN (by simp only[dQ,ha,h6,h1,h2,mA];simp[h3,h4]))
       ·rw[aP ax];exact gO2 (by simp[dQ,ha,h4])
    |succ k=>
     have hk:p.az[k]?=some p.az[k]:=aZ ax;rw[aP ax,kg ax,show((k+1:Nat):Int)-1=(k:Int) by omega];simp only[aQ,hk,aU,fQ]
     cases h5:Iv p.az[k].name p.az[k+1].name with
     |false=>exact av rfl (gO1 (by simp[dQ,ha,hk,mA,h5]))
     |true=>
      refine ah rfl ?_
      cases h2:mX p.az[k+1].size 1 12 with
      |false=>exact av rfl (gO1 (by simp[dQ,ha,h2]))
      |true=>
       refine ah rfl ?_
       by_cases h3:ff p.aX p.az[k+1].ga<0
       ·rw[aP h3];exact gO1 (by simp[dQ,ha,h3])
       ·rw[aF h3]
        by_cases h4:(hJ p.aX p.az[k+1].ga).length=0
        ·rw[aF ax]
         refine ah hcin ?_
         cases h6:(p.az.take (k+1)).any fun u=>decide (u.ga=p.az[k+1].ga) with
         |true=>exact ah rfl (gO2 (by simp only[dQ,ha,h6];simp))
         |false=>exact av rfl (gN (by simp only[dQ,ha,h6,h1,h2,mA,hk,h5];simp[h3,h4]))
        ·rw[aP ax];exact gO2 (by simp[dQ,ha,h4])
 exact key rfl
theorem O7:uD 24=24:=by unfold uD;rfl
theorem g24 {n:Nat} (h:n≤1000):(true&&bR 24 24&&sN 0 24&&fits (uD 24) n)=true:=by rw[O7,fF ax];simp
theorem Xq:(mJ []).map ED=List.replicate 24 [iB false]:=by rw[M4];rfl
theorem DQ (p:bn) (hS:aV p≤4194304) (h24:p.cells.length=24):aB C cR [iE p] (vB (pU p)) []:=by
 have hP:=fG hS;have htl:=ji p.t;refine(Ie _ _ _ _ _ _ _ ?_).run;refine ah (g24 ax) ⟨_,gE p.t ax,?_⟩;unfold pU;generalize aE p.t=L at*;have hdk:eD L≤L.length:=L4 _ _
 have key: ∀c:Nat,c+eD (L.drop 0)=eD L→((List.range' 0 (L.length-0)).all (g6 p L)&&decide ((dF p.cells:Int)=eD L))=(fJ L.length (g6 p L)&&decide ((dF p.cells:Int)=eD L))→aj C cR aJ 4 0 (fP (c:Int) (L.map ck) ((0:Nat):Int) (p.t.ay.map cv) (p.t.nodes.map bG) (p.aX.map cW) (p.cells.map cE) (p.az.map cU) p.next ((mJ (L.take 0)).map ED)) (fun u st=>aD C cR aJ u st fun r fs=>r=vB (fJ L.length (g6 p L)&&decide ((dF p.cells:Int)=eD L))∧fs=[]):=by
  refine vt L.length (fun i=> ∀c:Nat,c+eD (L.drop i)=eD L→((List.range' i (L.length-i)).all (g6 p L)&&decide ((dF p.cells:Int)=eD L))=(fJ L.length (g6 p L)&&decide ((dF p.cells:Int)=eD L))→aj C cR aJ 4 0 (fP (c:Int) (L.map ck) i (p.t.ay.map cv) (p.t.nodes.map bG) (p.aX.map cW) (p.cells.map cE) (p.az.map cU) p.next ((mJ (L.take i)).map ED)) (fun u st=>aD C cR aJ u st fun r fs=>r=vB (fJ L.length (g6 p L)&&decide ((dF p.cells:Int)=eD L))∧fs=[])) ?_ ?_
  ·intro c hc h0
   rw[oY] at h0;simp only[List.range'_zero,wU,e9] at h0;rw[iu] at hc
   have hc0:c=eD L:=by simpa [eD] using hc
   subst hc0;refine vR _ _ _ _ _ _ _ _ _ _ _ (av eO (Ea _ _ _ _ _ _ _ _ _ _ _ _ _ ⟨_,rX p.cells ax,?_⟩));rw[←h0];refine⟨?_,by trivial⟩;simp[dN,eq_comm]
  ·intro i hi hn c hc h0
   rw[pK hi,pX] at h0;have ha:L[i]?=some L[i]:=aZ hi;rw[El hi,IF] at hc;have gO1: ∀u,g6 p L i=false→aD C cR aJ TX.ret (jW (p.t.ay.map cv) (p.t.nodes.map bG) (p.aX.map cW) (p.cells.map cE) (p.az.map cU) p.next L[i].b L[i].a L[i].k L[i].c L[i].g u (L.map ck)) (fun r fs=>r=vB (fJ L.length (g6 p L)&&decide ((dF p.cells:Int)=eD L))∧fs=[]):=fun u e=>D9 _ _ _ _ _ _ _ _ _ _ _ _ _ _ (by rw[←h0,e];exact gX)
   have Wf:L.take (i+1)=L.take i++[L[i]]:=by rw[List.take_add_one,ha];rfl
   have gN: ∀c':Nat,c'+eD (L.drop (i+1))=eD L→g6 p L i=true→aj C cR aJ 4 0 (fP (c':Int) (L.map ck) ((i:Int)+1) (p.t.ay.map cv) (p.t.nodes.map bG) (p.aX.map cW) (p.cells.map cE) (p.az.map cU) p.next ((mJ (L.take (i+1))).map ED)) (fun u st=>aD C cR aJ u st fun r fs=>r=vB (fJ L.length (g6 p L)&&decide ((dF p.cells:Int)=eD L))∧fs=[]):=fun c' e' e=>hn c' e' (by rw[←h0,e];rfl);have XV: ∀z,aB C eg [jN p.aX,vI L[i].a] (vI z) []↔z=ff p.aX L[i].a:=fun z=>wP p.aX L[i].a ax z
   have hcell: ∀n b,aB C om [ql p.cells,vI L[i].c,vI L[i].g] (.tu [(0,[iI n]),(0,[iB b])]) []↔n=(cellAt p.cells L[i].c L[i].g).1∧b=(cellAt p.cells L[i].c L[i].g).2:=fun n b=>IM p.cells ax _ _ n b;refine vR _ _ _ _ _ _ _ _ _ _ _ (ah j8 ?_);simp only[rN,aQ,ha,aU,fQ,XV,hcell,and_assoc,exists_and_left,iw,jM,dN,dP,dL];rw[aR (a:=(i:Int)) ax]
   by_cases h1:ff p.aX L[i].a<0
   ·rw[aP h1];exact gO1 _ (by simp[g6,ha,h1])
   ·rw[aF h1]
    by_cases h2:L[i].k=1
    ·rw[aP h2]
     cases h3:(cellAt p.cells L[i].c L[i].g).2 with
     |false=>exact av rfl (gO1 _ (by simp[g6,ha,h2,h3]))
     |true=>
      refine ah rfl ?_;have hci:=Q9 h3;rw[h24] at hci;simp only[U0,M5 (L.take i) hci,aU,fQ,iw,U3]
      cases h4:(L.take i).any fun x=>decide (x.k=1)&&decide (x.c=L[i].c) with
      |true=>exact ah rfl (gO1 _ (by simp only[g6,ha,h4,h2];simp))
      |false=>
       refine av rfl ?_;rw[M6 (L.take i) L[i] h2 hci,←Wf,aR (a:=(c:Int)) ax];rw[aP h2] at hc;exact gN (c+1) ax (by simp only[g6,ha,h4,h2,h3];simp[h1])
    ·rw[aF h2]
     rw[aF h2] at hc;have hg:=gN c ax (by simp[g6,ha,h1,h2]);rw[Wf,K8 _ _ h2] at hg;exact hg
 rw[O7,←Xq];exact key 0 eO rfl
theorem DR:aB C wN [] (iE pV) []:=by
 refine(H9 _ ?_).run;refine⟨_,_,(HX _ gX).run,_,(FW _ (ah (g24 ax) gX)).run,?_⟩;rw[O7];exact gX
def rZ (n:Int) (a:lU):Bool:=decide (a.id<n)
theorem Rm (p:bn):cH p=(p.aX.all (rZ p.next)&&(gj p.t&&(jQ p.aX&&(fU p.cells&&(mX p.next 1 61&&(lB p&&pU p)))))):=rfl
theorem Vu {l:List Cell} (h:fU l=true):l.length=24:=by simp[fU] at h;omega
theorem dy (p:bn) (hS:aV p≤4194304):aB C cC [iE p] (vB (cH p)) []:=by
 have hP:=fG hS;rw[Rm];refine(I6 _ _ _ _ _ _ _ ?_).run;refine⟨_,qq p.t ax,?_⟩
 cases h1:gj p.t with
 |false=>exact ah rfl ⟨by simp,by trivial⟩
 |true=>
  refine av rfl ⟨_,(IT p.aX ax (jQ p.aX)).2 rfl,?_⟩
  cases h2:jQ p.aX with
  |false=>exact ah rfl ⟨by simp,by trivial⟩
  |true=>
   refine av rfl ⟨_,(rY p.cells ax (fU p.cells)).2 rfl,?_⟩
   cases h3:fU p.cells with
   |false=>exact ah rfl ⟨by simp,by trivial⟩
   |true=>
    refine av rfl ⟨_,kj p.next 1 61,?_⟩
    cases h4:mX p.next 1 61 with
    |false=>exact ah rfl ⟨by simp,by trivial⟩
    |true=>
     refine av rfl ?_;simp only[e9]
     have key:((p.aX.drop 0).all (rZ p.next)&&(lB p&&pU p))=(p.aX.all (rZ p.next)&&(lB p&&pU p))→aj C cC aq 4 0 (kH (p.aX.map cW) ((0:Nat):Int) (p.t.ay.map cv) (p.t.nodes.map bG) (p.cells.map cE) (p.az.map cU) p.next) (fun u st=>aD C cC aq u st fun r fs=>r=vB (p.aX.all (rZ p.next)&&(lB p&&pU p))∧fs=[]):=by
      refine ct p.aX (fun i=>((p.aX.drop i).all (rZ p.next)&&(lB p&&pU p))=(p.aX.all (rZ p.next)&&(lB p&&pU p))→aj C cC aq 4 0 (kH (p.aX.map cW) i (p.t.ay.map cv) (p.t.nodes.map bG) (p.cells.map cE) (p.az.map cU) p.next) (fun u st=>aD C cC aq u st fun r fs=>r=vB (p.aX.all (rZ p.next)&&(lB p&&pU p))∧fs=[])) ?_ ?_
      ·intro h0
       rw[iu] at h0;simp only[wU,e9] at h0;refine xS _ _ _ _ _ _ _ _ (av eO (Fx _ _ _ _ _ _ _ _ _ _ ⟨_,E1 p hS,?_⟩));rw[←h0]
       cases h5:lB p with
       |false=>exact av rfl gX
       |true=>exact ah rfl ⟨_,DQ p hS (Vu h3),gX⟩
      ·intro i a hi ha hd Ek hn h0
       rw[hd,pX] at h0;refine xS _ _ _ _ _ _ _ _ (ah j8 ?_);simp only[Dz,aQ,ha,aU,fQ,lq,dL];rw[aR ax]
       by_cases h5:p.next≤a.id
       ·rw[aP h5]
        have e:rZ p.next a=false:=by simp[rZ];omega
        exact Fw _ _ _ _ _ _ _ _ _ (by rw[←h0,e];exact gX)
       ·rw[aF h5]
        have e:rZ p.next a=true:=by simp[rZ];omega
        exact hn (by rw[←h0,e];rfl)
     exact key rfl
theorem DS (p:bn) (hS:aV p≤4194304) (i b:Int) (v:iV) (hv:dM p.az i=some v) (hb:0≤b∧b<v.size) (hm:v.size≤9223372036854775807):aB C oM [iE p,vI i,vI b] (vI (wG p i b)) []:=by
 have hP:=fG hS
 have hi:0≤i∧i<p.az.length:=by
  apply Classical.byContradiction
  intro hn;rw[kQ hn] at hv
  cases hv
 have hq:wG p i b=if(qC p.t p.aX b v.ga).2=true∧(qC p.t p.aX b v.ga).1.k=1 then(cellAt p.cells (qC p.t p.aX b v.ga).1.c (qC p.t p.aX b v.ga).1.g).1 else 0:=by
  unfold wG;rw[hv];exact aP hb
 have inT:mX i 0 (mz (Int.ofNat (p.az.map cU).length) 1)=true:=by
  rw[kg j8];simp[mX];omega
 have inT2:mX b 0 (mz v.size 1)=true:=by
  rw[kg ax];simp[mX];omega
 refine(Ia _ _ _ _ _ _ _ _ _ ?_).run;refine⟨_,kj _ _ _,av (by rw[inT];rfl) ?_⟩;simp only[A7,hv,aU,fQ];refine⟨_,kj _ _ _,av (by rw[inT2];rfl) ?_⟩;refine⟨(vI (wG p i b),[]),?_,?_,gX⟩
 ·refine⟨_,_,_,_,_,_,uV p.t p.aX b v.ga ax ax,?_⟩
  cases h1:(qC p.t p.aX b v.ga).2 with
  |false=>exact ah rfl (by rw[hq];simp[h1])
  |true=>
   refine av rfl ?_
   by_cases h2:(qC p.t p.aX b v.ga).1.k=1
   ·exact av (by simp[h2]) ⟨_,_,qn p.cells _ _ ax,by rw[hq,aP ⟨h1,h2⟩]⟩
   ·exact ah (by simp[h2]) (by rw[hq,aF (fun h=>h2 h.2)])
 ·refine⟨_,_,_,_,_,_,uV p.t p.aX b v.ga ax ax,?_⟩
  cases h1:(qC p.t p.aX b v.ga).2 with
  |false=>exact ah rfl (by rw[hq];simp[h1])
  |true=>
   refine av rfl ?_
   by_cases h2:(qC p.t p.aX b v.ga).1.k=1
   ·exact av (by simp[h2]) ⟨_,_,qn p.cells _ _ ax,by rw[hq,aP ⟨h1,h2⟩]⟩
   ·exact ah (by simp[h2]) (by rw[hq,aF (fun h=>h2 h.2)])
theorem w8 (p:bn) (hS:aV p≤4194304) (hz: ∀v∈p.az,v.size≤9223372036854775807):aB C bB [iE p] (MZ (ki p)) []:=by
 have hP:=fG hS;refine(Jj _ _ _ _ _ _ _ ?_).run
 have key: ∀acc:List Mp,acc++nt p 0 (p.az.drop 0)=ki p→aj C bB aq 4 0 (fy (p.az.map cU) (Int.ofNat (p.az.map cU).length) ((0:Nat):Int) (p.t.ay.map cv) (p.t.nodes.map bG) (p.aX.map cW) (p.cells.map cE) p.next (acc.map qP)) (fun u st=>aD C bB aq u st fun r fs=>r=MZ (ki p)∧fs=[]):=by
  refine ct p.az (fun i=> ∀acc:List Mp,acc++nt p i (p.az.drop i)=ki p→aj C bB aq 4 0 (fy (p.az.map cU) (Int.ofNat (p.az.map cU).length) i (p.t.ay.map cv) (p.t.nodes.map bG) (p.aX.map cW) (p.cells.map cE) p.next (acc.map qP)) (fun u st=>aD C bB aq u st fun r fs=>r=MZ (ki p)∧fs=[])) ?_ ?_
  ·intro acc h0
   rw[iu] at h0;simp only[nt,lX] at h0;subst h0;exact x8 _ _ _ _ _ _ _ _ _ _ (av eO (FQ _ _ _ _ _ _ _ _ _ _ _ gX))
  ·intro i v hi hv hd Ek hn acc h0
   rw[hd] at h0;simp only[nt] at h0;have hzv:=hz v (fC hv)
   have hal:acc.length+(nt p (i+1) (p.az.drop (i+1))).length+1=p.az.length:=by
    have:=congrArg List.length h0;rw[OM,bX,ez] at this;omega
   have Kn:aj C bB aq 4 0 (fy (p.az.map cU) (Int.ofNat (p.az.map cU).length) ((i:Int)+1) (p.t.ay.map cv) (p.t.nodes.map bG) (p.aX.map cW) (p.cells.map cE) p.next ((acc++[A8 p i v]).map qP)) (fun u st=>aD C bB aq u st fun r fs=>r=MZ (ki p)∧fs=[]):=hn (acc++[A8 p i v]) (by rw[oU];exact h0);have ZN: ∀k:Nat,(k:Int)<v.size→aB C oM [iE p,vI i,vI k] (vI (wG p i k)) []:=fun k hk=>DS p hS i k v (by rw[aQ];exact hv) ax hzv
   have hst: ∀m k:Nat,k+m=min v.size.toNat 12→1≤k→aj C bB ij 3 2 (nP i k (p.az.map cU) (Int.ofNat (p.az.map cU).length) (p.t.ay.map cv) (p.t.nodes.map bG) (p.aX.map cW) (p.cells.map cE) p.next v.name v.ga v.size v.fx (acc.map qP) ((blocks p i k).map cv)) (fun u st=>wD C bB aq 4 0 r8 u st (fun u st=>aD C bB aq u st fun r fs=>r=MZ (ki p)∧fs=[])):=by
    intro m
    induction m with
    |zero=>
     intro k hk h1
     have e:A8 p i v=⟨v.name,v.fx,blocks p i k⟩:=by rw[oX] at hk;rw[hk];rfl
     rw[e] at Kn;refine x9 _ _ _ _ _ _ _ _ _ _ _ _ _ _ _ _ ?_
     by_cases h2:(k:Int)<v.size
     ·refine ah j8 (av j8 (FT _ _ _ _ _ _ _ _ _ _ _ _ _ _ _ _ (ah (fF j8) ?_)))
      rw[aR ax,K7];exact Kn
     ·refine av j8 (FU _ _ _ _ _ _ _ _ _ _ _ _ _ _ _ _ (ah (fF j8) ?_))
      rw[aR ax,K7];exact Kn
    |succ m ih=>
     intro k hk h1;refine x9 _ _ _ _ _ _ _ _ _ _ _ _ _ _ _ _ ?_;refine ah j8 (ah j8 ⟨_,ZN k ax,ah ?_ ?_⟩)
     ·rw[fF (by simp[Ho];omega),K5];rfl
     ·rw[aR ax,K6,←M7]
      exact ih (k+1) ax ax
   refine x8 _ _ _ _ _ _ _ _ _ _ (ah j8 ?_);simp only[A7,aQ,hv,aU,fQ];refine FP _ _ _ _ _ _ _ _ _ _ _ _ _ _ ?_
   by_cases h2:0<v.size
   ·refine ah j8 (ah eO ⟨_,ZN 0 ax,ah ?_ ?_⟩)
    ·rw[fF ax,K5];rfl
    ·have h3:=hst (min v.size.toNat 12-1) 1 ax ax
     rw[aR ax];exact h3
   ·have e:A8 p i v=⟨v.name,v.fx,[]⟩:=by
     have:min v.size.toNat 12=0:=by omega
     unfold A8;rw[this];rfl
    rw[e] at Kn;refine av j8 (FR _ _ _ _ _ _ _ _ _ _ _ _ _ _ (ah (fF j8) ?_));rw[aR ax];have e2:List.append (acc.map qP) [[iS v.name,iB v.fx,TC.sub 1 []]]=(acc++[(⟨v.name,v.fx,[]⟩:Mp)]).map qP:=K7 (r:=[]);rw[e2];exact Kn
 exact key [] rfl
theorem nY (l:List Cell) (hl:l.length≤1073741824):aB C iF [ql l] (ql l) []:=by
 refine(Ec _ _ ?_).run;rw[show dw (l.map cE)=true from by simp[Hh],fF j8];exact gX
theorem Cz (l:List Cell) (i:Int) (hl:l.length≤1073741824):aB C uT [ql l,vI i] (ql (jR l i)) []:=by
 refine(Fi _ _ _ ⟨_,nY l hl,_,(rY l hl (fU l)).2 rfl,?_⟩).run
 cases h1:fU l with
 |false=>exact ah rfl ⟨by rw[K9 h1],by trivial⟩
 |true=>
  have h24:l.length=24:=by simp[fU] at h1;omega
  refine av rfl ⟨_,kj _ _ _,?_⟩
  by_cases h2:0≤i∧i<l.length
  ·obtain⟨c,hc⟩:=pJ h2.1 h2.2
   refine av (by simp[mX];omega) ?_;simp only[wE,hc,aU,fQ]
   cases h3:c.u with
   |false=>exact ah rfl ⟨by rw[M8 hc h3],by trivial⟩
   |true=>
    refine av rfl (av eO ?_);simp only[wE,hc,aU,fQ,U2];exact⟨by rw[La hc h1 h3],by trivial⟩
  ·exact ah (by simp[mX];omega) ⟨by rw[IG (kQ h2)],by trivial⟩
theorem E2 (l:List Cell) (hl:l.length≤1073741824):aB C eX [ql l] (vI (lC l)) []:=by
 refine(Je _ _ ?_).run
 have key:dW A9 (l.drop 0) ((0:Nat):Int)=lC l→aj C eX au 4 0 (kK (l.map cE) ((0:Nat):Int)) (fun u st=>aD C eX au u st fun r fs=>r=vI (lC l)∧fs=[]):=by
  refine ct l (fun i=>dW A9 (l.drop i) (i:Int)=lC l→aj C eX au 4 0 (kK (l.map cE) i) (fun u st=>aD C eX au u st fun r fs=>r=vI (lC l)∧fs=[])) ?_ ?_
  ·intro h0
   rw[iu] at h0;simp only[dW] at h0;exact xX _ _ _ (av eO (FK _ _ _ _ _ (by rw[←h0];exact gX)))
  ·intro i a hi ha hd Ek hn h0
   rw[hd] at h0;simp only[dW] at h0;refine xX _ _ _ (ah j8 ?_);simp only[wE,aQ,ha,aU,fQ];rw[aR ax]
   cases h1:a.u with
   |false=>rw[aP (by simp[A9,h1])] at h0;exact ah rfl (FJ _ _ _ _ _ (by rw[←h0];exact gX))
   |true=>rw[aF (by simp[A9,h1])] at h0;exact av rfl (hn h0)
 exact key rfl
theorem CA (l:List Cell) (n:Int) (hl:l.length≤1073741824):aB C ny [ql l,vI n] (aaG (kC l n)) []:=by
 refine(FG _ _ _ ⟨_,nY l hl,_,E2 l hl,?_⟩).run
 by_cases h0:lC l<0
 ·exact ah (by simp[h0]) ⟨by rw[tG (fun h=>by omega)],by trivial⟩
 ·refine av j8 ⟨_,(uU n (nH n)).2 rfl,?_⟩
  cases h1:nH n with
  |false=>exact ah rfl ⟨by rw[tG (fun h=>by rw[h1] at h;cases h.2.1)],by trivial⟩
  |true=>
   refine av rfl ⟨_,(rY l hl (fU l)).2 rfl,?_⟩
   cases h2:fU l with
   |false=>exact ah rfl ⟨by rw[tG (fun h=>by rw[h2] at h;cases h.1)],by trivial⟩
   |true=>
    obtain⟨c,hc,hf⟩:=p9 A9 l h0;change dM l (lC l)=some c at hc;refine av rfl ?_;simp only[wE,Q5,Q6,hc,S4,M0,aU,fQ,mod_mod];exact⟨by rw[Cj ⟨h2,h1,by omega⟩],by trivial⟩
theorem tP (l:List Int) (hl:l.length≤1073741824):aB C pW [tE l] (tE l) []:=by
 refine(FI _ _ ?_).run;rw[show dw (l.map cv)=true from zO _,fF j8];exact gX
theorem y7 (l:List Key) (b a:Int) (hl:l.length≤1073741824):aB C ek [gZ l,vI b,vI a] (S9 (DE l b a)) []:=by
 refine(LK _ _ _ _ ?_).run
 have key:setAt (l.drop 0) b a=setAt l b a→aj C ek au 4 0 (jX b a (l.map ck) ((0:Nat):Int)) (fun u st=>aD C ek au u st fun r fs=>r=(S9 (DE l b a))∧fs=[]):=by
  refine ct l (fun i=>setAt (l.drop i) b a=setAt l b a→aj C ek au 4 0 (jX b a (l.map ck) i) (fun u st=>aD C ek au u st fun r fs=>r=(S9 (DE l b a))∧fs=[])) ?_ ?_
  ·intro h0
   rw[iu] at h0;refine zm _ _ _ _ _ (av eO (Ik _ _ _ _ _ _ _ ⟨?_,by trivial⟩));unfold DE;rw[←h0];rfl
  ·intro i x hi hx hd Ek hn h0
   rw[hd] at h0;simp only[setAt,List.find?_cons] at h0;refine zm _ _ _ _ _ (ah j8 ?_);simp only[rN,aQ,hx,aU,fQ,dN,dL];rw[aR ax]
   by_cases h1:x.b=b
   ·rw[aP h1]
    by_cases h2:x.a=a
    ·rw[aP h2]
     rw[mT ⟨h1,h2⟩] at h0;refine Ij _ _ _ _ _ _ ⟨?_,by trivial⟩;unfold DE setAt;rw[←h0]
    ·rw[aF h2]
     rw[ng (fun h=>h2 h.2)] at h0;exact hn h0
   ·rw[aF h1]
    rw[ng (fun h=>h1 h.1)] at h0;exact hn h0
 exact key rfl
theorem E3 (n:List (List Key)) (b a:Int) (hl:n.length≤1073741824) (hs: ∀s∈n,s.length≤1073741824):aB C fo [oh n,vI b,vI a] (S9 (nu n b a n.length)) []:=by
 refine(I3 _ _ _ _ ?_).run
 have key: ∀k:Nat,k≤n.length→nu n b a k=nu n b a n.length→aj C fo au 4 0 (nM b a ((k:Int)-1) (n.map dI)) (fun u st=>aD C fo au u st fun r fs=>r=(S9 (nu n b a n.length))∧fs=[]):=by
  intro k
  induction k with
  |zero=>
   intro _ hk;refine xQ _ _ _ _ _ (av eO (Fs _ _ _ _ _ _ ⟨?_,by trivial⟩));rw[←hk];rfl
  |succ k ih=>
   intro hle hk;have hx:n[k]?=some n[k]:=aZ ax;rw[show((k+1:Nat):Int)-1=(k:Int) by omega];have hss:=hs n[k] (u7 ax);generalize n[k]=s at hx hss;simp only[nu,hx] at hk;refine xQ _ _ _ _ _ (ah eO ?_);simp only[Hg,aQ,hx,aU,fQ];rw[kg ax];refine⟨_,_,_,_,_,_,y7 s b a hss,?_⟩
   cases h2:(DE s b a).2 with
   |false=>
    rw[h2] at hk;exact ah rfl (ih ax (by simpa using hk))
   |true=>
    rw[h2] at hk;simp only[if_true] at hk;refine av rfl ?_
    by_cases h3:(DE s b a).1.k=0
    ·refine ah (by simp[h3]) (Fo _ _ _ _ _ _ _ _ ⟨?_,by trivial⟩)
     rw[aP h3] at hk;rw[←hk];rfl
    ·refine av (by simp[h3]) (Fq _ _ _ _ _ _ _ ⟨?_,by trivial⟩)
     rw[aF h3] at hk;rw[←hk,←h2]
 rw[dB,show mz (Int.ofNat n.length) 1=(n.length:Int)-1 from kg j8];exact key n.length (bI _) rfl
theorem vD (t:Tree) (b a:Int) (hl:t.ay.length≤1073741824):aB C dZ [iD t,vI b,vI a] (vI (mK t b a)) []:=by
 refine(H8 _ _ _ _ _ ?_).run
 have key: ∀k:Nat,k≤t.ay.length→qQ (fun x=>decide (x≤eL b a)) t.ay k=mK t b a→aj C dZ au 4 0 (mM b a ((k:Int)-1) (t.ay.map cv) (t.nodes.map bG)) (fun u st=>aD C dZ au u st fun r fs=>r=(vI (mK t b a))∧fs=[]):=by
  intro k
  induction k with
  |zero=>
   intro _ hk;refine vQ _ _ _ _ _ _ (av eO (D3 _ _ _ _ _ _ _ ⟨?_,by trivial⟩));rw[←hk];rfl
  |succ k ih=>
   intro hle hk;have hx:t.ay[k]?=some t.ay[k]:=aZ ax;rw[show((k+1:Nat):Int)-1=(k:Int) by omega];generalize t.ay[k]=x at hx;simp only[qQ,hx] at hk;refine vQ _ _ _ _ _ _ (ah eO ?_);simp only[A6,aQ,hx,aU,fQ,uW,iw,lq,dL];rw[kg ax]
   by_cases h1:x≤eL b a
   ·rw[aP h1]
    rw[aP (mT h1)] at hk;exact D2 _ _ _ _ ⟨by rw[←hk],by trivial⟩
   ·rw[aF h1]
    rw[aF (by simpa using h1)] at hk;exact ih ax hk
 rw[dB,show mz (Int.ofNat t.ay.length) 1=(t.ay.length:Int)-1 from kg j8];exact key t.ay.length (bI _) rfl
theorem qt (t:Tree) (b a:Int) (hl:eK t≤1073741824):aB C tN [iD t,vI b,vI a] (S9 (uO t b a)) []:=by
 have e2:eK t=t.ay.length+(t.nodes.length+tot bw t.nodes):=rfl;refine(I9 _ _ _ _ _ ⟨_,vD t b a ax,_,kj _ _ _,?_⟩).run;unfold uO;rw[dB,show mz (Int.ofNat t.nodes.length) 1=(t.nodes.length:Int)-1 from kg j8]
 by_cases h1:0≤mK t b a∧mK t b a<t.nodes.length
 ·obtain⟨n,hn⟩:=pJ h1.1 h1.2
  have hz:bw n≤tot bw t.nodes:=tF (w:=bw) (He hn);have e1:bw n=n.length+tot cL n:=rfl;refine av (by simp[mX];omega) ?_;simp only[Ce,hn,aU,fQ];refine⟨_,_,_,_,_,_,E3 n b a ax (fun s hs=> ?_),gX⟩;have h3:cL s≤tot cL n:=tF (w:=cL) hs;have h4:cL s=s.length:=rfl;omega
 ·rw[kQ h1]
  exact ah (by simp[mX];omega) gX
theorem DT (l:List Key) (id:Int) (hl:l.length≤1073741824):aB C dr [gZ l,vI id] (vB ((l.any (hasB id)))) []:=by
 refine(HZ _ _ _ ?_).run
 have key:((l.drop 0).any (hasB id))=(l.any (hasB id))→aj C dr au 4 0 (iq id (l.map ck) ((0:Nat):Int)) (fun u st=>aD C dr au u st fun r fs=>r=vB ((l.any (hasB id)))∧fs=[]):=by
  refine ct l (fun i=>((l.drop i).any (hasB id))=(l.any (hasB id))→aj C dr au 4 0 (iq id (l.map ck) i) (fun u st=>aD C dr au u st fun r fs=>r=vB ((l.any (hasB id)))∧fs=[])) ?_ ?_
  ·intro h0
   refine vP _ _ _ _ (av eO (D1 _ _ _ _ _ _ ?_));rw[iu] at h0;simp only[List.any_nil,e9] at h0;rw[←h0];exact gX
  ·intro i a hi ha hd Ek hn h0
   have gO:(hasB id) a=true→(l.any (hasB id))=true:=fun e=>by rw[←h0,hd];simp[e]
   have gN:(hasB id) a=false→aj C dr au 4 0 (iq id (l.map ck) ((i:Int)+1)) (fun u st=>aD C dr au u st fun r fs=>r=vB ((l.any (hasB id)))∧fs=[]):=fun e=>hn (by rw[←h0,hd];simp[e]);refine vP _ _ _ _ (ah j8 ?_);simp only[rN,aQ,ha,aU,fQ,dN,dL];rw[aR ax]
   by_cases h1:a.a=id
   ·rw[aP h1];exact D0 _ _ _ _ _ _ (by rw[gO (by simp[hasB,h1])];exact gX)
   ·rw[aF h1];exact gN (by simp[hasB,h1])
 exact key rfl
theorem DU (p:bn) (hS:aV p≤4194304) (hA:jQ p.aX=true) (j:Int) (k:Key):aB C wO [iE p,vI j,yQ k] (vB (qR p j k)) []:=by
 have hP:=fG hS;refine(Ig _ _ _ _ _ _ _ _ _ _ _ _ _ ?_).run;unfold qR
 by_cases h1:j=1
 ·exact ah (by simp[h1]) ⟨_,Af p k ax ax ax,⟨by rw[aP h1],by trivial⟩⟩
 ·refine av (by simp[h1]) ?_
  rw[aF h1]
  by_cases h2:j=2
  ·refine ah (by simp[h2]) ⟨_,_,_,_,_,_,Bi p.t p.aX k.b k.a ax ax,?_⟩
   rw[aP h2]
   by_cases h3:k.k=2
   ·exact ah (by simp[h3]) ⟨by simp[h3],by trivial⟩
   ·exact av (by simp[h3]) ⟨by simp[h3],by trivial⟩
  ·rw[aF h2]
   refine av (by simp[h2]) ⟨_,nK p.aX k.a ax,_,AG p k.a ax,?_⟩;unfold P7 EI
   cases h3:J2 p.az k.a with
   |false=>exact ah rfl ⟨by simp,by trivial⟩
   |true=>
    refine av rfl ?_
    by_cases h4:(hJ p.aX k.a).length=1
    ·obtain⟨x,hx⟩:=pJ (l:=hJ p.aX k.a) (i:=0) ax ax
     have hpos:=Td hA x (He hx)
     have hne: ¬x=0:=by omega
     refine av (by simp[h4]) ?_;simp only[A6,hx,aU,fQ];refine⟨(vB (!(uO p.t k.b x).2),[]),?_,?_,⟨by simp[h4,hne],by trivial⟩⟩
     ·exact⟨_,_,_,_,_,_,qt p.t k.b x ax,by trivial⟩
     ·exact⟨_,_,_,_,_,_,qt p.t k.b x ax,by trivial⟩
    ·exact ah j8 ⟨by simp[h4],by trivial⟩
theorem CB (p:bn) (hS:aV p≤4194304):aB C aC [iE p] (T9 (dm p)) []:=by
 have hP:=fG hS;have htl:=ji p.t;refine(FM _ _ _ _ _ _ _ ⟨_,dy p hS,?_⟩).run
 cases hok:cH p with
 |false=>exact ah rfl ⟨by unfold dm;rw[hok];rfl,by trivial⟩
 |true=>
 refine av rfl ⟨_,gE p.t ax,?_⟩
 have hstep: ∀i0 j:Int,0≤i0∧i0<3→rowAt [[iI 1],[iI 2],[iI 3]] i0=some [iI j]→(0≤lI p j→dm p=(j,lI p j))→(lI p j<0→aj C aC aJ 4 0 (ju (i0+1) (p.t.ay.map cv) (p.t.nodes.map bG) (p.aX.map cW) (p.cells.map cE) (p.az.map cU) p.next ((aE p.t).map ck)) (fun u st=>aD C aC aJ u st fun r fs=>r=T9 (dm p)∧fs=[]))→aj C aC aJ 4 0 (ju i0 (p.t.ay.map cv) (p.t.nodes.map bG) (p.aX.map cW) (p.cells.map cE) (p.az.map cU) p.next ((aE p.t).map ck)) (fun u st=>aD C aC aJ u st fun r fs=>r=T9 (dm p)∧fs=[]):=by
  intro i0 j hj hr h1 h2;refine uz _ _ _ _ _ _ _ _ _ (ah j8 ⟨_,hr,_,hr,?_⟩)
  have keyI:dW (qR p j) ((aE p.t).drop 0) ((0:Nat):Int)=lI p j→aj C aC kE 3 2 (jv j i0 ((aE p.t).map ck) ((0:Nat):Int) (p.t.ay.map cv) (p.t.nodes.map bG) (p.aX.map cW) (p.cells.map cE) (p.az.map cU) p.next) (fun u st=>wD C aC aJ 4 0 kD u st (fun u st=>aD C aC aJ u st fun r fs=>r=T9 (dm p)∧fs=[])):=by
   refine ct (aE p.t) (fun i=>dW (qR p j) ((aE p.t).drop i) (i:Int)=lI p j→aj C aC kE 3 2 (jv j i0 ((aE p.t).map ck) i (p.t.ay.map cv) (p.t.nodes.map bG) (p.aX.map cW) (p.cells.map cE) (p.az.map cU) p.next) (fun u st=>wD C aC aJ 4 0 kD u st (fun u st=>aD C aC aJ u st fun r fs=>r=T9 (dm p)∧fs=[]))) ?_ ?_
   ·intro h0
    rw[iu] at h0;simp only[dW] at h0;refine uA _ _ _ _ _ _ _ _ _ _ _ (av eO (CW _ _ _ _ _ _ _ _ _ _ _ _ _ ?_));rw[aR ax];exact h2 ax
   ·intro i x hi hx hd Ek hn h0
    rw[hd] at h0;simp only[dW] at h0;refine uA _ _ _ _ _ _ _ _ _ _ _ (ah j8 ?_);simp only[rN,aQ,hx,aU,fQ];refine⟨_,DU p hS (EH hok) j x,?_⟩;rw[aR ax]
    cases h4:qR p j x with
    |true=>
     rw[aP h4] at h0;exact ah rfl (CV _ _ _ _ _ _ _ _ _ _ _ _ _ _ _ (CX _ _ _ _ _ _ _ _ _ _ _ _ _ _ _ ⟨by rw[h1 ax,←h0],by trivial⟩))
    |false=>rw[aF (by simp[h4])] at h0;exact av rfl (hn h0)
  exact keyI rfl
 refine hstep 0 1 ax (by unfold rowAt;rfl) (fun h=>by unfold dm;rw[aP hok,aP h]) (fun h1=> ?_);refine hstep 1 2 ax (by unfold rowAt;rfl) (fun h=>by unfold dm;rw[aP hok,aF ax,aP h]) (fun h2=> ?_);refine hstep 2 3 ax (by unfold rowAt;rfl) (fun h=>by unfold dm;rw[aP hok,aF ax,aF ax,aP h]) (fun h3=> ?_);refine uz _ _ _ _ _ _ _ _ _ (av eO (CU _ _ _ _ _ _ _ _ _ ?_))
 have key5:dW (tI p) (p.aX.drop 0) ((0:Nat):Int)=Hq p→aj C aC dz 4 4 (ew (p.aX.map cW) ((0:Nat):Int) (p.t.ay.map cv) (p.t.nodes.map bG) (p.cells.map cE) (p.az.map cU) p.next ((aE p.t).map ck)) (fun u st=>aD C aC dz u st fun r fs=>r=T9 (dm p)∧fs=[]):=by
  refine ct p.aX (fun i=>dW (tI p) (p.aX.drop i) (i:Int)=Hq p→aj C aC dz 4 4 (ew (p.aX.map cW) i (p.t.ay.map cv) (p.t.nodes.map bG) (p.cells.map cE) (p.az.map cU) p.next ((aE p.t).map ck)) (fun u st=>aD C aC dz u st fun r fs=>r=T9 (dm p)∧fs=[])) ?_ ?_
  ·intro h0
   rw[iu] at h0;simp only[dW] at h0;exact uB _ _ _ _ _ _ _ _ _ (av eO (CZ _ _ _ _ _ _ _ _ _ _ _ ⟨by unfold dm;rw[aP hok,aF ax,aF ax,aF ax,aF ax],by trivial⟩))
  ·intro i x hi hx hd Ek hn h0
   rw[hd] at h0;simp only[dW] at h0;refine uB _ _ _ _ _ _ _ _ _ (ah j8 ?_);simp only[Dz,aQ,hx,aU,fQ];rw[aR ax]
   have e:tI p x=(!((aE p.t).any (hasB x.id))&&(J2 p.az x.id&&decide ((hJ p.aX x.id).length≤1))):=by unfold tI;rw[Te]
   have hO:tI p x=true→aD C aC dz TX.ret (oQ i (p.t.ay.map cv) (p.t.nodes.map bG) (p.aX.map cW) (p.cells.map cE) (p.az.map cU) p.next x.id x.fr ((aE p.t).map ck) ((hJ p.aX x.id).map cv)) (fun r fs=>r=T9 (dm p)∧fs=[]):=fun h4=>by
    rw[aP h4] at h0;exact CY _ _ _ _ _ _ _ _ _ _ _ _ ⟨by unfold dm;rw[aP hok,aF ax,aF ax,aF ax,aP ax,←h0],by trivial⟩
   have hN:tI p x=false→aj C aC dz 4 4 (ew (p.aX.map cW) ((i:Int)+1) (p.t.ay.map cv) (p.t.nodes.map bG) (p.cells.map cE) (p.az.map cU) p.next ((aE p.t).map ck)) (fun u st=>aD C aC dz u st fun r fs=>r=T9 (dm p)∧fs=[]):=fun h4=>by
    rw[aF (by simp[h4])] at h0;exact hn h0
   refine⟨_,AG p x.id ax,?_⟩
   cases h5:J2 p.az x.id with
   |false=>exact av rfl (hN (by rw[e,h5];simp))
   |true=>
    refine ah rfl ⟨_,nK p.aX x.id ax,?_⟩
    by_cases h6:(hJ p.aX x.id).length≤1
    ·refine ah (by simp[lq];omega) ⟨_,DT (aE p.t) x.id ax,?_⟩
     cases h7:(aE p.t).any (hasB x.id) with
     |false=>exact ah rfl (hO (by rw[e,h5,h7];simp[h6]))
     |true=>exact av rfl (hN (by rw[e,h7];simp))
    ·exact av (by simp[lq];omega) (hN (by rw[e];simp[h6]))
 exact key5 rfl
theorem jn (l:List lU) (hl:l.length≤1073741824):aB C cY [jN l] (jN l) []:=by
 refine(Fz _ _ ?_).run;rw[show dw (l.map cW)=true from DA _,fF j8];exact gX
theorem oO (n:List (List Key)) (hl:n.length≤1073741824) (hs: ∀s∈n,s.length≤1073741824):aB C aI [oh n] (oh n) []:=by
 refine(Fy _ _ ?_).run
 skip
 have key:((0:Nat)=0→aj C aI aq 4 0 (lQ (n.map dI)) (fun u st=>aD C aI aq u st fun r fs=>r=(oh n)∧fs=[]))∧(0<(0:Nat)→aj C aI aq 4 0 (jr (n.map dI) ((0:Nat):Int) ((n.take 0).map dI)) (fun u st=>aD C aI aq u st fun r fs=>r=(oh n)∧fs=[])):=by
  refine ct n (fun i=>(i=0→aj C aI aq 4 0 (lQ (n.map dI)) (fun u st=>aD C aI aq u st fun r fs=>r=(oh n)∧fs=[]))∧(0<i→aj C aI aq 4 0 (jr (n.map dI) i ((n.take i).map dI)) (fun u st=>aD C aI aq u st fun r fs=>r=(oh n)∧fs=[]))) ?_ ?_
  ·refine⟨fun h=> ?_,fun h=> ?_⟩
   ·have hnil:n=[]:=List.length_eq_zero_iff.1 h
    refine uw _ _ (av (by simp[h]) (CR _ _ _ _ ⟨?_,by trivial⟩));simp[hnil]
   ·rw[BC]
    exact ux _ _ _ _ (av eO (CS _ _ _ _ _ _ gX))
  ·intro i a hi ha hd Ek hn
   have hmem:=fC ha;refine⟨fun h=> ?_,fun h=> ?_⟩
   ·subst h
    have hz:dM n 0=some a:=(aQ n 0).trans ha;have hn2:=hn.2 ax;rw[Ek] at hn2;refine uw _ _ (ah j8 ?_);simp only[Hg,hz,aU,fQ];refine⟨_,lK a (by have:=hs a hmem;omega),ah (fF (by simp;try omega)) ?_⟩;rw[aR ax];exact hn2
   ·have hn2:=hn.2 ax
    rw[Ek] at hn2;refine ux _ _ _ _ (ah j8 ?_);simp only[Hg,aQ,ha,aU,fQ];refine⟨_,lK a (by have:=hs a hmem;omega),ah (fF (by simp;try omega)) ?_⟩;rw[aR ax];rw[ot] at hn2;exact hn2
 exact key.1 rfl
theorem tQ (t:Tree) (hl:t.ay.length≤1073741824∧t.nodes.length≤1073741824) (hs: ∀n∈t.nodes,n.length≤1073741824∧ ∀s∈n,s.length≤1073741824):aB C aW [iD t] (iD t) []:=by
 refine(Fg _ _ _ ?_).run;refine⟨_,tP t.ay hl.1,?_⟩
 have key:((0:Nat)=0→aj C aW aq 4 0 (lO (t.nodes.map bG) (t.ay.map cv)) (fun u st=>aD C aW aq u st fun r fs=>r=(iD t)∧fs=[]))∧(0<(0:Nat)→aj C aW aq 4 0 (jo (t.nodes.map bG) ((0:Nat):Int) (t.ay.map cv) ((t.nodes.take 0).map bG)) (fun u st=>aD C aW aq u st fun r fs=>r=(iD t)∧fs=[])):=by
  refine ct t.nodes (fun i=>(i=0→aj C aW aq 4 0 (lO (t.nodes.map bG) (t.ay.map cv)) (fun u st=>aD C aW aq u st fun r fs=>r=(iD t)∧fs=[]))∧(0<i→aj C aW aq 4 0 (jo (t.nodes.map bG) i (t.ay.map cv) ((t.nodes.take i).map bG)) (fun u st=>aD C aW aq u st fun r fs=>r=(iD t)∧fs=[]))) ?_ ?_
  ·refine⟨fun h=> ?_,fun h=> ?_⟩
   ·have hnil:t.nodes=[]:=List.length_eq_zero_iff.1 h
    refine uo _ _ _ (av (by simp[h]) (CK _ _ _ _ _ ⟨?_,by trivial⟩));simp[hnil]
   ·rw[BC]
    exact uq _ _ _ _ _ (av eO (CL _ _ _ _ _ _ _ gX))
  ·intro i a hi ha hd Ek hn
   have hmem:=fC ha;refine⟨fun h=> ?_,fun h=> ?_⟩
   ·subst h
    have hz:dM t.nodes 0=some a:=(aQ t.nodes 0).trans ha;have hn2:=hn.2 ax;rw[Ek] at hn2;refine uo _ _ _ (ah j8 ?_);simp only[Ce,hz,aU,fQ];refine⟨_,oO a (hs a hmem).1 (hs a hmem).2,ah (fF (by simp;try omega)) ?_⟩;rw[aR ax];exact hn2
   ·have hn2:=hn.2 ax
    rw[Ek] at hn2;refine uq _ _ _ _ _ (ah j8 ?_);simp only[Ce,aQ,ha,aU,fQ];refine⟨_,oO a (hs a hmem).1 (hs a hmem).2,ah (fF (by simp;try omega)) ?_⟩;rw[aR ax];rw[ot] at hn2;exact hn2
 exact key.1 rfl
theorem EP {t:Tree} (h:eK t≤4194304):(t.ay.length≤1073741824∧t.nodes.length≤1073741824)∧ ∀n∈t.nodes,n.length≤1073741824∧ ∀s∈n,s.length≤1073741824:=by
 have e2:eK t=t.ay.length+(t.nodes.length+tot bw t.nodes):=rfl;refine⟨⟨by omega,by omega⟩,fun n hn=> ?_⟩;have h1:bw n≤tot bw t.nodes:=tF (w:=bw) hn;have h2:bw n=n.length+tot cL n:=rfl;refine⟨by omega,fun s hs=> ?_⟩;have h3:cL s≤tot cL n:=tF (w:=cL) hs;have h4:cL s=s.length:=rfl;omega
theorem bh (p:bn) (hS:aV p≤4194304):aB C aT [iE p] (iE p) []:=by
 have hP:=fG hS;have hN:=EP hP.1;have hT:=tQ p.t hN.1 hN.2;have hA:=jn p.aX ax;have hC:=nY p.cells ax
 have hV:(dw (p.az.map cU)&&fits (Nat.add 0 (p.az.map cU).length) 40)=true:=by rw[zP,fF j8];rfl
 refine(FF _ _ _ _ _ _ _ ?_).run
 repeat' first
  |exact rfl
  |refine⟨(iE p,[]),?_,?_,gX⟩
  |refine⟨(iE p,[]),?_,?_,by trivial⟩
  |refine⟨_,_,hT,?_⟩
  |refine⟨_,hA,?_⟩
  |refine⟨_,hC,?_⟩
  |refine ah hV ?_
theorem vE (p x:bn) (hS:aV p≤4194304) (hX:aV x≤4194304):aB C fZ [iE p,iE x,vB true] (Ua (Ld p x)) []:=by
 refine(zn _ _ _ _ _ _ _ _ _ _ _ _ _ _ ?_).run;refine av rfl ⟨_,dy x hX,?_⟩;unfold Ld
 cases h1:cH x with
 |false=>exact ah rfl ⟨_,_,_,_,_,_,bh p hS,gX⟩
 |true=>exact av rfl gX
theorem HN {l:List iV} {s:ByteArray} (h: ¬dx l s<0): ∃v,dM l (dx l s)=some v:=by
 obtain⟨m,h1,_⟩:=p9 _ l h;exact⟨m,h1⟩
theorem IU (p:bn) (s:ByteArray) (hS:aV p≤4194304) (hz:s.size≤140737488355328):aB C vA [iE p,vS s] (Ua (w4 p s)) []:=by
 have hP:=fG hS;refine(NI _ _ _ _ _ _ _ _ ⟨_,jV p s ax,_,dy p hS,?_⟩).run;unfold w4 Ck
 cases ha:cH p with
 |false=>exact ah rfl ⟨_,_,_,_,_,_,bh p hS,gX⟩
 |true=>
 refine av rfl ⟨_,(kV s hz (lz s)).2 rfl,?_⟩
 cases hb:lz s with
 |false=>exact ah rfl ⟨_,_,_,_,_,_,bh p hS,gX⟩
 |true=>
  refine av rfl ?_;simp only[Bool.and_self,if_true]
  by_cases hn:dx p.az s<0
  ·simp only[aP hn]
   exact ah (by simp[hn]) ⟨_,_,_,_,_,_,bh p hS,gX⟩
  ·simp only[aF hn]
   obtain⟨v,hv⟩:=HN hn
   have h1:bg (p.az.map cU) 0 (dx p.az s)=(p.az.take (dx p.az s).toNat).map cU:=by rw[ie];rfl
   have h2:bg (p.az.map cU) (dx p.az s+1) (Int.ofNat p.az.length)=(p.az.drop ((dx p.az s).toNat+1)).map cU:=by
    rw[ie,show(dx p.az s+1).toNat=(dx p.az s).toNat+1 by omega,show(Int.ofNat p.az.length).toNat=p.az.length from rfl,BC]
   have h3:List.append ((p.az.take (dx p.az s).toNat).map cU) ((p.az.drop ((dx p.az s).toNat+1)).map cU)=(DF p (dx p.az s)).az.map cU:=(ot (f:=cU) (l₁:=p.az.take (dx p.az s).toNat) (l₂:=p.az.drop ((dx p.az s).toNat+1))).symm;have hX:aV (DF p (dx p.az s))≤4194304:=pY (J3 p _) hS
   have C4:(p.az.take (dx p.az s).toNat).length≤p.az.length:=by rw[dj];omega
   have AL:(p.az.drop ((dx p.az s).toNat+1)).length≤p.az.length:=by rw[gf];omega
   have hi:0≤dx p.az s∧dx p.az s<p.az.length:=Classical.byContradiction fun hn=>by rw[kQ hn] at hv;cases hv
   refine av j8 ⟨_,_,_,_,_,_,bh p hS,?_⟩
   (try dsimp only)
   rw[dB,aR ax,h1,h2,h3];refine ah j8 (ah j8 (ah (by rw[zP,fF j8];rfl) ?_));exact⟨_,_,_,_,_,_,_,vE p (DF p (dx p.az s)) hS hX,gX⟩
theorem HO (l:List lU) (id fr:Int) (k:Nat) (hk:k≤l.length) (hl:l.length≤1073741824):aB C lJ [jN l,vI (k:Int),.c (.sub 2 [[iI id,iI fr]])] (jN (l.take k++⟨id,fr⟩::l.drop k)) []:=by
 refine aB.ext (p:=Tx 2 16) rfl ?_;unfold Tx;simp only[];rw[aP ⟨trivial,trivial,by omega,by simp<;>omega,fF zx⟩,sJ];unfold jN;rw[ot,List.map_cons,yt,u9]
 rfl
theorem qu (l:List lU) (id fr:Int) (hl:l.length≤1073741800):aB C eu [jN l,vI id,vI fr] (TV.tu [(0,[TC.sub 2 ((jx l id fr).1.map cW)]),(0,[iB (jx l id fr).2])]) []:=by
 refine(I2 _ _ _ _ ?_).run
 have key:(l.take 0).all (Xf id)=true→aj C eu CH 4 0 (kG (l.map cW) id fr ((0:Nat):Int)) (fun x st=>aD C eu CH x st fun r fs=>r=(TV.tu [(0,[TC.sub 2 ((jx l id fr).1.map cW)]),(0,[iB (jx l id fr).2])])∧fs=[]):=by
  have fin: ∀k:Nat,k≤l.length→(l.takeWhile (Xf id)).length=k→ ∀Q:QV,Q (TV.tu [(0,[TC.sub 2 ((jx l id fr).1.map cW)]),(0,[iB (jx l id fr).2])]) []→
   ∃(l7:RR),aB C cY ([TV.c (TC.sub 2 (l.map cW))]) (TV.c (TC.sub 2 l7)) []∧(∃(l8:RR),aB C lJ ([TV.c (TC.sub 2 l7),TV.c (iI (k:Int)),TV.c (TC.sub 2 [[iI id,iI fr]])]) (TV.c (TC.sub 2 l8)) []∧(∃(n9:Int),aB C eg ([TV.c (TC.sub 2 (l.map cW)),TV.c (iI id)]) (TV.c (iI n9)) []∧(aG (sN 0 n9) (∃(l10:RR),aB C cY ([TV.c (TC.sub 2 (l.map cW))]) (TV.c (TC.sub 2 l10)) []∧(Q (TV.tu [(0,[TC.sub 2 l10]),(0,[iB false])]) ([]))) (∃(b11:Bool),aB C bN ([TV.c (TC.sub 2 l8)]) (TV.c (iB b11)) []∧(aG (!b11) (∃(l12:RR),aB C cY ([TV.c (TC.sub 2 (l.map cW))]) (TV.c (TC.sub 2 l12)) []∧(Q (TV.tu [(0,[TC.sub 2 l12]),(0,[iB false])]) ([]))) (Q (TV.tu [(0,[TC.sub 2 l8]),(0,[iB true])]) ([]))))))):=by
   intro k hk he Q hQ;have hi:=Tg (Xf id) (⟨id,fr⟩:lU) l he
   have Zr:(wH l id fr).length≤1073741824:=by unfold wH;rw[vu];omega
   refine⟨_,jn l ax,_,HO l id fr k hk ax,_,oN l id ax,?_⟩;unfold jx at hQ;rw[hi]
   by_cases h1:0≤ff l id
   ·rw[aP h1] at hQ
    exact ah (by simpa using h1) ⟨_,jn l ax,hQ⟩
   ·rw[aF h1] at hQ
    have hok:aB C bN [jN (wH l id fr)] (vB (jQ (wH l id fr))) []:=qp (wH l id fr) Zr;refine av zx ⟨_,hok,?_⟩
    by_cases h2:jQ (wH l id fr)=true
    ·rw[aP h2] at hQ
     rw[h2];exact av rfl hQ
    ·rw[aF h2] at hQ
     have h2:jQ (wH l id fr)=false:=by simpa using h2
     rw[h2];exact ah rfl ⟨_,jn l ax,hQ⟩
  refine ct l (fun i=>(l.take i).all (Xf id)=true→aj C eu CH 4 0 (kG (l.map cW) id fr (i:Int)) _) ?_ ?_
  ·intro h0
   refine xP _ _ _ _ _ (av eO (Fm _ _ _ _ _ (fin l.length (bI _) (ON _ l _ (bI _) h0 fun a ha=> ?_) (fun r fs=>r=(TV.tu [(0,[TC.sub 2 ((jx l id fr).1.map cW)]),(0,[iB (jx l id fr).2])])∧fs=[]) gX)));rw[Jr (bI _)] at ha;cases ha
  ·intro i a hi ha hd ht hn h0
   refine xP _ _ _ _ _ (ah zx ⟨a.id,a.fr,by rw[bq,aQ,ha];rfl,?_⟩)
   by_cases hle:a.id≤id
   ·refine ah (by simpa using hle) ?_
    rw[aR ax];exact hn (by rw[ht,List.all_append,h0];simp[Xf,hle])
   ·refine av (by simpa using hle) (Fl _ _ _ _ _ _ (fin i ax (ON _ l i ax h0 fun b hb=> ?_) (fun r fs=>r=(TV.tu [(0,[TC.sub 2 ((jx l id fr).1.map cW)]),(0,[iB (jx l id fr).2])])∧fs=[]) gX))
    rw[ha] at hb;cases hb;simp[Xf];omega
 exact key rfl
theorem r5 (l:List iV) (v:iV) (hl:l.length≤1073741800):aB C cP [Cd l,.ag (cU v)] (Cd (mB l v)) []:=by
 refine(D7 _ _ _ _ _ _ ?_).run;have hTl:(mB l v).length=l.length+1:=vu _ _ _
 have key: ∀(b:Bool) (acc:List iV),acc++(if b=true then l.drop 0 else mB (l.drop 0) v)=mB l v→aj C cP aJ 4 0 (eM b (l.map cU) ((0:Nat):Int) v.name v.ga v.size v.fx (acc.map cU)) (fun x st=>aD C cP aJ x st fun r fs=>r=Cd (mB l v)∧fs=[]):=by
  refine ct l (fun i=> ∀(b:Bool) (acc:List iV),acc++(if b=true then l.drop i else mB (l.drop i) v)=mB l v→aj C cP aJ 4 0 (eM b (l.map cU) (i:Int) v.name v.ga v.size v.fx (acc.map cU)) _) ?_ ?_
  ·intro b acc h0
   have hlen:=congrArg List.length h0;rw[bX] at hlen;refine sr _ _ _ _ _ _ _ _ _ (av eO (Br _ _ _ _ _ _ _ _ _ _ _ ?_));rw[iu] at h0
   cases b with
   |true=>
    simp only[if_true,lX] at h0;exact av rfl (by rw[h0];exact gX)
   |false=>
    have e:acc++[v]=mB l v:=by rw[←h0];simp[mB,tJ]
    refine ah rfl (ah (by rw[pL,fF zx];rfl) ?_);rw[zR];exact⟨by rw[e],rfl⟩
  ·intro i a hi ha hd ht hn b acc h0
   have hlen:=congrArg List.length h0;rw[bX] at hlen
   have hrow:rowAt (l.map cU) (i:Int)=some [iS a.name,iI a.ga,iI a.size,iB a.fx]:=by rw[bq,aQ,ha];rfl
   have uY:ak (i:Int) 1=((i+1:Nat):Int):=aR ax;refine sr _ _ _ _ _ _ _ _ _ (ah zx ⟨_,_,_,_,hrow,?_⟩)
   cases b with
   |true=>
    rw[hd] at h0;simp only[if_true] at h0;refine av rfl (ah (by rw[pL,fF zx];rfl) ?_);rw[uY,zR];exact hn true (acc++[a]) (by rw[←h0];simp)
   |false=>
    rw[hd] at h0;simp only[yp,if_false] at h0;unfold mB at h0;rw[Hs] at h0;refine ah rfl ?_
    cases hle:LV v a with
    |false=>
     rw[hle] at h0;simp only[yp,if_false] at h0;refine ah (by unfold LV at hle;rw[hle];rfl) (ah (by rw[pL,fF zx];rfl) (ah (by rw[pL,zR,fF zx];rfl) ?_));rw[uY,zR,zR];exact hn true (acc++[v]++[a]) (by rw[show mB l v=tJ (LV v) v l from rfl,←h0];simp)
    |true=>
     rw[hle] at h0;simp only[if_true] at h0;refine av (by unfold LV at hle;rw[hle];rfl) (ah (by rw[pL,fF zx];rfl) ?_);rw[uY,zR];exact hn false (acc++[a]) (by rw[show mB l v=tJ (LV v) v l from rfl,←h0];simp[mB])
 exact key false [] rfl
theorem iG (p x:bn) (ok:Bool) (hS:aV p≤4194304) (hX:aV x≤4194304):aB C fZ [iE p,iE x,vB ok] (Ua (Le p x ok)) []:=by
 cases ok with
 |true=>exact vE p x hS hX
 |false=>
  refine(zn _ _ _ _ _ _ _ _ _ _ _ _ _ _ ?_).run;exact ah rfl ⟨_,_,_,_,_,_,bh p hS,gX⟩
theorem E4 (p:bn) (s:ByteArray) (n:Int) (hS:aV p≤1048576) (hz:s.size≤1048576):aB C y5 [iE p,vS s,vI n] (Ua (oJ p s n)) []:=by
 have hX:aV (Cl p s n)≤4194304:=by have:=OO p s n;omega
 have C1:aV p≤4194304:=by omega
 have hP:=fG C1;refine(IY _ _ _ _ _ _ _ _ _ ⟨_,dy p C1,?_⟩).run;unfold oJ Ck
 cases hPO:cH p with
 |false=>exact ah rfl ⟨_,_,_,_,_,_,bh p C1,gX⟩
 |true=>
  have VH:1≤p.next∧p.next≤61:=by
   have:=hPO;unfold cH at this;simp only[c8] at this;have h:=this.2.2.2.2.1;unfold mX at h;simpa using h
  refine av rfl ⟨_,(kV s ax (lz s)).2 rfl,?_⟩
  cases hb:lz s with
  |false=>exact ah rfl ⟨_,_,_,_,_,_,bh p C1,gX⟩
  |true=>
   refine av rfl ⟨_,jV p s ax,?_⟩;simp only[Bool.and_self,if_true]
   by_cases h1:0≤dx p.az s
   ·rw[aP h1]
    exact ah (by simpa using h1) ⟨_,_,_,_,_,_,bh p C1,gX⟩
   ·rw[aF h1]
    refine av zx ⟨_,kj n 1 12,?_⟩
    cases h2:mX n 1 12 with
    |false=>exact ah rfl ⟨_,_,_,_,_,_,bh p C1,gX⟩
    |true=>
     refine av rfl ⟨_,_,_,_,_,_,bh p C1,_,_,qu p.aX p.next 0 ax,_,r5 p.az ⟨s,p.next,n,false⟩ ax,?_⟩;rw[aR ax];exact⟨_,_,_,_,_,_,_,iG p (Cl p s n) _ C1 hX,gX⟩
theorem IV (p:bn) (s to:ByteArray) (fx:Bool) (hS:aV p≤1048576) (hz:s.size≤1048576) (Yd:to.size≤1048576):aB C aK [iE p,vS s,vS to,vB fx] (Ua (Aw p s to fx)) []:=by
 have hX: ∀v,aV (J5 p to (dx p.az s) v fx)≤4194304:=fun v=>by have:=Tj p to (dx p.az s) v fx;omega
 have C1:aV p≤4194304:=by omega
 have hP:=fG C1;refine(NH _ _ _ _ _ _ _ _ _ _ ⟨_,jV p s ax,_,dy p C1,?_⟩).run;unfold Aw Ck
 cases hPO:cH p with
 |false=>exact ah rfl ⟨_,_,_,_,_,_,bh p C1,⟨by simp,by trivial⟩⟩
 |true=>
 have VH:1≤p.next∧p.next≤61:=by
  have:=hPO;unfold cH at this;simp only[c8] at this;have h:=this.2.2.2.2.1;unfold mX at h;simpa using h
 refine av rfl ⟨_,(kV s ax (lz s)).2 rfl,?_⟩
 cases ha:lz s with
 |false=>exact ah rfl ⟨_,_,_,_,_,_,bh p C1,⟨by simp,by trivial⟩⟩
 |true=>
 refine av rfl ⟨_,(kV to ax (lz to)).2 rfl,?_⟩
 cases hb:lz to with
 |false=>exact ah rfl ⟨_,_,_,_,_,_,bh p C1,⟨by simp,by trivial⟩⟩
 |true=>
 rw[aP gX];refine av rfl ?_
 by_cases hn:dx p.az s<0
 ·rw[kQ ax]
  exact ah (by simpa using hn) ⟨_,_,_,_,_,_,bh p C1,gX⟩
 ·obtain⟨v,hv,_⟩:=p9 _ p.az (show ¬dW (fun v:iV=>decide (v.name=s)) p.az 0<0 from hn)
  have hv:dM p.az (dx p.az s)=some v:=hv
  have hrow:rowAt (p.az.map cU) (dx p.az s)=some [iS v.name,iI v.ga,iI v.size,iB v.fx]:=by rw[bq,hv];rfl
  have C4:=wI p.aX p.next v.ga;have Qs:uP (p.az.modify (dx p.az s).toNat fun u=>{u with ga:=p.next}):=uP.modify (f:=fun u:iV=>{u with ga:=p.next}) (fun _=>rfl) _ (Ra hPO)
  have hml:(p.az.modify (dx p.az s).toNat fun u=>{u with ga:=p.next}).length≤4194304:=by rw[RF];omega
  have ha1:ak p.next 1=p.next+1:=aR ax;have ha2:ak p.next 2=p.next+2:=aR ax;have hXv:=hX v;rw[hv];refine av (by simpa using hn) ⟨_,jV p to ax,?_⟩;simp only[]
  by_cases h1:0≤dx p.az to
  ·rw[aP h1]
   exact ah (by simpa using h1) ⟨_,_,_,_,_,_,bh p C1,gX⟩
  ·rw[aF h1]
   rw[ha1];refine av zx ⟨_,_,_,_,_,_,bh p C1,_,_,_,_,hrow,_,_,qu p.aX p.next v.ga ax,_,_,qu (jx p.aX p.next v.ga).1 (p.next+1) v.ga ax,_,_,_,_,hrow,_,_,_,_,hrow,?_⟩
   (try dsimp only)
   rw[OH,ha2];refine⟨_,r5 _ ⟨to,p.next+1,v.size,fx⟩ ax,?_⟩
   cases hq:(jx p.aX p.next v.ga).2 with
   |true=>exact ah rfl ⟨_,_,_,_,_,_,_,iG p (J5 p to (dx p.az s) v fx) _ C1 hXv,gX⟩
   |false=>exact av rfl ⟨_,_,_,_,_,_,_,iG p (J5 p to (dx p.az s) v fx) _ C1 hXv,gX⟩
theorem lM (l:List Key) (hl:l.length≤1073741824):aB C cm [gZ l] (oh (cM l)) []:=by
 refine(H7 _ _ ?_).run;unfold cM
 by_cases h:l.length=0
 ·exact ah (by simp[h]) ⟨by rw[aP h];rfl,rfl⟩
 ·refine av (by rw[dB,wT,dN];exact ng ax) ?_
  exact⟨_,lK l ax,⟨by rw[aF h];rfl,rfl⟩⟩
theorem tT (n:List (List Key)) (k:Key) (hb:n.length≤1073740000) (hl:tot cL n≤1073740000):aB C dX [oh n,yQ k] (gZ (cN n k)) []:=by
 have h1:=fT n;have h2:=rO (aL n) k;exact(FV _ _ _ _ _ _ _ ⟨_,(gR n ax ax _).2 rfl,_,nJ (aL n) k ax,_,AF (hD (aL n) k) ax,gX⟩).run
theorem DV (n:List (List Key)) (k:Key) (hb:n.length≤1073740000) (hl:tot cL n≤1073740000):aB C wM [oh n,yQ k] (Xg (dn n k)) []:=by
 have hs: ∀s∈n,s.length≤1073741824:=fun s hm=>by have:=tF (w:=cL) hm;unfold cL at this hl;omega
 have Ry:=oO n ax hs;have hXl:=Ht n k;have hXt:=Hu n k
 have tail: ∀(X:List (List Key)) (Q:QV),X=nV n k→Q (Xg (dn n k)) []→ ∃(b18:Bool),aB C aY ([TV.ag [TC.sub 1 (X.map dI)]]) (TV.c (iB b18)) []∧(aG b18 (Q (TV.tu [(1,[TC.sub 1 (X.map dI)]),(0,[iB true])]) ([])) (∃(l19:RR),aB C dX ([TV.ag [TC.sub 1 (n.map dI)],yQ k]) (TV.c (TC.sub 5 l19)) []∧(∃(l20:RR),aB C cm ([TV.c (TC.sub 5 l19)]) (TV.ag [TC.sub 1 l20]) []∧(aG (cT 8 (Int.ofNat (List.length l19))) (∃(l21:RR),aB C aI ([TV.ag [TC.sub 1 (n.map dI)]]) (TV.ag [TC.sub 1 l21]) []∧(Q (TV.tu [(1,[TC.sub 1 l21]),(0,[iB false])]) ([]))) (∃(b22:Bool),aB C aY ([TV.ag [TC.sub 1 l20]]) (TV.c (iB b22)) []∧(aG (!b22) (∃(l23:RR),aB C aI ([TV.ag [TC.sub 1 (n.map dI)]]) (TV.ag [TC.sub 1 l23]) []∧(Q (TV.tu [(1,[TC.sub 1 l23]),(0,[iB false])]) ([]))) (Q (TV.tu [(1,[TC.sub 1 l20]),(0,[iB true])]) ([])))))))):=by
  intro X Q hX hQ;rw[←hX] at hXl hXt;have hok:aB C aY [oh X] (vB (fe X)) []:=qo X ax ax;have hkl:=qS n k;have hnl:=yT (cN n k);have hnt:=yU (cN n k);have abB:aB C aY [oh (cM (cN n k))] (vB (fe (cM (cN n k)))) []:=qo _ ax ax;refine⟨_,hok,?_⟩;unfold dn at hQ;rw[←hX] at hQ
  cases h1:fe X with
  |true=>
   rw[aP h1] at hQ;exact ah rfl hQ
  |false=>
   rw[aF (by rw[h1];simp)] at hQ;refine av rfl ⟨_,tT n k ax ax,_,lM (cN n k) ax,?_⟩
   by_cases h2:8<(cN n k).length
   ·rw[aP h2] at hQ
    exact ah zx ⟨_,Ry,hQ⟩
   ·rw[aF h2] at hQ
    refine av zx ⟨_,abB,?_⟩
    cases h3:fe (cM (cN n k)) with
    |true=>
     rw[aP h3] at hQ;exact av rfl hQ
    |false=>
     rw[aF (by rw[h3];simp)] at hQ;exact ah rfl ⟨_,Ry,hQ⟩
 refine(Ih _ _ _ _ _ _ _ ⟨_,Ry,?_⟩).run
 (try dsimp only)
 rw[dB]
 cases AN:n[n.length-1]? with
 |none=>
  have h0:n.length=0:=Classical.byContradiction fun h=>by rw[aZ ax] at AN;cases AN
  have hX:n++[[k]]=nV n k:=by unfold nV;rw[AN]
  refine av (by rw[h0,kg eO];simp) ((ah (fF zx) ?_));rw[show List.append (n.map dI) [[TC.sub 5 [[iI k.b,iI k.a,iI k.k,iI k.c,iI k.g]]]]=(n++[[k]]).map dI from by simp[dI,ck]];exact tail _ (fun r fs=>r=Xg (dn n k)∧fs=[]) hX gX
 |some s=>
  have hlt:=(List.getElem?_eq_some_iff.1 AN).1
  have hsub:mz (Int.ofNat n.length) 1=((n.length-1:Nat):Int):=by rw[kg zx];simp;omega
  have hrow:rowAt (n.map dI) ((n.length-1:Nat):Int)=some [TC.sub 5 (s.map ck)]:=by rw[bq,aQ,AN];rfl
  have hsl:=hs s (fC AN);have Bx:setRow (n.map dI) ((n.length-1:Nat):Int) 0 [TC.sub 5 ((hD s k).map ck)]=(n.set (n.length-1) (hD s k)).map dI:=OF (a:=s) (a':=hD s k) AN rfl
  have abC:List.append (n.map dI) [[TC.sub 5 [[iI k.b,iI k.a,iI k.k,iI k.c,iI k.g]]]]=(n++[[k]]).map dI:=by simp[dI,ck]
  have hfit:fits (Nat.succ n.length) 24=true:=fF zx;rw[hsub];refine ah eO ⟨_,hrow,?_⟩
  have key: ∀Q:QV,Q (Xg (dn n k)) []→ ∃(n8:Int) (n9:Int) (n10:Int) (n11:Int) (n12:Int) (b13:Bool),aB C ek ([TV.c (TC.sub 5 (s.map ck)),TV.c (iI k.b),TV.c (iI k.a)]) (TV.tu [(1,[iI n8,iI n9,iI n10,iI n11,iI n12]),(0,[iB b13])]) []∧(aG b13 (∃(l14:RR),rowAt (n.map dI) ((n.length-1:Nat):Int)=some [TC.sub 5 l14]∧(∃(l15:RR),aB C bZ ([TV.c (TC.sub 5 l14),yQ k]) (TV.c (TC.sub 5 l15)) []∧(∃(l16:RR),rowAt (n.map dI) ((n.length-1:Nat):Int)=some [TC.sub 5 l16]∧(∃(l17:RR),rowAt (n.map dI) ((n.length-1:Nat):Int)=some [TC.sub 5 l17]∧(∃(b18:Bool),aB C aY ([TV.ag [TC.sub 1 (setRow (n.map dI) ((n.length-1:Nat):Int) 0 [TC.sub 5 l15])]]) (TV.c (iB b18)) []∧(aG b18 (Q (TV.tu [(1,[TC.sub 1 (setRow (n.map dI) ((n.length-1:Nat):Int) 0 [TC.sub 5 l15])]),(0,[iB true])]) ([])) (∃(l19:RR),aB C dX ([TV.ag [TC.sub 1 (n.map dI)],yQ k]) (TV.c (TC.sub 5 l19)) []∧(∃(l20:RR),aB C cm ([TV.c (TC.sub 5 l19)]) (TV.ag [TC.sub 1 l20]) []∧(aG (cT 8 (Int.ofNat (List.length l19))) (∃(l21:RR),aB C aI ([TV.ag [TC.sub 1 (n.map dI)]]) (TV.ag [TC.sub 1 l21]) []∧(Q (TV.tu [(1,[TC.sub 1 l21]),(0,[iB false])]) ([]))) (∃(b22:Bool),aB C aY ([TV.ag [TC.sub 1 l20]]) (TV.c (iB b22)) []∧(aG (!b22) (∃(l23:RR),aB C aI ([TV.ag [TC.sub 1 (n.map dI)]]) (TV.ag [TC.sub 1 l23]) []∧(Q (TV.tu [(1,[TC.sub 1 l23]),(0,[iB false])]) ([]))) (Q (TV.tu [(1,[TC.sub 1 l20]),(0,[iB true])]) ([])))))))))))))
   (∃(l24:RR),rowAt (n.map dI) ((n.length-1:Nat):Int)=some [TC.sub 5 l24]∧(aG (cT (Int.ofNat (List.length l24)) 4) (∃(l25:RR),rowAt (n.map dI) ((n.length-1:Nat):Int)=some [TC.sub 5 l25]∧(∃(l26:RR),aB C bZ ([TV.c (TC.sub 5 l25),yQ k]) (TV.c (TC.sub 5 l26)) []∧(∃(l27:RR),rowAt (n.map dI) ((n.length-1:Nat):Int)=some [TC.sub 5 l27]∧(∃(l28:RR),rowAt (n.map dI) ((n.length-1:Nat):Int)=some [TC.sub 5 l28]∧(∃(b18:Bool),aB C aY ([TV.ag [TC.sub 1 (setRow (n.map dI) ((n.length-1:Nat):Int) 0 [TC.sub 5 l26])]]) (TV.c (iB b18)) []∧(aG b18 (Q (TV.tu [(1,[TC.sub 1 (setRow (n.map dI) ((n.length-1:Nat):Int) 0 [TC.sub 5 l26])]),(0,[iB true])]) ([])) (∃(l19:RR),aB C dX ([TV.ag [TC.sub 1 (n.map dI)],yQ k]) (TV.c (TC.sub 5 l19)) []∧(∃(l20:RR),aB C cm ([TV.c (TC.sub 5 l19)]) (TV.ag [TC.sub 1 l20]) []∧(aG (cT 8 (Int.ofNat (List.length l19))) (∃(l21:RR),aB C aI ([TV.ag [TC.sub 1 (n.map dI)]]) (TV.ag [TC.sub 1 l21]) []∧(Q (TV.tu [(1,[TC.sub 1 l21]),(0,[iB false])]) ([]))) (∃(b22:Bool),aB C aY ([TV.ag [TC.sub 1 l20]]) (TV.c (iB b22)) []∧(aG (!b22) (∃(l23:RR),aB C aI ([TV.ag [TC.sub 1 (n.map dI)]]) (TV.ag [TC.sub 1 l23]) []∧(Q (TV.tu [(1,[TC.sub 1 l23]),(0,[iB false])]) ([]))) (Q (TV.tu [(1,[TC.sub 1 l20]),(0,[iB true])]) ([]))))))))))))) (aG (fits (Nat.succ (List.length n)) 24) (∃(b18:Bool),aB C aY ([TV.ag [TC.sub 1 (List.append (n.map dI) [[TC.sub 5 [[iI k.b,iI k.a,iI k.k,iI k.c,iI k.g]]]])]]) (TV.c (iB b18)) []∧(aG b18 (Q (TV.tu [(1,[TC.sub 1 (List.append (n.map dI) [[TC.sub 5 [[iI k.b,iI k.a,iI k.k,iI k.c,iI k.g]]]])]),(0,[iB true])]) ([])) (∃(l19:RR),aB C dX ([TV.ag [TC.sub 1 (n.map dI)],yQ k]) (TV.c (TC.sub 5 l19)) []∧(∃(l20:RR),aB C cm ([TV.c (TC.sub 5 l19)]) (TV.ag [TC.sub 1 l20]) []∧(aG (cT 8 (Int.ofNat (List.length l19))) (∃(l21:RR),aB C aI ([TV.ag [TC.sub 1 (n.map dI)]]) (TV.ag [TC.sub 1 l21]) []∧(Q (TV.tu [(1,[TC.sub 1 l21]),(0,[iB false])]) ([]))) (∃(b22:Bool),aB C aY ([TV.ag [TC.sub 1 l20]]) (TV.c (iB b22)) []∧(aG (!b22) (∃(l23:RR),aB C aI ([TV.ag [TC.sub 1 (n.map dI)]]) (TV.ag [TC.sub 1 l23]) []∧(Q (TV.tu [(1,[TC.sub 1 l23]),(0,[iB false])]) ([]))) (Q (TV.tu [(1,[TC.sub 1 l20]),(0,[iB true])]) ([]))))))))) (False))))):=by
   intro Q hQ;refine⟨_,_,_,_,_,_,y7 s k.b k.a hsl,?_⟩
   cases h1:(DE s k.b k.a).2 with
   |true=>
    have hX:n.set (n.length-1) (hD s k)=nV n k:=by unfold nV Lg;rw[AN];simp[h1]
    refine ah rfl ⟨_,hrow,_,nJ s k hsl,_,hrow,_,hrow,?_⟩;rw[Bx];exact tail _ _ hX hQ
   |false=>
    refine av rfl ⟨_,hrow,?_⟩
    by_cases h2:s.length<4
    ·have hX:n.set (n.length-1) (hD s k)=nV n k:=by unfold nV Lg;rw[AN];simp[h1,h2]
     refine ah zx ⟨_,hrow,_,nJ s k hsl,_,hrow,_,hrow,?_⟩;rw[Bx];exact tail _ _ hX hQ
    ·have hX:n++[[k]]=nV n k:=by unfold nV Lg;rw[AN];simp[h1,h2]
     refine av zx (ah hfit ?_);rw[abC];exact tail _ _ hX hQ
  exact⟨(Xg (dn n k),[]),key (fun a b=>(a,b)=(Xg (dn n k),([]:List TV))) rfl,key (fun a b=>(a,b)=(Xg (dn n k),([]:List TV))) rfl,⟨rfl,rfl⟩⟩
attribute [local semireducible] fD bg in
theorem Rn {rows:RR} {i c:Nat} (hk:i+c≤rows.length):bg (fD 1 rows 0 (i:Int)) ((i:Int)+(c:Int)) (Int.ofNat rows.length)=rows.drop (i+c):=by
 unfold bg fD;rw[sJ,show((i:Int)+(c:Int)).toNat=i+c from by omega,show(0:Int).toNat=0 from rfl,show(Int.ofNat rows.length).toNat=rows.length from rfl,List.take_zero,oW,Nat.sub_zero];rw[Gp zx,List.drop_append,List.length_replicate,Al eO,oW,List.drop_drop]
 congr 1;omega
theorem oP (t:Tree) (i c:Nat) (lw:List Int) (nd:List (List (List Key))) (h1:i+c≤t.ay.length) (h2:i+c≤t.nodes.length) (hl:t.ay.length≤1073741824) (hn:t.nodes.length≤1073741824) (hlw:lw.length≤1073741824) (L0:nd.length≤1073741824):aB C fY [iD t,vI (i:Int),vI (c:Int),tE lw,W9 nd] (iD (mY t i c lw nd)) []:=by
 have e1:bg (t.ay.map cv) 0 (i:Int)=(t.ay.take i).map cv:=by rw[ie];rfl
 have e2:bg (t.ay.map cv) ((i:Int)+(c:Int)) (Int.ofNat (t.ay.map cv).length)=(t.ay.drop (i+c)).map cv:=by
  rw[ie,dB,show((i:Int)+(c:Int)).toNat=i+c from by omega,show(Int.ofNat t.ay.length).toNat=t.ay.length from rfl,BC]
 have e3:bg (t.nodes.map bG) 0 (i:Int)=(t.nodes.take i).map bG:=by rw[ie];rfl
 have ea:ak (i:Int) (c:Int)=(i:Int)+(c:Int):=aR ax
 have k1:(t.ay.take i).length≤t.ay.length:=by rw[dj];omega
 have k2:(t.ay.drop (i+c)).length≤t.ay.length:=by rw[gf];omega
 have k3:(t.nodes.take i).length≤t.nodes.length:=by rw[dj];omega
 have k4:(t.nodes.drop (i+c)).length≤t.nodes.length:=by rw[gf];omega
 have e4:bg (fD 1 (t.nodes.map bG) 0 (i:Int)) ((i:Int)+(c:Int)) (Int.ofNat (t.nodes.map bG).length)=(t.nodes.drop (i+c)).map bG:=by
  rw[Rn (by rw[dB];exact h2),u9]
 refine(Fk _ _ _ _ _ _ _ ?_).run;rw[ea,e1,e2,e3,e4];refine ah zx ⟨_,tP (t.ay.take i) ax,?_⟩
 (try dsimp only)
 rw[yS,yS,yS,yS]
 refine ah zx (ah (by rw[zO,fF (by simp only[dB,L5];omega)];rfl) (ah (by rw[zO,fF (by simp only[dB,bX,L5];omega)];rfl)
  (ah zx (ah zx (ah (fF zx) (ah (fF (by simp only[dB,L5];omega)) (ah (fF (by simp only[dB,bX,L5];omega)) ?_)))))))
 exact gX
theorem ER (t u:Tree) (hw:t.ay.length=t.nodes.length) (hz:tot bw t.nodes+t.nodes.length≤1073700000) (E:wK t=none→t=u)
 (N: ∀i,wK t=some i→aj C cu au 4 0 (gV ((0:Nat):Int) ((eE t i).ay.map cv) ((eE t i).nodes.map bG)) (fun x st=>aD C cu au x st fun r fs=>r=iD u∧fs=[])):
 ∀d i,i+d=t.nodes.length→vv t d i=wK t→aj C cu au 4 0 (gV (i:Int) (t.ay.map cv) (t.nodes.map bG)) (fun x st=>aD C cu au x st fun r fs=>r=iD u∧fs=[]):=by
 intro d
 induction d with
 |zero=>
  intro i h he;have ea:ak (i:Int) 1=(i:Int)+1:=aR ax;refine xT _ _ _ _ ?_;rw[ea];exact av zx (xU _ _ _ _ _ ⟨by rw[E (by rw[←he];rfl)],rfl⟩)
 |succ d ih=>
  intro i h he;have ea:ak (i:Int) 1=(i:Int)+1:=aR ax
  have ec:(i:Int)+1=((i+1:Nat):Int):=by omega
  unfold vv at he;refine xT _ _ _ _ ?_;rw[ea,ec]
  by_cases h1:i+1<t.nodes.length
  ·rw[aP h1] at he
   obtain⟨a,ha⟩: ∃a,t.nodes[i]?=some a:=⟨_,aZ ax⟩;obtain⟨b,hb⟩: ∃b,t.nodes[i+1]?=some b:=⟨_,aZ h1⟩;have za:a.length+tot cL a≤tot bw t.nodes:=wF (w:=bw) ha;have zb:b.length+tot cL b≤tot bw t.nodes:=wF (w:=bw) hb;have la:=fT a;have lb:=fT b;rw[iX ha,iX hb] at he
   have ra:rowAt (t.nodes.map bG) (i:Int)=some [TC.sub 1 (a.map dI)]:=by rw[bq,aQ,ha];rfl
   have rb:rowAt (t.nodes.map bG) ((i+1:Nat):Int)=some [TC.sub 1 (b.map dI)]:=by rw[bq,aQ,hb];rfl
   refine ah zx ⟨_,ra,_,ra,_,rb,_,rb,_,(gR a ax ax _).2 rfl,_,(gR b ax ax _).2 rfl,ah (by rw[vr,fF (by simp only[dB,L5];omega)];rfl) ?_⟩
   (try dsimp only)
   rw[yS]
   by_cases h2:(aL a).length+(aL b).length≤6
   ·rw[aP h2] at he
    have hlo:i<t.ay.length:=by omega
    have hlw:rowAt (t.ay.map cv) (i:Int)=some [iI (t.ay.getD i 0)]:=by
     rw[bq,aQ,u6,aZ hlo];rfl
    have X9:=lM (aL a++aL b) (by rw[bX];omega);have hrp:=oP t i 2 [t.ay.getD i 0] [cM (aL a++aL b)] ax ax ax ax eO eO
    have ej:mY t i 2 [t.ay.getD i 0] [cM (aL a++aL b)]=eE t i:=by unfold eE;rw[iX ha,iX hb]
    rw[ej] at hrp;have hN:=N i he.symm;rw[←show ak (-1) 1=((0:Nat):Int) from by rw[aR ax];rfl] at hN;exact ah (by simp[lq]<;>omega) ⟨_,hlw,_,hlw,_,X9,_,_,hrp,⟨_,X9,_,_,hrp,⟨_,_,hrp,rfl⟩,rfl⟩,hN⟩
   ·rw[aF h2] at he
    exact av (by simp[lq]<;>omega) (ih (i+1) ax he)
  ·rw[aF h1] at he
   exact av zx (xU _ _ _ _ _ ⟨by rw[E he.symm],rfl⟩)
theorem E5 (t0:Tree) (hw0:t0.ay.length=t0.nodes.length) (LZ:tot bw t0.nodes+t0.nodes.length≤1073700000):aB C cu [iD t0] (iD (o5 t0.nodes.length t0)) []:=by
 refine(I8 _ _ _ ?_).run
 have key: ∀(m:Nat) (t:Tree),t.nodes.length=m→t.ay.length=t.nodes.length→tot bw t.nodes+t.nodes.length≤1073700000→aj C cu au 4 0 (gV ((0:Nat):Int) (t.ay.map cv) (t.nodes.map bG)) (fun x st=>aD C cu au x st fun r fs=>r=iD (o5 m t)∧fs=[]):=by
  intro m
  induction m with
  |zero=>
   intro t hm hw hz;exact ER t (o5 0 t) hw hz (fun _=>rfl) (fun i hi=>by have:=(q8 hi).1;omega) t.nodes.length 0 ax rfl
  |succ m ih=>
   intro t hm hw hz;refine ER t (o5 (m+1) t) hw hz (fun h=>(OW h).symm) (fun i hi=> ?_) t.nodes.length 0 ax rfl;have h1:=Cn (q8 hi).1;have h2:=EN (q8 hi).1;have:=ih (eE t i) ax (Az (q8 hi).1 hw) ax;rw[Be,hi];exact this
 exact key t0.nodes.length t0 rfl hw0 LZ
theorem O8 {t:Tree} {i:Nat} {n:List (List Key)} (h1:i<t.ay.length) (h2:i<t.nodes.length):mY t i 1 [t.ay.getD i 0] [n]=⟨t.ay,t.nodes.set i n⟩:=by
 unfold mY;rw[List.set_eq_take_append_cons_drop,aP h2,u6,aZ h1]
 have e:t.ay.take i++[t.ay[i]]++t.ay.drop (i+1)=t.ay:=by
  rw[oU,List.singleton_append,←El h1,BA]
 simp only[Option.getD_some,e,oU,List.singleton_append]
theorem aaR {n:Nat} (h:n≤1073741824):yu .i64 (ak (Int.ofNat n) 1) 2=(((n+1)/2:Nat):Int):=by
 rw[aR j8];unfold yu;rw[Int.tdiv_eq_ediv_of_nonneg j8,show IntKind.wrap .i64 ((Int.ofNat n+1)/2)=(Int.ofNat n+1)/2 from IntWalk.i64_in _ j8];simp
theorem pP (t:Tree) (k:Key) (hz:eK t≤4194304):aB C oL [iD t,yQ k] (Iw (bK t k)) []:=by
 have hN:=EP hz;have Ry:aB C aW [iD t] (iD t) []:=tQ t hN.1 hN.2;refine(Ii _ _ _ _ _ _ _ _ ⟨_,qq t ax,?_⟩).run
 cases h1:gj t with
 |false=>exact ah rfl ⟨_,_,Ry,⟨by unfold bK;rw[aF (by rw[h1];simp)],rfl⟩⟩
 |true=>
 refine av rfl ⟨_,(Cw _ _ _ _ _ _).2 rfl,?_⟩;change aG (!jO k) _ _
 cases h2:jO k with
 |false=>exact ah rfl ⟨_,_,Ry,⟨by unfold bK;rw[aF (by rw[h2];simp)],rfl⟩⟩
 |true=>
 obtain⟨i,hi,RD⟩:=OX h1 h2;have hlen:=pN h1
 have hw:aB C dZ [iD t,vI k.b,vI k.a] (vI (i:Int)) []:=by rw[←hi];exact vD t k.b k.a ax
 have hrow:rowAt (t.nodes.map bG) (i:Int)=some [TC.sub 1 (t.nodes[i].map dI)]:=by rw[bq,aQ,aZ RD];rfl
 have VP:rowAt (t.ay.map cv) (i:Int)=some [iI (t.ay.getD i 0)]:=by
  rw[bq,aQ,u6,aZ ax];rfl
 have hg:t.nodes.getD i []=t.nodes[i]:=by rw[u6,aZ RD];rfl
 have hok:=yX h1 (u7 RD);have hsz:=DH hok;have hps:=EJ t.nodes[i] k;have hpt:=EK t.nodes[i] k;have hkl:=qS t.nodes[i] k;have hnk:=fT t.nodes[i];obtain⟨Ye,NN,hp3⟩:=Ts (k:=k) h1 RD
 have hR:bK t k=if gj (o5 (nW t i k).nodes.length (nW t i k))=true then(o5 (nW t i k).nodes.length (nW t i k),true) else(t,false):=by
  unfold bK;rw[aP ⟨h1,h2⟩,hi,sJ]
 have fin: ∀Q:QV,Q (Iw (bK t k)) []→ ∃(l39 l40:RR),aB C cu [iD (nW t i k)] (.ag [.sub 1 l39,.sub 1 l40]) []∧(∃b:Bool,aB C bE [.ag [.sub 1 l39,.sub 1 l40]] (vB b) []∧(aG (!b) (∃(l42 l43:RR),aB C aW [iD t] (.ag [.sub 1 l42,.sub 1 l43]) []∧Q (.tu [(1,[.sub 1 l42,.sub 1 l43]),(0,[iB false])]) []) (Q (.tu [(1,[.sub 1 l39,.sub 1 l40]),(0,[iB true])]) []))):=by
  intro Q hQ;refine⟨_,_,E5 (nW t i k) NN ax,_,qq _ ax,?_⟩;rw[hR] at hQ
  cases h3:gj (o5 (nW t i k).nodes.length (nW t i k)) with
  |true=>rw[aP h3] at hQ;exact av rfl hQ
  |false=>rw[aF (by rw[h3];simp)] at hQ;exact ah rfl ⟨_,_,Ry,hQ⟩
 have np:=DV t.nodes[i] k ax ax;refine av rfl ⟨_,hw,_,_,Ry,_,hrow,_,hrow,?_⟩
 cases hp:(dn t.nodes[i] k).2 with
 |false=>
  have hno:=(OP hok h2 hp).1
  have cno:(!(dn t.nodes[i] k).2)=true:=by rw[hp];rfl
  obtain⟨ks,hks⟩: ∃ks,ks=cN t.nodes[i] k:=⟨_,rfl⟩;rw[←hks] at hno hkl;have hh:=Vd hno;obtain⟨h,hhe⟩: ∃h,h=(ks.length+1)/2:=⟨_,rfl⟩
  have hq:yu .i64 (ak (Int.ofNat (List.length (ks.map ck))) 1) 2=(h:Int):=by rw[dB,aaR ax,hhe]
  have hkk:rowAt (ks.map ck) (h:Int)=some [iI (ks.getD h gx).b,iI (ks.getD h gx).a,iI (ks.getD h gx).k,iI (ks.getD h gx).c,iI (ks.getD h gx).g]:=by
   rw[bq,aQ,u6,aZ ax];rfl
  have ep:nW t i k=mY t i 1 [t.ay.getD i 0,eL (ks.getD h gx).b (ks.getD h gx).a] [cM (ks.take h),cM (ks.drop h)]:=by
   unfold nW;rw[hg,aF (by rw[hp];simp),←hks,←hhe]
  have rp:=oP t i 1 [t.ay.getD i 0,eL (ks.getD h gx).b (ks.getD h gx).a] [cM (ks.take h),cM (ks.drop h)] ax ax ax ax eO eO;rw[←ep] at rp
  have e1:bg (ks.map ck) 0 (h:Int)=(ks.take h).map ck:=by rw[ie];rfl
  have e2:bg (ks.map ck) (h:Int) (Int.ofNat (List.length (ks.map ck)))=(ks.drop h).map ck:=by
   rw[ie,dB,sJ,show(Int.ofNat ks.length).toNat=ks.length from rfl,BC]
  have nn1:aB C cm [.c (.sub 5 (bg (ks.map ck) 0 (h:Int)))] (oh (cM (ks.take h))) []:=by rw[e1];exact lM _ (by rw[dj];omega)
  have nn2:aB C cm [.c (.sub 5 (bg (ks.map ck) (h:Int) (Int.ofNat (List.length (ks.map ck)))))] (oh (cM (ks.drop h))) []:=by rw[e2];exact lM _ (by rw[gf];omega)
  have c1:mg 0 (h:Int) (Int.ofNat (List.length (ks.map ck)))=true:=by rw[MY];simp;omega
  have c2:mg (h:Int) (Int.ofNat (List.length (ks.map ck))) (Int.ofNat (List.length (ks.map ck)))=true:=by rw[MY];simp;omega
  have kw:aB C dX [oh t.nodes[i],yQ k] (gZ ks) []:=by
   rw[hks];exact tT t.nodes[i] k ax ax
  clear hks hhe hR
  repeat' first
   |refine⟨_,hrow,?_⟩
   |refine⟨_,VP,?_⟩
   |refine⟨_,_,np,?_⟩
   |refine ah cno ?_
   |refine⟨_,kw,?_⟩
   |refine av (by rw[dN];rfl) ?_
   |rw[hq]
   |refine⟨_,_,_,_,_,hkk,?_⟩
   |refine ah c1 ?_
   |refine ah c2 ?_
   |refine⟨_,(uW _ _ _).2 rfl,?_⟩
   |refine⟨_,nn1,?_⟩
   |refine⟨_,nn2,?_⟩
   |refine⟨_,_,rp,?_⟩
   |refine⟨(Iw (bK t k),([]:List TV)),?_,?_,rfl⟩
   |refine⟨(Iw (bK t k),([]:List TV)),?_,?_,gX⟩
   |exact fin (fun a b=>(a,b)=(Iw (bK t k),([]:List TV))) rfl
   |exact fin (fun r fs=>r=Iw (bK t k)∧fs=[]) gX
 |true=>
  have cno:(!(dn t.nodes[i] k).2)=false:=by rw[hp];rfl
  by_cases hc:0<i∧(aL (dn t.nodes[i] k).1).length=0
  ·have ci:cT 0 (i:Int)=true:=by rw[jM];simp;omega
   have nk:=(gR (dn t.nodes[i] k).1 ax ax _).2 rfl
   have cl:bR (Int.ofNat (List.length ((aL (dn t.nodes[i] k).1).map ck))) 0=true:=by rw[dN,dB,hc.2];rfl
   have ep:nW t i k=mY t i 1 [] []:=by unfold nW;rw[hg,aP hp,aP hc]
   have rp:=oP t i 1 [] [] ax ax ax ax eO eO;rw[←ep] at rp;clear hR
   repeat' first
   |refine⟨_,hrow,?_⟩
   |refine⟨_,VP,?_⟩
   |refine⟨_,_,np,?_⟩
   |refine av cno ?_
   |refine ah ci ?_
   |refine⟨_,nk,?_⟩
   |refine ah cl ?_
   |refine⟨_,_,rp,?_⟩
   |refine⟨(Iw (bK t k),([]:List TV)),?_,?_,rfl⟩
   |refine⟨(Iw (bK t k),([]:List TV)),?_,?_,gX⟩
   |exact fin (fun a b=>(a,b)=(Iw (bK t k),([]:List TV))) rfl
   |exact fin (fun r fs=>r=Iw (bK t k)∧fs=[]) gX
  ·have eset:nW t i k=⟨t.ay,t.nodes.set i (dn t.nodes[i] k).1⟩:=by
    unfold nW;rw[hg,aP hp,aF hc,O8 ax RD]
   have es:setRow (t.nodes.map bG) (i:Int) 0 [TC.sub 1 ((dn t.nodes[i] k).1.map dI)]=(t.nodes.set i (dn t.nodes[i] k).1).map bG:=MX (a:=t.nodes[i]) (by rw[aQ,aZ RD]) rfl;clear hR
   by_cases Qh:0<i
   ·have ci:cT 0 (i:Int)=true:=by rw[jM];simp;omega
    have nk:=(gR (dn t.nodes[i] k).1 ax ax _).2 rfl
    have cl:bR (Int.ofNat (List.length ((aL (dn t.nodes[i] k).1).map ck))) 0=false:=by
     rw[dN,dB];exact ng fun e=>hc ⟨Qh,by have e:((aL (dn t.nodes[i] k).1).length:Int)=0:=e;omega⟩
    repeat' first
   |refine⟨_,hrow,?_⟩
   |refine⟨_,VP,?_⟩
   |refine⟨_,_,np,?_⟩
   |refine av cno ?_
   |refine ah ci ?_
   |refine⟨_,nk,?_⟩
   |refine av cl ?_
   |refine⟨(Iw (bK t k),([]:List TV)),?_,?_,rfl⟩
   |refine⟨(Iw (bK t k),([]:List TV)),?_,?_,gX⟩
   |exact fin (fun a b=>(a,b)=(Iw (bK t k),([]:List TV))) rfl
   |exact fin (fun r fs=>r=Iw (bK t k)∧fs=[]) gX
   |(rw[es];rw[eset] at fin;exact fin (fun a b=>(a,b)=(Iw (bK t k),([]:List TV))) rfl)
   |(rw[es];rw[eset] at fin;exact fin (fun r fs=>r=Iw (bK t k)∧fs=[]) gX)
   ·have ci:cT 0 (i:Int)=false:=by rw[jM];simp;omega
    repeat' first
   |refine⟨_,hrow,?_⟩
   |refine⟨_,VP,?_⟩
   |refine⟨_,_,np,?_⟩
   |refine av cno ?_
   |refine av ci ?_
   |refine⟨(Iw (bK t k),([]:List TV)),?_,?_,rfl⟩
   |refine⟨(Iw (bK t k),([]:List TV)),?_,?_,gX⟩
   |exact fin (fun a b=>(a,b)=(Iw (bK t k),([]:List TV))) rfl
   |exact fin (fun r fs=>r=Iw (bK t k)∧fs=[]) gX
   |(rw[es];rw[eset] at fin;exact fin (fun a b=>(a,b)=(Iw (bK t k),([]:List TV))) rfl)
   |(rw[es];rw[eset] at fin;exact fin (fun r fs=>r=Iw (bK t k)∧fs=[]) gX)
theorem Vv (b:List Int):aB C HH [yP b] (vB (decide (1048576<b.length))) []:=by
 refine(Pk _ _ ⟨?_,by trivial⟩).run;simp<;>omega
def aaS (s:ByteArray):List TC:=[.sc (.string s)]
attribute [local semireducible] yu in
theorem abR {a:Int} (h0:0≤a) (h1:a≤9223372036854775807):yu .i64 a 12=a/12:=by
 show IntKind.i64.wrap (a.tdiv 12)=_;rw[Int.tdiv_eq_ediv_of_nonneg h0];exact IntWalk.i64_in _ ax
theorem CC (l:List Int) (hl:l.length≤1073741824):aB C fX [tE l,tE l] (vB true) []:=by
 refine(E9 _ _ _ ?_).run;refine av eO ?_;refine ct l (fun i=>aj C fX aq 4 0 (lN (l.map cv) (l.map cv) i) _) ?_ ?_
 ·exact um _ _ _ _ (av eO (CJ _ _ _ _ _ gX))
 ·intro i a hi ha _ _ hn
  refine um _ _ _ _ (ah zx ?_);simp only[A6,aQ,ha,aU,fQ];refine av eO ?_;rw[aR ax];exact hn
theorem o6 (p:bn) (hS:aV p≤4194304) (k:Key):aB C gD [.bx (Cc p),yQ k] (vB (jl p k).2) [.bx (Cc (jl p k).1)]:=by
 have hP:=fG hS;have ta:=qt p.t k.b k.a ax;have tp:=pP p.t k ax;obtain⟨T,b,hT⟩: ∃T b,bK p.t k=(T,b):=⟨_,_,rfl⟩;obtain⟨o,f,hO⟩: ∃o f,uO p.t k.b k.a=(o,f):=⟨_,_,rfl⟩
 have e:jl p k=if b=true then(⟨T,p.aX,if f=true∧o.k=1 then jR p.cells o.c else p.cells,p.az,p.next⟩,true) else(p,false):=by
  unfold jl Co;rw[hT,hO]
 have hno:=HB (t:=p.t) (k:=k);rw[hT] at tp hno;rw[hO] at ta;rw[e];refine(Ai _ _ _ _ _ _ _ _ _ _ _ _ ?_).run
 cases b with
 |false=>
  have hno:T=p.t:=hno rfl;subst hno;rw[aF eO];exact gz
 |true=>
  rw[aP rfl]
  cases f with
  |false=>
   rw[aF eO];exact gz
  |true=>
   by_cases ho:o.k=1
   ·rw[aP ⟨rfl,ho⟩]
    have ce:bR o.k 1=true:=by rw[dN];exact mT ho
    have fc:=Cz p.cells o.c ax;exact gz
   ·rw[aF fun e=>ho e.2]
    have ce:bR o.k 1=false:=by rw[dN];exact ng ho
    exact gz
theorem O9 {l:List iV} {s:ByteArray} (h:dx l s<0):dM l (dx l s)=none:=kQ ax
theorem Bl (p:bn) (s:ByteArray) (b:Int) (hS:aV p≤4194304) (hz:s.size≤140737488355328):aB C rV [iE p,vS s,vI b,vB true] (T9 (dx p.az s,uR p s b)) []:=by
 have hP:=fG hS;have hva:=jV p s ax;have hok:=dy p hS;have hnm:=(kV s hz (lz s)).2 rfl;refine(D8 _ _ _ _ _ _ _ _ _ _ ?_).run;unfold uR Ck
 cases h0:cH p with
 |false=>
  rw[h0] at hok;exact gz
 |true=>
 rw[h0] at hok
 cases h1:lz s with
 |false=>
  rw[h1] at hnm;exact gz
 |true=>
  rw[h1] at hnm;rw[aP (show(true&&true)=true from rfl)]
  by_cases h2:dx p.az s<0
  ·have cl:cT (dx p.az s) 0=true:=by rw[jM];exact mT h2
   rw[O9 h2];exact gz
  ·have cl:cT (dx p.az s) 0=false:=by rw[jM];exact ng h2
   obtain⟨v,hv⟩:=HN h2;have hsz:=M9 (tH h0) hv
   have hrv:rowAt (p.az.map cU) (dx p.az s)=some [iS v.name,iI v.ga,iI v.size,iB v.fx]:=by rw[bq,hv];rfl
   have hin:=kj b 0 (v.size-1);have hsub:mz v.size 1=v.size-1:=kg ax;rw[hv];simp only[]
   cases h3:v.fx with
   |true=>
    rw[h3] at hrv;rw[aP rfl];exact gz
   |false=>
    rw[h3] at hrv;rw[aF eO]
    cases h4:mX b 0 (v.size-1) with
    |true=>
     rw[h4,←hsub] at hin;rw[aP rfl];exact gz
    |false=>
     rw[h4,←hsub] at hin;rw[aF eO];exact gz
theorem Lv {l:List Cell} {n i:Int} {cs:List Cell} (h:kC l n=(cs,i,true)): ∃c,dM cs i=some c∧Tq cs i=c.g:=by
 have h0:fU l=true∧nH n=true∧0≤lC l:=Classical.byContradiction fun hn=>by
  rw[tG hn] at h;cases h
 rw[Cj h0] at h;obtain⟨rfl,h2⟩:=Prod.mk.inj h;obtain⟨rfl,_⟩:=Prod.mk.inj h2;have hl: -1≤lC l∧lC l<l.length:=P5 A9 l;obtain⟨c,hc⟩:=pJ (l:=l.modify (lC l).toNat fun c=>⟨c.g,true,n⟩) h0.2.2 (by rw[RF];exact hl.2);exact⟨c,hc,by unfold Tq;rw[hc]⟩
theorem y8 (p:bn) (s:ByteArray) (b n:Int) (hS:aV p≤1048576) (hz:s.size≤1048576):aB C fK [iE p,vS s,vI b,vI n] (Ua (jS p s b n)) []:=by
 have C1:aV p≤4194304:=by omega
 have hP:=fG C1;have Ry:=bh p C1;have hva:=jV p s ax;have RB:=Bl p s b C1 ax;have sw:=(uU n (nH n)).2 rfl;refine(LI _ _ _ _ _ _ _ _ _ _ ?_).run
 by_cases h1:uR p s b=0
 ·rw[h1] at RB
  obtain⟨v,hv,_⟩:=Nh h1
  have hrv:rowAt (p.az.map cU) (dx p.az s)=some [iS v.name,iI v.ga,iI v.size,iB v.fx]:=by rw[bq,hv];rfl
  cases h2:nH n with
  |false=>
   rw[h2] at sw
   have e:jS p s b n=(p,4):=by unfold jS;rw[aP h1,aF (by rw[h2];simp)]
   rw[e];exact gz
  |true=>
   rw[h2] at sw;have tk:=CA p.cells n ax;obtain⟨cs,i,ok,Ek⟩: ∃cs i ok,kC p.cells n=(cs,i,ok):=⟨_,_,_,rfl⟩
   have hcl:cs.length=p.cells.length:=by have:=Lc p.cells n;rw[Ek] at this;exact this
   have hX:aV ⟨p.t,p.aX,cs,p.az,p.next⟩≤2000000:=by unfold aV at hS ⊢;simp only[];omega
   rw[Ek] at tk
   cases ok with
   |false=>
    have e:jS p s b n=(p,6):=by unfold jS;rw[aP h1,aP h2,hv];simp only[];rw[Ek];rfl
    have en:=iG p ⟨p.t,p.aX,cs,p.az,p.next⟩ false C1 ax;rw[e];exact gz
   |true=>
    obtain⟨c,hc,abG⟩:=Lv Ek
    have hrc:rowAt (cs.map cE) i=some [iI c.g,iB c.u,iI c.n]:=by rw[bq,hc];rfl
    have pk:=o6 ⟨p.t,p.aX,cs,p.az,p.next⟩ ax ⟨b,v.ga,1,i,c.g⟩;have hpz:=Bb ⟨p.t,p.aX,cs,p.az,p.next⟩ ⟨b,v.ga,1,i,c.g⟩
    have e:jS p s b n=Le p (jl ⟨p.t,p.aX,cs,p.az,p.next⟩ ⟨b,v.ga,1,i,c.g⟩).1 (jl ⟨p.t,p.aX,cs,p.az,p.next⟩ ⟨b,v.ga,1,i,c.g⟩).2:=by
     unfold jS;rw[aP h1,aP h2,hv];simp only[];unfold OT;rw[Ek];simp only[];rw[abG];rfl
    rw[e];generalize jl ⟨p.t,p.aX,cs,p.az,p.next⟩ ⟨b,v.ga,1,i,c.g⟩=X at*;have en:=iG p X.1 X.2 C1 ax;exact gz
 ·have c1:bR (uR p s b) 0=false:=by rw[dN];exact ng h1
  have c2:(!bR (uR p s b) 0)=true:=by rw[c1];rfl
  have e:jS p s b n=(p,uR p s b):=by unfold jS;rw[aF h1]
  rw[e];exact gz
theorem CD {p:bn} {x:bn×Bool} (h:x.2=false):Ax p x=(p,false):=by
 unfold Ax;rw[aF fun e=>by rw[h] at e;cases e.1]
theorem Aa {p:bn} {x:bn×Bool} (h:cH x.1=false):Ax p x=(p,false):=by
 unfold Ax;rw[aF fun e=>by rw[h] at e;cases e.2]
theorem Ab {p:bn} {x:bn×Bool} (h1:x.2=true) (h2:cH x.1=true):Ax p x=(x.1,true):=by
 unfold Ax;rw[aP ⟨h1,h2⟩]
theorem Ny {l:List lU} {id:Int} {a:lU} (h:jQ l=true) (ha:dM l (ff l id)=some a):qm l id=((lE l id a.fr).take (ff l id).toNat++(lE l id a.fr).drop ((ff l id).toNat+1),true):=by
 unfold qm;rw[aP h,ha]
theorem Nz {l:List lU} {id:Int} (ha:dM l (ff l id)=none):qm l id=(l,false):=by
 unfold qm
 split
 ·rw[ha]
 ·rfl
theorem Pb {l:List lU} {id:Int} (h:jQ l=false):qm l id=(l,false):=by
 unfold qm;rw[aF (by rw[h];simp)]
theorem HP {α:Type} (f:α→α): ∀(l1:List α) (x:α) (l2:List α),(l1++x::l2).modify l1.length f=l1++f x::l2
 |[],x,l2=>List.modify_zero_cons _ _ _
 |a::r,x,l2=>by rw[wV,ez,List.modify_succ_cons,HP f r x l2];rfl
theorem HQ (l:List lU) (k:Nat) (hk:k<l.length):aB C tO [jN l,vI (k:Int),vI ((k:Int)+1)] (jN (l.take k++l.drop (k+1))) []:=by
 refine aB.ext (p:=Ty 2) rfl ?_;unfold Ty;simp only[];rw[aP ⟨trivial,by omega,by simp<;>omega,trivial⟩,sJ,show((k:Int)+1).toNat=k+1 from by omega];unfold jN;rw[ot,yt,u9]
theorem E6 (l:List lU) (id:Int) (hl:l.length≤1073741800):aB C eY [jN l,vI id] (TV.tu [(0,[TC.sub 2 ((qm l id).1.map cW)]),(0,[iB (qm l id).2])]) []:=by
 have Qj:=oN l id ax;have Ry:=jn l ax;have hok:aB C bN [jN l] (vB (jQ l)) []:=qp l ax;refine(Jm _ _ _ ?_).run
 by_cases h1:ff l id<0
 ·have cl:cT (ff l id) 0=true:=by rw[jM];exact mT h1
  rw[Nz (kQ ax)];exact gz
 ·have cl:cT (ff l id) 0=false:=by rw[jM];exact ng h1
  cases hg:jQ l with
  |false=>
   rw[hg] at hok;rw[Pb hg];exact gz
  |true=>
   rw[hg] at hok;obtain⟨a,ha,_⟩:=JZ l id h1;rw[Ny hg ha];have hlt:=S7 l id;obtain⟨k,hk⟩: ∃k:Nat,ff l id=k:=⟨(ff l id).toNat,by omega⟩;rw[hk] at Qj ha cl hlt ⊢;rw[sJ]
   have hra:rowAt (l.map cW) (k:Int)=some [iI a.id,iI a.fr]:=by rw[bq,ha];rfl
   have key: ∀M:List lU,M=lE (l.take 0) id a.fr++l.drop 0→aj C eY dz 4 0 (jb (l.map cW) id (k:Int) (l.map cW) ((0:Nat):Int) (M.map cW)) (fun x st=>aD C eY dz x st fun r fs=>r=(TV.tu [(0,[TC.sub 2 (((lE l id a.fr).take k++(lE l id a.fr).drop (k+1)).map cW)]),(0,[iB true])])∧fs=[]):=by
    refine ct l (fun j=> ∀M:List lU,M=lE (l.take j) id a.fr++l.drop j→aj C eY dz 4 0 (jb (l.map cW) id (k:Int) (l.map cW) (j:Int) (M.map cW)) (fun x st=>aD C eY dz x st fun r fs=>r=(TV.tu [(0,[TC.sub 2 (((lE l id a.fr).take k++(lE l id a.fr).drop (k+1)).map cW)]),(0,[iB true])])∧fs=[])) ?_ ?_
    ·intro M hM
     rw[BC,iu,lX] at hM;subst hM;have hdl:=HQ (lE l id a.fr) k (by rw[Bc];omega);have uY:ak (k:Int) 1=(k:Int)+1:=aR ax;rw[←uY] at hdl;exact yc _ _ _ _ _ _ _ (av eO (F0 _ _ _ _ _ _ _ _ ⟨_,hdl,rfl,rfl⟩))
    ·intro j x hj hx hd ht hn M hM
     have hml:(lE (l.take j) id a.fr).length=j:=by rw[Bc,dj];omega
     have hmj:M[j]?=some x:=by rw[hM,kr ax,hml,oY,hd];rfl
     have hr:rowAt (M.map cW) (j:Int)=some [iI x.id,iI x.fr]:=by rw[bq,aQ,hmj];rfl
     have uY:ak (j:Int) 1=(j:Int)+1:=aR ax
     have hre:lE (l.take (j+1)) id a.fr=lE (l.take j) id a.fr++[if x.fr=id then {x with fr:=a.fr} else x]:=by
      rw[ht];unfold lE;rw[ot];rfl
     refine yc _ _ _ _ _ _ _ (ah zx ⟨_,_,hr,_,_,hr,?_⟩);rw[uY]
     by_cases hf:x.fr=id
     ·refine ah (by rw[dN];exact mT hf) ⟨_,_,hra,_,_,hr,_,_,hr,?_⟩
      (try dsimp only)
      rw[Q4];refine hn _ ?_;rw[hre,aP hf,hM,hd,sJ];have hmm:=HP (fun z:lU=>{z with fr:=a.fr}) (lE (l.take j) id a.fr) x (l.drop (j+1));rw[hml] at hmm;rw[hmm];simp
     ·refine av (by rw[dN];exact ng hf) (hn M ?_)
      rw[hre,aF hf,hM,hd];simp
   have k0:=key l rfl;exact gz
theorem HR (p:bn):dm p=(0,0)∨(∃i k,(dm p=(1,i)∨dm p=(2,i))∧dM (aE p.t) i=some k)∨
 (∃i k x,dm p=(3,i)∧dM (aE p.t) i=some k∧dM (hJ p.aX k.a) 0=some x∧EI p k.a=x)∨ ∃i a,dm p=(4,i)∧dM p.aX i=some a:=by
 unfold dm
 split
 ·split
  ·rename_i h
   obtain⟨k,hk,_⟩:=p9 (qR p 1) (aE p.t) (by unfold lI at h;omega);exact .inr (.inl ⟨_,k,.inl rfl,hk⟩)
  ·split
   ·rename_i h
    obtain⟨k,hk,_⟩:=p9 (qR p 2) (aE p.t) (by unfold lI at h;omega);exact .inr (.inl ⟨_,k,.inr rfl,hk⟩)
   ·split
    ·rename_i h
     obtain⟨k,hk,h3⟩:=p9 (qR p 3) (aE p.t) (by unfold lI at h;omega);have h3:P7 p k=true:=h3;unfold P7 at h3
     split at h3
     ·cases h3
     ·rename_i h0
      have hx: ∃x,dM (hJ p.aX k.a) 0=some x∧EI p k.a=x:=by
       unfold EI at h0 ⊢
       split
       ·rename_i hh
        obtain⟨x,hx⟩:=pJ (l:=hJ p.aX k.a) (i:=0) ax ax;exact⟨x,hx,by rw[hx]⟩
       ·rename_i hh;rw[aF hh] at h0;exact absurd rfl h0
      obtain⟨x,hx1,hx2⟩:=hx;exact .inr (.inr (.inl ⟨_,k,x,rfl,hk,hx1,hx2⟩))
    ·split
     ·rename_i h
      obtain⟨a,ha,_⟩:=p9 (tI p) p.aX (by unfold Hq at h;omega);exact .inr (.inr (.inr ⟨_,a,rfl,ha⟩))
     ·exact .inl rfl
 ·exact .inl rfl
theorem TH (p:bn) (k:Key):aV (Ay p k).1≤aV p+520:=by
 have h1:=wL p.t (ia k);have h2:=wL (bK p.t (ia k)).1 (DI p k);unfold Ay aV;simp only[];omega
theorem Vw (p:bn) (id:Int):aV (Ni p id).1≤aV p:=by
 have:=OU p.aX id;unfold Ni aV;simp only[];omega
theorem qX {p:bn} {j i:Int} {X:bn×Bool} (h:dm p=(j,i)) (hj: ¬j=0) (hX:EM p j i=X):jT p=Ax p X:=by
 unfold jT;rw[h,aF hj,hX]
theorem Ki {p:bn} {j i:Int} {k:Key} (hj:j=1∨j=2) (hk:dM (aE p.t) i=some k):EM p j i=jl p (ia k):=by
 unfold EM Gh;rw[aF ax,aF ax,hk]
theorem Pc {p:bn} {i:Int} {k:Key} (hk:dM (aE p.t) i=some k):EM p 3 i=Ay p k:=by
 unfold EM Gh;rw[aF ax,aP rfl,hk]
theorem Ro {p:bn} {i:Int} {a:lU} (ha:dM p.aX i=some a):EM p 4 i=Ni p a.id:=by
 unfold EM;rw[aP rfl,ha]
theorem mZ (p:bn) (hS:aV p≤4194304) (j i:Int) (k:Key) (hj:j=1∨j=2) (hk:dM (aE p.t) i=some k):aB C jm [.bx (Cc p),vI j,vI i] (vB (jl p (ia k)).2) [.bx (Cc (jl p (ia k)).1)]:=by
 have hP:=fG hS;have htl:=ji p.t;have hkk:=gE p.t ax
 have hrk:rowAt ((aE p.t).map ck) i=some [iI k.b,iI k.a,iI k.k,iI k.c,iI k.g]:=by rw[bq,hk];rfl
 have pk:=o6 p hS (ia k);generalize jl p (ia k)=X at*;refine(jH _ _ _ _ _ _ _ _ _ ?_).run
 have c1:bR j 4=false:=by rw[dN];exact ng ax
 have c2:(!bR j 3)=true:=by rw[dN,ng ax];rfl
 exact gz
theorem sF (p:bn) (hS:aV p≤4194304) (i:Int) (a:lU) (ha:dM p.aX i=some a):aB C jm [.bx (Cc p),vI 4,vI i] (vB (Ni p a.id).2) [.bx (Cc (Ni p a.id).1)]:=by
 have hP:=fG hS
 have hra:rowAt (p.aX.map cW) i=some [iI a.id,iI a.fr]:=by rw[bq,ha];rfl
 have ca:=E6 p.aX a.id ax;refine(jH _ _ _ _ _ _ _ _ _ ?_).run;unfold Ni;exact gz
theorem r6 (p:bn) (hS:aV p≤4194304) (i:Int) (k:Key) (x:Int) (hk:dM (aE p.t) i=some k) (hx:dM (hJ p.aX k.a) 0=some x) (he:EI p k.a=x): ∃X:bn,aB C jm [.bx (Cc p),vI 3,vI i] (vB (Ay p k).2) [.bx (Cc X)]∧((Ay p k).2=true→X=(Ay p k).1):=by
 have hP:=fG hS;have htl:=ji p.t;have hkk:=gE p.t ax;have hkd:=nK p.aX k.a ax
 have hrk:rowAt ((aE p.t).map ck) i=some [iI k.b,iI k.a,iI k.k,iI k.c,iI k.g]:=by rw[bq,hk];rfl
 have hrx:rowAt ((hJ p.aX k.a).map cv) 0=some [iI x]:=by rw[bq,hx];rfl
 have h1:=wL p.t (ia k);have tp:=pP p.t (ia k) ax;have tq:=pP (bK p.t (ia k)).1 (DI p k) ax
 have ZO:DI p k=⟨k.b,x,k.k,k.c,k.g⟩:=by unfold DI;rw[he]
 rw[ZO] at tq;unfold Ay;rw[ZO];obtain⟨T,b,hT⟩: ∃T b,bK p.t (ia k)=(T,b):=⟨_,_,rfl⟩;rw[hT] at tp tq ⊢;obtain⟨U,c,hU⟩: ∃U c,bK T ⟨k.b,x,k.k,k.c,k.g⟩=(U,c):=⟨_,_,rfl⟩;simp only[] at tq ⊢;rw[hU] at tq ⊢;simp only[]
 cases b with
 |false=>
  refine⟨p,?_,fun h=>by cases h⟩;refine(jH _ _ _ _ _ _ _ _ _ ?_).run;exact gz
 |true=>
  refine⟨⟨U,p.aX,p.cells,p.az,p.next⟩,?_,fun _=>rfl⟩;refine(jH _ _ _ _ _ _ _ _ _ ?_).run;exact gz
theorem Bm (p:bn) (hS:aV p≤1048576):aB C rW [iE p] (tPB (jT p)) []:=by
 have Uk:aV p≤4194304:=by omega
 have hP:=fG Uk;have htl:=ji p.t;have Ry:=bh p Uk;have T7:=CB p Uk;have hkk:=gE p.t ax;refine(Eb _ _ _ _ _ _ _ ?_).run;rcases HR p with h0|⟨i,k,hn,hk⟩|⟨i,k,x,hn,hk,hx,he⟩|⟨i,a,hn,ha⟩
 ·have hps:jT p=(p,false):=by unfold jT;rw[h0];rfl
  rw[h0] at T7;rw[hps];exact gz
 ·have hrk:rowAt ((aE p.t).map ck) i=some [iI k.b,iI k.a,iI k.k,iI k.c,iI k.g]:=by rw[bq,hk];rfl
  rcases hn with hn|hn
  ·rw[hn] at T7
   have hj:(1:Int)=1∨(1:Int)=2:= .inl rfl;have hps:=qX hn ax rfl;rw[hps];have hsz:=Bb p (ia k);have hrun:=mZ p Uk _ i k hj hk;rw[Ki hj hk];generalize jl p (ia k)=X at*;have pk:=dy X.1 ax
   cases hb:X.2 with
   |false=>
    rw[hb] at hrun;rw[CD hb];exact gz
   |true=>
    rw[hb] at hrun
    cases hg:cH X.1 with
    |false=>
     rw[hg] at pk;rw[Aa hg];exact gz
    |true=>
     rw[hg] at pk;rw[Ab hb hg];exact gz
  ·rw[hn] at T7
   have hj:(2:Int)=1∨(2:Int)=2:= .inr rfl;have hps:=qX hn ax rfl;rw[hps];have hsz:=Bb p (ia k);have hrun:=mZ p Uk _ i k hj hk;rw[Ki hj hk];generalize jl p (ia k)=X at*;have pk:=dy X.1 ax
   cases hb:X.2 with
   |false=>
    rw[hb] at hrun;rw[CD hb];exact gz
   |true=>
    rw[hb] at hrun
    cases hg:cH X.1 with
    |false=>
     rw[hg] at pk;rw[Aa hg];exact gz
    |true=>
     rw[hg] at pk;rw[Ab hb hg];exact gz
 ·have hrk:rowAt ((aE p.t).map ck) i=some [iI k.b,iI k.a,iI k.k,iI k.c,iI k.g]:=by rw[bq,hk];rfl
  rw[hn] at T7;have hps:=qX hn ax (Pc hk);have hsz:=TH p k;have pk:=dy (Ay p k).1 ax;obtain⟨X0,hrun,Ui⟩:=r6 p Uk i k x hk hx he;rw[hps];generalize Ay p k=X at*
  cases hb:X.2 with
  |false=>
   rw[hb] at hrun;rw[CD hb];exact gz
  |true=>
   have Ui:=Ui hb;subst Ui;rw[hb] at hrun
   cases hg:cH X.1 with
   |false=>
    rw[hg] at pk;rw[Aa hg];exact gz
   |true=>
    rw[hg] at pk;rw[Ab hb hg];exact gz
 ·have hra:rowAt (p.aX.map cW) i=some [iI a.id,iI a.fr]:=by rw[bq,ha];rfl
  rw[hn] at T7;have hps:=qX hn ax (Ro ha);have hrun:=sF p Uk i a ha;have hsz:=Vw p a.id;rw[hps];generalize Ni p a.id=X at*;have pk:=dy X.1 ax
  cases hb:X.2 with
  |false=>
   rw[hb] at hrun;rw[CD hb];exact gz
  |true=>
   rw[hb] at hrun
   cases hg:cH X.1 with
   |false=>
    rw[hg] at pk;rw[Aa hg];exact gz
   |true=>
    rw[hg] at pk;rw[Ab hb hg];exact gz
theorem HS (p:bn) (hS:aV p≤1048576): ∃c,aB C fh [iE p] (Ua (rR 1000 p,c)) []:=by
 obtain⟨Z,hZe⟩: ∃Z,Z=rR 1000 p:=⟨_,rfl⟩;rw[←hZe]
 have key: ∀(n:Nat),n≤1000→ ∀(z:Int) (X:bn),z=1000-(n:Int)→aV X≤1048576→rR n X=Z→aj C fh aq 4 0 (mC z X.next (X.t.ay.map cv) (X.t.nodes.map bG) (X.aX.map cW) (X.cells.map cE) (X.az.map cU)) (fun x st=>aD C fh aq x st fun r fs=> ∃c,r=Ua (Z,c)∧fs=[]):=by
  intro n
  induction n with
  |zero=>
   intro abJ z X hz hX hZ;exact zi _ _ _ _ _ _ _ _ (av (by rw[jM];exact ng ax) (Ic _ _ _ _ _ _ _ _ ⟨_,by rw[←hZ];rfl,rfl⟩))
  |succ n ih=>
   intro abJ z X hz hX hZ
   ·have VH: ∀X:bn,aV X≤1048576→rR n X=Z→aj C fh aq 4 0 (mC (ak z 1) X.next (X.t.ay.map cv) (X.t.nodes.map bG) (X.aX.map cW) (X.cells.map cE) (X.az.map cU)) (fun x st=>aD C fh aq x st fun r fs=> ∃c,r=Ua (Z,c)∧fs=[]):=fun X h1 h2=>by
     rw[aR ax];exact ih ax (z+1) X ax h1 h2
    have ms:=Bm X ax;have msz:=Cq X;unfold rR at hZ;generalize jT X=Y at*;obtain⟨Y,b⟩:=Y;refine zi _ _ _ _ _ _ _ _ (ah (by rw[jM];exact mT ax) ⟨_,_,_,_,_,_,_,ms,?_⟩)
    cases b with
    |false=>
     rw[aF eO] at hZ;exact ah rfl (Ib _ _ _ _ _ _ _ _ _ _ _ _ _ _ ⟨_,by rw[←hZ],rfl⟩)
    |true=>
     rw[aP rfl] at hZ;exact av rfl (VH Y (by simp only[] at msz;omega) hZ)
 have h:cg C fh [iE p] (fun r fs=> ∃c,r=Ua (Z,c)∧fs=[]):=LJ _ _ _ _ _ _ _ ⟨_,_,_,_,_,_,bh p ax,key 1000 ax 0 p rfl hS hZe.symm⟩;obtain⟨r,fs,h1,c,rfl,rfl⟩:=h;exact⟨c,h1⟩
theorem CF (p:bn) (hS:aV p≤1048576):aB C uS [iE p] (iE (Cp p)) []:=by
 obtain⟨c,hc⟩:=HS p hS;exact(FC _ _ _ _ _ _ _ ⟨_,_,_,_,_,_,_,hc,rfl,by trivial⟩).run
theorem aaT (b:List Int) (hB:YP b) (hb:b.length≤1048576): ∃c,0≤c∧c≤255∧aB C nI [yP b,vI 2] (vI c) []:=by
 by_cases h:2<b.length
 ·obtain⟨x,hx⟩:=pJ (l:=b) (i:=2) ax ax
  have hr:rowAt (b.map mW) 2=some [TC.sc (Value.int IntKind.u8 x)]:=by rw[bq,hx];rfl
  have h2:=hB x (He hx);have r:cg C nI [yP b,vI 2] (fun r fs=>r=vI (va .i64 x)∧fs=[]):=Kl _ _ _ (ah zx ⟨x,hr,gX⟩);rw[M3 ax] at r;obtain⟨_,_,r,rfl,rfl⟩:=r;exact⟨x,h2.1,h2.2,r⟩
 ·have key: ∀n:Nat,n≤2→0≤lT (ak (Hf 2 31) (Hf (Int.ofNat n) 7)) 256∧lT (ak (Hf 2 31) (Hf (Int.ofNat n) 7)) 256≤255:=fun n hn=>by
   have e:Int.ofNat n=(n:Int):=rfl;rw[e,K4 ax,K4 ax,aR ax,K2,Int.tmod_eq_emod_of_nonneg ax];omega
  have k:=key (b.map mW).length zx;have r:cg C nI [yP b,vI 2] (fun r fs=>r=vI (lT (ak (Hf 2 31) (Hf (Int.ofNat (List.length (b.map mW))) 7)) 256)∧fs=[]):=Kl _ _ _ (av zx (av eO gX));obtain⟨_,_,r,rfl,rfl⟩:=r;exact⟨_,k.1,k.2,r⟩
theorem Pd {p:bn} (h:cH p=true) (s:ByteArray) (n:Int):cH (oJ p s n).1=true:=by
 unfold oJ;repeat' split
 all_goals first|exact Lm h|exact h
theorem TJ {p:bn} (h:cH p=true) (s to:ByteArray) (fx:Bool):cH (Aw p s to fx).1=true:=by
 unfold Aw;repeat' split
 all_goals first|exact Lm h|exact h
theorem Kj {p:bn} (h:cH p=true) (s:ByteArray) (x n:Int):cH (jS p s x n).1=true:=by
 unfold jS;repeat' split
 all_goals first|exact Lm h|exact h
theorem Lw (c:Int): ∀i,cH (yf c i)=true∧aV (yf c i)≤500
 |0=>⟨Pd O2 _ _,by
   have h:=Nj pV Ub 4
   have h2:aV pV≤500:=by decide+kernel
   show aV (oJ pV Ub 4).1≤500
   omega⟩
 |i+1=>by
  obtain⟨h1,h2⟩:=Lw c i;have h3:=Kd (yf c i) (nv i) (lT (c+i) 4) (100+i);refine⟨TJ (Kj h1 _ _ _) _ _ _,?_⟩;have h4:=Re (jS (yf c i) (nv i) (lT (c+i) 4) (100+i)).1 (nv i) (nv (i+1)) false;show aV (Aw (jS (yf c i) (nv i) (lT (c+i) 4) (100+i)).1 (nv i) (nv (i+1)) false).1≤500;omega
theorem Lx (c:Int) (i:Nat):cH (w5 c i).1=true∧aV (w5 c i).1≤500:=by
 obtain⟨h1,h2⟩:=Lw c i;have h3:=Kd (yf c i) (nv i) (lT (c+i) 4) (100+i);refine⟨Kj h1 _ _ _,?_⟩;show aV (jS (yf c i) (nv i) (lT (c+i) 4) (100+i)).1≤500;omega
theorem Gk (c:Int): ∀i,aV (zV c i)≤500
 |0=>(Lx c 3).2
 |i+1=>by
  have h2:=Gk c i;have h4:=Rf (zV c i) (nv i);show aV (w4 (zV c i) (nv i)).1≤500;omega
theorem NA {α:Type} {x:α×Int} (h:x.2=0):x=(x.1,0):=by cases x;cases h;rfl
theorem TK (i:Nat):(nv i).size≤1:=by match i with|0=>decide|1=>decide|2=>decide|_+3=>exact bI 1
theorem Ly {i:Nat} (h:i<4):rowAt [[iS (ByteArray.mk #[97])],[iS (ByteArray.mk #[98])],[iS (ByteArray.mk #[99])],[iS (ByteArray.mk #[100])]] (i:Int)=some [iS (nv i)]:=by
 show rowAt ([Ub,nmB,nmC,nmD].map aaS) (i:Int)=_;rw[bq,aQ]
 have:i=0∨i=1∨i=2∨i=3:=by omega
 rcases this with rfl|rfl|rfl|rfl<;>rfl
theorem Vx:bR 0 0=true:=by simp
theorem Y1:bR 4 0=false:=by simp
theorem Vy {b:List Int} {c:Int} (h0:0≤c) (h1:c≤255) (ra:aB C nI [yP b,vI 2] (vI c) []) (hd:(w5 c 3).2=0) (Q:QX) (Kn:aj C bF gG 4 0 (cK (b.map mW) true 4 (w5 c 3).1.next ((w5 c 3).1.t.ay.map cv) ((w5 c 3).1.t.nodes.map bG) ((w5 c 3).1.aX.map cW) ((w5 c 3).1.cells.map cE) ((w5 c 3).1.az.map cU)) Q):aj C bF gG 4 0 (cK (b.map mW) true 3 (yf c 3).next ((yf c 3).t.ay.map cv) ((yf c 3).t.nodes.map bG) ((yf c 3).aX.map cW) ((yf c 3).cells.map cE) ((yf c 3).az.map cU)) Q:=by
 have Kn:aj C bF gG 4 0 (cK (b.map mW) true (ak 3 1) (w5 c 3).1.next ((w5 c 3).1.t.ay.map cv) ((w5 c 3).1.t.nodes.map bG) ((w5 c 3).1.aX.map cW) ((w5 c 3).1.cells.map cE) ((w5 c 3).1.az.map cU)) Q:=by rw[aR ax];exact Kn
 have rw1:=y8 (yf c 3) (nv 3) (lT (c+3) 4) (100+3) (by have:=(Lw c 3).2;omega) (by decide);rw[show jS (yf c 3) (nv 3) (lT (c+3) 4) (100+3)=((w5 c 3).1,0) from NA hd,←aR (a:=c) (b:=3) ax,←aR (a:=100) (b:=3) ax] at rw1;have hr:rowAt [[iS (ByteArray.mk #[97])],[iS (ByteArray.mk #[98])],[iS (ByteArray.mk #[99])],[iS (ByteArray.mk #[100])]] (3:Int)=some [iS (nv 3)]:=Ly (i:=3) ax
 have l4:cT 3 4=true:=by simp
 have l3:cT 3 3=false:=by simp
 refine pQ _ _ _ _ _ _ _ _ _ _ (ah l4 ?_)
 repeat' first
  |exact Kn
  |refine av l3 ?_
  |refine⟨_,hr,?_⟩
  |refine⟨_,ra,av Y1 ?_⟩
  |refine⟨_,_,_,_,_,_,_,rw1,?_⟩
  |simp only[Vx]
  |refine ah rfl ?_
  |refine av rfl ?_
  |rfl
  |refine And.intro ?_ ?_
theorem LA {b:List Int} {c:Int} (h0:0≤c) (h1:c≤255) (ra:aB C nI [yP b,vI 2] (vI c) []) {i:Nat} (hi:i<3) (hd:(w5 c i).2=0) (hs:(V7 c i).2=0) (Q:QX) (Kn:aj C bF gG 4 0 (cK (b.map mW) true ((i+1:Nat):Int) (yf c (i+1)).next ((yf c (i+1)).t.ay.map cv) ((yf c (i+1)).t.nodes.map bG) ((yf c (i+1)).aX.map cW) ((yf c (i+1)).cells.map cE) ((yf c (i+1)).az.map cU)) Q):aj C bF gG 4 0 (cK (b.map mW) true (i:Int) (yf c i).next ((yf c i).t.ay.map cv) ((yf c i).t.nodes.map bG) ((yf c i).aX.map cW) ((yf c i).cells.map cE) ((yf c i).az.map cU)) Q:=by
 have sz:=TK i;have sz2:=TK (i+1);have rw1:=y8 (yf c i) (nv i) (lT (c+i) 4) (100+i) (by have:=(Lw c i).2;omega) ax;have rs1:=IV (w5 c i).1 (nv i) (nv (i+1)) false (by have:=(Lx c i).2;omega) ax ax;rw[show jS (yf c i) (nv i) (lT (c+i) 4) (100+i)=((w5 c i).1,0) from NA hd] at rw1;rw[show Aw (w5 c i).1 (nv i) (nv (i+1)) false=(yf c (i+1),0) from NA hs] at rs1;have hr:=Ly (i:=i) ax;have F3:=Ly (i:=i+1) ax
 have ei:((i+1:Nat):Int)=ak (i:Int) 1:=by rw[aR ax];rfl
 rw[←aR (a:=c) ax,←aR (a:=100) ax] at rw1;rw[ei] at F3 Kn
 have l4:cT (i:Int) 4=true:=by simp<;>omega
 have l3:cT (i:Int) 3=true:=by simp<;>omega
 refine pQ _ _ _ _ _ _ _ _ _ _ (ah l4 ?_)
 repeat' first
  |exact Kn
  |refine⟨_,hr,?_⟩
  |refine⟨_,F3,?_⟩
  |refine⟨_,ra,av Y1 ?_⟩
  |refine⟨_,_,_,_,_,_,_,rw1,?_⟩
  |refine⟨_,_,_,_,_,_,_,rs1,?_⟩
  |refine ah l3 ?_
  |simp only[Vx]
  |refine ah rfl ?_
  |refine av rfl ?_
  |rfl
  |refine And.intro ?_ ?_
theorem LB {c:Int} {i:Nat} (hi:i<3) (hd:(w4 (zV c i) (nv i)).2=0) (Q:QX) (Kn:aj C bF j7 4 2 (ir true ((i+1:Nat):Int) (zV c (i+1)).next ((ki (w5 c 3).1).map qP) ((zV c (i+1)).t.ay.map cv) ((zV c (i+1)).t.nodes.map bG) ((zV c (i+1)).aX.map cW) ((zV c (i+1)).cells.map cE) ((zV c (i+1)).az.map cU)) Q):aj C bF j7 4 2 (ir true (i:Int) (zV c i).next ((ki (w5 c 3).1).map qP) ((zV c i).t.ay.map cv) ((zV c i).t.nodes.map bG) ((zV c i).aX.map cW) ((zV c i).cells.map cE) ((zV c i).az.map cU)) Q:=by
 have sz:=TK i;have rk:=IU (zV c i) (nv i) (by have:=Gk c i;omega) ax;rw[show w4 (zV c i) (nv i)=(zV c (i+1),0) from NA hd] at rk;have hr:=Ly (i:=i) ax
 have ei:((i+1:Nat):Int)=ak (i:Int) 1:=by rw[aR ax];rfl
 rw[ei] at Kn
 have l3:cT (i:Int) 3=true:=by simp<;>omega
 refine vT _ _ _ _ _ _ _ _ _ _ (ah l3 ?_)
 repeat' first
  |exact Kn
  |refine⟨_,hr,?_⟩
  |refine⟨_,_,_,_,_,_,_,rk,?_⟩
  |simp only[Vx]
  |refine ah rfl ?_
  |refine av rfl ?_
  |rfl
  |refine And.intro ?_ ?_
theorem Xt {c:Int} (h:(oJ pV Ub 4).2=0):oJ pV Ub 4=(yf c 0,0):=NA h
theorem Xu (c:Int):aV (Nv c)≤500:=by have h:=Ke 1000 (zV c 3);have h2:=Gk c 3;show aV (rR 1000 (zV c 3))≤500;exact pY h (Nat.max_le.2 ⟨h2,bI _⟩)
theorem Y2 (c:Int):(w5 c 3).1=zV c 0:=rfl
theorem Xv (c:Int):Cp (zV c 3)=Nv c:=rfl
attribute [local irreducible] yf w5 V7 zV Nv ki Cp
theorem Qg {l:List Mp} {i:Nat} {m:Mp} (h:l[i]?=some m):rowAt (l.map qP) (i:Int)=some [iS m.name,iB m.fx,.sub 1 (m.l.map cv)]:=by rw[bq,aQ,h];rfl
theorem NC (b:List Int) (hB:YP b):aB C bF [yP b] (vB true) []:=by
 refine(Im _ _ ⟨_,Vv b,?_⟩).run
 by_cases hb:1048576<b.length
 ·exact ah zx gX
 have hb:b.length≤1048576:=by omega
 obtain⟨c,h0,h1,ra⟩:=aaT b hB hb;have hk:=YV h0 ax;unfold Ln at hk;simp only[c8,decide_eq_true_eq] at hk;obtain⟨⟨⟨⟨⟨⟨⟨⟨⟨⟨⟨⟨⟨⟨⟨⟨k0,w0⟩,w1⟩,w2⟩,w3⟩,s0⟩,s1⟩,s2⟩,d0⟩,d1⟩,d2⟩,z1⟩,z2⟩,z3⟩,z4⟩,z5⟩,z6⟩:=hk;have rc:=E4 pV Ub 4 (by decide+kernel) (by decide);rw[Xt k0] at rc;refine av zx ⟨_,_,_,_,_,_,DR,_,_,_,_,_,_,_,rc,?_⟩;simp only[Vx];refine LA h0 h1 ra (i:=0) ax w0 s0 _ (LA h0 h1 ra (i:=1) ax w1 s1 _ (LA h0 h1 ra (i:=2) ax w2 s2 _ (Vy h0 h1 ra w3 _ ?_)))
 have hw3:=Lx c 3;refine pQ _ _ _ _ _ _ _ _ _ _ (av eO (Ee _ _ _ _ _ _ _ _ _ _ ⟨_,w8 (w5 c 3).1 ax (fun v hv=>by have:=EO hw3.1 hv;omega),?_⟩));generalize hM:(ki (w5 c 3).1).map qP=M at*;rw[Y2];rw[←hM];refine LB (c:=c) (i:=0) ax d0 _ (LB (c:=c) (i:=1) ax d1 _ (LB (c:=c) (i:=2) ax d2 _ ?_));refine vT _ _ _ _ _ _ _ _ _ _ (av eO (Ef _ _ _ _ _ _ _ _ _ _ ?_));have hk3:=Gk c 3;have hzs:=Xu c
 have hcl:(Nv c).cells.length≤aV (Nv c):=by unfold aV;omega
 obtain⟨m0,e0⟩: ∃m,(ki (Nv c))[0]?=some m:=⟨_,aZ ax⟩;obtain⟨m3,e3⟩: ∃m,(ki (w5 c 3).1)[3]?=some m:=⟨_,aZ ax⟩;rw[e0,e3] at z6
 have z6:m0.l=m3.l:=by simpa using z6
 have r0:=Qg e0;have r3:=Qg e3
 have rss:=CC m0.l (by
  have:=Tb _ m0 (fC e0)
  omega)
 have ru:=rX (Nv c).cells ax;rw[z2] at ru;have rp:=dy (Nv c) ax;rw[z3] at rp;refine⟨_,_,_,_,_,_,Xv c▸CF (zV c 3) ax,_,w8 (Nv c) ax (fun v hv=>by have:=EO z3 hv;omega),ah rfl (ah (by simp[z4]) (ah (by simp[z5]) ⟨_,_,_,r0,_,_,_,r0,_,_,_,r3,_,_,_,r3,_,z6▸rss,ah rfl (ah (by simp[z1]) ⟨_,ru,ah eO ⟨_,rp,rfl,by trivial⟩⟩)⟩))⟩
theorem Xw {n z:Nat} (h:n*z≤reachBytes) (hz:1≤z):n≤140737488355328:=by
 have:reachBytes≤140737488355328:=by decide
 have h2:n*1≤n*z:=Nat.mul_le_mul_left n hz;omega
theorem Vz {r:List TC} (h:Dv C.tt Qe r): ∃n:Int,r=mW n∧(0≤n∧n≤255):=by
 obtain⟨n,rfl,h1⟩:=h.UY (k:= .u8) Qf;exact⟨n,rfl,Yz h1⟩
theorem Pf {r:List TC} (h:Dv C.tt vC r): ∃l:List (Int),r=[.sub 1 (l.map mW)]∧l.length≤140737488355328∧ ∀x∈l,0≤x∧x≤255:=by
 obtain⟨w,rfl,y,z⟩:=h.Q3 (e:=Qe) Qf;obtain⟨l,rfl,hl⟩:=G9 fun r hr=>Vz (y r hr);rw[dB] at z;exact⟨l,rfl,Xw z (by decide+kernel),hl⟩
theorem VA {v:TV} (h:V0 C.tt vC v): ∃l:List Int,v=yP l∧l.length≤140737488355328∧ ∀x∈l,0≤x∧x≤255:=by
 have ht:(C.tt vC).ti= .slice 5:=by kernel_rfl
 cases h with
 |c _ hw=>
  obtain⟨l,h1,h2,h3⟩:=Pf hw
  cases h1
  exact⟨l,rfl,h2,h3⟩
 |ag h1 _=>rw[ht] at h1;cases h1
theorem ND (vs:List TV) (h:MT C.tt [vC] vs): ∃k,gh C k bF vs (vB true) []:=by
 cases h with
 |cons h0 h=>
  cases h
  obtain⟨b,rfl,_,hB⟩:=VA h0;exact NC b hB
end Go.T.R
