import Derived.Test.YtlkjkfidmkdchaaTR1
set_option linter.all false
set_option maxRecDepth 100000
set_option maxHeartbeats 4000000
namespace Go.T.R
open Go Go.T
theorem K2 {P:Prop} (h:P:=by kernel_rfl):P:=h
theorem DS (a b c:Int):ax C fM [vI a,vI b,vI c] (vB (y5 a b c)) []:=by
 refine(ER _ _ _ _ ?_).run;simp only[kD,dP,y5]
 split<;>simp_all<;>omega
theorem NS (a b c:Int):ax C kf [vI a,vI b,vI c] (vB (y5 a b c)) []:=by
 refine(IT _ _ _ _ ?_).run;simp only[kD,dP,y5]
 split<;>simp_all<;>omega
@[simp] theorem IL (a b c:Int) (q:Bool):ax C fM [vI a,vI b,vI c] (vB q) []↔q=y5 a b c:=AG (DS a b c)
@[simp] theorem NT (a b c:Int) (q:Bool):ax C kf [vI a,vI b,vI c] (vB q) []↔q=y5 a b c:=AG (NS a b c)
theorem DT (b a k c g:Int):ax C o5 [.ag [iI b,iI a,iI k,iI c,iI g]] (vB (cv ⟨b,a,k,c,g⟩)) []:=by
 refine(G3 _ _ _ _ _ _ ?_).run;simp only[IL,ie,cv,fy,dJ,dP]
 cases y5 b 0 15<;>cases y5 a 1 60<;>cases y5 k 0 2<;>by_cases h:k=1<;>by_cases h1:c=0<;>by_cases h2:g=0<;>cases y5 c 0 23<;>simp_all
theorem DU (b a k c g:Int):ax C o6 [.ag [iI b,iI a,iI k,iI c,iI g]] (vB (cv ⟨b,a,k,c,g⟩)) []:=by
 refine(GY _ _ _ _ _ _ ?_).run;simp only[NT,ie,cv,fy,dJ,dP]
 cases y5 b 0 15<;>cases y5 a 1 60<;>cases y5 k 0 2<;>by_cases h:k=1<;>by_cases h1:c=0<;>by_cases h2:g=0<;>cases y5 c 0 23<;>simp_all
@[simp] theorem zh (b a k c g:Int) (q:Bool):ax C o5 [.ag [iI b,iI a,iI k,iI c,iI g]] (vB q) []↔q=cv ⟨b,a,k,c,g⟩:=AG (DT b a k c g)
@[simp] theorem zi (b a k c g:Int) (q:Bool):ax C o6 [.ag [iI b,iI a,iI k,iI c,iI g]] (vB q) []↔q=cv ⟨b,a,k,c,g⟩:=AG (DU b a k c g)
@[simp] theorem o7 (b a k c g b' a' k' c' g':Int) (q:Bool):ax C ke [.ag [iI b,iI a,iI k,iI c,iI g],.ag [iI b',iI a',iI k',iI c',iI g']] (vB q) []↔q=bZ ⟨b,a,k,c,g⟩ ⟨b',a',k',c',g'⟩:=AG (by
  refine(DY _ _ _ _ _ _ _ _ _ _ _ ?_).run;simp only[kC,fy,dP,bZ]
  by_cases h1:b<b'<;>by_cases h2:b=b'<;>simp_all)
@[simp] theorem vQ (b a k c g b' a' k' c' g':Int) (q:Bool):ax C oA [.ag [iI b,iI a,iI k,iI c,iI g],.ag [iI b',iI a',iI k',iI c',iI g']] (vB q) []↔q=bZ ⟨b,a,k,c,g⟩ ⟨b',a',k',c',g'⟩:=AG (by
  refine(D9 _ _ _ _ _ _ _ _ _ _ _ ?_).run;simp only[kC,fy,dJ,dP,bZ]
  by_cases h2:b=b'<;>simp_all)
@[simp] theorem ud (b a k c g b' a' k' c' g':Int) (q:Bool):ax C dV [.ag [iI b,iI a,iI k,iI c,iI g],.ag [iI b',iI a',iI k',iI c',iI g']] (vB q) []↔q=eP ⟨b,a,k,c,g⟩ ⟨b',a',k',c',g'⟩:=AG (by
  refine(Ch _ _ _ _ _ _ _ _ _ _ _ ?_).run;simp only[kC,fy,dJ,dP,eP]
  by_cases h2:b=b'<;>simp_all)
@[simp] theorem BI (b a k c g b' a' k' c' g':Int) (q:Bool):ax C kT [.ag [iI b,iI a,iI k,iI c,iI g],.ag [iI b',iI a',iI k',iI c',iI g']] (vB q) []↔q=eP ⟨b,a,k,c,g⟩ ⟨b',a',k',c',g'⟩:=AG (by
  refine(Co _ _ _ _ _ _ _ _ _ _ _ ?_).run;simp only[kC,fy,dJ,dP,eP]
  by_cases h2:b=b'<;>simp_all)
theorem iV (l:List Key) (x:Key) (hl:l.length≤1073741824):ax C bq [cG l,td x] (cG (bU l x)) []:=by
 refine(E3 _ _ _ _ _ _ _ ?_).run
 have key: ∀(put:Bool) (acc:List Key),acc.length+(l.drop 0).length≤l.length+(if put then 1 else 0)→acc++cM x put (l.drop 0)=bU l x→an C bq aW 4 0 (dG (l.map bE) put ((0:Nat):Int) x.b x.a x.k x.c x.g (acc.map bE)) (fun u st=>aP C bq aW u st fun r fs=>r=cG (bU l x)∧fs=[]):=by
  refine cE l (fun i=> ∀(put:Bool) (acc:List Key),acc.length+(l.drop i).length≤l.length+(if put then 1 else 0)→acc++cM x put (l.drop i)=bU l x→an C bq aW 4 0 (dG (l.map bE) put i x.b x.a x.k x.c x.g (acc.map bE)) _) ?_ ?_
  ·intro put acc hb he
   refine uY _ _ _ _ _ _ _ _ _ _ (ay dI (Ct _ _ _ _ _ _ _ _ _ _ _ ?_));simp only[wO,fJ,lH,fK,dJ,fc,cm]
   have hb2:acc.length≤l.length+1:=by simp at hb;split at hb<;>omega
   rw[cY az];rw[kH] at he
   cases put<;>simp[cM] at he ⊢ <;>rw[←he]<;>simp
  ·intro i a hi ha hd _ hn put acc hb he
   rw[hd] at hb he;simp only[e7] at hb
   have hb':acc.length+(List.drop (i+1) l).length+1≤l.length+1:=by split at hb<;>omega
   refine uY _ _ _ _ _ _ _ _ _ _ (ah nF ?_);simp only[mm,aL,ha,bg,g9,vQ,BI,ie,dJ,fJ,wO,lH,fK,fc,cm,cW,jG];simp (disch:=omega) only[cY,aV,vF];simp only[cM] at he
   cases put<;>cases hk:bZ a x<;>cases hs:eP a x<;>simp only[vF,DB]<;>simp[hk,hs] at he hb<;>exact hn _ _ (by simp at hb ⊢;omega) (by simpa using he)
 exact key false [] dI rfl
@[simp] theorem EE (l:List Key) (hl:l.length≤1073741824) (b a k c g:Int) (q:RR):ax C bq [.c (.sub 5 (l.map bE)),.ag [iI b,iI a,iI k,iI c,iI g]] (.c (.sub 5 q)) []↔q=(bU l ⟨b,a,k,c,g⟩).map bE:=LL (iV l ⟨b,a,k,c,g⟩ hl)
theorem kZ (l:List Key) (x:Key) (hl:l.length≤1073741824):ax C bX [cG l,td x] (cG (bU l x)) []:=by
 refine(EJ _ _ _ _ _ _ _ ?_).run
 have key: ∀(put:Bool) (acc:List Key),acc.length+(l.drop 0).length≤l.length+(if put then 1 else 0)→acc++cM x put (l.drop 0)=bU l x→an C bX aW 4 0 (dF put (l.map bE) ((0:Nat):Int) x.b x.a x.k x.c x.g (acc.map bE)) (fun u st=>aP C bX aW u st fun r fs=>r=cG (bU l x)∧fs=[]):=by
  refine cE l (fun i=> ∀(put:Bool) (acc:List Key),acc.length+(l.drop i).length≤l.length+(if put then 1 else 0)→acc++cM x put (l.drop i)=bU l x→an C bX aW 4 0 (dF put (l.map bE) i x.b x.a x.k x.c x.g (acc.map bE)) _) ?_ ?_
  ·intro put acc hb he
   refine uI _ _ _ _ _ _ _ _ _ _ (ay dI (BV _ _ _ _ _ _ _ _ _ _ _ _ ?_));simp only[wO,fJ,lH,fK,dJ,fc,cm]
   have hb2:acc.length≤l.length+1:=by simp at hb;split at hb<;>omega
   rw[cY az];rw[kH] at he
   cases put<;>simp[cM] at he ⊢ <;>rw[←he]<;>simp
  ·intro i a hi ha hd _ hn put acc hb he
   rw[hd] at hb he;simp only[e7] at hb
   have hb':acc.length+(List.drop (i+1) l).length+1≤l.length+1:=by split at hb<;>omega
   refine uI _ _ _ _ _ _ _ _ _ _ (ah nF ?_);simp only[mm,aL,ha,bg,g9,o7,ud,ie,dJ,fJ,wO,lH,fK,fc,cm,cW,jG];simp (disch:=omega) only[cY,aV,vF];simp only[cM] at he
   cases put<;>cases hk:bZ a x<;>cases hs:eP a x<;>simp only[vF,DB]<;>simp[hk,hs] at he hb<;>exact hn _ _ (by simp at hb ⊢;omega) (by simpa using he)
 exact key false [] dI rfl
@[simp] theorem EF (l:List Key) (hl:l.length≤1073741824) (b a k c g:Int) (q:RR):ax C bX [.c (.sub 5 (l.map bE)),.ag [iI b,iI a,iI k,iI c,iI g]] (.c (.sub 5 q)) []↔q=(bU l ⟨b,a,k,c,g⟩).map bE:=LL (kZ l ⟨b,a,k,c,g⟩ hl)
theorem yc (old new:List Key) (hl:old.length+new.length≤1073741824):ax C cU [cG old,cG new] (cG (bG old new)) []:=by
 refine(A6 _ _ _ ?_).run;rw[gD,cY nF];refine ah rfl ?_
 have key: ∀(acc:List Key),acc.length+(new.drop 0).length≤old.length+new.length→bG acc (new.drop 0)=bG old new→an C cU ai 4 0 (gh (new.map bE) ((0:Nat):Int) (acc.map bE)) (fun u st=>aP C cU ai u st fun r fs=>r=(cG (bG old new))∧fs=[]):=by
  refine cE new (fun i=> ∀(acc:List Key),acc.length+(new.drop i).length≤old.length+new.length→bG acc (new.drop i)=bG old new→an C cU ai 4 0 (gh (new.map bE) i (acc.map bE)) (fun u st=>aP C cU ai u st fun r fs=>r=(cG (bG old new))∧fs=[])) ?_ ?_
  ·intro acc h0 h1
   refine pE _ _ _ _ (ay dI (yh _ _ _ _ _ ?_));rw[kH] at h1;rw[←h1];exact jU
  ·intro i a hi ha hd ht hn acc h0 h1
   refine pE _ _ _ _ (ah nF ?_);rw[hd] at h0 h1;simp only[e7] at h0;simp only[mm,EE acc az,aL,ha,bg,g9,ie,dJ,jY,mU,fJ,j6,iu,j7,j8,mV,fc,natAdd,cm,cW,jG,fK,pM];rw[aV az];have h2:=gY acc a;exact hn _ az (by rw[←h1];rfl)
 exact key old dI rfl
theorem AJ (old new:List Key) (hl:old.length+new.length≤1073741824) (q:RR):ax C cU [cG old,cG new] (.c (.sub 5 q)) []↔q=(bG old new).map bE:=LL (yc old new hl)
theorem rA (l:List Key) (hl:l.length≤1073741824):ax C cn [cG l] (cG (fH l)) []:=by
 refine(IS _ _ ?_).run
 have key: ∀(acc:List Key),acc.length+(l.drop 0).length≤l.length→acc++fH (l.drop 0)=fH l→an C cn ai 4 0 (ji (l.map bE) ((0:Nat):Int) (acc.map bE)) (fun u st=>aP C cn ai u st fun r fs=>r=(cG (fH l))∧fs=[]):=by
  refine cE l (fun i=> ∀(acc:List Key),acc.length+(l.drop i).length≤l.length→acc++fH (l.drop i)=fH l→an C cn ai 4 0 (ji (l.map bE) i (acc.map bE)) (fun u st=>aP C cn ai u st fun r fs=>r=(cG (fH l))∧fs=[])) ?_ ?_
  ·intro acc h0 h1
   refine xy _ _ _ _ (ay dI (ES _ _ _ _ _ ?_));rw[kH] at h1;simp[fH] at h1;simp[fH,h1]
  ·intro i a hi ha hd ht hn acc h0 h1
   refine xy _ _ _ _ (ah nF ?_);rw[hd] at h0 h1;simp only[e7] at h0;simp only[mm,wO,lH,fy,dP,aL,ha,bg,g9,ie,dJ,jY,mU,fJ,j6,iu,j7,j8,mV,fc,natAdd,cm,cW,jG,fK,pM];simp (disch:=omega) only[cY,aV,vF]
   by_cases hk:a.k=0
   ·rw[aZ hk]
    exact hn _ az (by rw[←h1];simp[fH,hk])
   ·rw[aR hk]
    exact hn (acc++[a]) (by simp only[cW,jG];omega) (by rw[←h1];simp[fH,hk])
 exact key [] dI rfl
theorem qo (n:List (List Key)) (hb:n.length≤1073741824) (hl:tot bF n≤1073741824):ax C aG [eF n] (cG (aq n)) []:=by
 refine(BR _ _ ?_).run
 have key: ∀(acc:List Key),acc.length+tot bF (n.drop 0)≤tot bF n→(n.drop 0).foldl bG acc=lO n→an C aG ai 4 0 (gQ ((0:Nat):Int) (n.map bL) (acc.map bE)) (fun u st=>aP C aG ai u st fun r fs=>r=(cG (aq n))∧fs=[]):=by
  refine cE n (fun i=> ∀(acc:List Key),acc.length+tot bF (n.drop i)≤tot bF n→(n.drop i).foldl bG acc=lO n→an C aG ai 4 0 (gQ i (n.map bL) (acc.map bE)) (fun u st=>aP C aG ai u st fun r fs=>r=(cG (aq n))∧fs=[])) ?_ ?_
  ·intro acc h0 h1
   refine qK _ _ _ _ (ay dI (zE _ _ _ _ _ ?_));rw[kH] at h0 h1;simp only[List.foldl_nil] at h1;refine⟨_,rA acc az,?_⟩;rw[h1];exact jU
  ·intro i a hi ha hd ht hn acc h0 h1
   refine qK _ _ _ _ (ah nF ?_);rw[hd] at h0 h1;simp only[tot,bF] at h0;simp only[ry,AJ acc a az,aL,ha,bg,g9,ie,dJ,jY,mU,fJ,j6,iu,j7,j8,mV,fc,natAdd,cm,cW,jG,fK,pM];rw[aV az];have h2:=m9 a acc;exact hn _ az (by rw[←h1];rfl)
 exact key [] dI rfl
theorem cZ (n:List (List Key)) (hb:n.length≤1073741824) (hl:tot bF n≤1073741824) (q:RR):ax C aG [.ag [.sub 1 (n.map bL)]] (.c (.sub 5 q)) []↔q=(aq n).map bE:=LL (qo n hb hl)
theorem zj (t:Tree) (hl:dy t≤1073741824):ax C dB [cS t] (cG (av t)) []:=by
 refine(Ck _ _ _ ?_).run
 have key: ∀(acc:List Key),acc.length+tot aE (t.nodes.drop 0)≤tot aE t.nodes→acc++(t.nodes.drop 0).flatMap aq=av t→an C dB ai 4 0 (gW ((0:Nat):Int) (t.ak.map bW) (t.nodes.map bk) (acc.map bE)) (fun u st=>aP C dB ai u st fun r fs=>r=(cG (av t))∧fs=[]):=by
  refine cE t.nodes (fun i=> ∀(acc:List Key),acc.length+tot aE (t.nodes.drop i)≤tot aE t.nodes→acc++(t.nodes.drop i).flatMap aq=av t→an C dB ai 4 0 (gW i (t.ak.map bW) (t.nodes.map bk) (acc.map bE)) (fun u st=>aP C dB ai u st fun r fs=>r=(cG (av t))∧fs=[])) ?_ ?_
  ·intro acc h0 h1
   refine qW _ _ _ _ _ (ay dI (zT _ _ _ _ _ _ ?_));rw[kH] at h1;simp at h1;simp[h1]
  ·intro i a hi ha hd ht hn acc h0 h1
   refine qW _ _ _ _ _ (ah (by have:=hi;unfold dy qj at hl;simp;omega) ?_);have hz:a.length+tot bF a≤tot aE t.nodes:=fI (w:=aE) ha;rw[hd] at h0 h1;simp only[tot,aE] at h0;unfold dy qj at hl;have h2:=bV a;simp only[KT,qh,cZ a az az,gD,aL,ha,bg,g9,ie,dJ,jY,mU,fJ,j6,iu,j7,j8,mV,fc,natAdd,cm,cW,jG,fK,pM];rw[cY az,aV az];refine ah rfl ?_;rw[←vg];exact hn _ nF (by rw[←h1];simp)
 exact key [] dI rfl
theorem ju (l:List Key) (hl:l.length≤2147483648):ax C jh [cG l] (cG l) []:=by
 refine(Cl _ _ ?_).run;rw[gD,cY nF];exact jU
theorem yd (old new:List Key) (hl:old.length+new.length≤1073741824):ax C cT [cG old,cG new] (cG (bG old new)) []:=by
 refine(A5 _ _ _ ?_).run;refine⟨_,ju old az,?_⟩
 have key: ∀(acc:List Key),acc.length+(new.drop 0).length≤old.length+new.length→bG acc (new.drop 0)=bG old new→an C cT ai 4 0 (gf (new.map bE) ((0:Nat):Int) (acc.map bE)) (fun u st=>aP C cT ai u st fun r fs=>r=(cG (bG old new))∧fs=[]):=by
  refine cE new (fun i=> ∀(acc:List Key),acc.length+(new.drop i).length≤old.length+new.length→bG acc (new.drop i)=bG old new→an C cT ai 4 0 (gf (new.map bE) i (acc.map bE)) (fun u st=>aP C cT ai u st fun r fs=>r=(cG (bG old new))∧fs=[])) ?_ ?_
  ·intro acc h0 h1
   refine pz _ _ _ _ (ay dI (yg _ _ _ _ _ _ ?_));rw[kH] at h1;rw[←h1];exact jU
  ·intro i a hi ha hd ht hn acc h0 h1
   refine pz _ _ _ _ (ah nF ?_);rw[hd] at h0 h1;simp only[e7] at h0;simp only[mm,EF acc az,aL,ha,bg,g9,ie,dJ,jY,mU,fJ,j6,iu,j7,j8,mV,fc,natAdd,cm,cW,jG,fK,pM];rw[aV az];have h2:=gY acc a;exact hn _ az (by rw[←h1];rfl)
 exact key old dI rfl
theorem AK (old new:List Key) (hl:old.length+new.length≤1073741824) (q:RR):ax C cT [cG old,cG new] (.c (.sub 5 q)) []↔q=(bG old new).map bE:=LL (yd old new hl)
theorem xp (l:List Key) (hl:l.length≤1073741824):ax C fo [cG l] (cG (fH l)) []:=by
 refine(IU _ _ ?_).run
 have key: ∀(acc:List Key),acc.length+(l.drop 0).length≤l.length→acc++fH (l.drop 0)=fH l→an C fo ai 4 0 (jj (l.map bE) ((0:Nat):Int) (acc.map bE)) (fun u st=>aP C fo ai u st fun r fs=>r=(cG (fH l))∧fs=[]):=by
  refine cE l (fun i=> ∀(acc:List Key),acc.length+(l.drop i).length≤l.length→acc++fH (l.drop i)=fH l→an C fo ai 4 0 (jj (l.map bE) i (acc.map bE)) (fun u st=>aP C fo ai u st fun r fs=>r=(cG (fH l))∧fs=[])) ?_ ?_
  ·intro acc h0 h1
   refine xz _ _ _ _ (ay dI (EY _ _ _ _ _ _ ?_));rw[kH] at h1;simp[fH] at h1;simp[fH,h1]
  ·intro i a hi ha hd ht hn acc h0 h1
   refine xz _ _ _ _ (ah nF ?_);rw[hd] at h0 h1;simp only[e7] at h0;simp only[mm,wO,lH,fy,dP,aL,ha,bg,g9,ie,dJ,jY,mU,fJ,j6,iu,j7,j8,mV,fc,natAdd,cm,cW,jG,fK,pM];simp (disch:=omega) only[cY,aV,vF]
   by_cases hk:a.k=0
   ·rw[aZ hk]
    exact hn _ az (by rw[←h1];simp[fH,hk])
   ·rw[aR hk]
    exact hn (acc++[a]) (by simp only[cW,jG];omega) (by rw[←h1];simp[fH,hk])
 exact key [] dI rfl
theorem zk (n:List (List Key)) (hb:n.length≤1073741824) (hl:tot bF n≤1073741824):ax C bQ [eF n] (cG (aq n)) []:=by
 refine(B1 _ _ ?_).run
 have key: ∀(acc:List Key),acc.length+tot bF (n.drop 0)≤tot bF n→(n.drop 0).foldl bG acc=lO n→an C bQ ai 4 0 (gT (n.map bL) ((0:Nat):Int) (acc.map bE)) (fun u st=>aP C bQ ai u st fun r fs=>r=(cG (aq n))∧fs=[]):=by
  refine cE n (fun i=> ∀(acc:List Key),acc.length+tot bF (n.drop i)≤tot bF n→(n.drop i).foldl bG acc=lO n→an C bQ ai 4 0 (gT (n.map bL) i (acc.map bE)) (fun u st=>aP C bQ ai u st fun r fs=>r=(cG (aq n))∧fs=[])) ?_ ?_
  ·intro acc h0 h1
   refine qQ _ _ _ _ (ay dI (zN _ _ _ _ _ _ ?_));rw[kH] at h0 h1;simp only[List.foldl_nil] at h1;refine⟨_,xp acc az,?_⟩;rw[h1];exact jU
  ·intro i a hi ha hd ht hn acc h0 h1
   refine qQ _ _ _ _ (ah nF ?_);rw[hd] at h0 h1;simp only[tot,bF] at h0;simp only[ry,AK acc a az,aL,ha,bg,g9,ie,dJ,jY,mU,fJ,j6,iu,j7,j8,mV,fc,natAdd,cm,cW,jG,fK,pM];rw[aV az];have h2:=m9 a acc;exact hn _ az (by rw[←h1];rfl)
 exact key [] dI rfl
theorem fz (n:List (List Key)) (hb:n.length≤1073741824) (hl:tot bF n≤1073741824) (q:RR):ax C bQ [.ag [.sub 1 (n.map bL)]] (.c (.sub 5 q)) []↔q=(aq n).map bE:=LL (zk n hb hl)
theorem mw (t:Tree) (hl:dy t≤1073741824):ax C cj [cS t] (cG (av t)) []:=by
 refine(Cj _ _ _ ?_).run
 have key: ∀(acc:List Key),acc.length+tot aE (t.nodes.drop 0)≤tot aE t.nodes→acc++(t.nodes.drop 0).flatMap aq=av t→an C cj ai 4 0 (gV (t.nodes.map bk) ((0:Nat):Int) (acc.map bE)) (fun u st=>aP C cj ai u st fun r fs=>r=(cG (av t))∧fs=[]):=by
  refine cE t.nodes (fun i=> ∀(acc:List Key),acc.length+tot aE (t.nodes.drop i)≤tot aE t.nodes→acc++(t.nodes.drop i).flatMap aq=av t→an C cj ai 4 0 (gV (t.nodes.map bk) i (acc.map bE)) (fun u st=>aP C cj ai u st fun r fs=>r=(cG (av t))∧fs=[])) ?_ ?_
  ·intro acc h0 h1
   refine qV _ _ _ _ (ay dI (zS _ _ _ _ _ _ ?_));rw[kH] at h1;simp at h1;simp[h1]
  ·intro i a hi ha hd ht hn acc h0 h1
   refine qV _ _ _ _ (ah (by have:=hi;unfold dy qj at hl;simp;omega) ?_);have hz:a.length+tot bF a≤tot aE t.nodes:=fI (w:=aE) ha;rw[hd] at h0 h1;simp only[tot,aE] at h0;unfold dy qj at hl;have h2:=bV a;simp only[KT,qh,fz a az az,gD,aL,ha,bg,g9,ie,dJ,jY,mU,fJ,j6,iu,j7,j8,mV,fc,natAdd,cm,cW,jG,fK,pM];rw[cY az,aV az];refine ah rfl ?_;rw[←vg];exact hn _ nF (by rw[←h1];simp)
 exact key [] dI rfl
theorem AL (l:List Key) (hl:l.length≤1073741824):ax C ey [cG l] (vB (gv l.length (fX l bZ))) []:=by
 refine(Eg _ _ ?_).run
 have key: ∀(k i:Nat),i+k=l.length→1≤i→(List.range' i k).all (fX l bZ)=gv l.length (fX l bZ)→an C ey aI 4 0 (ki (l.map bE) i) (fun u st=>aP C ey aI u st fun r fs=>r=vB (gv l.length (fX l bZ))∧fs=[]):=by
  intro k
  induction k with
  |zero=>
   intro i h h1 h0;refine m0 _ _ _ (ay nF (sy _ _ _ _ ?_));simp only[List.range'_zero,tQ] at h0;rw[←h0];exact jU
  |succ k ih=>
   intro i h h1 h0;obtain⟨j,rfl⟩: ∃j,i=j+1:=⟨i-1,by omega⟩;have hj:l[j]?=some l[j]:=aX az;have Qu:l[j+1]?=some l[j+1]:=aX az
   have e:fX l bZ (j+1)=bZ l[j] l[j+1]:=by simp only[fX,hj,Qu]
   rw[List.range'_succ,oJ,e] at h0;refine m0 _ _ _ (ah nF ?_);rw[gj az,show((j+1:Nat):Int)-1=(j:Int) by omega];simp only[mm,aL,hj,Qu,bg,g9,vQ,ie,fJ,dJ];rw[aV az]
   cases hb:bZ l[j] l[j+1] with
   |true=>
    rw[hb,fK] at h0;exact ah rfl (ih (j+1+1) az az h0)
   |false=>
    rw[hb,Bool.false_and] at h0;refine ay rfl (A7 _ ?_);rw[←h0];exact jU
 cases hz:l.length with
 |zero=>
  have:l=[]:=w5 hz;subst this;exact m0 _ _ _ (ay dI (sy _ _ _ _ jU))
 |succ n=>
  rw[hz] at key;exact key n 1 az az (by unfold gv;rw[List.range'_succ,oJ];rfl)
theorem DV (l:List Key) (hl:l.length≤1073741824):ax C de [cG l] (vB ((l.all cv&&(gv l.length (fX l bZ)&&decide (l.length≤60))))) []:=by
 refine(GX _ _ ?_).run
 have key:((l.drop 0).all cv&&(gv l.length (fX l bZ)&&decide (l.length≤60)))=(l.all cv&&(gv l.length (fX l bZ)&&decide (l.length≤60)))→an C de aI 4 0 (iw (l.map bE) ((0:Nat):Int)) (fun u st=>aP C de aI u st fun r fs=>r=vB ((l.all cv&&(gv l.length (fX l bZ)&&decide (l.length≤60))))∧fs=[]):=by
  refine cE l (fun i=>((l.drop i).all cv&&(gv l.length (fX l bZ)&&decide (l.length≤60)))=(l.all cv&&(gv l.length (fX l bZ)&&decide (l.length≤60)))→an C de aI 4 0 (iw (l.map bE) i) (fun u st=>aP C de aI u st fun r fs=>r=vB ((l.all cv&&(gv l.length (fX l bZ)&&decide (l.length≤60))))∧fs=[])) ?_ ?_
  ·intro h0
   refine wj _ _ _ (ay dI (D1 _ _ _ _ ?_));rw[kH] at h0;simp only[tQ,fK] at h0;rw[←h0];refine⟨_,AL l hl,?_⟩;simp only[kD,cm,pO]
   cases gv l.length (fX l bZ)<;>simp
   omega
  ·intro i a hi ha hd Hi hn h0
   have gO:cv a=false→(l.all cv&&(gv l.length (fX l bZ)&&decide (l.length≤60)))=false:=fun e=>by rw[←h0,hd];simp[e]
   have gN:cv a=true→an C de aI 4 0 (iw (l.map bE) ((i:Int)+1)) (fun u st=>aP C de aI u st fun r fs=>r=vB ((l.all cv&&(gv l.length (fX l bZ)&&decide (l.length≤60))))∧fs=[]):=fun e=>hn (by rw[←h0,hd];simp[e]);refine wj _ _ _ (ah nF ?_);simp only[mm,zi,aL,ha,bg,g9,ie,dJ,jY,mU,fJ,j6,iu,j7,j8,mV,fc,natAdd,cm,cW,jG,fK,pM];rw[aV az]
   cases h1:cv a<;>simp only[vF,DB]<;>first|exact gN RN|exact D0 _ (by rw[gO RN];exact jU)
 exact key rfl
theorem BJ (l:List Key) (hl:l.length≤1073741824):ax C de [cG l] (vB (ua l)) []:=by
 have:=DV l hl;rw[y6];exact this
theorem GS (l:List Key) (hl:l.length≤1073741824) (q:Bool):ax C de [cG l] (vB q) []↔q=ua l:=AG (BJ l hl)
theorem BK (l:List Key) (hl:l.length≤1073741824):ax C c8 [cG l] (vB ((gv l.length (hJ l)&&decide (l.length≤60)))) []:=by
 refine(GW _ _ ?_).run
 have key:((List.range' 0 (l.length-0)).all (hJ l)&&decide (l.length≤60))=(gv l.length (hJ l)&&decide (l.length≤60))→an C c8 aI 4 0 (ga (l.map bE) ((0:Nat):Int)) (fun u st=>aP C c8 aI u st fun r fs=>r=vB ((gv l.length (hJ l)&&decide (l.length≤60)))∧fs=[]):=by
  refine DG (l.length) (fun i=>((List.range' i (l.length-i)).all (hJ l)&&decide (l.length≤60))=(gv l.length (hJ l)&&decide (l.length≤60))→an C c8 aI 4 0 (ga (l.map bE) i) (fun u st=>aP C c8 aI u st fun r fs=>r=vB ((gv l.length (hJ l)&&decide (l.length≤60)))∧fs=[])) ?_ ?_
  ·intro h0
   refine wg _ _ _ (ay dI (DZ _ _ _ _ _ ?_));rw[pT] at h0;simp only[List.range'_zero,tQ,fK] at h0;rw[←h0];simp[kD];omega
  ·intro i hi hn h0
   rw[xS hi,oJ] at h0
   have gO:(hJ l) i=false→(gv l.length (hJ l)&&decide (l.length≤60))=false:=fun e=>by rw[←h0,e];rfl
   have gN:(hJ l) i=true→an C c8 aI 4 0 (ga (l.map bE) ((i:Int)+1)) (fun u st=>aP C c8 aI u st fun r fs=>r=vB ((gv l.length (hJ l)&&decide (l.length≤60)))∧fs=[]):=fun e=>hn (by rw[←h0,e];rfl);refine wg _ _ _ (ah nF ?_);have ha:l[i]?=some l[i]:=aX hi;simp only[mm,zh,o7,aL,ha,bg,g9,ie,dJ,jY,mU,fJ,j6,iu,j7,j8,mV,fc,natAdd,cm,cW,jG,fK,pM];rw[aV az]
   cases i with
   |zero=>
    have e:hJ l 0=cv l[0]:=by simp[hJ,RX,fX,hi]
    simp only[e] at gO gN
    cases h1:cv l[0]<;>simp only[h1,vF,DB,kC,dP,Int.natCast_zero,Int.lt_irrefl,if_false]<;>first|exact gN h1|exact wh _ _ _ _ _ _ (by rw[gO h1];exact jU)
   |succ k=>
    have hk:l[k]?=some l[k]:=aX az
    have e:hJ l (k+1)=(cv l[k+1]&&bZ l[k] l[k+1]):=by simp only[hJ,RX,fX,hk,ha]
    simp only[e] at gO gN;rw[gj az,show((k+1:Nat):Int)-1=(k:Int) by omega];simp only[aL,hk,bg,g9,fJ,kC,dP];rw[aZ az]
    cases h1:cv l[k+1]<;>cases h2:bZ l[k] l[k+1]<;>simp only[vF,DB]<;>first|exact gN (by rw[h1,h2];rfl)|exact wh _ _ _ _ _ _ (by rw[gO (by rw[h1,h2];rfl)];exact jU)
 exact key rfl
theorem GU (l:List Key) (hl:l.length≤1073741824) (q:Bool):ax C c8 [cG l] (vB q) []↔q=ua l:=AG (BK l hl)
theorem AM (n:List (List Key)) (hb:n.length≤1073741824) (hl:tot bF n≤1073741824):ax C dY [eF n] (vI (bP n)) []:=by
 refine(D4 _ _ ?_).run
 have key: ∀(c:Nat),c+tot bF (n.drop 0)=bP n→an C dY ai 4 0 (iy c ((0:Nat):Int) (n.map bL)) (fun u st=>aP C dY ai u st fun r fs=>r=(vI (bP n))∧fs=[]):=by
  refine cE n (fun i=> ∀(c:Nat),c+tot bF (n.drop i)=bP n→an C dY ai 4 0 (iy c i (n.map bL)) (fun u st=>aP C dY ai u st fun r fs=>r=(vI (bP n))∧fs=[])) ?_ ?_
  ·intro c h0
   refine sw _ _ _ _ (ay dI (AZ _ _ _ _ _ ?_));rw[kH] at h0;simp only[tot,mF] at h0;rw[h0];exact jU
  ·intro i a hi ha hd ht hn c h0
   refine sw _ _ _ _ (ah nF ?_);rw[hd] at h0;have e5:tot bF (a::n.drop (i+1))=a.length+tot bF (n.drop (i+1)):=rfl;rw[e5] at h0;unfold bP at h0;simp only[ry,aL,ha,bg,g9,ie,dJ,jY,mU,fJ,j6,iu,j7,j8,mV,fc,natAdd,cm,cW,jG,fK,pM];rw[aV (by simp only[pO];omega),aV az];exact hn (c+a.length) (by unfold bP;omega)
 exact key 0 (by simp[bP])
theorem AN (n:List (List Key)) (hs:tot bF n≤1073741824) (hl:n.length≤1073741824):ax C bn [eF n] (vB ((n.all bY&&(decide (n.length≤3)&&decide (bP n≤8))))) []:=by
 refine(EW _ _ ?_).run
 have key:((n.drop 0).all bY&&(decide (n.length≤3)&&decide (bP n≤8)))=(n.all bY&&(decide (n.length≤3)&&decide (bP n≤8)))→an C bn aI 4 0 (gE ((0:Nat):Int) (n.map bL)) (fun u st=>aP C bn aI u st fun r fs=>r=vB ((n.all bY&&(decide (n.length≤3)&&decide (bP n≤8))))∧fs=[]):=by
  refine cE n (fun i=>((n.drop i).all bY&&(decide (n.length≤3)&&decide (bP n≤8)))=(n.all bY&&(decide (n.length≤3)&&decide (bP n≤8)))→an C bn aI 4 0 (gE i (n.map bL)) (fun u st=>aP C bn aI u st fun r fs=>r=vB ((n.all bY&&(decide (n.length≤3)&&decide (bP n≤8))))∧fs=[])) ?_ ?_
  ·intro h0
   refine uT _ _ _ (ay dI (Ci _ _ _ _ ?_));rw[kH] at h0;simp only[tQ,fK] at h0;rw[←h0];simp only[kD,cm,pO,dP]
   by_cases h3:n.length≤3
   ·rw[aZ az]
    refine⟨_,AM n hl hs,?_⟩;simp[h3];omega
   ·rw[aR az]
    simp[h3]
  ·intro i a hi ha hd Hi hn h0
   have gO:bY a=false→(n.all bY&&(decide (n.length≤3)&&decide (bP n≤8)))=false:=fun e=>by rw[←h0,hd];simp[e]
   have gN:bY a=true→an C bn aI 4 0 (gE ((i:Int)+1) (n.map bL)) (fun u st=>aP C bn aI u st fun r fs=>r=vB ((n.all bY&&(decide (n.length≤3)&&decide (bP n≤8))))∧fs=[]):=fun e=>hn (by rw[←h0,hd];simp[e]);refine uT _ _ _ (ah nF ?_);have hz:a.length≤tot bF n:=fI (w:=bF) ha;have hh: ∀q,ax C de [cG a] (vB q) []↔q=ua a:=fun q=>GS a az q;simp only[ry,hh,fy,pO,dP,aL,ha,bg,g9,ie,dJ,jY,mU,fJ,j6,iu,j7,j8,mV,fc,natAdd,cm,cW,jG,fK,pM]
   rw[aV az]
   cases h1:ua a<;>by_cases h2:a.length=0<;>simp only[vF,DB]<;>first|(rw[aZ az];exact uU _ _ (by rw[gO (by simp[bY,h1,h2])];exact jU))|(rw[aR az];exact gN (by simp[bY,h1,h2]))|exact uU _ _ (by rw[gO (by simp[bY,h1,h2])];exact jU)
 exact key rfl
theorem nJ (n:List (List Key)) (hb:n.length≤1073741824) (hl:tot bF n≤1073741824):ax C bn [eF n] (vB (cV n)) []:=by
 have:=AN n hl hb;rw[FL];exact this
theorem AO (n:List (List Key)) (hb:n.length≤1073741824) (hl:tot bF n≤1073741824):ax C bf [eF n] (vB (n.all bY&&(decide (n.length≤3)&&decide (bP n≤8)))) []:=by
 refine(E1 _ _ ?_).run
 have key: ∀(c:Nat),c+tot bF (n.drop 0)=bP n→((n.drop 0).all bY&&(decide (n.length≤3)&&decide (bP n≤8)))=(n.all bY&&(decide (n.length≤3)&&decide (bP n≤8)))→an C bf ai 4 0 (ja c (n.map bL) ((0:Nat):Int)) (fun u st=>aP C bf ai u st fun r fs=>r=(vB (n.all bY&&(decide (n.length≤3)&&decide (bP n≤8))))∧fs=[]):=by
  refine cE n (fun i=> ∀(c:Nat),c+tot bF (n.drop i)=bP n→((n.drop i).all bY&&(decide (n.length≤3)&&decide (bP n≤8)))=(n.all bY&&(decide (n.length≤3)&&decide (bP n≤8)))→an C bf ai 4 0 (ja c (n.map bL) i) (fun u st=>aP C bf ai u st fun r fs=>r=(vB (n.all bY&&(decide (n.length≤3)&&decide (bP n≤8))))∧fs=[])) ?_ ?_
  ·intro c h0 h1
   refine uX _ _ _ _ (ay dI (Cr _ _ _ _ _ _ ?_));rw[kH] at h0 h1;simp only[tot,mF] at h0;simp only[tQ,fK] at h1;rw[←h1];simp only[kD,cm,pO,dP]
   by_cases h3:n.length≤3
   ·rw[aZ az]
    simp[h3];omega
   ·rw[aR az]
    simp[h3]
  ·intro i a hi ha hd ht hn c h0 h1
   refine uX _ _ _ _ (ah nF ?_);have hz:a.length≤tot bF n:=fI (w:=bF) ha;have hh: ∀q,ax C c8 [cG a] (vB q) []↔q=ua a:=fun q=>GU a az q;rw[hd] at h0 h1;have e5:tot bF (a::n.drop (i+1))=a.length+tot bF (n.drop (i+1)):=rfl;rw[e5] at h0;unfold bP at h0;have hO:bY a=false→aP C bf ai TX.ret (lB (n.map bL)) (fun r fs=>r=vB (n.all bY&&(decide (n.length≤3)&&decide (bP n≤8)))∧fs=[]):=fun e=>Cq _ _ (by rw[←h1];simp only[oJ,e];exact jU)
   simp only[ry,hh,fy,pO,dP,aL,ha,bg,g9,ie,dJ,jY,mU,fJ,j6,iu,j7,j8,mV,fc,natAdd,cm,cW,jG,fK,pM];rw[aV az,aV az]
   cases h2:ua a<;>by_cases h3:a.length=0<;>simp only[vF,DB]
   ·exact hO (by simp[bY,h2])
   ·exact hO (by simp[bY,h2])
   ·rw[aZ az];exact hO (by simp[bY,h3])
   ·rw[aR az]
    exact hn (c+a.length) (by unfold bP;omega) (by rw[←h1];simp[bY,h2,h3])
 exact key 0 (by simp[bP]) rfl
theorem nK (n:List (List Key)) (hb:n.length≤1073741824) (hl:tot bF n≤1073741824):ax C bf [eF n] (vB (cV n)) []:=by
 have:=AO n hb hl;rw[FL];exact this
theorem EG (n:List (List Key)) (hb:n.length≤1073741824) (hl:tot bF n≤1073741824) (q:Bool):ax C bf [.ag [.sub 1 (n.map bL)]] (vB q) []↔q=cV n:=AG (nK n hb hl)
@[simp] theorem xq (b a q:Int):ax C qn [vI b,vI a] (vI q) []↔q=bJ b a:=Re ((EP _ _ _ jU).run)
@[simp] theorem xu (b a k c g q:Int):ax C iL [.ag [iI b,iI a,iI k,iI c,iI g]] (vI q) []↔q=bJ b a:=Re (by
  refine(EU _ _ _ _ _ _ ?_).run;simp only[xq,ie]
  simp)
@[simp] theorem rB (b a q:Int):ax C nD [vI b,vI a] (vI q) []↔q=bJ b a:=Re ((E2 _ _ _ jU).run)
theorem AP (t:Tree) (i:Nat) (n:List (List Key)) (hi:i<t.ak.length) (hl:dy t≤1073741824) (hn:n.length≤1073741824) (hz:tot bF n≤1073741824):an C aU aW 4 0 (eH i ((0:Nat):Int) (t.ak.map bW) (t.nodes.map bk) (n.map bL)) (fun u st=>aP C aU aW u st fun r fs=>r=vB (n.all (bH t.ak i))∧fs=[]):=by
 have WY:t.ak.length≤1073741824:=by unfold dy at hl;omega
 have hlo:t.ak[i]?=some t.ak[i]:=aX hi
 have key:(n.drop 0).all (bH t.ak i)=n.all (bH t.ak i)→an C aU aW 4 0 (eH i ((0:Nat):Int) (t.ak.map bW) (t.nodes.map bk) (n.map bL)) (fun u st=>aP C aU aW u st fun r fs=>r=vB (n.all (bH t.ak i))∧fs=[]):=by
  refine cE n (fun k=>(n.drop k).all (bH t.ak i)=n.all (bH t.ak i)→an C aU aW 4 0 (eH i k (t.ak.map bW) (t.nodes.map bk) (n.map bL)) (fun u st=>aP C aU aW u st fun r fs=>r=vB (n.all (bH t.ak i))∧fs=[])) ?_ ?_
  ·intro h0
   refine uR _ _ _ _ _ _ (ay dI (Cc _ _ _ _ _ _ _ ?_));rw[kH] at h0;simp only[tQ] at h0;rw[←h0];exact jU
  ·intro k s hk hs hd Hi hnext h0
   have PL:s.length≤tot bF n:=fI (w:=bF) hs;rw[hd,oJ] at h0;refine uR _ _ _ _ _ _ (ah nF ?_)
   have keyI:(s.drop 0).all (dS t.ak i)=s.all (dS t.ak i)→an C aU g6 3 2 (fE i k ((0:Nat):Int) (t.ak.map bW) (t.nodes.map bk) (n.map bL)) (fun u st=>wV C aU aW 4 0 yf u st (fun u st=>aP C aU aW u st fun r fs=>r=vB (n.all (bH t.ak i))∧fs=[])):=by
    refine cE s (fun j=>(s.drop j).all (dS t.ak i)=s.all (dS t.ak i)→an C aU g6 3 2 (fE i k j (t.ak.map bW) (t.nodes.map bk) (n.map bL)) (fun u st=>wV C aU aW 4 0 yf u st (fun u st=>aP C aU aW u st fun r fs=>r=vB (n.all (bH t.ak i))∧fs=[]))) ?_ ?_
    ·intro h1
     rw[kH] at h1;simp only[tQ] at h1;refine uS _ _ _ _ _ _ _ (⟨_,oE hs,ay dI (Ce _ _ _ _ _ _ _ _ ?_)⟩);rw[aV az];exact hnext (by rw[←h0];unfold bH;rw[←h1];simp)
    ·intro j x hj hx L7 WZ hn2 h1
     rw[L7,oJ] at h1
     have gO:dS t.ak i x=false→wV C aU aW 4 0 yf TX.ret (lz (t.ak.map bW) (t.nodes.map bk) (n.map bL)) (fun u st=>aP C aU aW u st fun r fs=>r=vB (n.all (bH t.ak i))∧fs=[]):=fun e=>Cd _ _ _ _ (Cg _ _ _ _ (by
      have e2:bH t.ak i s=false:=by unfold bH;rw[←h1,e];rfl
      rw[←h0,e2];exact jU))
     have gN:dS t.ak i x=true→an C aU g6 3 2 (fE i k ((j:Int)+1) (t.ak.map bW) (t.nodes.map bk) (n.map bL)) (fun u st=>wV C aU aW 4 0 yf u st (fun u st=>aP C aU aW u st fun r fs=>r=vB (n.all (bH t.ak i))∧fs=[])):=fun e=>hn2 (by rw[←h1,e];rfl)
     have e:dS t.ak i x=(!decide (bJ x.b x.a<t.ak[i])&&(match t.ak[i+1]? with|some hi=>decide (bJ x.b x.a<hi)|none=>true)):=by simp only[dS,xT,hlo];rfl
     rw[e] at gO gN;refine uS _ _ _ _ _ _ _ (⟨_,oE hs,ah nF ⟨_,oE hs,?_⟩⟩);rw[aV (a:=(i:Int)) az,aV (a:=(j:Int)) az];simp only[mm,tf,aL,hx,hlo,bg,g9,xu,ie,kC,kD,dP,cm,pO]
     by_cases h2:bJ x.b x.a<t.ak[i]
     ·rw[aZ h2]
      exact gO (by rw[yu h2];rfl)
     ·rw[aR h2]
      by_cases h3:i+1<t.ak.length
      ·have hhi:t.ak[i+1]?=some t.ak[i+1]:=aX h3
       rw[aZ az,show((i:Int)+1)=((i+1:Nat):Int) by omega,aL,hhi];simp only[bg,g9];rw[hhi] at gO gN
       by_cases h4:bJ x.b x.a<t.ak[i+1]
       ·rw[aR az]
        exact gN (by rw[pU h2];simp[h4])
       ·rw[aZ az]
        exact gO (by simp[h4])
      ·rw[aR az]
       have hno:t.ak[i+1]?=none:=Ka az;rw[hno] at gN;exact gN (by rw[pU h2];rfl)
   exact keyI rfl
 exact key rfl
theorem ye (t:Tree) (i:Nat) (n:List (List Key)) (hi:i<t.ak.length) (hl:dy t≤1073741824) (hn:n.length≤1073741824) (hz:tot bF n≤1073741824):an C aN aI 4 0 (fu i (n.map bL) (n.length:Int) ((0:Nat):Int) (t.ak.map bW) (t.nodes.map bk)) (fun u st=>aP C aN aI u st fun r fs=>r=vB (n.all (bH t.ak i))∧fs=[]):=by
 have WY:t.ak.length≤1073741824:=by unfold dy at hl;omega
 have hlo:t.ak[i]?=some t.ak[i]:=aX hi
 have key:(n.drop 0).all (bH t.ak i)=n.all (bH t.ak i)→an C aN aI 4 0 (fu i (n.map bL) (n.length:Int) ((0:Nat):Int) (t.ak.map bW) (t.nodes.map bk)) (fun u st=>aP C aN aI u st fun r fs=>r=vB (n.all (bH t.ak i))∧fs=[]):=by
  refine cE n (fun k=>(n.drop k).all (bH t.ak i)=n.all (bH t.ak i)→an C aN aI 4 0 (fu i (n.map bL) (n.length:Int) k (t.ak.map bW) (t.nodes.map bk)) (fun u st=>aP C aN aI u st fun r fs=>r=vB (n.all (bH t.ak i))∧fs=[])) ?_ ?_
  ·intro h0
   refine qO _ _ _ _ _ _ _ (ay dI (zJ _ _ _ _ _ _ _ _ ?_));rw[kH] at h0;simp only[tQ] at h0;rw[←h0];exact jU
  ·intro k s hk hs hd Hi hnext h0
   have PL:s.length≤tot bF n:=fI (w:=bF) hs;rw[hd,oJ] at h0;refine qO _ _ _ _ _ _ _ (ah nF ⟨_,oE hs,?_⟩)
   have keyI:(s.drop 0).all (dS t.ak i)=s.all (dS t.ak i)→an C aN gZ 3 2 (ez i (n.map bL) (n.length:Int) k (s.map bE) ((0:Nat):Int) (t.ak.map bW) (t.nodes.map bk)) (fun u st=>wV C aN aI 4 0 o9 u st (fun u st=>aP C aN aI u st fun r fs=>r=vB (n.all (bH t.ak i))∧fs=[])):=by
    refine cE s (fun j=>(s.drop j).all (dS t.ak i)=s.all (dS t.ak i)→an C aN gZ 3 2 (ez i (n.map bL) (n.length:Int) k (s.map bE) j (t.ak.map bW) (t.nodes.map bk)) (fun u st=>wV C aN aI 4 0 o9 u st (fun u st=>aP C aN aI u st fun r fs=>r=vB (n.all (bH t.ak i))∧fs=[]))) ?_ ?_
    ·intro h1
     rw[kH] at h1;simp only[tQ] at h1;refine qP _ _ _ _ _ _ _ _ _ (ay dI (zL _ _ _ _ _ _ _ _ _ _ _ ?_));rw[aV az];exact hnext (by rw[←h0];unfold bH;rw[←h1];simp)
    ·intro j x hj hx L7 WZ hn2 h1
     rw[L7,oJ] at h1
     have gO:dS t.ak i x=false→wV C aN aI 4 0 o9 TX.ret (jz (t.ak.map bW) (t.nodes.map bk) x.b x.a x.k x.c x.g) (fun u st=>aP C aN aI u st fun r fs=>r=vB (n.all (bH t.ak i))∧fs=[]):=fun e=>zK _ _ _ _ _ _ _ _ (zM _ _ _ _ _ _ _ _ (by
      have e2:bH t.ak i s=false:=by unfold bH;rw[←h1,e];rfl
      rw[←h0,e2];exact jU))
     have gN:dS t.ak i x=true→an C aN gZ 3 2 (ez i (n.map bL) (n.length:Int) k (s.map bE) ((j:Int)+1) (t.ak.map bW) (t.nodes.map bk)) (fun u st=>wV C aN aI 4 0 o9 u st (fun u st=>aP C aN aI u st fun r fs=>r=vB (n.all (bH t.ak i))∧fs=[])):=fun e=>hn2 (by rw[←h1,e];rfl)
     have e:dS t.ak i x=(!decide (bJ x.b x.a<t.ak[i])&&(match t.ak[i+1]? with|some hi=>decide (bJ x.b x.a<hi)|none=>true)):=by simp only[dS,xT,hlo];rfl
     rw[e] at gO gN;refine qP _ _ _ _ _ _ _ _ _ (ah nF ?_);rw[aV (a:=(i:Int)) az,aV (a:=(j:Int)) az];simp only[mm,tf,aL,hx,hlo,bg,g9,rB,ie,kC,kD,dP,cm,pO]
     by_cases h2:bJ x.b x.a<t.ak[i]
     ·rw[aZ h2]
      exact gO (by rw[yu h2];rfl)
     ·rw[aR h2]
      by_cases h3:i+1<t.ak.length
      ·have hhi:t.ak[i+1]?=some t.ak[i+1]:=aX h3
       rw[aZ az,show((i:Int)+1)=((i+1:Nat):Int) by omega,aL,hhi];simp only[bg,g9];rw[hhi] at gO gN
       by_cases h4:bJ x.b x.a<t.ak[i+1]
       ·rw[aR az]
        exact gN (by rw[pU h2];simp[h4])
       ·rw[aZ az]
        exact gO (by simp[h4])
      ·rw[aR az]
       have hno:t.ak[i+1]?=none:=Ka az;rw[hno] at gN;exact gN (by rw[pU h2];rfl)
   exact keyI rfl
 exact key rfl
theorem BL (t:Tree) (i:Nat) (n:List (List Key)) (ha:t.nodes[i]?=some n) (hlo:i<t.ak.length) (hl:dy t≤1073741824):ax C aU [cS t,vI i] (vB (cV n&&((decide (i=0)|| !decide ((aq n).length=0))&&n.all (bH t.ak i)))) []:=by
 have hz:aE n≤tot aE t.nodes:=fI (w:=aE) ha;have e1:aE n=n.length+tot bF n:=rfl;have e2:dy t=t.ak.length+(t.nodes.length+tot aE t.nodes):=rfl;have hnk:=bV n;refine(EV _ _ _ _ ⟨_,oE (e:=bk) ha,_,nJ n az az,?_⟩).run
 cases h1:cV n with
 |false=>exact ah rfl jU
 |true=>
  refine ay rfl ?_;have To:=AP t i n hlo hl az az
  have conv: ∀B:Bool,B=n.all (bH t.ak i)→an C aU aW 4 0 (eH i 0 (t.ak.map bW) (t.nodes.map bk) (n.map bL)) (fun u st=>aP C aU aW u st fun r fs=>r=vB B∧fs=[]):=fun B hB=>by subst hB;exact To
  cases i with
  |zero=>exact ay dI (conv _ dI)
  |succ k=>
   refine ah (by first|(simp;done)|(simp;omega)) ⟨_,qo n az az,?_⟩
   by_cases h2:(aq n).length=0
   ·refine ah (by simp[h2]) ?_
    simp[h2]
   ·exact ay (by simpa using h2) (conv _ (by simp[h2]))
theorem ue (t:Tree) (hl:dy t≤1073741824):ax C aF [cS t] (vB (cw t)) []:=by
 have e2:dy t=t.ak.length+(t.nodes.length+tot aE t.nodes):=rfl;refine(EI _ _ _ ?_).run;simp only[NT,ie,cm,pO,fy,dJ];unfold cw
 cases h1:y5 (t.nodes.length:Int) 1 20 with
 |false=>exact ay rfl jU
 |true=>
  refine ah rfl ?_
  have W0:1≤t.nodes.length:=by have:=tV h1;omega
  by_cases h2:t.ak.length=t.nodes.length
  ·refine ah (by simp[h2]) ?_
   have h0:t.ak[0]?=some t.ak[0]:=aX az
   have J6:j5 t.ak 0=some t.ak[0]:=by rw[show(0:Int)=((0:Nat):Int) from rfl,aL];exact h0
   simp only[tf,J6,h0,bg,g9,dP]
   by_cases h3:t.ak[0]=0
   ·rw[aZ (by simpa using h3)]
    have hw:(true&&(decide (t.ak.length=t.nodes.length)&&((decide (t.ak[0]=0))&&(gv t.nodes.length (bM t)&&decide ((av t).length≤60)))))=(gv t.nodes.length (bM t)&&decide ((av t).length≤60)):=by simp[h2,h3]
    rw[hw]
    have key:((List.range' 0 (t.nodes.length-0)).all (bM t)&&decide ((av t).length≤60))=(gv t.nodes.length (bM t)&&decide ((av t).length≤60))→an C aF ai 4 0 (fA ((0:Nat):Int) (t.ak.map bW) (t.nodes.map bk)) (fun u st=>aP C aF ai u st fun r fs=>r=vB (gv t.nodes.length (bM t)&&decide ((av t).length≤60))∧fs=[]):=by
     refine DG t.nodes.length (fun i=>((List.range' i (t.nodes.length-i)).all (bM t)&&decide ((av t).length≤60))=(gv t.nodes.length (bM t)&&decide ((av t).length≤60))→an C aF ai 4 0 (fA i (t.ak.map bW) (t.nodes.map bk)) _) ?_ ?_
     ·intro h0
      rw[pT] at h0;simp only[List.range'_zero,tQ,fK] at h0;refine uH _ _ _ _ (ay dI (BT _ _ _ _ _ ⟨_,zj t hl,?_⟩));rw[←h0];simp[kD];omega
     ·intro i hi hn h0
      rw[xS hi,oJ] at h0;have ha:t.nodes[i]?=some t.nodes[i]:=aX hi;have Tp:t.ak[i]?=some t.ak[i]:=aX az;have gO:bM t i=false→aP C aF ai TX.ret (iX (t.ak.map bW) (t.nodes.map bk)) (fun r fs=>r=vB (gv t.nodes.length (bM t)&&decide ((av t).length≤60))∧fs=[]):=fun e=>BS _ _ _ (by rw[←h0,e];exact jU);have gN:bM t i=true→an C aF ai 4 0 (fA ((i:Int)+1) (t.ak.map bW) (t.nodes.map bk)) (fun u st=>aP C aF ai u st fun r fs=>r=vB (gv t.nodes.length (bM t)&&decide ((av t).length≤60))∧fs=[]):=fun e=>hn (by rw[←h0,e];rfl)
      have hh: ∀q,ax C aU [cS t,vI i] (vB q) []↔q=_:=fun q=>AG (BL t i t.nodes[i] ha az hl);refine uH _ _ _ _ (ah nF ?_);rw[aV az];simp only[hh,ie,kC,kD,dP,dJ]
      cases i with
      |zero=>
       have e:bM t 0=(cV t.nodes[0]&&((decide (0=0)|| !decide ((aq t.nodes[0]).length=0))&&t.nodes[0].all (bH t.ak 0))):=by simp only[bM,fX,ha,fK]
       rw[e] at gO gN;rw[aR az];exact DC gN gO
      |succ k=>
       have hk:t.ak[k]?=some t.ak[k]:=aX az
       have e:bM t (k+1)=(decide (t.ak[k]<t.ak[k+1])&&(cV t.nodes[k+1]&&((decide (k+1=0)|| !decide ((aq t.nodes[k+1]).length=0))&&t.nodes[k+1].all (bH t.ak (k+1))))):=by simp only[bM,fX,ha,hk,Tp]
       rw[e] at gO gN;rw[aZ az,gj az,show((k+1:Nat):Int)-1=(k:Int) by omega];simp only[tf,aL,hk,Tp,bg,g9]
       by_cases h4:t.ak[k]<t.ak[k+1]
       ·rw[aR az]
        rw[yu h4,fK] at gO gN;exact DC gN gO
       ·rw[aZ az]
        exact gO (by rw[pU h4];rfl)
    exact key rfl
   ·rw[aR (by simpa using h3)]
    simp[h3]
  ·refine ay nF ?_
   simp[h2]
theorem zl (t:Tree) (i:Nat) (n:List (List Key)) (ha:t.nodes[i]?=some n) (hlo:i<t.ak.length) (hl:dy t≤1073741824):ax C aN [cS t,vI i] (vB (n.all (bH t.ak i))) []:=by
 have hz:aE n≤tot aE t.nodes:=fI (w:=aE) ha;have e1:aE n=n.length+tot bF n:=rfl;have e2:dy t=t.ak.length+(t.nodes.length+tot aE t.nodes):=rfl;refine(BZ _ _ _ _ ⟨_,oE (e:=bk) ha,?_⟩).run;simp only[cm,pO];exact ye t i n hlo hl az az
theorem k9 (t:Tree) (hl:dy t≤1073741824):ax C bw [cS t] (vB (cw t)) []:=by
 have e2:dy t=t.ak.length+(t.nodes.length+tot aE t.nodes):=rfl;refine(EO _ _ _ ?_).run;simp only[IL,ie,cm,pO,fy,dJ];unfold cw
 cases h1:y5 (t.nodes.length:Int) 1 20 with
 |false=>exact ay rfl jU
 |true=>
  refine ah rfl ?_
  have W0:1≤t.nodes.length:=by have:=tV h1;omega
  by_cases h2:t.ak.length=t.nodes.length
  ·refine ah (by simp[h2]) ?_
   have h0:t.ak[0]?=some t.ak[0]:=aX az
   have J6:j5 t.ak 0=some t.ak[0]:=by rw[show(0:Int)=((0:Nat):Int) from rfl,aL];exact h0
   simp only[tf,J6,h0,bg,g9,dP]
   by_cases h3:t.ak[0]=0
   ·rw[aZ (by simpa using h3)]
    have hw:(true&&(decide (t.ak.length=t.nodes.length)&&((decide (t.ak[0]=0))&&(gv t.nodes.length (bM t)&&decide ((av t).length≤60)))))=(gv t.nodes.length (bM t)&&decide ((av t).length≤60)):=by simp[h2,h3]
    rw[hw]
    have key: ∀c:Nat,c+((t.nodes.drop 0).flatMap aq).length=(av t).length→((List.range' 0 (t.nodes.length-0)).all (bM t)&&decide ((av t).length≤60))=(gv t.nodes.length (bM t)&&decide ((av t).length≤60))→an C bw aW 4 0 (dZ c (t.nodes.map bk) ((0:Nat):Int) (t.ak.map bW)) (fun u st=>aP C bw aW u st fun r fs=>r=vB (gv t.nodes.length (bM t)&&decide ((av t).length≤60))∧fs=[]):=by
     refine DG t.nodes.length (fun i=> ∀c:Nat,c+((t.nodes.drop i).flatMap aq).length=(av t).length→((List.range' i (t.nodes.length-i)).all (bM t)&&decide ((av t).length≤60))=(gv t.nodes.length (bM t)&&decide ((av t).length≤60))→an C bw aW 4 0 (dZ c (t.nodes.map bk) i (t.ak.map bW)) _) ?_ ?_
     ·intro c hc h0
      rw[pT] at h0;simp only[List.range'_zero,tQ,fK] at h0;rw[kH] at hc;simp at hc;refine uO _ _ _ _ _ (ay dI (Ca _ _ _ _ _ _ _ ?_));rw[←h0];simp[kD];omega
     ·intro i hi hn c hc h0
      rw[xS hi,oJ] at h0;have ha:t.nodes[i]?=some t.nodes[i]:=aX hi;have Tp:t.ak[i]?=some t.ak[i]:=aX az;rw[ve hi,List.flatMap_cons,cW] at hc;have hz:aE t.nodes[i]≤tot aE t.nodes:=fI (w:=aE) ha;have e1:aE t.nodes[i]=t.nodes[i].length+tot bF t.nodes[i]:=rfl;have hnk:=bV t.nodes[i];have Hi:=tg t;have gO1:bM t i=false→aP C bw aW TX.ret (fC (t.ak.map bW) (t.nodes.map bk) (t.nodes[i].map bL)) (fun r fs=>r=vB (gv t.nodes.length (bM t)&&decide ((av t).length≤60))∧fs=[]):=fun e=>B8 _ _ _ _ (by rw[←h0,e];exact jU)
      have gO2:bM t i=false→aP C bw aW TX.ret (lu (t.ak.map bW) (t.nodes.map bk) (t.nodes[i].map bL) ((aq t.nodes[i]).map bE)) (fun r fs=>r=vB (gv t.nodes.length (bM t)&&decide ((av t).length≤60))∧fs=[]):=fun e=>B9 _ _ _ _ _ (by rw[←h0,e];exact jU);have gN:bM t i=true→an C bw aW 4 0 (dZ ((c:Int)+((aq t.nodes[i]).length:Int)) (t.nodes.map bk) ((i:Int)+1) (t.ak.map bW)) (fun u st=>aP C bw aW u st fun r fs=>r=vB (gv t.nodes.length (bM t)&&decide ((av t).length≤60))∧fs=[]):=fun e=>hn (c+(aq t.nodes[i]).length) az (by rw[←h0,e];rfl)
      have hb: ∀q,ax C aN [cS t,vI i] (vB q) []↔q=_:=fun q=>AG (zl t i t.nodes[i] ha az hl);have hk: ∀q,ax C bQ [eF t.nodes[i]] (.c (.sub 5 q)) []↔q=(aq t.nodes[i]).map bE:=fun q=>fz t.nodes[i] az az q;have ho: ∀q,ax C bf [eF t.nodes[i]] (vB q) []↔q=cV t.nodes[i]:=fun q=>EG t.nodes[i] az az q;refine uO _ _ _ _ _ (ah nF ?_);simp only[qh,aL,ha,bg,g9,hb,hk,ho,ie,kC,kD,fy,dP,dJ,cm,pO];rw[aV (a:=(c:Int)) az,aV (a:=(i:Int)) az]
      cases i with
      |zero=>
       have e:bM t 0=(cV t.nodes[0]&&((decide (0=0)|| !decide ((aq t.nodes[0]).length=0))&&t.nodes[0].all (bH t.ak 0))):=by simp only[bM,fX,ha,fK]
       rw[e] at gO1 gN
       have ym: ¬((0:Int)<((0:Nat):Int)):=by omega
       simp only[aR ym]
       cases h4:cV t.nodes[0] with
       |false=>exact ay rfl (gO1 (by rw[h4];rfl))
       |true=>
        refine ah rfl ?_
        cases h5:t.nodes[0].all (bH t.ak 0) with
        |false=>exact ay rfl (gO1 (by rw[h4,h5];simp))
        |true=>exact ah rfl (gN (by rw[h4,h5];simp))
      |succ k=>
       have yp:t.ak[k]?=some t.ak[k]:=aX az
       have e:bM t (k+1)=(decide (t.ak[k]<t.ak[k+1])&&(cV t.nodes[k+1]&&((decide (k+1=0)|| !decide ((aq t.nodes[k+1]).length=0))&&t.nodes[k+1].all (bH t.ak (k+1))))):=by simp only[bM,fX,ha,yp,Tp]
       rw[e] at gO1 gO2 gN
       have ym:(0:Int)<((k+1:Nat):Int):=by omega
       simp only[aZ ym];rw[gj az,show((k+1:Nat):Int)-1=(k:Int) by omega];simp only[tf,aL,yp,Tp,bg,g9]
       by_cases h6:t.ak[k]<t.ak[k+1]
       ·rw[aR az]
        cases h4:cV t.nodes[k+1] with
        |false=>exact ay rfl (gO1 (by rw[h4];simp))
        |true=>
         refine ah rfl ?_
         cases h5:t.nodes[k+1].all (bH t.ak (k+1)) with
         |false=>exact ay rfl (gO1 (by rw[h4,h5];simp))
         |true=>
          refine ah rfl ?_
          by_cases h7:(aq t.nodes[k+1]).length=0
          ·rw[aZ az];exact gO2 (by rw[h4,h5];simp[h7])
          ·rw[aR az];exact gN (by rw[h4,h5,yu h6];simp[h7])
       ·rw[aZ az]
        exact gO1 (by rw[pU h6];rfl)
    exact key 0 (by simp[av]) rfl
   ·rw[aR (by simpa using h3)]
    simp[h3]
  ·refine ay nF ?_
   simp[h2]
theorem qp (l:List Int) (hl:l.length≤1073741824):ax C ng [DF l] (DF l) []:=by
 refine(Cp _ _ ?_).run;rw[show cN (l.map bW)=true from gC _,cY nF];exact jU
theorem DW (l:List Key) (b a:Int) (hl:l.length≤1073741824):ax C ew [cG l,vI b,vI a] (Ny (th l b a)) []:=by
 refine(GZ _ _ _ _ ?_).run
 have key:setAt (l.drop 0) b a=setAt l b a→an C ew aI 4 0 (iz (l.map bE) b a ((0:Nat):Int)) (fun u st=>aP C ew aI u st fun r fs=>r=(Ny (th l b a))∧fs=[]):=by
  refine cE l (fun i=>setAt (l.drop i) b a=setAt l b a→an C ew aI 4 0 (iz (l.map bE) b a i) (fun u st=>aP C ew aI u st fun r fs=>r=(Ny (th l b a))∧fs=[])) ?_ ?_
  ·intro h0
   rw[kH] at h0;refine wk _ _ _ _ _ (ay dI (D8 _ _ _ _ _ _ ⟨?_,by trivial⟩));unfold th;rw[←h0];rfl
  ·intro i x hi hx hd Hi hn h0
   rw[hd] at h0;simp only[setAt,List.find?_cons] at h0;refine wk _ _ _ _ _ (ah nF ?_);simp only[mm,aL,hx,bg,g9,fy,dP];rw[aV az]
   by_cases h1:x.b=b
   ·rw[aZ h1]
    by_cases h2:x.a=a
    ·rw[aZ h2]
     rw[yu ⟨h1,h2⟩] at h0;refine D7 _ _ _ _ _ _ ⟨?_,by trivial⟩;unfold th setAt;rw[←h0]
    ·rw[aR h2]
     rw[pU (fun h=>h2 h.2)] at h0;exact hn h0
   ·rw[aR h1]
    rw[pU (fun h=>h1 h.1)] at h0;exact hn h0
 exact key rfl
theorem AQ (t:Tree) (b a:Int) (hl:t.ak.length≤1073741824):ax C dj [cS t,vI b,vI a] (vI (eo t b a)) []:=by
 refine(D6 _ _ _ _ _ ?_).run;unfold eo
 have key:an C dj ai 4 0 (fR b a (jt (fun x=>decide (x≤bJ b a)) t.ak 0) ((0:Nat):Int) (t.ak.map bW) (t.nodes.map bk)) (fun u st=>aP C dj ai u st fun r fs=>r=(vI (jt (fun x=>decide (x≤bJ b a)) t.ak t.ak.length))∧fs=[]):=by
  refine cE t.ak (fun i=>an C dj ai 4 0 (fR b a (jt (fun x=>decide (x≤bJ b a)) t.ak i) i (t.ak.map bW) (t.nodes.map bk)) (fun u st=>aP C dj ai u st fun r fs=>r=(vI (jt (fun x=>decide (x≤bJ b a)) t.ak t.ak.length))∧fs=[])) ?_ ?_
  ·exact sx _ _ _ _ _ _ _ (ay dI (A4 _ _ _ _ _ _ _ _ jU))
  ·intro i x hi hx hd Hi hn
   simp only[jt,hx] at hn;refine sx _ _ _ _ _ _ _ (ah nF ?_);simp only[tf,aL,hx,bg,g9,xq,ie,kD,dP];rw[aV az]
   by_cases h1:x≤bJ b a
   ·rw[aZ h1]
    rw[aZ (yu h1)] at hn;exact hn
   ·rw[aR h1]
    rw[aR (by simpa using h1)] at hn;exact hn
 exact key
theorem vR (l:List Key) (b a:Int) (hl:l.length≤1073741824):ax C dO [cG l,vI b,vI a] (Ny (th l b a)) []:=by
 refine(G2 _ _ _ _ ?_).run
 have key:setAt (l.drop 0) b a=setAt l b a→an C dO aI 4 0 (iA b a (l.map bE) ((0:Nat):Int)) (fun u st=>aP C dO aI u st fun r fs=>r=(Ny (th l b a))∧fs=[]):=by
  refine cE l (fun i=>setAt (l.drop i) b a=setAt l b a→an C dO aI 4 0 (iA b a (l.map bE) i) (fun u st=>aP C dO aI u st fun r fs=>r=(Ny (th l b a))∧fs=[])) ?_ ?_
  ·intro h0
   rw[kH] at h0;refine wq _ _ _ _ _ (ay dI (Ee _ _ _ _ _ _ _ ⟨?_,by trivial⟩));unfold th;rw[←h0];rfl
  ·intro i x hi hx hd Hi hn h0
   rw[hd] at h0;simp only[setAt,List.find?_cons] at h0;refine wq _ _ _ _ _ (ah nF ?_);simp only[mm,aL,hx,bg,g9,fy,dP];rw[aV az]
   by_cases h1:x.b=b
   ·rw[aZ h1]
    by_cases h2:x.a=a
    ·rw[aZ h2]
     rw[yu ⟨h1,h2⟩] at h0;refine Ed _ _ _ _ _ _ ⟨?_,by trivial⟩;unfold th setAt;rw[←h0]
    ·rw[aR h2]
     rw[pU (fun h=>h2 h.2)] at h0;exact hn h0
   ·rw[aR h1]
    rw[pU (fun h=>h1 h.1)] at h0;exact hn h0
 exact key rfl
theorem BM (n:List (List Key)) (b a:Int) (hl:n.length≤1073741824) (hs: ∀s∈n,s.length≤1073741824):ax C eG [eF n,vI b,vI a] (Ny (kP n b a n.length)) []:=by
 refine(EN _ _ _ _ ?_).run
 have key: ∀k:Nat,k≤n.length→kP n b a k=kP n b a n.length→an C eG aI 4 0 (lq b a ((k:Int)-1) (n.map bL)) (fun u st=>aP C eG aI u st fun r fs=>r=(Ny (kP n b a n.length))∧fs=[]):=by
  intro k
  induction k with
  |zero=>
   intro _ hk;refine uN _ _ _ _ _ (ay dI (B6 _ _ _ _ _ _ ⟨?_,by trivial⟩));rw[←hk];rfl
  |succ k ih=>
   intro hle hk;have hx:n[k]?=some n[k]:=aX az;rw[show((k+1:Nat):Int)-1=(k:Int) by omega];have VM:=hs n[k] (oK az);generalize n[k]=s at hx VM;simp only[kP,hx] at hk;refine uN _ _ _ _ _ (ah dI ?_);simp only[ry,aL,hx,bg,g9];rw[gj az];refine⟨_,_,_,_,_,_,vR s b a VM,?_⟩
   cases h2:(th s b a).2 with
   |false=>
    rw[h2] at hk;exact ah rfl (ih az (by simpa using hk))
   |true=>
    rw[h2] at hk;simp only[if_true] at hk;refine ay rfl ?_
    by_cases h3:(th s b a).1.k=0
    ·refine ah (by simp[h3]) (B4 _ _ _ _ _ _ _ _ ⟨?_,by trivial⟩)
     rw[aZ h3] at hk;rw[←hk];rfl
    ·refine ay (by simp[h3]) (B5 _ _ _ _ _ _ _ ⟨?_,by trivial⟩)
     rw[aR h3] at hk;rw[←hk,←h2]
 rw[cm,show dX (Int.ofNat n.length) 1=(n.length:Int)-1 from gj nF];exact key n.length (cq _) rfl
theorem r8 (t:Tree) (b a:Int) (hl:t.ak.length≤1073741824):ax C dK [cS t,vI b,vI a] (vI (eo t b a)) []:=by
 refine(D3 _ _ _ _ _ ?_).run
 have key: ∀k:Nat,k≤t.ak.length→jt (fun x=>decide (x≤bJ b a)) t.ak k=eo t b a→an C dK aI 4 0 (kg b a ((k:Int)-1) (t.ak.map bW) (t.nodes.map bk)) (fun u st=>aP C dK aI u st fun r fs=>r=(vI (eo t b a))∧fs=[]):=by
  intro k
  induction k with
  |zero=>
   intro _ hk;refine sv _ _ _ _ _ _ (ay dI (AY _ _ _ _ _ _ _ ⟨?_,by trivial⟩));rw[←hk];rfl
  |succ k ih=>
   intro hle hk;have hx:t.ak[k]?=some t.ak[k]:=aX az;rw[show((k+1:Nat):Int)-1=(k:Int) by omega];generalize t.ak[k]=x at hx;simp only[jt,hx] at hk;refine sv _ _ _ _ _ _ (ah dI ?_);simp only[tf,aL,hx,bg,g9,rB,ie,kD,dP];rw[gj az]
   by_cases h1:x≤bJ b a
   ·rw[aZ h1]
    rw[aZ (yu h1)] at hk;exact AX _ _ _ _ ⟨by rw[←hk],by trivial⟩
   ·rw[aR h1]
    rw[aR (by simpa using h1)] at hk;exact ih az hk
 rw[cm,show dX (Int.ofNat t.ak.length) 1=(t.ak.length:Int)-1 from gj nF];exact key t.ak.length (cq _) rfl
theorem nL (t:Tree) (b a:Int) (hl:dy t≤1073741824):ax C ff [cS t,vI b,vI a] (Ny (mW t b a)) []:=by
 have e2:dy t=t.ak.length+(t.nodes.length+tot aE t.nodes):=rfl;refine(EX _ _ _ _ _ ⟨_,r8 t b a az,_,DS _ _ _,?_⟩).run;unfold mW;rw[cm,show dX (Int.ofNat t.nodes.length) 1=(t.nodes.length:Int)-1 from gj nF]
 by_cases h1:0≤eo t b a∧eo t b a<t.nodes.length
 ·obtain⟨n,hn⟩:=AB h1.1 h1.2
  have hz:aE n≤tot aE t.nodes:=qi (w:=aE) (Is hn);have e1:aE n=n.length+tot bF n:=rfl;refine ay (by simp[y5];omega) ?_;simp only[qh,hn,bg,g9];refine⟨_,_,_,_,_,_,BM n b a az (fun s hs=> ?_),jU⟩;have h3:bF s≤tot bF n:=qi (w:=bF) hs;have h4:bF s=s.length:=rfl;omega
 ·rw[LK h1]
  exact ah (by simp[y5];omega) jU
theorem mz (n:List (List Key)) (hl:n.length≤1073741824) (hs: ∀s∈n,s.length≤1073741824):ax C aJ [eF n] (eF n) []:=by
 refine(Cb _ _ ?_).run
 skip
 have key:((0:Nat)=0→an C aJ ai 4 0 (jC (n.map bL)) (fun u st=>aP C aJ ai u st fun r fs=>r=(eF n)∧fs=[]))∧(0<(0:Nat)→an C aJ ai 4 0 (gU (n.map bL) ((0:Nat):Int) ((n.take 0).map bL)) (fun u st=>aP C aJ ai u st fun r fs=>r=(eF n)∧fs=[])):=by
  refine cE n (fun i=>(i=0→an C aJ ai 4 0 (jC (n.map bL)) (fun u st=>aP C aJ ai u st fun r fs=>r=(eF n)∧fs=[]))∧(0<i→an C aJ ai 4 0 (gU (n.map bL) i ((n.take i).map bL)) (fun u st=>aP C aJ ai u st fun r fs=>r=(eF n)∧fs=[]))) ?_ ?_
  ·refine⟨fun h=> ?_,fun h=> ?_⟩
   ·have hnil:n=[]:=List.length_eq_zero_iff.1 h
    refine qT _ _ (ay (by simp[h]) (zQ _ _ _ _ ⟨?_,by trivial⟩));simp[hnil]
   ·rw[pQ]
    exact qU _ _ _ _ (ay dI (zR _ _ _ _ _ _ jU))
  ·intro i a hi ha hd Hi hn
   have hmem:=ee ha;refine⟨fun h=> ?_,fun h=> ?_⟩
   ·subst h
    have hz:j5 n 0=some a:=(aL n 0).trans ha;have hn2:=hn.2 az;rw[Hi] at hn2;refine qT _ _ (ah nF ?_);simp only[ry,hz,bg,g9];refine⟨_,ju a (by have:=hs a hmem;omega),ah (cY (by simp;try omega)) ?_⟩;rw[aV az];exact hn2
   ·have hn2:=hn.2 az
    rw[Hi] at hn2;refine qU _ _ _ _ (ah nF ?_);simp only[ry,aL,ha,bg,g9];refine⟨_,ju a (by have:=hs a hmem;omega),ah (cY (by simp;try omega)) ?_⟩;rw[aV az];rw[vg] at hn2;exact hn2
 exact key.1 rfl
theorem nM (n:List (List Key)) (hl:n.length≤1073741824) (hs: ∀s∈n,s.length≤1073741824):ax C aY [eF n] (eF n) []:=by
 refine(EK _ _ ?_).run
 skip
 have key:((0:Nat)=0→an C aY ai 4 0 (ld (n.map bL)) (fun u st=>aP C aY ai u st fun r fs=>r=(eF n)∧fs=[]))∧(0<(0:Nat)→an C aY ai 4 0 (iY ((0:Nat):Int) (n.map bL) ((n.take 0).map bL)) (fun u st=>aP C aY ai u st fun r fs=>r=(eF n)∧fs=[])):=by
  refine cE n (fun i=>(i=0→an C aY ai 4 0 (ld (n.map bL)) (fun u st=>aP C aY ai u st fun r fs=>r=(eF n)∧fs=[]))∧(0<i→an C aY ai 4 0 (iY i (n.map bL) ((n.take i).map bL)) (fun u st=>aP C aY ai u st fun r fs=>r=(eF n)∧fs=[]))) ?_ ?_
  ·refine⟨fun h=> ?_,fun h=> ?_⟩
   ·have hnil:n=[]:=List.length_eq_zero_iff.1 h
    refine uJ _ _ (ay (by simp[h]) (BW _ _ _ ⟨?_,by trivial⟩));simp[hnil]
   ·rw[pQ]
    exact uK _ _ _ _ (ay dI (BX _ _ _ _ _ jU))
  ·intro i a hi ha hd Hi hn
   have hmem:=ee ha;refine⟨fun h=> ?_,fun h=> ?_⟩
   ·subst h
    have hz:j5 n 0=some a:=(aL n 0).trans ha;have hn2:=hn.2 az;rw[Hi] at hn2;refine uJ _ _ (ah nF ?_);simp only[ry,hz,bg,g9];have hsa:=hs a hmem;refine ah (by rw[show cN (a.map bE)=true from gD _,cY nF];rfl) (ah (cY (by simp;try omega)) ?_);rw[aV az];exact hn2
   ·have hn2:=hn.2 az
    rw[Hi] at hn2;refine uK _ _ _ _ (ah nF ?_);simp only[ry,aL,ha,bg,g9];have hsa:=hs a hmem;refine ah (by rw[show cN (a.map bE)=true from gD _,cY nF];rfl) (ah (cY (by simp;try omega)) ?_);rw[aV az];rw[vg] at hn2;exact hn2
 exact key.1 rfl
theorem zm (t:Tree) (hl:t.ak.length≤1073741824∧t.nodes.length≤1073741824) (hs: ∀n∈t.nodes,n.length≤1073741824∧ ∀s∈n,s.length≤1073741824):ax C bh [cS t] (cS t) []:=by
 refine(BY _ _ _ ?_).run;refine⟨_,qp t.ak hl.1,?_⟩
 have key:((0:Nat)=0→an C bh ai 4 0 (jy (t.nodes.map bk) (t.ak.map bW)) (fun u st=>aP C bh ai u st fun r fs=>r=(cS t)∧fs=[]))∧(0<(0:Nat)→an C bh ai 4 0 (gR (t.nodes.map bk) ((0:Nat):Int) (t.ak.map bW) ((t.nodes.take 0).map bk)) (fun u st=>aP C bh ai u st fun r fs=>r=(cS t)∧fs=[])):=by
  refine cE t.nodes (fun i=>(i=0→an C bh ai 4 0 (jy (t.nodes.map bk) (t.ak.map bW)) (fun u st=>aP C bh ai u st fun r fs=>r=(cS t)∧fs=[]))∧(0<i→an C bh ai 4 0 (gR (t.nodes.map bk) i (t.ak.map bW) ((t.nodes.take i).map bk)) (fun u st=>aP C bh ai u st fun r fs=>r=(cS t)∧fs=[]))) ?_ ?_
  ·refine⟨fun h=> ?_,fun h=> ?_⟩
   ·have hnil:t.nodes=[]:=List.length_eq_zero_iff.1 h
    refine qM _ _ _ (ay (by simp[h]) (zG _ _ _ _ _ ⟨?_,by trivial⟩));simp[hnil]
   ·rw[pQ]
    exact qN _ _ _ _ _ (ay dI (zI _ _ _ _ _ _ _ jU))
  ·intro i a hi ha hd Hi hn
   have hmem:=ee ha;refine⟨fun h=> ?_,fun h=> ?_⟩
   ·subst h
    have hz:j5 t.nodes 0=some a:=(aL t.nodes 0).trans ha;have hn2:=hn.2 az;rw[Hi] at hn2;refine qM _ _ _ (ah nF ?_);simp only[qh,hz,bg,g9];refine⟨_,mz a (hs a hmem).1 (hs a hmem).2,ah (cY (by simp;try omega)) ?_⟩;rw[aV az];exact hn2
   ·have hn2:=hn.2 az
    rw[Hi] at hn2;refine qN _ _ _ _ _ (ah nF ?_);simp only[qh,aL,ha,bg,g9];refine⟨_,mz a (hs a hmem).1 (hs a hmem).2,ah (cY (by simp;try omega)) ?_⟩;rw[aV az];rw[vg] at hn2;exact hn2
 exact key.1 rfl
theorem BN (t:Tree) (hl:t.ak.length≤1073741824∧t.nodes.length≤1073741824) (hs: ∀n∈t.nodes,n.length≤1073741824∧ ∀s∈n,s.length≤1073741824):ax C cC [cS t] (cS t) []:=by
 refine(EZ _ _ _ ?_).run;refine ah (by rw[show cN (t.ak.map bW)=true from gC _,cY nF];rfl) ?_
 have key:((0:Nat)=0→an C cC ai 4 0 (lA (t.ak.map bW) (t.nodes.map bk)) (fun u st=>aP C cC ai u st fun r fs=>r=(cS t)∧fs=[]))∧(0<(0:Nat)→an C cC ai 4 0 (iZ ((0:Nat):Int) (t.ak.map bW) (t.nodes.map bk) ((t.nodes.take 0).map bk)) (fun u st=>aP C cC ai u st fun r fs=>r=(cS t)∧fs=[])):=by
  refine cE t.nodes (fun i=>(i=0→an C cC ai 4 0 (lA (t.ak.map bW) (t.nodes.map bk)) (fun u st=>aP C cC ai u st fun r fs=>r=(cS t)∧fs=[]))∧(0<i→an C cC ai 4 0 (iZ i (t.ak.map bW) (t.nodes.map bk) ((t.nodes.take i).map bk)) (fun u st=>aP C cC ai u st fun r fs=>r=(cS t)∧fs=[]))) ?_ ?_
  ·refine⟨fun h=> ?_,fun h=> ?_⟩
   ·have hnil:t.nodes=[]:=List.length_eq_zero_iff.1 h
    refine uV _ _ _ (ay (by simp[h]) (Cm _ _ _ _ ⟨?_,by trivial⟩));simp[hnil]
   ·rw[pQ]
    exact uW _ _ _ _ _ (ay dI (Cn _ _ _ _ _ _ jU))
  ·intro i a hi ha hd Hi hn
   have hmem:=ee ha;refine⟨fun h=> ?_,fun h=> ?_⟩
   ·subst h
    have hz:j5 t.nodes 0=some a:=(aL t.nodes 0).trans ha;have hn2:=hn.2 az;rw[Hi] at hn2;refine uV _ _ _ (ah nF ?_);simp only[qh,hz,bg,g9];refine⟨_,nM a (hs a hmem).1 (hs a hmem).2,ah (cY (by simp;try omega)) ?_⟩;rw[aV az];exact hn2
   ·have hn2:=hn.2 az
    rw[Hi] at hn2;refine uW _ _ _ _ _ (ah nF ?_);simp only[qh,aL,ha,bg,g9];refine⟨_,nM a (hs a hmem).1 (hs a hmem).2,ah (cY (by simp;try omega)) ?_⟩;rw[aV az];rw[vg] at hn2;exact hn2
 exact key.1 rfl
theorem Bx {t:Tree} (h:dy t≤4194304):(t.ak.length≤1073741824∧t.nodes.length≤1073741824)∧ ∀n∈t.nodes,n.length≤1073741824∧ ∀s∈n,s.length≤1073741824:=by
 have e2:dy t=t.ak.length+(t.nodes.length+tot aE t.nodes):=rfl;refine⟨⟨by omega,by omega⟩,fun n hn=> ?_⟩;have h1:aE n≤tot aE t.nodes:=qi (w:=aE) hn;have h2:aE n=n.length+tot bF n:=rfl;refine⟨by omega,fun s hs=> ?_⟩;have h3:bF s≤tot bF n:=qi (w:=bF) hs;have h4:bF s=s.length:=rfl;omega
theorem fq (l:List Key) (hl:l.length≤1073741824):ax C aC [cG l] (eF (bD l)) []:=by
 refine(D5 _ _ ?_).run;unfold bD
 by_cases h:l.length=0
 ·exact ah (by simp[h]) ⟨by rw[aZ h];rfl,rfl⟩
 ·refine ay (by rw[cm,pO,fy];exact pU az) ?_
  rw[show cN (l.map bE)=true from gD _,cY nF];exact⟨by rw[aR h];rfl,rfl⟩
theorem jv (l:List Key) (hl:l.length≤1073741824):ax C cc [cG l] (eF (bD l)) []:=by
 refine(D2 _ _ ?_).run;unfold bD
 by_cases h:l.length=0
 ·exact ah (by simp[h]) ⟨by rw[aZ h];rfl,rfl⟩
 ·refine ay (by rw[cm,pO,fy];exact pU az) ?_
  exact⟨_,ju l az,⟨by rw[aR h];rfl,rfl⟩⟩
theorem qq (n:List (List Key)) (k:Key) (hb:n.length≤1073740000) (hl:tot bF n≤1073740000):ax C dD [eF n,td k] (cG (bB n k)) []:=by
 have h1:=bV n;have h2:=gY (aq n) k;exact(Cs _ _ _ _ _ _ _ ⟨_,(fz n az az _).2 rfl,_,kZ (aq n) k az,_,xp (bU (aq n) k) az,jU⟩).run
theorem AR (n:List (List Key)) (k:Key) (hb:n.length≤1073740000) (hl:tot bF n≤1073740000):ax C tI [eF n,td k] (LM (bA n k)) []:=by
 have hs: ∀s∈n,s.length≤1073741824:=fun s hm=>by have:=qi (w:=bF) hm;unfold bF at this hl;omega
 have I1:=mz n az hs;have Vf:=xV n k;have Vg:=xW n k
 have tail: ∀(X:List (List Key)) (Q:QV),X=eu n k→Q (LM (bA n k)) []→ ∃(b18:Bool),ax C bf ([TV.ag [TC.sub 1 (X.map bL)]]) (TV.c (iB b18)) []∧(aD b18 (Q (TV.tu [(1,[TC.sub 1 (X.map bL)]),(0,[iB true])]) ([])) (∃(l19:RR),ax C dD ([TV.ag [TC.sub 1 (n.map bL)],td k]) (TV.c (TC.sub 5 l19)) []∧(∃(l20:RR),ax C cc ([TV.c (TC.sub 5 l19)]) (TV.ag [TC.sub 1 l20]) []∧(aD (dm 8 (Int.ofNat (List.length l19))) (∃(l21:RR),ax C aJ ([TV.ag [TC.sub 1 (n.map bL)]]) (TV.ag [TC.sub 1 l21]) []∧(Q (TV.tu [(1,[TC.sub 1 l21]),(0,[iB false])]) ([]))) (∃(b22:Bool),ax C bf ([TV.ag [TC.sub 1 l20]]) (TV.c (iB b22)) []∧(aD (!b22) (∃(l23:RR),ax C aJ ([TV.ag [TC.sub 1 (n.map bL)]]) (TV.ag [TC.sub 1 l23]) []∧(Q (TV.tu [(1,[TC.sub 1 l23]),(0,[iB false])]) ([]))) (Q (TV.tu [(1,[TC.sub 1 l20]),(0,[iB true])]) ([])))))))):=by
  intro X Q hX hQ;rw[←hX] at Vf Vg;have hok:ax C bf [eF X] (vB (cV X)) []:=nK X az az;have hkl:=iP n k;have hnl:=qk (bB n k);have hnt:=ql (bB n k);have RL:ax C bf [eF (bD (bB n k))] (vB (cV (bD (bB n k)))) []:=nK _ az az;refine⟨_,hok,?_⟩;unfold bA at hQ;rw[←hX] at hQ
  cases h1:cV X with
  |true=>
   rw[aZ h1] at hQ;exact ah rfl hQ
  |false=>
   rw[aR (by rw[h1];simp)] at hQ;refine ay rfl ⟨_,qq n k az az,_,jv (bB n k) az,?_⟩
   by_cases h2:8<(bB n k).length
   ·rw[aZ h2] at hQ
    exact ah jc ⟨_,I1,hQ⟩
   ·rw[aR h2] at hQ
    refine ay jc ⟨_,RL,?_⟩
    cases h3:cV (bD (bB n k)) with
    |true=>
     rw[aZ h3] at hQ;exact ay rfl hQ
    |false=>
     rw[aR (by rw[h3];simp)] at hQ;exact ah rfl ⟨_,I1,hQ⟩
 refine(Ea _ _ _ _ _ _ _ ⟨_,I1,?_⟩).run
 (try dsimp only)
 rw[cm]
 cases kW:n[n.length-1]? with
 |none=>
  have h0:n.length=0:=Classical.byContradiction fun h=>by rw[aX az] at kW;cases kW
  have hX:n++[[k]]=eu n k:=by unfold eu;rw[kW]
  refine ay (by rw[h0,gj dI];simp) ((ah (cY jc) ?_));rw[show List.append (n.map bL) [[TC.sub 5 [[iI k.b,iI k.a,iI k.k,iI k.c,iI k.g]]]]=(n++[[k]]).map bL from by simp[bL,bE]];exact tail _ (fun r fs=>r=LM (bA n k)∧fs=[]) hX jU
 |some s=>
  have hlt:=(List.getElem?_eq_some_iff.1 kW).1
  have hsub:dX (Int.ofNat n.length) 1=((n.length-1:Nat):Int):=by rw[gj jc];simp;omega
  have hrow:rowAt (n.map bL) ((n.length-1:Nat):Int)=some [TC.sub 5 (s.map bE)]:=by rw[bu,aL,kW];rfl
  have PL:=hs s (ee kW);have va:setRow (n.map bL) ((n.length-1:Nat):Int) 0 [TC.sub 5 ((bU s k).map bE)]=(n.set (n.length-1) (bU s k)).map bL:=DD (a:=s) (a':=bU s k) kW rfl
  have RM:List.append (n.map bL) [[TC.sub 5 [[iI k.b,iI k.a,iI k.k,iI k.c,iI k.g]]]]=(n++[[k]]).map bL:=by simp[bL,bE]
  have hfit:fits (Nat.succ n.length) 24=true:=cY jc;rw[hsub];refine ah dI ⟨_,hrow,?_⟩
  have key: ∀Q:QV,Q (LM (bA n k)) []→ ∃(n8:Int) (n9:Int) (n10:Int) (n11:Int) (n12:Int) (b13:Bool),ax C dO ([TV.c (TC.sub 5 (s.map bE)),TV.c (iI k.b),TV.c (iI k.a)]) (TV.tu [(1,[iI n8,iI n9,iI n10,iI n11,iI n12]),(0,[iB b13])]) []∧(aD b13 (∃(l14:RR),rowAt (n.map bL) ((n.length-1:Nat):Int)=some [TC.sub 5 l14]∧(∃(l15:RR),ax C bX ([TV.c (TC.sub 5 l14),td k]) (TV.c (TC.sub 5 l15)) []∧(∃(l16:RR),rowAt (n.map bL) ((n.length-1:Nat):Int)=some [TC.sub 5 l16]∧(∃(l17:RR),rowAt (n.map bL) ((n.length-1:Nat):Int)=some [TC.sub 5 l17]∧(∃(b18:Bool),ax C bf ([TV.ag [TC.sub 1 (setRow (n.map bL) ((n.length-1:Nat):Int) 0 [TC.sub 5 l15])]]) (TV.c (iB b18)) []∧(aD b18 (Q (TV.tu [(1,[TC.sub 1 (setRow (n.map bL) ((n.length-1:Nat):Int) 0 [TC.sub 5 l15])]),(0,[iB true])]) ([])) (∃(l19:RR),ax C dD ([TV.ag [TC.sub 1 (n.map bL)],td k]) (TV.c (TC.sub 5 l19)) []∧(∃(l20:RR),ax C cc ([TV.c (TC.sub 5 l19)]) (TV.ag [TC.sub 1 l20]) []∧(aD (dm 8 (Int.ofNat (List.length l19))) (∃(l21:RR),ax C aJ ([TV.ag [TC.sub 1 (n.map bL)]]) (TV.ag [TC.sub 1 l21]) []∧(Q (TV.tu [(1,[TC.sub 1 l21]),(0,[iB false])]) ([]))) (∃(b22:Bool),ax C bf ([TV.ag [TC.sub 1 l20]]) (TV.c (iB b22)) []∧(aD (!b22) (∃(l23:RR),ax C aJ ([TV.ag [TC.sub 1 (n.map bL)]]) (TV.ag [TC.sub 1 l23]) []∧(Q (TV.tu [(1,[TC.sub 1 l23]),(0,[iB false])]) ([]))) (Q (TV.tu [(1,[TC.sub 1 l20]),(0,[iB true])]) ([])))))))))))))
   (∃(l24:RR),rowAt (n.map bL) ((n.length-1:Nat):Int)=some [TC.sub 5 l24]∧(aD (dm (Int.ofNat (List.length l24)) 4) (∃(l25:RR),rowAt (n.map bL) ((n.length-1:Nat):Int)=some [TC.sub 5 l25]∧(∃(l26:RR),ax C bX ([TV.c (TC.sub 5 l25),td k]) (TV.c (TC.sub 5 l26)) []∧(∃(l27:RR),rowAt (n.map bL) ((n.length-1:Nat):Int)=some [TC.sub 5 l27]∧(∃(l28:RR),rowAt (n.map bL) ((n.length-1:Nat):Int)=some [TC.sub 5 l28]∧(∃(b18:Bool),ax C bf ([TV.ag [TC.sub 1 (setRow (n.map bL) ((n.length-1:Nat):Int) 0 [TC.sub 5 l26])]]) (TV.c (iB b18)) []∧(aD b18 (Q (TV.tu [(1,[TC.sub 1 (setRow (n.map bL) ((n.length-1:Nat):Int) 0 [TC.sub 5 l26])]),(0,[iB true])]) ([])) (∃(l19:RR),ax C dD ([TV.ag [TC.sub 1 (n.map bL)],td k]) (TV.c (TC.sub 5 l19)) []∧(∃(l20:RR),ax C cc ([TV.c (TC.sub 5 l19)]) (TV.ag [TC.sub 1 l20]) []∧(aD (dm 8 (Int.ofNat (List.length l19))) (∃(l21:RR),ax C aJ ([TV.ag [TC.sub 1 (n.map bL)]]) (TV.ag [TC.sub 1 l21]) []∧(Q (TV.tu [(1,[TC.sub 1 l21]),(0,[iB false])]) ([]))) (∃(b22:Bool),ax C bf ([TV.ag [TC.sub 1 l20]]) (TV.c (iB b22)) []∧(aD (!b22) (∃(l23:RR),ax C aJ ([TV.ag [TC.sub 1 (n.map bL)]]) (TV.ag [TC.sub 1 l23]) []∧(Q (TV.tu [(1,[TC.sub 1 l23]),(0,[iB false])]) ([]))) (Q (TV.tu [(1,[TC.sub 1 l20]),(0,[iB true])]) ([]))))))))))))) (aD (fits (Nat.succ (List.length n)) 24) (∃(b18:Bool),ax C bf ([TV.ag [TC.sub 1 (List.append (n.map bL) [[TC.sub 5 [[iI k.b,iI k.a,iI k.k,iI k.c,iI k.g]]]])]]) (TV.c (iB b18)) []∧(aD b18 (Q (TV.tu [(1,[TC.sub 1 (List.append (n.map bL) [[TC.sub 5 [[iI k.b,iI k.a,iI k.k,iI k.c,iI k.g]]]])]),(0,[iB true])]) ([])) (∃(l19:RR),ax C dD ([TV.ag [TC.sub 1 (n.map bL)],td k]) (TV.c (TC.sub 5 l19)) []∧(∃(l20:RR),ax C cc ([TV.c (TC.sub 5 l19)]) (TV.ag [TC.sub 1 l20]) []∧(aD (dm 8 (Int.ofNat (List.length l19))) (∃(l21:RR),ax C aJ ([TV.ag [TC.sub 1 (n.map bL)]]) (TV.ag [TC.sub 1 l21]) []∧(Q (TV.tu [(1,[TC.sub 1 l21]),(0,[iB false])]) ([]))) (∃(b22:Bool),ax C bf ([TV.ag [TC.sub 1 l20]]) (TV.c (iB b22)) []∧(aD (!b22) (∃(l23:RR),ax C aJ ([TV.ag [TC.sub 1 (n.map bL)]]) (TV.ag [TC.sub 1 l23]) []∧(Q (TV.tu [(1,[TC.sub 1 l23]),(0,[iB false])]) ([]))) (Q (TV.tu [(1,[TC.sub 1 l20]),(0,[iB true])]) ([]))))))))) (False))))):=by
   intro Q hQ;refine⟨_,_,_,_,_,_,vR s k.b k.a PL,?_⟩
   cases h1:(th s k.b k.a).2 with
   |true=>
    have hX:n.set (n.length-1) (bU s k)=eu n k:=by unfold eu xU;rw[kW];simp[h1]
    refine ah rfl ⟨_,hrow,_,kZ s k PL,_,hrow,_,hrow,?_⟩;rw[va];exact tail _ _ hX hQ
   |false=>
    refine ay rfl ⟨_,hrow,?_⟩
    by_cases h2:s.length<4
    ·have hX:n.set (n.length-1) (bU s k)=eu n k:=by unfold eu xU;rw[kW];simp[h1,h2]
     refine ah jc ⟨_,hrow,_,kZ s k PL,_,hrow,_,hrow,?_⟩;rw[va];exact tail _ _ hX hQ
    ·have hX:n++[[k]]=eu n k:=by unfold eu xU;rw[kW];simp[h1,h2]
     refine ay jc (ah hfit ?_);rw[RM];exact tail _ _ hX hQ
  exact⟨(LM (bA n k),[]),key (fun a b=>(a,b)=(LM (bA n k),([]:List TV))) rfl,key (fun a b=>(a,b)=(LM (bA n k),([]:List TV))) rfl,⟨rfl,rfl⟩⟩
theorem AS (n:List (List Key)) (k:Key) (hb:n.length≤1073740000) (hl:tot bF n≤1073740000):ax C tJ [eF n,td k] (LM (bA n k)) []:=by
 have hs: ∀s∈n,s.length≤1073741824:=fun s hm=>by have:=qi (w:=bF) hm;unfold bF at this hl;omega
 have I1:=nM n az hs;have Vf:=xV n k;have Vg:=xW n k
 have tail: ∀(X:List (List Key)) (Q:QV),X=eu n k→Q (LM (bA n k)) []→ ∃(b22:Bool),ax C bn ([TV.ag [TC.sub 1 (X.map bL)]]) (TV.c (iB b22)) []∧(aD b22 (Q (TV.tu [(1,[TC.sub 1 (X.map bL)]),(0,[iB true])]) ([])) (∃(l23:RR),ax C aG ([TV.ag [TC.sub 1 (n.map bL)]]) (TV.c (TC.sub 5 l23)) []∧(∃(l24:RR),ax C bq ([TV.c (TC.sub 5 l23),td k]) (TV.c (TC.sub 5 l24)) []∧(∃(l25:RR),ax C cn ([TV.c (TC.sub 5 l24)]) (TV.c (TC.sub 5 l25)) []∧(aD (dm 8 (Int.ofNat (List.length l25))) (∃(l26:RR),ax C aY ([TV.ag [TC.sub 1 (n.map bL)]]) (TV.ag [TC.sub 1 l26]) []∧(Q (TV.tu [(1,[TC.sub 1 l26]),(0,[iB false])]) ([]))) (∃(l27:RR),ax C aC ([TV.c (TC.sub 5 l25)]) (TV.ag [TC.sub 1 l27]) []∧(∃(b28:Bool),ax C bn ([TV.ag [TC.sub 1 l27]]) (TV.c (iB b28)) []∧(aD (!b28) (∃(l29:RR),ax C aY ([TV.ag [TC.sub 1 (n.map bL)]]) (TV.ag [TC.sub 1 l29]) []∧(Q (TV.tu [(1,[TC.sub 1 l29]),(0,[iB false])]) ([]))) (∃(l30:RR),ax C aC ([TV.c (TC.sub 5 l25)]) (TV.ag [TC.sub 1 l30]) []∧(Q (TV.tu [(1,[TC.sub 1 l30]),(0,[iB true])]) ([]))))))))))):=by
  intro X Q hX hQ;rw[←hX] at Vf Vg;have hok:ax C bn [eF X] (vB (cV X)) []:=nJ X az az;have hkl:=iP n k;have hnl:=qk (bB n k);have hnt:=ql (bB n k);have RL:ax C bn [eF (bD (bB n k))] (vB (cV (bD (bB n k)))) []:=nJ _ az az;refine⟨_,hok,?_⟩;unfold bA at hQ;rw[←hX] at hQ
  cases h1:cV X with
  |true=>
   rw[aZ h1] at hQ;exact ah rfl hQ
  |false=>
   rw[aR (by rw[h1];simp)] at hQ;have g1:=bV n;have g2:=gY (aq n) k;refine ay rfl ⟨_,(cZ n az az _).2 rfl,_,iV (aq n) k az,_,rA (bU (aq n) k) az,?_⟩;change aD (dm 8 (Int.ofNat (List.length ((bB n k).map bE)))) _ _
   by_cases h2:8<(bB n k).length
   ·rw[aZ h2] at hQ
    exact ah jc ⟨_,I1,hQ⟩
   ·rw[aR h2] at hQ
    refine ay jc ⟨_,fq (bB n k) az,_,RL,?_⟩
    cases h3:cV (bD (bB n k)) with
    |true=>
     rw[aZ h3] at hQ;exact ay rfl ⟨_,fq (bB n k) az,hQ⟩
    |false=>
     rw[aR (by rw[h3];simp)] at hQ;exact ah rfl ⟨_,I1,hQ⟩
 refine(DX _ _ _ _ _ _ _ ⟨_,I1,?_⟩).run
 (try dsimp only)
 rw[cm]
 cases kW:n[n.length-1]? with
 |none=>
  have h0:n.length=0:=Classical.byContradiction fun h=>by rw[aX az] at kW;cases kW
  have hX:n++[[k]]=eu n k:=by unfold eu;rw[kW]
  refine ay (by rw[h0,gj dI];simp) (ay (by rw[h0,gj dI];simp) (ah (cY jc) ?_));rw[show List.append (n.map bL) [[TC.sub 5 [[iI k.b,iI k.a,iI k.k,iI k.c,iI k.g]]]]=(n++[[k]]).map bL from by simp[bL,bE]];exact tail _ (fun r fs=>r=LM (bA n k)∧fs=[]) hX jU
 |some s=>
  have hlt:=(List.getElem?_eq_some_iff.1 kW).1
  have hsub:dX (Int.ofNat n.length) 1=((n.length-1:Nat):Int):=by rw[gj jc];simp;omega
  have hrow:rowAt (n.map bL) ((n.length-1:Nat):Int)=some [TC.sub 5 (s.map bE)]:=by rw[bu,aL,kW];rfl
  have PL:=hs s (ee kW);have va:setRow (n.map bL) ((n.length-1:Nat):Int) 0 [TC.sub 5 ((bU s k).map bE)]=(n.set (n.length-1) (bU s k)).map bL:=DD (a:=s) (a':=bU s k) kW rfl
  have RM:List.append (n.map bL) [[TC.sub 5 [[iI k.b,iI k.a,iI k.k,iI k.c,iI k.g]]]]=(n++[[k]]).map bL:=by simp[bL,bE]
  have hfit:fits (Nat.succ n.length) 24=true:=cY jc;rw[hsub];refine ah dI ⟨_,hrow,_,hrow,_,_,_,_,_,_,DW s k.b k.a PL,ah dI ⟨_,hrow,_,hrow,?_⟩⟩
  by_cases h2:s.length<4
  ·have hX:n.set (n.length-1) (bU s k)=eu n k:=by unfold eu xU;rw[kW];simp[h2]
   refine ah jc ⟨_,hrow,_,hrow,_,iV s k PL,_,hrow,_,hrow,?_⟩;rw[va];exact tail _ (fun r fs=>r=LM (bA n k)∧fs=[]) hX jU
  ·refine ay jc ?_
   cases h1:(th s k.b k.a).2 with
   |true=>
    have hX:n.set (n.length-1) (bU s k)=eu n k:=by unfold eu xU;rw[kW];simp[h1]
    refine ah rfl ⟨_,hrow,_,hrow,_,iV s k PL,_,hrow,_,hrow,?_⟩;rw[va];exact tail _ (fun r fs=>r=LM (bA n k)∧fs=[]) hX jU
   |false=>
    have hX:n++[[k]]=eu n k:=by unfold eu xU;rw[kW];simp[h1,h2]
    refine ay rfl (ah hfit ?_);rw[RM];exact tail _ (fun r fs=>r=LM (bA n k)∧fs=[]) hX jU
theorem o8 (t:Tree) (i:Nat) (lw:List Int) (nd:List (List (List Key))) (h1:i+1≤t.ak.length) (h2:i+1≤t.nodes.length) (hl:t.ak.length≤1073741824) (hn:t.nodes.length≤1073741824) (T3:lw.length≤1073741824) (Hg:nd.length≤1073741824):ax C bT [cS t,vI (i:Int),DF lw,Nw nd] (cS (gr t i 1 lw nd)) []:=by
 have e1:au (t.ak.map bW) 0 (i:Int)=(t.ak.take i).map bW:=by rw[cK];rfl
 have e2:au (t.ak.map bW) ((i:Int)+1) (Int.ofNat (t.ak.map bW).length)=(t.ak.drop (i+1)).map bW:=by
  rw[cK,cm,show((i:Int)+1).toNat=i+1 from by omega,show(Int.ofNat t.ak.length).toNat=t.ak.length from rfl,pQ]
 have e3:au (t.nodes.map bk) 0 (i:Int)=(t.nodes.take i).map bk:=by rw[cK];rfl
 have ea:aB (i:Int) 1=(i:Int)+1:=aV az
 have k1:(t.ak.take i).length≤t.ak.length:=by rw[eM];omega
 have k2:(t.ak.drop (i+1)).length≤t.ak.length:=by rw[iF];omega
 have k3:(t.nodes.take i).length≤t.nodes.length:=by rw[eM];omega
 have k4:(t.nodes.drop (i+1)).length≤t.nodes.length:=by rw[iF];omega
 have e4:au (t.nodes.map bk) ((i:Int)+1) (Int.ofNat (t.nodes.map bk).length)=(t.nodes.drop (i+1)).map bk:=by
  rw[cK,cm,show((i:Int)+1).toNat=i+1 from by omega,show(Int.ofNat t.nodes.length).toNat=t.nodes.length from rfl,pQ]
 refine(G5 _ _ _ _ _ _ ?_).run;rw[ea,e1,e2,e3,e4,fY,fY,fY,fY]
 refine ah jc (ah jc (ah (by rw[gC,cY jc];rfl) (ah (by rw[gC,cY (by simp only[cm,lT];omega)];rfl) (ah (by rw[gC,cY (by simp only[cm,cW,lT];omega)];rfl)
  (ah jc (ah jc (ah (cY jc) (ah (cY (by simp only[cm,lT];omega)) (ah (cY (by simp only[cm,cW,lT];omega)) ?_)))))))))
 exact jU
attribute [local semireducible] eO au in
theorem LS {rows:RR} {i c:Nat} (hk:i+c≤rows.length):au (eO 1 rows 0 (i:Int)) ((i:Int)+(c:Int)) (Int.ofNat rows.length)=rows.drop (i+c):=by
 unfold au eO;rw[rH,show((i:Int)+(c:Int)).toNat=i+c from by omega,show(0:Int).toNat=0 from rfl,show(Int.ofNat rows.length).toNat=rows.length from rfl,List.take_zero,pP,Nat.sub_zero];rw[PM jc,List.drop_append,List.length_replicate,yq dI,pP,List.drop_drop]
 congr 1;omega
theorem mA (t:Tree) (i c:Nat) (lw:List Int) (nd:List (List (List Key))) (h1:i+c≤t.ak.length) (h2:i+c≤t.nodes.length) (hl:t.ak.length≤1073741824) (hn:t.nodes.length≤1073741824) (T3:lw.length≤1073741824) (Hg:nd.length≤1073741824):ax C eZ [cS t,vI (i:Int),vI (c:Int),DF lw,Nw nd] (cS (gr t i c lw nd)) []:=by
 have e1:au (t.ak.map bW) 0 (i:Int)=(t.ak.take i).map bW:=by rw[cK];rfl
 have e2:au (t.ak.map bW) ((i:Int)+(c:Int)) (Int.ofNat (t.ak.map bW).length)=(t.ak.drop (i+c)).map bW:=by
  rw[cK,cm,show((i:Int)+(c:Int)).toNat=i+c from by omega,show(Int.ofNat t.ak.length).toNat=t.ak.length from rfl,pQ]
 have e3:au (t.nodes.map bk) 0 (i:Int)=(t.nodes.take i).map bk:=by rw[cK];rfl
 have ea:aB (i:Int) (c:Int)=(i:Int)+(c:Int):=aV az
 have k1:(t.ak.take i).length≤t.ak.length:=by rw[eM];omega
 have k2:(t.ak.drop (i+c)).length≤t.ak.length:=by rw[iF];omega
 have k3:(t.nodes.take i).length≤t.nodes.length:=by rw[eM];omega
 have k4:(t.nodes.drop (i+c)).length≤t.nodes.length:=by rw[iF];omega
 have e4:au (eO 1 (t.nodes.map bk) 0 (i:Int)) ((i:Int)+(c:Int)) (Int.ofNat (t.nodes.map bk).length)=(t.nodes.drop (i+c)).map bk:=by
  rw[LS (by rw[cm];exact h2),CO]
 refine(B3 _ _ _ _ _ _ _ ?_).run;rw[ea,e1,e2,e3,e4];refine ah jc ⟨_,qp (t.ak.take i) az,?_⟩
 (try dsimp only)
 rw[fY,fY,fY,fY]
 refine ah jc (ah (by rw[gC,cY (by simp only[cm,lT];omega)];rfl) (ah (by rw[gC,cY (by simp only[cm,cW,lT];omega)];rfl)
  (ah jc (ah jc (ah (cY jc) (ah (cY (by simp only[cm,lT];omega)) (ah (cY (by simp only[cm,cW,lT];omega)) ?_)))))))
 exact jU
def FW:Option Nat→Int
 |some i=>i
 |none=> -1
theorem nN (t:Tree) (hn:t.nodes.length≤1073741824) (hz:tot aE t.nodes≤1073740000):ax C ei [cS t] (vI (FW (gx t))) []:=by
 refine(EL _ _ _ ?_).run
 have key: ∀(d i:Nat),i+d=t.nodes.length→kQ t d i=gx t→an C ei aI 4 0 (lg (i:Int) (t.ak.map bW) (t.nodes.map bk)) (fun x st=>aP C ei aI x st fun r fs=>r=vI (FW (gx t))∧fs=[]):=by
  intro d
  induction d with
  |zero=>
   intro i h he;have ea:aB (i:Int) 1=(i:Int)+1:=aV az;refine uL _ _ _ _ ?_;rw[ea];exact ay jc (uM _ _ _ _ _ ⟨by rw[←he];rfl,rfl⟩)
  |succ d ih=>
   intro i h he;have ea:aB (i:Int) 1=(i:Int)+1:=aV az
   have ec:(i:Int)+1=((i+1:Nat):Int):=by omega
   unfold kQ at he;refine uL _ _ _ _ ?_;rw[ea,ec]
   by_cases h1:i+1<t.nodes.length
   ·rw[aZ h1] at he
    obtain⟨a,ha⟩: ∃a,t.nodes[i]?=some a:=⟨_,aX az⟩;obtain⟨b,hb⟩: ∃b,t.nodes[i+1]?=some b:=⟨_,aX h1⟩;have za:a.length+tot bF a≤tot aE t.nodes:=fI (w:=aE) ha;have zb:b.length+tot bF b≤tot aE t.nodes:=fI (w:=aE) hb
    have ka:eJ t i=aq a:=by unfold eJ;rw[jF,ha];rfl
    have kb:eJ t (i+1)=aq b:=by unfold eJ;rw[jF,hb];rfl
    have la:=bV a;have lb:=bV b;rw[ka,kb] at he;refine ah jc ⟨_,by rw[bu,aL,ha];rfl,_,by rw[bu,aL,hb];rfl,_,(cZ a az az _).2 rfl,_,(cZ b az az _).2 rfl,?_⟩
    (try dsimp only)
    rw[cm,cm,show aB (Int.ofNat (aq a).length) (Int.ofNat (aq b).length)=((aq a).length:Int)+(aq b).length from aV jc]
    by_cases h2:(aq a).length+(aq b).length≤6
    ·rw[aZ h2] at he
     exact ah jc (B0 _ _ _ _ _ _ ⟨by rw[←he];rfl,rfl⟩)
    ·rw[aR h2] at he
     exact ay jc (ih (i+1) az he)
   ·rw[aR h1] at he
    exact ay jc (uM _ _ _ _ _ ⟨by rw[←he];rfl,rfl⟩)
 exact key t.nodes.length 0 az rfl
theorem BO (t0:Tree) (hw0:t0.ak.length=t0.nodes.length) (J6:tot aE t0.nodes+t0.nodes.length≤1073700000):ax C aK [cS t0] (cS (fe t0.nodes.length t0)) []:=by
 refine(E4 _ _ _ ⟨_,nN t0 az az,?_⟩).run
 have key: ∀(m:Nat) (t:Tree),t.nodes.length=m→t.ak.length=t.nodes.length→tot aE t.nodes+t.nodes.length≤1073700000→fe m t=fe t0.nodes.length t0→an C aK aI 4 0 (jb (FW (gx t)) (t.ak.map bW) (t.nodes.map bk)) (fun x st=>aP C aK aI x st fun r fs=>r=cS (fe t0.nodes.length t0)∧fs=[]):=by
  intro m
  induction m with
  |zero=>
   intro t hm hw hz he
   have hp:gx t=none:=by unfold gx;rw[hm];rfl
   rw[hp];exact nQ _ _ _ _ (ay (by simp[FW]) (u0 _ _ _ _ _ ⟨by rw[←he];rfl,rfl⟩))
  |succ m ih=>
   intro t hm hw hz he;rw[lI] at he
   cases hp:gx t with
   |none=>
    rw[hp] at he;have he:t=fe t0.nodes.length t0:=he;exact nQ _ _ _ _ (ay (by simp[FW]) (u0 _ _ _ _ _ ⟨by rw[←he],rfl⟩))
   |some i=>
   rw[hp] at he;have he:fe m (bN t i)=fe t0.nodes.length t0:=he;have hlt:=j9 hp;show an C aK aI 4 0 (jb (i:Int) (t.ak.map bW) (t.nodes.map bk)) _;obtain⟨a,ha⟩: ∃a,t.nodes[i]?=some a:=⟨_,aX az⟩;obtain⟨b,hb⟩: ∃b,t.nodes[i+1]?=some b:=⟨_,aX hlt.1⟩;have za:a.length+tot bF a≤tot aE t.nodes:=fI (w:=aE) ha;have zb:b.length+tot bF b≤tot aE t.nodes:=fI (w:=aE) hb;have la:=bV a;have lb:=bV b;have h6:=hlt.2;rw[cX ha,cX hb] at h6
   have ea:aB (i:Int) 1=((i+1:Nat):Int):=by rw[aV az];omega
   have eb:aB (i:Int) 2=((i+2:Nat):Int):=by rw[aV az];omega
   have ra:rowAt (t.nodes.map bk) (i:Int)=some [TC.sub 1 (a.map bL)]:=by rw[bu,aL,ha];rfl
   have rb:rowAt (t.nodes.map bk) ((i+1:Nat):Int)=some [TC.sub 1 (b.map bL)]:=by rw[bu,aL,hb];rfl
   have c1:au (t.ak.map bW) 0 ((i+1:Nat):Int)=(t.ak.take (i+1)).map bW:=by rw[cK];rfl
   have c2:au (t.ak.map bW) ((i+2:Nat):Int) (Int.ofNat (t.ak.map bW).length)=(t.ak.drop (i+2)).map bW:=by
    rw[cK,cm,rH,show(Int.ofNat t.ak.length).toNat=t.ak.length from rfl,pQ]
   have c3:au (t.nodes.map bk) 0 (i:Int)=(t.nodes.take i).map bk:=by rw[cK];rfl
   have c4:au (t.nodes.map bk) ((i+2:Nat):Int) (Int.ofNat (t.nodes.map bk).length)=(t.nodes.drop (i+2)).map bk:=by
    rw[cK,cm,rH,show(Int.ofNat t.nodes.length).toNat=t.nodes.length from rfl,pQ]
   have hlo:i<t.ak.length:=by omega
   have eL:List.append ((t.ak.take (i+1)).map bW) ((t.ak.drop (i+2)).map bW)=(bN t i).ak.map bW:=by
    rw[fY];unfold bN gr;simp only[];rw[List.take_add_one,jF,aX hlo];simp
   have eN:List.append (List.append ((t.nodes.take i).map bk) [[TC.sub 1 ((bD (aq a++aq b)).map bL)]]) ((t.nodes.drop (i+2)).map bk)=(bN t i).nodes.map bk:=by
    rw[y8,fY];unfold bN gr;simp only[];rw[cX ha,cX hb]
   have hsz:=qm hlt.1;have hjl:=mq hlt.1
   have W1:(bN t i).ak.length+1=t.ak.length:=by
    have:=tC t i 2 [t.ak.getD i 0] [bD (eJ t i++eJ t (i+1))] az;unfold bN;simp only[jG] at this;omega
   have k1:(t.ak.take (i+1)).length≤t.ak.length:=by rw[eM];omega
   have k2:(t.ak.drop (i+2)).length≤t.ak.length:=by rw[iF];omega
   have k3:(t.nodes.take i).length≤t.nodes.length:=by rw[eM];omega
   have k4:(t.nodes.drop (i+2)).length≤t.nodes.length:=by rw[iF];omega
   refine nQ _ _ _ _ (ah dI ?_);rw[ea,eb];refine⟨_,ra,_,ra,_,rb,_,rb,_,(cZ a az az _).2 rfl,_,(cZ b az az _).2 rfl,?_⟩
   (try dsimp only)
   rw[fY,c1,c2,c3,c4]
   refine ah (by rw[gD,cY (by simp only[cm,lT];omega)];rfl) (ah jc (ah jc (ah (by rw[gC,cY (by simp only[cm,lT];omega)];rfl) (ah (by rw[gC,cY (by simp only[cm,lT];omega)];rfl)
    (ah jc (ah jc (ah (cY (by simp only[cm,lT];omega)) ⟨_,fq (aq a++aq b) (by rw[cW];omega),ah (cY (by simp only[cm,Nat.succ_eq_add_one];omega)) ?_⟩)))))))
   rw[eL,eN];refine ah (cY (by rw[y8];simp only[cm,cW,jG,lT];omega)) ⟨_,nN (bN t i) az az,?_⟩;exact ih (bN t i) az az az he
 cases hp:gx t0 with
 |none=>
  have hj:fe t0.nodes.length t0=t0:=by
   cases hm:t0.nodes.length with
   |zero=>rfl
   |succ m=>rw[lI,hp]
  exact uZ _ _ _ _ (ay (by simp[FW]) (Cu _ _ _ _ _ ⟨by rw[hj],rfl⟩))
 |some i=>
  have hlt:=j9 hp;obtain⟨t,ht⟩: ∃t,t=t0:=⟨_,rfl⟩;rw[←ht] at hlt hw0 J6 hp ⊢;show an C aK aI 4 0 (nP (i:Int) (t.ak.map bW) (t.nodes.map bk)) _;obtain⟨a,ha⟩: ∃a,t.nodes[i]?=some a:=⟨_,aX az⟩;obtain⟨b,hb⟩: ∃b,t.nodes[i+1]?=some b:=⟨_,aX hlt.1⟩;have za:a.length+tot bF a≤tot aE t.nodes:=fI (w:=aE) ha;have zb:b.length+tot bF b≤tot aE t.nodes:=fI (w:=aE) hb;have la:=bV a;have lb:=bV b;have h6:=hlt.2;rw[cX ha,cX hb] at h6
  have ea:aB (i:Int) 1=((i+1:Nat):Int):=by rw[aV az];omega
  have eb:aB (i:Int) 2=((i+2:Nat):Int):=by rw[aV az];omega
  have ra:rowAt (t.nodes.map bk) (i:Int)=some [TC.sub 1 (a.map bL)]:=by rw[bu,aL,ha];rfl
  have rb:rowAt (t.nodes.map bk) ((i+1:Nat):Int)=some [TC.sub 1 (b.map bL)]:=by rw[bu,aL,hb];rfl
  have c1:au (t.ak.map bW) 0 ((i+1:Nat):Int)=(t.ak.take (i+1)).map bW:=by rw[cK];rfl
  have c2:au (t.ak.map bW) ((i+2:Nat):Int) (Int.ofNat (t.ak.map bW).length)=(t.ak.drop (i+2)).map bW:=by
   rw[cK,cm,rH,show(Int.ofNat t.ak.length).toNat=t.ak.length from rfl,pQ]
  have c3:au (t.nodes.map bk) 0 (i:Int)=(t.nodes.take i).map bk:=by rw[cK];rfl
  have c4:au (t.nodes.map bk) ((i+2:Nat):Int) (Int.ofNat (t.nodes.map bk).length)=(t.nodes.drop (i+2)).map bk:=by
   rw[cK,cm,rH,show(Int.ofNat t.nodes.length).toNat=t.nodes.length from rfl,pQ]
  have hlo:i<t.ak.length:=by omega
  have eL:List.append ((t.ak.take (i+1)).map bW) ((t.ak.drop (i+2)).map bW)=(bN t i).ak.map bW:=by
   rw[fY];unfold bN gr;simp only[];rw[List.take_add_one,jF,aX hlo];simp
  have eN:List.append (List.append ((t.nodes.take i).map bk) [[TC.sub 1 ((bD (aq a++aq b)).map bL)]]) ((t.nodes.drop (i+2)).map bk)=(bN t i).nodes.map bk:=by
   rw[y8,fY];unfold bN gr;simp only[];rw[cX ha,cX hb]
  have hsz:=qm hlt.1;have hjl:=mq hlt.1
  have W1:(bN t i).ak.length+1=t.ak.length:=by
   have:=tC t i 2 [t.ak.getD i 0] [bD (eJ t i++eJ t (i+1))] az;unfold bN;simp only[jG] at this;omega
  have k1:(t.ak.take (i+1)).length≤t.ak.length:=by rw[eM];omega
  have k2:(t.ak.drop (i+2)).length≤t.ak.length:=by rw[iF];omega
  have k3:(t.nodes.take i).length≤t.nodes.length:=by rw[eM];omega
  have k4:(t.nodes.drop (i+2)).length≤t.nodes.length:=by rw[iF];omega
  refine uZ _ _ _ _ (ah dI ?_);rw[ea,eb];refine⟨_,ra,_,rb,_,(cZ a az az _).2 rfl,_,(cZ b az az _).2 rfl,?_⟩
  (try dsimp only)
  rw[fY,c1,c2,c3,c4]
  refine ah (by rw[gD,cY (by simp only[cm,lT];omega)];rfl) (ah jc (ah jc (ah (by rw[gC,cY (by simp only[cm,lT];omega)];rfl) (ah (by rw[gC,cY (by simp only[cm,lT];omega)];rfl)
   (ah jc (ah jc (ah (cY (by simp only[cm,lT];omega)) ⟨_,fq (aq a++aq b) (by rw[cW];omega),ah (cY (by simp only[cm,Nat.succ_eq_add_one];omega)) ?_⟩)))))))
  rw[eL,eN];refine ah (cY (by rw[y8];simp only[cm,cW,jG,lT];omega)) ⟨_,nN (bN t i) az az,?_⟩;refine ht▸key (bN t i).nodes.length (bN t i) rfl az az ?_;rw[←ht]
  have:t.nodes.length=(bN t i).nodes.length+1:=by omega
  rw[this];rw[lI,hp]
theorem By (t u:Tree) (hw:t.ak.length=t.nodes.length) (hz:tot aE t.nodes+t.nodes.length≤1073700000) (E:gx t=none→t=u)
 (N: ∀i,gx t=some i→an C ck aI 4 0 (fD ((0:Nat):Int) ((bN t i).ak.map bW) ((bN t i).nodes.map bk)) (fun x st=>aP C ck aI x st fun r fs=>r=cS u∧fs=[])):
 ∀d i,i+d=t.nodes.length→kQ t d i=gx t→an C ck aI 4 0 (fD (i:Int) (t.ak.map bW) (t.nodes.map bk)) (fun x st=>aP C ck aI x st fun r fs=>r=cS u∧fs=[]):=by
 intro d
 induction d with
 |zero=>
  intro i h he;have ea:aB (i:Int) 1=(i:Int)+1:=aV az;refine uP _ _ _ _ ?_;rw[ea];exact ay jc (uQ _ _ _ _ _ ⟨by rw[E (by rw[←he];rfl)],rfl⟩)
 |succ d ih=>
  intro i h he;have ea:aB (i:Int) 1=(i:Int)+1:=aV az
  have ec:(i:Int)+1=((i+1:Nat):Int):=by omega
  unfold kQ at he;refine uP _ _ _ _ ?_;rw[ea,ec]
  by_cases h1:i+1<t.nodes.length
  ·rw[aZ h1] at he
   obtain⟨a,ha⟩: ∃a,t.nodes[i]?=some a:=⟨_,aX az⟩;obtain⟨b,hb⟩: ∃b,t.nodes[i+1]?=some b:=⟨_,aX h1⟩;have za:a.length+tot bF a≤tot aE t.nodes:=fI (w:=aE) ha;have zb:b.length+tot bF b≤tot aE t.nodes:=fI (w:=aE) hb;have la:=bV a;have lb:=bV b;rw[cX ha,cX hb] at he
   have ra:rowAt (t.nodes.map bk) (i:Int)=some [TC.sub 1 (a.map bL)]:=by rw[bu,aL,ha];rfl
   have rb:rowAt (t.nodes.map bk) ((i+1:Nat):Int)=some [TC.sub 1 (b.map bL)]:=by rw[bu,aL,hb];rfl
   refine ah jc ⟨_,ra,_,ra,_,rb,_,rb,_,(fz a az az _).2 rfl,_,(fz b az az _).2 rfl,ah (by rw[gD,cY (by simp only[cm,lT];omega)];rfl) ?_⟩
   (try dsimp only)
   rw[fY]
   by_cases h2:(aq a).length+(aq b).length≤6
   ·rw[aZ h2] at he
    have hlo:i<t.ak.length:=by omega
    have T3:rowAt (t.ak.map bW) (i:Int)=some [iI (t.ak.getD i 0)]:=by
     rw[bu,aL,jF,aX hlo];rfl
    have R2:=jv (aq a++aq b) (by rw[cW];omega);have T4:=mA t i 2 [t.ak.getD i 0] [bD (aq a++aq b)] az az az az dI dI
    have ej:gr t i 2 [t.ak.getD i 0] [bD (aq a++aq b)]=bN t i:=by unfold bN;rw[cX ha,cX hb]
    rw[ej] at T4;have hN:=N i he.symm;rw[←show aB (-1) 1=((0:Nat):Int) from by rw[aV az];rfl] at hN;exact ah (by simp[kD]<;>omega) ⟨_,T3,_,T3,_,R2,_,_,T4,⟨_,R2,_,_,T4,⟨_,_,T4,rfl⟩,rfl⟩,hN⟩
   ·rw[aR h2] at he
    exact ay (by simp[kD]<;>omega) (ih (i+1) az he)
  ·rw[aR h1] at he
   exact ay jc (uQ _ _ _ _ _ ⟨by rw[E he.symm],rfl⟩)
theorem BP (t0:Tree) (hw0:t0.ak.length=t0.nodes.length) (J6:tot aE t0.nodes+t0.nodes.length≤1073700000):ax C ck [cS t0] (cS (fe t0.nodes.length t0)) []:=by
 refine(ET _ _ _ ?_).run
 have key: ∀(m:Nat) (t:Tree),t.nodes.length=m→t.ak.length=t.nodes.length→tot aE t.nodes+t.nodes.length≤1073700000→an C ck aI 4 0 (fD ((0:Nat):Int) (t.ak.map bW) (t.nodes.map bk)) (fun x st=>aP C ck aI x st fun r fs=>r=cS (fe m t)∧fs=[]):=by
  intro m
  induction m with
  |zero=>
   intro t hm hw hz;exact By t (fe 0 t) hw hz (fun _=>rfl) (fun i hi=>by have:=(j9 hi).1;omega) t.nodes.length 0 az rfl
  |succ m ih=>
   intro t hm hw hz;refine By t (fe (m+1) t) hw hz (fun h=>(JR h).symm) (fun i hi=> ?_) t.nodes.length 0 az rfl;have h1:=mq (j9 hi).1;have h2:=qm (j9 hi).1;have:=ih (bN t i) az (xj (j9 hi).1 hw) az;rw[lI,hi];exact this
 exact key t0.nodes.length t0 rfl hw0 J6
theorem J0 {t:Tree} {i:Nat} {n:List (List Key)} (h1:i<t.ak.length) (h2:i<t.nodes.length):gr t i 1 [t.ak.getD i 0] [n]=⟨t.ak,t.nodes.set i n⟩:=by
 unfold gr;rw[List.set_eq_take_append_cons_drop,aZ h2,jF,aX h1]
 have e:t.ak.take i++[t.ak[i]]++t.ak.drop (i+1)=t.ak:=by
  rw[tT,List.singleton_append,←ve h1,w6]
 simp only[Option.getD_some,e,tT,List.singleton_append]
theorem SM {n:Nat} (h:n≤1073741824):dQ .i64 (aB (Int.ofNat n) 1) 2=(((n+1)/2:Nat):Int):=by
 rw[aV nF];unfold dQ;rw[Int.tdiv_eq_ediv_of_nonneg nF,show IntKind.wrap .i64 ((Int.ofNat n+1)/2)=(Int.ofNat n+1)/2 from IntWalk.i64_in _ nF];simp
theorem AT (t:Tree) (k:Key) (hz:dy t≤4194304):ax C tK [cS t,td k] (sC (aO t k)) []:=by
 have hN:=Bx hz;have I1:ax C bh [cS t] (cS t) []:=zm t hN.1 hN.2;refine(Eb _ _ _ _ _ _ _ _ ⟨_,k9 t az,?_⟩).run
 cases h1:cw t with
 |false=>exact ah rfl ⟨_,_,I1,⟨by unfold aO;rw[aR (by rw[h1];simp)],rfl⟩⟩
 |true=>
 refine ay rfl ⟨_,(zh _ _ _ _ _ _).2 rfl,?_⟩;change aD (!cv k) _ _
 cases h2:cv k with
 |false=>exact ah rfl ⟨_,_,I1,⟨by unfold aO;rw[aR (by rw[h2];simp)],rfl⟩⟩
 |true=>
 obtain⟨i,hi,IW⟩:=DL h1 h2;have hlen:=jQ h1
 have hw:ax C dK [cS t,vI k.b,vI k.a] (vI (i:Int)) []:=by rw[←hi];exact r8 t k.b k.a az
 have hrow:rowAt (t.nodes.map bk) (i:Int)=some [TC.sub 1 (t.nodes[i].map bL)]:=by rw[bu,aL,aX IW];rfl
 have Hj:rowAt (t.ak.map bW) (i:Int)=some [iI (t.ak.getD i 0)]:=by
  rw[bu,aL,jF,aX az];rfl
 have hg:t.nodes.getD i []=t.nodes[i]:=by rw[jF,aX IW];rfl
 have hok:=nw h1 (oK IW);have hsz:=r5 hok;have hps:=vK t.nodes[i] k;have W2:=vL t.nodes[i] k;have hkl:=iP t.nodes[i] k;have hnk:=bV t.nodes[i];obtain⟨RE,Hf,U6⟩:=IC (k:=k) h1 IW
 have hR:aO t k=if cw (fe (eC t i k).nodes.length (eC t i k))=true then(fe (eC t i k).nodes.length (eC t i k),true) else(t,false):=by
  unfold aO;rw[aZ ⟨h1,h2⟩,hi,rH]
 have fin: ∀Q:QV,Q (sC (aO t k)) []→ ∃(l39 l40:RR),ax C ck [cS (eC t i k)] (.ag [.sub 1 l39,.sub 1 l40]) []∧(∃b:Bool,ax C bw [.ag [.sub 1 l39,.sub 1 l40]] (vB b) []∧(aD (!b) (∃(l42 l43:RR),ax C bh [cS t] (.ag [.sub 1 l42,.sub 1 l43]) []∧Q (.tu [(1,[.sub 1 l42,.sub 1 l43]),(0,[iB false])]) []) (Q (.tu [(1,[.sub 1 l39,.sub 1 l40]),(0,[iB true])]) []))):=by
  intro Q hQ;refine⟨_,_,BP (eC t i k) Hf az,_,k9 _ az,?_⟩;rw[hR] at hQ
  cases h3:cw (fe (eC t i k).nodes.length (eC t i k)) with
  |true=>rw[aZ h3] at hQ;exact ay rfl hQ
  |false=>rw[aR (by rw[h3];simp)] at hQ;exact ah rfl ⟨_,_,I1,hQ⟩
 have np:=AR t.nodes[i] k az az;refine ay rfl ⟨_,hw,_,_,I1,_,hrow,_,hrow,?_⟩
 cases hp:(bA t.nodes[i] k).2 with
 |false=>
  have hno:=(xZ hok h2 hp).1
  have cno:(!(bA t.nodes[i] k).2)=true:=by rw[hp];rfl
  obtain⟨ks,hks⟩: ∃ks,ks=bB t.nodes[i] k:=⟨_,rfl⟩;rw[←hks] at hno hkl;have hh:=GJ hno;obtain⟨h,Qw⟩: ∃h,h=(ks.length+1)/2:=⟨_,rfl⟩
  have hq:dQ .i64 (aB (Int.ofNat (List.length (ks.map bE))) 1) 2=(h:Int):=by rw[cm,SM az,Qw]
  have hkk:rowAt (ks.map bE) (h:Int)=some [iI (ks.getD h di).b,iI (ks.getD h di).a,iI (ks.getD h di).k,iI (ks.getD h di).c,iI (ks.getD h di).g]:=by
   rw[bu,aL,jF,aX az];rfl
  have ep:eC t i k=gr t i 1 [t.ak.getD i 0,bJ (ks.getD h di).b (ks.getD h di).a] [bD (ks.take h),bD (ks.drop h)]:=by
   unfold eC;rw[hg,aR (by rw[hp];simp),←hks,←Qw]
  have rp:=mA t i 1 [t.ak.getD i 0,bJ (ks.getD h di).b (ks.getD h di).a] [bD (ks.take h),bD (ks.drop h)] az az az az dI dI;rw[←ep] at rp
  have e1:au (ks.map bE) 0 (h:Int)=(ks.take h).map bE:=by rw[cK];rfl
  have e2:au (ks.map bE) (h:Int) (Int.ofNat (List.length (ks.map bE)))=(ks.drop h).map bE:=by
   rw[cK,cm,rH,show(Int.ofNat ks.length).toNat=ks.length from rfl,pQ]
  have nn1:ax C cc [.c (.sub 5 (au (ks.map bE) 0 (h:Int)))] (eF (bD (ks.take h))) []:=by rw[e1];exact jv _ (by rw[eM];omega)
  have nn2:ax C cc [.c (.sub 5 (au (ks.map bE) (h:Int) (Int.ofNat (List.length (ks.map bE)))))] (eF (bD (ks.drop h))) []:=by rw[e2];exact jv _ (by rw[iF];omega)
  have c1:eD 0 (h:Int) (Int.ofNat (List.length (ks.map bE)))=true:=by rw[yZ];simp;omega
  have c2:eD (h:Int) (Int.ofNat (List.length (ks.map bE))) (Int.ofNat (List.length (ks.map bE)))=true:=by rw[yZ];simp;omega
  have kw:ax C dD [eF t.nodes[i],td k] (cG ks) []:=by
   rw[hks];exact qq t.nodes[i] k az az
  clear hks Qw hR
  repeat' first
   |refine⟨_,hrow,?_⟩
   |refine⟨_,Hj,?_⟩
   |refine⟨_,_,np,?_⟩
   |refine ah cno ?_
   |refine⟨_,kw,?_⟩
   |refine ay (by rw[fy];rfl) ?_
   |rw[hq]
   |refine⟨_,_,_,_,_,hkk,?_⟩
   |refine ah c1 ?_
   |refine ah c2 ?_
   |refine⟨_,(rB _ _ _).2 rfl,?_⟩
   |refine⟨_,nn1,?_⟩
   |refine⟨_,nn2,?_⟩
   |refine⟨_,_,rp,?_⟩
   |refine⟨(sC (aO t k),([]:List TV)),?_,?_,rfl⟩
   |refine⟨(sC (aO t k),([]:List TV)),?_,?_,jU⟩
   |exact fin (fun a b=>(a,b)=(sC (aO t k),([]:List TV))) rfl
   |exact fin (fun r fs=>r=sC (aO t k)∧fs=[]) jU
 |true=>
  have cno:(!(bA t.nodes[i] k).2)=false:=by rw[hp];rfl
  by_cases hc:0<i∧(aq (bA t.nodes[i] k).1).length=0
  ·have ci:dm 0 (i:Int)=true:=by rw[kC];simp;omega
   have nk:=(fz (bA t.nodes[i] k).1 az az _).2 rfl
   have cl:dH (Int.ofNat (List.length ((aq (bA t.nodes[i] k).1).map bE))) 0=true:=by rw[fy,cm,hc.2];rfl
   have ep:eC t i k=gr t i 1 [] []:=by unfold eC;rw[hg,aZ hp,aZ hc]
   have rp:=mA t i 1 [] [] az az az az dI dI;rw[←ep] at rp;clear hR
   repeat' first
   |refine⟨_,hrow,?_⟩
   |refine⟨_,Hj,?_⟩
   |refine⟨_,_,np,?_⟩
   |refine ay cno ?_
   |refine ah ci ?_
   |refine⟨_,nk,?_⟩
   |refine ah cl ?_
   |refine⟨_,_,rp,?_⟩
   |refine⟨(sC (aO t k),([]:List TV)),?_,?_,rfl⟩
   |refine⟨(sC (aO t k),([]:List TV)),?_,?_,jU⟩
   |exact fin (fun a b=>(a,b)=(sC (aO t k),([]:List TV))) rfl
   |exact fin (fun r fs=>r=sC (aO t k)∧fs=[]) jU
  ·have eset:eC t i k=⟨t.ak,t.nodes.set i (bA t.nodes[i] k).1⟩:=by
    unfold eC;rw[hg,aZ hp,aR hc,J0 az IW]
   have es:setRow (t.nodes.map bk) (i:Int) 0 [TC.sub 1 ((bA t.nodes[i] k).1.map bL)]=(t.nodes.set i (bA t.nodes[i] k).1).map bk:=Iu (a:=t.nodes[i]) (by rw[aL,aX IW]) rfl;clear hR
   by_cases TN:0<i
   ·have ci:dm 0 (i:Int)=true:=by rw[kC];simp;omega
    have nk:=(fz (bA t.nodes[i] k).1 az az _).2 rfl
    have cl:dH (Int.ofNat (List.length ((aq (bA t.nodes[i] k).1).map bE))) 0=false:=by
     rw[fy,cm];exact pU fun e=>hc ⟨TN,by have e:((aq (bA t.nodes[i] k).1).length:Int)=0:=e;omega⟩
    repeat' first
   |refine⟨_,hrow,?_⟩
   |refine⟨_,Hj,?_⟩
   |refine⟨_,_,np,?_⟩
   |refine ay cno ?_
   |refine ah ci ?_
   |refine⟨_,nk,?_⟩
   |refine ay cl ?_
   |refine⟨(sC (aO t k),([]:List TV)),?_,?_,rfl⟩
   |refine⟨(sC (aO t k),([]:List TV)),?_,?_,jU⟩
   |exact fin (fun a b=>(a,b)=(sC (aO t k),([]:List TV))) rfl
   |exact fin (fun r fs=>r=sC (aO t k)∧fs=[]) jU
   |(rw[es];rw[eset] at fin;exact fin (fun a b=>(a,b)=(sC (aO t k),([]:List TV))) rfl)
   |(rw[es];rw[eset] at fin;exact fin (fun r fs=>r=sC (aO t k)∧fs=[]) jU)
   ·have ci:dm 0 (i:Int)=false:=by rw[kC];simp;omega
    repeat' first
   |refine⟨_,hrow,?_⟩
   |refine⟨_,Hj,?_⟩
   |refine⟨_,_,np,?_⟩
   |refine ay cno ?_
   |refine ay ci ?_
   |refine⟨(sC (aO t k),([]:List TV)),?_,?_,rfl⟩
   |refine⟨(sC (aO t k),([]:List TV)),?_,?_,jU⟩
   |exact fin (fun a b=>(a,b)=(sC (aO t k),([]:List TV))) rfl
   |exact fin (fun r fs=>r=sC (aO t k)∧fs=[]) jU
   |(rw[es];rw[eset] at fin;exact fin (fun a b=>(a,b)=(sC (aO t k),([]:List TV))) rfl)
   |(rw[es];rw[eset] at fin;exact fin (fun r fs=>r=sC (aO t k)∧fs=[]) jU)
theorem r9 (t:Tree) (k:Key) (hz:dy t≤4194304):ax C oz [cS t,td k] (sC (aO t k)) []:=by
 have hN:=Bx hz;have I1:ax C cC [cS t] (cS t) []:=BN t hN.1 hN.2;refine(Ej _ _ _ _ _ _ _ _ ⟨_,_,I1,_,ue t az,?_⟩).run
 cases h1:cw t with
 |false=>exact ah rfl ⟨by unfold aO;rw[aR (by rw[h1];simp)],rfl⟩
 |true=>
 refine ay rfl ⟨_,(zi _ _ _ _ _ _).2 rfl,?_⟩;change aD (!cv k) _ _
 cases h2:cv k with
 |false=>exact ah rfl ⟨by unfold aO;rw[aR (by rw[h2];simp)],rfl⟩
 |true=>
 obtain⟨i,hi,IW⟩:=DL h1 h2;have hlen:=jQ h1
 have hw:ax C dj [cS t,vI k.b,vI k.a] (vI (i:Int)) []:=by rw[←hi];exact AQ t k.b k.a az
 have hrow:rowAt (t.nodes.map bk) (i:Int)=some [TC.sub 1 (t.nodes[i].map bL)]:=by rw[bu,aL,aX IW];rfl
 have Hj:rowAt (t.ak.map bW) (i:Int)=some [iI (t.ak.getD i 0)]:=by
  rw[bu,aL,jF,aX az];rfl
 have hg:t.nodes.getD i []=t.nodes[i]:=by rw[jF,aX IW];rfl
 have hok:=nw h1 (oK IW);have hsz:=r5 hok;have hps:=vK t.nodes[i] k;have W2:=vL t.nodes[i] k;have hkl:=iP t.nodes[i] k;have hnk:=bV t.nodes[i];obtain⟨RE,Hf,U6⟩:=IC (k:=k) h1 IW
 have hR:aO t k=if cw (fe (eC t i k).nodes.length (eC t i k))=true then(fe (eC t i k).nodes.length (eC t i k),true) else(t,false):=by
  unfold aO;rw[aZ ⟨h1,h2⟩,hi,rH]
 have fin: ∀Q:QV,Q (sC (aO t k)) []→ ∃(l39 l40:RR),ax C aK [cS (eC t i k)] (.ag [.sub 1 l39,.sub 1 l40]) []∧(∃b:Bool,ax C aF [.ag [.sub 1 l39,.sub 1 l40]] (vB b) []∧(aD (!b) (Q (.tu [(1,KS t),(0,[iB false])]) []) (Q (.tu [(1,[.sub 1 l39,.sub 1 l40]),(0,[iB true])]) []))):=by
  intro Q hQ;refine⟨_,_,BO (eC t i k) Hf az,_,ue _ az,?_⟩;rw[hR] at hQ
  cases h3:cw (fe (eC t i k).nodes.length (eC t i k)) with
  |true=>rw[aZ h3] at hQ;exact ay rfl hQ
  |false=>rw[aR (by rw[h3];simp)] at hQ;exact ah rfl hQ
 have np:=AS t.nodes[i] k az az;have hx:=o8 t i [t.ak.getD i 0] [(bA t.nodes[i] k).1] az az az az dI dI;refine ay rfl ⟨_,hw,_,hrow,?_⟩
 cases hp:(bA t.nodes[i] k).2 with
 |false=>
  have hno:=(xZ hok h2 hp).1
  have cno:(!(bA t.nodes[i] k).2)=true:=by rw[hp];rfl
  obtain⟨ks,hks⟩: ∃ks,ks=bB t.nodes[i] k:=⟨_,rfl⟩;rw[←hks] at hno hkl;have hh:=GJ hno;obtain⟨h,Qw⟩: ∃h,h=(ks.length+1)/2:=⟨_,rfl⟩
  have hq:dQ .i64 (aB (Int.ofNat (List.length (ks.map bE))) 1) 2=(h:Int):=by rw[cm,SM az,Qw]
  have hkk:rowAt (ks.map bE) (h:Int)=some [iI (ks.getD h di).b,iI (ks.getD h di).a,iI (ks.getD h di).k,iI (ks.getD h di).c,iI (ks.getD h di).g]:=by
   rw[bu,aL,jF,aX az];rfl
  have ep:eC t i k=gr t i 1 [t.ak.getD i 0,bJ (ks.getD h di).b (ks.getD h di).a] [bD (ks.take h),bD (ks.drop h)]:=by
   unfold eC;rw[hg,aR (by rw[hp];simp),←hks,←Qw]
  have rp:=o8 t i [t.ak.getD i 0,bJ (ks.getD h di).b (ks.getD h di).a] [bD (ks.take h),bD (ks.drop h)] az az az az dI dI;rw[←ep] at rp
  have e1:au (ks.map bE) 0 (h:Int)=(ks.take h).map bE:=by rw[cK];rfl
  have e2:au (ks.map bE) (h:Int) (Int.ofNat (List.length (ks.map bE)))=(ks.drop h).map bE:=by
   rw[cK,cm,rH,show(Int.ofNat ks.length).toNat=ks.length from rfl,pQ]
  have nn1:ax C aC [.c (.sub 5 (au (ks.map bE) 0 (h:Int)))] (eF (bD (ks.take h))) []:=by rw[e1];exact fq _ (by rw[eM];omega)
  have nn2:ax C aC [.c (.sub 5 (au (ks.map bE) (h:Int) (Int.ofNat (List.length (ks.map bE)))))] (eF (bD (ks.drop h))) []:=by rw[e2];exact fq _ (by rw[iF];omega)
  have c1:eD 0 (h:Int) (Int.ofNat (List.length (ks.map bE)))=true:=by rw[yZ];simp;omega
  have c2:eD (h:Int) (Int.ofNat (List.length (ks.map bE))) (Int.ofNat (List.length (ks.map bE)))=true:=by rw[yZ];simp;omega
  have kw:ax C cn [cG (bU (aq t.nodes[i]) k)] (cG ks) []:=by
   rw[hks];exact rA (bU (aq t.nodes[i]) k) (by have:=gY (aq t.nodes[i]) k;omega)
  clear hks Qw hR
  repeat' first
   |refine⟨_,hrow,?_⟩
   |refine⟨_,Hj,?_⟩
   |refine⟨_,_,np,?_⟩
   |refine⟨_,_,hx,?_⟩
   |refine ah cno ?_
   |refine⟨_,kw,?_⟩
   |refine⟨_,(cZ t.nodes[i] az az _).2 rfl,?_⟩
   |refine⟨_,iV (aq t.nodes[i]) k az,?_⟩
   |refine ay (by rw[fy];rfl) ?_
   |rw[hq]
   |refine⟨_,_,_,_,_,hkk,?_⟩
   |refine ah c1 ?_
   |refine ah c2 ?_
   |refine⟨_,(xu _ _ _ _ _ _).2 rfl,?_⟩
   |refine⟨_,nn1,?_⟩
   |refine⟨_,nn2,?_⟩
   |refine⟨_,_,rp,?_⟩
   |refine⟨(sC (aO t k),([]:List TV)),?_,?_,rfl⟩
   |refine⟨(sC (aO t k),([]:List TV)),?_,?_,jU⟩
   |exact fin (fun a b=>(a,b)=(sC (aO t k),([]:List TV))) rfl
   |exact fin (fun r fs=>r=sC (aO t k)∧fs=[]) jU
 |true=>
  have cno:(!(bA t.nodes[i] k).2)=false:=by rw[hp];rfl
  by_cases hc:0<i∧(aq (bA t.nodes[i] k).1).length=0
  ·have ci:dm 0 (i:Int)=true:=by rw[kC];simp;omega
   have nk:=(cZ (bA t.nodes[i] k).1 az az _).2 rfl
   have cl:dH (Int.ofNat (List.length ((aq (bA t.nodes[i] k).1).map bE))) 0=true:=by rw[fy,cm,hc.2];rfl
   have ep:eC t i k=gr t i 1 [] []:=by unfold eC;rw[hg,aZ hp,aZ hc]
   have rp:=o8 t i [] [] az az az az dI dI;rw[←ep] at rp;clear hR
   repeat' first
   |refine⟨_,hrow,?_⟩
   |refine⟨_,Hj,?_⟩
   |refine⟨_,_,np,?_⟩
   |refine⟨_,_,hx,?_⟩
   |refine ay cno ?_
   |refine ah ci ?_
   |refine⟨_,nk,?_⟩
   |refine ah cl ?_
   |refine⟨_,_,rp,?_⟩
   |refine⟨(sC (aO t k),([]:List TV)),?_,?_,rfl⟩
   |refine⟨(sC (aO t k),([]:List TV)),?_,?_,jU⟩
   |exact fin (fun a b=>(a,b)=(sC (aO t k),([]:List TV))) rfl
   |exact fin (fun r fs=>r=sC (aO t k)∧fs=[]) jU
  ·have ep:gr t i 1 [t.ak.getD i 0] [(bA t.nodes[i] k).1]=eC t i k:=by
    unfold eC;rw[hg,aZ hp,aR hc]
   rw[ep] at hx;clear hR
   by_cases TN:0<i
   ·have ci:dm 0 (i:Int)=true:=by rw[kC];simp;omega
    have nk:=(cZ (bA t.nodes[i] k).1 az az _).2 rfl
    have cl:dH (Int.ofNat (List.length ((aq (bA t.nodes[i] k).1).map bE))) 0=false:=by
     rw[fy,cm];exact pU fun e=>hc ⟨TN,by have e:((aq (bA t.nodes[i] k).1).length:Int)=0:=e;omega⟩
    repeat' first
   |refine⟨_,hrow,?_⟩
   |refine⟨_,Hj,?_⟩
   |refine⟨_,_,np,?_⟩
   |refine⟨_,_,hx,?_⟩
   |refine ay cno ?_
   |refine ah ci ?_
   |refine⟨_,nk,?_⟩
   |refine ay cl ?_
   |refine⟨(sC (aO t k),([]:List TV)),?_,?_,rfl⟩
   |refine⟨(sC (aO t k),([]:List TV)),?_,?_,jU⟩
   |exact fin (fun a b=>(a,b)=(sC (aO t k),([]:List TV))) rfl
   |exact fin (fun r fs=>r=sC (aO t k)∧fs=[]) jU
   ·have ci:dm 0 (i:Int)=false:=by rw[kC];simp;omega
    repeat' first
   |refine⟨_,hrow,?_⟩
   |refine⟨_,Hj,?_⟩
   |refine⟨_,_,np,?_⟩
   |refine⟨_,_,hx,?_⟩
   |refine ay cno ?_
   |refine ay ci ?_
   |refine⟨(sC (aO t k),([]:List TV)),?_,?_,rfl⟩
   |refine⟨(sC (aO t k),([]:List TV)),?_,?_,jU⟩
   |exact fin (fun a b=>(a,b)=(sC (aO t k),([]:List TV))) rfl
   |exact fin (fun r fs=>r=sC (aO t k)∧fs=[]) jU
theorem Po (b:List Int) (hb:b.length≤1048576):cJ C fZ [AF b] (fun r fs=>fs=[]∧ ∃h,r=Ez b 0 h):=by
 refine G1 _ _ ?_
 have key: ∀(d i:Nat) (h:Int),i+d=4000→an C fZ ai 4 0 (mB (b.map jP) h (i:Int)) (fun x st=>aP C fZ ai x st fun r fs=>fs=[]∧ ∃h,r=Ez b 0 h):=by
  intro d
  induction d with
  |zero=>
   intro i h hd;refine wm _ _ _ _ ?_
   by_cases h1:(i:Int)<(b.length:Int)
   ·exact ah jc (ay jc (Ec _ _ _ _ ⟨rfl,_,rfl⟩))
   ·exact ay jc (wo _ _ _ _ ⟨rfl,_,rfl⟩)
  |succ d ih=>
   intro i h hd;refine wm _ _ _ _ ?_
   by_cases h1:(i:Int)<(b.length:Int)
   ·refine ah jc (ah jc ⟨b[i]'az,by rw[bu,aL,aX az];rfl,?_⟩)
    rw[aV (a:=(i:Int)) az];exact ih (i+1) _ az
   ·exact ay jc (wo _ _ _ _ ⟨rfl,_,rfl⟩)
 exact key 4000 0 _ rfl
theorem zn (b:List Int) (i h:Int) (hi:0≤i) (hb:b.length≤1048576):cJ C lR [Ez b i h] (Dr b fun r=> ∃x,r=vI x∧0≤x∧x≤255):=by
 refine E0 _ _ _ _ ?_
 by_cases h1:i<(b.length:Int)
 ·obtain⟨x,hx⟩:=AB hi h1
  refine ah jc ⟨x,by rw[bu,hx];rfl,aB i 1,_,?_,rfl,_,rfl,Nz _⟩;rw[aV az];omega
 ·exact ay jc ⟨i,_,hi,rfl,_,rfl,Nz _⟩
theorem oH (b:List Int) (i h:Int) (hi:0≤i) (hb:b.length≤1048576) (n:Int) (hn:n≤16777216):cJ C gM [Ez b i h,vI n] (Dr b fun r=> ∃x,r=vI x∧0≤x∧(0<n→x<n)):=by
 refine Ef _ _ _ _ _ ?_
 by_cases h0:n≤0
 ·exact ah jc ⟨i,h,hi,rfl,0,rfl,Int.le_refl _,fun h=>by omega⟩
 refine ay jc ?_
 by_cases h1:n≤256
 ·obtain⟨_,_,hr,i1,BC,hi1,rfl,x,rfl,x0,x1⟩:=zn b i h hi hb
  refine ah jc ⟨x,_,i1,BC,hr,ay jc ⟨i1,BC,hi1,rfl,_,rfl,?_⟩⟩;rw[KO];have:=Iv x0 (show 0<n by omega);exact⟨this.1,fun _=>this.2⟩
 ·obtain⟨_,_,hr,i1,BC,hi1,rfl,x,rfl,x0,x1⟩:=zn b i h hi hb
  obtain⟨_,_,Cx,i2,K9,hi2,rfl,y,rfl,y0,y1⟩:=zn b i1 BC hi1 hb;obtain⟨_,_,W3,i3,Oh,Qj,rfl,z,rfl,z0,z1⟩:=zn b i2 K9 hi2 hb;refine ay jc ⟨x,_,i1,BC,hr,y,_,i2,K9,Cx,z,_,i3,Oh,W3,ay jc ⟨i3,Oh,Qj,rfl,_,rfl,?_⟩⟩;have e1:xR x 65536=x*65536:=GF az;have e2:xR y 256=y*256:=GF az;rw[KO,e1,e2,aV (a:=x*65536) az,aV az];have:=Iv (show 0≤x*65536+y*256+z by omega) (show 0<n by omega);exact⟨this.1,fun _=>this.2⟩
theorem K3 (b:List Int) (i h:Int) (hi:0≤i) (hb:b.length≤1048576) (l:List Int) (h0:0<l.length) (hl:l.length≤1000):cJ C tM [Ez b i h,DF l] (Dr b fun r=> ∃x,r=vI x∧x∈l):=by
 obtain⟨_,_,hr,i1,BC,hi1,rfl,x,rfl,x0,x1⟩:=oH b i h hi hb (l.length:Int) az;have:=x1 az;obtain⟨y,hy⟩:=AB x0 this;refine G4 _ _ _ _ _ ⟨x,_,i1,BC,by rw[cm];exact hr,y,by rw[bu,hy];rfl,i1,BC,hi1,rfl,y,rfl,Is hy⟩
theorem Pp (b:List Int):ax C DR [AF b] (vB (decide (1048576<b.length))) []:=by
 refine(J4 _ _ ⟨?_,by trivial⟩).run;simp<;>omega
theorem Rn {l:List Int} {x lo hi:Int} (h:x∈l) (ha:l.all (fun y=>decide (lo≤y∧y≤hi))=true):lo≤x∧x≤hi:=tV (List.all_eq_true.1 ha x h)
attribute [local semireducible] dQ in
theorem SN {a:Int} (h0:0≤a) (h1:a≤9223372036854775807):dQ .i64 a 12=a/12:=by
 show IntKind.i64.wrap (a.tdiv 12)=_;rw[Int.tdiv_eq_ediv_of_nonneg h0];exact IntWalk.i64_in _ az
theorem NU (b:List Int) (n:Int) (h3:3≤n) (hn:n≤1000) (hb:b.length≤1048576): ∃x,3≤x∧x≤n∧ax C vP [AF b,vI n] (vI x) []:=by
 have e:aB 3 (dQ .i64 (Int.ofNat (b.map jP).length) 12)=3+(b.length:Int)/12:=by
  rw[SN jc jc,aV jc];simp
 by_cases h:n<3+(b.length:Int)/12
 ·refine⟨n,h3,Int.le_refl _,(xA _ _ _ (ay dI ?_)).run⟩
  rw[e];exact ah (by simpa using h) jU
 ·refine⟨3+(b.length:Int)/12,by omega,by omega,(xA _ _ _ (ay dI ?_)).run⟩
  rw[e];exact ay (by simpa using h) jU
theorem NV (b:List Int) (i h:Int) (hi:0≤i) (hb:b.length≤1048576):cJ C vO [Ez b i h] (Dr b fun r=> ∃x,r=TV.ag (bE x)∧cv x=true):=by
 refine EM _ _ _ _ ?_;refine ya (oH b _ _ hi hb _ (by first|omega|(simp<;>omega))) fun n3 i1 h1 hi1 hx1=> ?_;refine ya (oH b _ _ hi1 hb _ (by first|omega|(simp<;>omega))) fun n7 i2 h2 hi2 N8=> ?_;refine ya (K3 b _ _ hi2 hb [0,1,1,1,2] dI dI) fun n11 i3 h3 Qj T6=> ?_;refine DC (fun e=> ?_) fun e=> ?_
 ·refine ya (oH b _ _ Qj hb _ (by first|omega|(simp<;>omega))) fun n15 i4 h4 W4 VN=> ?_
  refine ya (K3 b _ _ W4 hb [0,1,256,999] dI dI) fun n19 i5 h5 W5 W6=> ?_;have p1:=hx1.2 az;have p2:=N8.2 az;have p3:=Rn T6 (lo:=0) (hi:=2) rfl;have q1:=hx1.1;have q2:=N8.1;have p4:=VN.2 az;have q4:=VN.1;have p5:=Rn W6 (lo:=0) (hi:=999) rfl;have e1:=tV ((fy _ _).symm.trans e);exact GQ W5 ⟨⟨n3,aB 1 n7,n11,n15,n19⟩,rfl,by rw[aV az];exact NP az az az (.inl ⟨e1,by omega⟩)⟩
 ·have p1:=hx1.2 az
  have p2:=N8.2 az;have p3:=Rn T6 (lo:=0) (hi:=2) rfl;have q1:=hx1.1;have q2:=N8.1;have e1:=of_decide_eq_false ((fy _ _).symm.trans e);exact GQ Qj ⟨⟨n3,aB 1 n7,n11,0,0⟩,rfl,by rw[aV az];exact NP az az az (.inr ⟨e1,rfl,rfl⟩)⟩
theorem K4 (b:List Int) (i h:Int) (hi:0≤i) (hb:b.length≤1048576):cJ C tL [Ez b i h] (Dr b fun r=> ∃x,r=TV.ag (bE x)∧cv x=true):=by
 refine G0 _ _ _ _ ?_;refine JW (NV b _ _ hi hb) fun k1 i1 h1 hi1 hx1=> ?_;refine ya (oH b _ _ hi1 hb _ (by first|omega|(simp<;>omega))) fun n11 i2 h2 hi2 N8=> ?_;exact GQ hi2 ⟨⟨_,_,_,_,_⟩,rfl,Pf hx1 ⟨N8.1,by have:=N8.2 az;omega⟩⟩
theorem zo (l:List Key) (hl:l.length≤1073741824):ax C eX [cG l,cG l] (vB true) []:=by
 refine(B7 _ _ _ ?_).run;refine ay dI ?_;refine cE l (fun i=>an C eX ai 4 0 (jB (l.map bE) (l.map bE) i) _) ?_ ?_
 ·exact qS _ _ _ _ (ay dI (zP _ _ _ _ _ jU))
 ·intro i a hi ha _ _ hn
  refine qS _ _ _ _ (ah jc ?_);simp only[mm,aL,ha,bg,g9];refine ay dI ?_;rw[aV az];exact hn
theorem zp (l:List Int) (hl:l.length≤1073741824):ax C eY [DF l,DF l] (vB true) []:=by
 refine(BU _ _ _ ?_).run;refine ay dI ?_;refine cE l (fun i=>an C eY ai 4 0 (jx (l.map bW) (l.map bW) i) _) ?_ ?_
 ·exact qL _ _ _ _ (ay dI (zF _ _ _ _ _ jU))
 ·intro i a hi ha _ _ hn
  refine qL _ _ _ _ (ah jc ?_);simp only[tf,aL,ha,bg,g9];refine ay dI ?_;rw[aV az];exact hn
theorem zu (n:List (List Key)) (hz:aE n≤4194304):ax C eW [eF n,eF n] (vB true) []:=by
 refine(BQ _ _ _ ?_).run;refine ay dI ?_
 have hN:n.length≤4194304:=by unfold aE at hz;omega
 refine cE n (fun i=>an C eW ai 4 0 (jw i (n.map bL) (n.map bL)) _) ?_ ?_
 ·exact qJ _ _ _ _ (ay dI (zC _ _ _ _ _ jU))
 ·intro i a hi ha _ _ hn
  have h1:bF a≤tot bF n:=fI (w:=bF) ha;have e2:bF a=a.length:=rfl
  have hl:a.length≤1073741824:=by unfold aE at hz;omega
  have hr:rowAt (n.map bL) (i:Int)=some [TC.sub 5 (a.map bE)]:=by rw[bu,aL,ha];rfl
  refine qJ _ _ _ _ (ah jc ?_);rw[aV az]
  repeat' first
   |refine⟨_,hr,?_⟩
   |refine⟨_,zo a hl,?_⟩
   |refine ay rfl ?_
  exact hn
theorem qt (t:Tree) (hz:dy t≤4194304):ax C c7 [cS t,cS t] (vB true) []:=by
 have e1:dy t=t.ak.length+(t.nodes.length+tot aE t.nodes):=rfl;refine(B2 _ _ _ _ _ ⟨_,zp t.ak az,ay rfl ?_⟩).run;refine ay dI ?_;refine cE t.nodes (fun i=>an C c7 ai 4 0 (jA i (t.ak.map bW) (t.nodes.map bk) (t.ak.map bW) (t.nodes.map bk)) _) ?_ ?_
 ·exact qR _ _ _ _ _ _ (ay dI (zO _ _ _ _ _ _ _ jU))
 ·intro i a hi ha _ _ hn
  have h1:aE a≤tot aE t.nodes:=fI (w:=aE) ha
  have hr:rowAt (t.nodes.map bk) (i:Int)=some [TC.sub 1 (a.map bL)]:=by rw[bu,aL,ha];rfl
  have hs:=zu a az;refine qR _ _ _ _ _ _ (ah jc ?_);rw[aV az]
  repeat' first
   |refine⟨_,hr,?_⟩
   |refine⟨_,hs,?_⟩
   |refine ay rfl ?_
  exact hn
theorem zw:ax C tN [] (cS ⟨[0],[[]]⟩) []:=(Eh _ jU).run
theorem NW (b:List Int) (i h:Int) (hi:0≤i) (hb:b.length≤1048576) (n:Int) (h0:0≤n) (hn:n≤60):cJ C fO [Ez b i h,vI n] (Dr b fun r=> ∃t:Tree,r=cS t∧cw t=true∧((av t).length:Int)≤n):=by
 refine E5 _ _ _ _ _ ⟨_,_,zw,?_⟩;rw[aV az];refine ya (oH b _ _ hi hb _ az) fun x i1 h1 hi1 hx=> ?_;have hx1:=hx.2 az
 have key: ∀(d:Nat) (i h:Int) (t:Tree),0≤i→cw t=true→((av t).length:Int)+d≤n→an C fO ai 4 0 (lC (d:Int) (t.ak.map bW) (t.nodes.map bk) (b.map jP) i h) (fun x st=>aP C fO ai x st (Dr b fun r=> ∃t:Tree,r=cS t∧cw t=true∧((av t).length:Int)≤n)):=by
  intro d
  induction d with
  |zero=>
   intro i h t hi ht hl;exact u5 _ _ _ _ _ _ _ (ay dI (Cv _ _ _ _ _ _ _ _ (GQ hi ⟨t,rfl,ht,by omega⟩)))
  |succ d ih=>
   intro i h t hi ht hl;have hz:=AH ht;have e:dX ((d+1:Nat):Int) 1=(d:Int):=(gj az).trans az;refine u5 _ _ _ _ _ _ _ (ah jc (JW (K4 b _ _ hi hb) fun k i2 h2 hi2 hk=>⟨_,_,_,r9 t k az,?_⟩));rw[e];exact ih _ _ _ hi2 (IJ ht k) (by have:=GP ht hk;omega)
 obtain⟨d,rfl⟩: ∃d:Nat,x=(d:Int):=⟨x.toNat,by omega⟩;exact key d _ _ ⟨[0],[[]]⟩ hi1 JV (by rw[show av ⟨[0],[[]]⟩=[] from rfl];simp;omega)
theorem J1 (b:List Int) (hb:b.length≤1048576):cJ C rz [AF b] (fun r fs=>fs=[]∧ ∃(t:Tree) (k:Key),r= .tu [(1,KS t),(1,bE k)]∧cw t=true∧cv k=true):=by
 obtain⟨z,J6,hz1,hz⟩:=NU b 50 az az hb;refine Cw _ _ ?_;refine Ri (Po b hb) fun h1=> ?_;refine⟨_,hz,?_⟩;refine Pg (NW b _ _ (Int.le_refl 0) hb _ (by rw[aV az];omega) (by rw[aV az];omega)) fun v2 i2 h2 hi2 N8=> ?_;refine JW (K4 b _ _ hi2 hb) fun k3 i3 h3 Qj T6=> ?_;exact⟨rfl,v2,k3,rfl,N8.1,T6⟩
theorem IM {x y:Int} (h:x=y):vB (dH x y)=vB true:=by subst h;simp
theorem IN (b:List Int):ax C cA [AF b] (vB true) []:=by
 refine(Ei _ _ ⟨_,Pp b,?_⟩).run
 by_cases hb:1048576<b.length
 ·exact ah jc jU
 have hb:b.length≤1048576:=by omega
 obtain⟨_,_,e1,rfl,t,k,rfl,ht,hk⟩:=J1 b hb;have hz:=AH ht;have W7:=JP t k;have hkl:=tg t;refine ay jc ⟨_,_,_,_,_,_,_,e1,_,_,_,AT t k az,_,_,_,r9 t k az,ay dI ⟨_,qt _ az,ay rfl ⟨_,k9 t az,ay (by rw[ht];rfl) ?_⟩⟩⟩
 cases hp:(aO t k).2 with
 |false=>
  obtain⟨Qv,he⟩:=GO ht hk hp;rw[he];exact ah rfl (ah dI ⟨_,qt t az,ah rfl ⟨_,mw t az,⟨IM jc,by trivial⟩⟩⟩)
 |true=>
  have hsp:0≤bJ k.b k.a:=by have:=mu hk;rw[jR hk];omega
  have Vh:=oY hp;have hfind:=fun b a (h:0≤bJ b a)=>zf ht hk hp h;have Ep:=EC ht hk hp;obtain⟨u,hu⟩: ∃u,u=(aO t k).1:=⟨_,rfl⟩;simp only[←hu] at hfind Vh W7 Ep ⊢;have BA:=tg u
  have Xl:dy u≤400:=by omega
  obtain⟨Z,hZ⟩: ∃Z,Z=mW u k.b k.a:=⟨_,rfl⟩;have N5:=hfind k.b k.a hsp;rw[aZ jU,←hZ] at N5
  have rZ:ax C ff [cS u,vI k.b,vI k.a] (Ny Z) []:=by rw[hZ];exact nL u k.b k.a az
  refine ay rfl ⟨_,_,_,_,_,_,rZ,_,mw t az,_,mw u az,?_⟩;refine cE (av t) (fun i=>an C cA g7 4 0 (iC Z.2 (i:Int) (t.ak.map bW) (t.nodes.map bk) k.b k.a k.k k.c k.g Z.1.b Z.1.a Z.1.k Z.1.c Z.1.g ((av t).map bE) ((av u).map bE) (u.ak.map bW) (u.nodes.map bk)) _) ?_ ?_
  ·refine sA _ _ _ _ _ _ _ _ _ _ _ _ _ _ _ _ _ _ _ (ay dI (A8 _ _ _ _ _ _ _ _ _ _ _ _ _ _ _ _ _ _ _ _ ?_))
   have key: ∀(d i:Nat),1≤i→i+d=(av u).length+1→an C cA fh 4 2 (kj Z.2 (i:Int) (t.ak.map bW) (t.nodes.map bk) k.b k.a k.k k.c k.g Z.1.b Z.1.a Z.1.k Z.1.c Z.1.g ((av t).map bE) ((av u).map bE) (u.ak.map bW) (u.nodes.map bk)) (fun x st=>aP C cA fh x st fun r fs=>r=vB true∧fs=[]):=by
    have fin: ∀(i:Nat) (b239:Bool),aP C cA fh (TX.ex 2) (mZ Z.2 (i:Int) b239 (t.ak.map bW) (t.nodes.map bk) k.b k.a k.k k.c k.g Z.1.b Z.1.a Z.1.k Z.1.c Z.1.g ((av t).map bE) ((av u).map bE) (u.ak.map bW) (u.nodes.map bk)) (fun r fs=>r=vB true∧fs=[]):=fun i b239=>by
     refine A9 _ _ _ _ _ _ _ _ _ _ _ _ _ _ _ _ _ _ _ _ ⟨_,_,_,_,_,_,nL t k.b k.a az,?_⟩;have q1:=k9 u az;rw[Vh] at q1
     cases h1:(mW t k.b k.a).2 with
     |true=>
      rw[h1] at Ep
      by_cases h0:k.k=0
      ·rw[aZ h0] at N5 Ep
       rw[N5];exact ah rfl (ay rfl ⟨_,q1,ah rfl (ah (by simp[h0]) (ah rfl ⟨IM (by rw[gj jc];simp at Ep ⊢;omega),by trivial⟩))⟩)
      ·rw[aR h0] at N5 Ep
       rw[N5];exact ah rfl (ah rfl ⟨_,q1,ah rfl (ah (by simp[h0]) (ay rfl (ah dI ⟨IM (by rw[gj jc,aV jc];simp at Ep ⊢;omega),by trivial⟩)))⟩)
     |false=>
      rw[h1] at Ep
      by_cases h0:k.k=0
      ·rw[aZ h0] at N5 Ep
       rw[N5];exact ay rfl (ay rfl ⟨_,q1,ah rfl (ah (by simp[h0]) (ah rfl ⟨IM (by simp at Ep ⊢;omega),by trivial⟩))⟩)
      ·rw[aR h0] at N5 Ep
       rw[N5];exact ay rfl (ah rfl ⟨_,q1,ah rfl (ah (by simp[h0]) (ay rfl (ah dI ⟨IM (by rw[aV jc];simp at Ep ⊢;omega),by trivial⟩)))⟩)
    intro d
    induction d with
    |zero=>
     intro i h1 h2;exact m6 _ _ _ _ _ _ _ _ _ _ _ _ _ _ _ _ _ _ _ (ay jc (fin i _))
    |succ d ih=>
     intro i h1 h2
     by_cases hi:i<(av u).length
     ·obtain⟨a,ha⟩: ∃a,(av u)[i-1]?=some a:=⟨_,aX az⟩
      obtain⟨c,hc⟩: ∃c,(av u)[i]?=some c:=⟨_,aX hi⟩
      have ra:rowAt ((av u).map bE) ((i-1:Nat):Int)=some [iI a.b,iI a.a,iI a.k,iI a.c,iI a.g]:=by rw[bu,aL,ha];rfl
      have rc:rowAt ((av u).map bE) (i:Int)=some [iI c.b,iI c.a,iI c.k,iI c.c,iI c.g]:=by rw[bu,aL,hc];rfl
      have hlt:bZ a c=true:=by
       obtain⟨g1,rfl⟩:=List.getElem?_eq_some_iff.1 ha;obtain⟨g2,rfl⟩:=List.getElem?_eq_some_iff.1 hc;exact lP.2 (List.pairwise_iff_getElem.1 (nB Vh).eA _ _ g1 g2 az)
      have rL:ax C ke [td a,td c] (vB true) []:=(o7 _ _ _ _ _ _ _ _ _ _ _).2 hlt.symm;refine m6 _ _ _ _ _ _ _ _ _ _ _ _ _ _ _ _ _ _ _ (ah jc ?_);rw[show dX (i:Int) 1=((i-1:Nat):Int) from by rw[gj az];omega,aV az];exact⟨_,_,_,_,_,ra,_,_,_,_,_,ra,_,_,_,_,_,rc,_,_,_,_,_,rc,_,rL,ay rfl (ih (i+1) az az)⟩
     ·exact m6 _ _ _ _ _ _ _ _ _ _ _ _ _ _ _ _ _ _ _ (ay jc (fin i _))
   exact key (av u).length 1 az az
  ·intro i a hi ha _ _ RB
   have hr:rowAt ((av t).map bE) (i:Int)=some [iI a.b,iI a.a,iI a.k,iI a.c,iI a.g]:=by rw[bu,aL,ha];rfl
   have hmem:a∈av t:=ee ha;have hao:=(nB ht).KY hmem
   have has:0≤bJ a.b a.a:=by have:=mu hao;rw[jR hao];omega
   have T7:ax C dV [td a,td k] (vB (eP a k)) []:=(ud _ _ _ _ _ _ _ _ _ _ _).2 rfl;have hT:ax C ff [cS u,vI a.b,vI a.a] (Ny (mW u a.b a.a)) []:=nL u a.b a.a az;refine sA _ _ _ _ _ _ _ _ _ _ _ _ _ _ _ _ _ _ _ (ah jc ?_);rw[aV az]
   cases FY:eP a k with
   |true=>
    rw[FY] at T7
    repeat' first
     |exact RB
     |refine⟨_,_,_,_,_,hr,?_⟩
     |refine⟨_,_,_,_,_,_,hT,?_⟩
     |refine⟨_,T7,?_⟩
     |refine ay rfl ?_
     |rfl
     |refine⟨?_,?_⟩
   |false=>
    rw[FY] at T7
    have hv:mW u a.b a.a=(a,true):=by
     rw[hfind a.b a.a has,aR (fun h=>by have:=mo.2 ⟨h.1.symm,h.2.symm⟩;rw[FY] at this;cases this),JU ht hmem]
    rw[hv] at hT
    repeat' first
     |exact RB
     |refine⟨_,_,_,_,_,hr,?_⟩
     |refine⟨_,_,_,_,_,_,hT,?_⟩
     |refine⟨_,T7,?_⟩
     |refine ah rfl ?_
     |refine ay rfl ?_
     |refine ay dI ?_
     |rfl
     |refine⟨?_,?_⟩
theorem Ro {n z:Nat} (h:n*z≤reachBytes) (hz:1≤z):n≤140737488355328:=by
 have:reachBytes≤140737488355328:=by decide
 have h2:n*1≤n*z:=Nat.mul_le_mul_left n hz;omega
theorem Pq {r:List TC} (h:Ax C.tt K1 r): ∃n:Int,r=jP n∧(0≤n∧n≤255):=by
 obtain⟨n,rfl,h1⟩:=h.O4 (k:= .u8) K2;exact⟨n,rfl,Ss h1⟩
theorem J2 {r:List TC} (h:Ax C.tt r7 r): ∃l:List (Int),r=[.sub 1 (l.map jP)]∧l.length≤140737488355328∧ ∀x∈l,0≤x∧x≤255:=by
 obtain⟨w,rfl,y,z⟩:=h.LJ (e:=K1) K2;obtain⟨l,rfl,hl⟩:=DE fun r hr=>Pq (y r hr);rw[cm] at z;exact⟨l,rfl,Ro z (by decide+kernel),hl⟩
theorem Pt {v:TV} (h:PY C.tt r7 v): ∃l:List Int,v=AF l∧l.length≤140737488355328∧ ∀x∈l,0≤x∧x≤255:=by
 have ht:(C.tt r7).ti= .slice 5:=by kernel_rfl
 cases h with
 |c _ hw=>
  obtain⟨l,h1,h2,h3⟩:=J2 hw
  cases h1
  exact⟨l,rfl,h2,h3⟩
 |ag h1 _=>rw[ht] at h1;cases h1
theorem IP (vs:List TV) (h:Io C.tt [r7] vs): ∃k,e8 C k cA vs (vB true) []:=by
 cases h with
 |cons h0 h=>
  cases h
  obtain⟨b,rfl,_⟩:=Pt h0;exact IN b
end Go.T.R
