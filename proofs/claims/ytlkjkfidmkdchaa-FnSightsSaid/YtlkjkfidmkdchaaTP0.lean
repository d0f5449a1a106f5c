import Derived.Test.YtlkjkfidmkdchaaTR0
set_option linter.all false
set_option maxRecDepth 100000
set_option maxHeartbeats 4000000
namespace Go.T.R
open Go Go.T
theorem Lk {P:Prop} (h:P:=by kernel_rfl):P:=h
theorem Kh (a b c:Int):ax C vC [vI a,vI b,vI c] (vB (y6 a b c)) []:=by
 refine(EJ _ _ _ _ ?_).run;simp only[mT,dz,y6]
 split<;>simp_all<;>omega
theorem Oi (a b c:Int):ax C jk [vI a,vI b,vI c] (vB (y6 a b c)) []:=by
 refine(I5 _ _ _ _ ?_).run;simp only[mT,dz,y6]
 split<;>simp_all<;>omega
@[simp] theorem Ki (a b c:Int) (q:Bool):ax C jk [vI a,vI b,vI c] (vB q) []↔q=y6 a b c:=Df (Oi a b c)
theorem DA (b a k c g:Int):ax C pg [.ag [iI b,iI a,iI k,iI c,iI g]] (vB (c6 ⟨b,a,k,c,g⟩)) []:=by
 refine(G3 _ _ _ _ _ _ ?_).run;simp only[Ki,fX,c6,fD,cM,dz]
 cases y6 b 0 15<;>cases y6 a 1 60<;>cases y6 k 0 2<;>by_cases h:k=1<;>by_cases h1:c=0<;>by_cases h2:g=0<;>cases y6 c 0 23<;>simp_all
@[simp] theorem zh (b a k c g:Int) (q:Bool):ax C pg [.ag [iI b,iI a,iI k,iI c,iI g]] (vB q) []↔q=c6 ⟨b,a,k,c,g⟩:=Df (DA b a k c g)
@[simp] theorem DB (b a k c g b' a' k' c' g':Int) (q:Bool):ax C sP [.ag [iI b,iI a,iI k,iI c,iI g],.ag [iI b',iI a',iI k',iI c',iI g']] (vB q) []↔q=cg ⟨b,a,k,c,g⟩ ⟨b',a',k',c',g'⟩:=Df (by
  refine(DJ _ _ _ _ _ _ _ _ _ _ _ ?_).run;simp only[nG,fD,dz,cg]
  by_cases h1:b<b'<;>by_cases h2:b=b'<;>simp_all)
@[simp] theorem vG (b a k c g b' a' k' c' g':Int) (q:Bool):ax C oE [.ag [iI b,iI a,iI k,iI c,iI g],.ag [iI b',iI a',iI k',iI c',iI g']] (vB q) []↔q=cg ⟨b,a,k,c,g⟩ ⟨b',a',k',c',g'⟩:=Df (by
  refine(DW _ _ _ _ _ _ _ _ _ _ _ ?_).run;simp only[nG,fD,cM,dz,cg]
  by_cases h2:b=b'<;>simp_all)
@[simp] theorem Bo (b a k c g b' a' k' c' g':Int) (q:Bool):ax C kM [.ag [iI b,iI a,iI k,iI c,iI g],.ag [iI b',iI a',iI k',iI c',iI g']] (vB q) []↔q=fK ⟨b,a,k,c,g⟩ ⟨b',a',k',c',g'⟩:=Df (by
  refine(BZ _ _ _ _ _ _ _ _ _ _ _ ?_).run;simp only[nG,fD,cM,dz,fK]
  by_cases h2:b=b'<;>simp_all)
@[simp] theorem Bp (b a k c g b' a' k' c' g':Int) (q:Bool):ax C kN [.ag [iI b,iI a,iI k,iI c,iI g],.ag [iI b',iI a',iI k',iI c',iI g']] (vB q) []↔q=fK ⟨b,a,k,c,g⟩ ⟨b',a',k',c',g'⟩:=Df (by
  refine(B7 _ _ _ _ _ _ _ _ _ _ _ ?_).run;simp only[nG,fD,cM,dz,fK]
  by_cases h2:b=b'<;>simp_all)
theorem iV (l:List Key) (x:Key) (hl:l.length≤1073741824):ax C aY [ct l,JX x] (ct (cE l x)) []:=by
 refine(EY _ _ _ _ _ _ _ ?_).run
 have key: ∀(put:Bool) (acc:List Key),acc.length+(l.drop 0).length≤l.length+(if put then 1 else 0)→acc++cw x put (l.drop 0)=cE l x→aj C aY aK 4 0 (dy (l.map bE) put ((0:Nat):Int) x.b x.a x.k x.c x.g (acc.map bE)) (fun u st=>aJ C aY aK u st fun r fs=>r=ct (cE l x)∧fs=[]):=by
  refine cc l (fun i=> ∀(put:Bool) (acc:List Key),acc.length+(l.drop i).length≤l.length+(if put then 1 else 0)→acc++cw x put (l.drop i)=cE l x→aj C aY aK 4 0 (dy (l.map bE) put i x.b x.a x.k x.c x.g (acc.map bE)) _) ?_ ?_
  ·intro put acc hb he
   refine uI _ _ _ _ _ _ _ _ _ _ (aB dM (B9 _ _ _ _ _ _ _ _ _ _ _ ?_));simp only[qe,dP,iO,ek,cM,cJ,ck]
   have hb2:acc.length≤l.length+1:=by simp at hb;split at hb<;>omega
   rw[c8 aA];rw[iC] at he
   cases put<;>simp[cw] at he ⊢ <;>rw[←he]<;>simp
  ·intro i a hi ha hd _ hn put acc hb he
   rw[hd] at hb he;simp only[eC] at hb
   have hb':acc.length+(List.drop (i+1) l).length+1≤l.length+1:=by split at hb<;>omega
   refine uI _ _ _ _ _ _ _ _ _ _ (ak kR ?_);simp only[lB,aU,ha,aR,g8,vG,Bp,fX,cM,dP,qe,iO,ek,cJ,ck,cr,fP];simp (disch:=omega) only[c8,aV,rz];simp only[cw] at he
   cases put<;>cases hk:cg a x<;>cases hs:fK a x<;>simp only[rz,FG]<;>simp[hk,hs] at he hb<;>exact hn _ _ (by simp at hb ⊢;omega) (by simpa using he)
 exact key false [] dM rfl
@[simp] theorem Em (l:List Key) (hl:l.length≤1073741824) (b a k c g:Int) (q:RR):ax C aY [.c (.sub 5 (l.map bE)),.ag [iI b,iI a,iI k,iI c,iI g]] (.c (.sub 5 q)) []↔q=(cE l ⟨b,a,k,c,g⟩).map bE:=L5 (iV l ⟨b,a,k,c,g⟩ hl)
theorem Bq (l:List Key) (x:Key) (hl:l.length≤1073741824):ax C cK [ct l,JX x] (ct (cE l x)) []:=by
 refine(Ey _ _ _ _ _ _ _ ?_).run
 have key: ∀(put:Bool) (acc:List Key),acc.length+(l.drop 0).length≤l.length+(if put then 1 else 0)→acc++cw x put (l.drop 0)=cE l x→aj C cK aK 4 0 (dx put (l.map bE) ((0:Nat):Int) x.b x.a x.k x.c x.g (acc.map bE)) (fun u st=>aJ C cK aK u st fun r fs=>r=ct (cE l x)∧fs=[]):=by
  refine cc l (fun i=> ∀(put:Bool) (acc:List Key),acc.length+(l.drop i).length≤l.length+(if put then 1 else 0)→acc++cw x put (l.drop i)=cE l x→aj C cK aK 4 0 (dx put (l.map bE) i x.b x.a x.k x.c x.g (acc.map bE)) _) ?_ ?_
  ·intro put acc hb he
   refine uk _ _ _ _ _ _ _ _ _ _ (aB dM (BH _ _ _ _ _ _ _ _ _ _ _ _ ?_));simp only[qe,dP,iO,ek,cM,cJ,ck]
   have hb2:acc.length≤l.length+1:=by simp at hb;split at hb<;>omega
   rw[c8 aA];rw[iC] at he
   cases put<;>simp[cw] at he ⊢ <;>rw[←he]<;>simp
  ·intro i a hi ha hd _ hn put acc hb he
   rw[hd] at hb he;simp only[eC] at hb
   have hb':acc.length+(List.drop (i+1) l).length+1≤l.length+1:=by split at hb<;>omega
   refine uk _ _ _ _ _ _ _ _ _ _ (ak kR ?_);simp only[lB,aU,ha,aR,g8,DB,Bo,fX,cM,dP,qe,iO,ek,cJ,ck,cr,fP];simp (disch:=omega) only[c8,aV,rz];simp only[cw] at he
   cases put<;>cases hk:cg a x<;>cases hs:fK a x<;>simp only[rz,FG]<;>simp[hk,hs] at he hb<;>exact hn _ _ (by simp at hb ⊢;omega) (by simpa using he)
 exact key false [] dM rfl
@[simp] theorem En (l:List Key) (hl:l.length≤1073741824) (b a k c g:Int) (q:RR):ax C cK [.c (.sub 5 (l.map bE)),.ag [iI b,iI a,iI k,iI c,iI g]] (.c (.sub 5 q)) []↔q=(cE l ⟨b,a,k,c,g⟩).map bE:=L5 (Bq l ⟨b,a,k,c,g⟩ hl)
theorem ya (old new:List Key) (hl:old.length+new.length≤1073741824):ax C cH [ct old,ct new] (ct (bh old new)) []:=by
 refine(AH _ _ _ ?_).run;rw[ie,c8 kR];refine ak rfl ?_
 have key: ∀(acc:List Key),acc.length+(new.drop 0).length≤old.length+new.length→bh acc (new.drop 0)=bh old new→aj C cH ai 4 0 (gl (new.map bE) ((0:Nat):Int) (acc.map bE)) (fun u st=>aJ C cH ai u st fun r fs=>r=(ct (bh old new))∧fs=[]):=by
  refine cc new (fun i=> ∀(acc:List Key),acc.length+(new.drop i).length≤old.length+new.length→bh acc (new.drop i)=bh old new→aj C cH ai 4 0 (gl (new.map bE) i (acc.map bE)) (fun u st=>aJ C cH ai u st fun r fs=>r=(ct (bh old new))∧fs=[])) ?_ ?_
  ·intro acc h0 h1
   refine pF _ _ _ _ (aB dM (yg _ _ _ _ _ ?_));rw[iC] at h1;rw[←h1];exact jC
  ·intro i a hi ha hd ht hn acc h0 h1
   refine pF _ _ _ _ (ak kR ?_);rw[hd] at h0 h1;simp only[eC] at h0;simp only[lB,Em acc aA,aU,ha,aR,g8,fX,cM,fk,ic,dP,fm,dX,fo,fq,ig,cJ,natAdd,ck,cr,fP,ek,ko];rw[aV aA];have h2:=jN acc a;exact hn _ aA (by rw[←h1];rfl)
 exact key old dM rfl
theorem Aq (old new:List Key) (hl:old.length+new.length≤1073741824) (q:RR):ax C cH [ct old,ct new] (.c (.sub 5 q)) []↔q=(bh old new).map bE:=L5 (ya old new hl)
theorem qJ (l:List Key) (hl:l.length≤1073741824):ax C bS [ct l] (ct (gh l)) []:=by
 refine(I3 _ _ ?_).run
 have key: ∀(acc:List Key),acc.length+(l.drop 0).length≤l.length→acc++gh (l.drop 0)=gh l→aj C bS ai 4 0 (jl (l.map bE) ((0:Nat):Int) (acc.map bE)) (fun u st=>aJ C bS ai u st fun r fs=>r=(ct (gh l))∧fs=[]):=by
  refine cc l (fun i=> ∀(acc:List Key),acc.length+(l.drop i).length≤l.length→acc++gh (l.drop i)=gh l→aj C bS ai 4 0 (jl (l.map bE) i (acc.map bE)) (fun u st=>aJ C bS ai u st fun r fs=>r=(ct (gh l))∧fs=[])) ?_ ?_
  ·intro acc h0 h1
   refine xx _ _ _ _ (aB dM (EK _ _ _ _ _ ?_));rw[iC] at h1;simp[gh] at h1;simp[gh,h1]
  ·intro i a hi ha hd ht hn acc h0 h1
   refine xx _ _ _ _ (ak kR ?_);rw[hd] at h0 h1;simp only[eC] at h0;simp only[lB,qe,iO,fD,dz,aU,ha,aR,g8,fX,cM,fk,ic,dP,fm,dX,fo,fq,ig,cJ,natAdd,ck,cr,fP,ek,ko];simp (disch:=omega) only[c8,aV,rz]
   by_cases hk:a.k=0
   ·rw[aT hk]
    exact hn _ aA (by rw[←h1];simp[gh,hk])
   ·rw[aL hk]
    exact hn (acc++[a]) (by simp only[cr,fP];omega) (by rw[←h1];simp[gh,hk])
 exact key [] dM rfl
theorem qj (n:List (List Key)) (hb:n.length≤1073741824) (hl:tot bL n≤1073741824):ax C aD [mE n] (ct (an n)) []:=by
 refine(BD _ _ ?_).run
 have key: ∀(acc:List Key),acc.length+tot bL (n.drop 0)≤tot bL n→(n.drop 0).foldl bh acc=lJ n→aj C aD ai 4 0 (gQ ((0:Nat):Int) (n.map ej) (acc.map bE)) (fun u st=>aJ C aD ai u st fun r fs=>r=(ct (an n))∧fs=[]):=by
  refine cc n (fun i=> ∀(acc:List Key),acc.length+tot bL (n.drop i)≤tot bL n→(n.drop i).foldl bh acc=lJ n→aj C aD ai 4 0 (gQ i (n.map ej) (acc.map bE)) (fun u st=>aJ C aD ai u st fun r fs=>r=(ct (an n))∧fs=[])) ?_ ?_
  ·intro acc h0 h1
   refine qt _ _ _ _ (aB dM (zp _ _ _ _ _ ?_));rw[iC] at h0 h1;simp only[List.foldl_nil] at h1;refine⟨_,qJ acc aA,?_⟩;rw[h1];exact jC
  ·intro i a hi ha hd ht hn acc h0 h1
   refine qt _ _ _ _ (ak kR ?_);rw[hd] at h0 h1;simp only[tot,bL] at h0;simp only[xT,Aq acc a aA,aU,ha,aR,g8,fX,cM,fk,ic,dP,fm,dX,fo,fq,ig,cJ,natAdd,ck,cr,fP,ek,ko];rw[aV aA];have h2:=m6 a acc;exact hn _ aA (by rw[←h1];rfl)
 exact key [] dM rfl
theorem cP (n:List (List Key)) (hb:n.length≤1073741824) (hl:tot bL n≤1073741824) (q:RR):ax C aD [.ag [.sub 1 (n.map ej)]] (.c (.sub 5 q)) []↔q=(an n).map bE:=L5 (qj n hb hl)
theorem qk (t:Tree) (hl:dU t≤1073741824):ax C cT [dS t] (ct (ay t)) []:=by
 refine(B2 _ _ _ ?_).run
 have key: ∀(acc:List Key),acc.length+tot aQ (t.nodes.drop 0)≤tot aQ t.nodes→acc++(t.nodes.drop 0).flatMap an=ay t→aj C cT ai 4 0 (gU ((0:Nat):Int) (t.au.map cO) (t.nodes.map bO) (acc.map bE)) (fun u st=>aJ C cT ai u st fun r fs=>r=(ct (ay t))∧fs=[]):=by
  refine cc t.nodes (fun i=> ∀(acc:List Key),acc.length+tot aQ (t.nodes.drop i)≤tot aQ t.nodes→acc++(t.nodes.drop i).flatMap an=ay t→aj C cT ai 4 0 (gU i (t.au.map cO) (t.nodes.map bO) (acc.map bE)) (fun u st=>aJ C cT ai u st fun r fs=>r=(ct (ay t))∧fs=[])) ?_ ?_
  ·intro acc h0 h1
   refine qw _ _ _ _ _ (aB dM (zx _ _ _ _ _ _ ?_));rw[iC] at h1;simp at h1;simp[h1]
  ·intro i a hi ha hd ht hn acc h0 h1
   refine qw _ _ _ _ _ (ak (by have:=hi;unfold dU qd at hl;simp;omega) ?_);have hz:a.length+tot bL a≤tot aQ t.nodes:=mh (w:=aQ) ha;rw[hd] at h0 h1;simp only[tot,aQ] at h0;unfold dU qd at hl;have h2:=cN a;simp only[K8,y5,cP a aA aA,ie,aU,ha,aR,g8,fX,cM,fk,ic,dP,fm,dX,fo,fq,ig,cJ,natAdd,ck,cr,fP,ek,ko];rw[c8 aA,aV aA];refine ak rfl ?_;rw[←yt];exact hn _ kR (by rw[←h1];simp)
 exact key [] dM rfl
theorem td (t:Tree) (b:Int) (hl:dU t≤1073741824):ax C dH [dS t,vI b] (ct (bG t b)) []:=by
 refine(EH _ _ _ _ ?_).run;refine⟨_,qk t hl,?_⟩
 have key: ∀(acc:List Key),acc.length+((ay t).drop 0).length≤(ay t).length→acc++((ay t).drop 0).filter (fun k=>decide (k.b=b))=bG t b→aj C dH aK 4 0 (gD b ((0:Nat):Int) (acc.map bE) ((ay t).map bE)) (fun u st=>aJ C dH aK u st fun r fs=>r=(ct (bG t b))∧fs=[]):=by
  refine cc (ay t) (fun i=> ∀(acc:List Key),acc.length+((ay t).drop i).length≤(ay t).length→acc++((ay t).drop i).filter (fun k=>decide (k.b=b))=bG t b→aj C dH aK 4 0 (gD b i (acc.map bE) ((ay t).map bE)) (fun u st=>aJ C dH aK u st fun r fs=>r=(ct (bG t b))∧fs=[])) ?_ ?_
  ·intro acc h0 h1
   refine uy _ _ _ _ _ (aB dM (BT _ _ _ _ _ _ ?_));rw[iC] at h1;simp at h1;simp[h1]
  ·intro i a hi ha hd ht hn acc h0 h1
   refine uy _ _ _ _ _ (ak kR ?_);rw[hd] at h0 h1;simp only[eC] at h0;have hz:=mj t;simp only[lB,qe,iO,fD,dz,aU,ha,aR,g8,fX,cM,fk,ic,dP,fm,dX,fo,fq,ig,cJ,natAdd,ck,cr,fP,ek,ko];simp (disch:=omega) only[c8,aV,rz]
   by_cases hk:a.b=b
   ·rw[aT hk]
    exact hn (acc++[a]) (by simp only[cr,fP];omega) (by rw[←h1];simp[hk])
   ·rw[aL hk]
    exact hn _ aA (by rw[←h1];simp[hk])
 exact key [] dM rfl
theorem zi (l:List Key) (hl:l.length≤2147483648):ax C qI [ct l] (ct l) []:=by
 refine(B3 _ _ ?_).run;rw[ie,c8 kR];exact jC
theorem yc (old new:List Key) (hl:old.length+new.length≤1073741824):ax C cG [ct old,ct new] (ct (bh old new)) []:=by
 refine(AG _ _ _ ?_).run;refine⟨_,zi old aA,?_⟩
 have key: ∀(acc:List Key),acc.length+(new.drop 0).length≤old.length+new.length→bh acc (new.drop 0)=bh old new→aj C cG ai 4 0 (gj (new.map bE) ((0:Nat):Int) (acc.map bE)) (fun u st=>aJ C cG ai u st fun r fs=>r=(ct (bh old new))∧fs=[]):=by
  refine cc new (fun i=> ∀(acc:List Key),acc.length+(new.drop i).length≤old.length+new.length→bh acc (new.drop i)=bh old new→aj C cG ai 4 0 (gj (new.map bE) i (acc.map bE)) (fun u st=>aJ C cG ai u st fun r fs=>r=(ct (bh old new))∧fs=[])) ?_ ?_
  ·intro acc h0 h1
   refine pE _ _ _ _ (aB dM (yf _ _ _ _ _ _ ?_));rw[iC] at h1;rw[←h1];exact jC
  ·intro i a hi ha hd ht hn acc h0 h1
   refine pE _ _ _ _ (ak kR ?_);rw[hd] at h0 h1;simp only[eC] at h0;simp only[lB,En acc aA,aU,ha,aR,g8,fX,cM,fk,ic,dP,fm,dX,fo,fq,ig,cJ,natAdd,ck,cr,fP,ek,ko];rw[aV aA];have h2:=jN acc a;exact hn _ aA (by rw[←h1];rfl)
 exact key old dM rfl
theorem Ar (old new:List Key) (hl:old.length+new.length≤1073741824) (q:RR):ax C cG [ct old,ct new] (.c (.sub 5 q)) []↔q=(bh old new).map bE:=L5 (yc old new hl)
theorem Eo (l:List Key) (hl:l.length≤1073741824):ax C fT [ct l] (ct (gh l)) []:=by
 refine(I6 _ _ ?_).run
 have key: ∀(acc:List Key),acc.length+(l.drop 0).length≤l.length→acc++gh (l.drop 0)=gh l→aj C fT ai 4 0 (jm (l.map bE) ((0:Nat):Int) (acc.map bE)) (fun u st=>aJ C fT ai u st fun r fs=>r=(ct (gh l))∧fs=[]):=by
  refine cc l (fun i=> ∀(acc:List Key),acc.length+(l.drop i).length≤l.length→acc++gh (l.drop i)=gh l→aj C fT ai 4 0 (jm (l.map bE) i (acc.map bE)) (fun u st=>aJ C fT ai u st fun r fs=>r=(ct (gh l))∧fs=[])) ?_ ?_
  ·intro acc h0 h1
   refine xy _ _ _ _ (aB dM (ES _ _ _ _ _ _ ?_));rw[iC] at h1;simp[gh] at h1;simp[gh,h1]
  ·intro i a hi ha hd ht hn acc h0 h1
   refine xy _ _ _ _ (ak kR ?_);rw[hd] at h0 h1;simp only[eC] at h0;simp only[lB,qe,iO,fD,dz,aU,ha,aR,g8,fX,cM,fk,ic,dP,fm,dX,fo,fq,ig,cJ,natAdd,ck,cr,fP,ek,ko];simp (disch:=omega) only[c8,aV,rz]
   by_cases hk:a.k=0
   ·rw[aT hk]
    exact hn _ aA (by rw[←h1];simp[gh,hk])
   ·rw[aL hk]
    exact hn (acc++[a]) (by simp only[cr,fP];omega) (by rw[←h1];simp[gh,hk])
 exact key [] dM rfl
theorem zj (n:List (List Key)) (hb:n.length≤1073741824) (hl:tot bL n≤1073741824):ax C cS [mE n] (ct (an n)) []:=by
 refine(BO _ _ ?_).run
 have key: ∀(acc:List Key),acc.length+tot bL (n.drop 0)≤tot bL n→(n.drop 0).foldl bh acc=lJ n→aj C cS ai 4 0 (gR (n.map ej) ((0:Nat):Int) (acc.map bE)) (fun u st=>aJ C cS ai u st fun r fs=>r=(ct (an n))∧fs=[]):=by
  refine cc n (fun i=> ∀(acc:List Key),acc.length+tot bL (n.drop i)≤tot bL n→(n.drop i).foldl bh acc=lJ n→aj C cS ai 4 0 (gR (n.map ej) i (acc.map bE)) (fun u st=>aJ C cS ai u st fun r fs=>r=(ct (an n))∧fs=[])) ?_ ?_
  ·intro acc h0 h1
   refine qu _ _ _ _ (aB dM (zu _ _ _ _ _ _ ?_));rw[iC] at h0 h1;simp only[List.foldl_nil] at h1;refine⟨_,Eo acc aA,?_⟩;rw[h1];exact jC
  ·intro i a hi ha hd ht hn acc h0 h1
   refine qu _ _ _ _ (ak kR ?_);rw[hd] at h0 h1;simp only[tot,bL] at h0;simp only[xT,Ar acc a aA,aU,ha,aR,g8,fX,cM,fk,ic,dP,fm,dX,fo,fq,ig,cJ,natAdd,ck,cr,fP,ek,ko];rw[aV aA];have h2:=m6 a acc;exact hn _ aA (by rw[←h1];rfl)
 exact key [] dM rfl
theorem Br (n:List (List Key)) (hb:n.length≤1073741824) (hl:tot bL n≤1073741824) (q:RR):ax C cS [.ag [.sub 1 (n.map ej)]] (.c (.sub 5 q)) []↔q=(an n).map bE:=L5 (zj n hb hl)
theorem zk (t:Tree) (hl:dU t≤1073741824):ax C dw [dS t] (ct (ay t)) []:=by
 refine(B1 _ _ _ ?_).run
 have key: ∀(acc:List Key),acc.length+tot aQ (t.nodes.drop 0)≤tot aQ t.nodes→acc++(t.nodes.drop 0).flatMap an=ay t→aj C dw ai 4 0 (gT (t.nodes.map bO) ((0:Nat):Int) (acc.map bE)) (fun u st=>aJ C dw ai u st fun r fs=>r=(ct (ay t))∧fs=[]):=by
  refine cc t.nodes (fun i=> ∀(acc:List Key),acc.length+tot aQ (t.nodes.drop i)≤tot aQ t.nodes→acc++(t.nodes.drop i).flatMap an=ay t→aj C dw ai 4 0 (gT (t.nodes.map bO) i (acc.map bE)) (fun u st=>aJ C dw ai u st fun r fs=>r=(ct (ay t))∧fs=[])) ?_ ?_
  ·intro acc h0 h1
   refine qv _ _ _ _ (aB dM (zw _ _ _ _ _ _ ?_));rw[iC] at h1;simp at h1;simp[h1]
  ·intro i a hi ha hd ht hn acc h0 h1
   refine qv _ _ _ _ (ak (by have:=hi;unfold dU qd at hl;simp;omega) ?_);have hz:a.length+tot bL a≤tot aQ t.nodes:=mh (w:=aQ) ha;rw[hd] at h0 h1;simp only[tot,aQ] at h0;unfold dU qd at hl;have h2:=cN a;simp only[K8,y5,Br a aA aA,ie,aU,ha,aR,g8,fX,cM,fk,ic,dP,fm,dX,fo,fq,ig,cJ,natAdd,ck,cr,fP,ek,ko];rw[c8 aA,aV aA];refine ak rfl ?_;rw[←yt];exact hn _ kR (by rw[←h1];simp)
 exact key [] dM rfl
theorem tf (t:Tree) (b:Int) (hl:dU t≤1073741824):ax C dG [dS t,vI b] (ct (bG t b)) []:=by
 refine(Ew _ _ _ _ ?_).run;refine⟨_,zk t hl,?_⟩
 have key: ∀(acc:List Key),acc.length+((ay t).drop 0).length≤(ay t).length→acc++((ay t).drop 0).filter (fun k=>decide (k.b=b))=bG t b→aj C dG ai 4 0 (gC b ((ay t).map bE) ((0:Nat):Int) (acc.map bE)) (fun u st=>aJ C dG ai u st fun r fs=>r=(ct (bG t b))∧fs=[]):=by
  refine cc (ay t) (fun i=> ∀(acc:List Key),acc.length+((ay t).drop i).length≤(ay t).length→acc++((ay t).drop i).filter (fun k=>decide (k.b=b))=bG t b→aj C dG ai 4 0 (gC b ((ay t).map bE) i (acc.map bE)) (fun u st=>aJ C dG ai u st fun r fs=>r=(ct (bG t b))∧fs=[])) ?_ ?_
  ·intro acc h0 h1
   refine uh _ _ _ _ _ (aB dM (BE _ _ _ _ _ _ _ ?_));rw[iC] at h1;simp at h1;simp[h1]
  ·intro i a hi ha hd ht hn acc h0 h1
   refine uh _ _ _ _ _ (ak kR ?_);rw[hd] at h0 h1;simp only[eC] at h0;have hz:=mj t;simp only[lB,qe,iO,fD,dz,aU,ha,aR,g8,fX,cM,fk,ic,dP,fm,dX,fo,fq,ig,cJ,natAdd,ck,cr,fP,ek,ko];simp (disch:=omega) only[c8,aV,rz]
   by_cases hk:a.b=b
   ·rw[aT hk]
    exact hn (acc++[a]) (by simp only[cr,fP];omega) (by rw[←h1];simp[hk])
   ·rw[aL hk]
    exact hn _ aA (by rw[←h1];simp[hk])
 exact key [] dM rfl
theorem jQ (l:List jg) (id:Int) (hl:l.length≤1073741824):ax C cv [kG l,vI id] (vI (ei l id)) []:=by
 refine(G5 _ _ _ ?_).run
 have key:jZ (fun a:jg=>decide (a.id=id)) (l.drop 0) ((0:Nat):Int)=jZ (fun a:jg=>decide (a.id=id)) l 0→aj C cv aE 4 0 (jS (l.map e8) id ((0:Nat):Int)) (fun u st=>aJ C cv aE u st fun r fs=>r=vI (ei l id)∧fs=[]):=by
  refine cc l (fun i=>jZ (fun a:jg=>decide (a.id=id)) (l.drop i) (i:Int)=jZ (fun a:jg=>decide (a.id=id)) l 0→aj C cv aE 4 0 (jS (l.map e8) id i) _) ?_ ?_
  ·intro h0
   refine v7 _ _ _ _ (aB dM (DR _ _ _ _ _ ?_));rw[iC] at h0;simp only[jZ] at h0;change _=vI (jZ (fun a:jg=>decide (a.id=id)) l 0)∧_;rw[←h0];exact jC
  ·intro i a hi ha hd Kq hn h0
   refine v7 _ _ _ _ (ak kR ?_);rw[hd] at h0;simp only[jZ] at h0;simp only[De,fD,dz,aU,ha,aR,g8,fX,cM,fk,ic,dP,fm,dX,fo,fq,ig,cJ,natAdd,ck,cr,fP,ek,ko];rw[aV aA]
   split at h0
   ·rename_i hp
    have hp:=oL hp
    first|rw[aT hp]|rw[aT hp.symm]
    refine DQ _ _ ?_;rw[h0];exact jC
   ·rename_i hp
    have hp: ¬_:=fun h=>hp (nT h)
    first|rw[aL hp]|rw[aL (fun h=>hp h.symm)]
    exact hn h0
 exact key rfl
@[simp] theorem DC (a b id:Int) (q:Bool):ax C oD [.ag [iI a,iI b],.bx [iI id]] (vB q) []↔q=decide (a=id):=Df (by
  refine(D2 _ _ _ _ ?_).run
  simp)
theorem Ep (l:List jg) (id:Int) (hl:l.length≤1073741824):ax C bB [kG l,.fn oD [[iI id]]] (vI (ei l id)) []:=by
 refine(kP _ _ _ ?_).run
 have key:jZ (fun a:jg=>decide (a.id=id)) (l.drop 0) ((0:Nat):Int)=jZ (fun a:jg=>decide (a.id=id)) l 0→aj C bB aE 4 0 (bM (l.map e8) ((0:Nat):Int) id) (fun u st=>aJ C bB aE u st fun r fs=>r=vI (ei l id)∧fs=[]):=by
  refine cc l (fun i=>jZ (fun a:jg=>decide (a.id=id)) (l.drop i) (i:Int)=jZ (fun a:jg=>decide (a.id=id)) l 0→aj C bB aE 4 0 (bM (l.map e8) i id) _) ?_ ?_
  ·intro h0
   refine fC _ _ _ _ (aB dM (j8 _ _ _ _ _ _ ?_));rw[iC] at h0;simp only[jZ] at h0;change _=vI (jZ (fun a:jg=>decide (a.id=id)) l 0)∧_;rw[←h0];exact jC
  ·intro i a hi ha hd Kq hn h0
   refine fC _ _ _ _ (ak kR ?_);rw[hd] at h0;simp only[jZ] at h0;simp only[De,fD,DC,dz,aU,ha,aR,g8,fX,cM,fk,ic,dP,fm,dX,fo,fq,ig,cJ,natAdd,ck,cr,fP,ek,ko];rw[aV aA]
   split at h0
   ·rename_i hp
    have hp:=oL hp
    first|rw[aT hp]|rw[aT hp.symm]
    refine j7 _ _ _ ?_;rw[h0];exact jC
   ·rename_i hp
    have hp: ¬_:=fun h=>hp (nT h)
    first|rw[aL hp]|rw[aL (fun h=>hp h.symm)]
    exact hn h0
 exact key rfl
theorem vH (l:List jg) (id:Int) (hl:l.length≤1073741824):ax C o9 [kG l,vI id] (vI (ei l id)) []:=(He _ _ _ ⟨_,Ep l id hl,rfl,by trivial⟩).run
theorem GX (l:List jg) (id:Int) (hl:l.length≤1073741824) (q:Int):ax C cv [kG l,vI id] (vI q) []↔q=ei l id:=PM (jQ l id hl)
theorem Bs (l:List jg) (id:Int) (hl:l.length≤1073741824):ax C e9 [kG l,vI id] (rC (pathOf l id)) []:=by
 refine(EL _ _ _ ⟨_,jQ l id hl,?_⟩).run
 have key: ∀(n:Nat) (id':Int) (acc:List Int),acc.length+n=l.length+1→acc++mF l n id'=pathOf l id→aj C e9 vJ 4 0 (kZ (l.map e8) (ei l id') (acc.map cO)) (fun u st=>aJ C e9 vJ u st fun r fs=>r=rC (pathOf l id)∧fs=[]):=by
  intro n
  induction n with
  |zero=>
   intro id' acc h0 h1;simp only[mF,ke] at h1;refine nO _ _ _ _ (rB (fun _=> ?_) fun _=>uz _ _ _ _ (by rw[h1];exact jC));exact aB kR (BU _ _ _ _ _ (by rw[h1];exact jC))
  |succ n ih=>
   intro id' acc h0 h1;simp only[mF] at h1
   by_cases h:ei l id'<0
   ·rw[aT h,ke] at h1
    exact nO _ _ _ _ (aB kR (uz _ _ _ _ (by rw[h1];exact jC)))
   ·rw[aL h] at h1
    obtain⟨a,ha,he⟩:=oH l id' h;rw[ha] at h1;refine nO _ _ _ _ (ak kR (ak kR ?_));simp only[De,ha,aR,g8,NR,ek,cJ,ck];rw[c8 aA];refine ak rfl ⟨_,jQ l a.fr hl,?_⟩
    (try dsimp only)
    rw[La];exact ih a.fr (acc++[a.id]) kR (by rw[←h1,he];simp)
 exact key (l.length+1) id [] dM rfl
theorem nI (l:List jg) (id:Int) (hl:l.length≤1073741824):ax C dY [kG l,vI id] (rC (pathOf l id)) []:=by
 refine(EA _ _ _ ?_).run
 have key: ∀(n:Nat) (id':Int) (acc:List Int) (k:Nat),k+n=l.length+1→acc.length=k→acc++mF l n id'=pathOf l id→aj C dY ai 4 0 (kW (l.map e8) id' k (acc.map cO)) (fun u st=>aJ C dY ai u st fun r fs=>r=rC (pathOf l id)∧fs=[]):=by
  intro n
  induction n with
  |zero=>
   intro id' acc k h0 h2 h1;simp only[mF,ke] at h1;refine uq _ _ _ _ _ (aB ?_ (BL _ _ _ _ _ _ _ (by rw[h1];exact jC)));rw[aV kR];simp;omega
  |succ n ih=>
   intro id' acc k h0 h2 h1;simp only[mF] at h1;refine uq _ _ _ _ _ (ak (by rw[aV kR];simp;omega) ⟨_,vH l id' hl,?_⟩)
   by_cases h:ei l id'<0
   ·rw[aT h,ke] at h1
    exact ak kR (BK _ _ _ _ _ _ _ _ (by rw[h1];exact jC))
   ·rw[aL h] at h1
    obtain⟨a,ha,he⟩:=oH l id' h;rw[ha] at h1;refine aB kR ?_;simp only[De,ha,aR,g8,NR,ek,cJ,ck];rw[c8 aA];refine ak rfl ?_;rw[La,aV aA];exact ih a.fr (acc++[id']) (k+1) aA kR (by rw[←h1];simp)
 exact key (l.length+1) id [] 0 dM rfl rfl
theorem DD (l:List Int) (n:Int) (hl:l.length≤1073741824):ax C eT [rC l,vI n] (vB (mm l n)) []:=by
 refine(G4 _ _ _ ?_).run
 have key:(l.drop 0).any (fun a:Int=>decide (a=n))=l.any (fun a:Int=>decide (a=n))→aj C eT aE 4 0 (jR (l.map cO) n ((0:Nat):Int)) (fun u st=>aJ C eT aE u st fun r fs=>r=vB (mm l n)∧fs=[]):=by
  refine cc l (fun i=>(l.drop i).any (fun a:Int=>decide (a=n))=l.any (fun a:Int=>decide (a=n))→aj C eT aE 4 0 (jR (l.map cO) n i) _) ?_ ?_
  ·intro h0
   refine vZ _ _ _ _ (aB dM (DN _ _ _ _ _ ?_));rw[iC] at h0;simp only[List.any_nil] at h0;show _=vB (mm l n)∧_
   first|unfold mm|unfold QL|skip
   rw[←h0];exact jC
  ·intro i a hi ha hd Kq hn h0
   refine vZ _ _ _ _ (ak kR ?_);rw[hd] at h0;simp only[List.any_cons] at h0;simp only[xS,fD,dz,aU,ha,aR,g8,fX,cM,fk,ic,dP,fm,dX,fo,fq,ig,cJ,natAdd,ck,cr,fP,ek,ko];rw[aV aA]
   split
   ·rename_i hp
    refine DM _ ?_
    have e:l.any (fun a:Int=>decide (a=n))=true:=by rw[←h0];simp[hp]
    first|unfold mm|unfold QL|skip
    rw[e];exact jC
   ·rename_i hp
    exact hn (by simpa [hp] using h0)
 exact key rfl
theorem IW (l:List Int) (n:Int) (hl:l.length≤1073741824):ax C cm [rC l,vI n] (vI (jZ (fun a:Int=>decide (a=n)) l 0)) []:=by
 refine(yh _ _ _ ?_).run
 have key:jZ (fun a:Int=>decide (a=n)) (l.drop 0) ((0:Nat):Int)=jZ (fun a:Int=>decide (a=n)) l 0→aj C cm aE 4 0 (fc (l.map cO) n ((0:Nat):Int)) (fun u st=>aJ C cm aE u st fun r fs=>r=vI (jZ (fun a:Int=>decide (a=n)) l 0)∧fs=[]):=by
  refine cc l (fun i=>jZ (fun a:Int=>decide (a=n)) (l.drop i) (i:Int)=jZ (fun a:Int=>decide (a=n)) l 0→aj C cm aE 4 0 (fc (l.map cO) n i) _) ?_ ?_
  ·intro h0
   refine nB _ _ _ _ (aB dM (wg _ _ _ _ _ _ ?_));rw[iC] at h0;simp only[jZ] at h0;change _=vI (jZ (fun a:Int=>decide (a=n)) l 0)∧_;rw[←h0];exact jC
  ·intro i a hi ha hd Kq hn h0
   refine nB _ _ _ _ (ak kR ?_);rw[hd] at h0;simp only[jZ] at h0;simp only[xS,fD,dz,aU,ha,aR,g8,fX,cM,fk,ic,dP,fm,dX,fo,fq,ig,cJ,natAdd,ck,cr,fP,ek,ko];rw[aV aA]
   split at h0
   ·rename_i hp
    have hp:=oL hp
    first|rw[aT hp]|rw[aT hp.symm]
    refine we _ _ ?_;rw[h0];exact jC
   ·rename_i hp
    have hp: ¬_:=fun h=>hp (nT h)
    first|rw[aL hp]|rw[aL (fun h=>hp h.symm)]
    exact hn h0
 exact key rfl
theorem zl (l:List Int) (n:Int) (hl:l.length≤1073741824):ax C fO [rC l,vI n] (vB (mm l n)) []:=by
 refine(uQ _ _ _ ⟨_,IW l n hl,?_⟩).run
 (try dsimp only)
 rw[mT,IB _ _ _ aA];exact jC
theorem Bt (t:Tree) (b:Int) (path:List Int) (hl:dU t≤1073741824) (hp:path.length≤1073741824):ax C dn [dS t,vI b,rC path] (Eb (near (bG t b) path)) []:=by
 refine(EF _ _ _ _ _ ?_).run;refine⟨_,td t b hl,?_⟩
 have key: ∀(pr:Key×Bool),((bG t b).drop 0).foldl (jO path) pr=near (bG t b) path→aj C dn iW 4 0 (eG (path.map cO) pr.2 ((0:Nat):Int) pr.1.b pr.1.a pr.1.k pr.1.c pr.1.g ((bG t b).map bE)) (fun u st=>aJ C dn iW u st fun r fs=>r=(Eb (near (bG t b) path))∧fs=[]):=by
  refine cc (bG t b) (fun i=> ∀(pr:Key×Bool),((bG t b).drop i).foldl (jO path) pr=near (bG t b) path→aj C dn iW 4 0 (eG (path.map cO) pr.2 i pr.1.b pr.1.a pr.1.k pr.1.c pr.1.g ((bG t b).map bE)) (fun u st=>aJ C dn iW u st fun r fs=>r=(Eb (near (bG t b) path))∧fs=[])) ?_ ?_
  ·intro pr h0
   refine uw _ _ _ _ _ _ _ _ _ _ (aB dM (BP _ _ _ _ _ _ _ _ _ _ _ ?_));rw[iC] at h0;simp only[List.foldl_nil] at h0;rw[h0];exact jC
  ·intro i a hi ha hd ht hn pr h0
   have hk:=xU t b;have hz:=mj t;refine uw _ _ _ _ _ _ _ _ _ _ (ak kR ?_);rw[hd] at h0;simp only[List.foldl_cons] at h0;obtain⟨bk,bf⟩:=pr;have hh: ∀q,ax C eT [rC path,vI a.a] (vB q) []↔q=mm path a.a:=fun q=>Df (DD path a.a hp);simp only[lB,hh,nG,dz,aU,ha,aR,g8,fX,cM,fk,ic,dP,fm,dX,fo,fq,ig,cJ,natAdd,ck,cr,fP,ek,ko];rw[aV aA]
   have e:jO path (bk,bf) a=if mm path a.a&&(!bf||decide (bk.a<a.a)) then(a,true) else(bk,bf):=rfl
   rw[e] at h0
   cases h1:mm path a.a<;>cases bf<;>by_cases h2:bk.a<a.a<;>simp[h1,h2] at h0 ⊢ <;>first|exact hn (a,true) h0|exact hn (bk,false) h0|exact hn (bk,true) h0
 exact key (ef,false) rfl
theorem tg (t:Tree) (b:Int) (path:List Int) (hl:dU t≤1073741824) (hp:path.length≤1073741824):ax C cV [dS t,vI b,rC path] (Eb (near (bG t b) path)) []:=by
 refine(ET _ _ _ _ _ ?_).run;refine⟨_,tf t b hl,?_⟩
 have key: ∀(pr:Key×Bool),((bG t b).drop 0).foldl (jO path) pr=near (bG t b) path→aj C cV ai 4 0 (eI (path.map cO) pr.2 ((bG t b).map bE) ((0:Nat):Int) pr.1.b pr.1.a pr.1.k pr.1.c pr.1.g) (fun u st=>aJ C cV ai u st fun r fs=>r=(Eb (near (bG t b) path))∧fs=[]):=by
  refine cc (bG t b) (fun i=> ∀(pr:Key×Bool),((bG t b).drop i).foldl (jO path) pr=near (bG t b) path→aj C cV ai 4 0 (eI (path.map cO) pr.2 ((bG t b).map bE) i pr.1.b pr.1.a pr.1.k pr.1.c pr.1.g) (fun u st=>aJ C cV ai u st fun r fs=>r=(Eb (near (bG t b) path))∧fs=[])) ?_ ?_
  ·intro pr h0
   refine uE _ _ _ _ _ _ _ _ _ _ (aB dM (B4 _ _ _ _ _ _ _ _ _ _ _ _ ?_));rw[iC] at h0;simp only[List.foldl_nil] at h0;rw[h0];exact jC
  ·intro i a hi ha hd ht hn pr h0
   have hk:=xU t b;have hz:=mj t;refine uE _ _ _ _ _ _ _ _ _ _ (ak kR ?_);rw[hd] at h0;simp only[List.foldl_cons] at h0;obtain⟨bk,bf⟩:=pr;have hh: ∀q,ax C fO [rC path,vI a.a] (vB q) []↔q=mm path a.a:=fun q=>Df (zl path a.a hp);simp only[lB,hh,nG,dz,aU,ha,aR,g8,fX,cM,fk,ic,dP,fm,dX,fo,fq,ig,cJ,natAdd,ck,cr,fP,ek,ko];rw[aV aA]
   have e:jO path (bk,bf) a=if mm path a.a&&(!bf||decide (bk.a<a.a)) then(a,true) else(bk,bf):=rfl
   rw[e] at h0
   cases h1:mm path a.a<;>cases bf<;>by_cases h2:bk.a<a.a<;>simp[h1,h2] at h0 ⊢ <;>first|exact hn (a,true) h0|exact hn (bk,false) h0|exact hn (bk,true) h0
 exact key (ef,false) rfl
theorem As (l:List Key) (hl:l.length≤1073741824):ax C ez [ct l] (vB (iU l.length (fM l cg))) []:=by
 refine(D1 _ _ ?_).run
 have key: ∀(k i:Nat),i+k=l.length→1≤i→(List.range' i k).all (fM l cg)=iU l.length (fM l cg)→aj C ez aE 4 0 (j6 (l.map bE) i) (fun u st=>aJ C ez aE u st fun r fs=>r=vB (iU l.length (fM l cg))∧fs=[]):=by
  intro k
  induction k with
  |zero=>
   intro i h h1 h0;refine mY _ _ _ (aB kR (rW _ _ _ _ ?_));simp only[List.range'_zero,AP] at h0;rw[←h0];exact jC
  |succ k ih=>
   intro i h h1 h0;obtain⟨j,rfl⟩: ∃j,i=j+1:=⟨i-1,by omega⟩;have hj:l[j]?=some l[j]:=aX aA;have Rb:l[j+1]?=some l[j+1]:=aX aA
   have e:fM l cg (j+1)=cg l[j] l[j+1]:=by simp only[fM,hj,Rb]
   rw[List.range'_succ,uS,e] at h0;refine mY _ _ _ (ak kR ?_);rw[jX aA,show((j+1:Nat):Int)-1=(j:Int) by omega];simp only[lB,aU,hj,Rb,aR,g8,vG,fX,dP,cM];rw[aV aA]
   cases hb:cg l[j] l[j+1] with
   |true=>
    rw[hb,ek] at h0;exact ak rfl (ih (j+1+1) aA aA h0)
   |false=>
    rw[hb,Bool.false_and] at h0;refine aB rfl (AI _ ?_);rw[←h0];exact jC
 cases hz:l.length with
 |zero=>
  have:l=[]:=uT hz;subst this;exact mY _ _ _ (aB dM (rW _ _ _ _ jC))
 |succ n=>
  rw[hz] at key;exact key n 1 aA aA (by unfold iU;rw[List.range'_succ,uS];rfl)
theorem DE (l:List Key) (hl:l.length≤1073741824):ax C cX [ct l] (vB ((l.all c6&&(iU l.length (fM l cg)&&decide (l.length≤60))))) []:=by
 refine(G2 _ _ ?_).run
 have key:((l.drop 0).all c6&&(iU l.length (fM l cg)&&decide (l.length≤60)))=(l.all c6&&(iU l.length (fM l cg)&&decide (l.length≤60)))→aj C cX aE 4 0 (iq (l.map bE) ((0:Nat):Int)) (fun u st=>aJ C cX aE u st fun r fs=>r=vB ((l.all c6&&(iU l.length (fM l cg)&&decide (l.length≤60))))∧fs=[]):=by
  refine cc l (fun i=>((l.drop i).all c6&&(iU l.length (fM l cg)&&decide (l.length≤60)))=(l.all c6&&(iU l.length (fM l cg)&&decide (l.length≤60)))→aj C cX aE 4 0 (iq (l.map bE) i) (fun u st=>aJ C cX aE u st fun r fs=>r=vB ((l.all c6&&(iU l.length (fM l cg)&&decide (l.length≤60))))∧fs=[])) ?_ ?_
  ·intro h0
   refine vY _ _ _ (aB dM (DL _ _ _ _ ?_));rw[iC] at h0;simp only[AP,ek] at h0;rw[←h0];refine⟨_,As l hl,?_⟩;simp only[mT,ck,yo]
   cases iU l.length (fM l cg)<;>simp
   omega
  ·intro i a hi ha hd Kq hn h0
   have gO:c6 a=false→(l.all c6&&(iU l.length (fM l cg)&&decide (l.length≤60)))=false:=fun e=>by rw[←h0,hd];simp[e]
   have gN:c6 a=true→aj C cX aE 4 0 (iq (l.map bE) ((i:Int)+1)) (fun u st=>aJ C cX aE u st fun r fs=>r=vB ((l.all c6&&(iU l.length (fM l cg)&&decide (l.length≤60))))∧fs=[]):=fun e=>hn (by rw[←h0,hd];simp[e]);refine vY _ _ _ (ak kR ?_);simp only[lB,zh,aU,ha,aR,g8,fX,cM,fk,ic,dP,fm,dX,fo,fq,ig,cJ,natAdd,ck,cr,fP,ek,ko];rw[aV aA]
   cases h1:c6 a<;>simp only[rz,FG]<;>first|exact gN Sl|exact DK _ (by rw[gO Sl];exact jC)
 exact key rfl
theorem Bu (l:List Key) (hl:l.length≤1073741824):ax C cX [ct l] (vB (y7 l)) []:=by
 have:=DE l hl;rw[y8];exact this
theorem GY (l:List Key) (hl:l.length≤1073741824) (q:Bool):ax C cX [ct l] (vB q) []↔q=y7 l:=Df (Bu l hl)
theorem Er (t:Tree) (l:List jg) (b id:Int) (hl:dU t≤1073741824) (ha:l.length≤1073741823):ax C wW [dS t,kG l,vI b,vI id] (Eb (gZ t l b id)) []:=by
 refine(I2 _ _ _ _ _ _ ?_).run;refine⟨_,Bs l id aA,_,_,_,_,_,_,Bt t b _ hl (by have:=sE l id;omega),?_⟩;exact jC
theorem xo (t:Tree) (l:List jg) (b id:Int) (hl:dU t≤1073741824) (ha:l.length≤1073741823):ax C rH [dS t,kG l,vI b,vI id] (Eb (gZ t l b id)) []:=by
 refine(I7 _ _ _ _ _ _ ?_).run;refine⟨_,nI l id aA,_,_,_,_,_,_,tg t b _ hl (by have:=sE l id;omega),?_⟩;exact jC
theorem yd (t:Tree) (l:List jg) (b id:Int) (hl:dU t≤1073741824) (ha:l.length≤1073741823):ax C mq [dS t,kG l,vI b,vI id] (Eb (jh t l b id)) []:=by
 refine(AE _ _ _ _ _ _ ?_).run;have hp:=sE l id;refine⟨_,nI l id aA,?_⟩;simp only[ck,yo,cU,PF];unfold jh
 have e: ∀m:Int,((m=1∧1≤(pathOf l id).length)∨(m=0∧(pathOf l id).length=0))→List.drop m.toNat (List.take (Int.toNat ((pathOf l id).length:Int)) (pathOf l id))=(pathOf l id).drop 1:=fun m hm=>by
  rw[qP,uV];rcases hm with⟨rfl,_⟩|⟨rfl,h⟩
  ·rfl
  ·rw[uT h];rfl
 have hm:(if((pathOf l id).length:Int)<1 then((pathOf l id).length:Int) else 1)=1∧1≤(pathOf l id).length∨((if((pathOf l id).length:Int)<1 then((pathOf l id).length:Int) else 1)=0∧(pathOf l id).length=0):=by split<;>omega
 revert hm
 generalize (if((pathOf l id).length:Int)<1 then((pathOf l id).length:Int) else 1)=m;intro hm;rw[e m hm];refine ak kR ⟨_,_,_,_,_,_,tg t b _ hl kR,?_⟩;exact jC
theorem Es (t:Tree) (l:List jg) (k:Key) (id:Int) (hl:dU t≤1073741824) (ha:l.length≤1073741823):ax C rJ [dS t,kG l,JX k,vI id] (vB (IC t l k id)) []:=by
 refine(I1 _ _ _ _ _ _ _ _ _ _ ?_).run;refine⟨_,_,_,_,_,_,xo t l k.b id hl ha,?_⟩;unfold IC;simp only[fD]
 cases h:(gZ t l k.b id).2
 ·exact aB rfl jC
 ·exact ak rfl ⟨by simp,by trivial⟩
theorem At (n:List (List Key)) (hb:n.length≤1073741824) (hl:tot bL n≤1073741824):ax C dQ [mE n] (vI (cR n)) []:=by
 refine(DP _ _ ?_).run
 have key: ∀(c:Nat),c+tot bL (n.drop 0)=cR n→aj C dQ ai 4 0 (ir c ((0:Nat):Int) (n.map ej)) (fun u st=>aJ C dQ ai u st fun r fs=>r=(vI (cR n))∧fs=[]):=by
  refine cc n (fun i=> ∀(c:Nat),c+tot bL (n.drop i)=cR n→aj C dQ ai 4 0 (ir c i (n.map ej)) (fun u st=>aJ C dQ ai u st fun r fs=>r=(vI (cR n))∧fs=[])) ?_ ?_
  ·intro c h0
   refine rU _ _ _ _ (aB dM (AD _ _ _ _ _ ?_));rw[iC] at h0;simp only[tot,nR] at h0;rw[h0];exact jC
  ·intro i a hi ha hd ht hn c h0
   refine rU _ _ _ _ (ak kR ?_);rw[hd] at h0;have e5:tot bL (a::n.drop (i+1))=a.length+tot bL (n.drop (i+1)):=rfl;rw[e5] at h0;unfold cR at h0;simp only[xT,aU,ha,aR,g8,fX,cM,fk,ic,dP,fm,dX,fo,fq,ig,cJ,natAdd,ck,cr,fP,ek,ko];rw[aV (by simp only[yo];omega),aV aA];exact hn (c+a.length) (by unfold cR;omega)
 exact key 0 (by simp[cR])
theorem Au (n:List (List Key)) (hs:tot bL n≤1073741824) (hl:n.length≤1073741824):ax C aW [mE n] (vB ((n.all eR&&(decide (n.length≤3)&&decide (cR n≤8))))) []:=by
 refine(EO _ _ ?_).run
 have key:((n.drop 0).all eR&&(decide (n.length≤3)&&decide (cR n≤8)))=(n.all eR&&(decide (n.length≤3)&&decide (cR n≤8)))→aj C aW aE 4 0 (gE ((0:Nat):Int) (n.map ej)) (fun u st=>aJ C aW aE u st fun r fs=>r=vB ((n.all eR&&(decide (n.length≤3)&&decide (cR n≤8))))∧fs=[]):=by
  refine cc n (fun i=>((n.drop i).all eR&&(decide (n.length≤3)&&decide (cR n≤8)))=(n.all eR&&(decide (n.length≤3)&&decide (cR n≤8)))→aj C aW aE 4 0 (gE i (n.map ej)) (fun u st=>aJ C aW aE u st fun r fs=>r=vB ((n.all eR&&(decide (n.length≤3)&&decide (cR n≤8))))∧fs=[])) ?_ ?_
  ·intro h0
   refine uC _ _ _ (aB dM (B0 _ _ _ _ ?_));rw[iC] at h0;simp only[AP,ek] at h0;rw[←h0];simp only[mT,ck,yo,dz]
   by_cases h3:n.length≤3
   ·rw[aT aA]
    refine⟨_,At n hl hs,?_⟩;simp[h3];omega
   ·rw[aL aA]
    simp[h3]
  ·intro i a hi ha hd Kq hn h0
   have gO:eR a=false→(n.all eR&&(decide (n.length≤3)&&decide (cR n≤8)))=false:=fun e=>by rw[←h0,hd];simp[e]
   have gN:eR a=true→aj C aW aE 4 0 (gE ((i:Int)+1) (n.map ej)) (fun u st=>aJ C aW aE u st fun r fs=>r=vB ((n.all eR&&(decide (n.length≤3)&&decide (cR n≤8))))∧fs=[]):=fun e=>hn (by rw[←h0,hd];simp[e]);refine uC _ _ _ (ak kR ?_);have hz:a.length≤tot bL n:=mh (w:=bL) ha;have hh: ∀q,ax C cX [ct a] (vB q) []↔q=y7 a:=fun q=>GY a aA q;simp only[xT,hh,fD,yo,dz,aU,ha,aR,g8,fX,cM,fk,ic,dP,fm,dX,fo,fq,ig,cJ,natAdd,ck,cr,fP,ek,ko]
   rw[aV aA]
   cases h1:y7 a<;>by_cases h2:a.length=0<;>simp only[rz,FG]<;>first|(rw[aT aA];exact uD _ _ (by rw[gO (by simp[eR,h1,h2])];exact jC))|(rw[aL aA];exact gN (by simp[eR,h1,h2]))|exact uD _ _ (by rw[gO (by simp[eR,h1,h2])];exact jC)
 exact key rfl
theorem nJ (n:List (List Key)) (hb:n.length≤1073741824) (hl:tot bL n≤1073741824):ax C aW [mE n] (vB (eo n)) []:=by
 have:=Au n hl hb;rw[L6];exact this
theorem Bv (l:List jg) (hl:l.length≤1073741824):ax C bR [kG l] (vB ((iU l.length (gn l)&&decide (l.length≤16)))) []:=by
 refine(ED _ _ ?_).run
 have key:((List.range' 0 (l.length-0)).all (gn l)&&decide (l.length≤16))=(iU l.length (gn l)&&decide (l.length≤16))→aj C bR aE 4 0 (dR (l.map e8) ((0:Nat):Int)) (fun u st=>aJ C bR aE u st fun r fs=>r=vB ((iU l.length (gn l)&&decide (l.length≤16)))∧fs=[]):=by
  refine IA (l.length) (fun i=>((List.range' i (l.length-i)).all (gn l)&&decide (l.length≤16))=(iU l.length (gn l)&&decide (l.length≤16))→aj C bR aE 4 0 (dR (l.map e8) i) (fun u st=>aJ C bR aE u st fun r fs=>r=vB ((iU l.length (gn l)&&decide (l.length≤16)))∧fs=[])) ?_ ?_
  ·intro h0
   refine uv _ _ _ (aB dM (BN _ _ _ _ ?_));rw[qT] at h0;simp only[List.range'_zero,AP,ek] at h0;rw[←h0];simp[mT];omega
  ·intro i hi hn h0
   rw[Dg hi,uS] at h0
   have gO:(gn l) i=false→(iU l.length (gn l)&&decide (l.length≤16))=false:=fun e=>by rw[←h0,e];rfl
   have gN:(gn l) i=true→aj C bR aE 4 0 (dR (l.map e8) ((i:Int)+1)) (fun u st=>aJ C bR aE u st fun r fs=>r=vB ((iU l.length (gn l)&&decide (l.length≤16)))∧fs=[]):=fun e=>hn (by rw[←h0,e];rfl);refine uv _ _ _ (ak kR ?_);have ha:l[i]?=some l[i]:=aX hi;have hh: ∀q,ax C cv [kG (l.take i),vI l[i].fr] (vI q) []↔q=ei (l.take i) l[i].fr:=fun q=>GX (l.take i) l[i].fr kR q
   have rX:aq (l.map e8) 0 (i:Int)=(l.take i).map e8:=by rw[cU,qP];rfl
   have hin:fh 0 (i:Int) (l.length:Int)=true:=by simp;omega
   simp only[De,Ki,rX,aU,ha,aR,g8,fX,cM,fk,ic,dP,fm,dX,fo,fq,ig,cJ,natAdd,ck,cr,fP,ek,ko];simp only[ha,hin,hh,fX,aR,g8,rz,fD,mT,nG,dz,yo,ck];rw[aV aA]
   cases i with
   |zero=>
    have e:gn l 0=(y6 l[0].id 1 60&&(decide (l[0].fr=0)|| !decide (ei (l.take 0) l[0].fr<0))):=by simp[gn,PN,fM,hi]
    rw[e] at gO gN
    have hz: ¬((0:Int)<((0:Nat):Int)):=by omega
    simp only[aL hz]
    cases h1:y6 l[0].id 1 60 with
    |false=>simp only[FG];exact jc _ (by rw[gO (by rw[h1];simp)];exact jC)
    |true=>
     simp only[rz]
     by_cases h2:l[0].fr=0
     ·rw[aT h2];exact gN (by rw[h1,nT h2];simp)
     ·rw[aL h2]
      by_cases h3:ei (l.take 0) l[0].fr<0
      ·rw[aT h3];exact jc _ (by rw[gO (by rw[pP h2,nT h3];simp)];exact jC)
      ·rw[aL h3];exact gN (by rw[h1,pP h3];simp)
   |succ k=>
    have hk:l[k]?=some l[k]:=aX aA
    have e:gn l (k+1)=(y6 l[k+1].id 1 60&&(decide (l[k].id<l[k+1].id)&&(decide (l[k+1].fr=0)|| !decide (ei (l.take (k+1)) l[k+1].fr<0)))):=by simp only[gn,PN,fM,hk,ha]
    rw[e] at gO gN;rw[jX aA,show((k+1:Nat):Int)-1=(k:Int) by omega];simp only[aU,hk,aR,g8];rw[aT aA]
    cases h1:y6 l[k+1].id 1 60 with
    |false=>simp only[FG];exact jc _ (by rw[gO (by rw[h1];simp)];exact jC)
    |true=>
     simp only[rz]
     by_cases h4:l[k].id<l[k+1].id
     ·rw[aL aA]
      by_cases h2:l[k+1].fr=0
      ·rw[aT h2];exact gN (by rw[h1,nT h4,nT h2];simp)
      ·rw[aL h2]
       by_cases h3:ei (l.take (k+1)) l[k+1].fr<0
       ·rw[aT h3];exact jc _ (by rw[gO (by rw[pP h2,nT h3];simp)];exact jC)
       ·rw[aL h3];exact gN (by rw[h1,nT h4,pP h3];simp)
     ·rw[aT aA];exact jc _ (by rw[gO (by rw[pP h4];simp)];exact jC)
 exact key rfl
@[simp] theorem xp (b a q:Int):ax C qi [vI b,vI a] (vI q) []↔q=bw b a:=PM ((EI _ _ _ jC).run)
@[simp] theorem xq (b a k c g q:Int):ax C iK [.ag [iI b,iI a,iI k,iI c,iI g]] (vI q) []↔q=bw b a:=PM (by
  refine(EM _ _ _ _ _ _ ?_).run;simp only[xp,fX]
  simp)
@[simp] theorem Et (b a q:Int):ax C vA [vI b,vI a] (vI q) []↔q=bw b a:=PM ((EX _ _ _ jC).run)
theorem Av (t:Tree) (i:Nat) (n:List (List Key)) (hi:i<t.au.length) (hl:dU t≤1073741824) (hn:n.length≤1073741824) (hz:tot bL n≤1073741824):aj C aN aK 4 0 (eH i ((0:Nat):Int) (t.au.map cO) (t.nodes.map bO) (n.map ej)) (fun u st=>aJ C aN aK u st fun r fs=>r=vB (n.all (de t.au i))∧fs=[]):=by
 have XL:t.au.length≤1073741824:=by unfold dU at hl;omega
 have hlo:t.au[i]?=some t.au[i]:=aX hi
 have key:(n.drop 0).all (de t.au i)=n.all (de t.au i)→aj C aN aK 4 0 (eH i ((0:Nat):Int) (t.au.map cO) (t.nodes.map bO) (n.map ej)) (fun u st=>aJ C aN aK u st fun r fs=>r=vB (n.all (de t.au i))∧fs=[]):=by
  refine cc n (fun k=>(n.drop k).all (de t.au i)=n.all (de t.au i)→aj C aN aK 4 0 (eH i k (t.au.map cO) (t.nodes.map bO) (n.map ej)) (fun u st=>aJ C aN aK u st fun r fs=>r=vB (n.all (de t.au i))∧fs=[])) ?_ ?_
  ·intro h0
   refine uA _ _ _ _ _ _ (aB dM (BV _ _ _ _ _ _ _ ?_));rw[iC] at h0;simp only[AP] at h0;rw[←h0];exact jC
  ·intro k s hk hs hd Kq hnext h0
   have Uy:s.length≤tot bL n:=mh (w:=bL) hs;rw[hd,uS] at h0;refine uA _ _ _ _ _ _ (ak kR ?_)
   have keyI:(s.drop 0).all (ji t.au i)=s.all (ji t.au i)→aj C aN gX 3 2 (fG i k ((0:Nat):Int) (t.au.map cO) (t.nodes.map bO) (n.map ej)) (fun u st=>GG C aN aK 4 0 ye u st (fun u st=>aJ C aN aK u st fun r fs=>r=vB (n.all (de t.au i))∧fs=[])):=by
    refine cc s (fun j=>(s.drop j).all (ji t.au i)=s.all (ji t.au i)→aj C aN gX 3 2 (fG i k j (t.au.map cO) (t.nodes.map bO) (n.map ej)) (fun u st=>GG C aN aK 4 0 ye u st (fun u st=>aJ C aN aK u st fun r fs=>r=vB (n.all (de t.au i))∧fs=[]))) ?_ ?_
    ·intro h1
     rw[iC] at h1;simp only[AP] at h1;refine uB _ _ _ _ _ _ _ (⟨_,wM hs,aB dM (BX _ _ _ _ _ _ _ _ ?_)⟩);rw[aV aA];exact hnext (by rw[←h0];unfold de;rw[←h1];simp)
    ·intro j x hj hx OY XM hn2 h1
     rw[OY,uS] at h1
     have gO:ji t.au i x=false→GG C aN aK 4 0 ye TX.ret (k9 (t.au.map cO) (t.nodes.map bO) (n.map ej)) (fun u st=>aJ C aN aK u st fun r fs=>r=vB (n.all (de t.au i))∧fs=[]):=fun e=>BW _ _ _ _ (BY _ _ _ _ (by
      have e2:de t.au i s=false:=by unfold de;rw[←h1,e];rfl
      rw[←h0,e2];exact jC))
     have gN:ji t.au i x=true→aj C aN gX 3 2 (fG i k ((j:Int)+1) (t.au.map cO) (t.nodes.map bO) (n.map ej)) (fun u st=>GG C aN aK 4 0 ye u st (fun u st=>aJ C aN aK u st fun r fs=>r=vB (n.all (de t.au i))∧fs=[])):=fun e=>hn2 (by rw[←h1,e];rfl)
     have e:ji t.au i x=(!decide (bw x.b x.a<t.au[i])&&(match t.au[i+1]? with|some hi=>decide (bw x.b x.a<hi)|none=>true)):=by simp only[ji,Al,hlo];rfl
     rw[e] at gO gN;refine uB _ _ _ _ _ _ _ (⟨_,wM hs,ak kR ⟨_,wM hs,?_⟩⟩);rw[aV (a:=(i:Int)) aA,aV (a:=(j:Int)) aA];simp only[lB,xS,aU,hx,hlo,aR,g8,xq,fX,nG,mT,dz,ck,yo]
     by_cases h2:bw x.b x.a<t.au[i]
     ·rw[aT h2]
      exact gO (by rw[nT h2];rfl)
     ·rw[aL h2]
      by_cases h3:i+1<t.au.length
      ·have hhi:t.au[i+1]?=some t.au[i+1]:=aX h3
       rw[aT aA,show((i:Int)+1)=((i+1:Nat):Int) by omega,aU,hhi];simp only[aR,g8];rw[hhi] at gO gN
       by_cases h4:bw x.b x.a<t.au[i+1]
       ·rw[aL aA]
        exact gN (by rw[pP h2];simp[h4])
       ·rw[aT aA]
        exact gO (by simp[h4])
      ·rw[aL aA]
       have hno:t.au[i+1]?=none:=Mt aA;rw[hno] at gN;exact gN (by rw[pP h2];rfl)
   exact keyI rfl
 exact key rfl
theorem Bw (t:Tree) (i:Nat) (n:List (List Key)) (ha:t.nodes[i]?=some n) (hlo:i<t.au.length) (hl:dU t≤1073741824):ax C aN [dS t,vI i] (vB (eo n&&((decide (i=0)|| !decide ((an n).length=0))&&n.all (de t.au i)))) []:=by
 have hz:aQ n≤tot aQ t.nodes:=mh (w:=aQ) ha;have e1:aQ n=n.length+tot bL n:=rfl;have e2:dU t=t.au.length+(t.nodes.length+tot aQ t.nodes):=rfl;have hnk:=cN n;refine(EN _ _ _ _ ⟨_,wM (e:=bO) ha,_,nJ n aA aA,?_⟩).run
 cases h1:eo n with
 |false=>exact ak rfl jC
 |true=>
  refine aB rfl ?_;have T4:=Av t i n hlo hl aA aA
  have conv: ∀B:Bool,B=n.all (de t.au i)→aj C aN aK 4 0 (eH i 0 (t.au.map cO) (t.nodes.map bO) (n.map ej)) (fun u st=>aJ C aN aK u st fun r fs=>r=vB B∧fs=[]):=fun B hB=>by subst hB;exact T4
  cases i with
  |zero=>exact aB dM (conv _ dM)
  |succ k=>
   refine ak (by first|(simp;done)|(simp;omega)) ⟨_,qj n aA aA,?_⟩
   by_cases h2:(an n).length=0
   ·refine ak (by simp[h2]) ?_
    simp[h2]
   ·exact aB (by simpa using h2) (conv _ (by simp[h2]))
theorem th (t:Tree) (hl:dU t≤1073741824):ax C aC [dS t] (vB (cF t)) []:=by
 have e2:dU t=t.au.length+(t.nodes.length+tot aQ t.nodes):=rfl;refine(Ex _ _ _ ?_).run;simp only[Ki,fX,ck,yo,fD,cM];unfold cF
 cases h1:y6 (t.nodes.length:Int) 1 20 with
 |false=>exact aB rfl jC
 |true=>
  refine ak rfl ?_
  have XN:1≤t.nodes.length:=by have:=oL h1;omega
  by_cases h2:t.au.length=t.nodes.length
  ·refine ak (by simp[h2]) ?_
   have h0:t.au[0]?=some t.au[0]:=aX aA
   have OD:jD t.au 0=some t.au[0]:=by rw[show(0:Int)=((0:Nat):Int) from rfl,aU];exact h0
   simp only[xS,OD,h0,aR,g8,dz]
   by_cases h3:t.au[0]=0
   ·rw[aT (by simpa using h3)]
    have hw:(true&&(decide (t.au.length=t.nodes.length)&&((decide (t.au[0]=0))&&(iU t.nodes.length (dm t)&&decide ((ay t).length≤60)))))=(iU t.nodes.length (dm t)&&decide ((ay t).length≤60)):=by simp[h2,h3]
    rw[hw]
    have key:((List.range' 0 (t.nodes.length-0)).all (dm t)&&decide ((ay t).length≤60))=(iU t.nodes.length (dm t)&&decide ((ay t).length≤60))→aj C aC ai 4 0 (fF ((0:Nat):Int) (t.au.map cO) (t.nodes.map bO)) (fun u st=>aJ C aC ai u st fun r fs=>r=vB (iU t.nodes.length (dm t)&&decide ((ay t).length≤60))∧fs=[]):=by
     refine IA t.nodes.length (fun i=>((List.range' i (t.nodes.length-i)).all (dm t)&&decide ((ay t).length≤60))=(iU t.nodes.length (dm t)&&decide ((ay t).length≤60))→aj C aC ai 4 0 (fF i (t.au.map cO) (t.nodes.map bO)) _) ?_ ?_
     ·intro h0
      rw[qT] at h0;simp only[List.range'_zero,AP,ek] at h0;refine uj _ _ _ _ (aB dM (BG _ _ _ _ _ ⟨_,qk t hl,?_⟩));rw[←h0];simp[mT];omega
     ·intro i hi hn h0
      rw[Dg hi,uS] at h0;have ha:t.nodes[i]?=some t.nodes[i]:=aX hi;have Wf:t.au[i]?=some t.au[i]:=aX aA;have gO:dm t i=false→aJ C aC ai TX.ret (iX (t.au.map cO) (t.nodes.map bO)) (fun r fs=>r=vB (iU t.nodes.length (dm t)&&decide ((ay t).length≤60))∧fs=[]):=fun e=>BF _ _ _ (by rw[←h0,e];exact jC);have gN:dm t i=true→aj C aC ai 4 0 (fF ((i:Int)+1) (t.au.map cO) (t.nodes.map bO)) (fun u st=>aJ C aC ai u st fun r fs=>r=vB (iU t.nodes.length (dm t)&&decide ((ay t).length≤60))∧fs=[]):=fun e=>hn (by rw[←h0,e];rfl)
      have hh: ∀q,ax C aN [dS t,vI i] (vB q) []↔q=_:=fun q=>Df (Bw t i t.nodes[i] ha aA hl);refine uj _ _ _ _ (ak kR ?_);rw[aV aA];simp only[hh,fX,nG,mT,dz,cM]
      cases i with
      |zero=>
       have e:dm t 0=(eo t.nodes[0]&&((decide (0=0)|| !decide ((an t.nodes[0]).length=0))&&t.nodes[0].all (de t.au 0))):=by simp only[dm,fM,ha,ek]
       rw[e] at gO gN;rw[aL aA];exact rB gN gO
      |succ k=>
       have hk:t.au[k]?=some t.au[k]:=aX aA
       have e:dm t (k+1)=(decide (t.au[k]<t.au[k+1])&&(eo t.nodes[k+1]&&((decide (k+1=0)|| !decide ((an t.nodes[k+1]).length=0))&&t.nodes[k+1].all (de t.au (k+1))))):=by simp only[dm,fM,ha,hk,Wf]
       rw[e] at gO gN;rw[aT aA,jX aA,show((k+1:Nat):Int)-1=(k:Int) by omega];simp only[xS,aU,hk,Wf,aR,g8]
       by_cases h4:t.au[k]<t.au[k+1]
       ·rw[aL aA]
        rw[nT h4,ek] at gO gN;exact rB gN gO
       ·rw[aT aA]
        exact gO (by rw[pP h4];rfl)
    exact key rfl
   ·rw[aL (by simpa using h3)]
    simp[h3]
  ·refine aB kR ?_
   simp[h2]
theorem DF (l:List Key) (b a:Int) (hl:l.length≤1073741824):ax C ey [ct l,vI b,vI a] (Eb (uO l b a)) []:=by
 refine(G6 _ _ _ _ ?_).run
 have key:setAt (l.drop 0) b a=setAt l b a→aj C ey aE 4 0 (iu (l.map bE) b a ((0:Nat):Int)) (fun u st=>aJ C ey aE u st fun r fs=>r=(Eb (uO l b a))∧fs=[]):=by
  refine cc l (fun i=>setAt (l.drop i) b a=setAt l b a→aj C ey aE 4 0 (iu (l.map bE) b a i) (fun u st=>aJ C ey aE u st fun r fs=>r=(Eb (uO l b a))∧fs=[])) ?_ ?_
  ·intro h0
   rw[iC] at h0;refine v8 _ _ _ _ _ (aB dM (DV _ _ _ _ _ _ ⟨?_,by trivial⟩));unfold uO;rw[←h0];rfl
  ·intro i x hi hx hd Kq hn h0
   rw[hd] at h0;simp only[setAt,List.find?_cons] at h0;refine v8 _ _ _ _ _ (ak kR ?_);simp only[lB,aU,hx,aR,g8,fD,dz];rw[aV aA]
   by_cases h1:x.b=b
   ·rw[aT h1]
    by_cases h2:x.a=a
    ·rw[aT h2]
     rw[nT ⟨h1,h2⟩] at h0;refine DU _ _ _ _ _ _ ⟨?_,by trivial⟩;unfold uO setAt;rw[←h0]
    ·rw[aL h2]
     rw[pP (fun h=>h2 h.2)] at h0;exact hn h0
   ·rw[aL h1]
    rw[pP (fun h=>h1 h.1)] at h0;exact hn h0
 exact key rfl
theorem Aw (t:Tree) (b a:Int) (hl:t.au.length≤1073741824):ax C c7 [dS t,vI b,vI a] (vI (eg t b a)) []:=by
 refine(DT _ _ _ _ _ ?_).run;unfold eg
 have key:aj C c7 ai 4 0 (fU b a (jx (fun x=>decide (x≤bw b a)) t.au 0) ((0:Nat):Int) (t.au.map cO) (t.nodes.map bO)) (fun u st=>aJ C c7 ai u st fun r fs=>r=(vI (jx (fun x=>decide (x≤bw b a)) t.au t.au.length))∧fs=[]):=by
  refine cc t.au (fun i=>aj C c7 ai 4 0 (fU b a (jx (fun x=>decide (x≤bw b a)) t.au i) i (t.au.map cO) (t.nodes.map bO)) (fun u st=>aJ C c7 ai u st fun r fs=>r=(vI (jx (fun x=>decide (x≤bw b a)) t.au t.au.length))∧fs=[])) ?_ ?_
  ·exact rV _ _ _ _ _ _ _ (aB dM (AF _ _ _ _ _ _ _ _ jC))
  ·intro i x hi hx hd Kq hn
   simp only[jx,hx] at hn;refine rV _ _ _ _ _ _ _ (ak kR ?_);simp only[xS,aU,hx,aR,g8,xp,fX,mT,dz];rw[aV aA]
   by_cases h1:x≤bw b a
   ·rw[aT h1]
    rw[aT (nT h1)] at hn;exact hn
   ·rw[aL h1]
    rw[aL (by simpa using h1)] at hn;exact hn
 exact key
theorem DG (l:List Key) (b a:Int) (hl:l.length≤1073741824):ax C ew [ct l,vI b,vI a] (Eb (uO l b a)) []:=by
 refine(G9 _ _ _ _ ?_).run
 have key:setAt (l.drop 0) b a=setAt l b a→aj C ew aE 4 0 (iw b a (l.map bE) ((0:Nat):Int)) (fun u st=>aJ C ew aE u st fun r fs=>r=(Eb (uO l b a))∧fs=[]):=by
  refine cc l (fun i=>setAt (l.drop i) b a=setAt l b a→aj C ew aE 4 0 (iw b a (l.map bE) i) (fun u st=>aJ C ew aE u st fun r fs=>r=(Eb (uO l b a))∧fs=[])) ?_ ?_
  ·intro h0
   rw[iC] at h0;refine wk _ _ _ _ _ (aB dM (DZ _ _ _ _ _ _ _ ⟨?_,by trivial⟩));unfold uO;rw[←h0];rfl
  ·intro i x hi hx hd Kq hn h0
   rw[hd] at h0;simp only[setAt,List.find?_cons] at h0;refine wk _ _ _ _ _ (ak kR ?_);simp only[lB,aU,hx,aR,g8,fD,dz];rw[aV aA]
   by_cases h1:x.b=b
   ·rw[aT h1]
    by_cases h2:x.a=a
    ·rw[aT h2]
     rw[nT ⟨h1,h2⟩] at h0;refine DY _ _ _ _ _ _ ⟨?_,by trivial⟩;unfold uO setAt;rw[←h0]
    ·rw[aL h2]
     rw[pP (fun h=>h2 h.2)] at h0;exact hn h0
   ·rw[aL h1]
    rw[pP (fun h=>h1 h.1)] at h0;exact hn h0
 exact key rfl
theorem Bx (n:List (List Key)) (b a:Int) (hl:n.length≤1073741824) (hs: ∀s∈n,s.length≤1073741824):ax C eF [mE n,vI b,vI a] (Eb (kJ n b a n.length)) []:=by
 refine(EG _ _ _ _ ?_).run
 have key: ∀k:Nat,k≤n.length→kJ n b a k=kJ n b a n.length→aj C eF aE 4 0 (kY b a ((k:Int)-1) (n.map ej)) (fun u st=>aJ C eF aE u st fun r fs=>r=(Eb (kJ n b a n.length))∧fs=[]):=by
  intro k
  induction k with
  |zero=>
   intro _ hk;refine ux _ _ _ _ _ (aB dM (BS _ _ _ _ _ _ ⟨?_,by trivial⟩));rw[←hk];rfl
  |succ k ih=>
   intro hle hk;have hx:n[k]?=some n[k]:=aX aA;rw[show((k+1:Nat):Int)-1=(k:Int) by omega];have Wg:=hs n[k] (pL aA);generalize n[k]=s at hx Wg;simp only[kJ,hx] at hk;refine ux _ _ _ _ _ (ak dM ?_);simp only[xT,aU,hx,aR,g8];rw[jX aA];refine⟨_,_,_,_,_,_,DG s b a Wg,?_⟩
   cases h2:(uO s b a).2 with
   |false=>
    rw[h2] at hk;exact ak rfl (ih aA (by simpa using hk))
   |true=>
    rw[h2] at hk;simp only[if_true] at hk;refine aB rfl ?_
    by_cases h3:(uO s b a).1.k=0
    ·refine ak (by simp[h3]) (BQ _ _ _ _ _ _ _ _ ⟨?_,by trivial⟩)
     rw[aT h3] at hk;rw[←hk];rfl
    ·refine aB (by simp[h3]) (BR _ _ _ _ _ _ _ ⟨?_,by trivial⟩)
     rw[aL h3] at hk;rw[←hk,←h2]
 rw[ck,show gr (Int.ofNat n.length) 1=(n.length:Int)-1 from jX kR];exact key n.length (bT _) rfl
theorem Ax (t:Tree) (b a:Int) (hl:t.au.length≤1073741824):ax C eu [dS t,vI b,vI a] (vI (eg t b a)) []:=by
 refine(DO _ _ _ _ _ ?_).run
 have key: ∀k:Nat,k≤t.au.length→jx (fun x=>decide (x≤bw b a)) t.au k=eg t b a→aj C eu aE 4 0 (j5 b a ((k:Int)-1) (t.au.map cO) (t.nodes.map bO)) (fun u st=>aJ C eu aE u st fun r fs=>r=(vI (eg t b a))∧fs=[]):=by
  intro k
  induction k with
  |zero=>
   intro _ hk;refine rT _ _ _ _ _ _ (aB dM (AB _ _ _ _ _ _ _ ⟨?_,by trivial⟩));rw[←hk];rfl
  |succ k ih=>
   intro hle hk;have hx:t.au[k]?=some t.au[k]:=aX aA;rw[show((k+1:Nat):Int)-1=(k:Int) by omega];generalize t.au[k]=x at hx;simp only[jx,hx] at hk;refine rT _ _ _ _ _ _ (ak dM ?_);simp only[xS,aU,hx,aR,g8,Et,fX,mT,dz];rw[jX aA]
   by_cases h1:x≤bw b a
   ·rw[aT h1]
    rw[aT (nT h1)] at hk;exact AA _ _ _ _ ⟨by rw[←hk],by trivial⟩
   ·rw[aL h1]
    rw[aL (by simpa using h1)] at hk;exact ih aA hk
 rw[ck,show gr (Int.ofNat t.au.length) 1=(t.au.length:Int)-1 from jX kR];exact key t.au.length (bT _) rfl
theorem By (t:Tree) (b a:Int) (hl:dU t≤1073741824):ax C qh [dS t,vI b,vI a] (Eb (jP t b a)) []:=by
 have e2:dU t=t.au.length+(t.nodes.length+tot aQ t.nodes):=rfl;refine(EP _ _ _ _ _ ⟨_,Ax t b a aA,_,Kh _ _ _,?_⟩).run;unfold jP;rw[ck,show gr (Int.ofNat t.nodes.length) 1=(t.nodes.length:Int)-1 from jX kR]
 by_cases h1:0≤eg t b a∧eg t b a<t.nodes.length
 ·obtain⟨n,hn⟩:=wN h1.1 h1.2
  have hz:aQ n≤tot aQ t.nodes:=sD (w:=aQ) (Iy hn);have e1:aQ n=n.length+tot bL n:=rfl;refine aB (by simp[y6];omega) ?_;simp only[y5,hn,aR,g8];refine⟨_,_,_,_,_,_,Bx n b a aA (fun s hs=> ?_),jC⟩;have h3:bL s≤tot bL n:=sD (w:=bL) hs;have h4:bL s=s.length:=rfl;omega
 ·rw[L4 h1]
  exact ak (by simp[y6];omega) jC
theorem nK (n:List (List Key)) (hl:n.length≤1073741824) (hs: ∀s∈n,s.length≤1073741824):ax C aP [mE n] (mE n) []:=by
 refine(Ez _ _ ?_).run
 skip
 have key:((0:Nat)=0→aj C aP ai 4 0 (kV (n.map ej)) (fun u st=>aJ C aP ai u st fun r fs=>r=(mE n)∧fs=[]))∧(0<(0:Nat)→aj C aP ai 4 0 (iY ((0:Nat):Int) (n.map ej) ((n.take 0).map ej)) (fun u st=>aJ C aP ai u st fun r fs=>r=(mE n)∧fs=[])):=by
  refine cc n (fun i=>(i=0→aj C aP ai 4 0 (kV (n.map ej)) (fun u st=>aJ C aP ai u st fun r fs=>r=(mE n)∧fs=[]))∧(0<i→aj C aP ai 4 0 (iY i (n.map ej) ((n.take i).map ej)) (fun u st=>aJ C aP ai u st fun r fs=>r=(mE n)∧fs=[]))) ?_ ?_
  ·refine⟨fun h=> ?_,fun h=> ?_⟩
   ·have hnil:n=[]:=List.length_eq_zero_iff.1 h
    refine um _ _ (aB (by simp[h]) (BI _ _ _ ⟨?_,by trivial⟩));simp[hnil]
   ·rw[uV]
    exact uo _ _ _ _ (aB dM (BJ _ _ _ _ _ jC))
  ·intro i a hi ha hd Kq hn
   have hmem:=eD ha;refine⟨fun h=> ?_,fun h=> ?_⟩
   ·subst h
    have hz:jD n 0=some a:=(aU n 0).trans ha;have hn2:=hn.2 aA;rw[Kq] at hn2;refine um _ _ (ak kR ?_);simp only[xT,hz,aR,g8];have hsa:=hs a hmem;refine ak (by rw[show bN (a.map bE)=true from ie _,c8 kR];rfl) (ak (c8 (by simp;try omega)) ?_);rw[aV aA];exact hn2
   ·have hn2:=hn.2 aA
    rw[Kq] at hn2;refine uo _ _ _ _ (ak kR ?_);simp only[xT,aU,ha,aR,g8];have hsa:=hs a hmem;refine ak (by rw[show bN (a.map bE)=true from ie _,c8 kR];rfl) (ak (c8 (by simp;try omega)) ?_);rw[aV aA];rw[yt] at hn2;exact hn2
 exact key.1 rfl
theorem Bz (t:Tree) (hl:t.au.length≤1073741824∧t.nodes.length≤1073741824) (hs: ∀n∈t.nodes,n.length≤1073741824∧ ∀s∈n,s.length≤1073741824):ax C bZ [dS t] (dS t) []:=by
 refine(EU _ _ _ ?_).run;refine ak (by rw[show bN (t.au.map cO)=true from jY _,c8 kR];rfl) ?_
 have key:((0:Nat)=0→aj C bZ ai 4 0 (ld (t.au.map cO) (t.nodes.map bO)) (fun u st=>aJ C bZ ai u st fun r fs=>r=(dS t)∧fs=[]))∧(0<(0:Nat)→aj C bZ ai 4 0 (ja ((0:Nat):Int) (t.au.map cO) (t.nodes.map bO) ((t.nodes.take 0).map bO)) (fun u st=>aJ C bZ ai u st fun r fs=>r=(dS t)∧fs=[])):=by
  refine cc t.nodes (fun i=>(i=0→aj C bZ ai 4 0 (ld (t.au.map cO) (t.nodes.map bO)) (fun u st=>aJ C bZ ai u st fun r fs=>r=(dS t)∧fs=[]))∧(0<i→aj C bZ ai 4 0 (ja i (t.au.map cO) (t.nodes.map bO) ((t.nodes.take i).map bO)) (fun u st=>aJ C bZ ai u st fun r fs=>r=(dS t)∧fs=[]))) ?_ ?_
  ·refine⟨fun h=> ?_,fun h=> ?_⟩
   ·have hnil:t.nodes=[]:=List.length_eq_zero_iff.1 h
    refine uF _ _ _ (aB (by simp[h]) (B5 _ _ _ _ ⟨?_,by trivial⟩));simp[hnil]
   ·rw[uV]
    exact uG _ _ _ _ _ (aB dM (B6 _ _ _ _ _ _ jC))
  ·intro i a hi ha hd Kq hn
   have hmem:=eD ha;refine⟨fun h=> ?_,fun h=> ?_⟩
   ·subst h
    have hz:jD t.nodes 0=some a:=(aU t.nodes 0).trans ha;have hn2:=hn.2 aA;rw[Kq] at hn2;refine uF _ _ _ (ak kR ?_);simp only[y5,hz,aR,g8];refine⟨_,nK a (hs a hmem).1 (hs a hmem).2,ak (c8 (by simp;try omega)) ?_⟩;rw[aV aA];exact hn2
   ·have hn2:=hn.2 aA
    rw[Kq] at hn2;refine uG _ _ _ _ _ (ak kR ?_);simp only[y5,aU,ha,aR,g8];refine⟨_,nK a (hs a hmem).1 (hs a hmem).2,ak (c8 (by simp;try omega)) ?_⟩;rw[aV aA];rw[yt] at hn2;exact hn2
 exact key.1 rfl
theorem IX {t:Tree} (h:dU t≤4194304):(t.au.length≤1073741824∧t.nodes.length≤1073741824)∧ ∀n∈t.nodes,n.length≤1073741824∧ ∀s∈n,s.length≤1073741824:=by
 have e2:dU t=t.au.length+(t.nodes.length+tot aQ t.nodes):=rfl;refine⟨⟨by omega,by omega⟩,fun n hn=> ?_⟩;have h1:aQ n≤tot aQ t.nodes:=sD (w:=aQ) hn;have h2:aQ n=n.length+tot bL n:=rfl;refine⟨by omega,fun s hs=> ?_⟩;have h3:bL s≤tot bL n:=sD (w:=bL) hs;have h4:bL s=s.length:=rfl;omega
theorem BA (l:List jg) (id fr:Int) (hl:l.length≤1073741800):ax C cW [kG l,vI id,vI fr] (TV.tu [(0,[TC.sub 2 ((mV l id fr).1.map e8)]),(0,[iB (mV l id fr).2])]) []:=by
 refine(EW _ _ _ _ ⟨_,jQ l id aA,?_⟩).run
 obtain⟨T,hT⟩: ∃T,T=if 0≤ei l id then l else o5 l id fr:=⟨_,rfl⟩
 have XO:T.length≤l.length+1:=by
  rw[hT];split
  ·omega
  ·unfold o5;rw[L7];omega
 have key: ∀(b:Bool) (acc:List jg),acc++(if b=true then l.drop 0 else o5 (l.drop 0) id fr)=T→aj C cW aK 4 0 (fH (l.map e8) id fr b ((0:Nat):Int) (acc.map e8)) (fun x st=>aJ C cW aK x st fun r fs=>r=(TV.tu [(0,[TC.sub 2 ((mV l id fr).1.map e8)]),(0,[iB (mV l id fr).2])])∧fs=[]):=by
  have fin: ∀Q:QV,Q (TV.tu [(0,[TC.sub 2 ((mV l id fr).1.map e8)]),(0,[iB (mV l id fr).2])]) []→
   ∃(n17:Int),ax C cv ([TV.c (TC.sub 2 (l.map e8)),TV.c (iI id)]) (TV.c (iI n17)) []∧(aO (oc 0 n17) (aO (bN (l.map e8)&&fits (Nat.add 0 (List.length (l.map e8))) 16) (Q (TV.tu [(0,[TC.sub 2 (l.map e8)]),(0,[iB false])]) ([])) (False)) (∃(b18:Bool),ax C bR ([TV.c (TC.sub 2 (T.map e8))]) (TV.c (iB b18)) []∧(aO (!b18) (aO (bN (l.map e8)&&fits (Nat.add 0 (List.length (l.map e8))) 16) (Q (TV.tu [(0,[TC.sub 2 (l.map e8)]),(0,[iB false])]) ([])) (False)) (Q (TV.tu [(0,[TC.sub 2 (T.map e8)]),(0,[iB true])]) ([]))))):=by
   intro Q hQ
   have OU:(bN (l.map e8)&&fits (Nat.add 0 (List.length (l.map e8))) 16)=true:=by rw[Ak,c8 lQ];rfl
   refine⟨_,jQ l id aA,?_⟩;unfold mV at hQ
   by_cases h1:0≤ei l id
   ·rw[aT h1] at hQ
    exact ak (by simpa using h1) (ak OU hQ)
   ·rw[aL h1] at hQ hT
    have hok:ax C bR [kG T] (vB (fE T)) []:=Bv T aA;refine aB lQ ⟨_,hok,?_⟩;subst hT
    by_cases h2:fE (o5 l id fr)=true
    ·rw[aT h2] at hQ
     rw[h2];exact aB rfl hQ
    ·rw[aL h2] at hQ
     have h2:fE (o5 l id fr)=false:=by simpa using h2
     rw[h2];exact ak rfl (ak OU hQ)
  refine cc l (fun i=> ∀(b:Bool) (acc:List jg),acc++(if b=true then l.drop i else o5 (l.drop i) id fr)=T→aj C cW aK 4 0 (fH (l.map e8) id fr b (i:Int) (acc.map e8)) _) ?_ ?_
  ·intro b acc h0
   have hlen:=congrArg List.length h0;rw[cr] at hlen;refine uH _ _ _ _ _ _ _ (aB dM (B8 _ _ _ _ _ _ _ _ ?_));rw[iC] at h0
   cases b with
   |true=>
    simp only[if_true,ke] at h0;subst h0;exact aB rfl (fin (fun r fs=>r=(TV.tu [(0,[TC.sub 2 ((mV l id fr).1.map e8)]),(0,[iB (mV l id fr).2])])∧fs=[]) jC)
   |false=>
    have e:acc++[(⟨id,fr⟩:jg)]=T:=by simpa [o5,Dh] using h0
    refine ak rfl (ak (by rw[mU,c8 lQ];rfl) ?_);rw[wO,e];exact fin (fun r fs=>r=(TV.tu [(0,[TC.sub 2 ((mV l id fr).1.map e8)]),(0,[iB (mV l id fr).2])])∧fs=[]) jC
  ·intro i a hi ha hd ht hn b acc h0
   have hlen:=congrArg List.length h0;rw[cr] at hlen;refine uH _ _ _ _ _ _ _ (ak lQ ?_)
   have hrow:rowAt (l.map e8) (i:Int)=some [iI a.id,iI a.fr]:=by rw[bC,aU,ha];rfl
   have wo:aF (i:Int) 1=((i+1:Nat):Int):=aV aA
   cases b with
   |true=>
    rw[hd] at h0;simp only[if_true] at h0;refine aB rfl ⟨_,_,hrow,ak (by rw[mU,c8 lQ];rfl) ?_⟩;rw[wo,wO];exact hn true (acc++[a]) (by rw[←h0];simp)
   |false=>
    rw[hd] at h0;simp only[uR,if_false] at h0;unfold o5 at h0;rw[J1] at h0;refine ak rfl ⟨_,_,hrow,?_⟩
    by_cases hlt:id<a.id
    ·have hle:Td id a=false:=by simp[Td];omega
     rw[hle] at h0;simp only[uR,if_false] at h0;refine ak (by simpa using hlt) (ak (by rw[mU,c8 lQ];rfl) ⟨_,_,hrow,ak (by rw[mU,wO,c8 lQ];rfl) ?_⟩);rw[wo,wO,wO];exact hn true (acc++[⟨id,fr⟩]++[a]) (by rw[←h0];simp)
    ·have hle:Td id a=true:=by simp[Td];omega
     rw[hle] at h0;simp only[if_true] at h0;refine aB (by simpa using hlt) ⟨_,_,hrow,ak (by rw[mU,c8 lQ];rfl) ?_⟩;rw[wo,wO];exact hn false (acc++[a]) (by rw[←h0];simp[o5])
 refine key (oc 0 (ei l id)) [] ?_;rw[hT,mT]
 by_cases h1:0≤ei l id<;>simp[h1]
theorem fu (l:List Key) (hl:l.length≤1073741824):ax C az [ct l] (mE (bI l)) []:=by
 refine(DS _ _ ?_).run;unfold bI
 by_cases h:l.length=0
 ·exact ak (by simp[h]) ⟨by rw[aT h];rfl,rfl⟩
 ·refine aB (by rw[ck,yo,fD];exact pP aA) ?_
  rw[show bN (l.map bE)=true from ie _,c8 kR];exact⟨by rw[aL h];rfl,rfl⟩
theorem Ay (n:List (List Key)) (k:Key) (hb:n.length≤1073740000) (hl:tot bL n≤1073740000):ax C sN [mE n,JX k] (Sv (bV n k)) []:=by
 have hs: ∀s∈n,s.length≤1073741824:=fun s hm=>by have:=sD (w:=bL) hm;unfold bL at this hl;omega
 have OU:=nK n aA hs;have Xw:=Di n k;have Xx:=Dj n k
 have tail: ∀(X:List (List Key)) (Q:QV),X=gW n k→Q (Sv (bV n k)) []→ ∃(b22:Bool),ax C aW ([TV.ag [TC.sub 1 (X.map ej)]]) (TV.c (iB b22)) []∧(aO b22 (Q (TV.tu [(1,[TC.sub 1 (X.map ej)]),(0,[iB true])]) ([])) (∃(l23:RR),ax C aD ([TV.ag [TC.sub 1 (n.map ej)]]) (TV.c (TC.sub 5 l23)) []∧(∃(l24:RR),ax C aY ([TV.c (TC.sub 5 l23),JX k]) (TV.c (TC.sub 5 l24)) []∧(∃(l25:RR),ax C bS ([TV.c (TC.sub 5 l24)]) (TV.c (TC.sub 5 l25)) []∧(aO (dJ 8 (Int.ofNat (List.length l25))) (∃(l26:RR),ax C aP ([TV.ag [TC.sub 1 (n.map ej)]]) (TV.ag [TC.sub 1 l26]) []∧(Q (TV.tu [(1,[TC.sub 1 l26]),(0,[iB false])]) ([]))) (∃(l27:RR),ax C az ([TV.c (TC.sub 5 l25)]) (TV.ag [TC.sub 1 l27]) []∧(∃(b28:Bool),ax C aW ([TV.ag [TC.sub 1 l27]]) (TV.c (iB b28)) []∧(aO (!b28) (∃(l29:RR),ax C aP ([TV.ag [TC.sub 1 (n.map ej)]]) (TV.ag [TC.sub 1 l29]) []∧(Q (TV.tu [(1,[TC.sub 1 l29]),(0,[iB false])]) ([]))) (∃(l30:RR),ax C az ([TV.c (TC.sub 5 l25)]) (TV.ag [TC.sub 1 l30]) []∧(Q (TV.tu [(1,[TC.sub 1 l30]),(0,[iB true])]) ([]))))))))))):=by
  intro X Q hX hQ;rw[←hX] at Xw Xx;have hok:ax C aW [mE X] (vB (eo X)) []:=nJ X aA aA;have hkl:=mo n k;have hnl:=vp (bA n k);have hnt:=vq (bA n k);have VF:ax C aW [mE (bI (bA n k))] (vB (eo (bI (bA n k)))) []:=nJ _ aA aA;refine⟨_,hok,?_⟩;unfold bV at hQ;rw[←hX] at hQ
  cases h1:eo X with
  |true=>
   rw[aT h1] at hQ;exact ak rfl hQ
  |false=>
   rw[aL (by rw[h1];simp)] at hQ;have g1:=cN n;have g2:=jN (an n) k;refine aB rfl ⟨_,(cP n aA aA _).2 rfl,_,iV (an n) k aA,_,qJ (cE (an n) k) aA,?_⟩;change aO (dJ 8 (Int.ofNat (List.length ((bA n k).map bE)))) _ _
   by_cases h2:8<(bA n k).length
   ·rw[aT h2] at hQ
    exact ak lQ ⟨_,OU,hQ⟩
   ·rw[aL h2] at hQ
    refine aB lQ ⟨_,fu (bA n k) aA,_,VF,?_⟩
    cases h3:eo (bI (bA n k)) with
    |true=>
     rw[aT h3] at hQ;exact aB rfl ⟨_,fu (bA n k) aA,hQ⟩
    |false=>
     rw[aL (by rw[h3];simp)] at hQ;exact ak rfl ⟨_,OU,hQ⟩
 refine(DI _ _ _ _ _ _ _ ⟨_,OU,?_⟩).run
 (try dsimp only)
 rw[ck]
 cases xC:n[n.length-1]? with
 |none=>
  have h0:n.length=0:=Classical.byContradiction fun h=>by rw[aX aA] at xC;cases xC
  have hX:n++[[k]]=gW n k:=by unfold gW;rw[xC]
  refine aB (by rw[h0,jX dM];simp) (aB (by rw[h0,jX dM];simp) (ak (c8 lQ) ?_));rw[show List.append (n.map ej) [[TC.sub 5 [[iI k.b,iI k.a,iI k.k,iI k.c,iI k.g]]]]=(n++[[k]]).map ej from by simp[ej,bE]];exact tail _ (fun r fs=>r=Sv (bV n k)∧fs=[]) hX jC
 |some s=>
  have hlt:=(List.getElem?_eq_some_iff.1 xC).1
  have hsub:gr (Int.ofNat n.length) 1=((n.length-1:Nat):Int):=by rw[jX lQ];simp;omega
  have hrow:rowAt (n.map ej) ((n.length-1:Nat):Int)=some [TC.sub 5 (s.map bE)]:=by rw[bC,aU,xC];rfl
  have Uy:=hs s (eD xC);have ym:setRow (n.map ej) ((n.length-1:Nat):Int) 0 [TC.sub 5 ((cE s k).map bE)]=(n.set (n.length-1) (cE s k)).map ej:=JW (a:=s) (a':=cE s k) xC rfl
  have VG:List.append (n.map ej) [[TC.sub 5 [[iI k.b,iI k.a,iI k.k,iI k.c,iI k.g]]]]=(n++[[k]]).map ej:=by simp[ej,bE]
  have hfit:fits (Nat.succ n.length) 24=true:=c8 lQ;rw[hsub];refine ak dM ⟨_,hrow,_,hrow,_,_,_,_,_,_,DF s k.b k.a Uy,ak dM ⟨_,hrow,_,hrow,?_⟩⟩
  by_cases h2:s.length<4
  ·have hX:n.set (n.length-1) (cE s k)=gW n k:=by unfold gW GK;rw[xC];simp[h2]
   refine ak lQ ⟨_,hrow,_,hrow,_,iV s k Uy,_,hrow,_,hrow,?_⟩;rw[ym];exact tail _ (fun r fs=>r=Sv (bV n k)∧fs=[]) hX jC
  ·refine aB lQ ?_
   cases h1:(uO s k.b k.a).2 with
   |true=>
    have hX:n.set (n.length-1) (cE s k)=gW n k:=by unfold gW GK;rw[xC];simp[h1]
    refine ak rfl ⟨_,hrow,_,hrow,_,iV s k Uy,_,hrow,_,hrow,?_⟩;rw[ym];exact tail _ (fun r fs=>r=Sv (bV n k)∧fs=[]) hX jC
   |false=>
    have hX:n++[[k]]=gW n k:=by unfold gW GK;rw[xC];simp[h1,h2]
    refine aB rfl (ak hfit ?_);rw[VG];exact tail _ (fun r fs=>r=Sv (bV n k)∧fs=[]) hX jC
theorem pk (t:Tree) (i:Nat) (lw:List Int) (nd:List (List (List Key))) (h1:i+1≤t.au.length) (h2:i+1≤t.nodes.length) (hl:t.au.length≤1073741824) (hn:t.nodes.length≤1073741824) (XP:lw.length≤1073741824) (Hv:nd.length≤1073741824):ax C bH [dS t,vI (i:Int),rC lw,RN nd] (dS (jy t i 1 lw nd)) []:=by
 have e1:aq (t.au.map cO) 0 (i:Int)=(t.au.take i).map cO:=by rw[cU];rfl
 have e2:aq (t.au.map cO) ((i:Int)+1) (Int.ofNat (t.au.map cO).length)=(t.au.drop (i+1)).map cO:=by
  rw[cU,ck,show((i:Int)+1).toNat=i+1 from by omega,show(Int.ofNat t.au.length).toNat=t.au.length from rfl,uV]
 have e3:aq (t.nodes.map bO) 0 (i:Int)=(t.nodes.take i).map bO:=by rw[cU];rfl
 have ea:aF (i:Int) 1=(i:Int)+1:=aV aA
 have k1:(t.au.take i).length≤t.au.length:=by rw[eY];omega
 have k2:(t.au.drop (i+1)).length≤t.au.length:=by rw[jE];omega
 have k3:(t.nodes.take i).length≤t.nodes.length:=by rw[eY];omega
 have k4:(t.nodes.drop (i+1)).length≤t.nodes.length:=by rw[jE];omega
 have e4:aq (t.nodes.map bO) ((i:Int)+1) (Int.ofNat (t.nodes.map bO).length)=(t.nodes.drop (i+1)).map bO:=by
  rw[cU,ck,show((i:Int)+1).toNat=i+1 from by omega,show(Int.ofNat t.nodes.length).toNat=t.nodes.length from rfl,uV]
 refine(Hg _ _ _ _ _ _ ?_).run;rw[ea,e1,e2,e3,e4,kH,kH,kH,kH]
 refine ak lQ (ak lQ (ak (by rw[jY,c8 lQ];rfl) (ak (by rw[jY,c8 (by simp only[ck,pO];omega)];rfl) (ak (by rw[jY,c8 (by simp only[ck,cr,pO];omega)];rfl)
  (ak lQ (ak lQ (ak (c8 lQ) (ak (c8 (by simp only[ck,pO];omega)) (ak (c8 (by simp only[ck,cr,pO];omega)) ?_)))))))))
 exact jC
attribute [local semireducible] fY aq in
theorem Sw {rows:RR} {i c:Nat} (hk:i+c≤rows.length):aq (fY 1 rows 0 (i:Int)) ((i:Int)+(c:Int)) (Int.ofNat rows.length)=rows.drop (i+c):=by
 unfold aq fY;rw[qP,show((i:Int)+(c:Int)).toNat=i+c from by omega,show(0:Int).toNat=0 from rfl,show(Int.ofNat rows.length).toNat=rows.length from rfl,List.take_zero,pM,Nat.sub_zero];rw[Qv lQ,List.drop_append,List.length_replicate,yq dM,pM,List.drop_drop]
 congr 1;omega
def FY:Option Nat→Int
 |some i=>i
 |none=> -1
theorem nL (t:Tree) (hn:t.nodes.length≤1073741824) (hz:tot aQ t.nodes≤1073740000):ax C dZ [dS t] (vI (FY (jt t))) []:=by
 refine(EC _ _ _ ?_).run
 have key: ∀(d i:Nat),i+d=t.nodes.length→nt t d i=jt t→aj C dZ aE 4 0 (kX (i:Int) (t.au.map cO) (t.nodes.map bO)) (fun x st=>aJ C dZ aE x st fun r fs=>r=vI (FY (jt t))∧fs=[]):=by
  intro d
  induction d with
  |zero=>
   intro i h he;have ea:aF (i:Int) 1=(i:Int)+1:=aV aA;refine ur _ _ _ _ ?_;rw[ea];exact aB lQ (uu _ _ _ _ _ ⟨by rw[←he];rfl,rfl⟩)
  |succ d ih=>
   intro i h he;have ea:aF (i:Int) 1=(i:Int)+1:=aV aA
   have ec:(i:Int)+1=((i+1:Nat):Int):=by omega
   unfold nt at he;refine ur _ _ _ _ ?_;rw[ea,ec]
   by_cases h1:i+1<t.nodes.length
   ·rw[aT h1] at he
    obtain⟨a,ha⟩: ∃a,t.nodes[i]?=some a:=⟨_,aX aA⟩;obtain⟨b,hb⟩: ∃b,t.nodes[i+1]?=some b:=⟨_,aX h1⟩;have za:a.length+tot bL a≤tot aQ t.nodes:=mh (w:=aQ) ha;have zb:b.length+tot bL b≤tot aQ t.nodes:=mh (w:=aQ) hb
    have ka:eK t i=an a:=by unfold eK;rw[mC,ha];rfl
    have kb:eK t (i+1)=an b:=by unfold eK;rw[mC,hb];rfl
    have la:=cN a;have lb:=cN b;rw[ka,kb] at he;refine ak lQ ⟨_,by rw[bC,aU,ha];rfl,_,by rw[bC,aU,hb];rfl,_,(cP a aA aA _).2 rfl,_,(cP b aA aA _).2 rfl,?_⟩
    (try dsimp only)
    rw[ck,ck,show aF (Int.ofNat (an a).length) (Int.ofNat (an b).length)=((an a).length:Int)+(an b).length from aV lQ]
    by_cases h2:(an a).length+(an b).length≤6
    ·rw[aT h2] at he
     exact ak lQ (BM _ _ _ _ _ _ ⟨by rw[←he];rfl,rfl⟩)
    ·rw[aL h2] at he
     exact aB lQ (ih (i+1) aA he)
   ·rw[aL h1] at he
    exact aB lQ (uu _ _ _ _ _ ⟨by rw[←he];rfl,rfl⟩)
 exact key t.nodes.length 0 aA rfl
theorem BC (t0:Tree) (hw0:t0.au.length=t0.nodes.length) (OD:tot aQ t0.nodes+t0.nodes.length≤1073700000):ax C aH [dS t0] (dS (ij t0.nodes.length t0)) []:=by
 refine(EZ _ _ _ ⟨_,nL t0 aA aA,?_⟩).run
 have key: ∀(m:Nat) (t:Tree),t.nodes.length=m→t.au.length=t.nodes.length→tot aQ t.nodes+t.nodes.length≤1073700000→ij m t=ij t0.nodes.length t0→aj C aH aE 4 0 (jb (FY (jt t)) (t.au.map cO) (t.nodes.map bO)) (fun x st=>aJ C aH aE x st fun r fs=>r=dS (ij t0.nodes.length t0)∧fs=[]):=by
  intro m
  induction m with
  |zero=>
   intro t hm hw hz he
   have hp:jt t=none:=by unfold jt;rw[hm];rfl
   rw[hp];exact nP _ _ _ _ (aB (by simp[FY]) (uK _ _ _ _ _ ⟨by rw[←he];rfl,rfl⟩))
  |succ m ih=>
   intro t hm hw hz he;rw[o6] at he
   cases hp:jt t with
   |none=>
    rw[hp] at he;have he:t=ij t0.nodes.length t0:=he;exact nP _ _ _ _ (aB (by simp[FY]) (uK _ _ _ _ _ ⟨by rw[←he],rfl⟩))
   |some i=>
   rw[hp] at he;have he:ij m (bJ t i)=ij t0.nodes.length t0:=he;have hlt:=rD hp;show aj C aH aE 4 0 (jb (i:Int) (t.au.map cO) (t.nodes.map bO)) _;obtain⟨a,ha⟩: ∃a,t.nodes[i]?=some a:=⟨_,aX aA⟩;obtain⟨b,hb⟩: ∃b,t.nodes[i+1]?=some b:=⟨_,aX hlt.1⟩;have za:a.length+tot bL a≤tot aQ t.nodes:=mh (w:=aQ) ha;have zb:b.length+tot bL b≤tot aQ t.nodes:=mh (w:=aQ) hb;have la:=cN a;have lb:=cN b;have h6:=hlt.2;rw[dL ha,dL hb] at h6
   have ea:aF (i:Int) 1=((i+1:Nat):Int):=by rw[aV aA];omega
   have eb:aF (i:Int) 2=((i+2:Nat):Int):=by rw[aV aA];omega
   have ra:rowAt (t.nodes.map bO) (i:Int)=some [TC.sub 1 (a.map ej)]:=by rw[bC,aU,ha];rfl
   have rb:rowAt (t.nodes.map bO) ((i+1:Nat):Int)=some [TC.sub 1 (b.map ej)]:=by rw[bC,aU,hb];rfl
   have c1:aq (t.au.map cO) 0 ((i+1:Nat):Int)=(t.au.take (i+1)).map cO:=by rw[cU];rfl
   have c2:aq (t.au.map cO) ((i+2:Nat):Int) (Int.ofNat (t.au.map cO).length)=(t.au.drop (i+2)).map cO:=by
    rw[cU,ck,qP,show(Int.ofNat t.au.length).toNat=t.au.length from rfl,uV]
   have c3:aq (t.nodes.map bO) 0 (i:Int)=(t.nodes.take i).map bO:=by rw[cU];rfl
   have c4:aq (t.nodes.map bO) ((i+2:Nat):Int) (Int.ofNat (t.nodes.map bO).length)=(t.nodes.drop (i+2)).map bO:=by
    rw[cU,ck,qP,show(Int.ofNat t.nodes.length).toNat=t.nodes.length from rfl,uV]
   have hlo:i<t.au.length:=by omega
   have eL:List.append ((t.au.take (i+1)).map cO) ((t.au.drop (i+2)).map cO)=(bJ t i).au.map cO:=by
    rw[kH];unfold bJ jy;simp only[];rw[List.take_add_one,mC,aX hlo];simp
   have eN:List.append (List.append ((t.nodes.take i).map bO) [[TC.sub 1 ((bI (an a++an b)).map ej)]]) ((t.nodes.drop (i+2)).map bO)=(bJ t i).nodes.map bO:=by
    rw[zc,kH];unfold bJ jy;simp only[];rw[dL ha,dL hb]
   have hsz:=vt hlt.1;have hjl:=oB hlt.1
   have Xy:(bJ t i).au.length+1=t.au.length:=by
    have:=sJ t i 2 [t.au.getD i 0] [bI (eK t i++eK t (i+1))] aA;unfold bJ;simp only[fP] at this;omega
   have k1:(t.au.take (i+1)).length≤t.au.length:=by rw[eY];omega
   have k2:(t.au.drop (i+2)).length≤t.au.length:=by rw[jE];omega
   have k3:(t.nodes.take i).length≤t.nodes.length:=by rw[eY];omega
   have k4:(t.nodes.drop (i+2)).length≤t.nodes.length:=by rw[jE];omega
   refine nP _ _ _ _ (ak dM ?_);rw[ea,eb];refine⟨_,ra,_,ra,_,rb,_,rb,_,(cP a aA aA _).2 rfl,_,(cP b aA aA _).2 rfl,?_⟩
   (try dsimp only)
   rw[kH,c1,c2,c3,c4]
   refine ak (by rw[ie,c8 (by simp only[ck,pO];omega)];rfl) (ak lQ (ak lQ (ak (by rw[jY,c8 (by simp only[ck,pO];omega)];rfl) (ak (by rw[jY,c8 (by simp only[ck,pO];omega)];rfl)
    (ak lQ (ak lQ (ak (c8 (by simp only[ck,pO];omega)) ⟨_,fu (an a++an b) (by rw[cr];omega),ak (c8 (by simp only[ck,Nat.succ_eq_add_one];omega)) ?_⟩)))))))
   rw[eL,eN];refine ak (c8 (by rw[zc];simp only[ck,cr,fP,pO];omega)) ⟨_,nL (bJ t i) aA aA,?_⟩;exact ih (bJ t i) aA aA aA he
 cases hp:jt t0 with
 |none=>
  have hj:ij t0.nodes.length t0=t0:=by
   cases hm:t0.nodes.length with
   |zero=>rfl
   |succ m=>rw[o6,hp]
  exact uJ _ _ _ _ (aB (by simp[FY]) (Ca _ _ _ _ _ ⟨by rw[hj],rfl⟩))
 |some i=>
  have hlt:=rD hp;obtain⟨t,ht⟩: ∃t,t=t0:=⟨_,rfl⟩;rw[←ht] at hlt hw0 OD hp ⊢;show aj C aH aE 4 0 (nN (i:Int) (t.au.map cO) (t.nodes.map bO)) _;obtain⟨a,ha⟩: ∃a,t.nodes[i]?=some a:=⟨_,aX aA⟩;obtain⟨b,hb⟩: ∃b,t.nodes[i+1]?=some b:=⟨_,aX hlt.1⟩;have za:a.length+tot bL a≤tot aQ t.nodes:=mh (w:=aQ) ha;have zb:b.length+tot bL b≤tot aQ t.nodes:=mh (w:=aQ) hb;have la:=cN a;have lb:=cN b;have h6:=hlt.2;rw[dL ha,dL hb] at h6
  have ea:aF (i:Int) 1=((i+1:Nat):Int):=by rw[aV aA];omega
  have eb:aF (i:Int) 2=((i+2:Nat):Int):=by rw[aV aA];omega
  have ra:rowAt (t.nodes.map bO) (i:Int)=some [TC.sub 1 (a.map ej)]:=by rw[bC,aU,ha];rfl
  have rb:rowAt (t.nodes.map bO) ((i+1:Nat):Int)=some [TC.sub 1 (b.map ej)]:=by rw[bC,aU,hb];rfl
  have c1:aq (t.au.map cO) 0 ((i+1:Nat):Int)=(t.au.take (i+1)).map cO:=by rw[cU];rfl
  have c2:aq (t.au.map cO) ((i+2:Nat):Int) (Int.ofNat (t.au.map cO).length)=(t.au.drop (i+2)).map cO:=by
   rw[cU,ck,qP,show(Int.ofNat t.au.length).toNat=t.au.length from rfl,uV]
  have c3:aq (t.nodes.map bO) 0 (i:Int)=(t.nodes.take i).map bO:=by rw[cU];rfl
  have c4:aq (t.nodes.map bO) ((i+2:Nat):Int) (Int.ofNat (t.nodes.map bO).length)=(t.nodes.drop (i+2)).map bO:=by
   rw[cU,ck,qP,show(Int.ofNat t.nodes.length).toNat=t.nodes.length from rfl,uV]
  have hlo:i<t.au.length:=by omega
  have eL:List.append ((t.au.take (i+1)).map cO) ((t.au.drop (i+2)).map cO)=(bJ t i).au.map cO:=by
   rw[kH];unfold bJ jy;simp only[];rw[List.take_add_one,mC,aX hlo];simp
  have eN:List.append (List.append ((t.nodes.take i).map bO) [[TC.sub 1 ((bI (an a++an b)).map ej)]]) ((t.nodes.drop (i+2)).map bO)=(bJ t i).nodes.map bO:=by
   rw[zc,kH];unfold bJ jy;simp only[];rw[dL ha,dL hb]
  have hsz:=vt hlt.1;have hjl:=oB hlt.1
  have Xy:(bJ t i).au.length+1=t.au.length:=by
   have:=sJ t i 2 [t.au.getD i 0] [bI (eK t i++eK t (i+1))] aA;unfold bJ;simp only[fP] at this;omega
  have k1:(t.au.take (i+1)).length≤t.au.length:=by rw[eY];omega
  have k2:(t.au.drop (i+2)).length≤t.au.length:=by rw[jE];omega
  have k3:(t.nodes.take i).length≤t.nodes.length:=by rw[eY];omega
  have k4:(t.nodes.drop (i+2)).length≤t.nodes.length:=by rw[jE];omega
  refine uJ _ _ _ _ (ak dM ?_);rw[ea,eb];refine⟨_,ra,_,rb,_,(cP a aA aA _).2 rfl,_,(cP b aA aA _).2 rfl,?_⟩
  (try dsimp only)
  rw[kH,c1,c2,c3,c4]
  refine ak (by rw[ie,c8 (by simp only[ck,pO];omega)];rfl) (ak lQ (ak lQ (ak (by rw[jY,c8 (by simp only[ck,pO];omega)];rfl) (ak (by rw[jY,c8 (by simp only[ck,pO];omega)];rfl)
   (ak lQ (ak lQ (ak (c8 (by simp only[ck,pO];omega)) ⟨_,fu (an a++an b) (by rw[cr];omega),ak (c8 (by simp only[ck,Nat.succ_eq_add_one];omega)) ?_⟩)))))))
  rw[eL,eN];refine ak (c8 (by rw[zc];simp only[ck,cr,fP,pO];omega)) ⟨_,nL (bJ t i) aA aA,?_⟩;refine ht▸key (bJ t i).nodes.length (bJ t i) rfl aA aA ?_;rw[←ht]
  have:t.nodes.length=(bJ t i).nodes.length+1:=by omega
  rw[this];rw[o6,hp]
theorem U2 {n:Nat} (h:n≤1073741824):eM .i64 (aF (Int.ofNat n) 1) 2=(((n+1)/2:Nat):Int):=by
 rw[aV kR];unfold eM;rw[Int.tdiv_eq_ediv_of_nonneg kR,show IntKind.wrap .i64 ((Int.ofNat n+1)/2)=(Int.ofNat n+1)/2 from IntWalk.i64_in _ kR];simp
theorem Az (t:Tree) (k:Key) (hz:dU t≤4194304):ax C sO [dS t,JX k] (Hr (cn t k)) []:=by
 have hN:=IX hz;have OU:ax C bZ [dS t] (dS t) []:=Bz t hN.1 hN.2;refine(D4 _ _ _ _ _ _ _ _ ⟨_,_,OU,_,th t aA,?_⟩).run
 cases h1:cF t with
 |false=>exact ak rfl ⟨by unfold cn;rw[aL (by rw[h1];simp)],rfl⟩
 |true=>
 refine aB rfl ⟨_,(zh _ _ _ _ _ _).2 rfl,?_⟩;change aO (!c6 k) _ _
 cases h2:c6 k with
 |false=>exact ak rfl ⟨by unfold cn;rw[aL (by rw[h2];simp)],rfl⟩
 |true=>
 obtain⟨i,hi,OS⟩:=J4 h1 h2;have hlen:=lC h1
 have hw:ax C c7 [dS t,vI k.b,vI k.a] (vI (i:Int)) []:=by rw[←hi];exact Aw t k.b k.a aA
 have hrow:rowAt (t.nodes.map bO) (i:Int)=some [TC.sub 1 (t.nodes[i].map ej)]:=by rw[bC,aU,aX OS];rfl
 have Qu:rowAt (t.au.map cO) (i:Int)=some [iI (t.au.getD i 0)]:=by
  rw[bC,aU,mC,aX aA];rfl
 have hg:t.nodes.getD i []=t.nodes[i]:=by rw[mC,aX OS];rfl
 have hok:=qf h1 (pL OS);have hsz:=wQ hok;have hps:=Bc t.nodes[i] k;have XQ:=Bd t.nodes[i] k;have hkl:=mo t.nodes[i] k;have hnk:=cN t.nodes[i];obtain⟨SD,I9,V6⟩:=N4 (k:=k) h1 OS
 have hR:cn t k=if cF (ij (gP t i k).nodes.length (gP t i k))=true then(ij (gP t i k).nodes.length (gP t i k),true) else(t,false):=by
  unfold cn;rw[aT ⟨h1,h2⟩,hi,qP]
 have fin: ∀Q:QV,Q (Hr (cn t k)) []→ ∃(l39 l40:RR),ax C aH [dS (gP t i k)] (.ag [.sub 1 l39,.sub 1 l40]) []∧(∃b:Bool,ax C aC [.ag [.sub 1 l39,.sub 1 l40]] (vB b) []∧(aO (!b) (Q (.tu [(1,K7 t),(0,[iB false])]) []) (Q (.tu [(1,[.sub 1 l39,.sub 1 l40]),(0,[iB true])]) []))):=by
  intro Q hQ;refine⟨_,_,BC (gP t i k) I9 aA,_,th _ aA,?_⟩;rw[hR] at hQ
  cases h3:cF (ij (gP t i k).nodes.length (gP t i k)) with
  |true=>rw[aT h3] at hQ;exact aB rfl hQ
  |false=>rw[aL (by rw[h3];simp)] at hQ;exact ak rfl hQ
 have np:=Ay t.nodes[i] k aA aA;have hx:=pk t i [t.au.getD i 0] [(bV t.nodes[i] k).1] aA aA aA aA dM dM;refine aB rfl ⟨_,hw,_,hrow,?_⟩
 cases hp:(bV t.nodes[i] k).2 with
 |false=>
  have hno:=(Dl hok h2 hp).1
  have cno:(!(bV t.nodes[i] k).2)=true:=by rw[hp];rfl
  obtain⟨ks,hks⟩: ∃ks,ks=bA t.nodes[i] k:=⟨_,rfl⟩;rw[←hks] at hno hkl;have hh:=Ld hno;obtain⟨h,Ux⟩: ∃h,h=(ks.length+1)/2:=⟨_,rfl⟩
  have hq:eM .i64 (aF (Int.ofNat (List.length (ks.map bE))) 1) 2=(h:Int):=by rw[ck,U2 aA,Ux]
  have hkk:rowAt (ks.map bE) (h:Int)=some [iI (ks.getD h ef).b,iI (ks.getD h ef).a,iI (ks.getD h ef).k,iI (ks.getD h ef).c,iI (ks.getD h ef).g]:=by
   rw[bC,aU,mC,aX aA];rfl
  have ep:gP t i k=jy t i 1 [t.au.getD i 0,bw (ks.getD h ef).b (ks.getD h ef).a] [bI (ks.take h),bI (ks.drop h)]:=by
   unfold gP;rw[hg,aL (by rw[hp];simp),←hks,←Ux]
  have rp:=pk t i [t.au.getD i 0,bw (ks.getD h ef).b (ks.getD h ef).a] [bI (ks.take h),bI (ks.drop h)] aA aA aA aA dM dM;rw[←ep] at rp
  have e1:aq (ks.map bE) 0 (h:Int)=(ks.take h).map bE:=by rw[cU];rfl
  have e2:aq (ks.map bE) (h:Int) (Int.ofNat (List.length (ks.map bE)))=(ks.drop h).map bE:=by
   rw[cU,ck,qP,show(Int.ofNat ks.length).toNat=ks.length from rfl,uV]
  have nn1:ax C az [.c (.sub 5 (aq (ks.map bE) 0 (h:Int)))] (mE (bI (ks.take h))) []:=by rw[e1];exact fu _ (by rw[eY];omega)
  have nn2:ax C az [.c (.sub 5 (aq (ks.map bE) (h:Int) (Int.ofNat (List.length (ks.map bE)))))] (mE (bI (ks.drop h))) []:=by rw[e2];exact fu _ (by rw[jE];omega)
  have c1:fh 0 (h:Int) (Int.ofNat (List.length (ks.map bE)))=true:=by rw[Iz];simp;omega
  have c2:fh (h:Int) (Int.ofNat (List.length (ks.map bE))) (Int.ofNat (List.length (ks.map bE)))=true:=by rw[Iz];simp;omega
  have kw:ax C bS [ct (cE (an t.nodes[i]) k)] (ct ks) []:=by
   rw[hks];exact qJ (cE (an t.nodes[i]) k) (by have:=jN (an t.nodes[i]) k;omega)
  clear hks Ux hR
  repeat' first
   |refine⟨_,hrow,?_⟩
   |refine⟨_,Qu,?_⟩
   |refine⟨_,_,np,?_⟩
   |refine⟨_,_,hx,?_⟩
   |refine ak cno ?_
   |refine⟨_,kw,?_⟩
   |refine⟨_,(cP t.nodes[i] aA aA _).2 rfl,?_⟩
   |refine⟨_,iV (an t.nodes[i]) k aA,?_⟩
   |refine aB (by rw[fD];rfl) ?_
   |rw[hq]
   |refine⟨_,_,_,_,_,hkk,?_⟩
   |refine ak c1 ?_
   |refine ak c2 ?_
   |refine⟨_,(xq _ _ _ _ _ _).2 rfl,?_⟩
   |refine⟨_,nn1,?_⟩
   |refine⟨_,nn2,?_⟩
   |refine⟨_,_,rp,?_⟩
   |refine⟨(Hr (cn t k),([]:List TV)),?_,?_,rfl⟩
   |refine⟨(Hr (cn t k),([]:List TV)),?_,?_,jC⟩
   |exact fin (fun a b=>(a,b)=(Hr (cn t k),([]:List TV))) rfl
   |exact fin (fun r fs=>r=Hr (cn t k)∧fs=[]) jC
 |true=>
  have cno:(!(bV t.nodes[i] k).2)=false:=by rw[hp];rfl
  by_cases hc:0<i∧(an (bV t.nodes[i] k).1).length=0
  ·have ci:dJ 0 (i:Int)=true:=by rw[nG];simp;omega
   have nk:=(cP (bV t.nodes[i] k).1 aA aA _).2 rfl
   have cl:gq (Int.ofNat (List.length ((an (bV t.nodes[i] k).1).map bE))) 0=true:=by rw[fD,ck,hc.2];rfl
   have ep:gP t i k=jy t i 1 [] []:=by unfold gP;rw[hg,aT hp,aT hc]
   have rp:=pk t i [] [] aA aA aA aA dM dM;rw[←ep] at rp;clear hR
   repeat' first
   |refine⟨_,hrow,?_⟩
   |refine⟨_,Qu,?_⟩
   |refine⟨_,_,np,?_⟩
   |refine⟨_,_,hx,?_⟩
   |refine aB cno ?_
   |refine ak ci ?_
   |refine⟨_,nk,?_⟩
   |refine ak cl ?_
   |refine⟨_,_,rp,?_⟩
   |refine⟨(Hr (cn t k),([]:List TV)),?_,?_,rfl⟩
   |refine⟨(Hr (cn t k),([]:List TV)),?_,?_,jC⟩
   |exact fin (fun a b=>(a,b)=(Hr (cn t k),([]:List TV))) rfl
   |exact fin (fun r fs=>r=Hr (cn t k)∧fs=[]) jC
  ·have ep:jy t i 1 [t.au.getD i 0] [(bV t.nodes[i] k).1]=gP t i k:=by
    unfold gP;rw[hg,aT hp,aL hc]
   rw[ep] at hx;clear hR
   by_cases VN:0<i
   ·have ci:dJ 0 (i:Int)=true:=by rw[nG];simp;omega
    have nk:=(cP (bV t.nodes[i] k).1 aA aA _).2 rfl
    have cl:gq (Int.ofNat (List.length ((an (bV t.nodes[i] k).1).map bE))) 0=false:=by
     rw[fD,ck];exact pP fun e=>hc ⟨VN,by have e:((an (bV t.nodes[i] k).1).length:Int)=0:=e;omega⟩
    repeat' first
   |refine⟨_,hrow,?_⟩
   |refine⟨_,Qu,?_⟩
   |refine⟨_,_,np,?_⟩
   |refine⟨_,_,hx,?_⟩
   |refine aB cno ?_
   |refine ak ci ?_
   |refine⟨_,nk,?_⟩
   |refine aB cl ?_
   |refine⟨(Hr (cn t k),([]:List TV)),?_,?_,rfl⟩
   |refine⟨(Hr (cn t k),([]:List TV)),?_,?_,jC⟩
   |exact fin (fun a b=>(a,b)=(Hr (cn t k),([]:List TV))) rfl
   |exact fin (fun r fs=>r=Hr (cn t k)∧fs=[]) jC
   ·have ci:dJ 0 (i:Int)=false:=by rw[nG];simp;omega
    repeat' first
   |refine⟨_,hrow,?_⟩
   |refine⟨_,Qu,?_⟩
   |refine⟨_,_,np,?_⟩
   |refine⟨_,_,hx,?_⟩
   |refine aB cno ?_
   |refine aB ci ?_
   |refine⟨(Hr (cn t k),([]:List TV)),?_,?_,rfl⟩
   |refine⟨(Hr (cn t k),([]:List TV)),?_,?_,jC⟩
   |exact fin (fun a b=>(a,b)=(Hr (cn t k),([]:List TV))) rfl
   |exact fin (fun r fs=>r=Hr (cn t k)∧fs=[]) jC
theorem P7 (b:List Int) (hb:b.length≤1048576):bQ C gi [Aj b] (fun r fs=>fs=[]∧ ∃h,r=Am b 0 h):=by
 refine G8 _ _ ?_
 have key: ∀(d i:Nat) (h:Int),i+d=4000→aj C gi ai 4 0 (mw (b.map iJ) h (i:Int)) (fun x st=>aJ C gi ai x st fun r fs=>fs=[]∧ ∃h,r=Am b 0 h):=by
  intro d
  induction d with
  |zero=>
   intro i h hd;refine wh _ _ _ _ ?_
   by_cases h1:(i:Int)<(b.length:Int)
   ·exact ak lQ (aB lQ (DX _ _ _ _ ⟨rfl,_,rfl⟩))
   ·exact aB lQ (wj _ _ _ _ ⟨rfl,_,rfl⟩)
  |succ d ih=>
   intro i h hd;refine wh _ _ _ _ ?_
   by_cases h1:(i:Int)<(b.length:Int)
   ·refine ak lQ (ak lQ ⟨b[i]'aA,by rw[bC,aU,aX aA];rfl,?_⟩)
    rw[aV (a:=(i:Int)) aA];exact ih (i+1) _ aA
   ·exact aB lQ (wj _ _ _ _ ⟨rfl,_,rfl⟩)
 exact key 4000 0 _ rfl
theorem zm (b:List Int) (i h:Int) (hi:0≤i) (hb:b.length≤1048576):bQ C lP [Am b i h] (Dr b fun r=> ∃x,r=vI x∧0≤x∧x≤255):=by
 refine EV _ _ _ _ ?_
 by_cases h1:i<(b.length:Int)
 ·obtain⟨x,hx⟩:=wN hi h1
  refine ak lQ ⟨x,by rw[bC,hx];rfl,aF i 1,_,?_,rfl,_,rfl,NU _⟩;rw[aV aA];omega
 ·exact aB lQ ⟨i,_,hi,rfl,_,rfl,NU _⟩
theorem gz (b:List Int) (i h:Int) (hi:0≤i) (hb:b.length≤1048576) (n:Int) (hn:n≤16777216):bQ C cq [Am b i h,vI n] (Dr b fun r=> ∃x,r=vI x∧0≤x∧(0<n→x<n)):=by
 refine D0 _ _ _ _ _ ?_
 by_cases h0:n≤0
 ·exact ak lQ ⟨i,h,hi,rfl,0,rfl,Int.le_refl _,fun h=>by omega⟩
 refine aB lQ ?_
 by_cases h1:n≤256
 ·obtain⟨_,_,hr,i1,zC,hi1,rfl,x,rfl,x0,x1⟩:=zm b i h hi hb
  refine ak lQ ⟨x,_,i1,zC,hr,aB lQ ⟨i1,zC,hi1,rfl,_,rfl,?_⟩⟩;rw[K3];have:=ID x0 (show 0<n by omega);exact⟨this.1,fun _=>this.2⟩
 ·obtain⟨_,_,hr,i1,zC,hi1,rfl,x,rfl,x0,x1⟩:=zm b i h hi hb
  obtain⟨_,_,F0,i2,Ls,hi2,rfl,y,rfl,y0,y1⟩:=zm b i1 zC hi1 hb;obtain⟨_,_,Xz,i3,OP,OE,rfl,z,rfl,z0,z1⟩:=zm b i2 Ls hi2 hb;refine aB lQ ⟨x,_,i1,zC,hr,y,_,i2,Ls,F0,z,_,i3,OP,Xz,aB lQ ⟨i3,OP,OE,rfl,_,rfl,?_⟩⟩;have e1:xR x 65536=x*65536:=GH aA;have e2:xR y 256=y*256:=GH aA;rw[K3,e1,e2,aV (a:=x*65536) aA,aV aA];have:=ID (show 0≤x*65536+y*256+z by omega) (show 0<n by omega);exact⟨this.1,fun _=>this.2⟩
theorem Oj (b:List Int) (i h:Int) (hi:0≤i) (hb:b.length≤1048576) (n:Int) (hn:n≤16777216):bQ C vF [Am b i h,vI n] (Dr b fun r=> ∃x,r=vB x):=by
 obtain⟨_,_,hr,i1,zC,hi1,rfl,x,rfl,x0,x1⟩:=gz b i h hi hb n hn;exact EB _ _ _ _ _ ⟨x,_,i1,zC,hr,i1,zC,hi1,rfl,_,rfl⟩
theorem Ll (b:List Int) (i h:Int) (hi:0≤i) (hb:b.length≤1048576) (l:List Int) (h0:0<l.length) (hl:l.length≤1000):bQ C sQ [Am b i h,rC l] (Dr b fun r=> ∃x,r=vI x∧x∈l):=by
 obtain⟨_,_,hr,i1,zC,hi1,rfl,x,rfl,x0,x1⟩:=gz b i h hi hb (l.length:Int) aA;have:=x1 aA;obtain⟨y,hy⟩:=wN x0 this;refine Hf _ _ _ _ _ ⟨x,_,i1,zC,by rw[ck];exact hr,y,by rw[bC,hy];rfl,i1,zC,hi1,rfl,y,rfl,Iy hy⟩
theorem P8 (b:List Int):ax C Dz [Aj b] (vB (decide (1048576<b.length))) []:=by
 refine(Kl _ _ ⟨?_,by trivial⟩).run;simp<;>omega
theorem RY {l:List Int} {x lo hi:Int} (h:x∈l) (ha:l.all (fun y=>decide (lo≤y∧y≤hi))=true):lo≤x∧x≤hi:=oL (List.all_eq_true.1 ha x h)
attribute [local semireducible] eM in
theorem Tj {a:Int} (h0:0≤a) (h1:a≤9223372036854775807):eM .i64 a 12=a/12:=by
 show IntKind.i64.wrap (a.tdiv 12)=_;rw[Int.tdiv_eq_ediv_of_nonneg h0];exact IntWalk.i64_in _ aA
theorem Ok (b:List Int) (n:Int) (h3:3≤n) (hn:n≤1000) (hb:b.length≤1048576): ∃x,3≤x∧x≤n∧ax C vE [Aj b,vI n] (vI x) []:=by
 have e:aF 3 (eM .i64 (Int.ofNat (b.map iJ).length) 12)=3+(b.length:Int)/12:=by
  rw[Tj lQ lQ,aV lQ];simp
 by_cases h:n<3+(b.length:Int)/12
 ·refine⟨n,h3,Int.le_refl _,(xz _ _ _ (aB dM ?_)).run⟩
  rw[e];exact ak (by simpa using h) jC
 ·refine⟨3+(b.length:Int)/12,by omega,by omega,(xz _ _ _ (aB dM ?_)).run⟩
  rw[e];exact aB (by simpa using h) jC
theorem Ol (b:List Int) (i h:Int) (hi:0≤i) (hb:b.length≤1048576):bQ C vD [Am b i h] (Dr b fun r=> ∃x,r=TV.ag (bE x)∧c6 x=true):=by
 refine EE _ _ _ _ ?_;refine nH (gz b _ _ hi hb _ (by first|omega|(simp<;>omega))) fun n3 i1 h1 hi1 hx1=> ?_;refine nH (gz b _ _ hi1 hb _ (by first|omega|(simp<;>omega))) fun n7 i2 h2 hi2 OI=> ?_;refine nH (Ll b _ _ hi2 hb [0,1,1,1,2] dM dM) fun n11 i3 h3 OE Uz=> ?_;refine rB (fun e=> ?_) fun e=> ?_
 ·refine nH (gz b _ _ OE hb _ (by first|omega|(simp<;>omega))) fun n15 i4 h4 VH T6=> ?_
  refine nH (Ll b _ _ VH hb [0,1,256,999] dM dM) fun n19 i5 h5 Wh SK=> ?_;have p1:=hx1.2 aA;have p2:=OI.2 aA;have p3:=RY Uz (lo:=0) (hi:=2) rfl;have q1:=hx1.1;have q2:=OI.1;have p4:=T6.2 aA;have q4:=T6.1;have p5:=RY SK (lo:=0) (hi:=999) rfl;have e1:=oL ((fD _ _).symm.trans e);exact Dy Wh ⟨⟨n3,aF 1 n7,n11,n15,n19⟩,rfl,by rw[aV aA];exact Oc aA aA aA (.inl ⟨e1,by omega⟩)⟩
 ·have p1:=hx1.2 aA
  have p2:=OI.2 aA;have p3:=RY Uz (lo:=0) (hi:=2) rfl;have q1:=hx1.1;have q2:=OI.1;have e1:=of_decide_eq_false ((fD _ _).symm.trans e);exact Dy OE ⟨⟨n3,aF 1 n7,n11,0,0⟩,rfl,by rw[aV aA];exact Oc aA aA aA (.inr ⟨e1,rfl,rfl⟩)⟩
theorem P9 (b:List Int) (i h:Int) (hi:0≤i) (hb:b.length≤1048576):bQ C x9 [Am b i h] (Dr b fun r=> ∃x,r=TV.ag (bE x)∧c6 x=true):=by
 refine G7 _ _ _ _ ?_;refine Od (Ol b _ _ hi hb) fun k1 i1 h1 hi1 hx1=> ?_;refine nH (gz b _ _ hi1 hb _ (by first|omega|(simp<;>omega))) fun n11 i2 h2 hi2 OI=> ?_;exact Dy hi2 ⟨⟨_,_,_,_,_⟩,rfl,PX hx1 ⟨OI.1,by have:=OI.2 aA;omega⟩⟩
theorem tj (l:List jg) (old id:Int) (hl:l.length≤1073741823):ax C lO [kG l,vI old,vI id] (vB (mm (pathOf l id) old)) []:=by
 have hp:=sE l id;exact(ER _ _ _ _ ⟨_,nI l id aA,_,zl (pathOf l id) old aA,jC⟩).run
theorem zn:ax C sR [] (dS ⟨[0],[[]]⟩) []:=(D3 _ jC).run
theorem Om (b:List Int) (i h:Int) (hi:0≤i) (hb:b.length≤1048576) (n:Int) (h0:0≤n) (hn:n≤60):bQ C fQ [Am b i h,vI n] (Dr b fun r=> ∃t:Tree,r=dS t∧cF t=true∧((ay t).length:Int)≤n):=by
 refine E0 _ _ _ _ _ ⟨_,_,zn,?_⟩;rw[aV aA];refine nH (gz b _ _ hi hb _ aA) fun x i1 h1 hi1 hx=> ?_;have hx1:=hx.2 aA
 have key: ∀(d:Nat) (i h:Int) (t:Tree),0≤i→cF t=true→((ay t).length:Int)+d≤n→aj C fQ ai 4 0 (lg (d:Int) (t.au.map cO) (t.nodes.map bO) (b.map iJ) i h) (fun x st=>aJ C fQ ai x st (Dr b fun r=> ∃t:Tree,r=dS t∧cF t=true∧((ay t).length:Int)≤n)):=by
  intro d
  induction d with
  |zero=>
   intro i h t hi ht hl;exact uL _ _ _ _ _ _ _ (aB dM (Cb _ _ _ _ _ _ _ _ (Dy hi ⟨t,rfl,ht,by omega⟩)))
  |succ d ih=>
   intro i h t hi ht hl;have hz:=FP ht;have e:gr ((d+1:Nat):Int) 1=(d:Int):=(jX aA).trans aA;refine uL _ _ _ _ _ _ _ (ak lQ (Od (P9 b _ _ hi hb) fun k i2 h2 hi2 hk=>⟨_,_,_,Az t k aA,?_⟩));rw[e];exact ih _ _ _ hi2 (IV ht k) (by have:=GS ht hk;omega)
 obtain⟨d,rfl⟩: ∃d:Nat,x=(d:Int):=⟨x.toNat,by omega⟩;exact key d _ _ ⟨[0],[[]]⟩ hi1 Kb (by rw[show ay ⟨[0],[[]]⟩=[] from rfl];simp;omega)
theorem On (b:List Int) (i h:Int) (hi:0≤i) (hb:b.length≤1048576):bQ C dI [Am b i h] (Dr b fun r=> ∃l:List jg,r=TV.c (TC.sub 2 (l.map e8))∧fE l=true):=by
 refine E1 _ _ _ _ (nH (gz b _ _ hi hb _ aA) fun x i1 h1 hi1 hx=> ?_);have hx1:=hx.2 aA
 have key: ∀(d:Nat) (i h:Int) (l:List jg),d≤100→0≤i→fE l=true→aj C dI ai 4 0 (fI (d:Int) (b.map iJ) i h (l.map e8)) (fun x st=>aJ C dI ai x st (Dr b fun r=> ∃l:List jg,r=TV.c (TC.sub 2 (l.map e8))∧fE l=true)):=by
  intro d
  induction d with
  |zero=>
   intro i h l hd hi hl;exact uM _ _ _ _ _ _ (aB dM (Cc _ _ _ _ _ _ _ (Dy hi ⟨l,rfl,hl⟩)))
  |succ d ih=>
   intro i h l hd hi hl;have hlen:=Dx hl;have e:gr ((d+1:Nat):Int) 1=(d:Int):=(jX aA).trans aA
   have tail: ∀(i h fr:Int),0≤i→ ∃(n24:Int) (l25:RR) (n26 n27:Int),ax C cq [Am b i h,vI 8] (vI n24) [TV.bx [TC.sub 1 l25,iI n26,iI n27]]∧ ∃(l28:RR) (b29:Bool),ax C cW [kG l,vI (aF 1 n24),vI fr] (TV.tu [(0,[TC.sub 2 l28]),(0,[iB b29])]) []∧aj C dI ai 4 0 (fI (d:Int) l25 n26 n27 l28) (fun x st=>aJ C dI ai x st (Dr b fun r=> ∃l:List jg,r=TV.c (TC.sub 2 (l.map e8))∧fE l=true)):=fun i h fr hi=>
    nH (gz b _ _ hi hb _ aA) fun z i2 h2 hi2 hz=>⟨_,_,BA l (aF 1 z) fr aA,ih _ _ _ aA hi2 (Mc hl _ _)⟩
   refine uM _ _ _ _ _ _ (ak lQ ?_);rw[e];refine rB (fun e1=>PY (Oj b _ _ hi hb 4 aA) fun y i2 h2 hi2=>rB (fun e2=> ?_) fun e2=>tail _ _ _ hi2) fun e1=>tail _ _ _ hi
   have e1':0<l.length:=by simpa using e1
   refine nH (gz b _ _ hi2 hb _ lQ) fun z i3 h3 OE hz=> ?_;obtain⟨a,ha⟩:=wN (l:=l) hz.1 (by have:=hz.2 lQ;simpa using this)
   have hrow:rowAt (l.map e8) z=some [iI a.id,iI a.fr]:=by rw[bC,ha];rfl
   exact⟨_,_,hrow,_,_,hrow,tail _ _ _ OE⟩
 obtain⟨d,rfl⟩: ∃d:Nat,x=(d:Int):=⟨x.toNat,by omega⟩;exact key d _ _ [] aA hi1 (by decide+kernel)
theorem IY (b:List Int) (hb:b.length≤1048576):bQ C o8 [Aj b] (fun r fs=>fs=[]∧ ∃(t:Tree) (l:List jg) (x y:Int),r= .tu [(1,K7 t),(0,[.sub 2 (l.map e8)]),(0,[iI x]),(0,[iI y])]∧cF t=true∧fE l=true∧0≤x∧x≤11∧1≤y∧y≤8):=by
 obtain⟨z,OD,hz1,hz⟩:=Ok b 40 aA aA hb;refine AJ _ _ ?_;refine RT (P7 b hb) fun h1=> ?_;refine⟨_,hz,?_⟩;refine P0 (Om b _ _ (Int.le_refl 0) hb _ (by rw[aV aA];omega) (by rw[aV aA];omega)) fun v2 i2 h2 hi2 OI=> ?_;refine PZ (On b _ _ hi2 hb) fun v3 i3 h3 OE Uz=> ?_;refine nH (gz b _ _ OE hb _ (by first|omega|(simp<;>omega))) fun n14 i4 h4 VH T6=> ?_;refine nH (gz b _ _ VH hb _ (by first|omega|(simp<;>omega))) fun n18 i5 h5 Wh SK=> ?_
 exact⟨rfl,v2,v3,_,_,rfl,OI.1,Uz,T6.1,by have:=T6.2 aA;omega,by have:=SK.2 aA;have:=SK.1;rw[aV aA];omega,by have:=SK.2 aA;have:=SK.1;rw[aV aA];omega⟩
theorem QU {x y:Int} (h:x<y):vB (dJ x y)=vB true:=by simp[h]
theorem GZ (b:List Int):ax C dr [Aj b] (vB true) []:=by
 refine(Cd _ _ ⟨_,P8 b,?_⟩).run
 by_cases hb:1048576<b.length
 ·exact ak lQ jC
 have hb:b.length≤1048576:=by omega
 obtain⟨_,_,e1,rfl,t,l,x,y,rfl,ht,hl,hx0,hx1,hy0,hy1⟩:=IY b hb;have hz:=FP ht;have hlen:=Dx hl;have hkl:=mj t;have hkk:=xU t x
 have hs:0≤bw x y:=by rw[Lc aA];omega
 obtain⟨S,hS⟩: ∃S,S=gZ t l x y:=⟨_,rfl⟩;obtain⟨A,hA⟩: ∃A,A=jh t l x y:=⟨_,rfl⟩;obtain⟨O,hO⟩: ∃O,O=jP t x y:=⟨_,rfl⟩
 have rS:ax C rH [dS t,kG l,vI x,vI y] (Eb S) []:=by rw[hS];exact xo t l x y aA aA
 have rA:ax C mq [dS t,kG l,vI x,vI y] (Eb A) []:=by rw[hA];exact yd t l x y aA aA
 have rO:ax C qh [dS t,vI x,vI y] (Eb O) []:=by rw[hO];exact By t x y aA
 have rS2:ax C wW [dS t,kG l,vI x,vI y] (Eb S) []:=by rw[hS];exact Er t l x y aA aA
 refine aB lQ ⟨_,_,_,_,_,e1,_,_,_,_,_,_,rS,_,_,_,_,_,_,rA,_,_,_,_,_,_,rO,_,tf t x aA,_,_,_,_,_,_,rS2,aB dM ⟨_,td t x aA,aB dM ?_⟩⟩;refine cc (bG t x) (fun i=>aj C dr eX 4 0 (eA x y S.2 A.2 O.2 (i:Int) (t.au.map cO) (t.nodes.map bO) S.1.b S.1.a S.1.k S.1.c S.1.g A.1.b A.1.a A.1.k A.1.c A.1.g O.1.b O.1.a O.1.k O.1.c O.1.g (l.map e8) ((bG t x).map bE)) _) ?_ ?_
 ·refine qx _ _ _ _ _ _ _ _ _ _ _ _ _ _ _ _ _ _ _ _ _ _ _ _ _ _ (aB dM (zy _ _ _ _ _ _ _ _ _ _ _ _ _ _ _ _ _ _ _ _ _ _ _ _ _ _ _ ?_))
  have rG:=vH l y aA;have rI:=tj l S.1.a y aA
  cases h1:S.2 with
  |false=>
   obtain⟨g1,g2⟩:=J8 ht hl hs (by rw[←hS];exact h1);rw[←hA] at g1;rw[←hO] at g2;refine ak rfl (ak (by rw[g1];rfl) ?_)
   cases h2:O.2 with
   |false=>exact ak rfl jC
   |true=>
    rw[h2] at g2
    have g2:ei l y<0:=by rcases g2 with g|g;cases g;exact g
    exact aB rfl ⟨_,rG,QU g2,by trivial⟩
  |true=>
   refine aB rfl ?_
   have els: ¬(O.2=true∧0≤ei l y)→ ∀Q:QV,Q (vB true) []→ ∃b100:Bool,ax C lO [kG l,vI S.1.a,vI y] (vB b100) []∧aO b100 (aO (gq S.1.b x) (aO A.2 (Q (TV.c (iB (gq A.1.b S.1.b&&(gq A.1.a S.1.a&&(gq A.1.k S.1.k&&(gq A.1.c S.1.c&&(gq A.1.g S.1.g&&true))))))) []) (Q (TV.c (iB false)) [])) (Q (TV.c (iB false)) [])) (Q (TV.c (iB false)) []):=fun hno Q hQ=>by
    rw[hO] at hno;obtain⟨g1,g2,g3,g4⟩:=J9 ht hl hs (by rw[←hS];exact h1) hno;rw[←hS] at g1 g2 g4;rw[←hA] at g3 g4;rw[g1] at rI;refine⟨_,rI,ak rfl (ak (by simp[g2]) (ak g3 ?_))⟩;rw[g4];simpa using hQ
   cases h2:O.2 with
   |false=>exact aB rfl (els (by rw[h2];simp) (fun r fs=>r=vB true∧fs=[]) jC)
   |true=>
    refine ak rfl ⟨_,rG,?_⟩
    by_cases h3:0≤ei l y
    ·obtain⟨_,g2,g3⟩:=Mb ht hl hs (by rw[←hO];exact h2) h3
     rw[←hS,←hO] at g2;rw[←hA] at g3;refine ak (by simpa using h3) (ak (by rw[g2];simp) ?_)
     cases h4:A.2 with
     |false=>exact ak rfl jC
     |true=>
      rw[h4] at g3
      have g3:A.1.a<y:=by rcases g3 with g|g;cases g;exact g
      exact aB rfl ⟨QU g3,by trivial⟩
    ·exact aB (by simpa using h3) (els (fun h=>h3 h.2) (fun r fs=>r=vB true∧fs=[]) jC)
 ·intro i a hi ha _ _ OF
  have hr:rowAt ((bG t x).map bE) (i:Int)=some [iI a.b,iI a.a,iI a.k,iI a.c,iI a.g]:=by rw[bC,aU,ha];rfl
  have hmem:a∈bG t x:=eD ha;obtain⟨g1,g2⟩:=Ka (l:=l) (id:=y) hmem;rw[←hS] at g1 g2;have hI:=tj l a.a y aA;have Rc:ax C rJ [dS t,kG l,JX a,vI y] (vB (IC t l a y)) []:=Es t l a y aA aA;rw[g2] at Rc;refine qx _ _ _ _ _ _ _ _ _ _ _ _ _ _ _ _ _ _ _ _ _ _ _ _ _ _ (ak lQ ?_);rw[aV aA]
  have hq: ∀z:Key,decide (z.a=a.a)=gq a.a z.a:=fun z=>by simp[eq_comm]
  rw[hq] at Rc
  cases h1:mm (pathOf l y) a.a with
  |true=>
   obtain⟨g3,g4⟩:=g1 h1;rw[h1] at hI;rw[g3] at Rc OF ⊢
   have hlt:dJ S.1.a a.a=false:=by simp;omega
   repeat' first
    |exact OF
    |refine⟨_,_,_,_,_,hr,?_⟩
    |refine⟨_,hI,?_⟩
    |refine⟨_,Rc,?_⟩
    |refine ak rfl ?_
    |refine aB rfl ?_
    |refine aB hlt ?_
    |refine aB dM ?_
    |rfl
    |refine⟨?_,?_⟩
  |false=>
   rw[h1] at hI
   cases h5:S.2 with
   |true=>
    rw[h5] at Rc OF
    repeat' first
     |exact OF
     |refine⟨_,_,_,_,_,hr,?_⟩
     |refine⟨_,hI,?_⟩
     |refine⟨_,Rc,?_⟩
     |refine ak rfl ?_
     |refine aB rfl ?_
     |refine aB dM ?_
     |rfl
     |refine⟨?_,?_⟩
   |false=>
    rw[h5] at Rc OF
    repeat' first
     |exact OF
     |refine⟨_,_,_,_,_,hr,?_⟩
     |refine⟨_,hI,?_⟩
     |refine⟨_,Rc,?_⟩
     |refine aB rfl ?_
     |refine aB dM ?_
     |rfl
     |refine⟨?_,?_⟩
theorem RZ {n z:Nat} (h:n*z≤reachBytes) (hz:1≤z):n≤140737488355328:=by
 have:reachBytes≤140737488355328:=by decide
 have h2:n*1≤n*z:=Nat.mul_le_mul_left n hz;omega
theorem Qa {r:List TC} (h:Ae C.tt Lj r): ∃n:Int,r=iJ n∧(0≤n∧n≤255):=by
 obtain⟨n,rfl,h1⟩:=h.PJ (k:= .u8) Lk;exact⟨n,rfl,S1 h1⟩
theorem Kj {r:List TC} (h:Ae C.tt rK r): ∃l:List (Int),r=[.sub 1 (l.map iJ)]∧l.length≤140737488355328∧ ∀x∈l,0≤x∧x≤255:=by
 obtain⟨w,rfl,y,z⟩:=h.L3 (e:=Lj) Lk;obtain⟨l,rfl,hl⟩:=Dd fun r hr=>Qa (y r hr);rw[ck] at z;exact⟨l,rfl,RZ z (by decide+kernel),hl⟩
theorem Qb {v:TV} (h:QF C.tt rK v): ∃l:List Int,v=Aj l∧l.length≤140737488355328∧ ∀x∈l,0≤x∧x≤255:=by
 have ht:(C.tt rK).ti= .slice 5:=by kernel_rfl
 cases h with
 |c _ hw=>
  obtain⟨l,h1,h2,h3⟩:=Kj hw
  cases h1
  exact⟨l,rfl,h2,h3⟩
 |ag h1 _=>rw[ht] at h1;cases h1
theorem G0 (vs:List TV) (h:Iu C.tt [rK] vs): ∃k,eZ C k dr vs (vB true) []:=by
 cases h with
 |cons h0 h=>
  cases h
  obtain⟨b,rfl,_⟩:=Qb h0;exact GZ b
end Go.T.R
