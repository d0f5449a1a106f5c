import Derived.Test.YtlkjkfidmkdchaaTR1
set_option linter.all false
set_option maxRecDepth 100000
set_option maxHeartbeats 4000000
namespace Go.T.R
open Go Go.T
theorem Ma {P:Prop} (h:P:=by kernel_rfl):P:=h
theorem yP (a b c:Int):au C fk [vI a,vI b,vI c] (vB (vY a b c)) []:=by
 refine(FO _ _ _ _ ?_).run;simp only[ku,dP,vY]
 split<;>simp_all<;>omega
theorem EM (a b c:Int):au C iA [vI a,vI b,vI c] (vB (vY a b c)) []:=by
 refine(J0 _ _ _ _ ?_).run;simp only[ku,dP,vY]
 split<;>simp_all<;>omega
@[simp] theorem JW (a b c:Int) (q:Bool):au C fk [vI a,vI b,vI c] (vB q) []↔q=vY a b c:=Br (yP a b c)
@[simp] theorem O5 (a b c:Int) (q:Bool):au C iA [vI a,vI b,vI c] (vB q) []↔q=vY a b c:=Br (EM a b c)
theorem EN (b a k c g:Int):au C pL [.ag [iI b,iI a,iI k,iI c,iI g]] (vB (cH ⟨b,a,k,c,g⟩)) []:=by
 refine(Ii _ _ _ _ _ _ ?_).run;simp only[JW,iq,cH,eW,dJ,dP]
 cases vY b 0 15<;>cases vY a 1 60<;>cases vY k 0 2<;>by_cases h:k=1<;>by_cases h1:c=0<;>by_cases h2:g=0<;>cases vY c 0 23<;>simp_all
theorem EO (b a k c g:Int):au C pM [.ag [iI b,iI a,iI k,iI c,iI g]] (vB (cH ⟨b,a,k,c,g⟩)) []:=by
 refine(H8 _ _ _ _ _ _ ?_).run;simp only[O5,iq,cH,eW,dJ,dP]
 cases vY b 0 15<;>cases vY a 1 60<;>cases vY k 0 2<;>by_cases h:k=1<;>by_cases h1:c=0<;>by_cases h2:g=0<;>cases vY c 0 23<;>simp_all
@[simp] theorem z5 (b a k c g:Int) (q:Bool):au C pL [.ag [iI b,iI a,iI k,iI c,iI g]] (vB q) []↔q=cH ⟨b,a,k,c,g⟩:=Br (EN b a k c g)
@[simp] theorem z6 (b a k c g:Int) (q:Bool):au C pM [.ag [iI b,iI a,iI k,iI c,iI g]] (vB q) []↔q=cH ⟨b,a,k,c,g⟩:=Br (EO b a k c g)
@[simp] theorem wB (b a k c g b' a' k' c' g':Int) (q:Bool):au C oQ [.ag [iI b,iI a,iI k,iI c,iI g],.ag [iI b',iI a',iI k',iI c',iI g']] (vB q) []↔q=ct ⟨b,a,k,c,g⟩ ⟨b',a',k',c',g'⟩:=Br (by
  refine(EV _ _ _ _ _ _ _ _ _ _ _ ?_).run;simp only[kr,eW,dP,ct]
  by_cases h1:b<b'<;>by_cases h2:b=b'<;>simp_all)
@[simp] theorem wC (b a k c g b' a' k' c' g':Int) (q:Bool):au C oR [.ag [iI b,iI a,iI k,iI c,iI g],.ag [iI b',iI a',iI k',iI c',iI g']] (vB q) []↔q=ct ⟨b,a,k,c,g⟩ ⟨b',a',k',c',g'⟩:=Br (by
  refine(E4 _ _ _ _ _ _ _ _ _ _ _ ?_).run;simp only[kr,eW,dJ,dP,ct]
  by_cases h2:b=b'<;>simp_all)
@[simp] theorem Cq (b a k c g b' a' k' c' g':Int) (q:Bool):au C kP [.ag [iI b,iI a,iI k,iI c,iI g],.ag [iI b',iI a',iI k',iI c',iI g']] (vB q) []↔q=fK ⟨b,a,k,c,g⟩ ⟨b',a',k',c',g'⟩:=Br (by
  refine(Da _ _ _ _ _ _ _ _ _ _ _ ?_).run;simp only[kr,eW,dJ,dP,fK]
  by_cases h2:b=b'<;>simp_all)
@[simp] theorem Cr (b a k c g b' a' k' c' g':Int) (q:Bool):au C kQ [.ag [iI b,iI a,iI k,iI c,iI g],.ag [iI b',iI a',iI k',iI c',iI g']] (vB q) []↔q=fK ⟨b,a,k,c,g⟩ ⟨b',a',k',c',g'⟩:=Br (by
  refine(Dj _ _ _ _ _ _ _ _ _ _ _ ?_).run;simp only[kr,eW,dJ,dP,fK]
  by_cases h2:b=b'<;>simp_all)
theorem gG (l:List Key) (x:Key) (hl:l.length≤1073741824):au C bq [cD l,yy x] (cD (bY l x)) []:=by
 refine(F1 _ _ _ _ _ _ _ ?_).run
 have key: ∀(put:Bool) (acc:List Key),acc.length+(l.drop 0).length≤l.length+(if put then 1 else 0)→acc++cO x put (l.drop 0)=bY l x→aq C bq aU 4 0 (dI (l.map bf) put ((0:Nat):Int) x.b x.a x.k x.c x.g (acc.map bf)) (fun u st=>aN C bq aU u st fun r fs=>r=cD (bY l x)∧fs=[]):=by
  refine cK l (fun i=> ∀(put:Bool) (acc:List Key),acc.length+(l.drop i).length≤l.length+(if put then 1 else 0)→acc++cO x put (l.drop i)=bY l x→aq C bq aU 4 0 (dI (l.map bf) put i x.b x.a x.k x.c x.g (acc.map bf)) _) ?_ ?_
  ·intro put acc hb he
   refine vl _ _ _ _ _ _ _ _ _ _ (aB cY (Dp _ _ _ _ _ _ _ _ _ _ _ ?_));simp only[xo,fP,lH,fR,dJ,fh,cw]
   have hb2:acc.length≤l.length+1:=by simp at hb;split at hb<;>omega
   rw[c7 ay];rw[kD] at he
   cases put<;>simp[cO] at he ⊢ <;>rw[←he]<;>simp
  ·intro i a hi ha hd _ hn put acc hb he
   rw[hd] at hb he;simp only[e8] at hb
   have hb':acc.length+(List.drop (i+1) l).length+1≤l.length+1:=by split at hb<;>omega
   refine vl _ _ _ _ _ _ _ _ _ _ (ai mD ?_);simp only[mo,aL,ha,aY,gu,wC,Cr,iq,dJ,fP,xo,lH,fR,fh,cw,cT,kG];simp (disch:=omega) only[c7,bh,vU];simp only[cO] at he
   cases put<;>cases hk:ct a x<;>cases hs:fK a x<;>simp only[vU,Et]<;>simp[hk,hs] at he hb<;>exact hn _ _ (by simp at hb ⊢;omega) (by simpa using he)
 exact key false [] cY rfl
@[simp] theorem Fx (l:List Key) (hl:l.length≤1073741824) (b a k c g:Int) (q:RR):au C bq [.c (.sub 5 (l.map bf)),.ag [iI b,iI a,iI k,iI c,iI g]] (.c (.sub 5 q)) []↔q=(bY l ⟨b,a,k,c,g⟩).map bf:=MU (gG l ⟨b,a,k,c,g⟩ hl)
theorem kX (l:List Key) (x:Key) (hl:l.length≤1073741824):au C bZ [cD l,yy x] (cD (bY l x)) []:=by
 refine(FE _ _ _ _ _ _ _ ?_).run
 have key: ∀(put:Bool) (acc:List Key),acc.length+(l.drop 0).length≤l.length+(if put then 1 else 0)→acc++cO x put (l.drop 0)=bY l x→aq C bZ aU 4 0 (dH put (l.map bf) ((0:Nat):Int) x.b x.a x.k x.c x.g (acc.map bf)) (fun u st=>aN C bZ aU u st fun r fs=>r=cD (bY l x)∧fs=[]):=by
  refine cK l (fun i=> ∀(put:Bool) (acc:List Key),acc.length+(l.drop i).length≤l.length+(if put then 1 else 0)→acc++cO x put (l.drop i)=bY l x→aq C bZ aU 4 0 (dH put (l.map bf) i x.b x.a x.k x.c x.g (acc.map bf)) _) ?_ ?_
  ·intro put acc hb he
   refine uU _ _ _ _ _ _ _ _ _ _ (aB cY (CN _ _ _ _ _ _ _ _ _ _ _ _ ?_));simp only[xo,fP,lH,fR,dJ,fh,cw]
   have hb2:acc.length≤l.length+1:=by simp at hb;split at hb<;>omega
   rw[c7 ay];rw[kD] at he
   cases put<;>simp[cO] at he ⊢ <;>rw[←he]<;>simp
  ·intro i a hi ha hd _ hn put acc hb he
   rw[hd] at hb he;simp only[e8] at hb
   have hb':acc.length+(List.drop (i+1) l).length+1≤l.length+1:=by split at hb<;>omega
   refine uU _ _ _ _ _ _ _ _ _ _ (ai mD ?_);simp only[mo,aL,ha,aY,gu,wB,Cq,iq,dJ,fP,xo,lH,fR,fh,cw,cT,kG];simp (disch:=omega) only[c7,bh,vU];simp only[cO] at he
   cases put<;>cases hk:ct a x<;>cases hs:fK a x<;>simp only[vU,Et]<;>simp[hk,hs] at he hb<;>exact hn _ _ (by simp at hb ⊢;omega) (by simpa using he)
 exact key false [] cY rfl
@[simp] theorem Fy (l:List Key) (hl:l.length≤1073741824) (b a k c g:Int) (q:RR):au C bZ [.c (.sub 5 (l.map bf)),.ag [iI b,iI a,iI k,iI c,iI g]] (.c (.sub 5 q)) []↔q=(bY l ⟨b,a,k,c,g⟩).map bf:=MU (kX l ⟨b,a,k,c,g⟩ hl)
theorem yQ (old new:List Key) (hl:old.length+new.length≤1073741824):au C cX [cD old,cD new] (cD (bE old new)) []:=by
 refine(BQ _ _ _ ?_).run;rw[gD,c7 mD];refine ai rfl ?_
 have key: ∀(acc:List Key),acc.length+(new.drop 0).length≤old.length+new.length→bE acc (new.drop 0)=bE old new→aq C cX ah 4 0 (gq (new.map bf) ((0:Nat):Int) (acc.map bf)) (fun u st=>aN C cX ah u st fun r fs=>r=(cD (bE old new))∧fs=[]):=by
  refine cK new (fun i=> ∀(acc:List Key),acc.length+(new.drop i).length≤old.length+new.length→bE acc (new.drop i)=bE old new→aq C cX ah 4 0 (gq (new.map bf) i (acc.map bf)) (fun u st=>aN C cX ah u st fun r fs=>r=(cD (bE old new))∧fs=[])) ?_ ?_
  ·intro acc h0 h1
   refine pX _ _ _ _ (aB cY (yV _ _ _ _ _ ?_));rw[kD] at h1;rw[←h1];exact iX
  ·intro i a hi ha hd ht hn acc h0 h1
   refine pX _ _ _ _ (ai mD ?_);rw[hd] at h0 h1;simp only[e8] at h0;simp only[mo,Fx acc ay,aL,ha,aY,gu,iq,dJ,j5,mY,fP,j7,iz,j8,j9,mZ,fh,natAdd,cw,cT,kG,fR,qa];rw[bh ay];have h2:=fA acc a;exact hn _ ay (by rw[←h1];rfl)
 exact key old cY rfl
theorem By (old new:List Key) (hl:old.length+new.length≤1073741824) (q:RR):au C cX [cD old,cD new] (.c (.sub 5 q)) []↔q=(bE old new).map bf:=MU (yQ old new hl)
theorem rW (l:List Key) (hl:l.length≤1073741824):au C cn [cD l] (cD (ff l)) []:=by
 refine(JZ _ _ ?_).run
 have key: ∀(acc:List Key),acc.length+(l.drop 0).length≤l.length→acc++ff (l.drop 0)=ff l→aq C cn ah 4 0 (jo (l.map bf) ((0:Nat):Int) (acc.map bf)) (fun u st=>aN C cn ah u st fun r fs=>r=(cD (ff l))∧fs=[]):=by
  refine cK l (fun i=> ∀(acc:List Key),acc.length+(l.drop i).length≤l.length→acc++ff (l.drop i)=ff l→aq C cn ah 4 0 (jo (l.map bf) i (acc.map bf)) (fun u st=>aN C cn ah u st fun r fs=>r=(cD (ff l))∧fs=[])) ?_ ?_
  ·intro acc h0 h1
   refine xZ _ _ _ _ (aB cY (FP _ _ _ _ _ ?_));rw[kD] at h1;simp[ff] at h1;simp[ff,h1]
  ·intro i a hi ha hd ht hn acc h0 h1
   refine xZ _ _ _ _ (ai mD ?_);rw[hd] at h0 h1;simp only[e8] at h0;simp only[mo,xo,lH,eW,dP,aL,ha,aY,gu,iq,dJ,j5,mY,fP,j7,iz,j8,j9,mZ,fh,natAdd,cw,cT,kG,fR,qa];simp (disch:=omega) only[c7,bh,vU]
   by_cases hk:a.k=0
   ·rw[bg hk]
    exact hn _ ay (by rw[←h1];simp[ff,hk])
   ·rw[aR hk]
    exact hn (acc++[a]) (by simp only[cT,kG];omega) (by rw[←h1];simp[ff,hk])
 exact key [] cY rfl
theorem qE (n:List (List Key)) (hb:n.length≤1073741824) (hl:tot bu n≤1073741824):au C aI [dL n] (cD (an n)) []:=by
 refine(CG _ _ ?_).run
 have key: ∀(acc:List Key),acc.length+tot bu (n.drop 0)≤tot bu n→(n.drop 0).foldl bE acc=lO n→aq C aI ah 4 0 (gU ((0:Nat):Int) (n.map bH) (acc.map bf)) (fun u st=>aN C aI ah u st fun r fs=>r=(cD (an n))∧fs=[]):=by
  refine cK n (fun i=> ∀(acc:List Key),acc.length+tot bu (n.drop i)≤tot bu n→(n.drop i).foldl bE acc=lO n→aq C aI ah 4 0 (gU i (n.map bH) (acc.map bf)) (fun u st=>aN C aI ah u st fun r fs=>r=(cD (an n))∧fs=[])) ?_ ?_
  ·intro acc h0 h1
   refine q8 _ _ _ _ (aB cY (At _ _ _ _ _ ?_));rw[kD] at h0 h1;simp only[List.foldl_nil] at h1;refine⟨_,rW acc ay,?_⟩;rw[h1];exact iX
  ·intro i a hi ha hd ht hn acc h0 h1
   refine q8 _ _ _ _ (ai mD ?_);rw[hd] at h0 h1;simp only[tot,bu] at h0;simp only[pI,By acc a ay,aL,ha,aY,gu,iq,dJ,j5,mY,fP,j7,iz,j8,j9,mZ,fh,natAdd,cw,cT,kG,fR,qa];rw[bh ay];have h2:=nq a acc;exact hn _ ay (by rw[←h1];rfl)
 exact key [] cY rfl
theorem dG (n:List (List Key)) (hb:n.length≤1073741824) (hl:tot bu n≤1073741824) (q:RR):au C aI [.ag [.sub 1 (n.map bH)]] (.c (.sub 5 q)) []↔q=(an n).map bf:=MU (qE n hb hl)
theorem qF (t:Tree) (hl:bX t≤1073741824):au C c6 [cr t] (cD (aA t)) []:=by
 refine(Df _ _ _ ?_).run
 have key: ∀(acc:List Key),acc.length+tot ax (t.nodes.drop 0)≤tot ax t.nodes→acc++(t.nodes.drop 0).flatMap an=aA t→aq C c6 ah 4 0 (gZ ((0:Nat):Int) (t.ak.map cA) (t.nodes.map bD) (acc.map bf)) (fun u st=>aN C c6 ah u st fun r fs=>r=(cD (aA t))∧fs=[]):=by
  refine cK t.nodes (fun i=> ∀(acc:List Key),acc.length+tot ax (t.nodes.drop i)≤tot ax t.nodes→acc++(t.nodes.drop i).flatMap an=aA t→aq C c6 ah 4 0 (gZ i (t.ak.map cA) (t.nodes.map bD) (acc.map bf)) (fun u st=>aN C c6 ah u st fun r fs=>r=(cD (aA t))∧fs=[])) ?_ ?_
  ·intro acc h0 h1
   refine rF _ _ _ _ _ (aB cY (AJ _ _ _ _ _ _ ?_));rw[kD] at h1;simp at h1;simp[h1]
  ·intro i a hi ha hd ht hn acc h0 h1
   refine rF _ _ _ _ _ (ai (by have:=hi;unfold bX oK at hl;simp;omega) ?_);have hz:a.length+tot bu a≤tot ax t.nodes:=gQ (w:=ax) ha;rw[hd] at h0 h1;simp only[tot,ax] at h0;unfold bX oK at hl;have h2:=bR a;simp only[LX,mq,dG a ay ay,gD,aL,ha,aY,gu,iq,dJ,j5,mY,fP,j7,iz,j8,j9,mZ,fh,natAdd,cw,cT,kG,fR,qa];rw[c7 ay,bh ay];refine ai rfl ?_;rw[←vt];exact hn _ mD (by rw[←h1];simp)
 exact key [] cY rfl
theorem gR (l:List Key) (hl:l.length≤2147483648):au C jn [cD l] (cD l) []:=by
 refine(Dg _ _ ?_).run;rw[gD,c7 mD];exact iX
theorem yR (old new:List Key) (hl:old.length+new.length≤1073741824):au C cW [cD old,cD new] (cD (bE old new)) []:=by
 refine(BP _ _ _ ?_).run;refine⟨_,gR old ay,?_⟩
 have key: ∀(acc:List Key),acc.length+(new.drop 0).length≤old.length+new.length→bE acc (new.drop 0)=bE old new→aq C cW ah 4 0 (gn (new.map bf) ((0:Nat):Int) (acc.map bf)) (fun u st=>aN C cW ah u st fun r fs=>r=(cD (bE old new))∧fs=[]):=by
  refine cK new (fun i=> ∀(acc:List Key),acc.length+(new.drop i).length≤old.length+new.length→bE acc (new.drop i)=bE old new→aq C cW ah 4 0 (gn (new.map bf) i (acc.map bf)) (fun u st=>aN C cW ah u st fun r fs=>r=(cD (bE old new))∧fs=[])) ?_ ?_
  ·intro acc h0 h1
   refine pW _ _ _ _ (aB cY (yU _ _ _ _ _ _ ?_));rw[kD] at h1;rw[←h1];exact iX
  ·intro i a hi ha hd ht hn acc h0 h1
   refine pW _ _ _ _ (ai mD ?_);rw[hd] at h0 h1;simp only[e8] at h0;simp only[mo,Fy acc ay,aL,ha,aY,gu,iq,dJ,j5,mY,fP,j7,iz,j8,j9,mZ,fh,natAdd,cw,cT,kG,fR,qa];rw[bh ay];have h2:=fA acc a;exact hn _ ay (by rw[←h1];rfl)
 exact key old cY rfl
theorem Bz (old new:List Key) (hl:old.length+new.length≤1073741824) (q:RR):au C cW [cD old,cD new] (.c (.sub 5 q)) []↔q=(bE old new).map bf:=MU (yR old new hl)
theorem xV (l:List Key) (hl:l.length≤1073741824):au C fy [cD l] (cD (ff l)) []:=by
 refine(J1 _ _ ?_).run
 have key: ∀(acc:List Key),acc.length+(l.drop 0).length≤l.length→acc++ff (l.drop 0)=ff l→aq C fy ah 4 0 (jq (l.map bf) ((0:Nat):Int) (acc.map bf)) (fun u st=>aN C fy ah u st fun r fs=>r=(cD (ff l))∧fs=[]):=by
  refine cK l (fun i=> ∀(acc:List Key),acc.length+(l.drop i).length≤l.length→acc++ff (l.drop i)=ff l→aq C fy ah 4 0 (jq (l.map bf) i (acc.map bf)) (fun u st=>aN C fy ah u st fun r fs=>r=(cD (ff l))∧fs=[])) ?_ ?_
  ·intro acc h0 h1
   refine x8 _ _ _ _ (aB cY (FW _ _ _ _ _ _ ?_));rw[kD] at h1;simp[ff] at h1;simp[ff,h1]
  ·intro i a hi ha hd ht hn acc h0 h1
   refine x8 _ _ _ _ (ai mD ?_);rw[hd] at h0 h1;simp only[e8] at h0;simp only[mo,xo,lH,eW,dP,aL,ha,aY,gu,iq,dJ,j5,mY,fP,j7,iz,j8,j9,mZ,fh,natAdd,cw,cT,kG,fR,qa];simp (disch:=omega) only[c7,bh,vU]
   by_cases hk:a.k=0
   ·rw[bg hk]
    exact hn _ ay (by rw[←h1];simp[ff,hk])
   ·rw[aR hk]
    exact hn (acc++[a]) (by simp only[cT,kG];omega) (by rw[←h1];simp[ff,hk])
 exact key [] cY rfl
theorem z7 (n:List (List Key)) (hb:n.length≤1073741824) (hl:tot bu n≤1073741824):au C bQ [dL n] (cD (an n)) []:=by
 refine(CU _ _ ?_).run
 have key: ∀(acc:List Key),acc.length+tot bu (n.drop 0)≤tot bu n→(n.drop 0).foldl bE acc=lO n→aq C bQ ah 4 0 (gW (n.map bH) ((0:Nat):Int) (acc.map bf)) (fun u st=>aN C bQ ah u st fun r fs=>r=(cD (an n))∧fs=[]):=by
  refine cK n (fun i=> ∀(acc:List Key),acc.length+tot bu (n.drop i)≤tot bu n→(n.drop i).foldl bE acc=lO n→aq C bQ ah 4 0 (gW (n.map bH) i (acc.map bf)) (fun u st=>aN C bQ ah u st fun r fs=>r=(cD (an n))∧fs=[])) ?_ ?_
  ·intro acc h0 h1
   refine rz _ _ _ _ (aB cY (AB _ _ _ _ _ _ ?_));rw[kD] at h0 h1;simp only[List.foldl_nil] at h1;refine⟨_,xV acc ay,?_⟩;rw[h1];exact iX
  ·intro i a hi ha hd ht hn acc h0 h1
   refine rz _ _ _ _ (ai mD ?_);rw[hd] at h0 h1;simp only[tot,bu] at h0;simp only[pI,Bz acc a ay,aL,ha,aY,gu,iq,dJ,j5,mY,fP,j7,iz,j8,j9,mZ,fh,natAdd,cw,cT,kG,fR,qa];rw[bh ay];have h2:=nq a acc;exact hn _ ay (by rw[←h1];rfl)
 exact key [] cY rfl
theorem eI (n:List (List Key)) (hb:n.length≤1073741824) (hl:tot bu n≤1073741824) (q:RR):au C bQ [.ag [.sub 1 (n.map bH)]] (.c (.sub 5 q)) []↔q=(an n).map bf:=MU (z7 n hb hl)
theorem z8 (t:Tree) (hl:bX t≤1073741824):au C dD [cr t] (cD (aA t)) []:=by
 refine(Dd _ _ _ ?_).run
 have key: ∀(acc:List Key),acc.length+tot ax (t.nodes.drop 0)≤tot ax t.nodes→acc++(t.nodes.drop 0).flatMap an=aA t→aq C dD ah 4 0 (gY (t.nodes.map bD) ((0:Nat):Int) (acc.map bf)) (fun u st=>aN C dD ah u st fun r fs=>r=(cD (aA t))∧fs=[]):=by
  refine cK t.nodes (fun i=> ∀(acc:List Key),acc.length+tot ax (t.nodes.drop i)≤tot ax t.nodes→acc++(t.nodes.drop i).flatMap an=aA t→aq C dD ah 4 0 (gY (t.nodes.map bD) i (acc.map bf)) (fun u st=>aN C dD ah u st fun r fs=>r=(cD (aA t))∧fs=[])) ?_ ?_
  ·intro acc h0 h1
   refine rE _ _ _ _ (aB cY (AH _ _ _ _ _ _ ?_));rw[kD] at h1;simp at h1;simp[h1]
  ·intro i a hi ha hd ht hn acc h0 h1
   refine rE _ _ _ _ (ai (by have:=hi;unfold bX oK at hl;simp;omega) ?_);have hz:a.length+tot bu a≤tot ax t.nodes:=gQ (w:=ax) ha;rw[hd] at h0 h1;simp only[tot,ax] at h0;unfold bX oK at hl;have h2:=bR a;simp only[LX,mq,eI a ay ay,gD,aL,ha,aY,gu,iq,dJ,j5,mY,fP,j7,iz,j8,j9,mZ,fh,natAdd,cw,cT,kG,fR,qa];rw[c7 ay,bh ay];refine ai rfl ?_;rw[←vt];exact hn _ mD (by rw[←h1];simp)
 exact key [] cY rfl
theorem BA (l:List Key) (hl:l.length≤1073741824):au C eB [cD l] (vB (gz l.length (gj l ct))) []:=by
 refine(Fb _ _ ?_).run
 have key: ∀(k i:Nat),i+k=l.length→1≤i→(List.range' i k).all (gj l ct)=gz l.length (gj l ct)→aq C eB aF 4 0 (kf (l.map bf) i) (fun u st=>aN C eB aF u st fun r fs=>r=vB (gz l.length (gj l ct))∧fs=[]):=by
  intro k
  induction k with
  |zero=>
   intro i h h1 h0;refine nh _ _ _ (aB mD (sU _ _ _ _ ?_));simp only[List.range'_zero,tX] at h0;rw[←h0];exact iX
  |succ k ih=>
   intro i h h1 h0;obtain⟨j,rfl⟩: ∃j,i=j+1:=⟨i-1,by omega⟩;have hj:l[j]?=some l[j]:=aV ay;have RJ:l[j+1]?=some l[j+1]:=aV ay
   have e:gj l ct (j+1)=ct l[j] l[j+1]:=by simp only[gj,hj,RJ]
   rw[List.range'_succ,oY,e] at h0;refine nh _ _ _ (ai mD ?_);rw[eA ay,show((j+1:Nat):Int)-1=(j:Int) by omega];simp only[mo,aL,hj,RJ,aY,gu,wC,iq,fP,dJ];rw[bh ay]
   cases hb:ct l[j] l[j+1] with
   |true=>
    rw[hb,fR] at h0;exact ai rfl (ih (j+1+1) ay ay h0)
   |false=>
    rw[hb,Bool.false_and] at h0;refine aB rfl (BR _ ?_);rw[←h0];exact iX
 cases hz:l.length with
 |zero=>
  have:l=[]:=xG hz;subst this;exact nh _ _ _ (aB cY (sU _ _ _ _ iX))
 |succ n=>
  rw[hz] at key;exact key n 1 ay ay (by unfold gz;rw[List.range'_succ,oY];rfl)
theorem EP (l:List Key) (hl:l.length≤1073741824):au C de [cD l] (vB ((l.all cH&&(gz l.length (gj l ct)&&decide (l.length≤60))))) []:=by
 refine(H7 _ _ ?_).run
 have key:((l.drop 0).all cH&&(gz l.length (gj l ct)&&decide (l.length≤60)))=(l.all cH&&(gz l.length (gj l ct)&&decide (l.length≤60)))→aq C de aF 4 0 (iC (l.map bf) ((0:Nat):Int)) (fun u st=>aN C de aF u st fun r fs=>r=vB ((l.all cH&&(gz l.length (gj l ct)&&decide (l.length≤60))))∧fs=[]):=by
  refine cK l (fun i=>((l.drop i).all cH&&(gz l.length (gj l ct)&&decide (l.length≤60)))=(l.all cH&&(gz l.length (gj l ct)&&decide (l.length≤60)))→aq C de aF 4 0 (iC (l.map bf) i) (fun u st=>aN C de aF u st fun r fs=>r=vB ((l.all cH&&(gz l.length (gj l ct)&&decide (l.length≤60))))∧fs=[])) ?_ ?_
  ·intro h0
   refine wR _ _ _ (aB cY (EY _ _ _ _ ?_));rw[kD] at h0;simp only[tX,fR] at h0;rw[←h0];refine⟨_,BA l hl,?_⟩;simp only[ku,cw,oc]
   cases gz l.length (gj l ct)<;>simp
   omega
  ·intro i a hi ha hd Iw hn h0
   have gO:cH a=false→(l.all cH&&(gz l.length (gj l ct)&&decide (l.length≤60)))=false:=fun e=>by rw[←h0,hd];simp[e]
   have gN:cH a=true→aq C de aF 4 0 (iC (l.map bf) ((i:Int)+1)) (fun u st=>aN C de aF u st fun r fs=>r=vB ((l.all cH&&(gz l.length (gj l ct)&&decide (l.length≤60))))∧fs=[]):=fun e=>hn (by rw[←h0,hd];simp[e]);refine wR _ _ _ (ai mD ?_);simp only[mo,z6,aL,ha,aY,gu,iq,dJ,j5,mY,fP,j7,iz,j8,j9,mZ,fh,natAdd,cw,cT,kG,fR,qa];rw[bh ay]
   cases h1:cH a<;>simp only[vU,Et]<;>first|exact gN SX|exact EX _ (by rw[gO SX];exact iX)
 exact key rfl
theorem Cs (l:List Key) (hl:l.length≤1073741824):au C de [cD l] (vB (uh l)) []:=by
 have:=EP l hl;rw[zS];exact this
theorem HU (l:List Key) (hl:l.length≤1073741824) (q:Bool):au C de [cD l] (vB q) []↔q=uh l:=Br (Cs l hl)
theorem Ct (l:List Key) (hl:l.length≤1073741824):au C c8 [cD l] (vB ((gz l.length (ie l)&&decide (l.length≤60)))) []:=by
 refine(H6 _ _ ?_).run
 have key:((List.range' 0 (l.length-0)).all (ie l)&&decide (l.length≤60))=(gz l.length (ie l)&&decide (l.length≤60))→aq C c8 aF 4 0 (gm (l.map bf) ((0:Nat):Int)) (fun u st=>aN C c8 aF u st fun r fs=>r=vB ((gz l.length (ie l)&&decide (l.length≤60)))∧fs=[]):=by
  refine Ey (l.length) (fun i=>((List.range' i (l.length-i)).all (ie l)&&decide (l.length≤60))=(gz l.length (ie l)&&decide (l.length≤60))→aq C c8 aF 4 0 (gm (l.map bf) i) (fun u st=>aN C c8 aF u st fun r fs=>r=vB ((gz l.length (ie l)&&decide (l.length≤60)))∧fs=[])) ?_ ?_
  ·intro h0
   refine wP _ _ _ (aB cY (EW _ _ _ _ _ ?_));rw[qf] at h0;simp only[List.range'_zero,tX,fR] at h0;rw[←h0];simp[ku];omega
  ·intro i hi hn h0
   rw[yz hi,oY] at h0
   have gO:(ie l) i=false→(gz l.length (ie l)&&decide (l.length≤60))=false:=fun e=>by rw[←h0,e];rfl
   have gN:(ie l) i=true→aq C c8 aF 4 0 (gm (l.map bf) ((i:Int)+1)) (fun u st=>aN C c8 aF u st fun r fs=>r=vB ((gz l.length (ie l)&&decide (l.length≤60)))∧fs=[]):=fun e=>hn (by rw[←h0,e];rfl);refine wP _ _ _ (ai mD ?_);have ha:l[i]?=some l[i]:=aV hi;simp only[mo,z5,wB,aL,ha,aY,gu,iq,dJ,j5,mY,fP,j7,iz,j8,j9,mZ,fh,natAdd,cw,cT,kG,fR,qa];rw[bh ay]
   cases i with
   |zero=>
    have e:ie l 0=cH l[0]:=by simp[ie,S6,gj,hi]
    simp only[e] at gO gN
    cases h1:cH l[0]<;>simp only[h1,vU,Et,kr,dP,Int.natCast_zero,Int.lt_irrefl,if_false]<;>first|exact gN h1|exact wQ _ _ _ _ _ _ (by rw[gO h1];exact iX)
   |succ k=>
    have hk:l[k]?=some l[k]:=aV ay
    have e:ie l (k+1)=(cH l[k+1]&&ct l[k] l[k+1]):=by simp only[ie,S6,gj,hk,ha]
    simp only[e] at gO gN;rw[eA ay,show((k+1:Nat):Int)-1=(k:Int) by omega];simp only[aL,hk,aY,gu,fP,kr,dP];rw[bg ay]
    cases h1:cH l[k+1]<;>cases h2:ct l[k] l[k+1]<;>simp only[vU,Et]<;>first|exact gN (by rw[h1,h2];rfl)|exact wQ _ _ _ _ _ _ (by rw[gO (by rw[h1,h2];rfl)];exact iX)
 exact key rfl
theorem HV (l:List Key) (hl:l.length≤1073741824) (q:Bool):au C c8 [cD l] (vB q) []↔q=uh l:=Br (Ct l hl)
theorem BC (n:List (List Key)) (hb:n.length≤1073741824) (hl:tot bu n≤1073741824):au C dY [dL n] (vI (bP n)) []:=by
 refine(E0 _ _ ?_).run
 have key: ∀(c:Nat),c+tot bu (n.drop 0)=bP n→aq C dY ah 4 0 (iD c ((0:Nat):Int) (n.map bH)) (fun u st=>aN C dY ah u st fun r fs=>r=(vI (bP n))∧fs=[]):=by
  refine cK n (fun i=> ∀(c:Nat),c+tot bu (n.drop i)=bP n→aq C dY ah 4 0 (iD c i (n.map bH)) (fun u st=>aN C dY ah u st fun r fs=>r=(vI (bP n))∧fs=[])) ?_ ?_
  ·intro c h0
   refine sR _ _ _ _ (aB cY (BN _ _ _ _ _ ?_));rw[kD] at h0;simp only[tot,nw] at h0;rw[h0];exact iX
  ·intro i a hi ha hd ht hn c h0
   refine sR _ _ _ _ (ai mD ?_);rw[hd] at h0;have e5:tot bu (a::n.drop (i+1))=a.length+tot bu (n.drop (i+1)):=rfl;rw[e5] at h0;unfold bP at h0;simp only[pI,aL,ha,aY,gu,iq,dJ,j5,mY,fP,j7,iz,j8,j9,mZ,fh,natAdd,cw,cT,kG,fR,qa];rw[bh (by simp only[oc];omega),bh ay];exact hn (c+a.length) (by unfold bP;omega)
 exact key 0 (by simp[bP])
theorem BD (n:List (List Key)) (hs:tot bu n≤1073741824) (hl:n.length≤1073741824):au C bn [dL n] (vB ((n.all cg&&(decide (n.length≤3)&&decide (bP n≤8))))) []:=by
 refine(FU _ _ ?_).run
 have key:((n.drop 0).all cg&&(decide (n.length≤3)&&decide (bP n≤8)))=(n.all cg&&(decide (n.length≤3)&&decide (bP n≤8)))→aq C bn aF 4 0 (gH ((0:Nat):Int) (n.map bH)) (fun u st=>aN C bn aF u st fun r fs=>r=vB ((n.all cg&&(decide (n.length≤3)&&decide (bP n≤8))))∧fs=[]):=by
  refine cK n (fun i=>((n.drop i).all cg&&(decide (n.length≤3)&&decide (bP n≤8)))=(n.all cg&&(decide (n.length≤3)&&decide (bP n≤8)))→aq C bn aF 4 0 (gH i (n.map bH)) (fun u st=>aN C bn aF u st fun r fs=>r=vB ((n.all cg&&(decide (n.length≤3)&&decide (bP n≤8))))∧fs=[])) ?_ ?_
  ·intro h0
   refine vg _ _ _ (aB cY (Db _ _ _ _ ?_));rw[kD] at h0;simp only[tX,fR] at h0;rw[←h0];simp only[ku,cw,oc,dP]
   by_cases h3:n.length≤3
   ·rw[bg ay]
    refine⟨_,BC n hl hs,?_⟩;simp[h3];omega
   ·rw[aR ay]
    simp[h3]
  ·intro i a hi ha hd Iw hn h0
   have gO:cg a=false→(n.all cg&&(decide (n.length≤3)&&decide (bP n≤8)))=false:=fun e=>by rw[←h0,hd];simp[e]
   have gN:cg a=true→aq C bn aF 4 0 (gH ((i:Int)+1) (n.map bH)) (fun u st=>aN C bn aF u st fun r fs=>r=vB ((n.all cg&&(decide (n.length≤3)&&decide (bP n≤8))))∧fs=[]):=fun e=>hn (by rw[←h0,hd];simp[e]);refine vg _ _ _ (ai mD ?_);have hz:a.length≤tot bu n:=gQ (w:=bu) ha;have hh: ∀q,au C de [cD a] (vB q) []↔q=uh a:=fun q=>HU a ay q;simp only[pI,hh,eW,oc,dP,aL,ha,aY,gu,iq,dJ,j5,mY,fP,j7,iz,j8,j9,mZ,fh,natAdd,cw,cT,kG,fR,qa]
   rw[bh ay]
   cases h1:uh a<;>by_cases h2:a.length=0<;>simp only[vU,Et]<;>first|(rw[bg ay];exact vh _ _ (by rw[gO (by simp[cg,h1,h2])];exact iX))|(rw[aR ay];exact gN (by simp[cg,h1,h2]))|exact vh _ _ (by rw[gO (by simp[cg,h1,h2])];exact iX)
 exact key rfl
theorem nS (n:List (List Key)) (hb:n.length≤1073741824) (hl:tot bu n≤1073741824):au C bn [dL n] (vB (cE n)) []:=by
 have:=BD n hl hb;rw[GJ];exact this
theorem BE (n:List (List Key)) (hb:n.length≤1073741824) (hl:tot bu n≤1073741824):au C aZ [dL n] (vB (n.all cg&&(decide (n.length≤3)&&decide (bP n≤8)))) []:=by
 refine(FZ _ _ ?_).run
 have key: ∀(c:Nat),c+tot bu (n.drop 0)=bP n→((n.drop 0).all cg&&(decide (n.length≤3)&&decide (bP n≤8)))=(n.all cg&&(decide (n.length≤3)&&decide (bP n≤8)))→aq C aZ ah 4 0 (jf c (n.map bH) ((0:Nat):Int)) (fun u st=>aN C aZ ah u st fun r fs=>r=(vB (n.all cg&&(decide (n.length≤3)&&decide (bP n≤8))))∧fs=[]):=by
  refine cK n (fun i=> ∀(c:Nat),c+tot bu (n.drop i)=bP n→((n.drop i).all cg&&(decide (n.length≤3)&&decide (bP n≤8)))=(n.all cg&&(decide (n.length≤3)&&decide (bP n≤8)))→aq C aZ ah 4 0 (jf c (n.map bH) i) (fun u st=>aN C aZ ah u st fun r fs=>r=(vB (n.all cg&&(decide (n.length≤3)&&decide (bP n≤8))))∧fs=[])) ?_ ?_
  ·intro c h0 h1
   refine vk _ _ _ _ (aB cY (Dm _ _ _ _ _ _ ?_));rw[kD] at h0 h1;simp only[tot,nw] at h0;simp only[tX,fR] at h1;rw[←h1];simp only[ku,cw,oc,dP]
   by_cases h3:n.length≤3
   ·rw[bg ay]
    simp[h3];omega
   ·rw[aR ay]
    simp[h3]
  ·intro i a hi ha hd ht hn c h0 h1
   refine vk _ _ _ _ (ai mD ?_);have hz:a.length≤tot bu n:=gQ (w:=bu) ha;have hh: ∀q,au C c8 [cD a] (vB q) []↔q=uh a:=fun q=>HV a ay q;rw[hd] at h0 h1;have e5:tot bu (a::n.drop (i+1))=a.length+tot bu (n.drop (i+1)):=rfl;rw[e5] at h0;unfold bP at h0;have hO:cg a=false→aN C aZ ah TX.ret (lB (n.map bH)) (fun r fs=>r=vB (n.all cg&&(decide (n.length≤3)&&decide (bP n≤8)))∧fs=[]):=fun e=>Dl _ _ (by rw[←h1];simp only[oY,e];exact iX)
   simp only[pI,hh,eW,oc,dP,aL,ha,aY,gu,iq,dJ,j5,mY,fP,j7,iz,j8,j9,mZ,fh,natAdd,cw,cT,kG,fR,qa];rw[bh ay,bh ay]
   cases h2:uh a<;>by_cases h3:a.length=0<;>simp only[vU,Et]
   ·exact hO (by simp[cg,h2])
   ·exact hO (by simp[cg,h2])
   ·rw[bg ay];exact hO (by simp[cg,h3])
   ·rw[aR ay]
    exact hn (c+a.length) (by unfold bP;omega) (by rw[←h1];simp[cg,h2,h3])
 exact key 0 (by simp[bP]) rfl
theorem nT (n:List (List Key)) (hb:n.length≤1073741824) (hl:tot bu n≤1073741824):au C aZ [dL n] (vB (cE n)) []:=by
 have:=BE n hb hl;rw[GJ];exact this
theorem Fz (n:List (List Key)) (hb:n.length≤1073741824) (hl:tot bu n≤1073741824) (q:Bool):au C aZ [.ag [.sub 1 (n.map bH)]] (vB q) []↔q=cE n:=Br (nT n hb hl)
@[simp] theorem rX (b a q:Int):au C nK [vI b,vI a] (vI q) []↔q=bM b a:=So ((FN _ _ _ iX).run)
@[simp] theorem xW (b a k c g q:Int):au C iN [.ag [iI b,iI a,iI k,iI c,iI g]] (vI q) []↔q=bM b a:=So (by
  refine(FR _ _ _ _ _ _ ?_).run;simp only[rX,iq]
  simp)
@[simp] theorem nu (b a q:Int):au C lS [vI b,vI a] (vI q) []↔q=bM b a:=So ((F0 _ _ _ iX).run)
theorem BF (t:Tree) (i:Nat) (n:List (List Key)) (hi:i<t.ak.length) (hl:bX t≤1073741824) (hn:n.length≤1073741824) (hz:tot bu n≤1073741824):aq C aT aU 4 0 (eJ i ((0:Nat):Int) (t.ak.map cA) (t.nodes.map bD) (n.map bH)) (fun u st=>aN C aT aU u st fun r fs=>r=vB (n.all (bF t.ak i))∧fs=[]):=by
 have Yb:t.ak.length≤1073741824:=by unfold bX at hl;omega
 have hlo:t.ak[i]?=some t.ak[i]:=aV hi
 have key:(n.drop 0).all (bF t.ak i)=n.all (bF t.ak i)→aq C aT aU 4 0 (eJ i ((0:Nat):Int) (t.ak.map cA) (t.nodes.map bD) (n.map bH)) (fun u st=>aN C aT aU u st fun r fs=>r=vB (n.all (bF t.ak i))∧fs=[]):=by
  refine cK n (fun k=>(n.drop k).all (bF t.ak i)=n.all (bF t.ak i)→aq C aT aU 4 0 (eJ i k (t.ak.map cA) (t.nodes.map bD) (n.map bH)) (fun u st=>aN C aT aU u st fun r fs=>r=vB (n.all (bF t.ak i))∧fs=[])) ?_ ?_
  ·intro h0
   refine ve _ _ _ _ _ _ (aB cY (C6 _ _ _ _ _ _ _ ?_));rw[kD] at h0;simp only[tX] at h0;rw[←h0];exact iX
  ·intro k s hk hs hd Iw hnext h0
   have Q4:s.length≤tot bu n:=gQ (w:=bu) hs;rw[hd,oY] at h0;refine ve _ _ _ _ _ _ (ai mD ?_)
   have keyI:(s.drop 0).all (dU t.ak i)=s.all (dU t.ak i)→aq C aT g9 3 2 (fH i k ((0:Nat):Int) (t.ak.map cA) (t.nodes.map bD) (n.map bH)) (fun u st=>xz C aT aU 4 0 yT u st (fun u st=>aN C aT aU u st fun r fs=>r=vB (n.all (bF t.ak i))∧fs=[])):=by
    refine cK s (fun j=>(s.drop j).all (dU t.ak i)=s.all (dU t.ak i)→aq C aT g9 3 2 (fH i k j (t.ak.map cA) (t.nodes.map bD) (n.map bH)) (fun u st=>xz C aT aU 4 0 yT u st (fun u st=>aN C aT aU u st fun r fs=>r=vB (n.all (bF t.ak i))∧fs=[]))) ?_ ?_
    ·intro h1
     rw[kD] at h1;simp only[tX] at h1;refine vf _ _ _ _ _ _ _ (⟨_,oV hs,aB cY (C8 _ _ _ _ _ _ _ _ ?_)⟩);rw[bh ay];exact hnext (by rw[←h0];unfold bF;rw[←h1];simp)
    ·intro j x hj hx Ng Yc hn2 h1
     rw[Ng,oY] at h1
     have gO:dU t.ak i x=false→xz C aT aU 4 0 yT TX.ret (lz (t.ak.map cA) (t.nodes.map bD) (n.map bH)) (fun u st=>aN C aT aU u st fun r fs=>r=vB (n.all (bF t.ak i))∧fs=[]):=fun e=>C7 _ _ _ _ (C9 _ _ _ _ (by
      have e2:bF t.ak i s=false:=by unfold bF;rw[←h1,e];rfl
      rw[←h0,e2];exact iX))
     have gN:dU t.ak i x=true→aq C aT g9 3 2 (fH i k ((j:Int)+1) (t.ak.map cA) (t.nodes.map bD) (n.map bH)) (fun u st=>xz C aT aU 4 0 yT u st (fun u st=>aN C aT aU u st fun r fs=>r=vB (n.all (bF t.ak i))∧fs=[])):=fun e=>hn2 (by rw[←h1,e];rfl)
     have e:dU t.ak i x=(!decide (bM x.b x.a<t.ak[i])&&(match t.ak[i+1]? with|some hi=>decide (bM x.b x.a<hi)|none=>true)):=by simp only[dU,yA,hlo];rfl
     rw[e] at gO gN;refine vf _ _ _ _ _ _ _ (⟨_,oV hs,ai mD ⟨_,oV hs,?_⟩⟩);rw[bh (a:=(i:Int)) ay,bh (a:=(j:Int)) ay];simp only[mo,tG,aL,hx,hlo,aY,gu,xW,iq,kr,ku,dP,cw,oc]
     by_cases h2:bM x.b x.a<t.ak[i]
     ·rw[bg h2]
      exact gO (by rw[zf h2];rfl)
     ·rw[aR h2]
      by_cases h3:i+1<t.ak.length
      ·have hhi:t.ak[i+1]?=some t.ak[i+1]:=aV h3
       rw[bg ay,show((i:Int)+1)=((i+1:Nat):Int) by omega,aL,hhi];simp only[aY,gu];rw[hhi] at gO gN
       by_cases h4:bM x.b x.a<t.ak[i+1]
       ·rw[aR ay]
        exact gN (by rw[oh h2];simp[h4])
       ·rw[bg ay]
        exact gO (by simp[h4])
      ·rw[aR ay]
       have hno:t.ak[i+1]?=none:=Le ay;rw[hno] at gN;exact gN (by rw[oh h2];rfl)
   exact keyI rfl
 exact key rfl
theorem yS (t:Tree) (i:Nat) (n:List (List Key)) (hi:i<t.ak.length) (hl:bX t≤1073741824) (hn:n.length≤1073741824) (hz:tot bu n≤1073741824):aq C aO aF 4 0 (fz i (n.map bH) (n.length:Int) ((0:Nat):Int) (t.ak.map cA) (t.nodes.map bD)) (fun u st=>aN C aO aF u st fun r fs=>r=vB (n.all (bF t.ak i))∧fs=[]):=by
 have Yb:t.ak.length≤1073741824:=by unfold bX at hl;omega
 have hlo:t.ak[i]?=some t.ak[i]:=aV hi
 have key:(n.drop 0).all (bF t.ak i)=n.all (bF t.ak i)→aq C aO aF 4 0 (fz i (n.map bH) (n.length:Int) ((0:Nat):Int) (t.ak.map cA) (t.nodes.map bD)) (fun u st=>aN C aO aF u st fun r fs=>r=vB (n.all (bF t.ak i))∧fs=[]):=by
  refine cK n (fun k=>(n.drop k).all (bF t.ak i)=n.all (bF t.ak i)→aq C aO aF 4 0 (fz i (n.map bH) (n.length:Int) k (t.ak.map cA) (t.nodes.map bD)) (fun u st=>aN C aO aF u st fun r fs=>r=vB (n.all (bF t.ak i))∧fs=[])) ?_ ?_
  ·intro h0
   refine ru _ _ _ _ _ _ _ (aB cY (Ax _ _ _ _ _ _ _ _ ?_));rw[kD] at h0;simp only[tX] at h0;rw[←h0];exact iX
  ·intro k s hk hs hd Iw hnext h0
   have Q4:s.length≤tot bu n:=gQ (w:=bu) hs;rw[hd,oY] at h0;refine ru _ _ _ _ _ _ _ (ai mD ⟨_,oV hs,?_⟩)
   have keyI:(s.drop 0).all (dU t.ak i)=s.all (dU t.ak i)→aq C aO g8 3 2 (eC i (n.map bH) (n.length:Int) k (s.map bf) ((0:Nat):Int) (t.ak.map cA) (t.nodes.map bD)) (fun u st=>xz C aO aF 4 0 pR u st (fun u st=>aN C aO aF u st fun r fs=>r=vB (n.all (bF t.ak i))∧fs=[])):=by
    refine cK s (fun j=>(s.drop j).all (dU t.ak i)=s.all (dU t.ak i)→aq C aO g8 3 2 (eC i (n.map bH) (n.length:Int) k (s.map bf) j (t.ak.map cA) (t.nodes.map bD)) (fun u st=>xz C aO aF 4 0 pR u st (fun u st=>aN C aO aF u st fun r fs=>r=vB (n.all (bF t.ak i))∧fs=[]))) ?_ ?_
    ·intro h1
     rw[kD] at h1;simp only[tX] at h1;refine ry _ _ _ _ _ _ _ _ _ (aB cY (Az _ _ _ _ _ _ _ _ _ _ _ ?_));rw[bh ay];exact hnext (by rw[←h0];unfold bF;rw[←h1];simp)
    ·intro j x hj hx Ng Yc hn2 h1
     rw[Ng,oY] at h1
     have gO:dU t.ak i x=false→xz C aO aF 4 0 pR TX.ret (jH (t.ak.map cA) (t.nodes.map bD) x.b x.a x.k x.c x.g) (fun u st=>aN C aO aF u st fun r fs=>r=vB (n.all (bF t.ak i))∧fs=[]):=fun e=>Ay _ _ _ _ _ _ _ _ (AA _ _ _ _ _ _ _ _ (by
      have e2:bF t.ak i s=false:=by unfold bF;rw[←h1,e];rfl
      rw[←h0,e2];exact iX))
     have gN:dU t.ak i x=true→aq C aO g8 3 2 (eC i (n.map bH) (n.length:Int) k (s.map bf) ((j:Int)+1) (t.ak.map cA) (t.nodes.map bD)) (fun u st=>xz C aO aF 4 0 pR u st (fun u st=>aN C aO aF u st fun r fs=>r=vB (n.all (bF t.ak i))∧fs=[])):=fun e=>hn2 (by rw[←h1,e];rfl)
     have e:dU t.ak i x=(!decide (bM x.b x.a<t.ak[i])&&(match t.ak[i+1]? with|some hi=>decide (bM x.b x.a<hi)|none=>true)):=by simp only[dU,yA,hlo];rfl
     rw[e] at gO gN;refine ry _ _ _ _ _ _ _ _ _ (ai mD ?_);rw[bh (a:=(i:Int)) ay,bh (a:=(j:Int)) ay];simp only[mo,tG,aL,hx,hlo,aY,gu,nu,iq,kr,ku,dP,cw,oc]
     by_cases h2:bM x.b x.a<t.ak[i]
     ·rw[bg h2]
      exact gO (by rw[zf h2];rfl)
     ·rw[aR h2]
      by_cases h3:i+1<t.ak.length
      ·have hhi:t.ak[i+1]?=some t.ak[i+1]:=aV h3
       rw[bg ay,show((i:Int)+1)=((i+1:Nat):Int) by omega,aL,hhi];simp only[aY,gu];rw[hhi] at gO gN
       by_cases h4:bM x.b x.a<t.ak[i+1]
       ·rw[aR ay]
        exact gN (by rw[oh h2];simp[h4])
       ·rw[bg ay]
        exact gO (by simp[h4])
      ·rw[aR ay]
       have hno:t.ak[i+1]?=none:=Le ay;rw[hno] at gN;exact gN (by rw[oh h2];rfl)
   exact keyI rfl
 exact key rfl
theorem Cu (t:Tree) (i:Nat) (n:List (List Key)) (ha:t.nodes[i]?=some n) (hlo:i<t.ak.length) (hl:bX t≤1073741824):au C aT [cr t,vI i] (vB (cE n&&((decide (i=0)|| !decide ((an n).length=0))&&n.all (bF t.ak i)))) []:=by
 have hz:ax n≤tot ax t.nodes:=gQ (w:=ax) ha;have e1:ax n=n.length+tot bu n:=rfl;have e2:bX t=t.ak.length+(t.nodes.length+tot ax t.nodes):=rfl;have hnk:=bR n;refine(FT _ _ _ _ ⟨_,oV (e:=bD) ha,_,nS n ay ay,?_⟩).run
 cases h1:cE n with
 |false=>exact ai rfl iX
 |true=>
  refine aB rfl ?_;have UE:=BF t i n hlo hl ay ay
  have conv: ∀B:Bool,B=n.all (bF t.ak i)→aq C aT aU 4 0 (eJ i 0 (t.ak.map cA) (t.nodes.map bD) (n.map bH)) (fun u st=>aN C aT aU u st fun r fs=>r=vB B∧fs=[]):=fun B hB=>by subst hB;exact UE
  cases i with
  |zero=>exact aB cY (conv _ cY)
  |succ k=>
   refine ai (by first|(simp;done)|(simp;omega)) ⟨_,qE n ay ay,?_⟩
   by_cases h2:(an n).length=0
   ·refine ai (by simp[h2]) ?_
    simp[h2]
   ·exact aB (by simpa using h2) (conv _ (by simp[h2]))
theorem nU (t:Tree) (hl:bX t≤1073741824):au C aE [cr t] (vB (cN t)) []:=by
 have e2:bX t=t.ak.length+(t.nodes.length+tot ax t.nodes):=rfl;refine(FC _ _ _ ?_).run;simp only[O5,iq,cw,oc,eW,dJ];unfold cN
 cases h1:vY (t.nodes.length:Int) 1 20 with
 |false=>exact aB rfl iX
 |true=>
  refine ai rfl ?_
  have Yd:1≤t.nodes.length:=by have:=uc h1;omega
  by_cases h2:t.ak.length=t.nodes.length
  ·refine ai (by simp[h2]) ?_
   have h0:t.ak[0]?=some t.ak[0]:=aV ay
   have IC:iG t.ak 0=some t.ak[0]:=by rw[show(0:Int)=((0:Nat):Int) from rfl,aL];exact h0
   simp only[tG,IC,h0,aY,gu,dP]
   by_cases h3:t.ak[0]=0
   ·rw[bg (by simpa using h3)]
    have hw:(true&&(decide (t.ak.length=t.nodes.length)&&((decide (t.ak[0]=0))&&(gz t.nodes.length (bN t)&&decide ((aA t).length≤60)))))=(gz t.nodes.length (bN t)&&decide ((aA t).length≤60)):=by simp[h2,h3]
    rw[hw]
    have key:((List.range' 0 (t.nodes.length-0)).all (bN t)&&decide ((aA t).length≤60))=(gz t.nodes.length (bN t)&&decide ((aA t).length≤60))→aq C aE ah 4 0 (fE ((0:Nat):Int) (t.ak.map cA) (t.nodes.map bD)) (fun u st=>aN C aE ah u st fun r fs=>r=vB (gz t.nodes.length (bN t)&&decide ((aA t).length≤60))∧fs=[]):=by
     refine Ey t.nodes.length (fun i=>((List.range' i (t.nodes.length-i)).all (bN t)&&decide ((aA t).length≤60))=(gz t.nodes.length (bN t)&&decide ((aA t).length≤60))→aq C aE ah 4 0 (fE i (t.ak.map cA) (t.nodes.map bD)) _) ?_ ?_
     ·intro h0
      rw[qf] at h0;simp only[List.range'_zero,tX,fR] at h0;refine uR _ _ _ _ (aB cY (CI _ _ _ _ _ ⟨_,qF t hl,?_⟩));rw[←h0];simp[ku];omega
     ·intro i hi hn h0
      rw[yz hi,oY] at h0;have ha:t.nodes[i]?=some t.nodes[i]:=aV hi;have UF:t.ak[i]?=some t.ak[i]:=aV ay;have gO:bN t i=false→aN C aE ah TX.ret (jb (t.ak.map cA) (t.nodes.map bD)) (fun r fs=>r=vB (gz t.nodes.length (bN t)&&decide ((aA t).length≤60))∧fs=[]):=fun e=>CH _ _ _ (by rw[←h0,e];exact iX);have gN:bN t i=true→aq C aE ah 4 0 (fE ((i:Int)+1) (t.ak.map cA) (t.nodes.map bD)) (fun u st=>aN C aE ah u st fun r fs=>r=vB (gz t.nodes.length (bN t)&&decide ((aA t).length≤60))∧fs=[]):=fun e=>hn (by rw[←h0,e];rfl)
      have hh: ∀q,au C aT [cr t,vI i] (vB q) []↔q=_:=fun q=>Br (Cu t i t.nodes[i] ha ay hl);refine uR _ _ _ _ (ai mD ?_);rw[bh ay];simp only[hh,iq,kr,ku,dP,dJ]
      cases i with
      |zero=>
       have e:bN t 0=(cE t.nodes[0]&&((decide (0=0)|| !decide ((an t.nodes[0]).length=0))&&t.nodes[0].all (bF t.ak 0))):=by simp only[bN,gj,ha,fR]
       rw[e] at gO gN;rw[aR ay];exact eO gN gO
      |succ k=>
       have hk:t.ak[k]?=some t.ak[k]:=aV ay
       have e:bN t (k+1)=(decide (t.ak[k]<t.ak[k+1])&&(cE t.nodes[k+1]&&((decide (k+1=0)|| !decide ((an t.nodes[k+1]).length=0))&&t.nodes[k+1].all (bF t.ak (k+1))))):=by simp only[bN,gj,ha,hk,UF]
       rw[e] at gO gN;rw[bg ay,eA ay,show((k+1:Nat):Int)-1=(k:Int) by omega];simp only[tG,aL,hk,UF,aY,gu]
       by_cases h4:t.ak[k]<t.ak[k+1]
       ·rw[aR ay]
        rw[zf h4,fR] at gO gN;exact eO gN gO
       ·rw[bg ay]
        exact gO (by rw[oh h4];rfl)
    exact key rfl
   ·rw[aR (by simpa using h3)]
    simp[h3]
  ·refine aB mD ?_
   simp[h2]
theorem Aa (t:Tree) (i:Nat) (n:List (List Key)) (ha:t.nodes[i]?=some n) (hlo:i<t.ak.length) (hl:bX t≤1073741824):au C aO [cr t,vI i] (vB (n.all (bF t.ak i))) []:=by
 have hz:ax n≤tot ax t.nodes:=gQ (w:=ax) ha;have e1:ax n=n.length+tot bu n:=rfl;have e2:bX t=t.ak.length+(t.nodes.length+tot ax t.nodes):=rfl;refine(CR _ _ _ _ ⟨_,oV (e:=bD) ha,?_⟩).run;simp only[cw,oc];exact yS t i n hlo hl ay ay
theorem nV (t:Tree) (hl:bX t≤1073741824):au C bK [cr t] (vB (cN t)) []:=by
 have e2:bX t=t.ak.length+(t.nodes.length+tot ax t.nodes):=rfl;refine(FM _ _ _ ?_).run;simp only[JW,iq,cw,oc,eW,dJ];unfold cN
 cases h1:vY (t.nodes.length:Int) 1 20 with
 |false=>exact aB rfl iX
 |true=>
  refine ai rfl ?_
  have Yd:1≤t.nodes.length:=by have:=uc h1;omega
  by_cases h2:t.ak.length=t.nodes.length
  ·refine ai (by simp[h2]) ?_
   have h0:t.ak[0]?=some t.ak[0]:=aV ay
   have IC:iG t.ak 0=some t.ak[0]:=by rw[show(0:Int)=((0:Nat):Int) from rfl,aL];exact h0
   simp only[tG,IC,h0,aY,gu,dP]
   by_cases h3:t.ak[0]=0
   ·rw[bg (by simpa using h3)]
    have hw:(true&&(decide (t.ak.length=t.nodes.length)&&((decide (t.ak[0]=0))&&(gz t.nodes.length (bN t)&&decide ((aA t).length≤60)))))=(gz t.nodes.length (bN t)&&decide ((aA t).length≤60)):=by simp[h2,h3]
    rw[hw]
    have key: ∀c:Nat,c+((t.nodes.drop 0).flatMap an).length=(aA t).length→((List.range' 0 (t.nodes.length-0)).all (bN t)&&decide ((aA t).length≤60))=(gz t.nodes.length (bN t)&&decide ((aA t).length≤60))→aq C bK aU 4 0 (dZ c (t.nodes.map bD) ((0:Nat):Int) (t.ak.map cA)) (fun u st=>aN C bK aU u st fun r fs=>r=vB (gz t.nodes.length (bN t)&&decide ((aA t).length≤60))∧fs=[]):=by
     refine Ey t.nodes.length (fun i=> ∀c:Nat,c+((t.nodes.drop i).flatMap an).length=(aA t).length→((List.range' i (t.nodes.length-i)).all (bN t)&&decide ((aA t).length≤60))=(gz t.nodes.length (bN t)&&decide ((aA t).length≤60))→aq C bK aU 4 0 (dZ c (t.nodes.map bD) i (t.ak.map cA)) _) ?_ ?_
     ·intro c hc h0
      rw[qf] at h0;simp only[List.range'_zero,tX,fR] at h0;rw[kD] at hc;simp at hc;refine u7 _ _ _ _ _ (aB cY (C4 _ _ _ _ _ _ _ ?_));rw[←h0];simp[ku];omega
     ·intro i hi hn c hc h0
      rw[yz hi,oY] at h0;have ha:t.nodes[i]?=some t.nodes[i]:=aV hi;have UF:t.ak[i]?=some t.ak[i]:=aV ay;rw[vq hi,List.flatMap_cons,cT] at hc;have hz:ax t.nodes[i]≤tot ax t.nodes:=gQ (w:=ax) ha;have e1:ax t.nodes[i]=t.nodes[i].length+tot bu t.nodes[i]:=rfl;have hnk:=bR t.nodes[i];have Iw:=zU t;have gO1:bN t i=false→aN C bK aU TX.ret (fF (t.ak.map cA) (t.nodes.map bD) (t.nodes[i].map bH)) (fun r fs=>r=vB (gz t.nodes.length (bN t)&&decide ((aA t).length≤60))∧fs=[]):=fun e=>C2 _ _ _ _ (by rw[←h0,e];exact iX)
      have gO2:bN t i=false→aN C bK aU TX.ret (lu (t.ak.map cA) (t.nodes.map bD) (t.nodes[i].map bH) ((an t.nodes[i]).map bf)) (fun r fs=>r=vB (gz t.nodes.length (bN t)&&decide ((aA t).length≤60))∧fs=[]):=fun e=>C3 _ _ _ _ _ (by rw[←h0,e];exact iX);have gN:bN t i=true→aq C bK aU 4 0 (dZ ((c:Int)+((an t.nodes[i]).length:Int)) (t.nodes.map bD) ((i:Int)+1) (t.ak.map cA)) (fun u st=>aN C bK aU u st fun r fs=>r=vB (gz t.nodes.length (bN t)&&decide ((aA t).length≤60))∧fs=[]):=fun e=>hn (c+(an t.nodes[i]).length) ay (by rw[←h0,e];rfl)
      have hb: ∀q,au C aO [cr t,vI i] (vB q) []↔q=_:=fun q=>Br (Aa t i t.nodes[i] ha ay hl);have hk: ∀q,au C bQ [dL t.nodes[i]] (.c (.sub 5 q)) []↔q=(an t.nodes[i]).map bf:=fun q=>eI t.nodes[i] ay ay q;have ho: ∀q,au C aZ [dL t.nodes[i]] (vB q) []↔q=cE t.nodes[i]:=fun q=>Fz t.nodes[i] ay ay q;refine u7 _ _ _ _ _ (ai mD ?_);simp only[mq,aL,ha,aY,gu,hb,hk,ho,iq,kr,ku,eW,dP,dJ,cw,oc];rw[bh (a:=(c:Int)) ay,bh (a:=(i:Int)) ay]
      cases i with
      |zero=>
       have e:bN t 0=(cE t.nodes[0]&&((decide (0=0)|| !decide ((an t.nodes[0]).length=0))&&t.nodes[0].all (bF t.ak 0))):=by simp only[bN,gj,ha,fR]
       rw[e] at gO1 gN
       have yZ: ¬((0:Int)<((0:Nat):Int)):=by omega
       simp only[aR yZ]
       cases h4:cE t.nodes[0] with
       |false=>exact aB rfl (gO1 (by rw[h4];rfl))
       |true=>
        refine ai rfl ?_
        cases h5:t.nodes[0].all (bF t.ak 0) with
        |false=>exact aB rfl (gO1 (by rw[h4,h5];simp))
        |true=>exact ai rfl (gN (by rw[h4,h5];simp))
      |succ k=>
       have y9:t.ak[k]?=some t.ak[k]:=aV ay
       have e:bN t (k+1)=(decide (t.ak[k]<t.ak[k+1])&&(cE t.nodes[k+1]&&((decide (k+1=0)|| !decide ((an t.nodes[k+1]).length=0))&&t.nodes[k+1].all (bF t.ak (k+1))))):=by simp only[bN,gj,ha,y9,UF]
       rw[e] at gO1 gO2 gN
       have yZ:(0:Int)<((k+1:Nat):Int):=by omega
       simp only[bg yZ];rw[eA ay,show((k+1:Nat):Int)-1=(k:Int) by omega];simp only[tG,aL,y9,UF,aY,gu]
       by_cases h6:t.ak[k]<t.ak[k+1]
       ·rw[aR ay]
        cases h4:cE t.nodes[k+1] with
        |false=>exact aB rfl (gO1 (by rw[h4];simp))
        |true=>
         refine ai rfl ?_
         cases h5:t.nodes[k+1].all (bF t.ak (k+1)) with
         |false=>exact aB rfl (gO1 (by rw[h4,h5];simp))
         |true=>
          refine ai rfl ?_
          by_cases h7:(an t.nodes[k+1]).length=0
          ·rw[bg ay];exact gO2 (by rw[h4,h5];simp[h7])
          ·rw[aR ay];exact gN (by rw[h4,h5,zf h6];simp[h7])
       ·rw[bg ay]
        exact gO1 (by rw[oh h6];rfl)
    exact key 0 (by simp[aA]) rfl
   ·rw[aR (by simpa using h3)]
    simp[h3]
  ·refine aB mD ?_
   simp[h2]
theorem qG (l:List Int) (hl:l.length≤1073741824):au C nt [Ex l] (Ex l) []:=by
 refine(Dk _ _ ?_).run;rw[show cQ (l.map cA)=true from jk _,c7 mD];exact iX
theorem wD (l:List Key) (b a:Int) (hl:l.length≤1073741824):au C ef [cD l,vI b,vI a] (Na (rQ l b a)) []:=by
 refine(Ia _ _ _ _ ?_).run
 have key:setAt (l.drop 0) b a=setAt l b a→aq C ef aF 4 0 (iE (l.map bf) b a ((0:Nat):Int)) (fun u st=>aN C ef aF u st fun r fs=>r=(Na (rQ l b a))∧fs=[]):=by
  refine cK l (fun i=>setAt (l.drop i) b a=setAt l b a→aq C ef aF 4 0 (iE (l.map bf) b a i) (fun u st=>aN C ef aF u st fun r fs=>r=(Na (rQ l b a))∧fs=[])) ?_ ?_
  ·intro h0
   rw[kD] at h0;refine wU _ _ _ _ _ (aB cY (E3 _ _ _ _ _ _ ⟨?_,by trivial⟩));unfold rQ;rw[←h0];rfl
  ·intro i x hi hx hd Iw hn h0
   rw[hd] at h0;simp only[setAt,List.find?_cons] at h0;refine wU _ _ _ _ _ (ai mD ?_);simp only[mo,aL,hx,aY,gu,eW,dP];rw[bh ay]
   by_cases h1:x.b=b
   ·rw[bg h1]
    by_cases h2:x.a=a
    ·rw[bg h2]
     rw[zf ⟨h1,h2⟩] at h0;refine E2 _ _ _ _ _ _ ⟨?_,by trivial⟩;unfold rQ setAt;rw[←h0]
    ·rw[aR h2]
     rw[oh (fun h=>h2 h.2)] at h0;exact hn h0
   ·rw[aR h1]
    rw[oh (fun h=>h1 h.1)] at h0;exact hn h0
 exact key rfl
theorem Cv (n:List (List Key)) (b a:Int) (hl:n.length≤1073741824) (hs: ∀s∈n,s.length≤1073741824):au C eG [dL n,vI b,vI a] (Na (gl n b a n.length)) []:=by
 refine(FJ _ _ _ _ ?_).run
 have key: ∀k:Nat,k≤n.length→gl n b a k=gl n b a n.length→aq C eG aF 4 0 (jd b a ((k:Int)-1) (n.map bH)) (fun u st=>aN C eG aF u st fun r fs=>r=(Na (gl n b a n.length))∧fs=[]):=by
  intro k
  induction k with
  |zero=>
   intro _ hk;refine u0 _ _ _ _ _ (aB cY (CV _ _ _ _ _ _ ⟨?_,by trivial⟩));rw[←hk];rfl
  |succ k ih=>
   intro hle hk;have hx:n[k]?=some n[k]:=aV ay;rw[show((k+1:Nat):Int)-1=(k:Int) by omega];have UG:=hs n[k] (oe ay);generalize n[k]=s at hx UG;simp only[gl,hx] at hk;refine u0 _ _ _ _ _ (ai cY ?_);simp only[pI,aL,hx,aY,gu];rw[eA ay];refine⟨_,_,_,_,_,_,wD s b a UG,?_⟩
   cases h2:(rQ s b a).2 with
   |false=>
    rw[h2] at hk;exact aB rfl (aB rfl (ih ay (by simpa using hk)))
   |true=>
    rw[h2] at hk;simp only[if_true] at hk;refine ai rfl ?_
    by_cases h3:(rQ s b a).1.k=0
    ·refine ai (by simp[h3]) (u5 _ _ _ _ _ _ _ _ _ _ _ _ _ ⟨?_,by trivial⟩)
     rw[bg h3] at hk;rw[←hk];rfl
    ·refine aB (by simp[h3]) (ai rfl (u5 _ _ _ _ _ _ _ _ _ _ _ _ _ ⟨?_,by trivial⟩))
     rw[aR h3] at hk;rw[←hk,←h2]
 rw[cw,show dh (Int.ofNat n.length) 1=(n.length:Int)-1 from eA mD];exact key n.length (cc _) rfl
theorem m9 (t:Tree) (b a:Int) (hl:t.ak.length≤1073741824):au C cS [cr t,vI b,vI a] (vI (dQ t b a)) []:=by
 refine(E1 _ _ _ _ _ ?_).run;unfold dQ
 have key:aq C cS ah 4 0 (fZ b a (jB (fun x=>decide (x≤bM b a)) t.ak 0) ((0:Nat):Int) (t.ak.map cA) (t.nodes.map bD)) (fun u st=>aN C cS ah u st fun r fs=>r=(vI (jB (fun x=>decide (x≤bM b a)) t.ak t.ak.length))∧fs=[]):=by
  refine cK t.ak (fun i=>aq C cS ah 4 0 (fZ b a (jB (fun x=>decide (x≤bM b a)) t.ak i) i (t.ak.map cA) (t.nodes.map bD)) (fun u st=>aN C cS ah u st fun r fs=>r=(vI (jB (fun x=>decide (x≤bM b a)) t.ak t.ak.length))∧fs=[])) ?_ ?_
  ·exact sS _ _ _ _ _ _ _ (aB cY (BO _ _ _ _ _ _ _ _ iX))
  ·intro i x hi hx hd Iw hn
   simp only[jB,hx] at hn;refine sS _ _ _ _ _ _ _ (ai mD ?_);simp only[tG,aL,hx,aY,gu,rX,iq,ku,dP];rw[bh ay]
   by_cases h1:x≤bM b a
   ·rw[bg h1]
    rw[bg (zf h1)] at hn;exact hn
   ·rw[aR h1]
    rw[aR (by simpa using h1)] at hn;exact hn
 exact key
theorem Cw (t:Tree) (b a:Int) (hl:bX t≤1073741824):au C wz [cr t,vI b,vI a] (Na (Bs t b a)) []:=by
 have e2:bX t=t.ak.length+(t.nodes.length+tot ax t.nodes):=rfl;refine(FB _ _ _ _ _ ⟨_,m9 t b a ay,_,EM _ _ _,?_⟩).run;unfold Bs;rw[cw,show dh (Int.ofNat t.nodes.length) 1=(t.nodes.length:Int)-1 from eA mD]
 by_cases h1:0≤dQ t b a∧dQ t b a<t.nodes.length
 ·obtain⟨n,hn⟩:=lN h1.1 h1.2
  have hz:ax n≤tot ax t.nodes:=kW (w:=ax) (vV hn);have e1:ax n=n.length+tot bu n:=rfl;refine aB (by simp[vY];omega) ?_;simp only[mq,hn,aY,gu];refine⟨_,_,_,_,_,_,Cv n b a ay (fun s hs=> ?_),iX⟩;have h3:bu s≤tot bu n:=kW (w:=bu) hs;have h4:bu s=s.length:=rfl;omega
 ·rw[sC h1]
  exact ai (by simp[vY];omega) iX
theorem wE (l:List Key) (b a:Int) (hl:l.length≤1073741824):au C dO [cD l,vI b,vI a] (Na (rQ l b a)) []:=by
 refine(Ie _ _ _ _ ?_).run
 have key:setAt (l.drop 0) b a=setAt l b a→aq C dO aF 4 0 (iF b a (l.map bf) ((0:Nat):Int)) (fun u st=>aN C dO aF u st fun r fs=>r=(Na (rQ l b a))∧fs=[]):=by
  refine cK l (fun i=>setAt (l.drop i) b a=setAt l b a→aq C dO aF 4 0 (iF b a (l.map bf) i) (fun u st=>aN C dO aF u st fun r fs=>r=(Na (rQ l b a))∧fs=[])) ?_ ?_
  ·intro h0
   rw[kD] at h0;refine wX _ _ _ _ _ (aB cY (E9 _ _ _ _ _ _ _ ⟨?_,by trivial⟩));unfold rQ;rw[←h0];rfl
  ·intro i x hi hx hd Iw hn h0
   rw[hd] at h0;simp only[setAt,List.find?_cons] at h0;refine wX _ _ _ _ _ (ai mD ?_);simp only[mo,aL,hx,aY,gu,eW,dP];rw[bh ay]
   by_cases h1:x.b=b
   ·rw[bg h1]
    by_cases h2:x.a=a
    ·rw[bg h2]
     rw[zf ⟨h1,h2⟩] at h0;refine E8 _ _ _ _ _ _ ⟨?_,by trivial⟩;unfold rQ setAt;rw[←h0]
    ·rw[aR h2]
     rw[oh (fun h=>h2 h.2)] at h0;exact hn h0
   ·rw[aR h1]
    rw[oh (fun h=>h1 h.1)] at h0;exact hn h0
 exact key rfl
theorem Cx (n:List (List Key)) (b a:Int) (hl:n.length≤1073741824) (hs: ∀s∈n,s.length≤1073741824):au C eF [dL n,vI b,vI a] (Na (gl n b a n.length)) []:=by
 refine(FL _ _ _ _ ?_).run
 have key: ∀k:Nat,k≤n.length→gl n b a k=gl n b a n.length→aq C eF aF 4 0 (lq b a ((k:Int)-1) (n.map bH)) (fun u st=>aN C eF aF u st fun r fs=>r=(Na (gl n b a n.length))∧fs=[]):=by
  intro k
  induction k with
  |zero=>
   intro _ hk;refine u6 _ _ _ _ _ (aB cY (C0 _ _ _ _ _ _ ⟨?_,by trivial⟩));rw[←hk];rfl
  |succ k ih=>
   intro hle hk;have hx:n[k]?=some n[k]:=aV ay;rw[show((k+1:Nat):Int)-1=(k:Int) by omega];have UG:=hs n[k] (oe ay);generalize n[k]=s at hx UG;simp only[gl,hx] at hk;refine u6 _ _ _ _ _ (ai cY ?_);simp only[pI,aL,hx,aY,gu];rw[eA ay];refine⟨_,_,_,_,_,_,wE s b a UG,?_⟩
   cases h2:(rQ s b a).2 with
   |false=>
    rw[h2] at hk;exact ai rfl (ih ay (by simpa using hk))
   |true=>
    rw[h2] at hk;simp only[if_true] at hk;refine aB rfl ?_
    by_cases h3:(rQ s b a).1.k=0
    ·refine ai (by simp[h3]) (CY _ _ _ _ _ _ _ _ ⟨?_,by trivial⟩)
     rw[bg h3] at hk;rw[←hk];rfl
    ·refine aB (by simp[h3]) (CZ _ _ _ _ _ _ _ ⟨?_,by trivial⟩)
     rw[aR h3] at hk;rw[←hk,←h2]
 rw[cw,show dh (Int.ofNat n.length) 1=(n.length:Int)-1 from eA mD];exact key n.length (cc _) rfl
theorem nc (t:Tree) (b a:Int) (hl:t.ak.length≤1073741824):au C di [cr t,vI b,vI a] (vI (dQ t b a)) []:=by
 refine(EZ _ _ _ _ _ ?_).run
 have key: ∀k:Nat,k≤t.ak.length→jB (fun x=>decide (x≤bM b a)) t.ak k=dQ t b a→aq C di aF 4 0 (ke b a ((k:Int)-1) (t.ak.map cA) (t.nodes.map bD)) (fun u st=>aN C di aF u st fun r fs=>r=(vI (dQ t b a))∧fs=[]):=by
  intro k
  induction k with
  |zero=>
   intro _ hk;refine sQ _ _ _ _ _ _ (aB cY (BM _ _ _ _ _ _ _ ⟨?_,by trivial⟩));rw[←hk];rfl
  |succ k ih=>
   intro hle hk;have hx:t.ak[k]?=some t.ak[k]:=aV ay;rw[show((k+1:Nat):Int)-1=(k:Int) by omega];generalize t.ak[k]=x at hx;simp only[jB,hx] at hk;refine sQ _ _ _ _ _ _ (ai cY ?_);simp only[tG,aL,hx,aY,gu,nu,iq,ku,dP];rw[eA ay]
   by_cases h1:x≤bM b a
   ·rw[bg h1]
    rw[bg (zf h1)] at hk;exact BL _ _ _ _ ⟨by rw[←hk],by trivial⟩
   ·rw[aR h1]
    rw[aR (by simpa using h1)] at hk;exact ih ay hk
 rw[cw,show dh (Int.ofNat t.ak.length) 1=(t.ak.length:Int)-1 from eA mD];exact key t.ak.length (cc _) rfl
theorem Cy (t:Tree) (b a:Int) (hl:bX t≤1073741824):au C wu [cr t,vI b,vI a] (Na (Bs t b a)) []:=by
 have e2:bX t=t.ak.length+(t.nodes.length+tot ax t.nodes):=rfl;refine(FV _ _ _ _ _ ⟨_,nc t b a ay,_,yP _ _ _,?_⟩).run;unfold Bs;rw[cw,show dh (Int.ofNat t.nodes.length) 1=(t.nodes.length:Int)-1 from eA mD]
 by_cases h1:0≤dQ t b a∧dQ t b a<t.nodes.length
 ·obtain⟨n,hn⟩:=lN h1.1 h1.2
  have hz:ax n≤tot ax t.nodes:=kW (w:=ax) (vV hn);have e1:ax n=n.length+tot bu n:=rfl;refine aB (by simp[vY];omega) ?_;simp only[mq,hn,aY,gu];refine⟨_,_,_,_,_,_,Cx n b a ay (fun s hs=> ?_),iX⟩;have h3:bu s≤tot bu n:=kW (w:=bu) hs;have h4:bu s=s.length:=rfl;omega
 ·rw[sC h1]
  exact ai (by simp[vY];omega) iX
theorem mA (n:List (List Key)) (hl:n.length≤1073741824) (hs: ∀s∈n,s.length≤1073741824):au C aJ [dL n] (dL n) []:=by
 refine(C5 _ _ ?_).run
 skip
 have key:((0:Nat)=0→aq C aJ ah 4 0 (jK (n.map bH)) (fun u st=>aN C aJ ah u st fun r fs=>r=(dL n)∧fs=[]))∧(0<(0:Nat)→aq C aJ ah 4 0 (gX (n.map bH) ((0:Nat):Int) ((n.take 0).map bH)) (fun u st=>aN C aJ ah u st fun r fs=>r=(dL n)∧fs=[])):=by
  refine cK n (fun i=>(i=0→aq C aJ ah 4 0 (jK (n.map bH)) (fun u st=>aN C aJ ah u st fun r fs=>r=(dL n)∧fs=[]))∧(0<i→aq C aJ ah 4 0 (gX (n.map bH) i ((n.take i).map bH)) (fun u st=>aN C aJ ah u st fun r fs=>r=(dL n)∧fs=[]))) ?_ ?_
  ·refine⟨fun h=> ?_,fun h=> ?_⟩
   ·have hnil:n=[]:=List.length_eq_zero_iff.1 h
    refine rC _ _ (aB (by simp[h]) (AF _ _ _ _ ⟨?_,by trivial⟩));simp[hnil]
   ·rw[tZ]
    exact rD _ _ _ _ (aB cY (AG _ _ _ _ _ _ iX))
  ·intro i a hi ha hd Iw hn
   have hmem:=ew ha;refine⟨fun h=> ?_,fun h=> ?_⟩
   ·subst h
    have hz:iG n 0=some a:=(aL n 0).trans ha;have hn2:=hn.2 ay;rw[Iw] at hn2;refine rC _ _ (ai mD ?_);simp only[pI,hz,aY,gu];refine⟨_,gR a (by have:=hs a hmem;omega),ai (c7 (by simp;try omega)) ?_⟩;rw[bh ay];exact hn2
   ·have hn2:=hn.2 ay
    rw[Iw] at hn2;refine rD _ _ _ _ (ai mD ?_);simp only[pI,aL,ha,aY,gu];refine⟨_,gR a (by have:=hs a hmem;omega),ai (c7 (by simp;try omega)) ?_⟩;rw[bh ay];rw[vt] at hn2;exact hn2
 exact key.1 rfl
theorem nW (n:List (List Key)) (hl:n.length≤1073741824) (hs: ∀s∈n,s.length≤1073741824):au C aW [dL n] (dL n) []:=by
 refine(FF _ _ ?_).run
 skip
 have key:((0:Nat)=0→aq C aW ah 4 0 (kZ (n.map bH)) (fun u st=>aN C aW ah u st fun r fs=>r=(dL n)∧fs=[]))∧(0<(0:Nat)→aq C aW ah 4 0 (jc ((0:Nat):Int) (n.map bH) ((n.take 0).map bH)) (fun u st=>aN C aW ah u st fun r fs=>r=(dL n)∧fs=[])):=by
  refine cK n (fun i=>(i=0→aq C aW ah 4 0 (kZ (n.map bH)) (fun u st=>aN C aW ah u st fun r fs=>r=(dL n)∧fs=[]))∧(0<i→aq C aW ah 4 0 (jc i (n.map bH) ((n.take i).map bH)) (fun u st=>aN C aW ah u st fun r fs=>r=(dL n)∧fs=[]))) ?_ ?_
  ·refine⟨fun h=> ?_,fun h=> ?_⟩
   ·have hnil:n=[]:=List.length_eq_zero_iff.1 h
    refine uV _ _ (aB (by simp[h]) (CO _ _ _ ⟨?_,by trivial⟩));simp[hnil]
   ·rw[tZ]
    exact uW _ _ _ _ (aB cY (CP _ _ _ _ _ iX))
  ·intro i a hi ha hd Iw hn
   have hmem:=ew ha;refine⟨fun h=> ?_,fun h=> ?_⟩
   ·subst h
    have hz:iG n 0=some a:=(aL n 0).trans ha;have hn2:=hn.2 ay;rw[Iw] at hn2;refine uV _ _ (ai mD ?_);simp only[pI,hz,aY,gu];have hsa:=hs a hmem;refine ai (by rw[show cQ (a.map bf)=true from gD _,c7 mD];rfl) (ai (c7 (by simp;try omega)) ?_);rw[bh ay];exact hn2
   ·have hn2:=hn.2 ay
    rw[Iw] at hn2;refine uW _ _ _ _ (ai mD ?_);simp only[pI,aL,ha,aY,gu];have hsa:=hs a hmem;refine ai (by rw[show cQ (a.map bf)=true from gD _,c7 mD];rfl) (ai (c7 (by simp;try omega)) ?_);rw[bh ay];rw[vt] at hn2;exact hn2
 exact key.1 rfl
theorem qH (t:Tree) (hl:t.ak.length≤1073741824∧t.nodes.length≤1073741824) (hs: ∀n∈t.nodes,n.length≤1073741824∧ ∀s∈n,s.length≤1073741824):au C aX [cr t] (cr t) []:=by
 refine(CQ _ _ _ ?_).run;refine⟨_,qG t.ak hl.1,?_⟩
 have key:((0:Nat)=0→aq C aX ah 4 0 (jG (t.nodes.map bD) (t.ak.map cA)) (fun u st=>aN C aX ah u st fun r fs=>r=(cr t)∧fs=[]))∧(0<(0:Nat)→aq C aX ah 4 0 (gV (t.nodes.map bD) ((0:Nat):Int) (t.ak.map cA) ((t.nodes.take 0).map bD)) (fun u st=>aN C aX ah u st fun r fs=>r=(cr t)∧fs=[])):=by
  refine cK t.nodes (fun i=>(i=0→aq C aX ah 4 0 (jG (t.nodes.map bD) (t.ak.map cA)) (fun u st=>aN C aX ah u st fun r fs=>r=(cr t)∧fs=[]))∧(0<i→aq C aX ah 4 0 (gV (t.nodes.map bD) i (t.ak.map cA) ((t.nodes.take i).map bD)) (fun u st=>aN C aX ah u st fun r fs=>r=(cr t)∧fs=[]))) ?_ ?_
  ·refine⟨fun h=> ?_,fun h=> ?_⟩
   ·have hnil:t.nodes=[]:=List.length_eq_zero_iff.1 h
    refine rj _ _ _ (aB (by simp[h]) (Av _ _ _ _ _ ⟨?_,by trivial⟩));simp[hnil]
   ·rw[tZ]
    exact rm _ _ _ _ _ (aB cY (Aw _ _ _ _ _ _ _ iX))
  ·intro i a hi ha hd Iw hn
   have hmem:=ew ha;refine⟨fun h=> ?_,fun h=> ?_⟩
   ·subst h
    have hz:iG t.nodes 0=some a:=(aL t.nodes 0).trans ha;have hn2:=hn.2 ay;rw[Iw] at hn2;refine rj _ _ _ (ai mD ?_);simp only[mq,hz,aY,gu];refine⟨_,mA a (hs a hmem).1 (hs a hmem).2,ai (c7 (by simp;try omega)) ?_⟩;rw[bh ay];exact hn2
   ·have hn2:=hn.2 ay
    rw[Iw] at hn2;refine rm _ _ _ _ _ (ai mD ?_);simp only[mq,aL,ha,aY,gu];refine⟨_,mA a (hs a hmem).1 (hs a hmem).2,ai (c7 (by simp;try omega)) ?_⟩;rw[bh ay];rw[vt] at hn2;exact hn2
 exact key.1 rfl
theorem uk (t:Tree) (hl:t.ak.length≤1073741824∧t.nodes.length≤1073741824) (hs: ∀n∈t.nodes,n.length≤1073741824∧ ∀s∈n,s.length≤1073741824):au C cm [cr t] (cr t) []:=by
 refine(FX _ _ _ ?_).run;refine ai (by rw[show cQ (t.ak.map cA)=true from jk _,c7 mD];rfl) ?_
 have key:((0:Nat)=0→aq C cm ah 4 0 (lA (t.ak.map cA) (t.nodes.map bD)) (fun u st=>aN C cm ah u st fun r fs=>r=(cr t)∧fs=[]))∧(0<(0:Nat)→aq C cm ah 4 0 (je ((0:Nat):Int) (t.ak.map cA) (t.nodes.map bD) ((t.nodes.take 0).map bD)) (fun u st=>aN C cm ah u st fun r fs=>r=(cr t)∧fs=[])):=by
  refine cK t.nodes (fun i=>(i=0→aq C cm ah 4 0 (lA (t.ak.map cA) (t.nodes.map bD)) (fun u st=>aN C cm ah u st fun r fs=>r=(cr t)∧fs=[]))∧(0<i→aq C cm ah 4 0 (je i (t.ak.map cA) (t.nodes.map bD) ((t.nodes.take i).map bD)) (fun u st=>aN C cm ah u st fun r fs=>r=(cr t)∧fs=[]))) ?_ ?_
  ·refine⟨fun h=> ?_,fun h=> ?_⟩
   ·have hnil:t.nodes=[]:=List.length_eq_zero_iff.1 h
    refine vi _ _ _ (aB (by simp[h]) (Dh _ _ _ _ ⟨?_,by trivial⟩));simp[hnil]
   ·rw[tZ]
    exact vj _ _ _ _ _ (aB cY (Di _ _ _ _ _ _ iX))
  ·intro i a hi ha hd Iw hn
   have hmem:=ew ha;refine⟨fun h=> ?_,fun h=> ?_⟩
   ·subst h
    have hz:iG t.nodes 0=some a:=(aL t.nodes 0).trans ha;have hn2:=hn.2 ay;rw[Iw] at hn2;refine vi _ _ _ (ai mD ?_);simp only[mq,hz,aY,gu];refine⟨_,nW a (hs a hmem).1 (hs a hmem).2,ai (c7 (by simp;try omega)) ?_⟩;rw[bh ay];exact hn2
   ·have hn2:=hn.2 ay
    rw[Iw] at hn2;refine vj _ _ _ _ _ (ai mD ?_);simp only[mq,aL,ha,aY,gu];refine⟨_,nW a (hs a hmem).1 (hs a hmem).2,ai (c7 (by simp;try omega)) ?_⟩;rw[bh ay];rw[vt] at hn2;exact hn2
 exact key.1 rfl
theorem qI {t:Tree} (h:bX t≤4194304):(t.ak.length≤1073741824∧t.nodes.length≤1073741824)∧ ∀n∈t.nodes,n.length≤1073741824∧ ∀s∈n,s.length≤1073741824:=by
 have e2:bX t=t.ak.length+(t.nodes.length+tot ax t.nodes):=rfl;refine⟨⟨by omega,by omega⟩,fun n hn=> ?_⟩;have h1:ax n≤tot ax t.nodes:=kW (w:=ax) hn;have h2:ax n=n.length+tot bu n:=rfl;refine⟨by omega,fun s hs=> ?_⟩;have h3:bu s≤tot bu n:=kW (w:=bu) hs;have h4:bu s=s.length:=rfl;omega
theorem BG (l:List Key) (hl:l.length≤1073741824):au C aD [cD l] (dL (newNode l)) []:=by
 refine(wT _ _ ?_).run;unfold newNode
 by_cases h:l.length=0
 ·exact ai (by simp[h]) ⟨by rw[bg h];rfl,by trivial⟩
 ·refine aB (by rw[cw,oc,eW];exact oh ay) ?_
  rw[show cQ (l.map bf)=true from gD _,c7 mD];exact⟨by rw[aR h];rfl,by trivial⟩
theorem Ab (n:List (List Key)) (hb:n.length≤1073741824) (hl:tot bu n≤1073741824):au C rT [dL n] (dL (mu n)) []:=by
 have h1:=bR n;exact(Dc _ _ ⟨_,(dG n hb hl _).2 rfl,_,BG (an n) ay,iX⟩).run
theorem Ac (t:Tree) (i:Int) (hl:bX t≤4194304):au C rV [cr t,vI i] (cr (sD t i)) []:=by
 have hN:=qI hl;have e2:bX t=t.ak.length+(t.nodes.length+tot ax t.nodes):=rfl;refine(CJ _ _ _ _ ⟨_,_,uk t hN.1 hN.2,_,EM _ _ _,?_⟩).run;unfold sD;rw[cw,show dh (Int.ofNat t.nodes.length) 1=(t.nodes.length:Int)-1 from eA mD]
 by_cases h1:0≤i∧i<t.nodes.length
 ·obtain⟨n,hn⟩:=lN h1.1 h1.2
  have hz:ax n≤tot ax t.nodes:=kW (w:=ax) (vV hn);have e1:ax n=n.length+tot bu n:=rfl;refine ai (by simp[vY];omega) ?_;simp only[mq,hn,aY,gu];refine⟨_,Ab n ay ay,?_⟩;simp only[LY]
  first|exact iX|exact⟨trivial,trivial⟩|trivial|simp
 ·rw[sC h1]
  exact aB (by simp[vY];omega) iX
theorem BH (l:List Key) (hl:l.length≤1073741824):au C bW [cD l] (dL (newNode l)) []:=by
 refine(wS _ _ ?_).run;unfold newNode
 by_cases h:l.length=0
 ·exact ai (by simp[h]) ⟨by rw[bg h];rfl,by trivial⟩
 ·refine aB (by rw[cw,oc,eW];exact oh ay) ?_
  exact⟨_,gR l ay,⟨by rw[aR h];rfl,by trivial⟩⟩
theorem Ae (n:List (List Key)) (hb:n.length≤1073741824) (hl:tot bu n≤1073741824):au C rS [dL n] (dL (mu n)) []:=by
 have h1:=bR n;exact(CF _ _ ⟨_,(eI n hb hl _).2 rfl,_,BH (an n) ay,iX⟩).run
theorem Af (t:Tree) (i:Int) (hl:bX t≤4194304):au C rU [cr t,vI i] (cr (sD t i)) []:=by
 have hN:=qI hl;have e2:bX t=t.ak.length+(t.nodes.length+tot ax t.nodes):=rfl;refine(De _ _ _ _ ⟨_,_,qH t hN.1 hN.2,_,yP _ _ _,?_⟩).run;unfold sD;rw[cw,show dh (Int.ofNat t.nodes.length) 1=(t.nodes.length:Int)-1 from eA mD]
 by_cases h1:0≤i∧i<t.nodes.length
 ·obtain⟨n,hn⟩:=lN h1.1 h1.2
  have hz:ax n≤tot ax t.nodes:=kW (w:=ax) (vV hn);have e1:ax n=n.length+tot bu n:=rfl;refine ai (by simp[vY];omega) ?_;simp only[mq,hn,aY,gu];refine⟨_,Ae n ay ay,?_⟩;simp only[LY]
  first|exact iX|exact⟨trivial,trivial⟩|trivial|simp
 ·rw[sC h1]
  exact aB (by simp[vY];omega) iX
theorem gT (l:List Key) (hl:l.length≤1073741824):au C aD [cD l] (dL (bG l)) []:=by
 refine(wT _ _ ?_).run;unfold bG
 by_cases h:l.length=0
 ·exact ai (by simp[h]) ⟨by rw[bg h];rfl,rfl⟩
 ·refine aB (by rw[cw,oc,eW];exact oh ay) ?_
  rw[show cQ (l.map bf)=true from gD _,c7 mD];exact⟨by rw[aR h];rfl,rfl⟩
theorem jD (l:List Key) (hl:l.length≤1073741824):au C bW [cD l] (dL (bG l)) []:=by
 refine(wS _ _ ?_).run;unfold bG
 by_cases h:l.length=0
 ·exact ai (by simp[h]) ⟨by rw[bg h];rfl,rfl⟩
 ·refine aB (by rw[cw,oc,eW];exact oh ay) ?_
  exact⟨_,gR l ay,⟨by rw[aR h];rfl,rfl⟩⟩
theorem qJ (n:List (List Key)) (k:Key) (hb:n.length≤1073740000) (hl:tot bu n≤1073740000):au C dF [dL n,yy k] (cD (bB n k)) []:=by
 have h1:=bR n;have h2:=fA (an n) k;exact(Dn _ _ _ _ _ _ _ ⟨_,(eI n ay ay _).2 rfl,_,kX (an n) k ay,_,xV (bY (an n) k) ay,iX⟩).run
theorem BI (n:List (List Key)) (k:Key) (hb:n.length≤1073740000) (hl:tot bu n≤1073740000):au C tN [dL n,yy k] (MV (bw n k)) []:=by
 have hs: ∀s∈n,s.length≤1073741824:=fun s hm=>by have:=kW (w:=bu) hm;unfold bu at this hl;omega
 have J9:=mA n ay hs;have Wk:=yC n k;have Wl:=yD n k
 have tail: ∀(X:List (List Key)) (Q:QV),X=eu n k→Q (MV (bw n k)) []→ ∃(b18:Bool),au C aZ ([TV.ag [TC.sub 1 (X.map bH)]]) (TV.c (iB b18)) []∧(aK b18 (Q (TV.tu [(1,[TC.sub 1 (X.map bH)]),(0,[iB true])]) ([])) (∃(l19:RR),au C dF ([TV.ag [TC.sub 1 (n.map bH)],yy k]) (TV.c (TC.sub 5 l19)) []∧(∃(l20:RR),au C bW ([TV.c (TC.sub 5 l19)]) (TV.ag [TC.sub 1 l20]) []∧(aK (dn 8 (Int.ofNat (List.length l19))) (∃(l21:RR),au C aJ ([TV.ag [TC.sub 1 (n.map bH)]]) (TV.ag [TC.sub 1 l21]) []∧(Q (TV.tu [(1,[TC.sub 1 l21]),(0,[iB false])]) ([]))) (∃(b22:Bool),au C aZ ([TV.ag [TC.sub 1 l20]]) (TV.c (iB b22)) []∧(aK (!b22) (∃(l23:RR),au C aJ ([TV.ag [TC.sub 1 (n.map bH)]]) (TV.ag [TC.sub 1 l23]) []∧(Q (TV.tu [(1,[TC.sub 1 l23]),(0,[iB false])]) ([]))) (Q (TV.tu [(1,[TC.sub 1 l20]),(0,[iB true])]) ([])))))))):=by
  intro X Q hX hQ;rw[←hX] at Wk Wl;have hok:au C aZ [dL X] (vB (cE X)) []:=nT X ay ay;have hkl:=iR n k;have hnl:=qA (bB n k);have hnt:=qB (bB n k);have SV:au C aZ [dL (bG (bB n k))] (vB (cE (bG (bB n k)))) []:=nT _ ay ay;refine⟨_,hok,?_⟩;unfold bw at hQ;rw[←hX] at hQ
  cases h1:cE X with
  |true=>
   rw[bg h1] at hQ;exact ai rfl hQ
  |false=>
   rw[aR (by rw[h1];simp)] at hQ;refine aB rfl ⟨_,qJ n k ay ay,_,jD (bB n k) ay,?_⟩
   by_cases h2:8<(bB n k).length
   ·rw[bg h2] at hQ
    exact ai jN ⟨_,J9,hQ⟩
   ·rw[aR h2] at hQ
    refine aB jN ⟨_,SV,?_⟩
    cases h3:cE (bG (bB n k)) with
    |true=>
     rw[bg h3] at hQ;exact aB rfl hQ
    |false=>
     rw[aR (by rw[h3];simp)] at hQ;exact ai rfl ⟨_,J9,hQ⟩
 refine(E5 _ _ _ _ _ _ _ ⟨_,J9,?_⟩).run
 (try dsimp only)
 rw[cw]
 cases kT:n[n.length-1]? with
 |none=>
  have h0:n.length=0:=Classical.byContradiction fun h=>by rw[aV ay] at kT;cases kT
  have hX:n++[[k]]=eu n k:=by unfold eu;rw[kT]
  refine aB (by rw[h0,eA cY];simp) ((ai (c7 jN) ?_));rw[show List.append (n.map bH) [[TC.sub 5 [[iI k.b,iI k.a,iI k.k,iI k.c,iI k.g]]]]=(n++[[k]]).map bH from by simp[bH,bf]];exact tail _ (fun r fs=>r=MV (bw n k)∧fs=[]) hX iX
 |some s=>
  have hlt:=(List.getElem?_eq_some_iff.1 kT).1
  have hsub:dh (Int.ofNat n.length) 1=((n.length-1:Nat):Int):=by rw[eA jN];simp;omega
  have hrow:rowAt (n.map bH) ((n.length-1:Nat):Int)=some [TC.sub 5 (s.map bf)]:=by rw[bA,aL,kT];rfl
  have Q4:=hs s (ew kT);have p9:setRow (n.map bH) ((n.length-1:Nat):Int) 0 [TC.sub 5 ((bY s k).map bf)]=(n.set (n.length-1) (bY s k)).map bH:=Eu (a:=s) (a':=bY s k) kT rfl
  have SW:List.append (n.map bH) [[TC.sub 5 [[iI k.b,iI k.a,iI k.k,iI k.c,iI k.g]]]]=(n++[[k]]).map bH:=by simp[bH,bf]
  have hfit:fits (Nat.succ n.length) 24=true:=c7 jN;rw[hsub];refine ai cY ⟨_,hrow,?_⟩
  have key: ∀Q:QV,Q (MV (bw n k)) []→ ∃(n8:Int) (n9:Int) (n10:Int) (n11:Int) (n12:Int) (b13:Bool),au C dO ([TV.c (TC.sub 5 (s.map bf)),TV.c (iI k.b),TV.c (iI k.a)]) (TV.tu [(1,[iI n8,iI n9,iI n10,iI n11,iI n12]),(0,[iB b13])]) []∧(aK b13 (∃(l14:RR),rowAt (n.map bH) ((n.length-1:Nat):Int)=some [TC.sub 5 l14]∧(∃(l15:RR),au C bZ ([TV.c (TC.sub 5 l14),yy k]) (TV.c (TC.sub 5 l15)) []∧(∃(l16:RR),rowAt (n.map bH) ((n.length-1:Nat):Int)=some [TC.sub 5 l16]∧(∃(l17:RR),rowAt (n.map bH) ((n.length-1:Nat):Int)=some [TC.sub 5 l17]∧(∃(b18:Bool),au C aZ ([TV.ag [TC.sub 1 (setRow (n.map bH) ((n.length-1:Nat):Int) 0 [TC.sub 5 l15])]]) (TV.c (iB b18)) []∧(aK b18 (Q (TV.tu [(1,[TC.sub 1 (setRow (n.map bH) ((n.length-1:Nat):Int) 0 [TC.sub 5 l15])]),(0,[iB true])]) ([])) (∃(l19:RR),au C dF ([TV.ag [TC.sub 1 (n.map bH)],yy k]) (TV.c (TC.sub 5 l19)) []∧(∃(l20:RR),au C bW ([TV.c (TC.sub 5 l19)]) (TV.ag [TC.sub 1 l20]) []∧(aK (dn 8 (Int.ofNat (List.length l19))) (∃(l21:RR),au C aJ ([TV.ag [TC.sub 1 (n.map bH)]]) (TV.ag [TC.sub 1 l21]) []∧(Q (TV.tu [(1,[TC.sub 1 l21]),(0,[iB false])]) ([]))) (∃(b22:Bool),au C aZ ([TV.ag [TC.sub 1 l20]]) (TV.c (iB b22)) []∧(aK (!b22) (∃(l23:RR),au C aJ ([TV.ag [TC.sub 1 (n.map bH)]]) (TV.ag [TC.sub 1 l23]) []∧(Q (TV.tu [(1,[TC.sub 1 l23]),(0,[iB false])]) ([]))) (Q (TV.tu [(1,[TC.sub 1 l20]),(0,[iB true])]) ([])))))))))))))
   (∃(l24:RR),rowAt (n.map bH) ((n.length-1:Nat):Int)=some [TC.sub 5 l24]∧(aK (dn (Int.ofNat (List.length l24)) 4) (∃(l25:RR),rowAt (n.map bH) ((n.length-1:Nat):Int)=some [TC.sub 5 l25]∧(∃(l26:RR),au C bZ ([TV.c (TC.sub 5 l25),yy k]) (TV.c (TC.sub 5 l26)) []∧(∃(l27:RR),rowAt (n.map bH) ((n.length-1:Nat):Int)=some [TC.sub 5 l27]∧(∃(l28:RR),rowAt (n.map bH) ((n.length-1:Nat):Int)=some [TC.sub 5 l28]∧(∃(b18:Bool),au C aZ ([TV.ag [TC.sub 1 (setRow (n.map bH) ((n.length-1:Nat):Int) 0 [TC.sub 5 l26])]]) (TV.c (iB b18)) []∧(aK b18 (Q (TV.tu [(1,[TC.sub 1 (setRow (n.map bH) ((n.length-1:Nat):Int) 0 [TC.sub 5 l26])]),(0,[iB true])]) ([])) (∃(l19:RR),au C dF ([TV.ag [TC.sub 1 (n.map bH)],yy k]) (TV.c (TC.sub 5 l19)) []∧(∃(l20:RR),au C bW ([TV.c (TC.sub 5 l19)]) (TV.ag [TC.sub 1 l20]) []∧(aK (dn 8 (Int.ofNat (List.length l19))) (∃(l21:RR),au C aJ ([TV.ag [TC.sub 1 (n.map bH)]]) (TV.ag [TC.sub 1 l21]) []∧(Q (TV.tu [(1,[TC.sub 1 l21]),(0,[iB false])]) ([]))) (∃(b22:Bool),au C aZ ([TV.ag [TC.sub 1 l20]]) (TV.c (iB b22)) []∧(aK (!b22) (∃(l23:RR),au C aJ ([TV.ag [TC.sub 1 (n.map bH)]]) (TV.ag [TC.sub 1 l23]) []∧(Q (TV.tu [(1,[TC.sub 1 l23]),(0,[iB false])]) ([]))) (Q (TV.tu [(1,[TC.sub 1 l20]),(0,[iB true])]) ([]))))))))))))) (aK (fits (Nat.succ (List.length n)) 24) (∃(b18:Bool),au C aZ ([TV.ag [TC.sub 1 (List.append (n.map bH) [[TC.sub 5 [[iI k.b,iI k.a,iI k.k,iI k.c,iI k.g]]]])]]) (TV.c (iB b18)) []∧(aK b18 (Q (TV.tu [(1,[TC.sub 1 (List.append (n.map bH) [[TC.sub 5 [[iI k.b,iI k.a,iI k.k,iI k.c,iI k.g]]]])]),(0,[iB true])]) ([])) (∃(l19:RR),au C dF ([TV.ag [TC.sub 1 (n.map bH)],yy k]) (TV.c (TC.sub 5 l19)) []∧(∃(l20:RR),au C bW ([TV.c (TC.sub 5 l19)]) (TV.ag [TC.sub 1 l20]) []∧(aK (dn 8 (Int.ofNat (List.length l19))) (∃(l21:RR),au C aJ ([TV.ag [TC.sub 1 (n.map bH)]]) (TV.ag [TC.sub 1 l21]) []∧(Q (TV.tu [(1,[TC.sub 1 l21]),(0,[iB false])]) ([]))) (∃(b22:Bool),au C aZ ([TV.ag [TC.sub 1 l20]]) (TV.c (iB b22)) []∧(aK (!b22) (∃(l23:RR),au C aJ ([TV.ag [TC.sub 1 (n.map bH)]]) (TV.ag [TC.sub 1 l23]) []∧(Q (TV.tu [(1,[TC.sub 1 l23]),(0,[iB false])]) ([]))) (Q (TV.tu [(1,[TC.sub 1 l20]),(0,[iB true])]) ([]))))))))) (False))))):=by
   intro Q hQ;refine⟨_,_,_,_,_,_,wE s k.b k.a Q4,?_⟩
   cases h1:(rQ s k.b k.a).2 with
   |true=>
    have hX:n.set (n.length-1) (bY s k)=eu n k:=by unfold eu yB;rw[kT];simp[h1]
    refine ai rfl ⟨_,hrow,_,kX s k Q4,_,hrow,_,hrow,?_⟩;rw[p9];exact tail _ _ hX hQ
   |false=>
    refine aB rfl ⟨_,hrow,?_⟩
    by_cases h2:s.length<4
    ·have hX:n.set (n.length-1) (bY s k)=eu n k:=by unfold eu yB;rw[kT];simp[h1,h2]
     refine ai jN ⟨_,hrow,_,kX s k Q4,_,hrow,_,hrow,?_⟩;rw[p9];exact tail _ _ hX hQ
    ·have hX:n++[[k]]=eu n k:=by unfold eu yB;rw[kT];simp[h1,h2]
     refine aB jN (ai hfit ?_);rw[SW];exact tail _ _ hX hQ
  exact⟨(MV (bw n k),[]),key (fun a b=>(a,b)=(MV (bw n k),([]:List TV))) rfl,key (fun a b=>(a,b)=(MV (bw n k),([]:List TV))) rfl,⟨rfl,rfl⟩⟩
theorem ng (n:List (List Key)) (k:Key) (hb:n.length≤1073740000) (hl:tot bu n≤1073740000):au C mw [dL n,yy k] (MV (bw n k)) []:=by
 have hs: ∀s∈n,s.length≤1073741824:=fun s hm=>by have:=kW (w:=bu) hm;unfold bu at this hl;omega
 have J9:=nW n ay hs;have Wk:=yC n k;have Wl:=yD n k
 have tail: ∀(X:List (List Key)) (Q:QV),X=eu n k→Q (MV (bw n k)) []→ ∃(b22:Bool),au C bn ([TV.ag [TC.sub 1 (X.map bH)]]) (TV.c (iB b22)) []∧(aK b22 (Q (TV.tu [(1,[TC.sub 1 (X.map bH)]),(0,[iB true])]) ([])) (∃(l23:RR),au C aI ([TV.ag [TC.sub 1 (n.map bH)]]) (TV.c (TC.sub 5 l23)) []∧(∃(l24:RR),au C bq ([TV.c (TC.sub 5 l23),yy k]) (TV.c (TC.sub 5 l24)) []∧(∃(l25:RR),au C cn ([TV.c (TC.sub 5 l24)]) (TV.c (TC.sub 5 l25)) []∧(aK (dn 8 (Int.ofNat (List.length l25))) (∃(l26:RR),au C aW ([TV.ag [TC.sub 1 (n.map bH)]]) (TV.ag [TC.sub 1 l26]) []∧(Q (TV.tu [(1,[TC.sub 1 l26]),(0,[iB false])]) ([]))) (∃(l27:RR),au C aD ([TV.c (TC.sub 5 l25)]) (TV.ag [TC.sub 1 l27]) []∧(∃(b28:Bool),au C bn ([TV.ag [TC.sub 1 l27]]) (TV.c (iB b28)) []∧(aK (!b28) (∃(l29:RR),au C aW ([TV.ag [TC.sub 1 (n.map bH)]]) (TV.ag [TC.sub 1 l29]) []∧(Q (TV.tu [(1,[TC.sub 1 l29]),(0,[iB false])]) ([]))) (∃(l30:RR),au C aD ([TV.c (TC.sub 5 l25)]) (TV.ag [TC.sub 1 l30]) []∧(Q (TV.tu [(1,[TC.sub 1 l30]),(0,[iB true])]) ([]))))))))))):=by
  intro X Q hX hQ;rw[←hX] at Wk Wl;have hok:au C bn [dL X] (vB (cE X)) []:=nS X ay ay;have hkl:=iR n k;have hnl:=qA (bB n k);have hnt:=qB (bB n k);have SV:au C bn [dL (bG (bB n k))] (vB (cE (bG (bB n k)))) []:=nS _ ay ay;refine⟨_,hok,?_⟩;unfold bw at hQ;rw[←hX] at hQ
  cases h1:cE X with
  |true=>
   rw[bg h1] at hQ;exact ai rfl hQ
  |false=>
   rw[aR (by rw[h1];simp)] at hQ;have g1:=bR n;have g2:=fA (an n) k;refine aB rfl ⟨_,(dG n ay ay _).2 rfl,_,gG (an n) k ay,_,rW (bY (an n) k) ay,?_⟩;change aK (dn 8 (Int.ofNat (List.length ((bB n k).map bf)))) _ _
   by_cases h2:8<(bB n k).length
   ·rw[bg h2] at hQ
    exact ai jN ⟨_,J9,hQ⟩
   ·rw[aR h2] at hQ
    refine aB jN ⟨_,gT (bB n k) ay,_,SV,?_⟩
    cases h3:cE (bG (bB n k)) with
    |true=>
     rw[bg h3] at hQ;exact aB rfl ⟨_,gT (bB n k) ay,hQ⟩
    |false=>
     rw[aR (by rw[h3];simp)] at hQ;exact ai rfl ⟨_,J9,hQ⟩
 refine(EU _ _ _ _ _ _ _ ⟨_,J9,?_⟩).run
 (try dsimp only)
 rw[cw]
 cases kT:n[n.length-1]? with
 |none=>
  have h0:n.length=0:=Classical.byContradiction fun h=>by rw[aV ay] at kT;cases kT
  have hX:n++[[k]]=eu n k:=by unfold eu;rw[kT]
  refine aB (by rw[h0,eA cY];simp) (aB (by rw[h0,eA cY];simp) (ai (c7 jN) ?_));rw[show List.append (n.map bH) [[TC.sub 5 [[iI k.b,iI k.a,iI k.k,iI k.c,iI k.g]]]]=(n++[[k]]).map bH from by simp[bH,bf]];exact tail _ (fun r fs=>r=MV (bw n k)∧fs=[]) hX iX
 |some s=>
  have hlt:=(List.getElem?_eq_some_iff.1 kT).1
  have hsub:dh (Int.ofNat n.length) 1=((n.length-1:Nat):Int):=by rw[eA jN];simp;omega
  have hrow:rowAt (n.map bH) ((n.length-1:Nat):Int)=some [TC.sub 5 (s.map bf)]:=by rw[bA,aL,kT];rfl
  have Q4:=hs s (ew kT);have p9:setRow (n.map bH) ((n.length-1:Nat):Int) 0 [TC.sub 5 ((bY s k).map bf)]=(n.set (n.length-1) (bY s k)).map bH:=Eu (a:=s) (a':=bY s k) kT rfl
  have SW:List.append (n.map bH) [[TC.sub 5 [[iI k.b,iI k.a,iI k.k,iI k.c,iI k.g]]]]=(n++[[k]]).map bH:=by simp[bH,bf]
  have hfit:fits (Nat.succ n.length) 24=true:=c7 jN;rw[hsub];refine ai cY ⟨_,hrow,_,hrow,_,_,_,_,_,_,wD s k.b k.a Q4,ai cY ⟨_,hrow,_,hrow,?_⟩⟩
  by_cases h2:s.length<4
  ·have hX:n.set (n.length-1) (bY s k)=eu n k:=by unfold eu yB;rw[kT];simp[h2]
   refine ai jN ⟨_,hrow,_,hrow,_,gG s k Q4,_,hrow,_,hrow,?_⟩;rw[p9];exact tail _ (fun r fs=>r=MV (bw n k)∧fs=[]) hX iX
  ·refine aB jN ?_
   cases h1:(rQ s k.b k.a).2 with
   |true=>
    have hX:n.set (n.length-1) (bY s k)=eu n k:=by unfold eu yB;rw[kT];simp[h1]
    refine ai rfl ⟨_,hrow,_,hrow,_,gG s k Q4,_,hrow,_,hrow,?_⟩;rw[p9];exact tail _ (fun r fs=>r=MV (bw n k)∧fs=[]) hX iX
   |false=>
    have hX:n++[[k]]=eu n k:=by unfold eu yB;rw[kT];simp[h1,h2]
    refine aB rfl (ai hfit ?_);rw[SW];exact tail _ (fun r fs=>r=MV (bw n k)∧fs=[]) hX iX
theorem pN (t:Tree) (i:Nat) (lw:List Int) (nd:List (List (List Key))) (h1:i+1≤t.ak.length) (h2:i+1≤t.nodes.length) (hl:t.ak.length≤1073741824) (hn:t.nodes.length≤1073741824) (Vb:lw.length≤1073741824) (Iu:nd.length≤1073741824):au C bV [cr t,vI (i:Int),Ex lw,OI nd] (cr (ia t i 1 lw nd)) []:=by
 have e1:av (t.ak.map cA) 0 (i:Int)=(t.ak.take i).map cA:=by rw[dB];rfl
 have e2:av (t.ak.map cA) ((i:Int)+1) (Int.ofNat (t.ak.map cA).length)=(t.ak.drop (i+1)).map cA:=by
  rw[dB,cw,show((i:Int)+1).toNat=i+1 from by omega,show(Int.ofNat t.ak.length).toNat=t.ak.length from rfl,tZ]
 have e3:av (t.nodes.map bD) 0 (i:Int)=(t.nodes.take i).map bD:=by rw[dB];rfl
 have ea:aH (i:Int) 1=(i:Int)+1:=bh ay
 have k1:(t.ak.take i).length≤t.ak.length:=by rw[e9];omega
 have k2:(t.ak.drop (i+1)).length≤t.ak.length:=by rw[jy];omega
 have k3:(t.nodes.take i).length≤t.nodes.length:=by rw[e9];omega
 have k4:(t.nodes.drop (i+1)).length≤t.nodes.length:=by rw[jy];omega
 have e4:av (t.nodes.map bD) ((i:Int)+1) (Int.ofNat (t.nodes.map bD).length)=(t.nodes.drop (i+1)).map bD:=by
  rw[dB,cw,show((i:Int)+1).toNat=i+1 from by omega,show(Int.ofNat t.nodes.length).toNat=t.nodes.length from rfl,tZ]
 refine(Ik _ _ _ _ _ _ ?_).run;rw[ea,e1,e2,e3,e4,ja,ja,ja,ja]
 refine ai jN (ai jN (ai (by rw[jk,c7 jN];rfl) (ai (by rw[jk,c7 (by simp only[cw,qe];omega)];rfl) (ai (by rw[jk,c7 (by simp only[cw,cT,qe];omega)];rfl)
  (ai jN (ai jN (ai (c7 jN) (ai (c7 (by simp only[cw,qe];omega)) (ai (c7 (by simp only[cw,cT,qe];omega)) ?_)))))))))
 exact iX
attribute [local semireducible] eM av in
theorem M3 {rows:RR} {i c:Nat} (hk:i+c≤rows.length):av (eM 1 rows 0 (i:Int)) ((i:Int)+(c:Int)) (Int.ofNat rows.length)=rows.drop (i+c):=by
 unfold av eM;rw[r7,show((i:Int)+(c:Int)).toNat=i+c from by omega,show(0:Int).toNat=0 from rfl,show(Int.ofNat rows.length).toNat=rows.length from rfl,List.take_zero,qc,Nat.sub_zero];rw[Q5 jN,List.drop_append,List.length_replicate,zd cY,qc,List.drop_drop]
 congr 1;omega
theorem mB (t:Tree) (i c:Nat) (lw:List Int) (nd:List (List (List Key))) (h1:i+c≤t.ak.length) (h2:i+c≤t.nodes.length) (hl:t.ak.length≤1073741824) (hn:t.nodes.length≤1073741824) (Vb:lw.length≤1073741824) (Iu:nd.length≤1073741824):au C e7 [cr t,vI (i:Int),vI (c:Int),Ex lw,OI nd] (cr (ia t i c lw nd)) []:=by
 have e1:av (t.ak.map cA) 0 (i:Int)=(t.ak.take i).map cA:=by rw[dB];rfl
 have e2:av (t.ak.map cA) ((i:Int)+(c:Int)) (Int.ofNat (t.ak.map cA).length)=(t.ak.drop (i+c)).map cA:=by
  rw[dB,cw,show((i:Int)+(c:Int)).toNat=i+c from by omega,show(Int.ofNat t.ak.length).toNat=t.ak.length from rfl,tZ]
 have e3:av (t.nodes.map bD) 0 (i:Int)=(t.nodes.take i).map bD:=by rw[dB];rfl
 have ea:aH (i:Int) (c:Int)=(i:Int)+(c:Int):=bh ay
 have k1:(t.ak.take i).length≤t.ak.length:=by rw[e9];omega
 have k2:(t.ak.drop (i+c)).length≤t.ak.length:=by rw[jy];omega
 have k3:(t.nodes.take i).length≤t.nodes.length:=by rw[e9];omega
 have k4:(t.nodes.drop (i+c)).length≤t.nodes.length:=by rw[jy];omega
 have e4:av (eM 1 (t.nodes.map bD) 0 (i:Int)) ((i:Int)+(c:Int)) (Int.ofNat (t.nodes.map bD).length)=(t.nodes.drop (i+c)).map bD:=by
  rw[M3 (by rw[cw];exact h2),DH]
 refine(CX _ _ _ _ _ _ _ ?_).run;rw[ea,e1,e2,e3,e4];refine ai jN ⟨_,qG (t.ak.take i) ay,?_⟩
 (try dsimp only)
 rw[ja,ja,ja,ja]
 refine ai jN (ai (by rw[jk,c7 (by simp only[cw,qe];omega)];rfl) (ai (by rw[jk,c7 (by simp only[cw,cT,qe];omega)];rfl)
  (ai jN (ai jN (ai (c7 jN) (ai (c7 (by simp only[cw,qe];omega)) (ai (c7 (by simp only[cw,cT,qe];omega)) ?_)))))))
 exact iX
def JX:Option Nat→Int
 |some i=>i
 |none=> -1
theorem um (t:Tree) (hn:t.nodes.length≤1073741824) (hz:tot ax t.nodes≤1073740000):au C eH [cr t] (vI (JX (g7 t))) []:=by
 refine(FI _ _ _ ?_).run
 have key: ∀(d i:Nat),i+d=t.nodes.length→kN t d i=g7 t→aq C eH aF 4 0 (ld (i:Int) (t.ak.map cA) (t.nodes.map bD)) (fun x st=>aN C eH aF x st fun r fs=>r=vI (JX (g7 t))∧fs=[]):=by
  intro d
  induction d with
  |zero=>
   intro i h he;have ea:aH (i:Int) 1=(i:Int)+1:=bh ay;refine uY _ _ _ _ ?_;rw[ea];exact aB jN (uZ _ _ _ _ _ ⟨by rw[←he];rfl,rfl⟩)
  |succ d ih=>
   intro i h he;have ea:aH (i:Int) 1=(i:Int)+1:=bh ay
   have ec:(i:Int)+1=((i+1:Nat):Int):=by omega
   unfold kN at he;refine uY _ _ _ _ ?_;rw[ea,ec]
   by_cases h1:i+1<t.nodes.length
   ·rw[bg h1] at he
    obtain⟨a,ha⟩: ∃a,t.nodes[i]?=some a:=⟨_,aV ay⟩;obtain⟨b,hb⟩: ∃b,t.nodes[i+1]?=some b:=⟨_,aV h1⟩;have za:a.length+tot bu a≤tot ax t.nodes:=gQ (w:=ax) ha;have zb:b.length+tot bu b≤tot ax t.nodes:=gQ (w:=ax) hb
    have ka:fj t i=an a:=by unfold fj;rw[ki,ha];rfl
    have kb:fj t (i+1)=an b:=by unfold fj;rw[ki,hb];rfl
    have la:=bR a;have lb:=bR b;rw[ka,kb] at he;refine ai jN ⟨_,by rw[bA,aL,ha];rfl,_,by rw[bA,aL,hb];rfl,_,(dG a ay ay _).2 rfl,_,(dG b ay ay _).2 rfl,?_⟩
    (try dsimp only)
    rw[cw,cw,show aH (Int.ofNat (an a).length) (Int.ofNat (an b).length)=((an a).length:Int)+(an b).length from bh jN]
    by_cases h2:(an a).length+(an b).length≤6
    ·rw[bg h2] at he
     exact ai jN (CT _ _ _ _ _ _ ⟨by rw[←he];rfl,rfl⟩)
    ·rw[aR h2] at he
     exact aB jN (ih (i+1) ay he)
   ·rw[aR h1] at he
    exact aB jN (uZ _ _ _ _ _ ⟨by rw[←he];rfl,rfl⟩)
 exact key t.nodes.length 0 ay rfl
theorem Cz (t0:Tree) (hw0:t0.ak.length=t0.nodes.length) (IC:tot ax t0.nodes+t0.nodes.length≤1073700000):au C aQ [cr t0] (cr (fM t0.nodes.length t0)) []:=by
 refine(F2 _ _ _ ⟨_,um t0 ay ay,?_⟩).run
 have key: ∀(m:Nat) (t:Tree),t.nodes.length=m→t.ak.length=t.nodes.length→tot ax t.nodes+t.nodes.length≤1073700000→fM m t=fM t0.nodes.length t0→aq C aQ aF 4 0 (jg (JX (g7 t)) (t.ak.map cA) (t.nodes.map bD)) (fun x st=>aN C aQ aF x st fun r fs=>r=cr (fM t0.nodes.length t0)∧fs=[]):=by
  intro m
  induction m with
  |zero=>
   intro t hm hw hz he
   have hp:g7 t=none:=by unfold g7;rw[hm];rfl
   rw[hp];exact nY _ _ _ _ (aB (by simp[JX]) (vm _ _ _ _ _ ⟨by rw[←he];rfl,rfl⟩))
  |succ m ih=>
   intro t hm hw hz he;rw[pJ] at he
   cases hp:g7 t with
   |none=>
    rw[hp] at he;have he:t=fM t0.nodes.length t0:=he;exact nY _ _ _ _ (aB (by simp[JX]) (vm _ _ _ _ _ ⟨by rw[←he],rfl⟩))
   |some i=>
   rw[hp] at he;have he:fM m (cF t i)=fM t0.nodes.length t0:=he;have hlt:=lQ hp;show aq C aQ aF 4 0 (jg (i:Int) (t.ak.map cA) (t.nodes.map bD)) _;obtain⟨a,ha⟩: ∃a,t.nodes[i]?=some a:=⟨_,aV ay⟩;obtain⟨b,hb⟩: ∃b,t.nodes[i+1]?=some b:=⟨_,aV hlt.1⟩;have za:a.length+tot bu a≤tot ax t.nodes:=gQ (w:=ax) ha;have zb:b.length+tot bu b≤tot ax t.nodes:=gQ (w:=ax) hb;have la:=bR a;have lb:=bR b;have h6:=hlt.2;rw[dV ha,dV hb] at h6
   have ea:aH (i:Int) 1=((i+1:Nat):Int):=by rw[bh ay];omega
   have eb:aH (i:Int) 2=((i+2:Nat):Int):=by rw[bh ay];omega
   have ra:rowAt (t.nodes.map bD) (i:Int)=some [TC.sub 1 (a.map bH)]:=by rw[bA,aL,ha];rfl
   have rb:rowAt (t.nodes.map bD) ((i+1:Nat):Int)=some [TC.sub 1 (b.map bH)]:=by rw[bA,aL,hb];rfl
   have c1:av (t.ak.map cA) 0 ((i+1:Nat):Int)=(t.ak.take (i+1)).map cA:=by rw[dB];rfl
   have c2:av (t.ak.map cA) ((i+2:Nat):Int) (Int.ofNat (t.ak.map cA).length)=(t.ak.drop (i+2)).map cA:=by
    rw[dB,cw,r7,show(Int.ofNat t.ak.length).toNat=t.ak.length from rfl,tZ]
   have c3:av (t.nodes.map bD) 0 (i:Int)=(t.nodes.take i).map bD:=by rw[dB];rfl
   have c4:av (t.nodes.map bD) ((i+2:Nat):Int) (Int.ofNat (t.nodes.map bD).length)=(t.nodes.drop (i+2)).map bD:=by
    rw[dB,cw,r7,show(Int.ofNat t.nodes.length).toNat=t.nodes.length from rfl,tZ]
   have hlo:i<t.ak.length:=by omega
   have eL:List.append ((t.ak.take (i+1)).map cA) ((t.ak.drop (i+2)).map cA)=(cF t i).ak.map cA:=by
    rw[ja];unfold cF ia;simp only[];rw[List.take_add_one,ki,aV hlo];simp
   have eN:List.append (List.append ((t.nodes.take i).map bD) [[TC.sub 1 ((bG (an a++an b)).map bH)]]) ((t.nodes.drop (i+2)).map bD)=(cF t i).nodes.map bD:=by
    rw[Jz,ja];unfold cF ia;simp only[];rw[dV ha,dV hb]
   have hsz:=wh hlt.1;have hjl:=oN hlt.1
   have Yv:(cF t i).ak.length+1=t.ak.length:=by
    have:=yH t i 2 [t.ak.getD i 0] [bG (fj t i++fj t (i+1))] ay;unfold cF;simp only[kG] at this;omega
   have k1:(t.ak.take (i+1)).length≤t.ak.length:=by rw[e9];omega
   have k2:(t.ak.drop (i+2)).length≤t.ak.length:=by rw[jy];omega
   have k3:(t.nodes.take i).length≤t.nodes.length:=by rw[e9];omega
   have k4:(t.nodes.drop (i+2)).length≤t.nodes.length:=by rw[jy];omega
   refine nY _ _ _ _ (ai cY ?_);rw[ea,eb];refine⟨_,ra,_,ra,_,rb,_,rb,_,(dG a ay ay _).2 rfl,_,(dG b ay ay _).2 rfl,?_⟩
   (try dsimp only)
   rw[ja,c1,c2,c3,c4]
   refine ai (by rw[gD,c7 (by simp only[cw,qe];omega)];rfl) (ai jN (ai jN (ai (by rw[jk,c7 (by simp only[cw,qe];omega)];rfl) (ai (by rw[jk,c7 (by simp only[cw,qe];omega)];rfl)
    (ai jN (ai jN (ai (c7 (by simp only[cw,qe];omega)) ⟨_,gT (an a++an b) (by rw[cT];omega),ai (c7 (by simp only[cw,Nat.succ_eq_add_one];omega)) ?_⟩)))))))
   rw[eL,eN];refine ai (c7 (by rw[Jz];simp only[cw,cT,kG,qe];omega)) ⟨_,um (cF t i) ay ay,?_⟩;exact ih (cF t i) ay ay ay he
 exact key t0.nodes.length t0 rfl hw0 IC rfl
theorem Ch (t u:Tree) (hw:t.ak.length=t.nodes.length) (hz:tot ax t.nodes+t.nodes.length≤1073700000) (E:g7 t=none→t=u)
 (N: ∀i,g7 t=some i→aq C ck aF 4 0 (fG ((0:Nat):Int) ((cF t i).ak.map cA) ((cF t i).nodes.map bD)) (fun x st=>aN C ck aF x st fun r fs=>r=cr u∧fs=[])):
 ∀d i,i+d=t.nodes.length→kN t d i=g7 t→aq C ck aF 4 0 (fG (i:Int) (t.ak.map cA) (t.nodes.map bD)) (fun x st=>aN C ck aF x st fun r fs=>r=cr u∧fs=[]):=by
 intro d
 induction d with
 |zero=>
  intro i h he;have ea:aH (i:Int) 1=(i:Int)+1:=bh ay;refine u9 _ _ _ _ ?_;rw[ea];exact aB jN (va _ _ _ _ _ ⟨by rw[E (by rw[←he];rfl)],rfl⟩)
 |succ d ih=>
  intro i h he;have ea:aH (i:Int) 1=(i:Int)+1:=bh ay
  have ec:(i:Int)+1=((i+1:Nat):Int):=by omega
  unfold kN at he;refine u9 _ _ _ _ ?_;rw[ea,ec]
  by_cases h1:i+1<t.nodes.length
  ·rw[bg h1] at he
   obtain⟨a,ha⟩: ∃a,t.nodes[i]?=some a:=⟨_,aV ay⟩;obtain⟨b,hb⟩: ∃b,t.nodes[i+1]?=some b:=⟨_,aV h1⟩;have za:a.length+tot bu a≤tot ax t.nodes:=gQ (w:=ax) ha;have zb:b.length+tot bu b≤tot ax t.nodes:=gQ (w:=ax) hb;have la:=bR a;have lb:=bR b;rw[dV ha,dV hb] at he
   have ra:rowAt (t.nodes.map bD) (i:Int)=some [TC.sub 1 (a.map bH)]:=by rw[bA,aL,ha];rfl
   have rb:rowAt (t.nodes.map bD) ((i+1:Nat):Int)=some [TC.sub 1 (b.map bH)]:=by rw[bA,aL,hb];rfl
   refine ai jN ⟨_,ra,_,ra,_,rb,_,rb,_,(eI a ay ay _).2 rfl,_,(eI b ay ay _).2 rfl,ai (by rw[gD,c7 (by simp only[cw,qe];omega)];rfl) ?_⟩
   (try dsimp only)
   rw[ja]
   by_cases h2:(an a).length+(an b).length≤6
   ·rw[bg h2] at he
    have hlo:i<t.ak.length:=by omega
    have Vb:rowAt (t.ak.map cA) (i:Int)=some [iI (t.ak.getD i 0)]:=by
     rw[bA,aL,ki,aV hlo];rfl
    have Tb:=jD (an a++an b) (by rw[cT];omega);have Vc:=mB t i 2 [t.ak.getD i 0] [bG (an a++an b)] ay ay ay ay cY cY
    have ej:ia t i 2 [t.ak.getD i 0] [bG (an a++an b)]=cF t i:=by unfold cF;rw[dV ha,dV hb]
    rw[ej] at Vc;have hN:=N i he.symm;rw[←show aH (-1) 1=((0:Nat):Int) from by rw[bh ay];rfl] at hN;exact ai (by simp[ku]<;>omega) ⟨_,Vb,_,Vb,_,Tb,_,_,Vc,⟨_,Tb,_,_,Vc,⟨_,_,Vc,rfl⟩,rfl⟩,hN⟩
   ·rw[aR h2] at he
    exact aB (by simp[ku]<;>omega) (ih (i+1) ay he)
  ·rw[aR h1] at he
   exact aB jN (va _ _ _ _ _ ⟨by rw[E he.symm],rfl⟩)
theorem CA (t0:Tree) (hw0:t0.ak.length=t0.nodes.length) (IC:tot ax t0.nodes+t0.nodes.length≤1073700000):au C ck [cr t0] (cr (fM t0.nodes.length t0)) []:=by
 refine(FQ _ _ _ ?_).run
 have key: ∀(m:Nat) (t:Tree),t.nodes.length=m→t.ak.length=t.nodes.length→tot ax t.nodes+t.nodes.length≤1073700000→aq C ck aF 4 0 (fG ((0:Nat):Int) (t.ak.map cA) (t.nodes.map bD)) (fun x st=>aN C ck aF x st fun r fs=>r=cr (fM m t)∧fs=[]):=by
  intro m
  induction m with
  |zero=>
   intro t hm hw hz;exact Ch t (fM 0 t) hw hz (fun _=>rfl) (fun i hi=>by have:=(lQ hi).1;omega) t.nodes.length 0 ay rfl
  |succ m ih=>
   intro t hm hw hz;refine Ch t (fM (m+1) t) hw hz (fun h=>(K0 h).symm) (fun i hi=> ?_) t.nodes.length 0 ay rfl;have h1:=oN (lQ hi).1;have h2:=wh (lQ hi).1;have:=ih (cF t i) ay (xQ (lQ hi).1 hw) ay;rw[pJ,hi];exact this
 exact key t0.nodes.length t0 rfl hw0 IC
theorem K6 {t:Tree} {i:Nat} {n:List (List Key)} (h1:i<t.ak.length) (h2:i<t.nodes.length):ia t i 1 [t.ak.getD i 0] [n]=⟨t.ak,t.nodes.set i n⟩:=by
 unfold ia;rw[List.set_eq_take_append_cons_drop,bg h2,ki,aV h1]
 have e:t.ak.take i++[t.ak[i]]++t.ak.drop (i+1)=t.ak:=by
  rw[tY,List.singleton_append,←vq h1,xH]
 simp only[Option.getD_some,e,tY,List.singleton_append]
theorem T2 {n:Nat} (h:n≤1073741824):dR .i64 (aH (Int.ofNat n) 1) 2=(((n+1)/2:Nat):Int):=by
 rw[bh mD];unfold dR;rw[Int.tdiv_eq_ediv_of_nonneg mD,show IntKind.wrap .i64 ((Int.ofNat n+1)/2)=(Int.ofNat n+1)/2 from IntWalk.i64_in _ mD];simp
theorem BJ (t:Tree) (k:Key) (hz:bX t≤4194304):au C tO [cr t,yy k] (sV (bk t k)) []:=by
 have hN:=qI hz;have J9:au C aX [cr t] (cr t) []:=qH t hN.1 hN.2;refine(E6 _ _ _ _ _ _ _ _ ⟨_,nV t ay,?_⟩).run
 cases h1:cN t with
 |false=>exact ai rfl ⟨_,_,J9,⟨by unfold bk;rw[aR (by rw[h1];simp)],rfl⟩⟩
 |true=>
 refine aB rfl ⟨_,(z5 _ _ _ _ _ _).2 rfl,?_⟩;change aK (!cH k) _ _
 cases h2:cH k with
 |false=>exact ai rfl ⟨_,_,J9,⟨by unfold bk;rw[aR (by rw[h2];simp)],rfl⟩⟩
 |true=>
 obtain⟨i,hi,J4⟩:=EE h1 h2;have hlen:=iU h1
 have hw:au C di [cr t,vI k.b,vI k.a] (vI (i:Int)) []:=by rw[←hi];exact nc t k.b k.a ay
 have hrow:rowAt (t.nodes.map bD) (i:Int)=some [TC.sub 1 (t.nodes[i].map bH)]:=by rw[bA,aL,aV J4];rfl
 have Ix:rowAt (t.ak.map cA) (i:Int)=some [iI (t.ak.getD i 0)]:=by
  rw[bA,aL,ki,aV ay];rfl
 have hg:t.nodes.getD i []=t.nodes[i]:=by rw[ki,aV J4];rfl
 have hok:=jW h1 (oe J4);have hsz:=jm hok;have hps:=v8 t.nodes[i] k;have Ye:=we t.nodes[i] k;have hkl:=iR t.nodes[i] k;have hnk:=bR t.nodes[i];obtain⟨SN,Is,Wb⟩:=JJ (k:=k) h1 J4
 have hR:bk t k=if cN (fM (eP t i k).nodes.length (eP t i k))=true then(fM (eP t i k).nodes.length (eP t i k),true) else(t,false):=by
  unfold bk;rw[bg ⟨h1,h2⟩,hi,r7]
 have fin: ∀Q:QV,Q (sV (bk t k)) []→ ∃(l39 l40:RR),au C ck [cr (eP t i k)] (.ag [.sub 1 l39,.sub 1 l40]) []∧(∃b:Bool,au C bK [.ag [.sub 1 l39,.sub 1 l40]] (vB b) []∧(aK (!b) (∃(l42 l43:RR),au C aX [cr t] (.ag [.sub 1 l42,.sub 1 l43]) []∧Q (.tu [(1,[.sub 1 l42,.sub 1 l43]),(0,[iB false])]) []) (Q (.tu [(1,[.sub 1 l39,.sub 1 l40]),(0,[iB true])]) []))):=by
  intro Q hQ;refine⟨_,_,CA (eP t i k) Is ay,_,nV _ ay,?_⟩;rw[hR] at hQ
  cases h3:cN (fM (eP t i k).nodes.length (eP t i k)) with
  |true=>rw[bg h3] at hQ;exact aB rfl hQ
  |false=>rw[aR (by rw[h3];simp)] at hQ;exact ai rfl ⟨_,_,J9,hQ⟩
 have np:=BI t.nodes[i] k ay ay;refine aB rfl ⟨_,hw,_,_,J9,_,hrow,_,hrow,?_⟩
 cases hp:(bw t.nodes[i] k).2 with
 |false=>
  have hno:=(yG hok h2 hp).1
  have cno:(!(bw t.nodes[i] k).2)=true:=by rw[hp];rfl
  obtain⟨ks,hks⟩: ∃ks,ks=bB t.nodes[i] k:=⟨_,rfl⟩;rw[←hks] at hno hkl;have hh:=HL hno;obtain⟨h,RK⟩: ∃h,h=(ks.length+1)/2:=⟨_,rfl⟩
  have hq:dR .i64 (aH (Int.ofNat (List.length (ks.map bf))) 1) 2=(h:Int):=by rw[cw,T2 ay,RK]
  have hkk:rowAt (ks.map bf) (h:Int)=some [iI (ks.getD h dw).b,iI (ks.getD h dw).a,iI (ks.getD h dw).k,iI (ks.getD h dw).c,iI (ks.getD h dw).g]:=by
   rw[bA,aL,ki,aV ay];rfl
  have ep:eP t i k=ia t i 1 [t.ak.getD i 0,bM (ks.getD h dw).b (ks.getD h dw).a] [bG (ks.take h),bG (ks.drop h)]:=by
   unfold eP;rw[hg,aR (by rw[hp];simp),←hks,←RK]
  have rp:=mB t i 1 [t.ak.getD i 0,bM (ks.getD h dw).b (ks.getD h dw).a] [bG (ks.take h),bG (ks.drop h)] ay ay ay ay cY cY;rw[←ep] at rp
  have e1:av (ks.map bf) 0 (h:Int)=(ks.take h).map bf:=by rw[dB];rfl
  have e2:av (ks.map bf) (h:Int) (Int.ofNat (List.length (ks.map bf)))=(ks.drop h).map bf:=by
   rw[dB,cw,r7,show(Int.ofNat ks.length).toNat=ks.length from rfl,tZ]
  have nn1:au C bW [.c (.sub 5 (av (ks.map bf) 0 (h:Int)))] (dL (bG (ks.take h))) []:=by rw[e1];exact jD _ (by rw[e9];omega)
  have nn2:au C bW [.c (.sub 5 (av (ks.map bf) (h:Int) (Int.ofNat (List.length (ks.map bf)))))] (dL (bG (ks.drop h))) []:=by rw[e2];exact jD _ (by rw[jy];omega)
  have c1:fq 0 (h:Int) (Int.ofNat (List.length (ks.map bf)))=true:=by rw[zR];simp;omega
  have c2:fq (h:Int) (Int.ofNat (List.length (ks.map bf))) (Int.ofNat (List.length (ks.map bf)))=true:=by rw[zR];simp;omega
  have kw:au C dF [dL t.nodes[i],yy k] (cD ks) []:=by
   rw[hks];exact qJ t.nodes[i] k ay ay
  clear hks RK hR
  repeat' first
   |refine⟨_,hrow,?_⟩
   |refine⟨_,Ix,?_⟩
   |refine⟨_,_,np,?_⟩
   |refine ai cno ?_
   |refine⟨_,kw,?_⟩
   |refine aB (by rw[eW];rfl) ?_
   |rw[hq]
   |refine⟨_,_,_,_,_,hkk,?_⟩
   |refine ai c1 ?_
   |refine ai c2 ?_
   |refine⟨_,(nu _ _ _).2 rfl,?_⟩
   |refine⟨_,nn1,?_⟩
   |refine⟨_,nn2,?_⟩
   |refine⟨_,_,rp,?_⟩
   |refine⟨(sV (bk t k),([]:List TV)),?_,?_,rfl⟩
   |refine⟨(sV (bk t k),([]:List TV)),?_,?_,iX⟩
   |exact fin (fun a b=>(a,b)=(sV (bk t k),([]:List TV))) rfl
   |exact fin (fun r fs=>r=sV (bk t k)∧fs=[]) iX
 |true=>
  have cno:(!(bw t.nodes[i] k).2)=false:=by rw[hp];rfl
  by_cases hc:0<i∧(an (bw t.nodes[i] k).1).length=0
  ·have ci:dn 0 (i:Int)=true:=by rw[kr];simp;omega
   have nk:=(eI (bw t.nodes[i] k).1 ay ay _).2 rfl
   have cl:fJ (Int.ofNat (List.length ((an (bw t.nodes[i] k).1).map bf))) 0=true:=by rw[eW,cw,hc.2];rfl
   have ep:eP t i k=ia t i 1 [] []:=by unfold eP;rw[hg,bg hp,bg hc]
   have rp:=mB t i 1 [] [] ay ay ay ay cY cY;rw[←ep] at rp;clear hR
   repeat' first
   |refine⟨_,hrow,?_⟩
   |refine⟨_,Ix,?_⟩
   |refine⟨_,_,np,?_⟩
   |refine aB cno ?_
   |refine ai ci ?_
   |refine⟨_,nk,?_⟩
   |refine ai cl ?_
   |refine⟨_,_,rp,?_⟩
   |refine⟨(sV (bk t k),([]:List TV)),?_,?_,rfl⟩
   |refine⟨(sV (bk t k),([]:List TV)),?_,?_,iX⟩
   |exact fin (fun a b=>(a,b)=(sV (bk t k),([]:List TV))) rfl
   |exact fin (fun r fs=>r=sV (bk t k)∧fs=[]) iX
  ·have eset:eP t i k=⟨t.ak,t.nodes.set i (bw t.nodes[i] k).1⟩:=by
    unfold eP;rw[hg,bg hp,aR hc,K6 ay J4]
   have es:setRow (t.nodes.map bD) (i:Int) 0 [TC.sub 1 ((bw t.nodes[i] k).1.map bH)]=(t.nodes.set i (bw t.nodes[i] k).1).map bD:=nF (a:=t.nodes[i]) (by rw[aL,aV J4]) rfl;clear hR
   by_cases U0:0<i
   ·have ci:dn 0 (i:Int)=true:=by rw[kr];simp;omega
    have nk:=(eI (bw t.nodes[i] k).1 ay ay _).2 rfl
    have cl:fJ (Int.ofNat (List.length ((an (bw t.nodes[i] k).1).map bf))) 0=false:=by
     rw[eW,cw];exact oh fun e=>hc ⟨U0,by have e:((an (bw t.nodes[i] k).1).length:Int)=0:=e;omega⟩
    repeat' first
   |refine⟨_,hrow,?_⟩
   |refine⟨_,Ix,?_⟩
   |refine⟨_,_,np,?_⟩
   |refine aB cno ?_
   |refine ai ci ?_
   |refine⟨_,nk,?_⟩
   |refine aB cl ?_
   |refine⟨(sV (bk t k),([]:List TV)),?_,?_,rfl⟩
   |refine⟨(sV (bk t k),([]:List TV)),?_,?_,iX⟩
   |exact fin (fun a b=>(a,b)=(sV (bk t k),([]:List TV))) rfl
   |exact fin (fun r fs=>r=sV (bk t k)∧fs=[]) iX
   |(rw[es];rw[eset] at fin;exact fin (fun a b=>(a,b)=(sV (bk t k),([]:List TV))) rfl)
   |(rw[es];rw[eset] at fin;exact fin (fun r fs=>r=sV (bk t k)∧fs=[]) iX)
   ·have ci:dn 0 (i:Int)=false:=by rw[kr];simp;omega
    repeat' first
   |refine⟨_,hrow,?_⟩
   |refine⟨_,Ix,?_⟩
   |refine⟨_,_,np,?_⟩
   |refine aB cno ?_
   |refine aB ci ?_
   |refine⟨(sV (bk t k),([]:List TV)),?_,?_,rfl⟩
   |refine⟨(sV (bk t k),([]:List TV)),?_,?_,iX⟩
   |exact fin (fun a b=>(a,b)=(sV (bk t k),([]:List TV))) rfl
   |exact fin (fun r fs=>r=sV (bk t k)∧fs=[]) iX
   |(rw[es];rw[eset] at fin;exact fin (fun a b=>(a,b)=(sV (bk t k),([]:List TV))) rfl)
   |(rw[es];rw[eset] at fin;exact fin (fun r fs=>r=sV (bk t k)∧fs=[]) iX)
theorem sH (t:Tree) (k:Key) (hz:bX t≤4194304) (hroom:cN t=true→cH k=true→(ff (bY (aA t) k)).length≤60):au C oP [cr t,yy k] (sV (bk t k)) []:=by
 have hN:=qI hz;have J9:au C cm [cr t] (cr t) []:=uk t hN.1 hN.2;refine(Fe _ _ _ _ _ _ _ _ ⟨_,_,J9,_,nU t ay,?_⟩).run
 cases h1:cN t with
 |false=>exact ai rfl ⟨by unfold bk;rw[aR (by rw[h1];simp)],rfl⟩
 |true=>
 refine aB rfl ⟨_,(z6 _ _ _ _ _ _).2 rfl,?_⟩;change aK (!cH k) _ _
 cases h2:cH k with
 |false=>exact ai rfl ⟨by unfold bk;rw[aR (by rw[h2];simp)],rfl⟩
 |true=>
 obtain⟨i,hi,J4⟩:=EE h1 h2;have hlen:=iU h1
 have hw:au C cS [cr t,vI k.b,vI k.a] (vI (i:Int)) []:=by rw[←hi];exact m9 t k.b k.a ay
 have hrow:rowAt (t.nodes.map bD) (i:Int)=some [TC.sub 1 (t.nodes[i].map bH)]:=by rw[bA,aL,aV J4];rfl
 have Ix:rowAt (t.ak.map cA) (i:Int)=some [iI (t.ak.getD i 0)]:=by
  rw[bA,aL,ki,aV ay];rfl
 have hg:t.nodes.getD i []=t.nodes[i]:=by rw[ki,aV J4];rfl
 have hok:=jW h1 (oe J4);have hsz:=jm hok;have hps:=v8 t.nodes[i] k;have Ye:=we t.nodes[i] k;have hkl:=iR t.nodes[i] k;have hnk:=bR t.nodes[i];obtain⟨SN,Is,Wb⟩:=JJ (k:=k) h1 J4
 have hR:bk t k=if cN (fM (eP t i k).nodes.length (eP t i k))=true then(fM (eP t i k).nodes.length (eP t i k),true) else(t,false):=by
  unfold bk;rw[bg ⟨h1,h2⟩,hi,r7]
 have fin: ∀Q:QV,Q (sV (bk t k)) []→ ∃(l39 l40:RR),au C aQ [cr (eP t i k)] (.ag [.sub 1 l39,.sub 1 l40]) []∧(∃b:Bool,au C aE [.ag [.sub 1 l39,.sub 1 l40]] (vB b) []∧(aK (!b) (False) (Q (.tu [(1,[.sub 1 l39,.sub 1 l40]),(0,[iB true])]) []))):=by
  intro Q hQ;have h3:=(EI h1 h2).2.2 (hroom h1 h2);rw[hi,r7] at h3;refine⟨_,_,Cz (eP t i k) Is ay,_,nU _ ay,?_⟩;rw[hR,bg h3] at hQ;exact aB (by rw[h3];rfl) hQ
 have np:=ng t.nodes[i] k ay ay;have hx:=pN t i [t.ak.getD i 0] [(bw t.nodes[i] k).1] ay ay ay ay cY cY;refine aB rfl ⟨_,hw,_,hrow,?_⟩
 cases hp:(bw t.nodes[i] k).2 with
 |false=>
  have hno:=(yG hok h2 hp).1
  have cno:(!(bw t.nodes[i] k).2)=true:=by rw[hp];rfl
  obtain⟨ks,hks⟩: ∃ks,ks=bB t.nodes[i] k:=⟨_,rfl⟩;rw[←hks] at hno hkl;have hh:=HL hno;obtain⟨h,RK⟩: ∃h,h=(ks.length+1)/2:=⟨_,rfl⟩
  have hq:dR .i64 (aH (Int.ofNat (List.length (ks.map bf))) 1) 2=(h:Int):=by rw[cw,T2 ay,RK]
  have hkk:rowAt (ks.map bf) (h:Int)=some [iI (ks.getD h dw).b,iI (ks.getD h dw).a,iI (ks.getD h dw).k,iI (ks.getD h dw).c,iI (ks.getD h dw).g]:=by
   rw[bA,aL,ki,aV ay];rfl
  have ep:eP t i k=ia t i 1 [t.ak.getD i 0,bM (ks.getD h dw).b (ks.getD h dw).a] [bG (ks.take h),bG (ks.drop h)]:=by
   unfold eP;rw[hg,aR (by rw[hp];simp),←hks,←RK]
  have rp:=pN t i [t.ak.getD i 0,bM (ks.getD h dw).b (ks.getD h dw).a] [bG (ks.take h),bG (ks.drop h)] ay ay ay ay cY cY;rw[←ep] at rp
  have e1:av (ks.map bf) 0 (h:Int)=(ks.take h).map bf:=by rw[dB];rfl
  have e2:av (ks.map bf) (h:Int) (Int.ofNat (List.length (ks.map bf)))=(ks.drop h).map bf:=by
   rw[dB,cw,r7,show(Int.ofNat ks.length).toNat=ks.length from rfl,tZ]
  have nn1:au C aD [.c (.sub 5 (av (ks.map bf) 0 (h:Int)))] (dL (bG (ks.take h))) []:=by rw[e1];exact gT _ (by rw[e9];omega)
  have nn2:au C aD [.c (.sub 5 (av (ks.map bf) (h:Int) (Int.ofNat (List.length (ks.map bf)))))] (dL (bG (ks.drop h))) []:=by rw[e2];exact gT _ (by rw[jy];omega)
  have c1:fq 0 (h:Int) (Int.ofNat (List.length (ks.map bf)))=true:=by rw[zR];simp;omega
  have c2:fq (h:Int) (Int.ofNat (List.length (ks.map bf))) (Int.ofNat (List.length (ks.map bf)))=true:=by rw[zR];simp;omega
  have kw:au C cn [cD (bY (an t.nodes[i]) k)] (cD ks) []:=by
   rw[hks];exact rW (bY (an t.nodes[i]) k) (by have:=fA (an t.nodes[i]) k;omega)
  clear hks RK hR
  repeat' first
   |refine⟨_,hrow,?_⟩
   |refine⟨_,Ix,?_⟩
   |refine⟨_,_,np,?_⟩
   |refine⟨_,_,hx,?_⟩
   |refine ai cno ?_
   |refine⟨_,kw,?_⟩
   |refine⟨_,(dG t.nodes[i] ay ay _).2 rfl,?_⟩
   |refine⟨_,gG (an t.nodes[i]) k ay,?_⟩
   |refine aB (by rw[eW];rfl) ?_
   |rw[hq]
   |refine⟨_,_,_,_,_,hkk,?_⟩
   |refine ai c1 ?_
   |refine ai c2 ?_
   |refine⟨_,(xW _ _ _ _ _ _).2 rfl,?_⟩
   |refine⟨_,nn1,?_⟩
   |refine⟨_,nn2,?_⟩
   |refine⟨_,_,rp,?_⟩
   |refine⟨(sV (bk t k),([]:List TV)),?_,?_,rfl⟩
   |refine⟨(sV (bk t k),([]:List TV)),?_,?_,iX⟩
   |exact fin (fun a b=>(a,b)=(sV (bk t k),([]:List TV))) rfl
   |exact fin (fun r fs=>r=sV (bk t k)∧fs=[]) iX
 |true=>
  have cno:(!(bw t.nodes[i] k).2)=false:=by rw[hp];rfl
  by_cases hc:0<i∧(an (bw t.nodes[i] k).1).length=0
  ·have ci:dn 0 (i:Int)=true:=by rw[kr];simp;omega
   have nk:=(dG (bw t.nodes[i] k).1 ay ay _).2 rfl
   have cl:fJ (Int.ofNat (List.length ((an (bw t.nodes[i] k).1).map bf))) 0=true:=by rw[eW,cw,hc.2];rfl
   have ep:eP t i k=ia t i 1 [] []:=by unfold eP;rw[hg,bg hp,bg hc]
   have rp:=pN t i [] [] ay ay ay ay cY cY;rw[←ep] at rp;clear hR
   repeat' first
   |refine⟨_,hrow,?_⟩
   |refine⟨_,Ix,?_⟩
   |refine⟨_,_,np,?_⟩
   |refine⟨_,_,hx,?_⟩
   |refine aB cno ?_
   |refine ai ci ?_
   |refine⟨_,nk,?_⟩
   |refine ai cl ?_
   |refine⟨_,_,rp,?_⟩
   |refine⟨(sV (bk t k),([]:List TV)),?_,?_,rfl⟩
   |refine⟨(sV (bk t k),([]:List TV)),?_,?_,iX⟩
   |exact fin (fun a b=>(a,b)=(sV (bk t k),([]:List TV))) rfl
   |exact fin (fun r fs=>r=sV (bk t k)∧fs=[]) iX
  ·have ep:ia t i 1 [t.ak.getD i 0] [(bw t.nodes[i] k).1]=eP t i k:=by
    unfold eP;rw[hg,bg hp,aR hc]
   rw[ep] at hx;clear hR
   by_cases U0:0<i
   ·have ci:dn 0 (i:Int)=true:=by rw[kr];simp;omega
    have nk:=(dG (bw t.nodes[i] k).1 ay ay _).2 rfl
    have cl:fJ (Int.ofNat (List.length ((an (bw t.nodes[i] k).1).map bf))) 0=false:=by
     rw[eW,cw];exact oh fun e=>hc ⟨U0,by have e:((an (bw t.nodes[i] k).1).length:Int)=0:=e;omega⟩
    repeat' first
   |refine⟨_,hrow,?_⟩
   |refine⟨_,Ix,?_⟩
   |refine⟨_,_,np,?_⟩
   |refine⟨_,_,hx,?_⟩
   |refine aB cno ?_
   |refine ai ci ?_
   |refine⟨_,nk,?_⟩
   |refine aB cl ?_
   |refine⟨(sV (bk t k),([]:List TV)),?_,?_,rfl⟩
   |refine⟨(sV (bk t k),([]:List TV)),?_,?_,iX⟩
   |exact fin (fun a b=>(a,b)=(sV (bk t k),([]:List TV))) rfl
   |exact fin (fun r fs=>r=sV (bk t k)∧fs=[]) iX
   ·have ci:dn 0 (i:Int)=false:=by rw[kr];simp;omega
    repeat' first
   |refine⟨_,hrow,?_⟩
   |refine⟨_,Ix,?_⟩
   |refine⟨_,_,np,?_⟩
   |refine⟨_,_,hx,?_⟩
   |refine aB cno ?_
   |refine aB ci ?_
   |refine⟨(sV (bk t k),([]:List TV)),?_,?_,rfl⟩
   |refine⟨(sV (bk t k),([]:List TV)),?_,?_,iX⟩
   |exact fin (fun a b=>(a,b)=(sV (bk t k),([]:List TV))) rfl
   |exact fin (fun r fs=>r=sV (bk t k)∧fs=[]) iX
theorem Ag (b:List Int) (hb:b.length≤1048576):bL C ee [pH b] (fun r fs=>fs=[]∧ ∃h,r=oL b 0 h):=by
 refine Ic _ _ ?_
 have key: ∀(d i:Nat) (h:Int),i+d=4000→aq C ee ah 4 0 (mC (b.map hJ) h (i:Int)) (fun x st=>aN C ee ah x st fun r fs=>fs=[]∧ ∃h,r=oL b 0 h):=by
  intro d
  induction d with
  |zero=>
   intro i h hd;refine wV _ _ _ _ ?_
   by_cases h1:(i:Int)<(b.length:Int)
   ·exact ai jN (aB jN (E7 _ _ _ _ ⟨rfl,_,rfl⟩))
   ·exact aB jN (wW _ _ _ _ ⟨rfl,_,rfl⟩)
  |succ d ih=>
   intro i h hd;refine wV _ _ _ _ ?_
   by_cases h1:(i:Int)<(b.length:Int)
   ·refine ai jN (ai jN ⟨b[i]'ay,by rw[bA,aL,aV ay];rfl,?_⟩)
    rw[bh (a:=(i:Int)) ay];exact ih (i+1) _ ay
   ·exact aB jN (wW _ _ _ _ ⟨rfl,_,rfl⟩)
 exact key 4000 0 _ rfl
theorem Ah (b:List Int) (i h:Int) (hi:0≤i) (hb:b.length≤1048576):bL C lU [oL b i h] (Dr b fun r=> ∃x,r=vI x∧0≤x∧x≤255):=by
 refine FY _ _ _ _ ?_
 by_cases h1:i<(b.length:Int)
 ·obtain⟨x,hx⟩:=lN hi h1
  refine ai jN ⟨x,by rw[bA,hx];rfl,aH i 1,_,?_,rfl,_,rfl,OK _⟩;rw[bh ay];omega
 ·exact aB jN ⟨i,_,hi,rfl,_,rfl,OK _⟩
theorem dK (b:List Int) (i h:Int) (hi:0≤i) (hb:b.length≤1048576) (n:Int) (hn:n≤16777216):bL C bT [oL b i h,vI n] (Dr b fun r=> ∃x,r=vI x∧0≤x∧(0<n→x<n)):=by
 refine Fa _ _ _ _ _ ?_
 by_cases h0:n≤0
 ·exact ai jN ⟨i,h,hi,rfl,0,rfl,Int.le_refl _,fun h=>by omega⟩
 refine aB jN ?_
 by_cases h1:n≤256
 ·obtain⟨_,_,hr,i1,AO,hi1,rfl,x,rfl,x0,x1⟩:=Ah b i h hi hb
  refine ai jN ⟨x,_,i1,AO,hr,aB jN ⟨i1,AO,hi1,rfl,_,rfl,?_⟩⟩;rw[LS];have:=JC x0 (show 0<n by omega);exact⟨this.1,fun _=>this.2⟩
 ·obtain⟨_,_,hr,i1,AO,hi1,rfl,x,rfl,x0,x1⟩:=Ah b i h hi hb
  obtain⟨_,_,GV,i2,Ml,hi2,rfl,y,rfl,y0,y1⟩:=Ah b i1 AO hi1 hb;obtain⟨_,_,Wm,i3,Pz,AR,rfl,z,rfl,z0,z1⟩:=Ah b i2 Ml hi2 hb;refine aB jN ⟨x,_,i1,AO,hr,y,_,i2,Ml,GV,z,_,i3,Pz,Wm,aB jN ⟨i3,Pz,AR,rfl,_,rfl,?_⟩⟩;have e1:yx x 65536=x*65536:=HH ay;have e2:yx y 256=y*256:=HH ay;rw[LS,e1,e2,bh (a:=x*65536) ay,bh ay];have:=JC (show 0≤x*65536+y*256+z by omega) (show 0<n by omega);exact⟨this.1,fun _=>this.2⟩
theorem O6 (b:List Int) (i h:Int) (hi:0≤i) (hb:b.length≤1048576) (n:Int) (hn:n≤16777216):bL C wA [oL b i h,vI n] (Dr b fun r=> ∃x,r=vB x):=by
 obtain⟨_,_,hr,i1,AO,hi1,rfl,x,rfl,x0,x1⟩:=dK b i h hi hb n hn;exact FG _ _ _ _ _ ⟨x,_,i1,AO,hr,i1,AO,hi1,rfl,_,rfl⟩
theorem oS (b:List Int) (i h:Int) (hi:0≤i) (hb:b.length≤1048576) (l:List Int) (h0:0<l.length) (hl:l.length≤1000):bL C fD [oL b i h,Ex l] (Dr b fun r=> ∃x,r=vI x∧x∈l):=by
 obtain⟨_,_,hr,i1,AO,hi1,rfl,x,rfl,x0,x1⟩:=dK b i h hi hb (l.length:Int) ay;have:=x1 ay;obtain⟨y,hy⟩:=lN x0 this;refine Ij _ _ _ _ _ ⟨x,_,i1,AO,by rw[cw];exact hr,y,by rw[bA,hy];rfl,i1,AO,hi1,rfl,y,rfl,vV hy⟩
theorem QF (b:List Int):au C EL [pH b] (vB (decide (1048576<b.length))) []:=by
 refine(K9 _ _ ⟨?_,by trivial⟩).run;simp<;>omega
theorem Sw {l:List Int} {x lo hi:Int} (h:x∈l) (ha:l.all (fun y=>decide (lo≤y∧y≤hi))=true):lo≤x∧x≤hi:=uc (List.all_eq_true.1 ha x h)
attribute [local semireducible] dR in
theorem T3 {a:Int} (h0:0≤a) (h1:a≤9223372036854775807):dR .i64 a 12=a/12:=by
 show IntKind.i64.wrap (a.tdiv 12)=_;rw[Int.tdiv_eq_ediv_of_nonneg h0];exact IntWalk.i64_in _ ay
theorem Ai (b:List Int) (n:Int) (h3:3≤n) (hn:n≤1000) (hb:b.length≤1048576): ∃x,3≤x∧x≤n∧au C lT [pH b,vI n] (vI x) []:=by
 have e:aH 3 (dR .i64 (Int.ofNat (b.map hJ).length) 12)=3+(b.length:Int)/12:=by
  rw[T3 jN jN,bh jN];simp
 by_cases h:n<3+(b.length:Int)/12
 ·refine⟨n,h3,Int.le_refl _,(x9 _ _ _ (aB cY ?_)).run⟩
  rw[e];exact ai (by simpa using h) iX
 ·refine⟨3+(b.length:Int)/12,by omega,by omega,(x9 _ _ _ (aB cY ?_)).run⟩
  rw[e];exact aB (by simpa using h) iX
theorem pO (b:List Int) (i h:Int) (hi:0≤i) (hb:b.length≤1048576):bL C fT [oL b i h] (Dr b fun r=> ∃x,r=TV.ag (bf x)∧cH x=true):=by
 refine FK _ _ _ _ ?_;refine fQ (dK b _ _ hi hb _ (by first|omega|(simp<;>omega))) fun n3 i1 h1 hi1 hx1=> ?_;refine fQ (dK b _ _ hi1 hb _ (by first|omega|(simp<;>omega))) fun n7 i2 h2 hi2 Fm=> ?_;refine fQ (oS b _ _ hi2 hb [0,1,1,1,2] cY cY) fun n11 i3 h3 AR Tk=> ?_;refine eO (fun e=> ?_) fun e=> ?_
 ·refine fQ (dK b _ _ AR hb _ (by first|omega|(simp<;>omega))) fun n15 i4 h4 Pv UH=> ?_
  refine fQ (oS b _ _ Pv hb [0,1,256,999] cY cY) fun n19 i5 h5 Vd Wn=> ?_;have p1:=hx1.2 ay;have p2:=Fm.2 ay;have p3:=Sw Tk (lo:=0) (hi:=2) rfl;have q1:=hx1.1;have q2:=Fm.1;have p4:=UH.2 ay;have q4:=UH.1;have p5:=Sw Wn (lo:=0) (hi:=999) rfl;have e1:=uc ((eW _ _).symm.trans e);exact fC Vd ⟨⟨n3,aH 1 n7,n11,n15,n19⟩,rfl,by rw[bh ay];exact O0 ay ay ay (.inl ⟨e1,by omega⟩)⟩
 ·have p1:=hx1.2 ay
  have p2:=Fm.2 ay;have p3:=Sw Tk (lo:=0) (hi:=2) rfl;have q1:=hx1.1;have q2:=Fm.1;have e1:=of_decide_eq_false ((eW _ _).symm.trans e);exact fC AR ⟨⟨n3,aH 1 n7,n11,0,0⟩,rfl,by rw[bh ay];exact O0 ay ay ay (.inr ⟨e1,rfl,rfl⟩)⟩
theorem Mb (b:List Int) (i h:Int) (hi:0≤i) (hb:b.length≤1048576):bL C tQ [oL b i h] (Dr b fun r=> ∃x,r=TV.ag (bf x)∧True):=by
 refine Ig _ _ _ _ ?_;refine rR (pO b _ _ hi hb) fun k1 i1 h1 hi1 hx1=> ?_;refine fQ (dK b _ _ hi1 hb _ (by first|omega|(simp<;>omega))) fun n11 i2 h2 hi2 Fm=> ?_;refine eO (fun e=> ?_) fun e=> ?_
 ·refine fQ (oS b _ _ hi2 hb [(-1),15,16] cY cY) fun n15 i3 h3 AR Tk=> ?_
  exact fC AR ⟨⟨n15,k1.a,k1.k,k1.c,k1.g⟩,rfl,trivial⟩
 ·refine eO (fun e=> ?_) fun e=> ?_
  ·refine fQ (oS b _ _ hi2 hb [0,60,61] cY cY) fun n19 i4 h4 Pv UH=> ?_
   exact fC Pv ⟨⟨k1.b,n19,k1.k,k1.c,k1.g⟩,rfl,trivial⟩
  ·refine eO (fun e=> ?_) fun e=> ?_
   ·refine fQ (oS b _ _ hi2 hb [(-1),3] cY cY) fun n23 i5 h5 Vd Wn=> ?_
    exact fC Vd ⟨⟨k1.b,k1.a,n23,k1.c,k1.g⟩,rfl,trivial⟩
   ·refine eO (fun e=> ?_) fun e=> ?_
    ·refine fQ (oS b _ _ hi2 hb [(-1),1,23,24] cY cY) fun n27 i6 h6 Yf Yw=> ?_
     exact fC Yf ⟨⟨k1.b,k1.a,k1.k,n27,k1.g⟩,rfl,trivial⟩
    ·refine eO (fun e=> ?_) fun e=> ?_
     ·refine fQ (oS b _ _ hi2 hb [(-1),1,999,1000] cY cY) fun n31 i7 h7 Yg Yx=> ?_
      exact fC Yg ⟨⟨k1.b,k1.a,k1.k,k1.c,n31⟩,rfl,trivial⟩
     ·exact fC hi2 ⟨⟨k1.b,k1.a,k1.k,k1.c,k1.g⟩,rfl,trivial⟩
theorem Mc (b:List Int) (i h:Int) (hi:0≤i) (hb:b.length≤1048576):bL C tT [oL b i h] (Dr b fun r=> ∃x,r=TV.ag (bf x)∧cH x=true):=by
 refine Ib _ _ _ _ ?_;refine rR (pO b _ _ hi hb) fun k1 i1 h1 hi1 hx1=> ?_;refine fQ (dK b _ _ hi1 hb _ (by first|omega|(simp<;>omega))) fun n11 i2 h2 hi2 Fm=> ?_;exact fC hi2 ⟨⟨_,_,_,_,_⟩,rfl,Qx hx1 ⟨Fm.1,by have:=Fm.2 ay;omega⟩⟩
theorem O7 (b:List Int) (i h:Int) (hi:0≤i) (hb:b.length≤1048576) (n:Int) (h0:0≤n) (hn:n≤100):bL C fW [oL b i h,vI n] (Dr b fun r=> ∃l:List Key,r=TV.c (TC.sub 5 (l.map bf))∧(l.length:Int)≤n):=by
 refine FH _ _ _ _ _ ?_;rw[bh ay];refine fQ (dK b _ _ hi hb _ ay) fun x i1 h1 hi1 hx=> ?_;have hx1:=hx.2 ay
 have key: ∀(d:Nat) (i h:Int) (l:List Key),0≤i→(l.length:Int)+d≤n→aq C fW ah 4 0 (k9 (d:Int) (b.map hJ) i h (l.map bf)) (fun x st=>aN C fW ah x st (Dr b fun r=> ∃l:List Key,r=TV.c (TC.sub 5 (l.map bf))∧(l.length:Int)≤n)):=by
  intro d
  induction d with
  |zero=>
   intro i h l hi hl;exact uX _ _ _ _ _ _ (aB cY (CS _ _ _ _ _ _ _ (fC hi ⟨l,rfl,by omega⟩)))
  |succ d ih=>
   intro i h l hi hl;have e:dh ((d+1:Nat):Int) 1=(d:Int):=(eA ay).trans ay;refine uX _ _ _ _ _ _ (ai jN (rR (pO b _ _ hi hb) fun k i2 h2 hi2 _=>⟨_,gG l k ay,?_⟩));rw[e];exact ih _ _ _ hi2 (by have:=fA l k;omega)
 obtain⟨d,rfl⟩: ∃d:Nat,x=(d:Int):=⟨x.toNat,by omega⟩;exact key d _ _ [] hi1 mD
theorem QG (b:List Int) (i h:Int) (hi:0≤i) (hb:b.length≤1048576) (n:Int) (h0:0≤n) (hn:n≤100):bL C yO [oL b i h,vI n] (Dr b fun r=> ∃l:List Key,r=TV.c (TC.sub 5 (l.map bf))∧(l.length:Int)≤n+1):=by
 refine Ih _ _ _ _ _ (L8 (e:=bf) (O7 b _ _ hi hb n h0 hn) fun l i1 h1 hi1 hl=>fQ (dK b _ _ hi1 hb _ ay) fun x i2 h2 hi2 hx=>eO (fun e0=> ?_) fun e0=>eO (fun e1=>eO (fun e2=> ?_) fun e2=> ?_) fun e1=> ?_)
 ·refine rR (Mb b _ _ hi2 hb) fun k i3 h3 AR _=>ai ?_ (fC AR ⟨l++[k],by simp[bf],by simp;omega⟩)
  rw[c7 jN];simp
 ·have xy:1<l.length:=by have:(1:Int)<l.length:=by simpa using e2
                         omega
  have g0:iG l 0=some l[0]:=by rw[show(0:Int)=((0:Nat):Int) from rfl,aL];exact aV ay
  have g1:iG l 1=some l[1]:=by rw[show(1:Int)=((1:Nat):Int) from rfl,aL];exact aV xy
  have r0:rowAt (l.map bf) 0=some (bf l[0]):=by rw[bA,g0];rfl
  have r1:rowAt (l.map bf) 1=some (bf l[1]):=by rw[bA,g1];rfl
  have s0:setRow (l.map bf) 0 0 (bf l[1])=(oJ l 0 l[1]).map bf:=nF g0 (a':=l[1]) rfl
  have g2:iG (oJ l 0 l[1]) 1=some l[1]:=by
   rw[show(1:Int)=((1:Nat):Int) from rfl,aL];unfold oJ;rw[List.getElem?_set_ne cY,aV xy]
  have r2:rowAt ((oJ l 0 l[1]).map bf) 1=some (bf l[1]):=by rw[bA,g2];rfl
  have r3:rowAt (setRow (l.map bf) 0 0 (bf l[1])) 1=some (bf l[1]):=by rw[s0];exact r2
  have s1:setRow ((oJ l 0 l[1]).map bf) 1 0 (bf l[0])=(oJ (oJ l 0 l[1]) 1 l[0]).map bf:=nF g2 (a':=l[0]) rfl;refine⟨_,_,_,_,_,r0,_,_,_,_,_,r0,_,_,_,_,_,r1,_,_,_,_,_,r1,_,_,_,_,_,r0,_,_,_,_,_,r0,_,_,_,_,_,r3,_,_,_,_,_,r3,fC hi2 ⟨oJ (oJ l 0 l[1]) 1 l[0],?_,by rw[qz,qz];omega⟩⟩;show TV.c (TC.sub 5 (setRow (setRow (l.map bf) 0 0 (bf l[1])) 1 0 (bf l[0])))=_;rw[s0,s1]
 ·exact fC hi2 ⟨l,rfl,by omega⟩
 ·exact fC hi2 ⟨l,rfl,by omega⟩
theorem O8 (b:List Int) (i h:Int) (hi:0≤i) (hb:b.length≤1048576):bL C ek [oL b i h] (Dr b fun r=> ∃x:List (List Key),r=TV.ag [TC.sub 1 (x.map bH)]∧cE x=true):=by
 refine FD _ _ _ _ (fQ (dK b _ _ hi hb _ ay) fun x i1 h1 hi1 hx=> ?_);have hx1:=hx.2 ay
 have key: ∀(d:Nat) (i h:Int) (n:List (List Key)),d≤100→0≤i→cE n=true→aq C ek ah 4 0 (kY (d:Int) (b.map hJ) i h (n.map bH)) (fun x st=>aN C ek ah x st (Dr b fun r=> ∃x:List (List Key),r=TV.ag [TC.sub 1 (x.map bH)]∧cE x=true)):=by
  intro d
  induction d with
  |zero=>
   intro i h n hd hi hn;exact uT _ _ _ _ _ _ (aB cY (CM _ _ _ _ _ _ _ (fC hi ⟨n,rfl,hn⟩)))
  |succ d ih=>
   intro i h n hd hi hn;have hs:=jm hn;have e:dh ((d+1:Nat):Int) 1=(d:Int):=(eA ay).trans ay;refine uT _ _ _ _ _ _ (ai jN (rR (pO b _ _ hi hb) fun k i2 h2 hi2 _=>⟨_,_,ng n k ay ay,?_⟩));rw[e];exact ih _ _ _ ay hi2 (Ce hn k)
 obtain⟨d,rfl⟩: ∃d:Nat,x=(d:Int):=⟨x.toNat,by omega⟩
 cases d with
 |zero=>exact uS _ _ _ _ _ (aB cY (CL _ _ _ _ _ _ (fC hi1 ⟨[],rfl,by decide+kernel⟩)))
 |succ d=>
  have e:dh ((d+1:Nat):Int) 1=(d:Int):=(eA ay).trans ay;refine uS _ _ _ _ _ (ai jN (rR (pO b _ _ hi1 hb) fun k i2 h2 hi2 _=>⟨_,_,ng [] k (vv _) (vv _),?_⟩));rw[e];exact key d _ _ _ ay hi2 (Ce (by decide+kernel) k)
theorem ER (n m:List (List Key)):ax (n++m)=ax n+ax m:=by
 unfold ax;rw[cT,qC];omega
theorem Md (b:List Int) (i h:Int) (hi:0≤i) (hb:b.length≤1048576):bL C tP [oL b i h] (Dr b fun r=> ∃x:List (List Key),r=TV.ag [TC.sub 1 (x.map bH)]∧ax x≤40):=by
 refine H9 _ _ _ _ (HS (O8 b _ _ hi hb) fun n i1 h1 hi1 hn=>fQ (dK b _ _ hi1 hb _ ay) fun x i2 h2 hi2 hx=> ?_);have hs:=jm hn;have hz:=K4 hn;refine eO (fun e0=> ?_) fun e0=>eO (fun e1=> ?_) fun e1=>fC hi2 ⟨n,rfl,by omega⟩
 ·refine L8 (e:=bf) (QG b _ _ hi2 hb 6 ay ay) fun l i3 h3 AR hl=>ai (c7 jN) (fC AR ⟨n++[l],by simp[bH],?_⟩)
  rw[ER]
  have:ax [l]=1+l.length:=by simp[ax,tot,bu]
  omega
 ·refine rR (pO b _ _ hi2 hb) fun k i3 h3 AR _=> ?_
  obtain⟨_,_,hr,i4,h4,Pv,rfl,k2,rfl,_⟩:=pO b i3 h3 AR hb;have hfit:fits (Nat.succ (Nat.succ (List.length (n.map bH)))) 24=true:=c7 jN;refine⟨(TV.ag [TC.sub 1 ((n++[[k],[k2]]).map bH)],[oL b i4 h4]),?_,?_,fC Pv ⟨_,rfl,?_⟩⟩
  ·refine⟨k2.b,k2.a,k2.k,k2.c,k2.g,_,i4,h4,hr,?_⟩
   exact ai hfit (by simp[bH,bf])
  ·refine⟨k2.b,k2.a,k2.k,k2.c,k2.g,_,i4,h4,hr,(TV.ag [TC.sub 1 ((n++[[k],[k2]]).map bH)],[oL b i4 h4]),?_,?_,rfl⟩
   ·exact ai hfit (by simp[bH,bf])
   ·exact ai hfit (by simp[bH,bf])
  ·rw[ER]
   have:ax [[k],[k2]]=4:=by simp[ax,tot,bu]
   omega
theorem qK (l:List Key) (hl:l.length≤1073741824):au C ey [cD l,cD l] (vB true) []:=by
 refine(C1 _ _ _ ?_).run;refine aB cY ?_;refine cK l (fun i=>aq C ey ah 4 0 (jJ (l.map bf) (l.map bf) i) _) ?_ ?_
 ·exact rB _ _ _ _ (aB cY (AE _ _ _ _ _ iX))
 ·intro i a hi ha _ _ hn
  refine rB _ _ _ _ (ai jN ?_);simp only[mo,aL,ha,aY,gu];refine aB cY ?_;rw[bh ay];exact hn
theorem Aj (l:List Int) (hl:l.length≤1073741824):au C eZ [Ex l,Ex l] (vB true) []:=by
 refine(CK _ _ _ ?_).run;refine aB cY ?_;refine cK l (fun i=>aq C eZ ah 4 0 (jF (l.map cA) (l.map cA) i) _) ?_ ?_
 ·exact q9 _ _ _ _ (aB cY (Au _ _ _ _ _ iX))
 ·intro i a hi ha _ _ hn
  refine q9 _ _ _ _ (ai jN ?_);simp only[tG,aL,ha,aY,gu];refine aB cY ?_;rw[bh ay];exact hn
theorem Ak (n:List (List Key)) (hz:ax n≤4194304):au C eY [dL n,dL n] (vB true) []:=by
 refine(CD _ _ _ ?_).run;refine aB cY ?_
 have hN:n.length≤4194304:=by unfold ax at hz;omega
 refine cK n (fun i=>aq C eY ah 4 0 (jE i (n.map bH) (n.map bH)) _) ?_ ?_
 ·exact q7 _ _ _ _ (aB cY (As _ _ _ _ _ iX))
 ·intro i a hi ha _ _ hn
  have h1:bu a≤tot bu n:=gQ (w:=bu) ha;have e2:bu a=a.length:=rfl
  have hl:a.length≤1073741824:=by unfold ax at hz;omega
  have hr:rowAt (n.map bH) (i:Int)=some [TC.sub 5 (a.map bf)]:=by rw[bA,aL,ha];rfl
  refine q7 _ _ _ _ (ai jN ?_);rw[bh ay]
  repeat' first
   |refine⟨_,hr,?_⟩
   |refine⟨_,qK a hl,?_⟩
   |refine aB rfl ?_
  exact hn
theorem qL (t:Tree) (hz:bX t≤4194304):au C ez [cr t,cr t] (vB true) []:=by
 have e1:bX t=t.ak.length+(t.nodes.length+tot ax t.nodes):=rfl;refine(CW _ _ _ _ _ ⟨_,Aj t.ak ay,aB rfl ?_⟩).run;refine aB cY ?_;refine cK t.nodes (fun i=>aq C ez ah 4 0 (jI i (t.ak.map cA) (t.nodes.map bD) (t.ak.map cA) (t.nodes.map bD)) _) ?_ ?_
 ·exact rA _ _ _ _ _ _ (aB cY (AD _ _ _ _ _ _ _ iX))
 ·intro i a hi ha _ _ hn
  have h1:ax a≤tot ax t.nodes:=gQ (w:=ax) ha
  have hr:rowAt (t.nodes.map bD) (i:Int)=some [TC.sub 1 (a.map bH)]:=by rw[bA,aL,ha];rfl
  have hs:=Ak a ay;refine rA _ _ _ _ _ _ (ai jN ?_);rw[bh ay]
  repeat' first
   |refine⟨_,hr,?_⟩
   |refine⟨_,hs,?_⟩
   |refine aB rfl ?_
  exact hn
theorem Al:au C tU [] (cr ⟨[0],[[]]⟩) []:=(Fc _ iX).run
theorem O9 (b:List Int) (i h:Int) (hi:0≤i) (hb:b.length≤1048576) (n:Int) (h0:0≤n) (hn:n≤55):bL C fU [oL b i h,vI n] (Dr b fun r=> ∃t:Tree,r=cr t∧cN t=true∧((aA t).length:Int)≤n):=by
 refine F3 _ _ _ _ _ ⟨_,_,Al,?_⟩;rw[bh ay];refine fQ (dK b _ _ hi hb _ ay) fun x i1 h1 hi1 hx=> ?_;have hx1:=hx.2 ay
 have key: ∀(d:Nat) (i h:Int) (t:Tree),0≤i→cN t=true→((aA t).length:Int)+d≤n→aq C fU ah 4 0 (lC (d:Int) (b.map hJ) i h (t.ak.map cA) (t.nodes.map bD)) (fun x st=>aN C fU ah x st (Dr b fun r=> ∃t:Tree,r=cr t∧cN t=true∧((aA t).length:Int)≤n)):=by
  intro d
  induction d with
  |zero=>
   intro i h t hi ht hl;exact vn _ _ _ _ _ _ _ (aB cY (Dq _ _ _ _ _ _ _ _ (fC hi ⟨t,rfl,ht,by omega⟩)))
  |succ d ih=>
   intro i h t hi ht hl;have hz:=Bt ht;have e:dh ((d+1:Nat):Int) 1=(d:Int):=(eA ay).trans ay
   refine vn _ _ _ _ _ _ _ (ai jN (rR (Mc b _ _ hi hb) fun k i2 h2 hi2 hk=>⟨_,_,_,sH t k ay (fun _ _=>by
    have h3:(ff (bY (aA t) k)).length≤(bY (aA t) k).length:=IE _ _;have h4:=fA (aA t) k
    omega),?_⟩))
   rw[e];exact ih _ _ _ hi2 (JR ht k) (by have:=HR ht hk;omega)
 obtain⟨d,rfl⟩: ∃d:Nat,x=(d:Int):=⟨x.toNat,by omega⟩;exact key d _ _ ⟨[0],[[]]⟩ hi1 K3 (by rw[show aA ⟨[0],[[]]⟩=[] from rfl];simp;omega)
theorem JY: ∀(l:List (List (List Key))) (i:Nat) (m:List (List Key)),((l.set i m).flatMap an).length≤(l.flatMap an).length+(an m).length
 |[],i,m=>by simp
 |a::r,0,m=>by simp only[List.set_cons_zero,List.flatMap_cons,cT];omega
 |a::r,i+1,m=>by have:=JY r i m;simp only[List.set_cons_succ,List.flatMap_cons,cT];omega
theorem Pb (l:List (List (List Key))) (i:Nat) (m:List (List Key)):tot ax (l.set i m)≤tot ax l+ax m:=by
 induction l generalizing i with
 |nil=>simp[tot]
 |cons a r ih=>
  cases i with
  |zero=>simp only[List.set_cons_zero,tot];omega
  |succ i=>have:=ih i;simp only[List.set_cons_succ,tot];omega
theorem DF (b:List Int) (i h:Int) (hi:0≤i) (hb:b.length≤1048576) (n:Int) (h0:0≤n) (hn:n≤55):bL C m8 [oL b i h,vI n] (Dr b fun r=> ∃t:Tree,r=cr t∧bX t≤400∧(cN t=true→((aA t).length:Int)≤n+8)):=by
 refine Il _ _ _ _ _ (zY (O9 b _ _ hi hb n h0 hn) fun t i1 h1 hi1 ht=>fQ (dK b _ _ hi1 hb _ ay) fun x i2 h2 hi2 hx=> ?_);obtain⟨ht,hl⟩:=ht;have hz:=Bt ht;have htl:=iU ht;have Yy:=yI ht;have e1:bX t=t.ak.length+(t.nodes.length+tot ax t.nodes):=rfl;refine eO (fun e0=> ?_) fun e0=>eO (fun e1=> ?_) fun e1=>eO (fun e2=> ?_) fun e2=>eO (fun e3=> ?_) fun e3=> ?_
 ·obtain⟨_,_,Wm,i3,h3,AR,rfl,z,rfl,z0,z1⟩:=dK b i2 h2 hi2 hb (t.ak.length:Int) ay
  obtain⟨_,_,Yh,i4,h4,Pv,rfl,v,rfl,_⟩:=oS b i3 h3 AR hb [0,-1,1,300] cY cY;obtain⟨u,hu⟩:=lN z0 (z1 ay)
  have hrow:rowAt (t.ak.map cA) z=some [iI u]:=by rw[bA,hu];rfl
  have p9:setRow (t.ak.map cA) z 0 [iI v]=(oJ t.ak z v).map cA:=nF hu (a':=v) rfl;rw[show Int.ofNat (List.length (t.ak.map cA))=(t.ak.length:Int) from by simp]
  have A: ∀Q:QV,Q (cr ⟨oJ t.ak z v,t.nodes⟩) [oL b i4 h4]→ ∃(n13:Int) (l14:RR) (n15 n16:Int),au C bT [oL b i2 h2,vI (t.ak.length:Int)] (vI n13) [TV.bx [TC.sub 1 l14,iI n15,iI n16]]∧ ∃(n17:Int) (l18:RR) (n19 n20:Int),au C fD [TV.bx [TC.sub 1 l14,iI n15,iI n16],TV.c (TC.sub 1 [[iI 0],[iI (-1)],[iI 1],[iI 300]])] (vI n17) [TV.bx [TC.sub 1 l18,iI n19,iI n20]]∧ ∃n21:Int,rowAt (t.ak.map cA) n13=some [iI n21]∧ ∃n22:Int,rowAt (t.ak.map cA) n13=some [iI n22]∧Q (TV.ag [TC.sub 1 (setRow (t.ak.map cA) n13 0 [iI n17]),TC.sub 1 (t.nodes.map bD)]) [TV.bx [TC.sub 1 l18,iI n19,iI n20]]:=fun Q hQ=>
   ⟨z,_,i3,h3,Wm,v,_,i4,h4,Yh,u,hrow,u,hrow,by rw[p9];exact hQ⟩
  refine⟨(cr ⟨oJ t.ak z v,t.nodes⟩,[oL b i4 h4]),A (fun u w=>(u,w)=(cr ⟨oJ t.ak z v,t.nodes⟩,[oL b i4 h4])) rfl,A (fun u w=>(u,w)=(cr ⟨oJ t.ak z v,t.nodes⟩,[oL b i4 h4])) rfl,fC Pv ⟨_,rfl,?_,fun _=> ?_⟩⟩
  ·show(oJ t.ak z v).length+(t.nodes.length+tot ax t.nodes)≤400
   rw[qz];omega
  ·show((aA t).length:Int)≤n+8
   omega
 ·refine HS (Md b _ _ hi2 hb) fun m i3 h3 AR hm=>ai (c7 jN) (fC AR ⟨⟨t.ak,t.nodes++[m]⟩,by simp[bD],?_,fun hk=> ?_⟩)
  ·show t.ak.length+((t.nodes++[m]).length+tot ax (t.nodes++[m]))≤400
   rw[qC,cT];simp[tot];omega
  ·have Yi:=jm (jW hk (n:=m) cY)
   have:=bR m;show(((t.nodes++[m]).flatMap an).length:Int)≤n+8;have e5:(aA t).length=(t.nodes.flatMap an).length:=rfl;rw[List.flatMap_append,cT];simp only[List.flatMap_cons,List.flatMap_nil,mH];omega
 ·refine fQ (dK b _ _ hi2 hb _ jN) fun z i3 h3 AR Wo=>HS (Md b _ _ AR hb) fun m i4 h4 Pv hm=> ?_
  obtain⟨u,hu⟩:=lN (l:=t.nodes) Wo.1 (by have:=Wo.2 jN;simpa using this)
  have hrow:rowAt (t.nodes.map bD) z=some [TC.sub 1 (u.map bH)]:=by rw[bA,hu];rfl
  have p9:setRow (t.nodes.map bD) z 0 [TC.sub 1 (m.map bH)]=(oJ t.nodes z m).map bD:=nF hu (a':=m) rfl;refine⟨_,hrow,_,hrow,?_⟩;rw[p9];refine fC Pv ⟨⟨t.ak,oJ t.nodes z m⟩,rfl,?_,fun hk=> ?_⟩
  ·show t.ak.length+((oJ t.nodes z m).length+tot ax (oJ t.nodes z m))≤400
   have:=Pb t.nodes z.toNat m;rw[qz];unfold oJ;omega
  ·have Yz:=(OL hu)
   have Yi:=jm (jW hk (n:=m) (by show m∈t.nodes.set z.toNat m;exact List.mem_set ay m));have:=bR m;have h6:=JY t.nodes z.toNat m;show(((t.nodes.set z.toNat m).flatMap an).length:Int)≤n+8;have e5:(aA t).length=(t.nodes.flatMap an).length:=rfl;omega
 ·exact fC hi2 ⟨⟨[],[]⟩,rfl,by simp[bX,oK,tot],fun _=>by rw[show aA ⟨[],[]⟩=[] from rfl];simp;omega⟩
 ·exact fC hi2 ⟨t,rfl,by omega,fun _=>by omega⟩
theorem HW (b:List Int) (hb:b.length≤1048576):bL C nP [pH b] (fun r fs=>fs=[]∧ ∃t:Tree,r=cr t∧bX t≤400):=by
 obtain⟨z,IC,hz1,hz⟩:=Ai b 30 ay ay hb;refine AK _ _ ?_;refine EJ (Ag b hb) fun h1=> ?_;refine⟨_,hz,?_⟩;refine zY (DF b _ _ (Int.le_refl 0) hb z ay ay) fun v2 i2 h2 hi2 Fm=> ?_;exact⟨rfl,v2,rfl,Fm.1⟩
theorem Sx (b:List Int) (hb:b.length≤1048576):bL C Bx [pH b] (fun r fs=>fs=[]∧ ∃(t:Tree) (x y:Int),r= .tu [(1,GF t),(0,[iI x]),(0,[iI y])]∧bX t≤400):=by
 obtain⟨z,IC,hz1,hz⟩:=Ai b 30 ay ay hb;refine J2 _ _ ?_;refine EJ (Ag b hb) fun h1=> ?_;refine⟨_,hz,?_⟩;refine zY (DF b _ _ (Int.le_refl 0) hb z ay ay) fun v2 i2 h2 hi2 Fm=> ?_;refine fQ (dK b _ _ hi2 hb _ (by first|omega|(simp<;>omega))) fun n10 i3 h3 AR Tk=> ?_;refine fQ (dK b _ _ AR hb _ (by first|omega|(simp<;>omega))) fun n14 i4 h4 Pv UH=> ?_;exact⟨rfl,v2,_,_,rfl,Fm.1⟩
theorem HX (b:List Int) (hb:b.length≤1048576):bL C nQ [pH b] (fun r fs=>fs=[]∧ ∃(t:Tree) (x y:Int),r= .tu [(1,GF t),(0,[iI x]),(0,[iI y])]∧bX t≤400):=by
 obtain⟨_,_,e,rfl,t,x,y,rfl,hz⟩:=Sx b hb;exact AL _ _ ⟨_,_,_,_,e,rfl,t,x,y,rfl,hz⟩
theorem FA (b:List Int) (hb:b.length≤1048576):bL C m7 [pH b] (fun r fs=>fs=[]∧ ∃(t:Tree) (k:Key),r= .tu [(1,GF t),(1,bf k)]∧bX t≤400∧(cN t=true→((aA t).length:Int)≤48)):=by
 obtain⟨z,IC,hz1,hz⟩:=Ai b 40 ay ay hb;refine yW _ _ ?_;refine EJ (Ag b hb) fun h1=> ?_;refine⟨_,hz,?_⟩;refine zY (DF b _ _ (Int.le_refl 0) hb z ay ay) fun v2 i2 h2 hi2 Fm=> ?_;refine Qy (O6 b _ _ hi2 hb _ ay) fun b10 i3 h3 AR=> ?_;refine eO (fun e=> ?_) fun e=> ?_
 ·refine rR (Mb b _ _ AR hb) fun k4 i4 h4 Pv UH=> ?_
  exact⟨rfl,v2,_,rfl,Fm.1,fun h=>by have:=Fm.2 h;omega⟩
 ·refine rR (Mc b _ _ AR hb) fun k5 i5 h5 Vd Wn=> ?_
  exact⟨rfl,v2,_,rfl,Fm.1,fun h=>by have:=Fm.2 h;omega⟩
theorem ES (b:List Int) (hb:b.length≤1048576):bL C mz [pH b] (fun r fs=>fs=[]∧ ∃(t:Tree) (x:Int),r= .tu [(1,GF t),(0,[iI x])]∧bX t≤400):=by
 obtain⟨z,IC,hz1,hz⟩:=Ai b 30 ay ay hb;refine xC _ _ ?_;refine EJ (Ag b hb) fun h1=> ?_;refine⟨_,hz,?_⟩;refine zY (DF b _ _ (Int.le_refl 0) hb z ay ay) fun v2 i2 h2 hi2 Fm=> ?_;refine fQ (oS b _ _ hi2 hb [0,1,2,(-1),20] cY cY) fun n10 i3 h3 AR Tk=> ?_;exact⟨rfl,v2,_,rfl,Fm.1⟩
theorem HY (b:List Int) (hb:b.length≤1048576):bL C nR [pH b] (fun r fs=>fs=[]∧ ∃(x y:Int),r= .tu [(0,[iI x]),(0,[iI y])]):=by
 refine AI _ _ ?_;refine EJ (Ag b hb) fun h1=> ?_;refine fQ (dK b _ _ (Int.le_refl 0) hb _ (by first|omega|(simp<;>omega))) fun n4 i2 h2 hi2 Fm=> ?_;refine fQ (dK b _ _ hi2 hb _ (by first|omega|(simp<;>omega))) fun n8 i3 h3 AR Tk=> ?_;exact⟨rfl,_,_,rfl⟩
theorem CB (b:List Int):au C m6 [pH b] (vB true) []:=by
 refine(yX _ _ ⟨_,QF b,?_⟩).run
 by_cases hb:1048576<b.length
 ·exact ai jN iX
 have hb:b.length≤1048576:=by omega
 obtain⟨_,_,e1,rfl,t1,rfl,hz1⟩:=HW b hb;obtain⟨_,_,e2,rfl,t2,x2,y2,rfl,WI⟩:=HX b hb;obtain⟨_,_,e3,rfl,t3,k3,rfl,Wo,Uq⟩:=FA b hb;obtain⟨_,_,e4,rfl,t4,x4,rfl,YA⟩:=ES b hb;obtain⟨_,_,e5,rfl,x5,y5,rfl⟩:=HY b hb;have l1:=zU t1;have w2:bX t2=t2.ak.length+(t2.nodes.length+tot ax t2.nodes):=rfl
 have room:cN t3=true→cH k3=true→(ff (bY (aA t3) k3)).length≤60:=fun h _=>by
  have h2:=Uq h;have h3:(ff (bY (aA t3) k3)).length≤(bY (aA t3) k3).length:=IE _ _;have h4:=fA (aA t3) k3;omega
 refine aB jN ?_;refine⟨_,_,e1,?_⟩;refine⟨_,_,_,_,e2,?_⟩;refine⟨_,_,_,_,_,_,Cy t2 x2 y2 ay,?_⟩;refine⟨_,_,_,_,_,_,Cw t2 x2 y2 ay,?_⟩;refine⟨_,_,_,_,_,_,_,e3,?_⟩;refine⟨_,_,_,BJ t3 k3 ay,?_⟩;refine⟨_,_,_,sH t3 k3 ay room,?_⟩;refine⟨_,_,_,e4,?_⟩;refine⟨_,_,e5,?_⟩;refine⟨_,nV t1 ay,?_⟩;refine⟨_,nU t1 ay,?_⟩;refine ai cY ?_;refine⟨_,nc t2 x2 y2 ay,?_⟩;refine⟨_,m9 t2 x2 y2 ay,?_⟩;refine ai cY (ai cY ?_)
 refine ai cY (ai cY ?_);refine⟨_,qL _ (by have:=KY t3 k3;omega),?_⟩;refine ai cY ?_;refine⟨_,_,Af t4 x4 ay,?_⟩;refine⟨_,_,Ac t4 x4 ay,?_⟩;refine⟨_,qL _ (by have:=JB t4 x4;omega),?_⟩;refine ai cY ?_;refine⟨_,(nu _ _ _).2 rfl,?_⟩;refine⟨_,(rX _ _ _).2 rfl,?_⟩;refine ai cY ?_;refine⟨_,z8 t1 ay,?_⟩;refine⟨_,qF t1 ay,?_⟩;refine⟨_,qK _ ay,?_⟩;exact iX
theorem Sy {n z:Nat} (h:n*z≤reachBytes) (hz:1≤z):n≤140737488355328:=by
 have:reachBytes≤140737488355328:=by decide
 have h2:n*1≤n*z:=Nat.mul_le_mul_left n hz;omega
theorem QH {r:List TC} (h:Bl C.tt L9 r): ∃n:Int,r=hJ n∧(0≤n∧n≤255):=by
 obtain⟨n,rfl,h1⟩:=h.Qm (k:= .u8) Ma;exact⟨n,rfl,TB h1⟩
theorem K7 {r:List TC} (h:Bl C.tt sG r): ∃l:List (Int),r=[.sub 1 (l.map hJ)]∧l.length≤140737488355328∧ ∀x∈l,0≤x∧x≤255:=by
 obtain⟨w,rfl,y,z⟩:=h.MT (e:=L9) Ma;obtain⟨l,rfl,hl⟩:=Ew fun r hr=>QH (y r hr);rw[cw] at z;exact⟨l,rfl,Sy z (by decide+kernel),hl⟩
theorem QI {v:TV} (h:Rh C.tt sG v): ∃l:List Int,v=pH l∧l.length≤140737488355328∧ ∀x∈l,0≤x∧x≤255:=by
 have ht:(C.tt sG).ti= .slice 5:=by kernel_rfl
 cases h with
 |c _ hw=>
  obtain⟨l,h1,h2,h3⟩:=K7 hw
  cases h1
  exact⟨l,rfl,h2,h3⟩
 |ag h1 _=>rw[ht] at h1;cases h1
theorem CC (vs:List TV) (h:Jv C.tt [sG] vs): ∃k,fc C k m6 vs (vB true) []:=by
 cases h with
 |cons h0 h=>
  cases h
  obtain⟨b,rfl,_⟩:=QI h0;exact CB b
end Go.T.R
