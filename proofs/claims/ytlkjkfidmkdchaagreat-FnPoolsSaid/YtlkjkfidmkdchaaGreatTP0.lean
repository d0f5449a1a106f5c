import Derived.Test.YtlkjkfidmkdchaaGreatTR3
set_option linter.all false
set_option maxRecDepth 100000
set_option maxHeartbeats 4000000
namespace Go.T.R
open Go Go.T
theorem zYk {P:Prop} (h:P:=by kernel_rfl):P:=h
theorem qe (a b c:Int):ai C ek [vI a,vI b,vI c] (vB (g8 a b c)) []:=by
 refine(Ss _ _ _ _ ?_).run;simp only[iA,cq,g8]
 split<;>simp_all<;>omega
theorem m6 (a b c:Int):ai C dn [vI a,vI b,vI c] (vB (g8 a b c)) []:=by
 refine(Ym _ _ _ _ ?_).run;simp only[iA,cq,g8]
 split<;>simp_all<;>omega
@[simp] theorem vg (a b c:Int) (q:Bool):ai C ek [vI a,vI b,vI c] (vB q) []↔q=g8 a b c:=sO (qe a b c)
@[simp] theorem Af (a b c:Int) (q:Bool):ai C dn [vI a,vI b,vI c] (vB q) []↔q=g8 a b c:=sO (m6 a b c)
theorem P4 (b a k c g:Int):ai C Cb [.ag [iI b,iI a,iI k,iI c,iI g]] (vB (eU ⟨b,a,k,c,g⟩)) []:=by
 refine(VR _ _ _ _ _ _ ?_).run;simp only[vg,eC,eU,bV,bY,cq]
 cases g8 b 0 15<;>cases g8 a 1 60<;>cases g8 k 0 2<;>by_cases h:k=1<;>by_cases h1:c=0<;>by_cases h2:g=0<;>cases g8 c 0 23<;>simp_all
theorem P5 (b a k c g:Int):ai C sr [.ag [iI b,iI a,iI k,iI c,iI g]] (vB (eU ⟨b,a,k,c,g⟩)) []:=by
 refine(VI _ _ _ _ _ _ ?_).run;simp only[Af,eC,eU,bV,bY,cq]
 cases g8 b 0 15<;>cases g8 a 1 60<;>cases g8 k 0 2<;>by_cases h:k=1<;>by_cases h1:c=0<;>by_cases h2:g=0<;>cases g8 c 0 23<;>simp_all
@[simp] theorem Vs (b a k c g:Int) (q:Bool):ai C Cb [.ag [iI b,iI a,iI k,iI c,iI g]] (vB q) []↔q=eU ⟨b,a,k,c,g⟩:=sO (P4 b a k c g)
@[simp] theorem wM (b a k c g:Int) (q:Bool):ai C sr [.ag [iI b,iI a,iI k,iI c,iI g]] (vB q) []↔q=eU ⟨b,a,k,c,g⟩:=sO (P5 b a k c g)
@[simp] theorem Fj (b a k c g b' a' k' c' g':Int) (q:Bool):ai C wJ [.ag [iI b,iI a,iI k,iI c,iI g],.ag [iI b',iI a',iI k',iI c',iI g']] (vB q) []↔q=ez ⟨b,a,k,c,g⟩ ⟨b',a',k',c',g'⟩:=sO (by
  refine(Qq _ _ _ _ _ _ _ _ _ _ _ ?_).run;simp only[jb,bV,cq,ez]
  by_cases h1:b<b'<;>by_cases h2:b=b'<;>simp_all)
@[simp] theorem Fk (b a k c g b' a' k' c' g':Int) (q:Bool):ai C wL [.ag [iI b,iI a,iI k,iI c,iI g],.ag [iI b',iI a',iI k',iI c',iI g']] (vB q) []↔q=ez ⟨b,a,k,c,g⟩ ⟨b',a',k',c',g'⟩:=sO (by
  refine(QE _ _ _ _ _ _ _ _ _ _ _ ?_).run;simp only[jb,bV,bY,cq,ez]
  by_cases h2:b=b'<;>simp_all)
@[simp] theorem Mn (b a k c g b' a' k' c' g':Int) (q:Bool):ai C rz [.ag [iI b,iI a,iI k,iI c,iI g],.ag [iI b',iI a',iI k',iI c',iI g']] (vB q) []↔q=kY ⟨b,a,k,c,g⟩ ⟨b',a',k',c',g'⟩:=sO (by
  refine(No _ _ _ _ _ _ _ _ _ _ _ ?_).run;simp only[jb,bV,bY,cq,kY]
  by_cases h2:b=b'<;>simp_all)
@[simp] theorem Mo (b a k c g b' a' k' c' g':Int) (q:Bool):ai C rB [.ag [iI b,iI a,iI k,iI c,iI g],.ag [iI b',iI a',iI k',iI c',iI g']] (vB q) []↔q=kY ⟨b,a,k,c,g⟩ ⟨b',a',k',c',g'⟩:=sO (by
  refine(Nx _ _ _ _ _ _ _ _ _ _ _ ?_).run;simp only[jb,bV,bY,cq,kY]
  by_cases h2:b=b'<;>simp_all)
theorem kL (l:List Key) (x:Key) (hl:l.length≤1073741824):ai C bJ [dR l,AJ x] (dR (eE l x)) []:=by
 refine(SF _ _ _ _ _ _ _ ?_).run
 have key: ∀(put:Bool) (acc:List Key),acc.length+(l.drop 0).length≤l.length+(if put then 1 else 0)→acc++fD x put (l.drop 0)=eE l x→ah C bJ aH 4 0 (gX (l.map bG) put ((0:Nat):Int) x.b x.a x.k x.c x.g (acc.map bG)) (fun u st=>aD C bJ aH u st fun r fs=>r=dR (eE l x)∧fs=[]):=by
  refine bP l (fun i=> ∀(put:Bool) (acc:List Key),acc.length+(l.drop i).length≤l.length+(if put then 1 else 0)→acc++fD x put (l.drop i)=eE l x→ah C bJ aH 4 0 (gX (l.map bG) put i x.b x.a x.k x.c x.g (acc.map bG)) _) ?_ ?_
  ·intro put acc hb he
   refine D1 _ _ _ _ _ _ _ _ _ _ (av cE (NC _ _ _ _ _ _ _ _ _ _ _ ?_));simp only[yP,dM,oy,dz,bY,cO,cn]
   have hb2:acc.length≤l.length+1:=by simp at hb;split at hb<;>omega
   rw[cM az];rw[fF] at he
   cases put<;>simp[fD] at he ⊢ <;>rw[←he]<;>simp
  ·intro i a hi ha hd _ hn put acc hb he
   rw[hd] at hb he;simp only[g7] at hb
   have hb':acc.length+(List.drop (i+1) l).length+1≤l.length+1:=by split at hb<;>omega
   refine D1 _ _ _ _ _ _ _ _ _ _ (aa ie ?_);simp only[nr,aN,ha,bq,eT,Fk,Mo,eC,bY,dM,yP,oy,dz,cO,cn,cT,fY];simp (disch:=omega) only[cM,aO,mC];simp only[fD] at he
   cases put<;>cases hk:ez a x<;>cases hs:kY a x<;>simp only[mC,tW]<;>simp[hk,hs] at he hb<;>exact hn _ _ (by simp at hb ⊢;omega) (by simpa using he)
 exact key false [] cE rfl
@[simp] theorem RK (l:List Key) (hl:l.length≤1073741824) (b a k c g:Int) (q:RR):ai C bJ [.c (.sub 5 (l.map bG)),.ag [iI b,iI a,iI k,iI c,iI g]] (.c (.sub 5 q)) []↔q=(eE l ⟨b,a,k,c,g⟩).map bG:=Xe (kL l ⟨b,a,k,c,g⟩ hl)
theorem Mq (l:List Key) (x:Key) (hl:l.length≤1073741824):ai C gi [dR l,AJ x] (dR (eE l x)) []:=by
 refine(Sd _ _ _ _ _ _ _ ?_).run
 have key: ∀(put:Bool) (acc:List Key),acc.length+(l.drop 0).length≤l.length+(if put then 1 else 0)→acc++fD x put (l.drop 0)=eE l x→ah C gi aH 4 0 (gW put (l.map bG) ((0:Nat):Int) x.b x.a x.k x.c x.g (acc.map bG)) (fun u st=>aD C gi aH u st fun r fs=>r=dR (eE l x)∧fs=[]):=by
  refine bP l (fun i=> ∀(put:Bool) (acc:List Key),acc.length+(l.drop i).length≤l.length+(if put then 1 else 0)→acc++fD x put (l.drop i)=eE l x→ah C gi aH 4 0 (gW put (l.map bG) i x.b x.a x.k x.c x.g (acc.map bG)) _) ?_ ?_
  ·intro put acc hb he
   refine DE _ _ _ _ _ _ _ _ _ _ (av cE (MZ _ _ _ _ _ _ _ _ _ _ _ _ ?_));simp only[yP,dM,oy,dz,bY,cO,cn]
   have hb2:acc.length≤l.length+1:=by simp at hb;split at hb<;>omega
   rw[cM az];rw[fF] at he
   cases put<;>simp[fD] at he ⊢ <;>rw[←he]<;>simp
  ·intro i a hi ha hd _ hn put acc hb he
   rw[hd] at hb he;simp only[g7] at hb
   have hb':acc.length+(List.drop (i+1) l).length+1≤l.length+1:=by split at hb<;>omega
   refine DE _ _ _ _ _ _ _ _ _ _ (aa ie ?_);simp only[nr,aN,ha,bq,eT,Fj,Mn,eC,bY,dM,yP,oy,dz,cO,cn,cT,fY];simp (disch:=omega) only[cM,aO,mC];simp only[fD] at he
   cases put<;>cases hk:ez a x<;>cases hs:kY a x<;>simp only[mC,tW]<;>simp[hk,hs] at he hb<;>exact hn _ _ (by simp at hb ⊢;omega) (by simpa using he)
 exact key false [] cE rfl
@[simp] theorem RL (l:List Key) (hl:l.length≤1073741824) (b a k c g:Int) (q:RR):ai C gi [.c (.sub 5 (l.map bG)),.ag [iI b,iI a,iI k,iI c,iI g]] (.c (.sub 5 q)) []↔q=(eE l ⟨b,a,k,c,g⟩).map bG:=Xe (Mq l ⟨b,a,k,c,g⟩ hl)
theorem HR (old new:List Key) (hl:old.length+new.length≤1073741824):ai C fX [dR old,dR new] (dR (ct old new)) []:=by
 refine(Lg _ _ _ ?_).run;rw[lM,cM ie];refine aa rfl ?_
 have key: ∀(acc:List Key),acc.length+(new.drop 0).length≤old.length+new.length→ct acc (new.drop 0)=ct old new→ah C fX aj 4 0 (mq (new.map bG) ((0:Nat):Int) (acc.map bG)) (fun u st=>aD C fX aj u st fun r fs=>r=(dR (ct old new))∧fs=[]):=by
  refine bP new (fun i=> ∀(acc:List Key),acc.length+(new.drop i).length≤old.length+new.length→ct acc (new.drop i)=ct old new→ah C fX aj 4 0 (mq (new.map bG) i (acc.map bG)) (fun u st=>aD C fX aj u st fun r fs=>r=(dR (ct old new))∧fs=[])) ?_ ?_
  ·intro acc h0 h1
   refine x9 _ _ _ _ (av cE (Ia _ _ _ _ _ ?_));rw[fF] at h1;rw[←h1];exact fG
  ·intro i a hi ha hd ht hn acc h0 h1
   refine x9 _ _ _ _ (aa ie ?_);rw[hd] at h0 h1;simp only[g7] at h0;simp only[nr,RK acc az,aN,ha,bq,eT,eC,bY,fe,gL,dM,fh,dF,fj,fk,gP,cO,natAdd,cn,cT,fY,dz,jz];rw[aO az];have h2:=lZ acc a;exact hn _ az (by rw[←h1];rfl)
 exact key old cE rfl
theorem KL (old new:List Key) (hl:old.length+new.length≤1073741824) (q:RR):ai C fX [dR old,dR new] (.c (.sub 5 q)) []↔q=(ct old new).map bG:=Xe (HR old new hl)
theorem uM (l:List Key) (hl:l.length≤1073741824):ai C cZ [dR l] (dR (ko l)) []:=by
 refine(Yl _ _ ?_).run
 have key: ∀(acc:List Key),acc.length+(l.drop 0).length≤l.length→acc++ko (l.drop 0)=ko l→ah C cZ aj 4 0 (o5 (l.map bG) ((0:Nat):Int) (acc.map bG)) (fun u st=>aD C cZ aj u st fun r fs=>r=(dR (ko l))∧fs=[]):=by
  refine bP l (fun i=> ∀(acc:List Key),acc.length+(l.drop i).length≤l.length→acc++ko (l.drop i)=ko l→ah C cZ aj 4 0 (o5 (l.map bG) i (acc.map bG)) (fun u st=>aD C cZ aj u st fun r fs=>r=(dR (ko l))∧fs=[])) ?_ ?_
  ·intro acc h0 h1
   refine G4 _ _ _ _ (av cE (St _ _ _ _ _ ?_));rw[fF] at h1;simp[ko] at h1;simp[ko,h1]
  ·intro i a hi ha hd ht hn acc h0 h1
   refine G4 _ _ _ _ (aa ie ?_);rw[hd] at h0 h1;simp only[g7] at h0;simp only[nr,yP,oy,bV,cq,aN,ha,bq,eT,eC,bY,fe,gL,dM,fh,dF,fj,fk,gP,cO,natAdd,cn,cT,fY,dz,jz];simp (disch:=omega) only[cM,aO,mC]
   by_cases hk:a.k=0
   ·rw[aT hk]
    exact hn _ az (by rw[←h1];simp[ko,hk])
   ·rw[aK hk]
    exact hn (acc++[a]) (by simp only[cT,fY];omega) (by rw[←h1];simp[ko,hk])
 exact key [] cE rfl
theorem y5 (n:List (List Key)) (hb:n.length≤1073741824) (hl:tot cw n≤1073741824):ai C aR [mW n] (dR (aB n)) []:=by
 refine(MS _ _ ?_).run
 have key: ∀(acc:List Key),acc.length+tot cw (n.drop 0)≤tot cw n→(n.drop 0).foldl ct acc=sC n→ah C aR aj 4 0 (m7 ((0:Nat):Int) (n.map eP) (acc.map bG)) (fun u st=>aD C aR aj u st fun r fs=>r=(dR (aB n))∧fs=[]):=by
  refine bP n (fun i=> ∀(acc:List Key),acc.length+tot cw (n.drop i)≤tot cw n→(n.drop i).foldl ct acc=sC n→ah C aR aj 4 0 (m7 i (n.map eP) (acc.map bG)) (fun u st=>aD C aR aj u st fun r fs=>r=(dR (aB n))∧fs=[])) ?_ ?_
  ·intro acc h0 h1
   refine zu _ _ _ _ (av cE (JA _ _ _ _ _ ?_));rw[fF] at h0 h1;simp only[List.foldl_nil] at h1;refine⟨_,uM acc az,?_⟩;rw[h1];exact fG
  ·intro i a hi ha hd ht hn acc h0 h1
   refine zu _ _ _ _ (aa ie ?_);rw[hd] at h0 h1;simp only[tot,cw] at h0;simp only[E1,KL acc a az,aN,ha,bq,eT,eC,bY,fe,gL,dM,fh,dF,fj,fk,gP,cO,natAdd,cn,cT,fY,dz,jz];rw[aO az];have h2:=uI a acc;exact hn _ az (by rw[←h1];rfl)
 exact key [] cE rfl
theorem eA (n:List (List Key)) (hb:n.length≤1073741824) (hl:tot cw n≤1073741824) (q:RR):ai C aR [.ag [.sub 1 (n.map eP)]] (.c (.sub 5 q)) []↔q=(aB n).map bG:=Xe (y5 n hb hl)
theorem jf (t:Tree) (hl:dx t≤1073741824):ai C dP [eD t] (dR (ay t)) []:=by
 refine(Ns _ _ _ ?_).run
 have key: ∀(acc:List Key),acc.length+tot aV (t.nodes.drop 0)≤tot aV t.nodes→acc++(t.nodes.drop 0).flatMap aB=ay t→ah C dP aj 4 0 (nc ((0:Nat):Int) (t.ax.map bI) (t.nodes.map aX) (acc.map bG)) (fun u st=>aD C dP aj u st fun r fs=>r=(dR (ay t))∧fs=[]):=by
  refine bP t.nodes (fun i=> ∀(acc:List Key),acc.length+tot aV (t.nodes.drop i)≤tot aV t.nodes→acc++(t.nodes.drop i).flatMap aB=ay t→ah C dP aj 4 0 (nc i (t.ax.map bI) (t.nodes.map aX) (acc.map bG)) (fun u st=>aD C dP aj u st fun r fs=>r=(dR (ay t))∧fs=[])) ?_ ?_
  ·intro acc h0 h1
   refine zA _ _ _ _ _ (av cE (JH _ _ _ _ _ _ ?_));rw[fF] at h1;simp at h1;simp[h1]
  ·intro i a hi ha hd ht hn acc h0 h1
   refine zA _ _ _ _ _ (aa (by have:=hi;unfold dx wq at hl;simp;omega) ?_);have hz:a.length+tot cw a≤tot aV t.nodes:=mX (w:=aV) ha;rw[hd] at h0 h1;simp only[tot,aV] at h0;unfold dx wq at hl;have h2:=cR a;simp only[aaM,BT,eA a az az,lM,aN,ha,bq,eT,eC,bY,fe,gL,dM,fh,dF,fj,fk,gP,cO,natAdd,cn,cT,fY,dz,jz];rw[cM az,aO az];refine aa rfl ?_;rw[←ED];exact hn _ ie (by rw[←h1];simp)
 exact key [] cE rfl
theorem Mr (t:Tree) (b:Int) (hl:dx t≤1073741824):ai C iU [eD t,vI b] (dR (hJ t b)) []:=by
 refine(So _ _ _ _ ?_).run;refine⟨_,jf t hl,?_⟩
 have key: ∀(acc:List Key),acc.length+((ay t).drop 0).length≤(ay t).length→acc++((ay t).drop 0).filter (fun k=>decide (k.b=b))=hJ t b→ah C iU aH 4 0 (mK b ((0:Nat):Int) (acc.map bG) ((ay t).map bG)) (fun u st=>aD C iU aH u st fun r fs=>r=(dR (hJ t b))∧fs=[]):=by
  refine bP (ay t) (fun i=> ∀(acc:List Key),acc.length+((ay t).drop i).length≤(ay t).length→acc++((ay t).drop i).filter (fun k=>decide (k.b=b))=hJ t b→ah C iU aH 4 0 (mK b i (acc.map bG) ((ay t).map bG)) (fun u st=>aD C iU aH u st fun r fs=>r=(dR (hJ t b))∧fs=[])) ?_ ?_
  ·intro acc h0 h1
   refine DP _ _ _ _ _ (av cE (Nf _ _ _ _ _ _ ?_));rw[fF] at h1;simp at h1;simp[h1]
  ·intro i a hi ha hd ht hn acc h0 h1
   refine DP _ _ _ _ _ (aa ie ?_);rw[hd] at h0 h1;simp only[g7] at h0;have hz:=gZ t;simp only[nr,yP,oy,bV,cq,aN,ha,bq,eT,eC,bY,fe,gL,dM,fh,dF,fj,fk,gP,cO,natAdd,cn,cT,fY,dz,jz];simp (disch:=omega) only[cM,aO,mC]
   by_cases hk:a.b=b
   ·rw[aT hk]
    exact hn (acc++[a]) (by simp only[cT,fY];omega) (by rw[←h1];simp[hk])
   ·rw[aK hk]
    exact hn _ az (by rw[←h1];simp[hk])
 exact key [] cE rfl
theorem Jh (l:List Key) (hl:l.length≤2147483648):ai C Ab [dR l] (dR l) []:=by
 refine(Nt _ _ ?_).run;rw[lM,cM ie];exact fG
theorem HS (old new:List Key) (hl:old.length+new.length≤1073741824):ai C fW [dR old,dR new] (dR (ct old new)) []:=by
 refine(Lf _ _ _ ?_).run;refine⟨_,Jh old az,?_⟩
 have key: ∀(acc:List Key),acc.length+(new.drop 0).length≤old.length+new.length→ct acc (new.drop 0)=ct old new→ah C fW aj 4 0 (mo (new.map bG) ((0:Nat):Int) (acc.map bG)) (fun u st=>aD C fW aj u st fun r fs=>r=(dR (ct old new))∧fs=[]):=by
  refine bP new (fun i=> ∀(acc:List Key),acc.length+(new.drop i).length≤old.length+new.length→ct acc (new.drop i)=ct old new→ah C fW aj 4 0 (mo (new.map bG) i (acc.map bG)) (fun u st=>aD C fW aj u st fun r fs=>r=(dR (ct old new))∧fs=[])) ?_ ?_
  ·intro acc h0 h1
   refine x8 _ _ _ _ (av cE (H9 _ _ _ _ _ _ ?_));rw[fF] at h1;rw[←h1];exact fG
  ·intro i a hi ha hd ht hn acc h0 h1
   refine x8 _ _ _ _ (aa ie ?_);rw[hd] at h0 h1;simp only[g7] at h0;simp only[nr,RL acc az,aN,ha,bq,eT,eC,bY,fe,gL,dM,fh,dF,fj,fk,gP,cO,natAdd,cn,cT,fY,dz,jz];rw[aO az];have h2:=lZ acc a;exact hn _ az (by rw[←h1];rfl)
 exact key old cE rfl
theorem KM (old new:List Key) (hl:old.length+new.length≤1073741824) (q:RR):ai C fW [dR old,dR new] (.c (.sub 5 q)) []↔q=(ct old new).map bG:=Xe (HS old new hl)
theorem RM (l:List Key) (hl:l.length≤1073741824):ai C lN [dR l] (dR (ko l)) []:=by
 refine(Yn _ _ ?_).run
 have key: ∀(acc:List Key),acc.length+(l.drop 0).length≤l.length→acc++ko (l.drop 0)=ko l→ah C lN aj 4 0 (o6 (l.map bG) ((0:Nat):Int) (acc.map bG)) (fun u st=>aD C lN aj u st fun r fs=>r=(dR (ko l))∧fs=[]):=by
  refine bP l (fun i=> ∀(acc:List Key),acc.length+(l.drop i).length≤l.length→acc++ko (l.drop i)=ko l→ah C lN aj 4 0 (o6 (l.map bG) i (acc.map bG)) (fun u st=>aD C lN aj u st fun r fs=>r=(dR (ko l))∧fs=[])) ?_ ?_
  ·intro acc h0 h1
   refine G5 _ _ _ _ (av cE (Sy _ _ _ _ _ _ ?_));rw[fF] at h1;simp[ko] at h1;simp[ko,h1]
  ·intro i a hi ha hd ht hn acc h0 h1
   refine G5 _ _ _ _ (aa ie ?_);rw[hd] at h0 h1;simp only[g7] at h0;simp only[nr,yP,oy,bV,cq,aN,ha,bq,eT,eC,bY,fe,gL,dM,fh,dF,fj,fk,gP,cO,natAdd,cn,cT,fY,dz,jz];simp (disch:=omega) only[cM,aO,mC]
   by_cases hk:a.k=0
   ·rw[aT hk]
    exact hn _ az (by rw[←h1];simp[ko,hk])
   ·rw[aK hk]
    exact hn (acc++[a]) (by simp only[cT,fY];omega) (by rw[←h1];simp[ko,hk])
 exact key [] cE rfl
theorem Ji (n:List (List Key)) (hb:n.length≤1073741824) (hl:tot cw n≤1073741824):ai C eR [mW n] (dR (aB n)) []:=by
 refine(Na _ _ ?_).run
 have key: ∀(acc:List Key),acc.length+tot cw (n.drop 0)≤tot cw n→(n.drop 0).foldl ct acc=sC n→ah C eR aj 4 0 (m8 (n.map eP) ((0:Nat):Int) (acc.map bG)) (fun u st=>aD C eR aj u st fun r fs=>r=(dR (aB n))∧fs=[]):=by
  refine bP n (fun i=> ∀(acc:List Key),acc.length+tot cw (n.drop i)≤tot cw n→(n.drop i).foldl ct acc=sC n→ah C eR aj 4 0 (m8 (n.map eP) i (acc.map bG)) (fun u st=>aD C eR aj u st fun r fs=>r=(dR (aB n))∧fs=[])) ?_ ?_
  ·intro acc h0 h1
   refine zy _ _ _ _ (av cE (JF _ _ _ _ _ _ ?_));rw[fF] at h0 h1;simp only[List.foldl_nil] at h1;refine⟨_,RM acc az,?_⟩;rw[h1];exact fG
  ·intro i a hi ha hd ht hn acc h0 h1
   refine zy _ _ _ _ (aa ie ?_);rw[hd] at h0 h1;simp only[tot,cw] at h0;simp only[E1,KM acc a az,aN,ha,bq,eT,eC,bY,fe,gL,dM,fh,dF,fj,fk,gP,cO,natAdd,cn,cT,fY,dz,jz];rw[aO az];have h2:=uI a acc;exact hn _ az (by rw[←h1];rfl)
 exact key [] cE rfl
theorem Cr (n:List (List Key)) (hb:n.length≤1073741824) (hl:tot cw n≤1073741824) (q:RR):ai C eR [.ag [.sub 1 (n.map eP)]] (.c (.sub 5 q)) []↔q=(aB n).map bG:=Xe (Ji n hb hl)
theorem y6 (t:Tree) (hl:dx t≤1073741824):ai C gq [eD t] (dR (ay t)) []:=by
 refine(Nr _ _ _ ?_).run
 have key: ∀(acc:List Key),acc.length+tot aV (t.nodes.drop 0)≤tot aV t.nodes→acc++(t.nodes.drop 0).flatMap aB=ay t→ah C gq aj 4 0 (m9 (t.nodes.map aX) ((0:Nat):Int) (acc.map bG)) (fun u st=>aD C gq aj u st fun r fs=>r=(dR (ay t))∧fs=[]):=by
  refine bP t.nodes (fun i=> ∀(acc:List Key),acc.length+tot aV (t.nodes.drop i)≤tot aV t.nodes→acc++(t.nodes.drop i).flatMap aB=ay t→ah C gq aj 4 0 (m9 (t.nodes.map aX) i (acc.map bG)) (fun u st=>aD C gq aj u st fun r fs=>r=(dR (ay t))∧fs=[])) ?_ ?_
  ·intro acc h0 h1
   refine zz _ _ _ _ (av cE (JG _ _ _ _ _ _ ?_));rw[fF] at h1;simp at h1;simp[h1]
  ·intro i a hi ha hd ht hn acc h0 h1
   refine zz _ _ _ _ (aa (by have:=hi;unfold dx wq at hl;simp;omega) ?_);have hz:a.length+tot cw a≤tot aV t.nodes:=mX (w:=aV) ha;rw[hd] at h0 h1;simp only[tot,aV] at h0;unfold dx wq at hl;have h2:=cR a;simp only[aaM,BT,Cr a az az,lM,aN,ha,bq,eT,eC,bY,fe,gL,dM,fh,dF,fj,fk,gP,cO,natAdd,cn,cT,fY,dz,jz];rw[cM az,aO az];refine aa rfl ?_;rw[←ED];exact hn _ ie (by rw[←h1];simp)
 exact key [] cE rfl
theorem Ms (t:Tree) (b:Int) (hl:dx t≤1073741824):ai C iT [eD t,vI b] (dR (hJ t b)) []:=by
 refine(R9 _ _ _ _ ?_).run;refine⟨_,y6 t hl,?_⟩
 have key: ∀(acc:List Key),acc.length+((ay t).drop 0).length≤(ay t).length→acc++((ay t).drop 0).filter (fun k=>decide (k.b=b))=hJ t b→ah C iT aj 4 0 (mJ b ((ay t).map bG) ((0:Nat):Int) (acc.map bG)) (fun u st=>aD C iT aj u st fun r fs=>r=(dR (hJ t b))∧fs=[]):=by
  refine bP (ay t) (fun i=> ∀(acc:List Key),acc.length+((ay t).drop i).length≤(ay t).length→acc++((ay t).drop i).filter (fun k=>decide (k.b=b))=hJ t b→ah C iT aj 4 0 (mJ b ((ay t).map bG) i (acc.map bG)) (fun u st=>aD C iT aj u st fun r fs=>r=(dR (hJ t b))∧fs=[])) ?_ ?_
  ·intro acc h0 h1
   refine DA _ _ _ _ _ (av cE (MT _ _ _ _ _ _ _ ?_));rw[fF] at h1;simp at h1;simp[h1]
  ·intro i a hi ha hd ht hn acc h0 h1
   refine DA _ _ _ _ _ (aa ie ?_);rw[hd] at h0 h1;simp only[g7] at h0;have hz:=gZ t;simp only[nr,yP,oy,bV,cq,aN,ha,bq,eT,eC,bY,fe,gL,dM,fh,dF,fj,fk,gP,cO,natAdd,cn,cT,fY,dz,jz];simp (disch:=omega) only[cM,aO,mC]
   by_cases hk:a.b=b
   ·rw[aT hk]
    exact hn (acc++[a]) (by simp only[cT,fY];omega) (by rw[←h1];simp[hk])
   ·rw[aK hk]
    exact hn _ az (by rw[←h1];simp[hk])
 exact key [] cE rfl
theorem nO (l:List mw) (id:Int) (hl:l.length≤1073741824):ai C dG [lX l,vI id] (vI (fJ l id)) []:=by
 refine(VL _ _ _ ?_).run
 have key:eZ (fun a:mw=>decide (a.id=id)) (l.drop 0) ((0:Nat):Int)=eZ (fun a:mw=>decide (a.id=id)) l 0→ah C dG an 4 0 (qg (l.map bS) id ((0:Nat):Int)) (fun u st=>aD C dG an u st fun r fs=>r=vI (fJ l id)∧fs=[]):=by
  refine bP l (fun i=>eZ (fun a:mw=>decide (a.id=id)) (l.drop i) (i:Int)=eZ (fun a:mw=>decide (a.id=id)) l 0→ah C dG an 4 0 (qg (l.map bS) id i) _) ?_ ?_
  ·intro h0
   refine FM _ _ _ _ (av cE (QA _ _ _ _ _ ?_));rw[fF] at h0;simp only[eZ] at h0;change _=vI (eZ (fun a:mw=>decide (a.id=id)) l 0)∧_;rw[←h0];exact fG
  ·intro i a hi ha hd yt hn h0
   refine FM _ _ _ _ (aa ie ?_);rw[hd] at h0;simp only[eZ] at h0;simp only[xp,bV,cq,aN,ha,bq,eT,eC,bY,fe,gL,dM,fh,dF,fj,fk,gP,cO,natAdd,cn,cT,fY,dz,jz];rw[aO az]
   split at h0
   ·rename_i hp
    have hp:=qM hp
    first|rw[aT hp]|rw[aT hp.symm]
    refine Qz _ _ ?_;rw[h0];exact fG
   ·rename_i hp
    have hp: ¬_:=fun h=>hp (iK h)
    first|rw[aK hp]|rw[aK (fun h=>hp h.symm)]
    exact hn h0
 exact key rfl
@[simp] theorem P6 (a b id:Int) (q:Bool):ai C wI [.ag [iI a,iI b],.bx [iI id]] (vB q) []↔q=decide (a=id):=sO (by
  refine(QI _ _ _ _ ?_).run
  simp)
theorem RN (l:List mw) (id:Int) (hl:l.length≤1073741824):ai C de [lX l,.fn wI [[iI id]]] (vI (fJ l id)) []:=by
 refine(rF _ _ _ ?_).run
 have key:eZ (fun a:mw=>decide (a.id=id)) (l.drop 0) ((0:Nat):Int)=eZ (fun a:mw=>decide (a.id=id)) l 0→ah C de an 4 0 (dO (l.map bS) ((0:Nat):Int) id) (fun u st=>aD C de an u st fun r fs=>r=vI (fJ l id)∧fs=[]):=by
  refine bP l (fun i=>eZ (fun a:mw=>decide (a.id=id)) (l.drop i) (i:Int)=eZ (fun a:mw=>decide (a.id=id)) l 0→ah C de an 4 0 (dO (l.map bS) i id) _) ?_ ?_
  ·intro h0
   refine kH _ _ _ _ (av cE (qF _ _ _ _ _ _ ?_));rw[fF] at h0;simp only[eZ] at h0;change _=vI (eZ (fun a:mw=>decide (a.id=id)) l 0)∧_;rw[←h0];exact fG
  ·intro i a hi ha hd yt hn h0
   refine kH _ _ _ _ (aa ie ?_);rw[hd] at h0;simp only[eZ] at h0;simp only[xp,bV,P6,cq,aN,ha,bq,eT,eC,bY,fe,gL,dM,fh,dF,fj,fk,gP,cO,natAdd,cn,cT,fY,dz,jz];rw[aO az]
   split at h0
   ·rename_i hp
    have hp:=qM hp
    first|rw[aT hp]|rw[aT hp.symm]
    refine qE _ _ _ ?_;rw[h0];exact fG
   ·rename_i hp
    have hp: ¬_:=fun h=>hp (iK h)
    first|rw[aK hp]|rw[aK (fun h=>hp h.symm)]
    exact hn h0
 exact key rfl
theorem Fl (l:List mw) (id:Int) (hl:l.length≤1073741824):ai C kK [lX l,vI id] (vI (fJ l id)) []:=(V0 _ _ _ ⟨_,RN l id hl,rfl,by trivial⟩).run
theorem Ce (l:List mw) (id:Int) (hl:l.length≤1073741824) (q:Int):ai C dG [lX l,vI id] (vI q) []↔q=fJ l id:=adM (nO l id hl)
theorem Cg (l:List mw) (id:Int) (hl:l.length≤1073741824) (q:Int):ai C kK [lX l,vI id] (vI q) []↔q=fJ l id:=adM (Fl l id hl)
theorem Cs (l:List mw) (id:Int) (hl:l.length≤1073741824):ai C jl [lX l,vI id] (qP (pathOf l id)) []:=by
 refine(Su _ _ _ ⟨_,nO l id hl,?_⟩).run
 have key: ∀(n:Nat) (id':Int) (acc:List Int),acc.length+n=l.length+1→acc++E2 l n id'=pathOf l id→ah C jl nQ 4 0 (rY (l.map bS) (fJ l id') (acc.map bI)) (fun u st=>aD C jl nQ u st fun r fs=>r=qP (pathOf l id)∧fs=[]):=by
  intro n
  induction n with
  |zero=>
   intro id' acc h0 h1;simp only[E2,nG] at h1;refine vJ _ _ _ _ (bA (fun _=> ?_) fun _=>DR _ _ _ _ (by rw[h1];exact fG));exact av ie (Nj _ _ _ _ _ (by rw[h1];exact fG))
  |succ n ih=>
   intro id' acc h0 h1;simp only[E2] at h1
   by_cases h:fJ l id'<0
   ·rw[aT h,nG] at h1
    exact vJ _ _ _ _ (av ie (DR _ _ _ _ (by rw[h1];exact fG)))
   ·rw[aK h] at h1
    obtain⟨a,ha,he⟩:=Kw l id' h;rw[ha] at h1;refine vJ _ _ _ _ (aa ie (aa ie ?_));simp only[xp,ha,bq,eT,Kv,dz,cO,cn];rw[cM az];refine aa rfl ⟨_,nO l a.fr hl,?_⟩
    (try dsimp only)
    rw[IZ];exact ih a.fr (acc++[a.id]) ie (by rw[←h1,he];simp)
 exact key (l.length+1) id [] cE rfl
theorem Mt (l:List mw) (id:Int) (hl:l.length≤1073741824):ai C j5 [lX l,vI id] (qP (pathOf l id)) []:=by
 refine(Sf _ _ _ ?_).run
 have key: ∀(n:Nat) (id':Int) (acc:List Int) (k:Nat),k+n=l.length+1→acc.length=k→acc++E2 l n id'=pathOf l id→ah C j5 aj 4 0 (rT (l.map bS) id' k (acc.map bI)) (fun u st=>aD C j5 aj u st fun r fs=>r=qP (pathOf l id)∧fs=[]):=by
  intro n
  induction n with
  |zero=>
   intro id' acc k h0 h2 h1;simp only[E2,nG] at h1;refine DH _ _ _ _ _ (av ?_ (M5 _ _ _ _ _ _ _ (by rw[h1];exact fG)));rw[aO ie];simp;omega
  |succ n ih=>
   intro id' acc k h0 h2 h1;simp only[E2] at h1;refine DH _ _ _ _ _ (aa (by rw[aO ie];simp;omega) ⟨_,Fl l id' hl,?_⟩)
   by_cases h:fJ l id'<0
   ·rw[aT h,nG] at h1
    exact aa ie (M4 _ _ _ _ _ _ _ _ (by rw[h1];exact fG))
   ·rw[aK h] at h1
    obtain⟨a,ha,he⟩:=Kw l id' h;rw[ha] at h1;refine av ie ?_;simp only[xp,ha,bq,eT,Kv,dz,cO,cn];rw[cM az];refine aa rfl ?_;rw[IZ,aO az];exact ih a.fr (acc++[id']) (k+1) az ie (by rw[←h1];simp)
 exact key (l.length+1) id [] 0 cE rfl rfl
theorem P7 (l:List Int) (n:Int) (hl:l.length≤1073741824):ai C jI [qP l,vI n] (vB (Gt l n)) []:=by
 refine(VJ _ _ _ ?_).run
 have key:(l.drop 0).any (fun a:Int=>decide (a=n))=l.any (fun a:Int=>decide (a=n))→ah C jI an 4 0 (qf (l.map bI) n ((0:Nat):Int)) (fun u st=>aD C jI an u st fun r fs=>r=vB (Gt l n)∧fs=[]):=by
  refine bP l (fun i=>(l.drop i).any (fun a:Int=>decide (a=n))=l.any (fun a:Int=>decide (a=n))→ah C jI an 4 0 (qf (l.map bI) n i) _) ?_ ?_
  ·intro h0
   refine FL _ _ _ _ (av cE (Qx _ _ _ _ _ ?_));rw[fF] at h0;simp only[List.any_nil] at h0;show _=vB (Gt l n)∧_
   first|unfold Gt|unfold og|skip
   rw[←h0];exact fG
  ·intro i a hi ha hd yt hn h0
   refine FL _ _ _ _ (aa ie ?_);rw[hd] at h0;simp only[List.any_cons] at h0;simp only[zW,bV,cq,aN,ha,bq,eT,eC,bY,fe,gL,dM,fh,dF,fj,fk,gP,cO,natAdd,cn,cT,fY,dz,jz];rw[aO az]
   split
   ·rename_i hp
    refine Qw _ ?_
    have e:l.any (fun a:Int=>decide (a=n))=true:=by rw[←h0];simp[hp]
    first|unfold Gt|unfold og|skip
    rw[e];exact fG
   ·rename_i hp
    exact hn (by simpa [hp] using h0)
 exact key rfl
theorem Ag (p:bg) (id:Int) (hl:p.aq.length≤1073741824):ai C jH [dK p,vI id] (vB (og p.aq id)) []:=by
 refine(Yq _ _ _ _ _ _ _ _ ?_).run
 have key:(p.aq.drop 0).any (fun v:jU=>decide (v.dJ=id))=p.aq.any (fun v:jU=>decide (v.dJ=id))→ah C jH an 4 0 (rD id ((0:Nat):Int) (p.t.ax.map bI) (p.t.nodes.map aX) (p.aU.map bS) (p.cells.map bR) (p.aq.map cj) p.next) (fun u st=>aD C jH an u st fun r fs=>r=vB (og p.aq id)∧fs=[]):=by
  refine bP p.aq (fun i=>(p.aq.drop i).any (fun v:jU=>decide (v.dJ=id))=p.aq.any (fun v:jU=>decide (v.dJ=id))→ah C jH an 4 0 (rD id i (p.t.ax.map bI) (p.t.nodes.map aX) (p.aU.map bS) (p.cells.map bR) (p.aq.map cj) p.next) _) ?_ ?_
  ·intro h0
   refine G7 _ _ _ _ _ _ _ _ _ (av cE (SX _ _ _ _ _ _ _ _ _ _ ?_));rw[fF] at h0;simp only[List.any_nil] at h0;show _=vB (og p.aq id)∧_
   first|unfold Gt|unfold og|skip
   rw[←h0];exact fG
  ·intro i a hi ha hd yt hn h0
   refine G7 _ _ _ _ _ _ _ _ _ (aa ie ?_);rw[hd] at h0;simp only[List.any_cons] at h0;simp only[vp,bV,cq,aN,ha,bq,eT,eC,bY,fe,gL,dM,fh,dF,fj,fk,gP,cO,natAdd,cn,cT,fY,dz,jz];rw[aO az]
   split
   ·rename_i hp
    refine SW _ _ _ _ _ _ _ ?_
    have e:p.aq.any (fun v:jU=>decide (v.dJ=id))=true:=by rw[←h0];simp[hp]
    first|unfold Gt|unfold og|skip
    rw[e];exact fG
   ·rename_i hp
    exact hn (by simpa [hp] using h0)
 exact key rfl
theorem X6 (l:List Int) (n:Int) (hl:l.length≤1073741824):ai C e9 [qP l,vI n] (vI (eZ (fun a:Int=>decide (a=n)) l 0)) []:=by
 refine(Ib _ _ _ ?_).run
 have key:eZ (fun a:Int=>decide (a=n)) (l.drop 0) ((0:Nat):Int)=eZ (fun a:Int=>decide (a=n)) l 0→ah C e9 an 4 0 (j8 (l.map bI) n ((0:Nat):Int)) (fun u st=>aD C e9 an u st fun r fs=>r=vI (eZ (fun a:Int=>decide (a=n)) l 0)∧fs=[]):=by
  refine bP l (fun i=>eZ (fun a:Int=>decide (a=n)) (l.drop i) (i:Int)=eZ (fun a:Int=>decide (a=n)) l 0→ah C e9 an 4 0 (j8 (l.map bI) n i) _) ?_ ?_
  ·intro h0
   refine vk _ _ _ _ (av cE (FQ _ _ _ _ _ _ ?_));rw[fF] at h0;simp only[eZ] at h0;change _=vI (eZ (fun a:Int=>decide (a=n)) l 0)∧_;rw[←h0];exact fG
  ·intro i a hi ha hd yt hn h0
   refine vk _ _ _ _ (aa ie ?_);rw[hd] at h0;simp only[eZ] at h0;simp only[zW,bV,cq,aN,ha,bq,eT,eC,bY,fe,gL,dM,fh,dF,fj,fk,gP,cO,natAdd,cn,cT,fY,dz,jz];rw[aO az]
   split at h0
   ·rename_i hp
    have hp:=qM hp
    first|rw[aT hp]|rw[aT hp.symm]
    refine FP _ _ ?_;rw[h0];exact fG
   ·rename_i hp
    have hp: ¬_:=fun h=>hp (iK h)
    first|rw[aK hp]|rw[aK (fun h=>hp h.symm)]
    exact hn h0
 exact key rfl
theorem Vt (l:List Int) (n:Int) (hl:l.length≤1073741824):ai C nF [qP l,vI n] (vB (Gt l n)) []:=by
 refine(Ew _ _ _ ⟨_,X6 l n hl,?_⟩).run
 (try dsimp only)
 rw[iA,IX _ _ _ az];exact fG
theorem Ct (t:Tree) (b:Int) (path:List Int) (hl:dx t≤1073741824) (hp:path.length≤1073741824):ai C gu [eD t,vI b,qP path] (Zo (near (hJ t b) path)) []:=by
 refine(Sn _ _ _ _ _ ?_).run;refine⟨_,Mr t b hl,?_⟩
 have key: ∀(pr:Key×Bool),((hJ t b).drop 0).foldl (IY path) pr=near (hJ t b) path→ah C gu dg 4 0 (jn (path.map bI) pr.2 ((0:Nat):Int) pr.1.b pr.1.a pr.1.k pr.1.c pr.1.g ((hJ t b).map bG)) (fun u st=>aD C gu dg u st fun r fs=>r=(Zo (near (hJ t b) path))∧fs=[]):=by
  refine bP (hJ t b) (fun i=> ∀(pr:Key×Bool),((hJ t b).drop i).foldl (IY path) pr=near (hJ t b) path→ah C gu dg 4 0 (jn (path.map bI) pr.2 i pr.1.b pr.1.a pr.1.k pr.1.c pr.1.g ((hJ t b).map bG)) (fun u st=>aD C gu dg u st fun r fs=>r=(Zo (near (hJ t b) path))∧fs=[])) ?_ ?_
  ·intro pr h0
   refine DO _ _ _ _ _ _ _ _ _ _ (av cE (Nc _ _ _ _ _ _ _ _ _ _ _ ?_));rw[fF] at h0;simp only[List.foldl_nil] at h0;rw[h0];exact fG
  ·intro i a hi ha hd ht hn pr h0
   have hk:=Px t b;have hz:=gZ t;refine DO _ _ _ _ _ _ _ _ _ _ (aa ie ?_);rw[hd] at h0;simp only[List.foldl_cons] at h0;obtain⟨bk,bf⟩:=pr;have hh: ∀q,ai C jI [qP path,vI a.a] (vB q) []↔q=Gt path a.a:=fun q=>sO (P7 path a.a hp);simp only[nr,hh,jb,cq,aN,ha,bq,eT,eC,bY,fe,gL,dM,fh,dF,fj,fk,gP,cO,natAdd,cn,cT,fY,dz,jz];rw[aO az]
   have e:IY path (bk,bf) a=if Gt path a.a&&(!bf||decide (bk.a<a.a)) then(a,true) else(bk,bf):=rfl
   rw[e] at h0
   cases h1:Gt path a.a<;>cases bf<;>by_cases h2:bk.a<a.a<;>simp[h1,h2] at h0 ⊢ <;>first|exact hn (a,true) h0|exact hn (bk,false) h0|exact hn (bk,true) h0
 exact key (eX,false) rfl
theorem Mu (t:Tree) (b:Int) (path:List Int) (hl:dx t≤1073741824) (hp:path.length≤1073741824):ai C gR [eD t,vI b,qP path] (Zo (near (hJ t b) path)) []:=by
 refine(Sz _ _ _ _ _ ?_).run;refine⟨_,Ms t b hl,?_⟩
 have key: ∀(pr:Key×Bool),((hJ t b).drop 0).foldl (IY path) pr=near (hJ t b) path→ah C gR aj 4 0 (jq (path.map bI) pr.2 ((hJ t b).map bG) ((0:Nat):Int) pr.1.b pr.1.a pr.1.k pr.1.c pr.1.g) (fun u st=>aD C gR aj u st fun r fs=>r=(Zo (near (hJ t b) path))∧fs=[]):=by
  refine bP (hJ t b) (fun i=> ∀(pr:Key×Bool),((hJ t b).drop i).foldl (IY path) pr=near (hJ t b) path→ah C gR aj 4 0 (jq (path.map bI) pr.2 ((hJ t b).map bG) i pr.1.b pr.1.a pr.1.k pr.1.c pr.1.g) (fun u st=>aD C gR aj u st fun r fs=>r=(Zo (near (hJ t b) path))∧fs=[])) ?_ ?_
  ·intro pr h0
   refine DW _ _ _ _ _ _ _ _ _ _ (av cE (Nu _ _ _ _ _ _ _ _ _ _ _ _ ?_));rw[fF] at h0;simp only[List.foldl_nil] at h0;rw[h0];exact fG
  ·intro i a hi ha hd ht hn pr h0
   have hk:=Px t b;have hz:=gZ t;refine DW _ _ _ _ _ _ _ _ _ _ (aa ie ?_);rw[hd] at h0;simp only[List.foldl_cons] at h0;obtain⟨bk,bf⟩:=pr;have hh: ∀q,ai C nF [qP path,vI a.a] (vB q) []↔q=Gt path a.a:=fun q=>sO (Vt path a.a hp);simp only[nr,hh,jb,cq,aN,ha,bq,eT,eC,bY,fe,gL,dM,fh,dF,fj,fk,gP,cO,natAdd,cn,cT,fY,dz,jz];rw[aO az]
   have e:IY path (bk,bf) a=if Gt path a.a&&(!bf||decide (bk.a<a.a)) then(a,true) else(bk,bf):=rfl
   rw[e] at h0
   cases h1:Gt path a.a<;>cases bf<;>by_cases h2:bk.a<a.a<;>simp[h1,h2] at h0 ⊢ <;>first|exact hn (a,true) h0|exact hn (bk,false) h0|exact hn (bk,true) h0
 exact key (eX,false) rfl
@[simp] theorem uN (a:Int) (q:Bool):ai C iR [vI a] (vB q) []↔q=lz a:=sO ((SJ _ _ ⟨_,m6 _ _ _,rfl,by trivial⟩).run)
theorem vt (l:List Cell) (i gen:Int) (hl:l.length≤1073741824):ai C sJ [mE l,vI i,vI gen] (tIB (cellAt l i gen)) []:=by
 refine(SY _ _ _ _ ?_).run;simp only[Af,eC,cn,oD,bY,qp];rw[dL az]
 by_cases h:0≤i∧i<l.length
 ·obtain⟨a,ha⟩:=gj h.1 h.2
  have e:g8 i 0 ((l.length:Int)-1)=true:=iK az;simp only[e,mC,ha,bq,eT,bV,cq,cellAt]
  cases h1:a.u<;>by_cases h2:a.g=gen<;>simp[h1,h2]
 ·have e:g8 i 0 ((l.length:Int)-1)=false:=iZ az
  have hn:eI l i=none:=jF h;simp[e,cellAt,hn]
theorem RO (l:List Cell) (hl:l.length≤1073741824) (i gen:Int) (n:Int) (q:Bool):ai C sJ [mE l,vI i,vI gen] (.tu [(0,[iI n]),(0,[iB q])]) []↔n=(cellAt l i gen).1∧q=(cellAt l i gen).2:=ag8 (vt l i gen hl)
theorem HT (l:List Cell) (hl:l.length≤1073741824):ai C fU [mE l] (vI (bX l)) []:=by
 refine(LB _ _ ?_).run
 have key: ∀(n:Nat),n+(l.drop 0).length≤l.length→n+bX (l.drop 0)=bX l→ah C fU aj 4 0 (jQ (l.map bR) n ((0:Nat):Int)) (fun u st=>aD C fU aj u st fun r fs=>r=(vI (bX l))∧fs=[]):=by
  refine bP l (fun i=> ∀(n:Nat),n+(l.drop i).length≤l.length→n+bX (l.drop i)=bX l→ah C fU aj 4 0 (jQ (l.map bR) n i) (fun u st=>aD C fU aj u st fun r fs=>r=(vI (bX l))∧fs=[])) ?_ ?_
  ·intro n h0 h1
   refine ye _ _ _ _ (av cE (Ie _ _ _ _ _ ?_));rw[fF] at h1;simp[bX] at h1;simp[h1,bX]
  ·intro i a hi ha hd ht hn n h0 h1
   refine ye _ _ _ _ (aa ie ?_);rw[hd] at h0 h1;simp only[g7] at h0;simp only[qp,aN,ha,bq,eT,eC,bY,fe,gL,dM,fh,dF,fj,fk,gP,cO,natAdd,cn,cT,fY,dz,jz];rw[aO az,aO az]
   cases hu:a.u
   ·exact hn n az (by rw[←h1];simp[bX,hu])
   ·exact hn (n+1) az (by rw[←h1];simp[bX,hu];omega)
 exact key 0 cE cE
theorem KN (l:List Cell) (hl:l.length≤1073741824):ai C ei [mE l] (vB ((l.all jv&&decide (l.length=24)))) []:=by
 refine(Q3 _ _ ?_).run
 have key:((l.drop 0).all jv&&decide (l.length=24))=(l.all jv&&decide (l.length=24))→ah C ei an 4 0 (jM (l.map bR) ((0:Nat):Int)) (fun u st=>aD C ei an u st fun r fs=>r=vB ((l.all jv&&decide (l.length=24)))∧fs=[]):=by
  refine bP l (fun i=>((l.drop i).all jv&&decide (l.length=24))=(l.all jv&&decide (l.length=24))→ah C ei an 4 0 (jM (l.map bR) i) (fun u st=>aD C ei an u st fun r fs=>r=vB ((l.all jv&&decide (l.length=24)))∧fs=[])) ?_ ?_
  ·intro h0
   refine Bn _ _ _ (av cE (Lq _ _ _ _ ?_));rw[fF] at h0;simp only[oE,dz] at h0;rw[←h0];simp[bV]
   try omega
  ·intro i a hi ha hd yt hn h0
   have gO:jv a=false→(l.all jv&&decide (l.length=24))=false:=fun e=>by rw[←h0,hd];simp[e]
   have gN:jv a=true→ah C ei an 4 0 (jM (l.map bR) ((i:Int)+1)) (fun u st=>aD C ei an u st fun r fs=>r=vB ((l.all jv&&decide (l.length=24)))∧fs=[]):=fun e=>hn (by rw[←h0,hd];simp[e]);refine Bn _ _ _ (aa ie ?_);simp only[qp,Af,uN,bV,aN,ha,bq,eT,eC,bY,fe,gL,dM,fh,dF,fj,fk,gP,cO,natAdd,cn,cT,fY,dz,jz];rw[aO az]
   cases h1:g8 a.g 0 999<;>cases h2:lz a.n<;>cases h3:a.u<;>by_cases h4:a.n=0<;>simp only[h1,h2,h3,h4,mC,tW,decide_true,decide_false,not_true_eq_false,not_false_eq_true,LL,Bool.not_false]<;>first|exact gN (by unfold jv;rw[h1,h2,h3];simp[h4])|exact Lo _ (by rw[gO (by unfold jv;rw[h1,h2,h3];simp[h4])];exact fG)
 exact key rfl
theorem xI (l:List Cell) (hl:l.length≤1073741824) (q:Bool):ai C ei [mE l] (vB q) []↔q=fE l:=sO (KN l hl)
@[simp] theorem RP (a:Int) (q:Bool):ai C Ff [vI a] (vB q) []↔q=lz a:=sO ((SL _ _ ⟨_,qe _ _ _,rfl,by trivial⟩).run)
theorem vu (l:List Cell) (i gen:Int) (hl:l.length≤1073741824):ai C sH [mE l,vI i,vI gen] (tIB (cellAt l i gen)) []:=by
 refine(SS _ _ _ _ ?_).run;simp only[vg,eC,cn,oD,bY,qp];rw[dL az]
 by_cases h:0≤i∧i<l.length
 ·obtain⟨a,ha⟩:=gj h.1 h.2
  have e:g8 i 0 ((l.length:Int)-1)=true:=iK az;simp only[e,mC,ha,bq,eT,bV,cq,cellAt]
  cases h1:a.u<;>by_cases h2:a.g=gen<;>simp[h1,h2]
 ·have e:g8 i 0 ((l.length:Int)-1)=false:=iZ az
  have hn:eI l i=none:=jF h;simp[e,cellAt,hn]
theorem RQ (l:List Cell) (hl:l.length≤1073741824) (i gen:Int) (n:Int) (q:Bool):ai C sH [mE l,vI i,vI gen] (.tu [(0,[iI n]),(0,[iB q])]) []↔n=(cellAt l i gen).1∧q=(cellAt l i gen).2:=ag8 (vu l i gen hl)
theorem HU (l:List Cell) (hl:l.length≤1073741824):ai C fT [mE l] (vI (bX l)) []:=by
 refine(Lk _ _ ?_).run
 have key: ∀(n:Nat),n+(l.drop 0).length≤l.length→n+bX (l.drop 0)=bX l→ah C fT aj 4 0 (jK n (l.map bR) ((0:Nat):Int)) (fun u st=>aD C fT aj u st fun r fs=>r=(vI (bX l))∧fs=[]):=by
  refine bP l (fun i=> ∀(n:Nat),n+(l.drop i).length≤l.length→n+bX (l.drop i)=bX l→ah C fT aj 4 0 (jK n (l.map bR) i) (fun u st=>aD C fT aj u st fun r fs=>r=(vI (bX l))∧fs=[])) ?_ ?_
  ·intro n h0 h1
   refine ya _ _ _ _ (av cE (Ic _ _ _ _ _ _ ?_));rw[fF] at h1;simp[bX] at h1;simp[h1,bX]
  ·intro i a hi ha hd ht hn n h0 h1
   refine ya _ _ _ _ (aa ie ?_);rw[hd] at h0 h1;simp only[g7] at h0;simp only[qp,aN,ha,bq,eT,eC,bY,fe,gL,dM,fh,dF,fj,fk,gP,cO,natAdd,cn,cT,fY,dz,jz];rw[aO az,aO az]
   cases hu:a.u
   ·exact hn n az (by rw[←h1];simp[bX,hu])
   ·exact hn (n+1) az (by rw[←h1];simp[bX,hu];omega)
 exact key 0 cE cE
theorem KO (l:List Cell) (hl:l.length≤1073741824):ai C fo [mE l] (vB ((l.all jv&&decide (l.length=24)))) []:=by
 refine(QN _ _ ?_).run
 have key:((l.drop 0).all jv&&decide (l.length=24))=(l.all jv&&decide (l.length=24))→ah C fo an 4 0 (jJ (l.map bR) ((0:Nat):Int)) (fun u st=>aD C fo an u st fun r fs=>r=vB ((l.all jv&&decide (l.length=24)))∧fs=[]):=by
  refine bP l (fun i=>((l.drop i).all jv&&decide (l.length=24))=(l.all jv&&decide (l.length=24))→ah C fo an 4 0 (jJ (l.map bR) i) (fun u st=>aD C fo an u st fun r fs=>r=vB ((l.all jv&&decide (l.length=24)))∧fs=[])) ?_ ?_
  ·intro h0
   refine Bk _ _ _ (av cE (Lj _ _ _ _ _ ?_));rw[fF] at h0;simp only[oE,dz] at h0;rw[←h0];simp[bV]
   try omega
  ·intro i a hi ha hd yt hn h0
   have gO:jv a=false→(l.all jv&&decide (l.length=24))=false:=fun e=>by rw[←h0,hd];simp[e]
   have gN:jv a=true→ah C fo an 4 0 (jJ (l.map bR) ((i:Int)+1)) (fun u st=>aD C fo an u st fun r fs=>r=vB ((l.all jv&&decide (l.length=24)))∧fs=[]):=fun e=>hn (by rw[←h0,hd];simp[e]);refine Bk _ _ _ (aa ie ?_);simp only[qp,vg,RP,bV,aN,ha,bq,eT,eC,bY,fe,gL,dM,fh,dF,fj,fk,gP,cO,natAdd,cn,cT,fY,dz,jz];rw[aO az]
   cases h1:g8 a.g 0 999<;>cases h2:lz a.n<;>cases h3:a.u<;>by_cases h4:a.n=0<;>simp only[h1,h2,h3,h4,mC,tW,decide_true,decide_false,not_true_eq_false,not_false_eq_true,LL,Bool.not_false]<;>first|exact gN (by unfold jv;rw[h1,h2,h3];simp[h4])|exact Li _ _ _ _ (by rw[gO (by unfold jv;rw[h1,h2,h3];simp[h4])];exact fG)
 exact key rfl
theorem P8 (l:List Cell) (hl:l.length≤1073741824) (q:Bool):ai C fo [mE l] (vB q) []↔q=fE l:=sO (KO l hl)
theorem Mv (s:ByteArray) (hl:s.size≤140737488355328):ai C dS [vS s] (vB ((dD s.size (fR s)&&g8 s.size 1 6))) []:=by
 refine(SQ _ _ ?_).run
 have key:((List.range' 0 (s.size-0)).all (fR s)&&g8 s.size 1 6)=(dD s.size (fR s)&&g8 s.size 1 6)→ah C dS an 4 0 (kT s ((0:Nat):Int)) (fun u st=>aD C dS an u st fun r fs=>r=vB ((dD s.size (fR s)&&g8 s.size 1 6))∧fs=[]):=by
  refine p9 (s.size) (fun i=>((List.range' i (s.size-i)).all (fR s)&&g8 s.size 1 6)=(dD s.size (fR s)&&g8 s.size 1 6)→ah C dS an 4 0 (kT s i) (fun u st=>aD C dS an u st fun r fs=>r=vB ((dD s.size (fR s)&&g8 s.size 1 6))∧fs=[])) ?_ ?_
  ·intro h0
   refine D9 _ _ _ (av cE (NR _ _ _ _ ?_));rw[oF] at h0;simp only[List.range'_zero,oE,dz] at h0;rw[←h0];simp only[Af,eC,adH,oD];simp
  ·intro i hi hn h0
   rw[lY hi,pF] at h0
   have gO:(fR s) i=false→(dD s.size (fR s)&&g8 s.size 1 6)=false:=fun e=>by rw[←h0,e];rfl
   have gN:(fR s) i=true→ah C dS an 4 0 (kT s ((i:Int)+1)) (fun u st=>aD C dS an u st fun r fs=>r=vB ((dD s.size (fR s)&&g8 s.size 1 6))∧fs=[]):=fun e=>hn (by rw[←h0,e];rfl);refine D9 _ _ _ (aa ie ?_);obtain⟨n,hb,hn0,hn1⟩:=TW hi;have hw:vN .i64 n=n:=Xf az;simp only[hb,bq,eT,Af,eC,hw,bY];rw[aO az]
   have e:fR s i=(g8 n 97 122||g8 n 48 57):=by unfold fR;rw[hb];rfl
   rw[e] at gO gN
   cases h1:g8 n 97 122<;>cases h2:g8 n 48 57<;>simp only[mC,tW]<;>first|exact gN (by rw[h1,h2];rfl)|exact NQ _ (by rw[gO (by rw[h1,h2];rfl)];exact fG)
 exact key rfl
theorem rC (s:ByteArray) (hl:s.size≤140737488355328) (q:Bool):ai C dS [vS s] (vB q) []↔q=mF s:=sO (Mv s hl)
theorem aha (l:List mw): ∀(id:Int),id=0→fI l id=[]:=fun id h=>aT h
theorem vv (l:List mw) (id:Int) (hl:l.length≤1073741824):ai C ga [lX l,vI id] (qP (fI l id)) []:=by
 refine(SZ _ _ _ ?_).run
 have key: ∀(acc:List Int),acc.length+(l.drop 0).length≤l.length→acc++fI (l.drop 0) id=fI l id→ah C ga aj 4 0 (kU (l.map bS) id ((0:Nat):Int) (acc.map bI)) (fun u st=>aD C ga aj u st fun r fs=>r=(qP (fI l id))∧fs=[]):=by
  refine bP l (fun i=> ∀(acc:List Int),acc.length+(l.drop i).length≤l.length→acc++fI (l.drop i) id=fI l id→ah C ga aj 4 0 (kU (l.map bS) id i (acc.map bI)) (fun u st=>aD C ga aj u st fun r fs=>r=(qP (fI l id))∧fs=[])) ?_ ?_
  ·intro acc h0 h1
   refine Ed _ _ _ _ _ (av cE (NZ _ _ _ _ _ _ ?_));rw[fF] at h1;simp[fI] at h1;simp[fI,h1]
  ·intro i a hi ha hd ht hn acc h0 h1
   refine Ed _ _ _ _ _ (aa ie ?_);rw[hd] at h0 h1;simp only[g7] at h0;simp only[xp,IZ,Kv,bV,cq,aN,ha,bq,eT,eC,bY,fe,gL,dM,fh,dF,fj,fk,gP,cO,natAdd,cn,cT,fY,dz,jz];simp (disch:=omega) only[cM,aO,mC]
   by_cases hz:id=0
   ·rw[aha _ _ hz] at h1
    have e: ∀(A B:Prop),(if a.fr=id then(if id=0 then A else B) else A)=if a.fr=id then A else A:=fun A B=>by rw[aT hz]
    rw[e,ite_self];exact hn _ az (by rw[aha _ _ hz,←h1])
   by_cases hk:a.fr=id
   ·rw[aT hk,aK hz]
    exact hn (acc++[a.id]) (by simp only[cT,fY];omega) (by rw[←h1];simp[fI,hk,hz])
   ·rw[aK hk]
    exact hn _ az (by rw[←h1];simp[fI,hk,hz])
 exact key [] cE rfl
theorem KP (l:List Key) (hl:l.length≤1073741824):ai C je [dR l] (vB (dD l.length (gM l ez))) []:=by
 refine(QH _ _ ?_).run
 have key: ∀(k i:Nat),i+k=l.length→1≤i→(List.range' i k).all (gM l ez)=dD l.length (gM l ez)→ah C je an 4 0 (qx (l.map bG) i) (fun u st=>aD C je an u st fun r fs=>r=vB (dD l.length (gM l ez))∧fs=[]):=by
  intro k
  induction k with
  |zero=>
   intro i h h1 h0;refine uD _ _ _ (av ie (Bj _ _ _ _ ?_));simp only[List.range'_zero,oE] at h0;rw[←h0];exact fG
  |succ k ih=>
   intro i h h1 h0;obtain⟨j,rfl⟩: ∃j,i=j+1:=⟨i-1,by omega⟩;have hj:l[j]?=some l[j]:=bH az;have hj1:l[j+1]?=some l[j+1]:=bH az
   have e:gM l ez (j+1)=ez l[j] l[j+1]:=by simp only[gM,hj,hj1]
   rw[List.range'_succ,pF,e] at h0;refine uD _ _ _ (aa ie ?_);rw[dL az,show((j+1:Nat):Int)-1=(j:Int) by omega];simp only[nr,aN,hj,hj1,bq,eT,Fk,eC,dM,bY];rw[aO az]
   cases hb:ez l[j] l[j+1] with
   |true=>
    rw[hb,dz] at h0;exact aa rfl (ih (j+1+1) az az h0)
   |false=>
    rw[hb,Bool.false_and] at h0;refine av rfl (Lh _ ?_);rw[←h0];exact fG
 cases hz:l.length with
 |zero=>
  have:l=[]:=EA hz;subst this;exact uD _ _ _ (av cE (Bj _ _ _ _ fG))
 |succ n=>
  rw[hz] at key;exact key n 1 az az (by unfold dD;rw[List.range'_succ,pF];rfl)
theorem P9 (l:List Key) (hl:l.length≤1073741824):ai C gy [dR l] (vB ((l.all eU&&(dD l.length (gM l ez)&&decide (l.length≤60))))) []:=by
 refine(VH _ _ ?_).run
 have key:((l.drop 0).all eU&&(dD l.length (gM l ez)&&decide (l.length≤60)))=(l.all eU&&(dD l.length (gM l ez)&&decide (l.length≤60)))→ah C gy an 4 0 (nR (l.map bG) ((0:Nat):Int)) (fun u st=>aD C gy an u st fun r fs=>r=vB ((l.all eU&&(dD l.length (gM l ez)&&decide (l.length≤60))))∧fs=[]):=by
  refine bP l (fun i=>((l.drop i).all eU&&(dD l.length (gM l ez)&&decide (l.length≤60)))=(l.all eU&&(dD l.length (gM l ez)&&decide (l.length≤60)))→ah C gy an 4 0 (nR (l.map bG) i) (fun u st=>aD C gy an u st fun r fs=>r=vB ((l.all eU&&(dD l.length (gM l ez)&&decide (l.length≤60))))∧fs=[])) ?_ ?_
  ·intro h0
   refine FK _ _ _ (av cE (Qv _ _ _ _ ?_));rw[fF] at h0;simp only[oE,dz] at h0;rw[←h0];refine⟨_,KP l hl,?_⟩;simp only[iA,cn,oD]
   cases dD l.length (gM l ez)<;>simp
   omega
  ·intro i a hi ha hd yt hn h0
   have gO:eU a=false→(l.all eU&&(dD l.length (gM l ez)&&decide (l.length≤60)))=false:=fun e=>by rw[←h0,hd];simp[e]
   have gN:eU a=true→ah C gy an 4 0 (nR (l.map bG) ((i:Int)+1)) (fun u st=>aD C gy an u st fun r fs=>r=vB ((l.all eU&&(dD l.length (gM l ez)&&decide (l.length≤60))))∧fs=[]):=fun e=>hn (by rw[←h0,hd];simp[e]);refine FK _ _ _ (aa ie ?_);simp only[nr,wM,aN,ha,bq,eT,eC,bY,fe,gL,dM,fh,dF,fj,fk,gP,cO,natAdd,cn,cT,fY,dz,jz];rw[aO az]
   cases h1:eU a<;>simp only[mC,tW]<;>first|exact gN ic|exact Qu _ (by rw[gO ic];exact fG)
 exact key rfl
theorem Mw (l:List Key) (hl:l.length≤1073741824):ai C gy [dR l] (vB (Cp l)) []:=by
 have:=P9 l hl;rw[IV];exact this
theorem Vu (l:List Key) (hl:l.length≤1073741824) (q:Bool):ai C gy [dR l] (vB q) []↔q=Cp l:=sO (Mw l hl)
theorem Mx (s:ByteArray) (hl:s.size≤140737488355328):ai C fZ [vS s] (vB ((dD s.size (fR s)&&g8 s.size 1 6))) []:=by
 refine(SH _ _ ?_).run
 have key:((List.range' 0 (s.size-0)).all (fR s)&&g8 s.size 1 6)=(dD s.size (fR s)&&g8 s.size 1 6)→ah C fZ an 4 0 (kR s ((0:Nat):Int)) (fun u st=>aD C fZ an u st fun r fs=>r=vB ((dD s.size (fR s)&&g8 s.size 1 6))∧fs=[]):=by
  refine p9 (s.size) (fun i=>((List.range' i (s.size-i)).all (fR s)&&g8 s.size 1 6)=(dD s.size (fR s)&&g8 s.size 1 6)→ah C fZ an 4 0 (kR s i) (fun u st=>aD C fZ an u st fun r fs=>r=vB ((dD s.size (fR s)&&g8 s.size 1 6))∧fs=[])) ?_ ?_
  ·intro h0
   refine D3 _ _ _ (av cE (NG _ _ _ _ ?_));rw[oF] at h0;simp only[List.range'_zero,oE,dz] at h0;rw[←h0];simp only[vg,eC,adH,oD];simp
  ·intro i hi hn h0
   rw[lY hi,pF] at h0
   have gO:(fR s) i=false→(dD s.size (fR s)&&g8 s.size 1 6)=false:=fun e=>by rw[←h0,e];rfl
   have gN:(fR s) i=true→ah C fZ an 4 0 (kR s ((i:Int)+1)) (fun u st=>aD C fZ an u st fun r fs=>r=vB ((dD s.size (fR s)&&g8 s.size 1 6))∧fs=[]):=fun e=>hn (by rw[←h0,e];rfl);refine D3 _ _ _ (aa ie ?_);obtain⟨n,hb,hn0,hn1⟩:=TW hi;have hw:vN .i64 n=n:=Xf az;simp only[hb,bq,eT,vg,eC,hw,bY];rw[aO az]
   have e:fR s i=(g8 n 97 122||g8 n 48 57):=by unfold fR;rw[hb];rfl
   rw[e] at gO gN
   cases h1:g8 n 97 122<;>cases h2:g8 n 48 57<;>simp only[mC,tW]<;>first|exact gN (by rw[h1,h2];rfl)|exact NF _ (by rw[gO (by rw[h1,h2];rfl)];exact fG)
 exact key rfl
theorem RS (s:ByteArray) (hl:s.size≤140737488355328) (q:Bool):ai C fZ [vS s] (vB q) []↔q=mF s:=sO (Mx s hl)
theorem My (l:List mw) (id:Int) (hl:l.length≤1073741824):ai C gQ [lX l,vI id] (qP (fI l id)) []:=by
 refine(SN _ _ _ ?_).run;unfold fI
 by_cases hz:id=0
 ·refine aa (by simp[hz]) ?_
  rw[aT hz];exact fG
 refine av (by simp[hz]) ?_;rw[aK hz]
 have key: ∀(acc:List Int),acc.length+(l.drop 0).length≤l.length→acc++((l.drop 0).filter fun a=>decide (a.fr=id)).map (·.id)=(l.filter fun a=>decide (a.fr=id)).map (·.id)→ah C gQ aH 4 0 (mM id (l.map bS) ((0:Nat):Int) (acc.map bI)) (fun u st=>aD C gQ aH u st fun r fs=>r=qP ((l.filter fun a=>decide (a.fr=id)).map (·.id))∧fs=[]):=by
  refine bP l (fun i=> ∀(acc:List Int),acc.length+(l.drop i).length≤l.length→acc++((l.drop i).filter fun a=>decide (a.fr=id)).map (·.id)=(l.filter fun a=>decide (a.fr=id)).map (·.id)→ah C gQ aH 4 0 (mM id (l.map bS) i (acc.map bI)) (fun u st=>aD C gQ aH u st fun r fs=>r=qP ((l.filter fun a=>decide (a.fr=id)).map (·.id))∧fs=[])) ?_ ?_
  ·intro acc h0 h1
   refine D6 _ _ _ _ _ (av cE (NK _ _ _ _ _ _ _ ?_));rw[fF] at h1;simp only[List.filter_nil,List.map_nil,nG] at h1;rw[h1];exact fG
  ·intro i a hi ha hd ht hn acc h0 h1
   refine D6 _ _ _ _ _ (aa ie ?_);rw[hd] at h0 h1;simp only[g7] at h0;simp only[xp,IZ,Kv,bV,cq,aN,ha,bq,eT,eC,bY,fe,gL,dM,fh,dF,fj,fk,gP,cO,natAdd,cn,cT,fY,dz,jz];simp (disch:=omega) only[cM,aO,mC]
   by_cases hk:a.fr=id
   ·rw[aT hk]
    exact hn (acc++[a.id]) (by simp only[cT,fY];omega) (by rw[←h1];simp[hk])
   ·rw[aK hk]
    exact hn _ az (by rw[←h1];simp[hk])
 exact key [] cE rfl
theorem Mz (l:List Key) (hl:l.length≤1073741824):ai C gx [dR l] (vB ((dD l.length (nE l)&&decide (l.length≤60)))) []:=by
 refine(VG _ _ ?_).run
 have key:((List.range' 0 (l.length-0)).all (nE l)&&decide (l.length≤60))=(dD l.length (nE l)&&decide (l.length≤60))→ah C gx an 4 0 (mm (l.map bG) ((0:Nat):Int)) (fun u st=>aD C gx an u st fun r fs=>r=vB ((dD l.length (nE l)&&decide (l.length≤60)))∧fs=[]):=by
  refine p9 (l.length) (fun i=>((List.range' i (l.length-i)).all (nE l)&&decide (l.length≤60))=(dD l.length (nE l)&&decide (l.length≤60))→ah C gx an 4 0 (mm (l.map bG) i) (fun u st=>aD C gx an u st fun r fs=>r=vB ((dD l.length (nE l)&&decide (l.length≤60)))∧fs=[])) ?_ ?_
  ·intro h0
   refine FI _ _ _ (av cE (Qs _ _ _ _ _ ?_));rw[oF] at h0;simp only[List.range'_zero,oE,dz] at h0;rw[←h0];simp[iA];omega
  ·intro i hi hn h0
   rw[lY hi,pF] at h0
   have gO:(nE l) i=false→(dD l.length (nE l)&&decide (l.length≤60))=false:=fun e=>by rw[←h0,e];rfl
   have gN:(nE l) i=true→ah C gx an 4 0 (mm (l.map bG) ((i:Int)+1)) (fun u st=>aD C gx an u st fun r fs=>r=vB ((dD l.length (nE l)&&decide (l.length≤60)))∧fs=[]):=fun e=>hn (by rw[←h0,e];rfl);refine FI _ _ _ (aa ie ?_);have ha:l[i]?=some l[i]:=bH hi;simp only[nr,Vs,Fj,aN,ha,bq,eT,eC,bY,fe,gL,dM,fh,dF,fj,fk,gP,cO,natAdd,cn,cT,fY,dz,jz];rw[aO az]
   cases i with
   |zero=>
    have e:nE l 0=eU l[0]:=by simp[nE,atL,gM,hi]
    simp only[e] at gO gN
    cases h1:eU l[0]<;>simp only[h1,mC,tW,jb,cq,Int.natCast_zero,Int.lt_irrefl,if_false]<;>first|exact gN h1|exact FJ _ _ _ _ _ _ (by rw[gO h1];exact fG)
   |succ k=>
    have hk:l[k]?=some l[k]:=bH az
    have e:nE l (k+1)=(eU l[k+1]&&ez l[k] l[k+1]):=by simp only[nE,atL,gM,hk,ha]
    simp only[e] at gO gN;rw[dL az,show((k+1:Nat):Int)-1=(k:Int) by omega];simp only[aN,hk,bq,eT,dM,jb,cq];rw[aT az]
    cases h1:eU l[k+1]<;>cases h2:ez l[k] l[k+1]<;>simp only[mC,tW]<;>first|exact gN (by rw[h1,h2];rfl)|exact FJ _ _ _ _ _ _ (by rw[gO (by rw[h1,h2];rfl)];exact fG)
 exact key rfl
theorem Vv (l:List Key) (hl:l.length≤1073741824) (q:Bool):ai C gx [dR l] (vB q) []↔q=Cp l:=sO (Mz l hl)
theorem Ah (t:Tree) (l:List mw) (b id:Int) (hl:dx t≤1073741824) (ha:l.length≤1073741823):ai C Gp [eD t,lX l,vI b,vI id] (Zo (oJ t l b id)) []:=by
 refine(Yj _ _ _ _ _ _ ?_).run;refine⟨_,Cs l id az,_,_,_,_,_,_,Ct t b _ hl (by have:=Hz l id;omega),?_⟩;exact fG
theorem xJ (t:Tree) (l:List mw) (b id:Int) (hl:dx t≤1073741824) (ha:l.length≤1073741823):ai C tG [eD t,lX l,vI b,vI id] (Zo (wV t l b id)) []:=by
 refine(Ld _ _ _ _ _ _ ?_).run;have hp:=Hz l id;refine⟨_,Cs l id az,?_⟩;simp only[cn,oD,bV,cq,bZ];unfold wV
 by_cases h:(pathOf l id).length=0
 ·rw[aT az,EA h]
  simp[adP,eX]
 ·rw[aK az]
  refine aa ie ⟨_,_,_,_,_,_,Ct t b _ hl ie,?_⟩
  have e:List.drop (Int.toNat 1) (List.take (Int.toNat ((pathOf l id).length:Int)) (pathOf l id))=(pathOf l id).drop 1:=by rw[pT,sQ];rfl
  rw[e];exact fG
theorem RT (t:Tree) (l:List mw) (k:Key) (id:Int) (hl:dx t≤1073741824) (ha:l.length≤1073741823):ai C Gq [eD t,lX l,AJ k,vI id] (vB (vU t l k id)) []:=by
 refine(Yk _ _ _ _ _ _ _ _ _ _ ?_).run;refine⟨_,_,_,_,_,_,Ah t l k.b id hl ha,?_⟩;unfold vU;simp only[bV]
 cases h:(oJ t l k.b id).2
 ·exact av rfl fG
 ·exact aa rfl ⟨by simp,by trivial⟩
theorem HV (p:bg) (k:Key) (ht:dx p.t≤1073741824) (hg:p.aU.length≤1073741823) (hl:p.aq.length≤1073741824):ai C dH [dK p,AJ k] (vB ((p.aq.any (fun v:jU=>decide (k.b<v.size)&&vU p.t p.aU k v.dJ)))) []:=by
 refine(LF _ _ _ _ _ _ _ _ _ _ _ _ ?_).run
 have key:((p.aq.drop 0).any (fun v:jU=>decide (k.b<v.size)&&vU p.t p.aU k v.dJ))=(p.aq.any (fun v:jU=>decide (k.b<v.size)&&vU p.t p.aU k v.dJ))→ah C dH an 4 0 (iN ((0:Nat):Int) (p.t.ax.map bI) (p.t.nodes.map aX) (p.aU.map bS) (p.cells.map bR) (p.aq.map cj) p.next k.b k.a k.k k.c k.g) (fun u st=>aD C dH an u st fun r fs=>r=vB ((p.aq.any (fun v:jU=>decide (k.b<v.size)&&vU p.t p.aU k v.dJ)))∧fs=[]):=by
  refine bP p.aq (fun i=>((p.aq.drop i).any (fun v:jU=>decide (k.b<v.size)&&vU p.t p.aU k v.dJ))=(p.aq.any (fun v:jU=>decide (k.b<v.size)&&vU p.t p.aU k v.dJ))→ah C dH an 4 0 (iN i (p.t.ax.map bI) (p.t.nodes.map aX) (p.aU.map bS) (p.cells.map bR) (p.aq.map cj) p.next k.b k.a k.k k.c k.g) (fun u st=>aD C dH an u st fun r fs=>r=vB ((p.aq.any (fun v:jU=>decide (k.b<v.size)&&vU p.t p.aU k v.dJ)))∧fs=[])) ?_ ?_
  ·intro h0
   refine yg _ _ _ _ _ _ _ _ _ _ _ _ _ (av cE (Ij _ _ _ _ _ _ _ _ _ _ _ _ _ _ ?_));rw[fF] at h0;simp only[List.any_nil,dz] at h0;rw[←h0];exact fG
  ·intro i a hi ha hd yt hn h0
   have gO:(fun v:jU=>decide (k.b<v.size)&&vU p.t p.aU k v.dJ) a=true→(p.aq.any (fun v:jU=>decide (k.b<v.size)&&vU p.t p.aU k v.dJ))=true:=fun e=>by rw[←h0,hd];simp[e]
   have gN:(fun v:jU=>decide (k.b<v.size)&&vU p.t p.aU k v.dJ) a=false→ah C dH an 4 0 (iN ((i:Int)+1) (p.t.ax.map bI) (p.t.nodes.map aX) (p.aU.map bS) (p.cells.map bR) (p.aq.map cj) p.next k.b k.a k.k k.c k.g) (fun u st=>aD C dH an u st fun r fs=>r=vB ((p.aq.any (fun v:jU=>decide (k.b<v.size)&&vU p.t p.aU k v.dJ)))∧fs=[]):=fun e=>hn (by rw[←h0,hd];simp[e]);refine yg _ _ _ _ _ _ _ _ _ _ _ _ _ (aa ie ?_)
   have hh: ∀q,ai C Gq [eD p.t,lX p.aU,AJ k,vI a.dJ] (vB q) []↔q=vU p.t p.aU k a.dJ:=fun q=>sO (RT p.t p.aU k a.dJ ht hg);simp only[vp,hh,jb,cq,aN,ha,bq,eT,eC,bY,fe,gL,dM,fh,dF,fj,fk,gP,cO,natAdd,cn,cT,fY,dz,jz];rw[aO az]
   by_cases h1:k.b<a.size<;>cases h2:vU p.t p.aU k a.dJ<;>simp only[h1,if_true,if_false,mC,tW]<;>first|exact gN (by simp[h1,h2])|exact Ii _ _ _ _ _ _ _ _ _ _ _ _ (by rw[gO (by simp[h1,h2])];exact fG)
 exact key rfl
theorem Gw (p:bg) (k:Key) (ht:dx p.t≤1073741824) (hg:p.aU.length≤1073741823) (hl:p.aq.length≤1073741824):ai C dH [dK p,AJ k] (vB (TZ p k)) []:=HV p k ht hg hl
theorem GX (t:Tree) (l:List mw) (b id:Int) (hl:dx t≤1073741824) (ha:l.length≤1073741823):ai C KH [eD t,lX l,vI b,vI id] (Zo (oJ t l b id)) []:=by
 refine(Yo _ _ _ _ _ _ ?_).run;refine⟨_,Mt l id az,_,_,_,_,_,_,Mu t b _ hl (by have:=Hz l id;omega),?_⟩;exact fG
theorem gU (p:bg) (s:ByteArray) (hl:p.aq.length≤1073741824):ai C dh [dK p,vS s] (vI (dy p.aq s)) []:=by
 refine(VW _ _ _ _ _ _ _ _ ?_).run
 have key:eZ (fun v:jU=>decide (v.name=s)) (p.aq.drop 0) ((0:Nat):Int)=eZ (fun v:jU=>decide (v.name=s)) p.aq 0→ah C dh an 4 0 (qh s ((0:Nat):Int) (p.t.ax.map bI) (p.t.nodes.map aX) (p.aU.map bS) (p.cells.map bR) (p.aq.map cj) p.next) (fun u st=>aD C dh an u st fun r fs=>r=vI (dy p.aq s)∧fs=[]):=by
  refine bP p.aq (fun i=>eZ (fun v:jU=>decide (v.name=s)) (p.aq.drop i) (i:Int)=eZ (fun v:jU=>decide (v.name=s)) p.aq 0→ah C dh an 4 0 (qh s i (p.t.ax.map bI) (p.t.nodes.map aX) (p.aU.map bS) (p.cells.map bR) (p.aq.map cj) p.next) _) ?_ ?_
  ·intro h0
   refine FV _ _ _ _ _ _ _ _ _ (av cE (Q1 _ _ _ _ _ _ _ _ _ _ ?_));rw[fF] at h0;simp only[eZ] at h0;change _=vI (eZ (fun v:jU=>decide (v.name=s)) p.aq 0)∧_;rw[←h0];exact fG
  ·intro i a hi ha hd yt hn h0
   refine FV _ _ _ _ _ _ _ _ _ (aa ie ?_);rw[hd] at h0;simp only[eZ] at h0;simp only[vp,Zk,cq,aN,ha,bq,eT,eC,bY,fe,gL,dM,fh,dF,fj,fk,gP,cO,natAdd,cn,cT,fY,dz,jz];rw[aO az]
   split at h0
   ·rename_i hp
    have hp:=qM hp
    first|rw[aT hp]|rw[aT hp.symm]
    refine QZ _ _ _ _ _ _ _ _ ?_;rw[h0];exact fG
   ·rename_i hp
    have hp: ¬_:=fun h=>hp (iK h)
    first|rw[aK hp]|rw[aK (fun h=>hp h.symm)]
    exact hn h0
 exact key rfl
@[simp] theorem Qa (n:ByteArray) (a z:Int) (f:Bool) (s:ByteArray) (q:Bool):ai C wH [.ag [iS n,iI a,iI z,iB f],.bx [iS s]] (vB q) []↔q=decide (n=s):=sO (by
  refine(QO _ _ _ _ _ _ ?_).run
  simp)
theorem RU (l:List jU) (s:ByteArray) (hl:l.length≤1073741824):ai C aL [yO l,.fn wH [[iS s]]] (vI (dy l s)) []:=by
 refine(rE _ _ _ ?_).run
 have key:eZ (fun v:jU=>decide (v.name=s)) (l.drop 0) ((0:Nat):Int)=eZ (fun v:jU=>decide (v.name=s)) l 0→ah C aL an 4 0 (dN (l.map cj) ((0:Nat):Int) s) (fun u st=>aD C aL an u st fun r fs=>r=vI (dy l s)∧fs=[]):=by
  refine bP l (fun i=>eZ (fun v:jU=>decide (v.name=s)) (l.drop i) (i:Int)=eZ (fun v:jU=>decide (v.name=s)) l 0→ah C aL an 4 0 (dN (l.map cj) i s) _) ?_ ?_
  ·intro h0
   refine kG _ _ _ _ (av cE (qD _ _ _ _ _ _ ?_));rw[fF] at h0;simp only[eZ] at h0;change _=vI (eZ (fun v:jU=>decide (v.name=s)) l 0)∧_;rw[←h0];exact fG
  ·intro i a hi ha hd yt hn h0
   refine kG _ _ _ _ (aa ie ?_);rw[hd] at h0;simp only[eZ] at h0;simp only[vp,bV,Qa,cq,aN,ha,bq,eT,eC,bY,fe,gL,dM,fh,dF,fj,fk,gP,cO,natAdd,cn,cT,fY,dz,jz];rw[aO az]
   split at h0
   ·rename_i hp
    have hp:=qM hp
    first|rw[aT hp]|rw[aT hp.symm]
    refine qC _ _ _ ?_;rw[h0];exact fG
   ·rename_i hp
    have hp: ¬_:=fun h=>hp (iK h)
    first|rw[aK hp]|rw[aK (fun h=>hp h.symm)]
    exact hn h0
 exact key rfl
theorem Qb (p:bg) (s:ByteArray) (hl:p.aq.length≤1073741824):ai C xF [dK p,vS s] (vI (dy p.aq s)) []:=(VZ _ _ _ _ _ _ _ _ ⟨_,RU p.aq s hl,rfl,by trivial⟩).run
@[simp] theorem RV (n:ByteArray) (a z:Int) (f:Bool) (id:Int) (q:Bool):ai C ve [.ag [iS n,iI a,iI z,iB f],.bx [iI id]] (vB q) []↔q=decide (a=id):=sO (by
  refine(SO _ _ _ _ _ _ ?_).run
  simp)
theorem Gx (l:List jU) (id:Int) (hl:l.length≤1073741824):ai C aL [yO l,.fn ve [[iI id]]] (vI (eZ (fun v:jU=>decide (v.dJ=id)) l 0)) []:=by
 refine(sv _ _ _ ?_).run
 have key:eZ (fun v:jU=>decide (v.dJ=id)) (l.drop 0) ((0:Nat):Int)=eZ (fun v:jU=>decide (v.dJ=id)) l 0→ah C aL an 4 0 (dY (l.map cj) ((0:Nat):Int) id) (fun u st=>aD C aL an u st fun r fs=>r=vI (eZ (fun v:jU=>decide (v.dJ=id)) l 0)∧fs=[]):=by
  refine bP l (fun i=>eZ (fun v:jU=>decide (v.dJ=id)) (l.drop i) (i:Int)=eZ (fun v:jU=>decide (v.dJ=id)) l 0→ah C aL an 4 0 (dY (l.map cj) i id) _) ?_ ?_
  ·intro h0
   refine lq _ _ _ _ (av cE (qU _ _ _ _ _ _ ?_));rw[fF] at h0;simp only[eZ] at h0;change _=vI (eZ (fun v:jU=>decide (v.dJ=id)) l 0)∧_;rw[←h0];exact fG
  ·intro i a hi ha hd yt hn h0
   refine lq _ _ _ _ (aa ie ?_);rw[hd] at h0;simp only[eZ] at h0;simp only[vp,bV,RV,cq,aN,ha,bq,eT,eC,bY,fe,gL,dM,fh,dF,fj,fk,gP,cO,natAdd,cn,cT,fY,dz,jz];rw[aO az]
   split at h0
   ·rename_i hp
    have hp:=qM hp
    first|rw[aT hp]|rw[aT hp.symm]
    refine qT _ _ _ ?_;rw[h0];exact fG
   ·rename_i hp
    have hp: ¬_:=fun h=>hp (iK h)
    first|rw[aK hp]|rw[aK (fun h=>hp h.symm)]
    exact hn h0
 exact key rfl
theorem Gy (l:List jU) (id:Int) (hl:l.length≤1073741824):ai C eK [yO l,.fn ve [[iI id]]] (vB (l.any (fun v:jU=>decide (v.dJ=id)))) []:=by
 refine(qG _ _ _ ⟨_,Gx l id hl,?_⟩).run
 (try dsimp only)
 rw[iA,IX _ _ _ az];exact fG
@[simp] theorem MA (n:ByteArray) (a z:Int) (f:Bool) (s:ByteArray) (a' z':Int) (f':Bool) (q:Bool):ai C oZ [.ag [iS n,iI a,iI z,iB f],.bx [iS s,iI a',iI z',iB f']] (vB q) []↔q=decide (a=a'):=sO (by
  refine(NU _ _ _ _ _ _ _ _ _ ?_).run
  simp)
theorem Ep (l:List jU) (s:ByteArray) (a' z':Int) (f':Bool) (hl:l.length≤1073741824):ai C aL [yO l,.fn oZ [[iS s,iI a',iI z',iB f']]] (vI (eZ (fun v:jU=>decide (v.dJ=a')) l 0)) []:=by
 refine(qS _ _ _ _ _ _ ?_).run
 have key:eZ (fun v:jU=>decide (v.dJ=a')) (l.drop 0) ((0:Nat):Int)=eZ (fun v:jU=>decide (v.dJ=a')) l 0→ah C aL an 4 0 (dI (l.map cj) ((0:Nat):Int) s a' z' f') (fun u st=>aD C aL an u st fun r fs=>r=vI (eZ (fun v:jU=>decide (v.dJ=a')) l 0)∧fs=[]):=by
  refine bP l (fun i=>eZ (fun v:jU=>decide (v.dJ=a')) (l.drop i) (i:Int)=eZ (fun v:jU=>decide (v.dJ=a')) l 0→ah C aL an 4 0 (dI (l.map cj) i s a' z' f') _) ?_ ?_
  ·intro h0
   refine kf _ _ _ _ _ _ _ (av cE (qj _ _ _ _ _ _ _ _ _ ?_));rw[fF] at h0;simp only[eZ] at h0;change _=vI (eZ (fun v:jU=>decide (v.dJ=a')) l 0)∧_;rw[←h0];exact fG
  ·intro i a hi ha hd yt hn h0
   refine kf _ _ _ _ _ _ _ (aa ie ?_);rw[hd] at h0;simp only[eZ] at h0;simp only[vp,bV,MA,cq,aN,ha,bq,eT,eC,bY,fe,gL,dM,fh,dF,fj,fk,gP,cO,natAdd,cn,cT,fY,dz,jz];rw[aO az]
   split at h0
   ·rename_i hp
    have hp:=qM hp
    first|rw[aT hp]|rw[aT hp.symm]
    refine qi _ _ _ _ _ _ ?_;rw[h0];exact fG
   ·rename_i hp
    have hp: ¬_:=fun h=>hp (iK h)
    first|rw[aK hp]|rw[aK (fun h=>hp h.symm)]
    exact hn h0
 exact key rfl
theorem Er (l:List jU) (s:ByteArray) (a' z':Int) (f':Bool) (hl:l.length≤1073741824):ai C eK [yO l,.fn oZ [[iS s,iI a',iI z',iB f']]] (vB (l.any (fun v:jU=>decide (v.dJ=a')))) []:=by
 refine(pR _ _ _ _ _ _ ⟨_,Ep l s a' z' f' hl,?_⟩).run
 (try dsimp only)
 rw[iA,IX _ _ _ az];exact fG
theorem RW (p:bg) (id:Int) (hl:p.aq.length≤1073741824):ai C AP [dK p,vI id] (vB (og p.aq id)) []:=(Yu _ _ _ _ _ _ _ _ ⟨_,Gy p.aq id hl,rfl,by trivial⟩).run
theorem KQ (n:List (List Key)) (hb:n.length≤1073741824) (hl:tot cw n≤1073741824):ai C iE [mW n] (vI (cY n)) []:=by
 refine(Qy _ _ ?_).run
 have key: ∀(c:Nat),c+tot cw (n.drop 0)=cY n→ah C iE aj 4 0 (nS c ((0:Nat):Int) (n.map eP)) (fun u st=>aD C iE aj u st fun r fs=>r=(vI (cY n))∧fs=[]):=by
  refine bP n (fun i=> ∀(c:Nat),c+tot cw (n.drop i)=cY n→ah C iE aj 4 0 (nS c i (n.map eP)) (fun u st=>aD C iE aj u st fun r fs=>r=(vI (cY n))∧fs=[])) ?_ ?_
  ·intro c h0
   refine Bh _ _ _ _ (av cE (Lc _ _ _ _ _ ?_));rw[fF] at h0;simp only[tot,tU] at h0;rw[h0];exact fG
  ·intro i a hi ha hd ht hn c h0
   refine Bh _ _ _ _ (aa ie ?_);rw[hd] at h0;have e5:tot cw (a::n.drop (i+1))=a.length+tot cw (n.drop (i+1)):=rfl;rw[e5] at h0;unfold cY at h0;simp only[E1,aN,ha,bq,eT,eC,bY,fe,gL,dM,fh,dF,fj,fk,gP,cO,natAdd,cn,cT,fY,dz,jz];rw[aO (by simp only[oD];omega),aO az];exact hn (c+a.length) (by unfold cY;omega)
 exact key 0 (by simp[cY])
theorem KR (n:List (List Key)) (hs:tot cw n≤1073741824) (hl:n.length≤1073741824):ai C bT [mW n] (vB ((n.all ee&&(decide (n.length≤3)&&decide (cY n≤8))))) []:=by
 refine(Sx _ _ ?_).run
 have key:((n.drop 0).all ee&&(decide (n.length≤3)&&decide (cY n≤8)))=(n.all ee&&(decide (n.length≤3)&&decide (cY n≤8)))→ah C bT an 4 0 (mL ((0:Nat):Int) (n.map eP)) (fun u st=>aD C bT an u st fun r fs=>r=vB ((n.all ee&&(decide (n.length≤3)&&decide (cY n≤8))))∧fs=[]):=by
  refine bP n (fun i=>((n.drop i).all ee&&(decide (n.length≤3)&&decide (cY n≤8)))=(n.all ee&&(decide (n.length≤3)&&decide (cY n≤8)))→ah C bT an 4 0 (mL i (n.map eP)) (fun u st=>aD C bT an u st fun r fs=>r=vB ((n.all ee&&(decide (n.length≤3)&&decide (cY n≤8))))∧fs=[])) ?_ ?_
  ·intro h0
   refine DU _ _ _ (av cE (Np _ _ _ _ ?_));rw[fF] at h0;simp only[oE,dz] at h0;rw[←h0];simp only[iA,cn,oD,cq]
   by_cases h3:n.length≤3
   ·rw[aT az]
    refine⟨_,KQ n hl hs,?_⟩;simp[h3];omega
   ·rw[aK az]
    simp[h3]
  ·intro i a hi ha hd yt hn h0
   have gO:ee a=false→(n.all ee&&(decide (n.length≤3)&&decide (cY n≤8)))=false:=fun e=>by rw[←h0,hd];simp[e]
   have gN:ee a=true→ah C bT an 4 0 (mL ((i:Int)+1) (n.map eP)) (fun u st=>aD C bT an u st fun r fs=>r=vB ((n.all ee&&(decide (n.length≤3)&&decide (cY n≤8))))∧fs=[]):=fun e=>hn (by rw[←h0,hd];simp[e]);refine DU _ _ _ (aa ie ?_);have hz:a.length≤tot cw n:=mX (w:=cw) ha;have hh: ∀q,ai C gy [dR a] (vB q) []↔q=Cp a:=fun q=>Vu a az q;simp only[E1,hh,bV,oD,cq,aN,ha,bq,eT,eC,bY,fe,gL,dM,fh,dF,fj,fk,gP,cO,natAdd,cn,cT,fY,dz,jz]
   rw[aO az]
   cases h1:Cp a<;>by_cases h2:a.length=0<;>simp only[mC,tW]<;>first|(rw[aT az];exact DV _ _ (by rw[gO (by simp[ee,h1,h2])];exact fG))|(rw[aK az];exact gN (by simp[ee,h1,h2]))|exact DV _ _ (by rw[gO (by simp[ee,h1,h2])];exact fG)
 exact key rfl
theorem vw (n:List (List Key)) (hb:n.length≤1073741824) (hl:tot cw n≤1073741824):ai C bT [mW n] (vB (ff n)) []:=by
 have:=KR n hl hb;rw[T2];exact this
theorem vz (l:List mw) (hl:l.length≤1073741824):ai C c8 [lX l] (vB ((dD l.length (gm l)&&decide (l.length≤16)))) []:=by
 refine(Sk _ _ ?_).run
 have key:((List.range' 0 (l.length-0)).all (gm l)&&decide (l.length≤16))=(dD l.length (gm l)&&decide (l.length≤16))→ah C c8 an 4 0 (iG (l.map bS) ((0:Nat):Int)) (fun u st=>aD C c8 an u st fun r fs=>r=vB ((dD l.length (gm l)&&decide (l.length≤16)))∧fs=[]):=by
  refine p9 (l.length) (fun i=>((List.range' i (l.length-i)).all (gm l)&&decide (l.length≤16))=(dD l.length (gm l)&&decide (l.length≤16))→ah C c8 an 4 0 (iG (l.map bS) i) (fun u st=>aD C c8 an u st fun r fs=>r=vB ((dD l.length (gm l)&&decide (l.length≤16)))∧fs=[])) ?_ ?_
  ·intro h0
   refine DL _ _ _ (av cE (M9 _ _ _ _ ?_));rw[oF] at h0;simp only[List.range'_zero,oE,dz] at h0;rw[←h0];simp[iA];omega
  ·intro i hi hn h0
   rw[lY hi,pF] at h0
   have gO:(gm l) i=false→(dD l.length (gm l)&&decide (l.length≤16))=false:=fun e=>by rw[←h0,e];rfl
   have gN:(gm l) i=true→ah C c8 an 4 0 (iG (l.map bS) ((i:Int)+1)) (fun u st=>aD C c8 an u st fun r fs=>r=vB ((dD l.length (gm l)&&decide (l.length≤16)))∧fs=[]):=fun e=>hn (by rw[←h0,e];rfl);refine DL _ _ _ (aa ie ?_);have ha:l[i]?=some l[i]:=bH hi;have hh: ∀q,ai C dG [lX (l.take i),vI l[i].fr] (vI q) []↔q=fJ (l.take i) l[i].fr:=fun q=>Ce (l.take i) l[i].fr ie q
   have wP:au (l.map bS) 0 (i:Int)=(l.take i).map bS:=by rw[bZ,pT];rfl
   have hin:ew 0 (i:Int) (l.length:Int)=true:=by simp;omega
   simp only[xp,Af,wP,aN,ha,bq,eT,eC,bY,fe,gL,dM,fh,dF,fj,fk,gP,cO,natAdd,cn,cT,fY,dz,jz];simp only[ha,hin,hh,eC,bq,eT,mC,bV,iA,jb,cq,oD,cn];rw[aO az]
   cases i with
   |zero=>
    have e:gm l 0=(g8 l[0].id 1 60&&(decide (l[0].fr=0)|| !decide (fJ (l.take 0) l[0].fr<0))):=by simp[gm,atL,gM,hi]
    rw[e] at gO gN
    have hz: ¬((0:Int)<((0:Nat):Int)):=by omega
    simp only[aK hz]
    cases h1:g8 l[0].id 1 60 with
    |false=>simp only[tW];exact oU _ (by rw[gO (by rw[h1];simp)];exact fG)
    |true=>
     simp only[mC]
     by_cases h2:l[0].fr=0
     ·rw[aT h2];exact gN (by rw[h1,iK h2];simp)
     ·rw[aK h2]
      by_cases h3:fJ (l.take 0) l[0].fr<0
      ·rw[aT h3];exact oU _ (by rw[gO (by rw[iZ h2,iK h3];simp)];exact fG)
      ·rw[aK h3];exact gN (by rw[h1,iZ h3];simp)
   |succ k=>
    have hk:l[k]?=some l[k]:=bH az
    have e:gm l (k+1)=(g8 l[k+1].id 1 60&&(decide (l[k].id<l[k+1].id)&&(decide (l[k+1].fr=0)|| !decide (fJ (l.take (k+1)) l[k+1].fr<0)))):=by simp only[gm,atL,gM,hk,ha]
    rw[e] at gO gN;rw[dL az,show((k+1:Nat):Int)-1=(k:Int) by omega];simp only[aN,hk,bq,eT];rw[aT az]
    cases h1:g8 l[k+1].id 1 60 with
    |false=>simp only[tW];exact oU _ (by rw[gO (by rw[h1];simp)];exact fG)
    |true=>
     simp only[mC]
     by_cases h4:l[k].id<l[k+1].id
     ·rw[aK az]
      by_cases h2:l[k+1].fr=0
      ·rw[aT h2];exact gN (by rw[h1,iK h4,iK h2];simp)
      ·rw[aK h2]
       by_cases h3:fJ (l.take (k+1)) l[k+1].fr<0
       ·rw[aT h3];exact oU _ (by rw[gO (by rw[iZ h2,iK h3];simp)];exact fG)
       ·rw[aK h3];exact gN (by rw[h1,iK h4,iZ h3];simp)
     ·rw[aT az];exact oU _ (by rw[gO (by rw[iZ h4];simp)];exact fG)
 exact key rfl
theorem RX (l:List mw) (hl:l.length≤1073741824) (q:Bool):ai C c8 [lX l] (vB q) []↔q=gE l:=sO (vz l hl)
theorem KS (n:List (List Key)) (hb:n.length≤1073741824) (hl:tot cw n≤1073741824):ai C fK [mW n] (vB (n.all ee&&(decide (n.length≤3)&&decide (cY n≤8)))) []:=by
 refine(SD _ _ ?_).run
 have key: ∀(c:Nat),c+tot cw (n.drop 0)=cY n→((n.drop 0).all ee&&(decide (n.length≤3)&&decide (cY n≤8)))=(n.all ee&&(decide (n.length≤3)&&decide (cY n≤8)))→ah C fK aj 4 0 (oP c (n.map eP) ((0:Nat):Int)) (fun u st=>aD C fK aj u st fun r fs=>r=(vB (n.all ee&&(decide (n.length≤3)&&decide (cY n≤8))))∧fs=[]):=by
  refine bP n (fun i=> ∀(c:Nat),c+tot cw (n.drop i)=cY n→((n.drop i).all ee&&(decide (n.length≤3)&&decide (cY n≤8)))=(n.all ee&&(decide (n.length≤3)&&decide (cY n≤8)))→ah C fK aj 4 0 (oP c (n.map eP) i) (fun u st=>aD C fK aj u st fun r fs=>r=(vB (n.all ee&&(decide (n.length≤3)&&decide (cY n≤8))))∧fs=[])) ?_ ?_
  ·intro c h0 h1
   refine D0 _ _ _ _ (av cE (NA _ _ _ _ _ _ ?_));rw[fF] at h0 h1;simp only[tot,tU] at h0;simp only[oE,dz] at h1;rw[←h1];simp only[iA,cn,oD,cq]
   by_cases h3:n.length≤3
   ·rw[aT az]
    simp[h3];omega
   ·rw[aK az]
    simp[h3]
  ·intro i a hi ha hd ht hn c h0 h1
   refine D0 _ _ _ _ (aa ie ?_);have hz:a.length≤tot cw n:=mX (w:=cw) ha;have hh: ∀q,ai C gx [dR a] (vB q) []↔q=Cp a:=fun q=>Vv a az q;rw[hd] at h0 h1;have e5:tot cw (a::n.drop (i+1))=a.length+tot cw (n.drop (i+1)):=rfl;rw[e5] at h0;unfold cY at h0;have hO:ee a=false→aD C fK aj TX.ret (r7 (n.map eP)) (fun r fs=>r=vB (n.all ee&&(decide (n.length≤3)&&decide (cY n≤8)))∧fs=[]):=fun e=>Nz _ _ (by rw[←h1];simp only[pF,e];exact fG)
   simp only[E1,hh,bV,oD,cq,aN,ha,bq,eT,eC,bY,fe,gL,dM,fh,dF,fj,fk,gP,cO,natAdd,cn,cT,fY,dz,jz];rw[aO az,aO az]
   cases h2:Cp a<;>by_cases h3:a.length=0<;>simp only[mC,tW]
   ·exact hO (by simp[ee,h2])
   ·exact hO (by simp[ee,h2])
   ·rw[aT az];exact hO (by simp[ee,h3])
   ·rw[aK az]
    exact hn (c+a.length) (by unfold cY;omega) (by rw[←h1];simp[ee,h2,h3])
 exact key 0 (by simp[cY]) rfl
theorem MB (n:List (List Key)) (hb:n.length≤1073741824) (hl:tot cw n≤1073741824):ai C fK [mW n] (vB (ff n)) []:=by
 have:=KS n hb hl;rw[T2];exact this
theorem RY (n:List (List Key)) (hb:n.length≤1073741824) (hl:tot cw n≤1073741824) (q:Bool):ai C fK [.ag [.sub 1 (n.map eP)]] (vB q) []↔q=ff n:=sO (MB n hb hl)
theorem MC (l:List mw) (hl:l.length≤1073741824):ai C fm [lX l] (vB ((dD l.length (gm l)&&decide (l.length≤16)))) []:=by
 refine(SM _ _ ?_).run
 have key:((List.range' 0 (l.length-0)).all (gm l)&&decide (l.length≤16))=(dD l.length (gm l)&&decide (l.length≤16))→ah C fm an 4 0 (iJ (l.map bS) ((0:Nat):Int)) (fun u st=>aD C fm an u st fun r fs=>r=vB ((dD l.length (gm l)&&decide (l.length≤16)))∧fs=[]):=by
  refine p9 (l.length) (fun i=>((List.range' i (l.length-i)).all (gm l)&&decide (l.length≤16))=(dD l.length (gm l)&&decide (l.length≤16))→ah C fm an 4 0 (iJ (l.map bS) i) (fun u st=>aD C fm an u st fun r fs=>r=vB ((dD l.length (gm l)&&decide (l.length≤16)))∧fs=[])) ?_ ?_
  ·intro h0
   refine D5 _ _ _ (av cE (NJ _ _ _ _ _ ?_));rw[oF] at h0;simp only[List.range'_zero,oE,dz] at h0;rw[←h0];simp[iA];omega
  ·intro i hi hn h0
   rw[lY hi,pF] at h0
   have gO:(gm l) i=false→(dD l.length (gm l)&&decide (l.length≤16))=false:=fun e=>by rw[←h0,e];rfl
   have gN:(gm l) i=true→ah C fm an 4 0 (iJ (l.map bS) ((i:Int)+1)) (fun u st=>aD C fm an u st fun r fs=>r=vB ((dD l.length (gm l)&&decide (l.length≤16)))∧fs=[]):=fun e=>hn (by rw[←h0,e];rfl);refine D5 _ _ _ (aa ie ?_);have ha:l[i]?=some l[i]:=bH hi;have hh: ∀q,ai C kK [lX (l.take i),vI l[i].fr] (vI q) []↔q=fJ (l.take i) l[i].fr:=fun q=>Cg (l.take i) l[i].fr ie q
   have wP:au (l.map bS) 0 (i:Int)=(l.take i).map bS:=by rw[bZ,pT];rfl
   have hin:ew 0 (i:Int) (l.length:Int)=true:=by simp;omega
   simp only[xp,vg,wP,aN,ha,bq,eT,eC,bY,fe,gL,dM,fh,dF,fj,fk,gP,cO,natAdd,cn,cT,fY,dz,jz];simp only[ha,hin,hh,eC,bq,eT,mC,bV,iA,jb,cq,oD,cn];rw[aO az]
   cases i with
   |zero=>
    have e:gm l 0=(g8 l[0].id 1 60&&(decide (l[0].fr=0)|| !decide (fJ (l.take 0) l[0].fr<0))):=by simp[gm,atL,gM,hi]
    rw[e] at gO gN
    have hz: ¬((0:Int)<((0:Nat):Int)):=by omega
    simp only[aK hz]
    cases h1:g8 l[0].id 1 60 with
    |false=>simp only[tW];exact oV _ _ _ (by rw[gO (by rw[h1];simp)];exact fG)
    |true=>
     simp only[mC]
     by_cases h2:l[0].fr=0
     ·rw[aT h2];exact gN (by rw[h1,iK h2];simp)
     ·rw[aK h2]
      by_cases h3:fJ (l.take 0) l[0].fr<0
      ·rw[aT h3];exact oV _ _ _ (by rw[gO (by rw[iZ h2,iK h3];simp)];exact fG)
      ·rw[aK h3];exact gN (by rw[h1,iZ h3];simp)
   |succ k=>
    have hk:l[k]?=some l[k]:=bH az
    have e:gm l (k+1)=(g8 l[k+1].id 1 60&&(decide (l[k].id<l[k+1].id)&&(decide (l[k+1].fr=0)|| !decide (fJ (l.take (k+1)) l[k+1].fr<0)))):=by simp only[gm,atL,gM,hk,ha]
    rw[e] at gO gN;rw[dL az,show((k+1:Nat):Int)-1=(k:Int) by omega];simp only[aN,hk,bq,eT];rw[aT az]
    cases h1:g8 l[k+1].id 1 60 with
    |false=>simp only[tW];exact oV _ _ _ (by rw[gO (by rw[h1];simp)];exact fG)
    |true=>
     simp only[mC]
     by_cases h4:l[k].id<l[k+1].id
     ·rw[aK az]
      by_cases h2:l[k+1].fr=0
      ·rw[aT h2];exact gN (by rw[h1,iK h4,iK h2];simp)
      ·rw[aK h2]
       by_cases h3:fJ (l.take (k+1)) l[k+1].fr<0
       ·rw[aT h3];exact oV _ _ _ (by rw[gO (by rw[iZ h2,iK h3];simp)];exact fG)
       ·rw[aK h3];exact gN (by rw[h1,iK h4,iZ h3];simp)
     ·rw[aT az];exact oV _ _ _ (by rw[gO (by rw[iZ h4];simp)];exact fG)
 exact key rfl
theorem RZ (l:List mw) (hl:l.length≤1073741824) (q:Bool):ai C fm [lX l] (vB q) []↔q=gE l:=sO (MC l hl)
@[simp] theorem GY (b a q:Int):ai C yZ [vI b,vI a] (vI q) []↔q=c7 b a:=adM ((Sq _ _ _ fG).run)
@[simp] theorem uO (b a k c g q:Int):ai C ij [.ag [iI b,iI a,iI k,iI c,iI g]] (vI q) []↔q=c7 b a:=adM (by
  refine(Sv _ _ _ _ _ _ ?_).run;simp only[GY,eC]
  simp)
@[simp] theorem R0 (b a q:Int):ai C Fh [vI b,vI a] (vI q) []↔q=c7 b a:=adM ((SE _ _ _ fG).run)
theorem KT (t:Tree) (i:Nat) (n:List (List Key)) (hi:i<t.ax.length) (hl:dx t≤1073741824) (hn:n.length≤1073741824) (hz:tot cw n≤1073741824):ah C bL aH 4 0 (jo i ((0:Nat):Int) (t.ax.map bI) (t.nodes.map aX) (n.map eP)) (fun u st=>aD C bL aH u st fun r fs=>r=vB (n.all (cu t.ax i))∧fs=[]):=by
 have hll:t.ax.length≤1073741824:=by unfold dx at hl;omega
 have hlo:t.ax[i]?=some t.ax[i]:=bH hi
 have key:(n.drop 0).all (cu t.ax i)=n.all (cu t.ax i)→ah C bL aH 4 0 (jo i ((0:Nat):Int) (t.ax.map bI) (t.nodes.map aX) (n.map eP)) (fun u st=>aD C bL aH u st fun r fs=>r=vB (n.all (cu t.ax i))∧fs=[]):=by
  refine bP n (fun k=>(n.drop k).all (cu t.ax i)=n.all (cu t.ax i)→ah C bL aH 4 0 (jo i k (t.ax.map bI) (t.nodes.map aX) (n.map eP)) (fun u st=>aD C bL aH u st fun r fs=>r=vB (n.all (cu t.ax i))∧fs=[])) ?_ ?_
  ·intro h0
   refine DS _ _ _ _ _ _ (av cE (Nk _ _ _ _ _ _ _ ?_));rw[fF] at h0;simp only[oE] at h0;rw[←h0];exact fG
  ·intro k s hk hs hd yt hnext h0
   have hsl:s.length≤tot cw n:=mX (w:=cw) hs;rw[hd,pF] at h0;refine DS _ _ _ _ _ _ (aa ie ?_)
   have keyI:(s.drop 0).all (iy t.ax i)=s.all (iy t.ax i)→ah C bL gV 3 2 (kO i k ((0:Nat):Int) (t.ax.map bI) (t.nodes.map aX) (n.map eP)) (fun u st=>ov C bL aH 4 0 vF u st (fun u st=>aD C bL aH u st fun r fs=>r=vB (n.all (cu t.ax i))∧fs=[])):=by
    refine bP s (fun j=>(s.drop j).all (iy t.ax i)=s.all (iy t.ax i)→ah C bL gV 3 2 (kO i k j (t.ax.map bI) (t.nodes.map aX) (n.map eP)) (fun u st=>ov C bL aH 4 0 vF u st (fun u st=>aD C bL aH u st fun r fs=>r=vB (n.all (cu t.ax i))∧fs=[]))) ?_ ?_
    ·intro h1
     rw[fF] at h1;simp only[oE] at h1;refine DT _ _ _ _ _ _ _ (⟨_,wT hs,av cE (Nm _ _ _ _ _ _ _ _ ?_)⟩);rw[aO az];exact hnext (by rw[←h0];unfold cu;rw[←h1];simp)
    ·intro j x hj hx hdj htj hn2 h1
     rw[hdj,pF] at h1
     have gO:iy t.ax i x=false→ov C bL aH 4 0 vF TX.ret (r5 (t.ax.map bI) (t.nodes.map aX) (n.map eP)) (fun u st=>aD C bL aH u st fun r fs=>r=vB (n.all (cu t.ax i))∧fs=[]):=fun e=>Nl _ _ _ _ (Nn _ _ _ _ (by
      have e2:cu t.ax i s=false:=by unfold cu;rw[←h1,e];rfl
      rw[←h0,e2];exact fG))
     have gN:iy t.ax i x=true→ah C bL gV 3 2 (kO i k ((j:Int)+1) (t.ax.map bI) (t.nodes.map aX) (n.map eP)) (fun u st=>ov C bL aH 4 0 vF u st (fun u st=>aD C bL aH u st fun r fs=>r=vB (n.all (cu t.ax i))∧fs=[])):=fun e=>hn2 (by rw[←h1,e];rfl)
     have e:iy t.ax i x=(!decide (c7 x.b x.a<t.ax[i])&&(match t.ax[i+1]? with|some hi=>decide (c7 x.b x.a<hi)|none=>true)):=by simp only[iy,HA,hlo];rfl
     rw[e] at gO gN;refine DT _ _ _ _ _ _ _ (⟨_,wT hs,aa ie ⟨_,wT hs,?_⟩⟩);rw[aO (a:=(i:Int)) az,aO (a:=(j:Int)) az];simp only[nr,zW,aN,hx,hlo,bq,eT,uO,eC,jb,iA,cq,cn,oD]
     by_cases h2:c7 x.b x.a<t.ax[i]
     ·rw[aT h2]
      exact gO (by rw[iK h2];rfl)
     ·rw[aK h2]
      by_cases h3:i+1<t.ax.length
      ·have hhi:t.ax[i+1]?=some t.ax[i+1]:=bH h3
       rw[aT az,show((i:Int)+1)=((i+1:Nat):Int) by omega,aN,hhi];simp only[bq,eT];rw[hhi] at gO gN
       by_cases h4:c7 x.b x.a<t.ax[i+1]
       ·rw[aK az]
        exact gN (by rw[iZ h2];simp[h4])
       ·rw[aT az]
        exact gO (by simp[h4])
      ·rw[aK az]
       have hno:t.ax[i+1]?=none:=Tg az;rw[hno] at gN;exact gN (by rw[iZ h2];rfl)
   exact keyI rfl
 exact key rfl
theorem HW (t:Tree) (i:Nat) (n:List (List Key)) (hi:i<t.ax.length) (hl:dx t≤1073741824) (hn:n.length≤1073741824) (hz:tot cw n≤1073741824):ah C bC an 4 0 (ku i (n.map eP) (n.length:Int) ((0:Nat):Int) (t.ax.map bI) (t.nodes.map aX)) (fun u st=>aD C bC an u st fun r fs=>r=vB (n.all (cu t.ax i))∧fs=[]):=by
 have hll:t.ax.length≤1073741824:=by unfold dx at hl;omega
 have hlo:t.ax[i]?=some t.ax[i]:=bH hi
 have key:(n.drop 0).all (cu t.ax i)=n.all (cu t.ax i)→ah C bC an 4 0 (ku i (n.map eP) (n.length:Int) ((0:Nat):Int) (t.ax.map bI) (t.nodes.map aX)) (fun u st=>aD C bC an u st fun r fs=>r=vB (n.all (cu t.ax i))∧fs=[]):=by
  refine bP n (fun k=>(n.drop k).all (cu t.ax i)=n.all (cu t.ax i)→ah C bC an 4 0 (ku i (n.map eP) (n.length:Int) k (t.ax.map bI) (t.nodes.map aX)) (fun u st=>aD C bC an u st fun r fs=>r=vB (n.all (cu t.ax i))∧fs=[])) ?_ ?_
  ·intro h0
   refine zw _ _ _ _ _ _ _ (av cE (JB _ _ _ _ _ _ _ _ ?_));rw[fF] at h0;simp only[oE] at h0;rw[←h0];exact fG
  ·intro k s hk hs hd yt hnext h0
   have hsl:s.length≤tot cw n:=mX (w:=cw) hs;rw[hd,pF] at h0;refine zw _ _ _ _ _ _ _ (aa ie ⟨_,wT hs,?_⟩)
   have keyI:(s.drop 0).all (iy t.ax i)=s.all (iy t.ax i)→ah C bC nw 3 2 (ji i (n.map eP) (n.length:Int) k (s.map bG) ((0:Nat):Int) (t.ax.map bI) (t.nodes.map aX)) (fun u st=>ov C bC an 4 0 xP u st (fun u st=>aD C bC an u st fun r fs=>r=vB (n.all (cu t.ax i))∧fs=[])):=by
    refine bP s (fun j=>(s.drop j).all (iy t.ax i)=s.all (iy t.ax i)→ah C bC nw 3 2 (ji i (n.map eP) (n.length:Int) k (s.map bG) j (t.ax.map bI) (t.nodes.map aX)) (fun u st=>ov C bC an 4 0 xP u st (fun u st=>aD C bC an u st fun r fs=>r=vB (n.all (cu t.ax i))∧fs=[]))) ?_ ?_
    ·intro h1
     rw[fF] at h1;simp only[oE] at h1;refine zx _ _ _ _ _ _ _ _ _ (av cE (JD _ _ _ _ _ _ _ _ _ _ _ ?_));rw[aO az];exact hnext (by rw[←h0];unfold cu;rw[←h1];simp)
    ·intro j x hj hx hdj htj hn2 h1
     rw[hdj,pF] at h1
     have gO:iy t.ax i x=false→ov C bC an 4 0 xP TX.ret (pM (t.ax.map bI) (t.nodes.map aX) x.b x.a x.k x.c x.g) (fun u st=>aD C bC an u st fun r fs=>r=vB (n.all (cu t.ax i))∧fs=[]):=fun e=>JC _ _ _ _ _ _ _ _ (JE _ _ _ _ _ _ _ _ (by
      have e2:cu t.ax i s=false:=by unfold cu;rw[←h1,e];rfl
      rw[←h0,e2];exact fG))
     have gN:iy t.ax i x=true→ah C bC nw 3 2 (ji i (n.map eP) (n.length:Int) k (s.map bG) ((j:Int)+1) (t.ax.map bI) (t.nodes.map aX)) (fun u st=>ov C bC an 4 0 xP u st (fun u st=>aD C bC an u st fun r fs=>r=vB (n.all (cu t.ax i))∧fs=[])):=fun e=>hn2 (by rw[←h1,e];rfl)
     have e:iy t.ax i x=(!decide (c7 x.b x.a<t.ax[i])&&(match t.ax[i+1]? with|some hi=>decide (c7 x.b x.a<hi)|none=>true)):=by simp only[iy,HA,hlo];rfl
     rw[e] at gO gN;refine zx _ _ _ _ _ _ _ _ _ (aa ie ?_);rw[aO (a:=(i:Int)) az,aO (a:=(j:Int)) az];simp only[nr,zW,aN,hx,hlo,bq,eT,R0,eC,jb,iA,cq,cn,oD]
     by_cases h2:c7 x.b x.a<t.ax[i]
     ·rw[aT h2]
      exact gO (by rw[iK h2];rfl)
     ·rw[aK h2]
      by_cases h3:i+1<t.ax.length
      ·have hhi:t.ax[i+1]?=some t.ax[i+1]:=bH h3
       rw[aT az,show((i:Int)+1)=((i+1:Nat):Int) by omega,aN,hhi];simp only[bq,eT];rw[hhi] at gO gN
       by_cases h4:c7 x.b x.a<t.ax[i+1]
       ·rw[aK az]
        exact gN (by rw[iZ h2];simp[h4])
       ·rw[aT az]
        exact gO (by simp[h4])
      ·rw[aK az]
       have hno:t.ax[i+1]?=none:=Tg az;rw[hno] at gN;exact gN (by rw[iZ h2];rfl)
   exact keyI rfl
 exact key rfl
theorem MD (t:Tree) (i:Nat) (n:List (List Key)) (ha:t.nodes[i]?=some n) (hlo:i<t.ax.length) (hl:dx t≤1073741824):ai C bL [eD t,vI i] (vB (ff n&&((decide (i=0)|| !decide ((aB n).length=0))&&n.all (cu t.ax i)))) []:=by
 have hz:aV n≤tot aV t.nodes:=mX (w:=aV) ha;have e1:aV n=n.length+tot cw n:=rfl;have e2:dx t=t.ax.length+(t.nodes.length+tot aV t.nodes):=rfl;have hnk:=cR n;refine(Sw _ _ _ _ ⟨_,wT (e:=aX) ha,_,vw n az az,?_⟩).run
 cases h1:ff n with
 |false=>exact aa rfl fG
 |true=>
  refine av rfl ?_;have aj6:=KT t i n hlo hl az az
  have conv: ∀B:Bool,B=n.all (cu t.ax i)→ah C bL aH 4 0 (jo i 0 (t.ax.map bI) (t.nodes.map aX) (n.map eP)) (fun u st=>aD C bL aH u st fun r fs=>r=vB B∧fs=[]):=fun B hB=>by subst hB;exact aj6
  cases i with
  |zero=>exact av cE (conv _ cE)
  |succ k=>
   refine aa (by first|(simp;done)|(simp;omega)) ⟨_,y5 n az az,?_⟩
   by_cases h2:(aB n).length=0
   ·refine aa (by simp[h2]) ?_
    simp[h2]
   ·exact av (by simpa using h2) (conv _ (by simp[h2]))
theorem rL (t:Tree) (hl:dx t≤1073741824):ai C aJ [eD t] (vB (cP t)) []:=by
 have e2:dx t=t.ax.length+(t.nodes.length+tot aV t.nodes):=rfl;refine(Sb _ _ _ ?_).run;simp only[Af,eC,cn,oD,bV,bY];unfold cP
 cases h1:g8 (t.nodes.length:Int) 1 20 with
 |false=>exact av rfl fG
 |true=>
  refine aa rfl ?_
  have hn1:1≤t.nodes.length:=by have:=qM h1;omega
  by_cases h2:t.ax.length=t.nodes.length
  ·refine aa (by simp[h2]) ?_
   have h0:t.ax[0]?=some t.ax[0]:=bH az
   have Rl:eI t.ax 0=some t.ax[0]:=by rw[show(0:Int)=((0:Nat):Int) from rfl,aN];exact h0
   simp only[zW,Rl,h0,bq,eT,cq]
   by_cases h3:t.ax[0]=0
   ·rw[aT (by simpa using h3)]
    have hw:(true&&(decide (t.ax.length=t.nodes.length)&&((decide (t.ax[0]=0))&&(dD t.nodes.length (cV t)&&decide ((ay t).length≤60)))))=(dD t.nodes.length (cV t)&&decide ((ay t).length≤60)):=by simp[h2,h3]
    rw[hw]
    have key:((List.range' 0 (t.nodes.length-0)).all (cV t)&&decide ((ay t).length≤60))=(dD t.nodes.length (cV t)&&decide ((ay t).length≤60))→ah C aJ aj 4 0 (kM ((0:Nat):Int) (t.ax.map bI) (t.nodes.map aX)) (fun u st=>aD C aJ aj u st fun r fs=>r=vB (dD t.nodes.length (cV t)&&decide ((ay t).length≤60))∧fs=[]):=by
     refine p9 t.nodes.length (fun i=>((List.range' i (t.nodes.length-i)).all (cV t)&&decide ((ay t).length≤60))=(dD t.nodes.length (cV t)&&decide ((ay t).length≤60))→ah C aJ aj 4 0 (kM i (t.ax.map bI) (t.nodes.map aX)) _) ?_ ?_
     ·intro h0
      rw[oF] at h0;simp only[List.range'_zero,oE,dz] at h0;refine DB _ _ _ _ (av cE (MV _ _ _ _ _ ⟨_,jf t hl,?_⟩));rw[←h0];simp[iA];omega
     ·intro i hi hn h0
      rw[lY hi,pF] at h0;have ha:t.nodes[i]?=some t.nodes[i]:=bH hi;have hli:t.ax[i]?=some t.ax[i]:=bH az;have gO:cV t i=false→aD C aJ aj TX.ret (oK (t.ax.map bI) (t.nodes.map aX)) (fun r fs=>r=vB (dD t.nodes.length (cV t)&&decide ((ay t).length≤60))∧fs=[]):=fun e=>MU _ _ _ (by rw[←h0,e];exact fG);have gN:cV t i=true→ah C aJ aj 4 0 (kM ((i:Int)+1) (t.ax.map bI) (t.nodes.map aX)) (fun u st=>aD C aJ aj u st fun r fs=>r=vB (dD t.nodes.length (cV t)&&decide ((ay t).length≤60))∧fs=[]):=fun e=>hn (by rw[←h0,e];rfl)
      have hh: ∀q,ai C bL [eD t,vI i] (vB q) []↔q=_:=fun q=>sO (MD t i t.nodes[i] ha az hl);refine DB _ _ _ _ (aa ie ?_);rw[aO az];simp only[hh,eC,jb,iA,cq,bY]
      cases i with
      |zero=>
       have e:cV t 0=(ff t.nodes[0]&&((decide (0=0)|| !decide ((aB t.nodes[0]).length=0))&&t.nodes[0].all (cu t.ax 0))):=by simp only[cV,gM,ha,dz]
       rw[e] at gO gN;rw[aK az];exact bA gN gO
      |succ k=>
       have hk:t.ax[k]?=some t.ax[k]:=bH az
       have e:cV t (k+1)=(decide (t.ax[k]<t.ax[k+1])&&(ff t.nodes[k+1]&&((decide (k+1=0)|| !decide ((aB t.nodes[k+1]).length=0))&&t.nodes[k+1].all (cu t.ax (k+1))))):=by simp only[cV,gM,ha,hk,hli]
       rw[e] at gO gN;rw[aT az,dL az,show((k+1:Nat):Int)-1=(k:Int) by omega];simp only[zW,aN,hk,hli,bq,eT]
       by_cases h4:t.ax[k]<t.ax[k+1]
       ·rw[aK az]
        rw[iK h4,dz] at gO gN;exact bA gN gO
       ·rw[aT az]
        exact gO (by rw[iZ h4];rfl)
    exact key rfl
   ·rw[aK (by simpa using h3)]
    simp[h3]
  ·refine av ie ?_
   simp[h2]
theorem Jj (t:Tree) (i:Nat) (n:List (List Key)) (ha:t.nodes[i]?=some n) (hlo:i<t.ax.length) (hl:dx t≤1073741824):ai C bC [eD t,vI i] (vB (n.all (cu t.ax i))) []:=by
 have hz:aV n≤tot aV t.nodes:=mX (w:=aV) ha;have e1:aV n=n.length+tot cw n:=rfl;have e2:dx t=t.ax.length+(t.nodes.length+tot aV t.nodes):=rfl;refine(M6 _ _ _ _ ⟨_,wT (e:=aX) ha,?_⟩).run;simp only[cn,oD];exact HW t i n hlo hl az az
theorem ME (t:Tree) (hl:dx t≤1073741824):ai C eM [eD t] (vB (cP t)) []:=by
 have e2:dx t=t.ax.length+(t.nodes.length+tot aV t.nodes):=rfl;refine(Sp _ _ _ ?_).run;simp only[vg,eC,cn,oD,bV,bY];unfold cP
 cases h1:g8 (t.nodes.length:Int) 1 20 with
 |false=>exact av rfl fG
 |true=>
  refine aa rfl ?_
  have hn1:1≤t.nodes.length:=by have:=qM h1;omega
  by_cases h2:t.ax.length=t.nodes.length
  ·refine aa (by simp[h2]) ?_
   have h0:t.ax[0]?=some t.ax[0]:=bH az
   have Rl:eI t.ax 0=some t.ax[0]:=by rw[show(0:Int)=((0:Nat):Int) from rfl,aN];exact h0
   simp only[zW,Rl,h0,bq,eT,cq]
   by_cases h3:t.ax[0]=0
   ·rw[aT (by simpa using h3)]
    have hw:(true&&(decide (t.ax.length=t.nodes.length)&&((decide (t.ax[0]=0))&&(dD t.nodes.length (cV t)&&decide ((ay t).length≤60)))))=(dD t.nodes.length (cV t)&&decide ((ay t).length≤60)):=by simp[h2,h3]
    rw[hw]
    have key: ∀c:Nat,c+((t.nodes.drop 0).flatMap aB).length=(ay t).length→((List.range' 0 (t.nodes.length-0)).all (cV t)&&decide ((ay t).length≤60))=(dD t.nodes.length (cV t)&&decide ((ay t).length≤60))→ah C eM aH 4 0 (iH c (t.nodes.map aX) ((0:Nat):Int) (t.ax.map bI)) (fun u st=>aD C eM aH u st fun r fs=>r=vB (dD t.nodes.length (cV t)&&decide ((ay t).length≤60))∧fs=[]):=by
     refine p9 t.nodes.length (fun i=> ∀c:Nat,c+((t.nodes.drop i).flatMap aB).length=(ay t).length→((List.range' i (t.nodes.length-i)).all (cV t)&&decide ((ay t).length≤60))=(dD t.nodes.length (cV t)&&decide ((ay t).length≤60))→ah C eM aH 4 0 (iH c (t.nodes.map aX) i (t.ax.map bI)) _) ?_ ?_
     ·intro c hc h0
      rw[oF] at h0;simp only[List.range'_zero,oE,dz] at h0;rw[fF] at hc;simp at hc;refine DQ _ _ _ _ _ (av cE (Ni _ _ _ _ _ _ _ ?_));rw[←h0];simp[iA];omega
     ·intro i hi hn c hc h0
      rw[lY hi,pF] at h0;have ha:t.nodes[i]?=some t.nodes[i]:=bH hi;have hli:t.ax[i]?=some t.ax[i]:=bH az;rw[wZ hi,List.flatMap_cons,cT] at hc;have hz:aV t.nodes[i]≤tot aV t.nodes:=mX (w:=aV) ha;have e1:aV t.nodes[i]=t.nodes[i].length+tot cw t.nodes[i]:=rfl;have hnk:=cR t.nodes[i];have yt:=gZ t;have gO1:cV t i=false→aD C eM aH TX.ret (kN (t.ax.map bI) (t.nodes.map aX) (t.nodes[i].map eP)) (fun r fs=>r=vB (dD t.nodes.length (cV t)&&decide ((ay t).length≤60))∧fs=[]):=fun e=>Ng _ _ _ _ (by rw[←h0,e];exact fG)
      have gO2:cV t i=false→aD C eM aH TX.ret (rX (t.ax.map bI) (t.nodes.map aX) (t.nodes[i].map eP) ((aB t.nodes[i]).map bG)) (fun r fs=>r=vB (dD t.nodes.length (cV t)&&decide ((ay t).length≤60))∧fs=[]):=fun e=>Nh _ _ _ _ _ (by rw[←h0,e];exact fG);have gN:cV t i=true→ah C eM aH 4 0 (iH ((c:Int)+((aB t.nodes[i]).length:Int)) (t.nodes.map aX) ((i:Int)+1) (t.ax.map bI)) (fun u st=>aD C eM aH u st fun r fs=>r=vB (dD t.nodes.length (cV t)&&decide ((ay t).length≤60))∧fs=[]):=fun e=>hn (c+(aB t.nodes[i]).length) az (by rw[←h0,e];rfl)
      have hb: ∀q,ai C bC [eD t,vI i] (vB q) []↔q=_:=fun q=>sO (Jj t i t.nodes[i] ha az hl);have hk: ∀q,ai C eR [mW t.nodes[i]] (.c (.sub 5 q)) []↔q=(aB t.nodes[i]).map bG:=fun q=>Cr t.nodes[i] az az q;have ho: ∀q,ai C fK [mW t.nodes[i]] (vB q) []↔q=ff t.nodes[i]:=fun q=>RY t.nodes[i] az az q;refine DQ _ _ _ _ _ (aa ie ?_);simp only[BT,aN,ha,bq,eT,hb,hk,ho,eC,jb,iA,bV,cq,bY,cn,oD];rw[aO (a:=(c:Int)) az,aO (a:=(i:Int)) az]
      cases i with
      |zero=>
       have e:cV t 0=(ff t.nodes[0]&&((decide (0=0)|| !decide ((aB t.nodes[0]).length=0))&&t.nodes[0].all (cu t.ax 0))):=by simp only[cV,gM,ha,dz]
       rw[e] at gO1 gN
       have FZ: ¬((0:Int)<((0:Nat):Int)):=by omega
       simp only[aK FZ]
       cases h4:ff t.nodes[0] with
       |false=>exact av rfl (gO1 (by rw[h4];rfl))
       |true=>
        refine aa rfl ?_
        cases h5:t.nodes[0].all (cu t.ax 0) with
        |false=>exact av rfl (gO1 (by rw[h4,h5];simp))
        |true=>exact aa rfl (gN (by rw[h4,h5];simp))
      |succ k=>
       have El:t.ax[k]?=some t.ax[k]:=bH az
       have e:cV t (k+1)=(decide (t.ax[k]<t.ax[k+1])&&(ff t.nodes[k+1]&&((decide (k+1=0)|| !decide ((aB t.nodes[k+1]).length=0))&&t.nodes[k+1].all (cu t.ax (k+1))))):=by simp only[cV,gM,ha,El,hli]
       rw[e] at gO1 gO2 gN
       have FZ:(0:Int)<((k+1:Nat):Int):=by omega
       simp only[aT FZ];rw[dL az,show((k+1:Nat):Int)-1=(k:Int) by omega];simp only[zW,aN,El,hli,bq,eT]
       by_cases h6:t.ax[k]<t.ax[k+1]
       ·rw[aK az]
        cases h4:ff t.nodes[k+1] with
        |false=>exact av rfl (gO1 (by rw[h4];simp))
        |true=>
         refine aa rfl ?_
         cases h5:t.nodes[k+1].all (cu t.ax (k+1)) with
         |false=>exact av rfl (gO1 (by rw[h4,h5];simp))
         |true=>
          refine aa rfl ?_
          by_cases h7:(aB t.nodes[k+1]).length=0
          ·rw[aT az];exact gO2 (by rw[h4,h5];simp[h7])
          ·rw[aK az];exact gN (by rw[h4,h5,iK h6];simp[h7])
       ·rw[aT az]
        exact gO1 (by rw[iZ h6];rfl)
    exact key 0 (by simp[ay]) rfl
   ·rw[aK (by simpa using h3)]
    simp[h3]
  ·refine av ie ?_
   simp[h2]
theorem KU (p:bg) (hS:aQ p≤4194304):ai C bK [dK p] (vB (iX p)) []:=by
 have hP:=eF hS
 have hname: ∀v∈p.aq,v.name.size≤140737488355328:=fun v hv=>by have:=uH (w:=tX) hv;have e:tX v=v.name.size:=rfl;omega
 refine(Q4 _ _ _ _ _ _ _ ?_).run;unfold iX
 have key:((List.range' 0 (p.aq.length-0)).all (cA p)&&decide (p.aq.length≤6))=(dD p.aq.length (cA p)&&decide (p.aq.length≤6))→ah C bK an 4 0 (lQ ((0:Nat):Int) (p.t.ax.map bI) (p.t.nodes.map aX) (p.aU.map bS) (p.cells.map bR) (p.aq.map cj) p.next) (fun u st=>aD C bK an u st fun r fs=>r=vB (dD p.aq.length (cA p)&&decide (p.aq.length≤6))∧fs=[]):=by
  refine p9 p.aq.length (fun i=>((List.range' i (p.aq.length-i)).all (cA p)&&decide (p.aq.length≤6))=(dD p.aq.length (cA p)&&decide (p.aq.length≤6))→ah C bK an 4 0 (lQ i (p.t.ax.map bI) (p.t.nodes.map aX) (p.aU.map bS) (p.cells.map bR) (p.aq.map cj) p.next) (fun u st=>aD C bK an u st fun r fs=>r=vB (dD p.aq.length (cA p)&&decide (p.aq.length≤6))∧fs=[])) ?_ ?_
  ·intro h0
   rw[oF] at h0;simp only[List.range'_zero,oE,dz] at h0;refine Bo _ _ _ _ _ _ _ _ (av cE (Lt _ _ _ _ _ _ _ _ _ ?_));rw[←h0];simp[iA];omega
  ·intro i hi hn h0
   rw[lY hi,pF] at h0;have ha:p.aq[i]?=some p.aq[i]:=bH hi;have hv:=hname p.aq[i] (tT hi);have hkl:=Py p.aU p.aq[i].dJ;have gO1:cA p i=false→aD C bK an TX.ret (lR (p.t.ax.map bI) (p.t.nodes.map aX) (p.aU.map bS) (p.cells.map bR) (p.aq.map cj) p.next p.aq[i].name p.aq[i].dJ p.aq[i].size p.aq[i].fx) (fun r fs=>r=vB (dD p.aq.length (cA p)&&decide (p.aq.length≤6))∧fs=[]):=fun e=>Lr _ _ _ _ _ _ _ _ _ _ _ (by rw[←h0,e];exact fG)
   have gO2:cA p i=false→aD C bK an TX.ret (qB (p.t.ax.map bI) (p.t.nodes.map aX) (p.aU.map bS) (p.cells.map bR) (p.aq.map cj) p.next p.aq[i].name p.aq[i].dJ p.aq[i].size p.aq[i].fx ((fI p.aU p.aq[i].dJ).map bI)) (fun r fs=>r=vB (dD p.aq.length (cA p)&&decide (p.aq.length≤6))∧fs=[]):=fun e=>Ls _ _ _ _ _ _ _ _ _ _ _ _ (by rw[←h0,e];exact fG);have gN:cA p i=true→ah C bK an 4 0 (lQ ((i:Int)+1) (p.t.ax.map bI) (p.t.nodes.map aX) (p.aU.map bS) (p.cells.map bR) (p.aq.map cj) p.next) (fun u st=>aD C bK an u st fun r fs=>r=vB (dD p.aq.length (cA p)&&decide (p.aq.length≤6))∧fs=[]):=fun e=>hn (by rw[←h0,e];rfl)
   have hin: ∀b:Bool,((p.aq.take i).any fun u=>decide (u.dJ=p.aq[i].dJ))=b→(b=true→cA p i=false)→(b=false→cA p i=true)→ah C bK nv 3 2 (jN i 0 (p.t.ax.map bI) (p.t.nodes.map aX) (p.aU.map bS) (p.cells.map bR) (p.aq.map cj) p.next p.aq[i].name p.aq[i].dJ p.aq[i].size p.aq[i].fx) (fun u st=>ov C bK an 4 0 xO u st (fun u st=>aD C bK an u st fun r fs=>r=vB (dD p.aq.length (cA p)&&decide (p.aq.length≤6))∧fs=[])):=by
    intro b hb hbt hbf
    have keyI:(((p.aq.take i).drop 0).any fun u=>decide (u.dJ=p.aq[i].dJ))=b→ah C bK nv 3 2 (jN i ((0:Nat):Int) (p.t.ax.map bI) (p.t.nodes.map aX) (p.aU.map bS) (p.cells.map bR) (p.aq.map cj) p.next p.aq[i].name p.aq[i].dJ p.aq[i].size p.aq[i].fx) (fun u st=>ov C bK an 4 0 xO u st (fun u st=>aD C bK an u st fun r fs=>r=vB (dD p.aq.length (cA p)&&decide (p.aq.length≤6))∧fs=[])):=by
     have hle:(p.aq.take i).length=i:=by simp;omega
     refine bP (p.aq.take i) (fun k=>(((p.aq.take i).drop k).any fun u=>decide (u.dJ=p.aq[i].dJ))=b→ah C bK nv 3 2 (jN i k (p.t.ax.map bI) (p.t.nodes.map aX) (p.aU.map bS) (p.cells.map bR) (p.aq.map cj) p.next p.aq[i].name p.aq[i].dJ p.aq[i].size p.aq[i].fx) (fun u st=>ov C bK an 4 0 xO u st (fun u st=>aD C bK an u st fun r fs=>r=vB (dD p.aq.length (cA p)&&decide (p.aq.length≤6))∧fs=[]))) ?_ ?_
     ·intro h1
      rw[fF] at h1;simp only[List.any_nil] at h1;refine Bp _ _ _ _ _ _ _ _ _ _ _ _ _ (av ie (Lv _ _ _ _ _ _ _ _ _ _ _ _ _ ?_));rw[aO az];exact gN (hbf h1.symm)
     ·intro k u hk hu hd yt hn2 h1
      have hu':p.aq[k]?=some u:=by rw[←hu,EC];simp;omega
      rw[hd,List.any_cons] at h1;refine Bp _ _ _ _ _ _ _ _ _ _ _ _ _ (aa ie ?_);rw[aO az];simp only[vp,aN,hu',bq,eT,bV,cq]
      by_cases h2:u.dJ=p.aq[i].dJ
      ·rw[aT h2]
       rw[iK h2,Bool.true_or] at h1;exact Lu _ _ _ _ _ _ _ _ _ _ _ (gO1 (hbt h1.symm))
      ·rw[aK h2]
       rw[iZ h2,GF] at h1;exact hn2 h1
    exact keyI hb
   have Z6: ∀z,ai C dG [lX p.aU,vI p.aq[i].dJ] (vI z) []↔z=fJ p.aU p.aq[i].dJ:=fun z=>Ce p.aU p.aq[i].dJ az z;have aiA: ∀z,ai C ga [lX p.aU,vI p.aq[i].dJ] (.c (.sub 1 z)) []↔z=(fI p.aU p.aq[i].dJ).map bI:=fun z=>Xe (vv p.aU p.aq[i].dJ az);refine Bo _ _ _ _ _ _ _ _ (aa ie ?_);simp only[vp,aN,ha,bq,eT,rC p.aq[i].name hv,Af,Z6,aiA,eC,bY,jb,cq,cn,oD]
   cases h1:mF p.aq[i].name with
   |false=>exact av rfl (gO1 (by simp[cA,ha,h1]))
   |true=>
    refine aa rfl ?_
    cases h2:g8 p.aq[i].size 1 12 with
    |false=>exact av rfl (gO1 (by simp[cA,ha,h2]))
    |true=>
     refine aa rfl ?_
     by_cases h3:fJ p.aU p.aq[i].dJ<0
     ·rw[aT h3];exact gO1 (by simp[cA,ha,h3])
     ·rw[aK h3]
      by_cases h4:(fI p.aU p.aq[i].dJ).length=0
      ·rw[aK az]
       cases i with
       |zero=>
        rw[aK az];exact hin _ rfl (fun e=>by simp at e) (fun e=>by simp[cA,ha,h1,h2,h3,h4,gM])
       |succ k=>
        have hk:p.aq[k]?=some p.aq[k]:=bH az;rw[aT az,dL az,show((k+1:Nat):Int)-1=(k:Int) by omega];simp only[aN,hk,bq,eT]
        cases h5:JZ p.aq[k].name p.aq[k+1].name with
        |false=>exact av rfl (gO2 (by simp[cA,ha,hk,gM,h5]))
        |true=>exact aa rfl (hin _ rfl (fun e=>by simp only[cA,ha,e];simp) (fun e=>by simp only[cA,ha,hk,gM,h5,h1,h2,e];simp[h3,h4]))
      ·rw[aT az];exact gO2 (by simp[cA,ha,h4])
 exact key rfl
theorem MF (p:bg) (hS:aQ p≤4194304):ai C fq [dK p] (vB (iX p)) []:=by
 have hP:=eF hS
 have hname: ∀v∈p.aq,v.name.size≤140737488355328:=fun v hv=>by have:=uH (w:=tX) hv;have e:tX v=v.name.size:=rfl;omega
 refine(Tb _ _ _ _ _ _ _ ?_).run;unfold iX
 have key:((List.range' 0 (p.aq.length-0)).all (cA p)&&decide (p.aq.length≤6))=(dD p.aq.length (cA p)&&decide (p.aq.length≤6))→ah C fq an 4 0 (kW (p.aq.map cj) ((0:Nat):Int) (p.t.ax.map bI) (p.t.nodes.map aX) (p.aU.map bS) (p.cells.map bR) p.next) (fun u st=>aD C fq an u st fun r fs=>r=vB (dD p.aq.length (cA p)&&decide (p.aq.length≤6))∧fs=[]):=by
  refine p9 p.aq.length (fun i=>((List.range' i (p.aq.length-i)).all (cA p)&&decide (p.aq.length≤6))=(dD p.aq.length (cA p)&&decide (p.aq.length≤6))→ah C fq an 4 0 (kW (p.aq.map cj) i (p.t.ax.map bI) (p.t.nodes.map aX) (p.aU.map bS) (p.cells.map bR) p.next) (fun u st=>aD C fq an u st fun r fs=>r=vB (dD p.aq.length (cA p)&&decide (p.aq.length≤6))∧fs=[])) ?_ ?_
  ·intro h0
   rw[oF] at h0;simp only[List.range'_zero,oE,dz] at h0;refine Ek _ _ _ _ _ _ _ _ (av cE (Og _ _ _ _ _ _ _ _ _ _ ?_));rw[←h0];simp[iA];omega
  ·intro i hi hn h0
   rw[lY hi,pF] at h0;have ha:p.aq[i]?=some p.aq[i]:=bH hi;have hv:=hname p.aq[i] (tT hi);have hkl:=Py p.aU p.aq[i].dJ;have gO1:cA p i=false→aD C fq an TX.ret (jt (p.t.ax.map bI) (p.t.nodes.map aX) (p.aU.map bS) (p.cells.map bR) (p.aq.map cj) p.next p.aq[i].name p.aq[i].dJ p.aq[i].size p.aq[i].fx) (fun r fs=>r=vB (dD p.aq.length (cA p)&&decide (p.aq.length≤6))∧fs=[]):=fun e=>NT _ _ _ _ _ _ _ _ _ _ _ (by rw[←h0,e];exact fG)
   have gO2:cA p i=false→aD C fq an TX.ret (mQ (p.t.ax.map bI) (p.t.nodes.map aX) (p.aU.map bS) (p.cells.map bR) (p.aq.map cj) p.next p.aq[i].name p.aq[i].dJ p.aq[i].size p.aq[i].fx ((fI p.aU p.aq[i].dJ).map bI)) (fun r fs=>r=vB (dD p.aq.length (cA p)&&decide (p.aq.length≤6))∧fs=[]):=fun e=>Of _ _ _ _ _ _ _ _ _ _ _ _ (by rw[←h0,e];exact fG);have gN:cA p i=true→ah C fq an 4 0 (kW (p.aq.map cj) ((i:Int)+1) (p.t.ax.map bI) (p.t.nodes.map aX) (p.aU.map bS) (p.cells.map bR) p.next) (fun u st=>aD C fq an u st fun r fs=>r=vB (dD p.aq.length (cA p)&&decide (p.aq.length≤6))∧fs=[]):=fun e=>hn (by rw[←h0,e];rfl)
   have Z6: ∀z,ai C kK [lX p.aU,vI p.aq[i].dJ] (vI z) []↔z=fJ p.aU p.aq[i].dJ:=fun z=>Cg p.aU p.aq[i].dJ az z;have aiA: ∀z,ai C gQ [lX p.aU,vI p.aq[i].dJ] (.c (.sub 1 z)) []↔z=(fI p.aU p.aq[i].dJ).map bI:=fun z=>Xe (My p.aU p.aq[i].dJ az)
   have wP:au (p.aq.map cj) 0 (i:Int)=(p.aq.take i).map cj:=by rw[bZ,pT];rfl
   have hcin:ew 0 (i:Int) (p.aq.length:Int)=true:=by simp;omega
   have alP: ∀z,ai C eK [yO (p.aq.take i),.fn oZ [[iS p.aq[i].name,iI p.aq[i].dJ,iI p.aq[i].size,iB p.aq[i].fx]]] (vB z) []↔z=(p.aq.take i).any fun u=>decide (u.dJ=p.aq[i].dJ):=fun z=>sO (Er (p.aq.take i) _ _ _ _ ie);refine Ek _ _ _ _ _ _ _ _ (aa ie ?_);simp only[wP,vp,aN,ha,bq,eT,RS p.aq[i].name hv,vg,Z6,aiA,alP,eC,bY,jb,cq,cn,oD];rw[aO az]
   cases h1:mF p.aq[i].name with
   |false=>exact av rfl (gO1 (by simp[cA,ha,h1]))
   |true=>
    refine aa rfl ?_
    cases i with
    |zero=>
     rw[aK az]
     cases h2:g8 p.aq[0].size 1 12 with
     |false=>exact av rfl (gO1 (by simp[cA,ha,h2]))
     |true=>
      refine aa rfl ?_
      by_cases h3:fJ p.aU p.aq[0].dJ<0
      ·rw[aT h3];exact gO1 (by simp[cA,ha,h3])
      ·rw[aK h3]
       by_cases h4:(fI p.aU p.aq[0].dJ).length=0
       ·rw[aK az]
        refine aa hcin ?_
        cases h6:(p.aq.take (0)).any fun u=>decide (u.dJ=p.aq[0].dJ) with
        |true=>exact aa rfl (gO2 (by simp only[cA,ha,h6];simp))
        |false=>exact av rfl (gN (by simp only[cA,ha,h6,h1,h2,gM];simp[h3,h4]))
       ·rw[aT az];exact gO2 (by simp[cA,ha,h4])
    |succ k=>
     have hk:p.aq[k]?=some p.aq[k]:=bH az;rw[aT az,dL az,show((k+1:Nat):Int)-1=(k:Int) by omega];simp only[aN,hk,bq,eT]
     cases h5:JZ p.aq[k].name p.aq[k+1].name with
     |false=>exact av rfl (gO1 (by simp[cA,ha,hk,gM,h5]))
     |true=>
      refine aa rfl ?_
      cases h2:g8 p.aq[k+1].size 1 12 with
      |false=>exact av rfl (gO1 (by simp[cA,ha,h2]))
      |true=>
       refine aa rfl ?_
       by_cases h3:fJ p.aU p.aq[k+1].dJ<0
       ·rw[aT h3];exact gO1 (by simp[cA,ha,h3])
       ·rw[aK h3]
        by_cases h4:(fI p.aU p.aq[k+1].dJ).length=0
        ·rw[aK az]
         refine aa hcin ?_
         cases h6:(p.aq.take (k+1)).any fun u=>decide (u.dJ=p.aq[k+1].dJ) with
         |true=>exact aa rfl (gO2 (by simp only[cA,ha,h6];simp))
         |false=>exact av rfl (gN (by simp only[cA,ha,h6,h1,h2,gM,hk,h5];simp[h3,h4]))
        ·rw[aT az];exact gO2 (by simp[cA,ha,h4])
 exact key rfl
theorem Vw:w5 24=24:=by unfold w5;rfl
theorem g24 {n:Nat} (h:n≤1000):(true&&c6 24 24&&pQ 0 24&&fits (w5 24) n)=true:=by rw[Vw,cM az];simp
theorem ah7:(qq []).map L4=List.replicate 24 [iB false]:=by rw[Xg];rfl
theorem KV (p:bg) (hS:aQ p≤4194304):ai C bO [dK p] (vB (jw p)) []:=by
 have hP:=eF hS;have htl:=gZ p.t;refine(Q5 _ _ _ _ _ _ _ ?_).run;refine⟨_,jf p.t az,?_⟩;unfold jw;generalize ay p.t=L at*;have hdk:cQ L≤L.length:=LN _ _
 have key: ∀c:Nat,c+cQ (L.drop 0)=cQ L→((List.range' 0 (L.length-0)).all (dB p L)&&decide ((bX p.cells:Int)=cQ L))=(dD L.length (dB p L)&&decide ((bX p.cells:Int)=cQ L))→ah C bO aH 4 0 (jO (c:Int) ((0:Nat):Int) (p.t.ax.map bI) (p.t.nodes.map aX) (p.aU.map bS) (p.cells.map bR) (p.aq.map cj) p.next (L.map bG)) (fun u st=>aD C bO aH u st fun r fs=>r=vB (dD L.length (dB p L)&&decide ((bX p.cells:Int)=cQ L))∧fs=[]):=by
  refine p9 L.length (fun i=> ∀c:Nat,c+cQ (L.drop i)=cQ L→((List.range' i (L.length-i)).all (dB p L)&&decide ((bX p.cells:Int)=cQ L))=(dD L.length (dB p L)&&decide ((bX p.cells:Int)=cQ L))→ah C bO aH 4 0 (jO (c:Int) i (p.t.ax.map bI) (p.t.nodes.map aX) (p.aU.map bS) (p.cells.map bR) (p.aq.map cj) p.next (L.map bG)) (fun u st=>aD C bO aH u st fun r fs=>r=vB (dD L.length (dB p L)&&decide ((bX p.cells:Int)=cQ L))∧fs=[])) ?_ ?_
  ·intro c hc h0
   rw[oF] at h0;simp only[List.range'_zero,oE,dz] at h0;rw[fF] at hc
   have hc0:c=cQ L:=by simpa [cQ] using hc
   subst hc0;refine Bq _ _ _ _ _ _ _ _ _ _ (av cE (Lx _ _ _ _ _ _ _ _ _ _ _ ⟨_,HT p.cells az,?_⟩));rw[←h0];refine⟨?_,by trivial⟩;simp[bV,eq_comm]
  ·intro i hi hn c hc h0
   rw[lY hi,pF] at h0;have ha:L[i]?=some L[i]:=bH hi;rw[wZ hi,GP] at hc;have gO1:dB p L i=false→aD C bO aH TX.ret (nV (p.t.ax.map bI) (p.t.nodes.map aX) (p.aU.map bS) (p.cells.map bR) (p.aq.map cj) p.next (L.map bG)) (fun r fs=>r=vB (dD L.length (dB p L)&&decide ((bX p.cells:Int)=cQ L))∧fs=[]):=fun e=>Lw _ _ _ _ _ _ _ _ (by rw[←h0,e];exact fG);have gN: ∀c':Nat,c'+cQ (L.drop (i+1))=cQ L→dB p L i=true→ah C bO aH 4 0 (jO (c':Int) ((i:Int)+1) (p.t.ax.map bI) (p.t.nodes.map aX) (p.aU.map bS) (p.cells.map bR) (p.aq.map cj) p.next (L.map bG)) (fun u st=>aD C bO aH u st fun r fs=>r=vB (dD L.length (dB p L)&&decide ((bX p.cells:Int)=cQ L))∧fs=[]):=fun c' e' e=>hn c' e' (by rw[←h0,e];rfl)
   have hin: ∀b:Bool,((L.take i).any fun x=>decide (x.k=1)&&decide (x.c=L[i].c))=b→(b=true→dB p L i=false)→(b=false→dB p L i=true)→L[i].k=1→ah C bO iM 3 2 (jP c i 0 (p.t.ax.map bI) (p.t.nodes.map aX) (p.aU.map bS) (p.cells.map bR) (p.aq.map cj) p.next (L.map bG)) (fun u st=>ov C bO aH 4 0 sN u st (fun u st=>aD C bO aH u st fun r fs=>r=vB (dD L.length (dB p L)&&decide ((bX p.cells:Int)=cQ L))∧fs=[])):=by
    intro b hb hbt hbf El;rw[aT El] at hc
    have keyI:(((L.take i).drop 0).any fun x=>decide (x.k=1)&&decide (x.c=L[i].c))=b→ah C bO iM 3 2 (jP c i ((0:Nat):Int) (p.t.ax.map bI) (p.t.nodes.map aX) (p.aU.map bS) (p.cells.map bR) (p.aq.map cj) p.next (L.map bG)) (fun u st=>ov C bO aH 4 0 sN u st (fun u st=>aD C bO aH u st fun r fs=>r=vB (dD L.length (dB p L)&&decide ((bX p.cells:Int)=cQ L))∧fs=[])):=by
     have hle:(L.take i).length=i:=by simp;omega
     refine bP (L.take i) (fun k=>(((L.take i).drop k).any fun x=>decide (x.k=1)&&decide (x.c=L[i].c))=b→ah C bO iM 3 2 (jP c i k (p.t.ax.map bI) (p.t.nodes.map aX) (p.aU.map bS) (p.cells.map bR) (p.aq.map cj) p.next (L.map bG)) (fun u st=>ov C bO aH 4 0 sN u st (fun u st=>aD C bO aH u st fun r fs=>r=vB (dD L.length (dB p L)&&decide ((bX p.cells:Int)=cQ L))∧fs=[]))) ?_ ?_
     ·intro h1
      rw[fF] at h1;simp only[List.any_nil] at h1;refine Br _ _ _ _ _ _ _ _ _ _ _ (av ie (LA _ _ _ _ _ _ _ _ _ _ _ ?_));rw[aO az,aO az];exact gN (c+1) az (hbf h1.symm)
     ·intro k u hk hu hd yt hn2 h1
      have hu':L[k]?=some u:=by rw[←hu,EC];simp;omega
      rw[hd,List.any_cons] at h1;refine Br _ _ _ _ _ _ _ _ _ _ _ (aa ie ?_);rw[aO az];simp only[nr,aN,hu',ha,bq,eT,bV,cq]
      by_cases h3:u.k=1
      ·rw[aT h3]
       by_cases h2:u.c=L[i].c
       ·rw[aT h2]
        rw[iK h3,iK h2,Bool.and_self,Bool.true_or] at h1;exact Ly _ _ _ _ _ _ _ _ (gO1 (hbt h1.symm))
       ·rw[aK h2]
        rw[iZ h2,Bool.and_false,GF] at h1;exact hn2 h1
      ·rw[aK h3]
       rw[iZ h3,Bool.false_and,GF] at h1;exact hn2 h1
    exact keyI hb
   have Z6: ∀z,ai C dG [lX p.aU,vI L[i].a] (vI z) []↔z=fJ p.aU L[i].a:=fun z=>Ce p.aU L[i].a az z;have hcell: ∀n b,ai C sJ [mE p.cells,vI L[i].c,vI L[i].g] (.tu [(0,[iI n]),(0,[iB b])]) []↔n=(cellAt p.cells L[i].c L[i].g).1∧b=(cellAt p.cells L[i].c L[i].g).2:=fun n b=>RO p.cells az _ _ n b;refine Bq _ _ _ _ _ _ _ _ _ _ (aa ie ?_);simp only[nr,aN,ha,bq,eT,Z6,hcell,and_assoc,exists_and_left,eC,jb,bV,bY,cq]
   rw[aO (a:=(i:Int)) az]
   by_cases h1:fJ p.aU L[i].a<0
   ·rw[aT h1];exact gO1 (by simp[dB,ha,h1])
   ·rw[aK h1]
    by_cases h2:L[i].k=1
    ·rw[aT h2]
     cases h3:(cellAt p.cells L[i].c L[i].g).2 with
     |false=>exact av rfl (gO1 (by simp[dB,ha,h2,h3]))
     |true=>
      refine aa rfl ?_;exact hin _ rfl (fun e=>by simp only[dB,ha,e,h2];simp) (fun e=>by simp only[dB,ha,e,h2,h3];simp[h1]) h2
    ·rw[aK h2]
     rw[aK h2] at hc;exact gN c az (by simp[dB,ha,h1,h2])
 exact key 0 cE rfl
theorem KW (p:bg) (hS:aQ p≤4194304) (h24:p.cells.length=24):ai C fu [dK p] (vB (jw p)) []:=by
 have hP:=eF hS;have htl:=gZ p.t;refine(QT _ _ _ _ _ _ _ ?_).run;refine aa (g24 az) ⟨_,y6 p.t az,?_⟩;unfold jw;generalize ay p.t=L at*;have hdk:cQ L≤L.length:=LN _ _
 have key: ∀c:Nat,c+cQ (L.drop 0)=cQ L→((List.range' 0 (L.length-0)).all (dB p L)&&decide ((bX p.cells:Int)=cQ L))=(dD L.length (dB p L)&&decide ((bX p.cells:Int)=cQ L))→ah C fu aH 4 0 (jL (c:Int) (L.map bG) ((0:Nat):Int) (p.t.ax.map bI) (p.t.nodes.map aX) (p.aU.map bS) (p.cells.map bR) (p.aq.map cj) p.next ((qq (L.take 0)).map L4)) (fun u st=>aD C fu aH u st fun r fs=>r=vB (dD L.length (dB p L)&&decide ((bX p.cells:Int)=cQ L))∧fs=[]):=by
  refine p9 L.length (fun i=> ∀c:Nat,c+cQ (L.drop i)=cQ L→((List.range' i (L.length-i)).all (dB p L)&&decide ((bX p.cells:Int)=cQ L))=(dD L.length (dB p L)&&decide ((bX p.cells:Int)=cQ L))→ah C fu aH 4 0 (jL (c:Int) (L.map bG) i (p.t.ax.map bI) (p.t.nodes.map aX) (p.aU.map bS) (p.cells.map bR) (p.aq.map cj) p.next ((qq (L.take i)).map L4)) (fun u st=>aD C fu aH u st fun r fs=>r=vB (dD L.length (dB p L)&&decide ((bX p.cells:Int)=cQ L))∧fs=[])) ?_ ?_
  ·intro c hc h0
   rw[oF] at h0;simp only[List.range'_zero,oE,dz] at h0;rw[fF] at hc
   have hc0:c=cQ L:=by simpa [cQ] using hc
   subst hc0;refine Bl _ _ _ _ _ _ _ _ _ _ _ (av cE (Lm _ _ _ _ _ _ _ _ _ _ _ _ _ ⟨_,HU p.cells az,?_⟩));rw[←h0];refine⟨?_,by trivial⟩;simp[bV,eq_comm]
  ·intro i hi hn c hc h0
   rw[lY hi,pF] at h0;have ha:L[i]?=some L[i]:=bH hi;rw[wZ hi,GP] at hc;have gO1: ∀u,dB p L i=false→aD C fu aH TX.ret (nU (p.t.ax.map bI) (p.t.nodes.map aX) (p.aU.map bS) (p.cells.map bR) (p.aq.map cj) p.next L[i].b L[i].a L[i].k L[i].c L[i].g u (L.map bG)) (fun r fs=>r=vB (dD L.length (dB p L)&&decide ((bX p.cells:Int)=cQ L))∧fs=[]):=fun u e=>Ll _ _ _ _ _ _ _ _ _ _ _ _ _ _ (by rw[←h0,e];exact fG)
   have ht1:L.take (i+1)=L.take i++[L[i]]:=by rw[List.take_add_one,ha];rfl
   have gN: ∀c':Nat,c'+cQ (L.drop (i+1))=cQ L→dB p L i=true→ah C fu aH 4 0 (jL (c':Int) (L.map bG) ((i:Int)+1) (p.t.ax.map bI) (p.t.nodes.map aX) (p.aU.map bS) (p.cells.map bR) (p.aq.map cj) p.next ((qq (L.take (i+1))).map L4)) (fun u st=>aD C fu aH u st fun r fs=>r=vB (dD L.length (dB p L)&&decide ((bX p.cells:Int)=cQ L))∧fs=[]):=fun c' e' e=>hn c' e' (by rw[←h0,e];rfl);have Z6: ∀z,ai C kK [lX p.aU,vI L[i].a] (vI z) []↔z=fJ p.aU L[i].a:=fun z=>Cg p.aU L[i].a az z
   have hcell: ∀n b,ai C sH [mE p.cells,vI L[i].c,vI L[i].g] (.tu [(0,[iI n]),(0,[iB b])]) []↔n=(cellAt p.cells L[i].c L[i].g).1∧b=(cellAt p.cells L[i].c L[i].g).2:=fun n b=>RQ p.cells az _ _ n b;refine Bl _ _ _ _ _ _ _ _ _ _ _ (aa ie ?_);simp only[nr,aN,ha,bq,eT,Z6,hcell,and_assoc,exists_and_left,eC,jb,bV,bY,cq];rw[aO (a:=(i:Int)) az]
   by_cases h1:fJ p.aU L[i].a<0
   ·rw[aT h1];exact gO1 _ (by simp[dB,ha,h1])
   ·rw[aK h1]
    by_cases h2:L[i].k=1
    ·rw[aT h2]
     cases h3:(cellAt p.cells L[i].c L[i].g).2 with
     |false=>exact av rfl (gO1 _ (by simp[dB,ha,h2,h3]))
     |true=>
      refine aa rfl ?_;have hci:=abE h3;rw[h24] at hci;simp only[afN,Xh (L.take i) hci,bq,eT,eC,afP]
      cases h4:(L.take i).any fun x=>decide (x.k=1)&&decide (x.c=L[i].c) with
      |true=>exact aa rfl (gO1 _ (by simp only[dB,ha,h4,h2];simp))
      |false=>
       refine av rfl ?_;rw[Xi (L.take i) L[i] h2 hci,←ht1,aO (a:=(c:Int)) az];rw[aT h2] at hc;exact gN (c+1) az (by simp only[dB,ha,h4,h2,h3];simp[h1])
    ·rw[aK h2]
     rw[aK h2] at hc;have hg:=gN c az (by simp[dB,ha,h1,h2]);rw[ht1,U6 _ _ h2] at hg;exact hg
 rw[Vw,←ah7];exact key 0 cE rfl
theorem KX:ai C B5 [] (dK pI) []:=by
 refine(Q6 _ ?_).run;refine⟨_,_,(QW _ fG).run,_,(Ee _ (aa (g24 az) fG)).run,?_⟩;rw[Vw];exact fG
theorem KY:ai C wF [] (dK pI) []:=by
 refine(QS _ ?_).run;refine⟨_,_,(QM _ fG).run,_,(NS _ (aa (g24 az) fG)).run,?_⟩;rw[Vw];exact fG
def lC (n:Int) (a:mw):Bool:=decide (a.id<n)
theorem abV (p:bg):cr p=(p.aU.all (lC p.next)&&(cP p.t&&(gE p.aU&&(fE p.cells&&(g8 p.next 1 61&&(iX p&&jw p)))))):=rfl
theorem agf {l:List Cell} (h:fE l=true):l.length=24:=by simp[fE] at h;omega
theorem KZ (p:bg) (hS:aQ p≤4194304):ai C cc [dK p] (vB ((p.aU.all (lC p.next)&&(cP p.t&&(gE p.aU&&(fE p.cells&&(g8 p.next 1 61&&(iX p&&jw p)))))))) []:=by
 refine(SV _ _ _ _ _ _ _ ?_).run;have hP:=eF hS;have htl:=gZ p.t
 have key:((p.aU.drop 0).all (lC p.next)&&(cP p.t&&(gE p.aU&&(fE p.cells&&(g8 p.next 1 61&&(iX p&&jw p))))))=(p.aU.all (lC p.next)&&(cP p.t&&(gE p.aU&&(fE p.cells&&(g8 p.next 1 61&&(iX p&&jw p))))))→ah C cc an 4 0 (mN ((0:Nat):Int) (p.t.ax.map bI) (p.t.nodes.map aX) (p.aU.map bS) (p.cells.map bR) (p.aq.map cj) p.next) (fun u st=>aD C cc an u st fun r fs=>r=vB ((p.aU.all (lC p.next)&&(cP p.t&&(gE p.aU&&(fE p.cells&&(g8 p.next 1 61&&(iX p&&jw p)))))))∧fs=[]):=by
  refine bP p.aU (fun i=>((p.aU.drop i).all (lC p.next)&&(cP p.t&&(gE p.aU&&(fE p.cells&&(g8 p.next 1 61&&(iX p&&jw p))))))=(p.aU.all (lC p.next)&&(cP p.t&&(gE p.aU&&(fE p.cells&&(g8 p.next 1 61&&(iX p&&jw p))))))→ah C cc an 4 0 (mN i (p.t.ax.map bI) (p.t.nodes.map aX) (p.aU.map bS) (p.cells.map bR) (p.aq.map cj) p.next) (fun u st=>aD C cc an u st fun r fs=>r=vB ((p.aU.all (lC p.next)&&(cP p.t&&(gE p.aU&&(fE p.cells&&(g8 p.next 1 61&&(iX p&&jw p)))))))∧fs=[])) ?_ ?_
  ·intro h0
   refine Ec _ _ _ _ _ _ _ _ (av cE (NY _ _ _ _ _ _ _ _ _ ?_));rw[fF] at h0;simp only[oE,dz] at h0;rw[←h0];refine⟨_,rL p.t az,?_⟩
   cases h1:cP p.t with
   |false=>exact av rfl fG
   |true=>
    refine aa rfl ⟨_,(RX p.aU az (gE p.aU)).2 rfl,?_⟩
    cases h2:gE p.aU with
    |false=>exact av rfl fG
    |true=>
     refine aa rfl ⟨_,(xI p.cells az (fE p.cells)).2 rfl,?_⟩
     cases h3:fE p.cells with
     |false=>exact av rfl fG
     |true=>
      refine aa rfl ⟨_,m6 p.next 1 61,?_⟩
      cases h4:g8 p.next 1 61 with
      |false=>exact av rfl fG
      |true=>
       refine aa rfl ⟨_,KU p hS,?_⟩
       cases h5:iX p with
       |false=>exact av rfl fG
       |true=>exact aa rfl ⟨_,KV p hS,fG⟩
  ·intro i a hi ha hd yt hn h0
   have gO:(lC p.next) a=false→(p.aU.all (lC p.next)&&(cP p.t&&(gE p.aU&&(fE p.cells&&(g8 p.next 1 61&&(iX p&&jw p))))))=false:=fun e=>by rw[←h0,hd];simp[e]
   have gN:(lC p.next) a=true→ah C cc an 4 0 (mN ((i:Int)+1) (p.t.ax.map bI) (p.t.nodes.map aX) (p.aU.map bS) (p.cells.map bR) (p.aq.map cj) p.next) (fun u st=>aD C cc an u st fun r fs=>r=vB ((p.aU.all (lC p.next)&&(cP p.t&&(gE p.aU&&(fE p.cells&&(g8 p.next 1 61&&(iX p&&jw p)))))))∧fs=[]):=fun e=>hn (by rw[←h0,hd];simp[e]);refine Ec _ _ _ _ _ _ _ _ (aa ie ?_);simp only[xp,aN,ha,bq,eT,iA,cq];rw[aO az]
   by_cases h1:p.next≤a.id
   ·rw[aT h1];exact NX _ _ _ _ _ _ _ (by rw[gO (by simp[lC];omega)];exact fG)
   ·rw[aK h1];exact gN (by simp[lC];omega)
 exact key rfl
theorem fO (p:bg) (hS:aQ p≤4194304):ai C cc [dK p] (vB (cr p)) []:=KZ p hS
theorem MG (p:bg) (hS:aQ p≤4194304):ai C gr [dK p] (vB (cr p)) []:=by
 have hP:=eF hS;rw[abV];refine(SI _ _ _ _ _ _ _ ?_).run;refine⟨_,ME p.t az,?_⟩
 cases h1:cP p.t with
 |false=>exact aa rfl ⟨by simp,by trivial⟩
 |true=>
  refine av rfl ⟨_,(RZ p.aU az (gE p.aU)).2 rfl,?_⟩
  cases h2:gE p.aU with
  |false=>exact aa rfl ⟨by simp,by trivial⟩
  |true=>
   refine av rfl ⟨_,(P8 p.cells az (fE p.cells)).2 rfl,?_⟩
   cases h3:fE p.cells with
   |false=>exact aa rfl ⟨by simp,by trivial⟩
   |true=>
    refine av rfl ⟨_,qe p.next 1 61,?_⟩
    cases h4:g8 p.next 1 61 with
    |false=>exact aa rfl ⟨by simp,by trivial⟩
    |true=>
     refine av rfl ?_;simp only[dz]
     have key:((p.aU.drop 0).all (lC p.next)&&(iX p&&jw p))=(p.aU.all (lC p.next)&&(iX p&&jw p))→ah C gr aj 4 0 (oQ (p.aU.map bS) ((0:Nat):Int) (p.t.ax.map bI) (p.t.nodes.map aX) (p.cells.map bR) (p.aq.map cj) p.next) (fun u st=>aD C gr aj u st fun r fs=>r=vB (p.aU.all (lC p.next)&&(iX p&&jw p))∧fs=[]):=by
      refine bP p.aU (fun i=>((p.aU.drop i).all (lC p.next)&&(iX p&&jw p))=(p.aU.all (lC p.next)&&(iX p&&jw p))→ah C gr aj 4 0 (oQ (p.aU.map bS) i (p.t.ax.map bI) (p.t.nodes.map aX) (p.cells.map bR) (p.aq.map cj) p.next) (fun u st=>aD C gr aj u st fun r fs=>r=vB (p.aU.all (lC p.next)&&(iX p&&jw p))∧fs=[])) ?_ ?_
      ·intro h0
       rw[fF] at h0;simp only[oE,dz] at h0;refine D4 _ _ _ _ _ _ _ _ (av cE (NI _ _ _ _ _ _ _ _ _ _ ⟨_,MF p hS,?_⟩));rw[←h0]
       cases h5:iX p with
       |false=>exact av rfl fG
       |true=>exact aa rfl ⟨_,KW p hS (agf h3),fG⟩
      ·intro i a hi ha hd yt hn h0
       rw[hd,pF] at h0;refine D4 _ _ _ _ _ _ _ _ (aa ie ?_);simp only[xp,aN,ha,bq,eT,iA,cq];rw[aO az]
       by_cases h5:p.next≤a.id
       ·rw[aT h5]
        have e:lC p.next a=false:=by simp[lC];omega
        exact NH _ _ _ _ _ _ _ _ _ (by rw[←h0,e];exact fG)
       ·rw[aK h5]
        have e:lC p.next a=true:=by simp[lC];omega
        exact hn (by rw[←h0,e];rfl)
     exact key rfl
theorem K0 (p:bg) (hS:aQ p≤4194304) (i b:Int) (v:jU) (hv:eI p.aq i=some v) (hb:0≤b∧b<v.size) (hm:v.size≤9223372036854775807):ai C tD [dK p,vI i,vI b] (vI (jc p i b)) []:=by
 have hP:=eF hS
 have hi:0≤i∧i<p.aq.length:=by
  apply Classical.byContradiction
  intro hn;rw[jF hn] at hv
  cases hv
 have hq:jc p i b=if(oJ p.t p.aU b v.dJ).2=true∧(oJ p.t p.aU b v.dJ).1.k=1 then(cellAt p.cells (oJ p.t p.aU b v.dJ).1.c (oJ p.t p.aU b v.dJ).1.g).1 else 0:=by
  unfold jc;rw[hv];exact aT hb
 have inT:g8 i 0 (dV (Int.ofNat (p.aq.map cj).length) 1)=true:=by
  rw[dL ie];simp[g8];omega
 have inT2:g8 b 0 (dV v.size 1)=true:=by
  rw[dL az];simp[g8];omega
 refine(yd _ _ _ _ _ _ _ _ _ ?_).run;refine⟨_,m6 _ _ _,av (by rw[inT];rfl) (av ie ?_)⟩;simp only[vp,hv,bq,eT];refine av ie ?_;refine⟨(vI (jc p i b),[]),?_,?_,fG⟩
 ·refine⟨_,_,_,_,_,_,Ah p.t p.aU b v.dJ az az,?_⟩
  cases h1:(oJ p.t p.aU b v.dJ).2 with
  |false=>exact aa rfl (by rw[hq];simp[h1])
  |true=>
   refine av rfl ?_
   by_cases h2:(oJ p.t p.aU b v.dJ).1.k=1
   ·exact av (by simp[h2]) ⟨_,_,vt p.cells _ _ az,by rw[hq,aT ⟨h1,h2⟩]⟩
   ·exact aa (by simp[h2]) (by rw[hq,aK (fun h=>h2 h.2)])
 ·refine⟨_,_,_,_,_,_,Ah p.t p.aU b v.dJ az az,?_⟩
  cases h1:(oJ p.t p.aU b v.dJ).2 with
  |false=>exact aa rfl (by rw[hq];simp[h1])
  |true=>
   refine av rfl ?_
   by_cases h2:(oJ p.t p.aU b v.dJ).1.k=1
   ·exact av (by simp[h2]) ⟨_,_,vt p.cells _ _ az,by rw[hq,aT ⟨h1,h2⟩]⟩
   ·exact aa (by simp[h2]) (by rw[hq,aK (fun h=>h2 h.2)])
theorem AR (p:bg) (hS:aQ p≤4194304) (i b:Int) (v:jU) (hv:eI p.aq i=some v) (hb:0≤b∧b<v.size) (hm:v.size≤9223372036854775807):ai C mZ [dK p,vI i,vI b] (vI (jc p i b)) []:=by
 have hP:=eF hS
 have hi:0≤i∧i<p.aq.length:=by
  apply Classical.byContradiction
  intro hn;rw[jF hn] at hv
  cases hv
 have hq:jc p i b=if(oJ p.t p.aU b v.dJ).2=true∧(oJ p.t p.aU b v.dJ).1.k=1 then(cellAt p.cells (oJ p.t p.aU b v.dJ).1.c (oJ p.t p.aU b v.dJ).1.g).1 else 0:=by
  unfold jc;rw[hv];exact aT hb
 have inT:g8 i 0 (dV (Int.ofNat (p.aq.map cj).length) 1)=true:=by
  rw[dL ie];simp[g8];omega
 have inT2:g8 b 0 (dV v.size 1)=true:=by
  rw[dL az];simp[g8];omega
 refine(yc _ _ _ _ _ _ _ _ _ ?_).run;refine⟨_,qe _ _ _,av (by rw[inT];rfl) ?_⟩;simp only[vp,hv,bq,eT];refine⟨_,qe _ _ _,av (by rw[inT2];rfl) ?_⟩;refine⟨(vI (jc p i b),[]),?_,?_,fG⟩
 ·refine⟨_,_,_,_,_,_,GX p.t p.aU b v.dJ az az,?_⟩
  cases h1:(oJ p.t p.aU b v.dJ).2 with
  |false=>exact aa rfl (by rw[hq];simp[h1])
  |true=>
   refine av rfl ?_
   by_cases h2:(oJ p.t p.aU b v.dJ).1.k=1
   ·exact av (by simp[h2]) ⟨_,_,vu p.cells _ _ az,by rw[hq,aT ⟨h1,h2⟩]⟩
   ·exact aa (by simp[h2]) (by rw[hq,aK (fun h=>h2 h.2)])
 ·refine⟨_,_,_,_,_,_,GX p.t p.aU b v.dJ az az,?_⟩
  cases h1:(oJ p.t p.aU b v.dJ).2 with
  |false=>exact aa rfl (by rw[hq];simp[h1])
  |true=>
   refine av rfl ?_
   by_cases h2:(oJ p.t p.aU b v.dJ).1.k=1
   ·exact av (by simp[h2]) ⟨_,_,vu p.cells _ _ az,by rw[hq,aT ⟨h1,h2⟩]⟩
   ·exact aa (by simp[h2]) (by rw[hq,aK (fun h=>h2 h.2)])
theorem MH (p:bg) (hS:aQ p≤4194304) (hz: ∀v∈p.aq,v.size≤9223372036854775807):ai C cD [dK p] (TT (zY p)) []:=by
 have hP:=eF hS;refine(SP _ _ _ _ _ _ _ ?_).run
 have key: ∀acc:List Mp,acc++q9 p 0 (p.aq.drop 0)=zY p→ah C cD aj 4 0 (jr (p.aq.map cj) (Int.ofNat (p.aq.map cj).length) ((0:Nat):Int) (p.t.ax.map bI) (p.t.nodes.map aX) (p.aU.map bS) (p.cells.map bR) p.next (acc.map AI)) (fun u st=>aD C cD aj u st fun r fs=>r=TT (zY p)∧fs=[]):=by
  refine bP p.aq (fun i=> ∀acc:List Mp,acc++q9 p i (p.aq.drop i)=zY p→ah C cD aj 4 0 (jr (p.aq.map cj) (Int.ofNat (p.aq.map cj).length) i (p.t.ax.map bI) (p.t.nodes.map aX) (p.aU.map bS) (p.cells.map bR) p.next (acc.map AI)) (fun u st=>aD C cD aj u st fun r fs=>r=TT (zY p)∧fs=[])) ?_ ?_
  ·intro acc h0
   rw[fF] at h0;simp only[q9,nG] at h0;subst h0;exact D7 _ _ _ _ _ _ _ _ _ _ (av cE (NM _ _ _ _ _ _ _ _ _ _ _ fG))
  ·intro i v hi hv hd yt hn acc h0
   rw[hd] at h0;simp only[q9] at h0;have hzv:=hz v (ja hv)
   have hal:acc.length+(q9 p (i+1) (p.aq.drop (i+1))).length+1=p.aq.length:=by
    have:=congrArg List.length h0;rw[Zr,cT,g7] at this;omega
   have hgo:ah C cD aj 4 0 (jr (p.aq.map cj) (Int.ofNat (p.aq.map cj).length) ((i:Int)+1) (p.t.ax.map bI) (p.t.nodes.map aX) (p.aU.map bS) (p.cells.map bR) p.next ((acc++[HB p i v]).map AI)) (fun u st=>aD C cD aj u st fun r fs=>r=TT (zY p)∧fs=[]):=hn (acc++[HB p i v]) (by rw[Ap];exact h0);have aj8: ∀k:Nat,(k:Int)<v.size→ai C mZ [dK p,vI i,vI k] (vI (jc p i k)) []:=fun k hk=>AR p hS i k v (by rw[aN];exact hv) az hzv
   have hst: ∀m k:Nat,k+m=min v.size.toNat 12→1≤k→ah C cD lO 3 2 (r8 i k (p.aq.map cj) (Int.ofNat (p.aq.map cj).length) (p.t.ax.map bI) (p.t.nodes.map aX) (p.aU.map bS) (p.cells.map bR) p.next v.name v.dJ v.size v.fx (acc.map AI) ((blocks p i k).map bI)) (fun u st=>ov C cD aj 4 0 xQ u st (fun u st=>aD C cD aj u st fun r fs=>r=TT (zY p)∧fs=[])):=by
    intro m
    induction m with
    |zero=>
     intro k hk h1
     have e:HB p i v=⟨v.name,v.fx,blocks p i k⟩:=by rw[tU] at hk;rw[hk];rfl
     rw[e] at hgo;refine D8 _ _ _ _ _ _ _ _ _ _ _ _ _ _ _ _ ?_
     by_cases h2:(k:Int)<v.size
     ·refine aa ie (av ie (NO _ _ _ _ _ _ _ _ _ _ _ _ _ _ _ _ (aa (cM ie) ?_)))
      rw[aO az,U5];exact hgo
     ·refine av ie (NP _ _ _ _ _ _ _ _ _ _ _ _ _ _ _ _ (aa (cM ie) ?_))
      rw[aO az,U5];exact hgo
    |succ m ih=>
     intro k hk h1;refine D8 _ _ _ _ _ _ _ _ _ _ _ _ _ _ _ _ ?_;refine aa ie (aa ie ⟨_,aj8 k az,aa ?_ ?_⟩)
     ·rw[cM (by simp[Zq];omega),Kv];rfl
     ·rw[aO az,IZ,←Xj]
      exact ih (k+1) az az
   refine D7 _ _ _ _ _ _ _ _ _ _ (aa ie ?_);simp only[vp,aN,hv,bq,eT];refine NL _ _ _ _ _ _ _ _ _ _ _ _ _ _ ?_
   by_cases h2:0<v.size
   ·refine aa ie (aa cE ⟨_,aj8 0 az,aa ?_ ?_⟩)
    ·rw[cM az,Kv];rfl
    ·have h3:=hst (min v.size.toNat 12-1) 1 az az
     rw[aO az];exact h3
   ·have e:HB p i v=⟨v.name,v.fx,[]⟩:=by
     have:min v.size.toNat 12=0:=by omega
     unfold HB;rw[this];rfl
    rw[e] at hgo;refine av ie (NN _ _ _ _ _ _ _ _ _ _ _ _ _ _ (aa (cM ie) ?_));rw[aO az];have e2:List.append (acc.map AI) [[iS v.name,iB v.fx,TC.sub 1 []]]=(acc++[(⟨v.name,v.fx,[]⟩:Mp)]).map AI:=U5 (r:=[]);rw[e2];exact hgo
 exact key [] rfl
theorem vA (l:List Cell) (hl:l.length≤1073741824):ai C j7 [mE l] (mE l) []:=by
 refine(S3 _ _ ?_).run;rw[show bM (l.map bR)=true from by simp[Pv],cM ie];exact fG
theorem tH (l:List Cell) (i:Int) (hl:l.length≤1073741824):ai C ry [mE l,vI i] (mE (kZ l i)) []:=by
 refine(N8 _ _ _ ⟨_,vA l hl,_,(xI l hl (fE l)).2 rfl,?_⟩).run
 cases h1:fE l with
 |false=>exact av rfl ⟨by rw[U7 h1],by trivial⟩
 |true=>
  refine aa rfl ⟨_,m6 _ _ _,?_⟩
  (try dsimp only)
  rw[cn,show dV (Int.ofNat l.length) 1=(l.length:Int)-1 from dL ie]
  by_cases h2:0≤i∧i<l.length
  ·obtain⟨c,hc⟩:=gj h2.1 h2.2
   refine aa (by simp[g8];omega) ?_;simp only[qp,hc,bq,eT]
   cases h3:c.u with
   |false=>exact av rfl ⟨by rw[Xk hc h3],by trivial⟩
   |true=>
    refine aa rfl (av cE ?_);simp only[qp,hc,bq,eT,afO];exact⟨by rw[U8 hc h1 h3],by trivial⟩
  ·exact av (by simp[g8];omega) ⟨by rw[RC (jF h2)],by trivial⟩
theorem tI (l:List Cell) (n:Int) (hl:l.length≤1073741824):ai C dQ [mE l,vI n] (ahY (jA l n)) []:=by
 refine(N5 _ _ _ ⟨_,vA l hl,?_⟩).run
 have key:eZ Kx (l.drop 0) ((0:Nat):Int)=jG l→ah C dQ aj 4 0 (ng (l.map bR) n ((0:Nat):Int) (l.map bR)) (fun u st=>aD C dQ aj u st fun r fs=>r=ahY (jA l n)∧fs=[]):=by
  refine bP l (fun i=>eZ Kx (l.drop i) (i:Int)=jG l→ah C dQ aj 4 0 (ng (l.map bR) n i (l.map bR)) (fun u st=>aD C dQ aj u st fun r fs=>r=ahY (jA l n)∧fs=[])) ?_ ?_
  ·intro h0
   rw[fF] at h0;simp only[eZ] at h0;exact zC _ _ _ _ _ (av cE (zE _ _ _ _ _ ⟨by rw[uY (fun h=>by omega)],by trivial⟩))
  ·intro i a hi ha hd yt hn h0
   rw[hd] at h0;simp only[eZ] at h0;refine zC _ _ _ _ _ (aa ie ⟨_,(xI l hl (fE l)).2 rfl,?_⟩)
   cases h2:fE l with
   |false=>exact av rfl (zE _ _ _ _ _ ⟨by rw[uY (fun h=>by rw[h2] at h;cases h.1)],by trivial⟩)
   |true=>
    refine aa rfl ⟨_,(uN n (lz n)).2 rfl,?_⟩
    cases h1:lz n with
    |false=>exact av rfl (JJ _ _ _ _ _ _ ⟨by rw[uY (fun h=>by rw[h1] at h;cases h.2.1)],by trivial⟩)
    |true=>
     refine aa rfl ?_
     have hc:eI l (i:Int)=some a:=by rw[aN];exact ha
     simp only[qp,hc,bq,eT];rw[aO az]
     cases h3:a.u with
     |false=>
      rw[aT (by simp[Kx,h3])] at h0;refine aa rfl ?_;simp only[qp,abC,abD,hc,adL,Xc,bq,eT,mod_mod];refine JI _ _ _ ⟨?_,by trivial⟩;rw[BV ⟨h2,h1,by omega⟩,←h0]
     |true=>rw[aK (by simp[Kx,h3])] at h0;exact av rfl (hn h0)
 exact key rfl
theorem K1 (o:JW):ai C oz [.ag (Ku o)] (vB (PA o)) []:=by
 refine(QU _ _ _ _ _ _ ?_).run;simp only[Af,eC,iA,bV,Zk,cq,bY];unfold PA
 (repeat' split)<;>simp_all<;>omega
theorem Qd (k:Int) (s t:ByteArray) (a b:Int) (q:Bool):ai C oz [.ag [iI k,iS s,iS t,iI a,iI b]] (vB q) []↔q=PA ⟨k,s,t,a,b⟩:=sO (K1 ⟨k,s,t,a,b⟩)
theorem R1 (o:JW) (h1:o.name.size≤140737488355328) (h2:o.to.size≤140737488355328):ai C KI [.ag (Ku o)] (vB (Xl o)) []:=by
 obtain⟨k,s,t,a,b⟩:=o;refine(Yp _ _ _ _ _ _ ?_).run;simp only[Af,rC s h1,rC t h2,uN,Qd,eC,iA,bV,Zk,cq,bY];unfold Xl opName ajt;simp only[];generalize PA ⟨k,s,t,a,b⟩=z;generalize mF s=x;generalize mF t=y;generalize lz a=u;generalize lz b=v;generalize g8 k 1 9=w
 by_cases p1:7≤k<;>by_cases p2:k=2<;>by_cases p3:s=lS<;>by_cases p4:t=lS<;>first
  |omega
  |(simp only[p1,p2,p3,p4,if_true,if_false,decide_true,decide_false,reduceIte]
    cases w<;>(try simp only[mC,tW,dz,Bool.false_and])<;>cases x<;>cases y<;>cases u<;>cases v<;>(try simp only[mC,tW,jz,Bool.and_false,dz,Bool.false_and])<;>(first|exact fG|simp))
theorem Fm (l:List Key) (b a:Int) (hl:l.length≤1073741824):ai C iL [dR l,vI b,vI a] (Zo (Ky l b a)) []:=by
 refine(VM _ _ _ _ ?_).run
 have key:setAt (l.drop 0) b a=setAt l b a→ah C iL an 4 0 (nT (l.map bG) b a ((0:Nat):Int)) (fun u st=>aD C iL an u st fun r fs=>r=(Zo (Ky l b a))∧fs=[]):=by
  refine bP l (fun i=>setAt (l.drop i) b a=setAt l b a→ah C iL an 4 0 (nT (l.map bG) b a i) (fun u st=>aD C iL an u st fun r fs=>r=(Zo (Ky l b a))∧fs=[])) ?_ ?_
  ·intro h0
   rw[fF] at h0;refine FO _ _ _ _ _ (av cE (QD _ _ _ _ _ _ ⟨?_,by trivial⟩));unfold Ky;rw[←h0];rfl
  ·intro i x hi hx hd yt hn h0
   rw[hd] at h0;simp only[setAt,List.find?_cons] at h0;refine FO _ _ _ _ _ (aa ie ?_);simp only[nr,aN,hx,bq,eT,bV,cq];rw[aO az]
   by_cases h1:x.b=b
   ·rw[aT h1]
    by_cases h2:x.a=a
    ·rw[aT h2]
     rw[iK ⟨h1,h2⟩] at h0;refine QC _ _ _ _ _ _ ⟨?_,by trivial⟩;unfold Ky setAt;rw[←h0]
    ·rw[aK h2]
     rw[iZ (fun h=>h2 h.2)] at h0;exact hn h0
   ·rw[aK h1]
    rw[iZ (fun h=>h1 h.1)] at h0;exact hn h0
 exact key rfl
theorem MI (n:List (List Key)) (b a:Int) (hl:n.length≤1073741824) (hs: ∀s∈n,s.length≤1073741824):ai C jm [mW n,vI b,vI a] (Zo (rj n b a n.length)) []:=by
 refine(Sl _ _ _ _ ?_).run
 have key: ∀k:Nat,k≤n.length→rj n b a k=rj n b a n.length→ah C jm an 4 0 (oN b a ((k:Int)-1) (n.map eP)) (fun u st=>aD C jm an u st fun r fs=>r=(Zo (rj n b a n.length))∧fs=[]):=by
  intro k
  induction k with
  |zero=>
   intro _ hk;refine DM _ _ _ _ _ (av cE (Nb _ _ _ _ _ _ ⟨?_,by trivial⟩));rw[←hk];rfl
  |succ k ih=>
   intro hle hk;have hx:n[k]?=some n[k]:=bH az;rw[show((k+1:Nat):Int)-1=(k:Int) by omega];have hss:=hs n[k] (tT az);generalize n[k]=s at hx hss;simp only[rj,hx] at hk;refine DM _ _ _ _ _ (aa cE ?_);simp only[E1,aN,hx,bq,eT];rw[dL az];refine⟨_,_,_,_,_,_,Fm s b a hss,?_⟩
   cases h2:(Ky s b a).2 with
   |false=>
    rw[h2] at hk;exact av rfl (av rfl (ih az (by simpa using hk)))
   |true=>
    rw[h2] at hk;simp only[if_true] at hk;refine aa rfl ?_
    by_cases h3:(Ky s b a).1.k=0
    ·refine aa (by simp[h3]) (DN _ _ _ _ _ _ _ _ _ _ _ _ _ ⟨?_,by trivial⟩)
     rw[aT h3] at hk;rw[←hk];rfl
    ·refine av (by simp[h3]) (aa rfl (DN _ _ _ _ _ _ _ _ _ _ _ _ _ ⟨?_,by trivial⟩))
     rw[aK h3] at hk;rw[←hk,←h2]
 rw[cn,show dV (Int.ofNat n.length) 1=(n.length:Int)-1 from dL ie];exact key n.length (dj _) rfl
theorem uy (t:Tree) (b a:Int) (hl:t.ax.length≤1073741824):ai C eJ [eD t,vI b,vI a] (vI (jx t b a)) []:=by
 refine(QB _ _ _ _ _ ?_).run;unfold jx
 have key:ah C eJ aj 4 0 (lP b a (rJ (fun x=>decide (x≤c7 b a)) t.ax 0) ((0:Nat):Int) (t.ax.map bI) (t.nodes.map aX)) (fun u st=>aD C eJ aj u st fun r fs=>r=(vI (rJ (fun x=>decide (x≤c7 b a)) t.ax t.ax.length))∧fs=[]):=by
  refine bP t.ax (fun i=>ah C eJ aj 4 0 (lP b a (rJ (fun x=>decide (x≤c7 b a)) t.ax i) i (t.ax.map bI) (t.nodes.map aX)) (fun u st=>aD C eJ aj u st fun r fs=>r=(vI (rJ (fun x=>decide (x≤c7 b a)) t.ax t.ax.length))∧fs=[])) ?_ ?_
  ·exact Bi _ _ _ _ _ _ _ (av cE (Le _ _ _ _ _ _ _ _ fG))
  ·intro i x hi hx hd yt hn
   simp only[rJ,hx] at hn;refine Bi _ _ _ _ _ _ _ (aa ie ?_);simp only[zW,aN,hx,bq,eT,GY,eC,iA,cq];rw[aO az]
   by_cases h1:x≤c7 b a
   ·rw[aT h1]
    rw[aT (iK h1)] at hn;exact hn
   ·rw[aK h1]
    rw[aK (by simpa using h1)] at hn;exact hn
 exact key
theorem vC (t:Tree) (b a:Int) (hl:dx t≤1073741824):ai C sM [eD t,vI b,vI a] (Zo (xu t b a)) []:=by
 have e2:dx t=t.ax.length+(t.nodes.length+tot aV t.nodes):=rfl;refine(Sa _ _ _ _ _ ⟨_,uy t b a az,_,m6 _ _ _,?_⟩).run;unfold xu;rw[cn,show dV (Int.ofNat t.nodes.length) 1=(t.nodes.length:Int)-1 from dL ie]
 by_cases h1:0≤jx t b a∧jx t b a<t.nodes.length
 ·obtain⟨n,hn⟩:=gj h1.1 h1.2
  have hz:aV n≤tot aV t.nodes:=uH (w:=aV) (uW hn);have e1:aV n=n.length+tot cw n:=rfl;refine av (by simp[g8];omega) ?_;simp only[BT,hn,bq,eT];refine⟨_,_,_,_,_,_,MI n b a az (fun s hs=> ?_),fG⟩;have h3:cw s≤tot cw n:=uH (w:=cw) hs;have h4:cw s=s.length:=rfl;omega
 ·rw[jF h1]
  exact aa (by simp[g8];omega) fG
theorem Cu (p:bg) (hS:aQ p≤4194304) (id:Int):ai C vf [dK p,vI id] (vI (E3 p id)) []:=by
 have hP:=eF hS;refine(S6 _ _ _ _ _ _ _ _ ⟨_,vv p.aU id az,_,Ag p id az,?_⟩).run;unfold E3
 cases h1:og p.aq id with
 |false=>exact aa rfl ⟨by simp,by trivial⟩
 |true=>
  refine av rfl ?_
  by_cases h2:(fI p.aU id).length=1
  ·obtain⟨x,hx⟩:=gj (l:=fI p.aU id) (i:=0) az az
   refine av (by simp[h2]) ?_;simp only[zW,hx,bq,eT];exact⟨by simp[h2],by trivial⟩
  ·exact aa ie ⟨by simp[h2],by trivial⟩
theorem K2 (p:bg) (hS:aQ p≤4194304) (k:Key):ai C Cd [dK p,AJ k] (vB (Xn p k)) []:=by
 have hP:=eF hS;refine(Re _ _ _ _ _ _ _ _ _ _ _ _ ⟨_,Cu p hS k.a,?_⟩).run;unfold Xn
 by_cases h1:E3 p k.a=0
 ·exact aa (by simp[h1]) ⟨by rw[aT h1],by trivial⟩
 ·exact av (by simp[h1]) ⟨_,_,_,_,_,_,vC p.t k.b (E3 p k.a) az,⟨by rw[aK h1],by trivial⟩⟩
theorem MJ (p:bg) (hS:aQ p≤4194304) (j:Int) (k:Key):ai C Fi [dK p,vI j,AJ k] (vB (wz p j k)) []:=by
 have hP:=eF hS;refine(S9 _ _ _ _ _ _ _ _ _ _ _ _ _ ?_).run;unfold wz
 by_cases h1:j=1
 ·exact aa (by simp[h1]) ⟨_,Gw p k az az az,⟨by rw[aT h1],by trivial⟩⟩
 ·refine av (by simp[h1]) ?_
  rw[aK h1]
  by_cases h2:j=2
  ·refine aa (by simp[h2]) ⟨_,_,_,_,_,_,xJ p.t p.aU k.b k.a az az,?_⟩
   rw[aT h2]
   by_cases h3:k.k=2
   ·exact aa (by simp[h3]) ⟨by simp[h3],by trivial⟩
   ·exact av (by simp[h3]) ⟨by simp[h3],by trivial⟩
  ·rw[aK h2]
   exact av (by simp[h2]) ⟨_,K2 p hS k,fG⟩
theorem MK (p:bg) (hS:aQ p≤4194304) (id:Int):ai C gT [dK p,vI id] (vB (((ay p.t).all (HC id)&&(og p.aq id&&decide ((fI p.aU id).length≤1))))) []:=by
 refine(Ta _ _ _ _ _ _ _ _ ?_).run;have hP:=eF hS;have htl:=gZ p.t;refine⟨_,jf p.t az,?_⟩
 have key:(((ay p.t).drop 0).all (HC id)&&(og p.aq id&&decide ((fI p.aU id).length≤1)))=((ay p.t).all (HC id)&&(og p.aq id&&decide ((fI p.aU id).length≤1)))→ah C gT aj 4 0 (mP id ((0:Nat):Int) (p.t.ax.map bI) (p.t.nodes.map aX) (p.aU.map bS) (p.cells.map bR) (p.aq.map cj) p.next ((ay p.t).map bG)) (fun u st=>aD C gT aj u st fun r fs=>r=vB (((ay p.t).all (HC id)&&(og p.aq id&&decide ((fI p.aU id).length≤1))))∧fs=[]):=by
  refine bP (ay p.t) (fun i=>(((ay p.t).drop i).all (HC id)&&(og p.aq id&&decide ((fI p.aU id).length≤1)))=((ay p.t).all (HC id)&&(og p.aq id&&decide ((fI p.aU id).length≤1)))→ah C gT aj 4 0 (mP id i (p.t.ax.map bI) (p.t.nodes.map aX) (p.aU.map bS) (p.cells.map bR) (p.aq.map cj) p.next ((ay p.t).map bG)) (fun u st=>aD C gT aj u st fun r fs=>r=vB (((ay p.t).all (HC id)&&(og p.aq id&&decide ((fI p.aU id).length≤1))))∧fs=[])) ?_ ?_
  ·intro h0
   refine Ej _ _ _ _ _ _ _ _ _ _ (av cE (Oe _ _ _ _ _ _ _ _ _ _ _ ?_));rw[fF] at h0;simp only[oE,dz] at h0;rw[←h0];refine⟨_,Ag p id az,?_⟩
   cases h1:og p.aq id with
   |false=>exact av rfl fG
   |true=>exact aa rfl ⟨_,vv p.aU id az,⟨by simp[iA];omega,by trivial⟩⟩
  ·intro i a hi ha hd yt hn h0
   have gO:(HC id) a=false→((ay p.t).all (HC id)&&(og p.aq id&&decide ((fI p.aU id).length≤1)))=false:=fun e=>by rw[←h0,hd];simp[e]
   have gN:(HC id) a=true→ah C gT aj 4 0 (mP id ((i:Int)+1) (p.t.ax.map bI) (p.t.nodes.map aX) (p.aU.map bS) (p.cells.map bR) (p.aq.map cj) p.next ((ay p.t).map bG)) (fun u st=>aD C gT aj u st fun r fs=>r=vB (((ay p.t).all (HC id)&&(og p.aq id&&decide ((fI p.aU id).length≤1))))∧fs=[]):=fun e=>hn (by rw[←h0,hd];simp[e]);refine Ej _ _ _ _ _ _ _ _ _ _ (aa ie ?_);simp only[nr,aN,ha,bq,eT,bV,cq];rw[aO az]
   by_cases h1:a.a=id
   ·rw[aT h1];exact Od _ _ _ _ _ _ _ _ (by rw[gO (by simp[HC,hasB,h1])];exact fG)
   ·rw[aK h1];exact gN (by simp[HC,hasB,h1])
 exact key rfl
theorem Jk (p:bg) (hS:aQ p≤4194304):ai C bD [dK p] (tII (gD p)) []:=by
 have hP:=eF hS;have htl:=gZ p.t;refine(N9 _ _ _ _ _ _ _ ⟨_,fO p hS,?_⟩).run
 cases hok:cr p with
 |false=>exact aa rfl ⟨by unfold gD;rw[hok];rfl,by trivial⟩
 |true=>
 refine av rfl ⟨_,jf p.t az,?_⟩
 have hstep: ∀j:Int,1≤j∧j≤3→(0≤pJ p j→gD p=(j,pJ p j))→(pJ p j<0→ah C bD aH 4 0 (nh (j+1) (p.t.ax.map bI) (p.t.nodes.map aX) (p.aU.map bS) (p.cells.map bR) (p.aq.map cj) p.next ((ay p.t).map bG)) (fun u st=>aD C bD aH u st fun r fs=>r=tII (gD p)∧fs=[]))→ah C bD aH 4 0 (nh j (p.t.ax.map bI) (p.t.nodes.map aX) (p.aU.map bS) (p.cells.map bR) (p.aq.map cj) p.next ((ay p.t).map bG)) (fun u st=>aD C bD aH u st fun r fs=>r=tII (gD p)∧fs=[]):=by
  intro j hj h1 h2;refine zF _ _ _ _ _ _ _ _ _ (aa ie ?_)
  have keyI:eZ (wz p j) ((ay p.t).drop 0) ((0:Nat):Int)=pJ p j→ah C bD gV 3 2 (ni j ((0:Nat):Int) (p.t.ax.map bI) (p.t.nodes.map aX) (p.aU.map bS) (p.cells.map bR) (p.aq.map cj) p.next ((ay p.t).map bG)) (fun u st=>ov C bD aH 4 0 vF u st (fun u st=>aD C bD aH u st fun r fs=>r=tII (gD p)∧fs=[])):=by
   refine bP (ay p.t) (fun i=>eZ (wz p j) ((ay p.t).drop i) (i:Int)=pJ p j→ah C bD gV 3 2 (ni j i (p.t.ax.map bI) (p.t.nodes.map aX) (p.aU.map bS) (p.cells.map bR) (p.aq.map cj) p.next ((ay p.t).map bG)) (fun u st=>ov C bD aH 4 0 vF u st (fun u st=>aD C bD aH u st fun r fs=>r=tII (gD p)∧fs=[]))) ?_ ?_
   ·intro h0
    rw[fF] at h0;simp only[eZ] at h0;refine zG _ _ _ _ _ _ _ _ _ _ (av cE (JN _ _ _ _ _ _ _ _ _ _ _ ?_));rw[aO az];exact h2 az
   ·intro i x hi hx hd yt hn h0
    rw[hd] at h0;simp only[eZ] at h0;refine zG _ _ _ _ _ _ _ _ _ _ (aa ie ?_);simp only[nr,aN,hx,bq,eT];refine⟨_,MJ p hS j x,?_⟩;rw[aO az]
    cases h4:wz p j x with
    |true=>
     rw[aT h4] at h0;exact aa rfl (JM _ _ _ _ _ _ _ _ _ _ (JO _ _ _ _ _ _ _ _ _ _ ⟨by rw[h1 az,←h0],by trivial⟩))
    |false=>rw[aK (by simp[h4])] at h0;exact av rfl (hn h0)
  exact keyI rfl
 refine hstep 1 az (fun h=>by unfold gD;rw[aT hok,aT h]) (fun h1=> ?_);refine hstep 2 az (fun h=>by unfold gD;rw[aT hok,aK az,aT h]) (fun h2=> ?_);refine hstep 3 az (fun h=>by unfold gD;rw[aT hok,aK az,aK az,aT h]) (fun h3=> ?_);refine zF _ _ _ _ _ _ _ _ _ (av cE (JL _ _ _ _ _ _ _ _ _ ?_))
 have key5:eZ (Gf p) (p.aU.drop 0) ((0:Nat):Int)=PB p→ah C bD dg 4 4 (nj ((0:Nat):Int) (p.t.ax.map bI) (p.t.nodes.map aX) (p.aU.map bS) (p.cells.map bR) (p.aq.map cj) p.next) (fun u st=>aD C bD dg u st fun r fs=>r=tII (gD p)∧fs=[]):=by
  refine bP p.aU (fun i=>eZ (Gf p) (p.aU.drop i) (i:Int)=PB p→ah C bD dg 4 4 (nj i (p.t.ax.map bI) (p.t.nodes.map aX) (p.aU.map bS) (p.cells.map bR) (p.aq.map cj) p.next) (fun u st=>aD C bD dg u st fun r fs=>r=tII (gD p)∧fs=[])) ?_ ?_
  ·intro h0
   rw[fF] at h0;simp only[eZ] at h0;exact zI _ _ _ _ _ _ _ _ (av cE (JQ _ _ _ _ _ _ _ _ _ ⟨by unfold gD;rw[aT hok,aK az,aK az,aK az,aK az],by trivial⟩))
  ·intro i x hi hx hd yt hn h0
   rw[hd] at h0;simp only[eZ] at h0;refine zI _ _ _ _ _ _ _ _ (aa ie ?_);simp only[xp,aN,hx,bq,eT];rw[aO az];refine⟨_,MK p hS x.id,?_⟩;have e:((ay p.t).all (HC x.id)&&(og p.aq x.id&&decide ((fI p.aU x.id).length≤1)))=Gf p x:=rfl;rw[e]
   cases h4:Gf p x with
   |true=>rw[aT h4] at h0;exact aa rfl (JP _ _ _ _ _ _ _ _ ⟨by unfold gD;rw[aT hok,aK az,aK az,aK az,aT az,←h0],by trivial⟩)
   |false=>rw[aK (by simp[h4])] at h0;exact av rfl (hn h0)
 exact key5 rfl
theorem vD (n:List (List Key)) (hl:n.length≤1073741824) (hs: ∀s∈n,s.length≤1073741824):ai C bN [mW n] (mW n) []:=by
 refine(Se _ _ ?_).run
 skip
 have key:((0:Nat)=0→ah C bN aj 4 0 (rR (n.map eP)) (fun u st=>aD C bN aj u st fun r fs=>r=(mW n)∧fs=[]))∧(0<(0:Nat)→ah C bN aj 4 0 (oL ((0:Nat):Int) (n.map eP) ((n.take 0).map eP)) (fun u st=>aD C bN aj u st fun r fs=>r=(mW n)∧fs=[])):=by
  refine bP n (fun i=>(i=0→ah C bN aj 4 0 (rR (n.map eP)) (fun u st=>aD C bN aj u st fun r fs=>r=(mW n)∧fs=[]))∧(0<i→ah C bN aj 4 0 (oL i (n.map eP) ((n.take i).map eP)) (fun u st=>aD C bN aj u st fun r fs=>r=(mW n)∧fs=[]))) ?_ ?_
  ·refine⟨fun h=> ?_,fun h=> ?_⟩
   ·have hnil:n=[]:=List.length_eq_zero_iff.1 h
    refine DF _ _ (av (by simp[h]) (M0 _ _ _ ⟨?_,by trivial⟩));simp[hnil]
   ·rw[sQ]
    exact DG _ _ _ _ (av cE (M3 _ _ _ _ _ fG))
  ·intro i a hi ha hd yt hn
   have hmem:=ja ha;refine⟨fun h=> ?_,fun h=> ?_⟩
   ·subst h
    have hz:eI n 0=some a:=(aN n 0).trans ha;have hn2:=hn.2 az;rw[yt] at hn2;refine DF _ _ (aa ie ?_);simp only[E1,hz,bq,eT];have hsa:=hs a hmem;refine aa (by rw[show bM (a.map bG)=true from lM _,cM ie];rfl) (aa (cM (by simp;try omega)) ?_);rw[aO az];exact hn2
   ·have hn2:=hn.2 az
    rw[yt] at hn2;refine DG _ _ _ _ (aa ie ?_);simp only[E1,aN,ha,bq,eT];have hsa:=hs a hmem;refine aa (by rw[show bM (a.map bG)=true from lM _,cM ie];rfl) (aa (cM (by simp;try omega)) ?_);rw[aO az];rw[ED] at hn2;exact hn2
 exact key.1 rfl
theorem rM (t:Tree) (hl:t.ax.length≤1073741824∧t.nodes.length≤1073741824) (hs: ∀n∈t.nodes,n.length≤1073741824∧ ∀s∈n,s.length≤1073741824):ai C cL [eD t] (eD t) []:=by
 refine(SA _ _ _ ?_).run;refine aa (by rw[show bM (t.ax.map bI)=true from kk _,cM ie];rfl) ?_
 have key:((0:Nat)=0→ah C cL aj 4 0 (r6 (t.ax.map bI) (t.nodes.map aX)) (fun u st=>aD C cL aj u st fun r fs=>r=(eD t)∧fs=[]))∧(0<(0:Nat)→ah C cL aj 4 0 (oO ((0:Nat):Int) (t.ax.map bI) (t.nodes.map aX) ((t.nodes.take 0).map aX)) (fun u st=>aD C cL aj u st fun r fs=>r=(eD t)∧fs=[])):=by
  refine bP t.nodes (fun i=>(i=0→ah C cL aj 4 0 (r6 (t.ax.map bI) (t.nodes.map aX)) (fun u st=>aD C cL aj u st fun r fs=>r=(eD t)∧fs=[]))∧(0<i→ah C cL aj 4 0 (oO i (t.ax.map bI) (t.nodes.map aX) ((t.nodes.take i).map aX)) (fun u st=>aD C cL aj u st fun r fs=>r=(eD t)∧fs=[]))) ?_ ?_
  ·refine⟨fun h=> ?_,fun h=> ?_⟩
   ·have hnil:t.nodes=[]:=List.length_eq_zero_iff.1 h
    refine DX _ _ _ (av (by simp[h]) (Nv _ _ _ _ ⟨?_,by trivial⟩));simp[hnil]
   ·rw[sQ]
    exact DY _ _ _ _ _ (av cE (Nw _ _ _ _ _ _ fG))
  ·intro i a hi ha hd yt hn
   have hmem:=ja ha;refine⟨fun h=> ?_,fun h=> ?_⟩
   ·subst h
    have hz:eI t.nodes 0=some a:=(aN t.nodes 0).trans ha;have hn2:=hn.2 az;rw[yt] at hn2;refine DX _ _ _ (aa ie ?_);simp only[BT,hz,bq,eT];refine⟨_,vD a (hs a hmem).1 (hs a hmem).2,aa (cM (by simp;try omega)) ?_⟩;rw[aO az];exact hn2
   ·have hn2:=hn.2 az
    rw[yt] at hn2;refine DY _ _ _ _ _ (aa ie ?_);simp only[BT,aN,ha,bq,eT];refine⟨_,vD a (hs a hmem).1 (hs a hmem).2,aa (cM (by simp;try omega)) ?_⟩;rw[aO az];rw[ED] at hn2;exact hn2
 exact key.1 rfl
theorem y7 {t:Tree} (h:dx t≤4194304):(t.ax.length≤1073741824∧t.nodes.length≤1073741824)∧ ∀n∈t.nodes,n.length≤1073741824∧ ∀s∈n,s.length≤1073741824:=by
 have e2:dx t=t.ax.length+(t.nodes.length+tot aV t.nodes):=rfl;refine⟨⟨by omega,by omega⟩,fun n hn=> ?_⟩;have h1:aV n≤tot aV t.nodes:=uH (w:=aV) hn;have h2:aV n=n.length+tot cw n:=rfl;refine⟨by omega,fun s hs=> ?_⟩;have h3:cw s≤tot cw n:=uH (w:=cw) hs;have h4:cw s=s.length:=rfl;omega
theorem cv (p:bg) (hS:aQ p≤4194304):ai C bu [dK p] (dK p) []:=by
 have hP:=eF hS;have hN:=y7 hP.1;have hT:=rM p.t hN.1 hN.2
 have hA:(bM (p.aU.map bS)&&fits (Nat.add 0 (p.aU.map bS).length) 16)=true:=by rw[AK,cM ie];rfl
 have hC:=vA p.cells az
 have hV:(bM (p.aq.map cj)&&fits (Nat.add 0 (p.aq.map cj).length) 40)=true:=by rw[wU,cM ie];rfl
 refine(Q7 _ _ _ _ _ _ _ ?_).run
 repeat' first
  |exact rfl
  |refine⟨(dK p,[]),?_,?_,fG⟩
  |refine⟨(dK p,[]),?_,?_,by trivial⟩
  |refine⟨_,_,hT,?_⟩
  |refine aa hA ?_
  |refine⟨_,hC,?_⟩
  |refine aa hV ?_
theorem K3 (l:List Key) (hl:l.length≤1073741824):ai C aF [dR l] (mW (newNode l)) []:=by
 refine(FN _ _ ?_).run;unfold newNode
 by_cases h:l.length=0
 ·exact aa (by simp[h]) ⟨by rw[aT h];rfl,by trivial⟩
 ·refine av (by rw[cn,oD,bV];exact iZ az) ?_
  rw[show bM (l.map bG)=true from lM _,cM ie];exact⟨by rw[aK h];rfl,by trivial⟩
theorem Jl (n:List (List Key)) (hb:n.length≤1073741824) (hl:tot cw n≤1073741824):ai C Ae [mW n] (mW (mY n)) []:=by
 have h1:=cR n;exact(Nq _ _ ⟨_,(eA n hb hl _).2 rfl,_,K3 (aB n) az,fG⟩).run
theorem Jm (t:Tree) (i:Int) (hl:dx t≤4194304):ai C Ac [eD t,vI i] (eD (u5 t i)) []:=by
 have hN:=y7 hl;have e2:dx t=t.ax.length+(t.nodes.length+tot aV t.nodes):=rfl;refine(MW _ _ _ _ ⟨_,_,rM t hN.1 hN.2,_,m6 _ _ _,?_⟩).run;unfold u5;rw[cn,show dV (Int.ofNat t.nodes.length) 1=(t.nodes.length:Int)-1 from dL ie]
 by_cases h1:0≤i∧i<t.nodes.length
 ·obtain⟨n,hn⟩:=gj h1.1 h1.2
  have hz:aV n≤tot aV t.nodes:=uH (w:=aV) (uW hn);have e1:aV n=n.length+tot cw n:=rfl;refine aa (by simp[g8];omega) ?_;simp only[BT,hn,bq,eT];refine⟨_,Jl n az az,?_⟩;simp only[afQ]
  first|exact fG|exact⟨trivial,trivial⟩|trivial|simp
 ·rw[jF h1]
  exact av (by simp[g8];omega) fG
theorem Jn (p:bg) (i:Int) (hS:aQ p≤4194304):ai C z8 [dK p,vI i] (tPB (qa p i)) []:=by
 have hP:=eF hS;have e2:dx p.t=p.t.ax.length+(p.t.nodes.length+tot aV p.t.nodes):=rfl;refine(N6 _ _ _ _ _ _ _ _ ⟨_,_,_,_,_,_,cv p hS,_,fO p hS,?_⟩).run;unfold qa
 cases h0:cr p with
 |false=>exact aa rfl ⟨by simp,by trivial⟩
 |true=>
  refine av rfl ⟨_,m6 _ _ _,?_⟩
  (try dsimp only)
  rw[cn,show dV (Int.ofNat p.t.nodes.length) 1=(p.t.nodes.length:Int)-1 from dL ie]
  by_cases h1:0≤i∧i<p.t.nodes.length
  ·refine av (by simp[g8];omega) ⟨_,_,Jm p.t i hP.1,?_⟩
   exact⟨by rw[aT ⟨rfl,h1⟩],by trivial⟩
  ·exact aa (by simp[g8];omega) ⟨by rw[aK (fun h=>h1 h.2)],by trivial⟩
theorem Cv (p x:bg) (hS:aQ p≤4194304) (hX:aQ x≤4194304):ai C gh [dK p,dK x,vB true] (Xt (U9 p x)) []:=by
 refine(G8 _ _ _ _ _ _ _ _ _ _ _ _ _ _ ?_).run;refine av rfl ⟨_,fO x hX,?_⟩;unfold U9
 cases h1:cr x with
 |false=>exact aa rfl ⟨_,_,_,_,_,_,cv p hS,fG⟩
 |true=>exact av rfl fG
theorem Qe {l:List jU} {s:ByteArray} (h: ¬dy l s<0): ∃v,eI l (dy l s)=some v:=by
 obtain⟨m,h1,_⟩:=xq _ l h;exact⟨m,h1⟩
theorem uz (p:bg) (s:ByteArray) (hS:aQ p≤4194304) (hz:s.size≤140737488355328):ai C tF [dK p,vS s] (vI (if uZ p s=true then 0 else 1)) []:=by
 refine(Ra _ _ _ _ _ _ _ _ ⟨_,fO p hS,?_⟩).run;unfold uZ
 cases h1:cr p with
 |false=>exact aa rfl fG
 |true=>
  refine av rfl ⟨_,(rC s hz (mF s)).2 rfl,?_⟩
  cases h2:mF s with
  |false=>exact aa rfl fG
  |true=>exact av rfl fG
theorem Cw (p:bg) (s:ByteArray) (hS:aQ p≤4194304) (hz:s.size≤140737488355328):ai C yY [dK p,vS s] (vI (if uZ p s=true then(if dy p.aq s<0 then 2 else 0) else 1)) []:=by
 have hP:=eF hS;refine(S4 _ _ _ _ _ _ _ _ ⟨_,uz p s hS hz,?_⟩).run
 cases h1:uZ p s with
 |false=>exact av cE fG
 |true=>
  refine aa cE ⟨_,gU p s az,?_⟩
  by_cases h2:dy p.aq s<0
  ·exact aa (by simp[h2]) ⟨by simp[h2],by trivial⟩
  ·exact av ie ⟨by simp[h2],by trivial⟩
theorem R2 (p:bg) (s:ByteArray) (hS:aQ p≤4194304) (hz:s.size≤140737488355328):ai C KK [dK p,vS s] (Xt (I2 p s)) []:=by
 have hP:=eF hS;refine(Yt _ _ _ _ _ _ _ _ ⟨_,_,_,_,_,_,cv p hS,_,Cw p s hS hz,?_⟩).run;unfold I2
 cases h0:uZ p s with
 |false=>exact aa cE fG
 |true=>
  simp only[if_true]
  by_cases hn:dy p.aq s<0
  ·simp only[aT hn]
   exact aa cE (by first|exact fG|exact⟨trivial,trivial⟩|simp)
  ·simp only[aK hn]
   obtain⟨v,hv⟩:=Qe hn
   have h1:au (p.aq.map cj) 0 (dy p.aq s)=(p.aq.take (dy p.aq s).toNat).map cj:=by rw[bZ];rfl
   have h2:au (p.aq.map cj) (dy p.aq s+1) (Int.ofNat p.aq.length)=(p.aq.drop ((dy p.aq s).toNat+1)).map cj:=by
    rw[bZ,show(dy p.aq s+1).toNat=(dy p.aq s).toNat+1 by omega,show(Int.ofNat p.aq.length).toNat=p.aq.length from rfl,sQ]
   have h3:List.append ((p.aq.take (dy p.aq s).toNat).map cj) ((p.aq.drop ((dy p.aq s).toNat+1)).map cj)=(Kz p (dy p.aq s)).aq.map cj:=(ED (f:=cj) (l₁:=p.aq.take (dy p.aq s).toNat) (l₂:=p.aq.drop ((dy p.aq s).toNat+1))).symm;have hX:aQ (Kz p (dy p.aq s))≤4194304:=cU (T3 p _) hS
   have JY:(p.aq.take (dy p.aq s).toNat).length≤p.aq.length:=by rw[gz];omega
   have FX:(p.aq.drop ((dy p.aq s).toNat+1)).length≤p.aq.length:=by rw[lD];omega
   have hi:0≤dy p.aq s∧dy p.aq s<p.aq.length:=Classical.byContradiction fun hn=>by rw[jF hn] at hv;cases hv
   refine av cE ⟨_,gU p s az,?_⟩
   (try dsimp only)
   rw[cn,aO az,h1,h2,h3];refine aa ie (aa ie (aa (by rw[wU,cM ie];rfl) (aa (by rw[wU,cM ie];rfl) ?_)));exact⟨_,_,_,_,_,_,_,Cv p (Kz p (dy p.aq s)) hS hX,fG⟩
theorem rN (l:List mw) (id fr:Int) (hl:l.length≤1073741800):ai C fy [lX l,vI id,vI fr] (TV.tu [(0,[TC.sub 2 ((me l id fr).1.map bS)]),(0,[iB (me l id fr).2])]) []:=by
 refine(SC _ _ _ _ ⟨_,nO l id az,?_⟩).run
 obtain⟨T,hT⟩: ∃T,T=if 0≤fJ l id then l else xw l id fr:=⟨_,rfl⟩
 have hTl:T.length≤l.length+1:=by
  rw[hT];split
  ·omega
  ·unfold xw;rw[Gg];omega
 have key: ∀(b:Bool) (acc:List mw),acc++(if b=true then l.drop 0 else xw (l.drop 0) id fr)=T→ah C fy aH 4 0 (kP (l.map bS) id fr b ((0:Nat):Int) (acc.map bS)) (fun x st=>aD C fy aH x st fun r fs=>r=(TV.tu [(0,[TC.sub 2 ((me l id fr).1.map bS)]),(0,[iB (me l id fr).2])])∧fs=[]):=by
  have fin: ∀Q:QV,Q (TV.tu [(0,[TC.sub 2 ((me l id fr).1.map bS)]),(0,[iB (me l id fr).2])]) []→
   ∃(n17:Int),ai C dG ([TV.c (TC.sub 2 (l.map bS)),TV.c (iI id)]) (TV.c (iI n17)) []∧(aC (pQ 0 n17) (aC (bM (l.map bS)&&fits (Nat.add 0 (List.length (l.map bS))) 16) (Q (TV.tu [(0,[TC.sub 2 (l.map bS)]),(0,[iB false])]) ([])) (False)) (∃(b18:Bool),ai C c8 ([TV.c (TC.sub 2 (T.map bS))]) (TV.c (iB b18)) []∧(aC (!b18) (aC (bM (l.map bS)&&fits (Nat.add 0 (List.length (l.map bS))) 16) (Q (TV.tu [(0,[TC.sub 2 (l.map bS)]),(0,[iB false])]) ([])) (False)) (Q (TV.tu [(0,[TC.sub 2 (T.map bS)]),(0,[iB true])]) ([]))))):=by
   intro Q hQ
   have Wa:(bM (l.map bS)&&fits (Nat.add 0 (List.length (l.map bS))) 16)=true:=by rw[AK,cM lu];rfl
   refine⟨_,nO l id az,?_⟩;unfold me at hQ
   by_cases h1:0≤fJ l id
   ·rw[aT h1] at hQ
    exact aa (by simpa using h1) (aa Wa hQ)
   ·rw[aK h1] at hQ hT
    have hok:ai C c8 [lX T] (vB (gE T)) []:=vz T az;refine av lu ⟨_,hok,?_⟩;subst hT
    by_cases h2:gE (xw l id fr)=true
    ·rw[aT h2] at hQ
     rw[h2];exact av rfl hQ
    ·rw[aK h2] at hQ
     have h2:gE (xw l id fr)=false:=by simpa using h2
     rw[h2];exact aa rfl (aa Wa hQ)
  refine bP l (fun i=> ∀(b:Bool) (acc:List mw),acc++(if b=true then l.drop i else xw (l.drop i) id fr)=T→ah C fy aH 4 0 (kP (l.map bS) id fr b (i:Int) (acc.map bS)) _) ?_ ?_
  ·intro b acc h0
   have hlen:=congrArg List.length h0;rw[cT] at hlen;refine DZ _ _ _ _ _ _ _ (av cE (Ny _ _ _ _ _ _ _ _ ?_));rw[fF] at h0
   cases b with
   |true=>
    simp only[if_true,nG] at h0;subst h0;exact av rfl (fin (fun r fs=>r=(TV.tu [(0,[TC.sub 2 ((me l id fr).1.map bS)]),(0,[iB (me l id fr).2])])∧fs=[]) fG)
   |false=>
    have e:acc++[(⟨id,fr⟩:mw)]=T:=by simpa [xw,yQ] using h0
    refine aa rfl (aa (by rw[so,cM lu];rfl) ?_);rw[wu,e];exact fin (fun r fs=>r=(TV.tu [(0,[TC.sub 2 ((me l id fr).1.map bS)]),(0,[iB (me l id fr).2])])∧fs=[]) fG
  ·intro i a hi ha hd ht hn b acc h0
   have hlen:=congrArg List.length h0;rw[cT] at hlen;refine DZ _ _ _ _ _ _ _ (aa lu ?_)
   have hrow:rowAt (l.map bS) (i:Int)=some [iI a.id,iI a.fr]:=by rw[aY,aN,ha];rfl
   have Ak:aE (i:Int) 1=((i+1:Nat):Int):=aO az
   cases b with
   |true=>
    rw[hd] at h0;simp only[if_true] at h0;refine av rfl ⟨_,_,hrow,aa (by rw[so,cM lu];rfl) ?_⟩;rw[Ak,wu];exact hn true (acc++[a]) (by rw[←h0];simp)
   |false=>
    rw[hd] at h0;simp only[Ey,if_false] at h0;unfold xw at h0;rw[PD] at h0;refine aa rfl ⟨_,_,hrow,?_⟩
    by_cases hlt:id<a.id
    ·have hle:leA id a=false:=by simp[leA];omega
     rw[hle] at h0;simp only[Ey,if_false] at h0;refine aa (by simpa using hlt) (aa (by rw[so,cM lu];rfl) ⟨_,_,hrow,aa (by rw[so,wu,cM lu];rfl) ?_⟩);rw[Ak,wu,wu];exact hn true (acc++[⟨id,fr⟩]++[a]) (by rw[←h0];simp)
    ·have hle:leA id a=true:=by simp[leA];omega
     rw[hle] at h0;simp only[if_true] at h0;refine av (by simpa using hlt) ⟨_,_,hrow,aa (by rw[so,cM lu];rfl) ?_⟩;rw[Ak,wu];exact hn false (acc++[a]) (by rw[←h0];simp[xw])
 refine key (pQ 0 (fJ l id)) [] ?_;rw[hT,iA]
 by_cases h1:0≤fJ l id<;>simp[h1]
theorem xK (l:List jU) (v:jU) (hr:yp l) (hl:l.length≤1073741800):ai C dX [yO l,.ag (cj v)] (yO (uq l v)) []:=by
 have key: ∀(k:Nat) (y:jU),k≤l.length→(∀u∈l.drop k,RD v u=false)→ah C dX nQ 4 0 (jR (k:Int) v.name v.dJ v.size v.fx ((l.take k++y::l.drop k).map cj)) (fun x st=>aD C dX nQ x st fun r fs=>r=yO (uq l v)∧fs=[]):=by
  intro k
  induction k with
  |zero=>
   intro y hk hg
   have yq:rowAt ((l.take 0++y::l.drop 0).map cj) ((0:Nat):Int)=some [iS y.name,iI y.dJ,iI y.size,iB y.fx]:=by rw[aY,aN];rfl
   refine yf _ _ _ _ _ _ _ (av cE (Ih _ _ _ _ _ _ _ ⟨_,_,_,_,yq,_,_,_,_,yq,?_⟩));refine⟨?_,rfl⟩;have:=Xv (RD v) v l (hr.cut (k:=0) hk hg fun u h=>absurd h az);rw[show uq l v=yQ (RD v) v l from rfl,←this,show((0:Nat):Int)=0 from rfl];simp[setRow,cj]
  |succ k ih=>
   intro y hk hg
   have El:k<l.length:=by omega
   obtain⟨a,ha⟩: ∃a,l[k]?=some a:=⟨_,bH El⟩
   have hsub:dV ((k+1:Nat):Int) 1=(k:Int):=by rw[dL az];omega
   have htl:(l.take (k+1)).length=k+1:=by rw[gz];omega
   have hgk:(l.take (k+1)++y::l.drop (k+1))[k]?=some a:=by rw[ny az,EC,aT az,ha]
   have aj9:(l.take (k+1)++y::l.drop (k+1))[k+1]?=some y:=by rw[nH az,htl,oF];rfl
   have hra:rowAt ((l.take (k+1)++y::l.drop (k+1)).map cj) (k:Int)=some [iS a.name,iI a.dJ,iI a.size,iB a.fx]:=by rw[aY,aN,hgk];rfl
   have hry:rowAt ((l.take (k+1)++y::l.drop (k+1)).map cj) ((k+1:Nat):Int)=some [iS y.name,iI y.dJ,iI y.size,iB y.fx]:=by rw[aY,aN,aj9];rfl
   have tQ: ∀u:jU,setRow ((l.take (k+1)++y::l.drop (k+1)).map cj) ((k+1:Nat):Int) 0 [iS u.name,iI u.dJ,iI u.size,iB u.fx]=(l.take (k+1)++u::l.drop (k+1)).map cj:=fun u=>by
    rw[Pt (a:=y) (a':=u) aj9 rfl]
    congr 1
    rw[List.set_append_right _ _ az,htl,oF]
    rfl
   refine yf _ _ _ _ _ _ _ (aa lu ?_);rw[hsub];refine⟨_,_,_,_,hra,_,_,_,_,hra,?_⟩
   cases hle:RD v a with
   |false=>
    refine aa (by unfold RD at hle;rw[hle];rfl) ⟨_,_,_,_,hra,_,_,_,_,hra,_,_,_,_,hry,_,_,_,_,hry,?_⟩;rw[tQ a]
    have e:l.take (k+1)++a::l.drop (k+1)=l.take k++a::l.drop k:=by
     rw[List.take_add_one,ha,wZ El,show l[k]=a from by rw[bH El] at ha;exact Option.some.inj ha];simp
    rw[e];refine ih a az fun u hu=> ?_;rw[wZ El,show l[k]=a from by rw[bH El] at ha;exact Option.some.inj ha] at hu;rcases ef.1 hu with rfl|hu
    ·exact hle
    ·exact hg u hu
   |true=>
    refine av (by unfold RD at hle;rw[hle];rfl) (Ig _ _ _ _ _ _ _ _ ⟨_,_,_,_,hry,_,_,_,_,hry,?_⟩);rw[tQ v];refine⟨?_,rfl⟩;have:=Xv (RD v) v l (hr.cut (k:=k+1) hk hg fun u _ hu=>by rw[Nat.add_sub_cancel,ha] at hu;cases hu;exact hle);rw[show uq l v=yQ (RD v) v l from rfl,←this]
 have h0:(bM (l.map cj)&&fits (Nat.add 0 (l.map cj).length) 40)=true:=by rw[wU,cM lu];rfl
 have h00:(bM [[iS v.name,iI v.dJ,iI v.size,iB v.fx]]&&fits (Nat.succ (l.map cj).length) 40)=true:=by rw[Pz,cM lu];rfl
 have hstart:ah C dX nQ 4 0 (jR (dV (Int.ofNat (List.length (List.append (l.map cj) [[iS v.name,iI v.dJ,iI v.size,iB v.fx]]))) 1) v.name v.dJ v.size v.fx (List.append (l.map cj) [[iS v.name,iI v.dJ,iI v.size,iB v.fx]])) (fun x st=>aD C dX nQ x st fun r fs=>(r,fs)=(yO (uq l v),([]:List TV))):=by
  have hk:=key l.length v (dj _) (by rw[fF];intro u hu;cases hu);rw[sQ,fF] at hk;rw[afS]
  have e:dV (Int.ofNat ((l++[(⟨v.name,v.dJ,v.size,v.fx⟩:jU)]).map cj).length) 1=(l.length:Int):=by
   rw[dL lu];simp
  rw[e]
  have eQ:(fun(r:TV) (fs:List TV)=>(r,fs)=(yO (uq l v),([]:List TV)))=fun r fs=>r=yO (uq l v)∧fs=[]:=by
   funext r fs;simp
  rw[eQ];exact hk
 have S:=aa (B:=False) h0 (aa (B:=False) h00 hstart);exact(LC _ _ _ _ _ _ ⟨(yO (uq l v),[]),⟨(yO (uq l v),[]),S,S,rfl⟩,S,fG⟩).run
theorem jg (p x:bg) (ok:Bool) (hS:aQ p≤4194304) (hX:aQ x≤4194304):ai C gh [dK p,dK x,vB ok] (Xt (Gu p x ok)) []:=by
 cases ok with
 |true=>exact Cv p x hS hX
 |false=>
  refine(G8 _ _ _ _ _ _ _ _ _ _ _ _ _ _ ?_).run;exact aa rfl ⟨_,_,_,_,_,_,cv p hS,fG⟩
theorem ML (p:bg) (s:ByteArray) (n:Int) (hS:aQ p≤1048576) (hz:s.size≤1048576):ai C Fg [dK p,vS s,vI n] (Xt (yR p s n)) []:=by
 have hX:aQ (I3 p s n)≤4194304:=by have:=Zs p s n;omega
 have Em:aQ p≤4194304:=by omega
 have hP:=eF Em;refine(S0 _ _ _ _ _ _ _ _ _ ⟨_,uz p s Em az,?_⟩).run;unfold yR
 cases h0:uZ p s with
 |false=>exact aa cE ⟨_,_,_,_,_,_,cv p Em,fG⟩
 |true=>
  have hPO:cr p=true:=by unfold uZ at h0;simp only[dW] at h0;exact h0.1
  have hnx:1≤p.next∧p.next≤61:=by
   have:=hPO;unfold cr at this;simp only[dW] at this;have h:=this.2.2.2.2.1;unfold g8 at h;simpa using h
  refine av cE ⟨_,gU p s az,?_⟩;simp only[if_true]
  by_cases h1:0≤dy p.aq s
  ·rw[aT h1]
   exact aa (by simpa using h1) ⟨_,_,_,_,_,_,cv p Em,fG⟩
  ·rw[aK h1]
   refine av lu ⟨_,m6 n 1 12,?_⟩
   cases h2:g8 n 1 12 with
   |false=>exact aa rfl ⟨_,_,_,_,_,_,cv p Em,fG⟩
   |true=>
    refine av rfl ⟨_,_,_,_,_,_,cv p Em,_,_,rN p.aU p.next 0 az,_,xK p.aq ⟨s,p.next,n,false⟩ (KB hPO) az,?_⟩;rw[aO az];exact⟨_,_,_,_,_,_,_,jg p (I3 p s n) _ Em hX,fG⟩
theorem R4 (p:bg) (s to:ByteArray) (fx:Bool) (hS:aQ p≤1048576) (hz:s.size≤1048576) (hz2:to.size≤1048576):ai C KJ [dK p,vS s,vS to,vB fx] (Xt (L7 p s to fx)) []:=by
 have hX: ∀v,aQ (T6 p to (dy p.aq s) v fx)≤4194304:=fun v=>by have:=adW p to (dy p.aq s) v fx;omega
 have Em:aQ p≤4194304:=by omega
 have hP:=eF Em;refine(Yr _ _ _ _ _ _ _ _ _ _ ⟨_,uz p s Em az,?_⟩).run;unfold L7
 cases h0:uZ p s with
 |false=>exact aa cE ⟨_,_,_,_,_,_,cv p Em,⟨by simp,by trivial⟩⟩
 |true=>
 have hPO:cr p=true:=by unfold uZ at h0;simp only[dW] at h0;exact h0.1
 have hnx:1≤p.next∧p.next≤61:=by
  have:=hPO;unfold cr at this;simp only[dW] at this;have h:=this.2.2.2.2.1;unfold g8 at h;simpa using h
 refine av cE ⟨_,(rC to az (mF to)).2 rfl,?_⟩
 cases hb:mF to with
 |false=>exact aa rfl ⟨_,_,_,_,_,_,cv p Em,⟨by simp,by trivial⟩⟩
 |true=>
 rw[aT fG];refine av rfl ⟨_,gU p s az,?_⟩
 by_cases hn:dy p.aq s<0
 ·rw[jF az]
  exact aa (by simpa using hn) ⟨_,_,_,_,_,_,cv p Em,fG⟩
 ·obtain⟨v,hv,_⟩:=xq _ p.aq (show ¬eZ (fun v:jU=>decide (v.name=s)) p.aq 0<0 from hn)
  have hv:eI p.aq (dy p.aq s)=some v:=hv
  have hrow:rowAt (p.aq.map cj) (dy p.aq s)=some [iS v.name,iI v.dJ,iI v.size,iB v.fx]:=by rw[aY,hv];rfl
  have JY:=BW p.aU p.next v.dJ;have Rq:yp (p.aq.modify (dy p.aq s).toNat fun u=>{u with dJ:=p.next}):=yp.modify (f:=fun u:jU=>{u with dJ:=p.next}) (fun _=>rfl) _ (KB hPO)
  have hml:(p.aq.modify (dy p.aq s).toNat fun u=>{u with dJ:=p.next}).length≤4194304:=by rw[Th];omega
  have ha1:aE p.next 1=p.next+1:=aO az;have ha2:aE p.next 2=p.next+2:=aO az;have hXv:=hX v;rw[hv];refine av (by simpa using hn) ⟨_,gU p to az,?_⟩;simp only[]
  by_cases h1:0≤dy p.aq to
  ·rw[aT h1]
   exact aa (by simpa using h1) ⟨_,_,_,_,_,_,cv p Em,fG⟩
  ·rw[aK h1]
   rw[ha1,ha2];refine av lu ⟨_,_,_,_,_,_,cv p Em,_,gU p s az,_,_,_,_,hrow,_,_,rN p.aU p.next v.dJ az,_,_,_,_,hrow,_,_,rN (me p.aU p.next v.dJ).1 (p.next+1) v.dJ az,_,_,_,_,hrow,_,_,_,_,hrow,_,_,_,_,hrow,?_⟩
   (try dsimp only)
   rw[Zn];refine⟨_,xK _ ⟨to,p.next+1,v.size,fx⟩ Rq az,?_⟩
   cases hq:(me p.aU p.next v.dJ).2 with
   |true=>exact aa rfl ⟨_,_,_,_,_,_,_,jg p (T6 p to (dy p.aq s) v fx) _ Em hXv,fG⟩
   |false=>exact av rfl ⟨_,_,_,_,_,_,_,jg p (T6 p to (dy p.aq s) v fx) _ Em hXv,fG⟩
theorem jh (l:List Key) (hl:l.length≤1073741824):ai C aF [dR l] (mW (cG l)) []:=by
 refine(FN _ _ ?_).run;unfold cG
 by_cases h:l.length=0
 ·exact aa (by simp[h]) ⟨by rw[aT h];rfl,rfl⟩
 ·refine av (by rw[cn,oD,bV];exact iZ az) ?_
  rw[show bM (l.map bG)=true from lM _,cM ie];exact⟨by rw[aK h];rfl,rfl⟩
theorem qu (n:List (List Key)) (k:Key) (hb:n.length≤1073740000) (hl:tot cw n≤1073740000):ai C oA [mW n,AJ k] (tNB (cH n k)) []:=by
 have hs: ∀s∈n,s.length≤1073741824:=fun s hm=>by have:=uH (w:=cw) hm;unfold cw at this hl;omega
 have Wa:=vD n az hs;have hXl:=PF n k;have hXt:=PG n k
 have tail: ∀(X:List (List Key)) (Q:QV),X=nt n k→Q (tNB (cH n k)) []→ ∃(b22:Bool),ai C bT ([TV.ag [TC.sub 1 (X.map eP)]]) (TV.c (iB b22)) []∧(aC b22 (Q (TV.tu [(1,[TC.sub 1 (X.map eP)]),(0,[iB true])]) ([])) (∃(l23:RR),ai C aR ([TV.ag [TC.sub 1 (n.map eP)]]) (TV.c (TC.sub 5 l23)) []∧(∃(l24:RR),ai C bJ ([TV.c (TC.sub 5 l23),AJ k]) (TV.c (TC.sub 5 l24)) []∧(∃(l25:RR),ai C cZ ([TV.c (TC.sub 5 l24)]) (TV.c (TC.sub 5 l25)) []∧(aC (cN 8 (Int.ofNat (List.length l25))) (∃(l26:RR),ai C bN ([TV.ag [TC.sub 1 (n.map eP)]]) (TV.ag [TC.sub 1 l26]) []∧(Q (TV.tu [(1,[TC.sub 1 l26]),(0,[iB false])]) ([]))) (∃(l27:RR),ai C aF ([TV.c (TC.sub 5 l25)]) (TV.ag [TC.sub 1 l27]) []∧(∃(b28:Bool),ai C bT ([TV.ag [TC.sub 1 l27]]) (TV.c (iB b28)) []∧(aC (!b28) (∃(l29:RR),ai C bN ([TV.ag [TC.sub 1 (n.map eP)]]) (TV.ag [TC.sub 1 l29]) []∧(Q (TV.tu [(1,[TC.sub 1 l29]),(0,[iB false])]) ([]))) (∃(l30:RR),ai C aF ([TV.c (TC.sub 5 l25)]) (TV.ag [TC.sub 1 l30]) []∧(Q (TV.tu [(1,[TC.sub 1 l30]),(0,[iB true])]) ([]))))))))))):=by
  intro X Q hX hQ;rw[←hX] at hXl hXt;have hok:ai C bT [mW X] (vB (ff X)) []:=vw X az az;have hkl:=qt n k;have hnl:=yS (cW n k);have hnt:=E4 (cW n k);have alR:ai C bT [mW (cG (cW n k))] (vB (ff (cG (cW n k)))) []:=vw _ az az;refine⟨_,hok,?_⟩;unfold cH at hQ;rw[←hX] at hQ
  cases h1:ff X with
  |true=>
   rw[aT h1] at hQ;exact aa rfl hQ
  |false=>
   rw[aK (by rw[h1];simp)] at hQ;have g1:=cR n;have g2:=lZ (aB n) k;refine av rfl ⟨_,(eA n az az _).2 rfl,_,kL (aB n) k az,_,uM (eE (aB n) k) az,?_⟩;change aC (cN 8 (Int.ofNat (List.length ((cW n k).map bG)))) _ _
   by_cases h2:8<(cW n k).length
   ·rw[aT h2] at hQ
    exact aa lu ⟨_,Wa,hQ⟩
   ·rw[aK h2] at hQ
    refine av lu ⟨_,jh (cW n k) az,_,alR,?_⟩
    cases h3:ff (cG (cW n k)) with
    |true=>
     rw[aT h3] at hQ;exact av rfl ⟨_,jh (cW n k) az,hQ⟩
    |false=>
     rw[aK (by rw[h3];simp)] at hQ;exact aa rfl ⟨_,Wa,hQ⟩
 refine(Qp _ _ _ _ _ _ _ ⟨_,Wa,?_⟩).run
 (try dsimp only)
 rw[cn]
 cases Hf:n[n.length-1]? with
 |none=>
  have h0:n.length=0:=Classical.byContradiction fun h=>by rw[bH az] at Hf;cases Hf
  have hX:n++[[k]]=nt n k:=by unfold nt;rw[Hf]
  refine av (by rw[h0,dL cE];simp) (av (by rw[h0,dL cE];simp) (aa (cM lu) ?_));rw[show List.append (n.map eP) [[TC.sub 5 [[iI k.b,iI k.a,iI k.k,iI k.c,iI k.g]]]]=(n++[[k]]).map eP from by simp[eP,bG]];exact tail _ (fun r fs=>r=tNB (cH n k)∧fs=[]) hX fG
 |some s=>
  have hlt:=(List.getElem?_eq_some_iff.1 Hf).1
  have hsub:dV (Int.ofNat n.length) 1=((n.length-1:Nat):Int):=by rw[dL lu];simp;omega
  have hrow:rowAt (n.map eP) ((n.length-1:Nat):Int)=some [TC.sub 5 (s.map bG)]:=by rw[aY,aN,Hf];rfl
  have hsl:=hs s (ja Hf);have tQ:setRow (n.map eP) ((n.length-1:Nat):Int) 0 [TC.sub 5 ((eE s k).map bG)]=(n.set (n.length-1) (eE s k)).map eP:=Pt (a:=s) (a':=eE s k) Hf rfl
  have alS:List.append (n.map eP) [[TC.sub 5 [[iI k.b,iI k.a,iI k.k,iI k.c,iI k.g]]]]=(n++[[k]]).map eP:=by simp[eP,bG]
  have hfit:fits (Nat.succ n.length) 24=true:=cM lu;rw[hsub];refine aa cE ⟨_,hrow,_,hrow,_,_,_,_,_,_,Fm s k.b k.a hsl,aa cE ⟨_,hrow,_,hrow,?_⟩⟩
  by_cases h2:s.length<4
  ·have hX:n.set (n.length-1) (eE s k)=nt n k:=by unfold nt Vb;rw[Hf];simp[h2]
   refine aa lu ⟨_,hrow,_,hrow,_,kL s k hsl,_,hrow,_,hrow,?_⟩;rw[tQ];exact tail _ (fun r fs=>r=tNB (cH n k)∧fs=[]) hX fG
  ·refine av lu ?_
   cases h1:(Ky s k.b k.a).2 with
   |true=>
    have hX:n.set (n.length-1) (eE s k)=nt n k:=by unfold nt Vb;rw[Hf];simp[h1]
    refine aa rfl ⟨_,hrow,_,hrow,_,kL s k hsl,_,hrow,_,hrow,?_⟩;rw[tQ];exact tail _ (fun r fs=>r=tNB (cH n k)∧fs=[]) hX fG
   |false=>
    have hX:n++[[k]]=nt n k:=by unfold nt Vb;rw[Hf];simp[h1,h2]
    refine av rfl (aa hfit ?_);rw[alS];exact tail _ (fun r fs=>r=tNB (cH n k)∧fs=[]) hX fG
theorem xL (t:Tree) (i:Nat) (lw:List Int) (nd:List (List (List Key))) (h1:i+1≤t.ax.length) (h2:i+1≤t.nodes.length) (hl:t.ax.length≤1073741824) (hn:t.nodes.length≤1073741824) (hlw:lw.length≤1073741824) (Wb:nd.length≤1073741824):ai C bn [eD t,vI (i:Int),qP lw,adK nd] (eD (mD t i 1 lw nd)) []:=by
 have e1:au (t.ax.map bI) 0 (i:Int)=(t.ax.take i).map bI:=by rw[bZ];rfl
 have e2:au (t.ax.map bI) ((i:Int)+1) (Int.ofNat (t.ax.map bI).length)=(t.ax.drop (i+1)).map bI:=by
  rw[bZ,cn,show((i:Int)+1).toNat=i+1 from by omega,show(Int.ofNat t.ax.length).toNat=t.ax.length from rfl,sQ]
 have e3:au (t.nodes.map aX) 0 (i:Int)=(t.nodes.take i).map aX:=by rw[bZ];rfl
 have ea:aE (i:Int) 1=(i:Int)+1:=aO az
 have k1:(t.ax.take i).length≤t.ax.length:=by rw[gz];omega
 have k2:(t.ax.drop (i+1)).length≤t.ax.length:=by rw[lD];omega
 have k3:(t.nodes.take i).length≤t.nodes.length:=by rw[gz];omega
 have k4:(t.nodes.drop (i+1)).length≤t.nodes.length:=by rw[lD];omega
 have e4:au (t.nodes.map aX) ((i:Int)+1) (Int.ofNat (t.nodes.map aX).length)=(t.nodes.drop (i+1)).map aX:=by
  rw[bZ,cn,show((i:Int)+1).toNat=i+1 from by omega,show(Int.ofNat t.nodes.length).toNat=t.nodes.length from rfl,sQ]
 refine(VV _ _ _ _ _ _ ?_).run;rw[ea,e1,e2,e3,e4,jZ,jZ,jZ,jZ]
 refine aa lu (aa lu (aa (by rw[kk,cM lu];rfl) (aa (by rw[kk,cM (by simp only[cn,pU];omega)];rfl) (aa (by rw[kk,cM (by simp only[cn,cT,pU];omega)];rfl)
  (aa lu (aa lu (aa (cM lu) (aa (cM (by simp only[cn,pU];omega)) (aa (cM (by simp only[cn,cT,pU];omega)) ?_)))))))))
 exact fG
def GZ:Option Nat→Int
 |some i=>i
 |none=> -1
theorem rO (t:Tree) (hn:t.nodes.length≤1073741824) (hz:tot aV t.nodes≤1073740000):ai C gv [eD t] (vI (GZ (mg t))) []:=by
 refine(Sj _ _ _ ?_).run
 have key: ∀(d i:Nat),i+d=t.nodes.length→u7 t d i=mg t→ah C gv an 4 0 (rV (i:Int) (t.ax.map bI) (t.nodes.map aX)) (fun x st=>aD C gv an x st fun r fs=>r=vI (GZ (mg t))∧fs=[]):=by
  intro d
  induction d with
  |zero=>
   intro i h he;have ea:aE (i:Int) 1=(i:Int)+1:=aO az;refine DJ _ _ _ _ ?_;rw[ea];exact av lu (DK _ _ _ _ _ ⟨by rw[←he];rfl,rfl⟩)
  |succ d ih=>
   intro i h he;have ea:aE (i:Int) 1=(i:Int)+1:=aO az
   have ec:(i:Int)+1=((i+1:Nat):Int):=by omega
   unfold u7 at he;refine DJ _ _ _ _ ?_;rw[ea,ec]
   by_cases h1:i+1<t.nodes.length
   ·rw[aT h1] at he
    obtain⟨a,ha⟩: ∃a,t.nodes[i]?=some a:=⟨_,bH az⟩;obtain⟨b,hb⟩: ∃b,t.nodes[i+1]?=some b:=⟨_,bH h1⟩;have za:a.length+tot cw a≤tot aV t.nodes:=mX (w:=aV) ha;have zb:b.length+tot cw b≤tot aV t.nodes:=mX (w:=aV) hb
    have ka:iY t i=aB a:=by unfold iY;rw[qK,ha];rfl
    have kb:iY t (i+1)=aB b:=by unfold iY;rw[qK,hb];rfl
    have la:=cR a;have lb:=cR b;rw[ka,kb] at he;refine aa lu ⟨_,by rw[aY,aN,ha];rfl,_,by rw[aY,aN,hb];rfl,_,(eA a az az _).2 rfl,_,(eA b az az _).2 rfl,?_⟩
    (try dsimp only)
    rw[cn,cn,show aE (Int.ofNat (aB a).length) (Int.ofNat (aB b).length)=((aB a).length:Int)+(aB b).length from aO lu]
    by_cases h2:(aB a).length+(aB b).length≤6
    ·rw[aT h2] at he
     exact aa lu (M8 _ _ _ _ _ _ ⟨by rw[←he];rfl,rfl⟩)
    ·rw[aK h2] at he
     exact av lu (ih (i+1) az he)
   ·rw[aK h1] at he
    exact av lu (DK _ _ _ _ _ ⟨by rw[←he];rfl,rfl⟩)
 exact key t.nodes.length 0 az rfl
theorem MM (t0:Tree) (hw0:t0.ax.length=t0.nodes.length) (Rl:tot aV t0.nodes+t0.nodes.length≤1073700000):ai C aG [eD t0] (eD (jV t0.nodes.length t0)) []:=by
 refine(SU _ _ _ ⟨_,rO t0 az az,?_⟩).run
 have key: ∀(m:Nat) (t:Tree),t.nodes.length=m→t.ax.length=t.nodes.length→tot aV t.nodes+t.nodes.length≤1073700000→jV m t=jV t0.nodes.length t0→ah C aG an 4 0 (oS (GZ (mg t)) (t.ax.map bI) (t.nodes.map aX)) (fun x st=>aD C aG an x st fun r fs=>r=eD (jV t0.nodes.length t0)∧fs=[]):=by
  intro m
  induction m with
  |zero=>
   intro t hm hw hz he
   have hp:mg t=none:=by unfold mg;rw[hm];rfl
   rw[hp];exact vK _ _ _ _ (av (by simp[GZ]) (Eb _ _ _ _ _ ⟨by rw[←he];rfl,rfl⟩))
  |succ m ih=>
   intro t hm hw hz he;rw[uu] at he
   cases hp:mg t with
   |none=>
    rw[hp] at he;have he:t=jV t0.nodes.length t0:=he;exact vK _ _ _ _ (av (by simp[GZ]) (Eb _ _ _ _ _ ⟨by rw[←he],rfl⟩))
   |some i=>
   rw[hp] at he;have he:jV m (cC t i)=jV t0.nodes.length t0:=he;have hlt:=wW hp;show ah C aG an 4 0 (oS (i:Int) (t.ax.map bI) (t.nodes.map aX)) _;obtain⟨a,ha⟩: ∃a,t.nodes[i]?=some a:=⟨_,bH az⟩;obtain⟨b,hb⟩: ∃b,t.nodes[i+1]?=some b:=⟨_,bH hlt.1⟩;have za:a.length+tot cw a≤tot aV t.nodes:=mX (w:=aV) ha;have zb:b.length+tot cw b≤tot aV t.nodes:=mX (w:=aV) hb;have la:=cR a;have lb:=cR b;have h6:=hlt.2;rw[gl ha,gl hb] at h6
   have ea:aE (i:Int) 1=((i+1:Nat):Int):=by rw[aO az];omega
   have eb:aE (i:Int) 2=((i+2:Nat):Int):=by rw[aO az];omega
   have ra:rowAt (t.nodes.map aX) (i:Int)=some [TC.sub 1 (a.map eP)]:=by rw[aY,aN,ha];rfl
   have rb:rowAt (t.nodes.map aX) ((i+1:Nat):Int)=some [TC.sub 1 (b.map eP)]:=by rw[aY,aN,hb];rfl
   have c1:au (t.ax.map bI) 0 ((i+1:Nat):Int)=(t.ax.take (i+1)).map bI:=by rw[bZ];rfl
   have c2:au (t.ax.map bI) ((i+2:Nat):Int) (Int.ofNat (t.ax.map bI).length)=(t.ax.drop (i+2)).map bI:=by
    rw[bZ,cn,pT,show(Int.ofNat t.ax.length).toNat=t.ax.length from rfl,sQ]
   have c3:au (t.nodes.map aX) 0 (i:Int)=(t.nodes.take i).map aX:=by rw[bZ];rfl
   have c4:au (t.nodes.map aX) ((i+2:Nat):Int) (Int.ofNat (t.nodes.map aX).length)=(t.nodes.drop (i+2)).map aX:=by
    rw[bZ,cn,pT,show(Int.ofNat t.nodes.length).toNat=t.nodes.length from rfl,sQ]
   have hlo:i<t.ax.length:=by omega
   have eL:List.append ((t.ax.take (i+1)).map bI) ((t.ax.drop (i+2)).map bI)=(cC t i).ax.map bI:=by
    rw[jZ];unfold cC mD;simp only[];rw[List.take_add_one,qK,bH hlo];simp
   have eN:List.append (List.append ((t.nodes.take i).map aX) [[TC.sub 1 ((cG (aB a++aB b)).map eP)]]) ((t.nodes.drop (i+2)).map aX)=(cC t i).nodes.map aX:=by
    rw[AL,jZ];unfold cC mD;simp only[];rw[gl ha,gl hb]
   have hsz:=yV hlt.1;have hjl:=tj hlt.1
   have hjw:(cC t i).ax.length+1=t.ax.length:=by
    have:=xy t i 2 [t.ax.getD i 0] [cG (iY t i++iY t (i+1))] az;unfold cC;simp only[fY] at this;omega
   have k1:(t.ax.take (i+1)).length≤t.ax.length:=by rw[gz];omega
   have k2:(t.ax.drop (i+2)).length≤t.ax.length:=by rw[lD];omega
   have k3:(t.nodes.take i).length≤t.nodes.length:=by rw[gz];omega
   have k4:(t.nodes.drop (i+2)).length≤t.nodes.length:=by rw[lD];omega
   refine vK _ _ _ _ (aa cE ?_);rw[ea,eb];refine⟨_,ra,_,ra,_,rb,_,rb,_,(eA a az az _).2 rfl,_,(eA b az az _).2 rfl,?_⟩
   (try dsimp only)
   rw[jZ,c1,c2,c3,c4]
   refine aa (by rw[lM,cM (by simp only[cn,pU];omega)];rfl) (aa lu (aa lu (aa (by rw[kk,cM (by simp only[cn,pU];omega)];rfl) (aa (by rw[kk,cM (by simp only[cn,pU];omega)];rfl)
    (aa lu (aa lu (aa (cM (by simp only[cn,pU];omega)) ⟨_,jh (aB a++aB b) (by rw[cT];omega),aa (cM (by simp only[cn,Nat.succ_eq_add_one];omega)) ?_⟩)))))))
   rw[eL,eN];refine aa (cM (by rw[AL];simp only[cn,cT,fY,pU];omega)) ⟨_,rO (cC t i) az az,?_⟩;exact ih (cC t i) az az az he
 cases hp:mg t0 with
 |none=>
  have hj:jV t0.nodes.length t0=t0:=by
   cases hm:t0.nodes.length with
   |zero=>rfl
   |succ m=>rw[uu,hp]
  exact Ea _ _ _ _ (av (by simp[GZ]) (NV _ _ _ _ _ ⟨by rw[hj],rfl⟩))
 |some i=>
  have hlt:=wW hp;obtain⟨t,ht⟩: ∃t,t=t0:=⟨_,rfl⟩;rw[←ht] at hlt hw0 Rl hp ⊢;show ah C aG an 4 0 (vH (i:Int) (t.ax.map bI) (t.nodes.map aX)) _;obtain⟨a,ha⟩: ∃a,t.nodes[i]?=some a:=⟨_,bH az⟩;obtain⟨b,hb⟩: ∃b,t.nodes[i+1]?=some b:=⟨_,bH hlt.1⟩;have za:a.length+tot cw a≤tot aV t.nodes:=mX (w:=aV) ha;have zb:b.length+tot cw b≤tot aV t.nodes:=mX (w:=aV) hb;have la:=cR a;have lb:=cR b;have h6:=hlt.2;rw[gl ha,gl hb] at h6
  have ea:aE (i:Int) 1=((i+1:Nat):Int):=by rw[aO az];omega
  have eb:aE (i:Int) 2=((i+2:Nat):Int):=by rw[aO az];omega
  have ra:rowAt (t.nodes.map aX) (i:Int)=some [TC.sub 1 (a.map eP)]:=by rw[aY,aN,ha];rfl
  have rb:rowAt (t.nodes.map aX) ((i+1:Nat):Int)=some [TC.sub 1 (b.map eP)]:=by rw[aY,aN,hb];rfl
  have c1:au (t.ax.map bI) 0 ((i+1:Nat):Int)=(t.ax.take (i+1)).map bI:=by rw[bZ];rfl
  have c2:au (t.ax.map bI) ((i+2:Nat):Int) (Int.ofNat (t.ax.map bI).length)=(t.ax.drop (i+2)).map bI:=by
   rw[bZ,cn,pT,show(Int.ofNat t.ax.length).toNat=t.ax.length from rfl,sQ]
  have c3:au (t.nodes.map aX) 0 (i:Int)=(t.nodes.take i).map aX:=by rw[bZ];rfl
  have c4:au (t.nodes.map aX) ((i+2:Nat):Int) (Int.ofNat (t.nodes.map aX).length)=(t.nodes.drop (i+2)).map aX:=by
   rw[bZ,cn,pT,show(Int.ofNat t.nodes.length).toNat=t.nodes.length from rfl,sQ]
  have hlo:i<t.ax.length:=by omega
  have eL:List.append ((t.ax.take (i+1)).map bI) ((t.ax.drop (i+2)).map bI)=(cC t i).ax.map bI:=by
   rw[jZ];unfold cC mD;simp only[];rw[List.take_add_one,qK,bH hlo];simp
  have eN:List.append (List.append ((t.nodes.take i).map aX) [[TC.sub 1 ((cG (aB a++aB b)).map eP)]]) ((t.nodes.drop (i+2)).map aX)=(cC t i).nodes.map aX:=by
   rw[AL,jZ];unfold cC mD;simp only[];rw[gl ha,gl hb]
  have hsz:=yV hlt.1;have hjl:=tj hlt.1
  have hjw:(cC t i).ax.length+1=t.ax.length:=by
   have:=xy t i 2 [t.ax.getD i 0] [cG (iY t i++iY t (i+1))] az;unfold cC;simp only[fY] at this;omega
  have k1:(t.ax.take (i+1)).length≤t.ax.length:=by rw[gz];omega
  have k2:(t.ax.drop (i+2)).length≤t.ax.length:=by rw[lD];omega
  have k3:(t.nodes.take i).length≤t.nodes.length:=by rw[gz];omega
  have k4:(t.nodes.drop (i+2)).length≤t.nodes.length:=by rw[lD];omega
  refine Ea _ _ _ _ (aa cE ?_);rw[ea,eb];refine⟨_,ra,_,rb,_,(eA a az az _).2 rfl,_,(eA b az az _).2 rfl,?_⟩
  (try dsimp only)
  rw[jZ,c1,c2,c3,c4]
  refine aa (by rw[lM,cM (by simp only[cn,pU];omega)];rfl) (aa lu (aa lu (aa (by rw[kk,cM (by simp only[cn,pU];omega)];rfl) (aa (by rw[kk,cM (by simp only[cn,pU];omega)];rfl)
   (aa lu (aa lu (aa (cM (by simp only[cn,pU];omega)) ⟨_,jh (aB a++aB b) (by rw[cT];omega),aa (cM (by simp only[cn,Nat.succ_eq_add_one];omega)) ?_⟩)))))))
  rw[eL,eN];refine aa (cM (by rw[AL];simp only[cn,cT,fY,pU];omega)) ⟨_,rO (cC t i) az az,?_⟩;refine ht▸key (cC t i).nodes.length (cC t i) rfl az az ?_;rw[←ht]
  have:t.nodes.length=(cC t i).nodes.length+1:=by omega
  rw[this];rw[uu,hp]
theorem ajz {n:Nat} (h:n≤1073741824):dU .i64 (aE (Int.ofNat n) 1) 2=(((n+1)/2:Nat):Int):=by
 rw[aO ie];unfold dU;rw[Int.tdiv_eq_ediv_of_nonneg ie,show IntKind.wrap .i64 ((Int.ofNat n+1)/2)=(Int.ofNat n+1)/2 from IntWalk.i64_in _ ie];simp
theorem qv (t:Tree) (k:Key) (hz:dx t≤4194304):ai C jd [eD t,AJ k] (Ex (bB t k)) []:=by
 have hN:=y7 hz;have Wa:ai C cL [eD t] (eD t) []:=rM t hN.1 hN.2;refine(QY _ _ _ _ _ _ _ _ ⟨_,_,Wa,_,rL t az,?_⟩).run
 cases h1:cP t with
 |false=>exact aa rfl ⟨by unfold bB;rw[aK (by rw[h1];simp)],rfl⟩
 |true=>
 refine av rfl ⟨_,(wM _ _ _ _ _ _).2 rfl,?_⟩;change aC (!eU k) _ _
 cases h2:eU k with
 |false=>exact aa rfl ⟨by unfold bB;rw[aK (by rw[h2];simp)],rfl⟩
 |true=>
 obtain⟨i,hi,Z3⟩:=PS h1 h2;have hlen:=nu h1
 have hw:ai C eJ [eD t,vI k.b,vI k.a] (vI (i:Int)) []:=by rw[←hi];exact uy t k.b k.a az
 have hrow:rowAt (t.nodes.map aX) (i:Int)=some [TC.sub 1 (t.nodes[i].map eP)]:=by rw[aY,aN,bH Z3];rfl
 have Wd:rowAt (t.ax.map bI) (i:Int)=some [iI (t.ax.getD i 0)]:=by
  rw[aY,aN,qK,bH az];rfl
 have hg:t.nodes.getD i []=t.nodes[i]:=by rw[qK,bH Z3];rfl
 have hok:=qb h1 (tT Z3);have hsz:=nN hok;have hps:=E5 t.nodes[i] k;have hpt:=E6 t.nodes[i] k;have hkl:=qt t.nodes[i] k;have hnk:=cR t.nodes[i];obtain⟨hp1,V9,hp3⟩:=XG (k:=k) h1 Z3
 have hR:bB t k=if cP (jV (jB t i k).nodes.length (jB t i k))=true then(jV (jB t i k).nodes.length (jB t i k),true) else(t,false):=by
  unfold bB;rw[aT ⟨h1,h2⟩,hi,pT]
 have fin: ∀Q:QV,Q (Ex (bB t k)) []→ ∃(l39 l40:RR),ai C aG [eD (jB t i k)] (.ag [.sub 1 l39,.sub 1 l40]) []∧(∃b:Bool,ai C aJ [.ag [.sub 1 l39,.sub 1 l40]] (vB b) []∧(aC (!b) (Q (.tu [(1,adJ t),(0,[iB false])]) []) (Q (.tu [(1,[.sub 1 l39,.sub 1 l40]),(0,[iB true])]) []))):=by
  intro Q hQ;refine⟨_,_,MM (jB t i k) V9 az,_,rL _ az,?_⟩;rw[hR] at hQ
  cases h3:cP (jV (jB t i k).nodes.length (jB t i k)) with
  |true=>rw[aT h3] at hQ;exact av rfl hQ
  |false=>rw[aK (by rw[h3];simp)] at hQ;exact aa rfl hQ
 have np:=qu t.nodes[i] k az az;have hx:=xL t i [t.ax.getD i 0] [(cH t.nodes[i] k).1] az az az az cE cE;refine av rfl ⟨_,hw,_,hrow,?_⟩
 cases hp:(cH t.nodes[i] k).2 with
 |false=>
  have hno:=(HG hok h2 hp).1
  have cno:(!(cH t.nodes[i] k).2)=true:=by rw[hp];rfl
  obtain⟨ks,hks⟩: ∃ks,ks=cW t.nodes[i] k:=⟨_,rfl⟩;rw[←hks] at hno hkl;have hh:=Ve hno;obtain⟨h,hhe⟩: ∃h,h=(ks.length+1)/2:=⟨_,rfl⟩
  have hq:dU .i64 (aE (Int.ofNat (List.length (ks.map bG))) 1) 2=(h:Int):=by rw[cn,ajz az,hhe]
  have hkk:rowAt (ks.map bG) (h:Int)=some [iI (ks.getD h eX).b,iI (ks.getD h eX).a,iI (ks.getD h eX).k,iI (ks.getD h eX).c,iI (ks.getD h eX).g]:=by
   rw[aY,aN,qK,bH az];rfl
  have ep:jB t i k=mD t i 1 [t.ax.getD i 0,c7 (ks.getD h eX).b (ks.getD h eX).a] [cG (ks.take h),cG (ks.drop h)]:=by
   unfold jB;rw[hg,aK (by rw[hp];simp),←hks,←hhe]
  have rp:=xL t i [t.ax.getD i 0,c7 (ks.getD h eX).b (ks.getD h eX).a] [cG (ks.take h),cG (ks.drop h)] az az az az cE cE;rw[←ep] at rp
  have e1:au (ks.map bG) 0 (h:Int)=(ks.take h).map bG:=by rw[bZ];rfl
  have e2:au (ks.map bG) (h:Int) (Int.ofNat (List.length (ks.map bG)))=(ks.drop h).map bG:=by
   rw[bZ,cn,pT,show(Int.ofNat ks.length).toNat=ks.length from rfl,sQ]
  have nn1:ai C aF [.c (.sub 5 (au (ks.map bG) 0 (h:Int)))] (mW (cG (ks.take h))) []:=by rw[e1];exact jh _ (by rw[gz];omega)
  have nn2:ai C aF [.c (.sub 5 (au (ks.map bG) (h:Int) (Int.ofNat (List.length (ks.map bG)))))] (mW (cG (ks.drop h))) []:=by rw[e2];exact jh _ (by rw[lD];omega)
  have c1:ew 0 (h:Int) (Int.ofNat (List.length (ks.map bG)))=true:=by rw[E0];simp;omega
  have c2:ew (h:Int) (Int.ofNat (List.length (ks.map bG))) (Int.ofNat (List.length (ks.map bG)))=true:=by rw[E0];simp;omega
  have kw:ai C cZ [dR (eE (aB t.nodes[i]) k)] (dR ks) []:=by
   rw[hks];exact uM (eE (aB t.nodes[i]) k) (by have:=lZ (aB t.nodes[i]) k;omega)
  clear hks hhe hR
  repeat' first
   |refine⟨_,hrow,?_⟩
   |refine⟨_,Wd,?_⟩
   |refine⟨_,_,np,?_⟩
   |refine⟨_,_,hx,?_⟩
   |refine aa cno ?_
   |refine⟨_,kw,?_⟩
   |refine⟨_,(eA t.nodes[i] az az _).2 rfl,?_⟩
   |refine⟨_,kL (aB t.nodes[i]) k az,?_⟩
   |refine av (by rw[bV];rfl) ?_
   |rw[hq]
   |refine⟨_,_,_,_,_,hkk,?_⟩
   |refine aa c1 ?_
   |refine aa c2 ?_
   |refine⟨_,(uO _ _ _ _ _ _).2 rfl,?_⟩
   |refine⟨_,nn1,?_⟩
   |refine⟨_,nn2,?_⟩
   |refine⟨_,_,rp,?_⟩
   |refine⟨(Ex (bB t k),([]:List TV)),?_,?_,rfl⟩
   |refine⟨(Ex (bB t k),([]:List TV)),?_,?_,fG⟩
   |exact fin (fun a b=>(a,b)=(Ex (bB t k),([]:List TV))) rfl
   |exact fin (fun r fs=>r=Ex (bB t k)∧fs=[]) fG
 |true=>
  have cno:(!(cH t.nodes[i] k).2)=false:=by rw[hp];rfl
  by_cases hc:0<i∧(aB (cH t.nodes[i] k).1).length=0
  ·have ci:cN 0 (i:Int)=true:=by rw[jb];simp;omega
   have nk:=(eA (cH t.nodes[i] k).1 az az _).2 rfl
   have cl:c6 (Int.ofNat (List.length ((aB (cH t.nodes[i] k).1).map bG))) 0=true:=by rw[bV,cn,hc.2];rfl
   have ep:jB t i k=mD t i 1 [] []:=by unfold jB;rw[hg,aT hp,aT hc]
   have rp:=xL t i [] [] az az az az cE cE;rw[←ep] at rp;clear hR
   repeat' first
   |refine⟨_,hrow,?_⟩
   |refine⟨_,Wd,?_⟩
   |refine⟨_,_,np,?_⟩
   |refine⟨_,_,hx,?_⟩
   |refine av cno ?_
   |refine aa ci ?_
   |refine⟨_,nk,?_⟩
   |refine aa cl ?_
   |refine⟨_,_,rp,?_⟩
   |refine⟨(Ex (bB t k),([]:List TV)),?_,?_,rfl⟩
   |refine⟨(Ex (bB t k),([]:List TV)),?_,?_,fG⟩
   |exact fin (fun a b=>(a,b)=(Ex (bB t k),([]:List TV))) rfl
   |exact fin (fun r fs=>r=Ex (bB t k)∧fs=[]) fG
  ·have ep:mD t i 1 [t.ax.getD i 0] [(cH t.nodes[i] k).1]=jB t i k:=by
    unfold jB;rw[hg,aT hp,aK hc]
   rw[ep] at hx;clear hR
   by_cases hi0:0<i
   ·have ci:cN 0 (i:Int)=true:=by rw[jb];simp;omega
    have nk:=(eA (cH t.nodes[i] k).1 az az _).2 rfl
    have cl:c6 (Int.ofNat (List.length ((aB (cH t.nodes[i] k).1).map bG))) 0=false:=by
     rw[bV,cn];exact iZ fun e=>hc ⟨hi0,by have e:((aB (cH t.nodes[i] k).1).length:Int)=0:=e;omega⟩
    repeat' first
   |refine⟨_,hrow,?_⟩
   |refine⟨_,Wd,?_⟩
   |refine⟨_,_,np,?_⟩
   |refine⟨_,_,hx,?_⟩
   |refine av cno ?_
   |refine aa ci ?_
   |refine⟨_,nk,?_⟩
   |refine av cl ?_
   |refine⟨(Ex (bB t k),([]:List TV)),?_,?_,rfl⟩
   |refine⟨(Ex (bB t k),([]:List TV)),?_,?_,fG⟩
   |exact fin (fun a b=>(a,b)=(Ex (bB t k),([]:List TV))) rfl
   |exact fin (fun r fs=>r=Ex (bB t k)∧fs=[]) fG
   ·have ci:cN 0 (i:Int)=false:=by rw[jb];simp;omega
    repeat' first
   |refine⟨_,hrow,?_⟩
   |refine⟨_,Wd,?_⟩
   |refine⟨_,_,np,?_⟩
   |refine⟨_,_,hx,?_⟩
   |refine av cno ?_
   |refine av ci ?_
   |refine⟨(Ex (bB t k),([]:List TV)),?_,?_,rfl⟩
   |refine⟨(Ex (bB t k),([]:List TV)),?_,?_,fG⟩
   |exact fin (fun a b=>(a,b)=(Ex (bB t k),([]:List TV))) rfl
   |exact fin (fun r fs=>r=Ex (bB t k)∧fs=[]) fG
theorem K4 (p:bg) (k:Key) (b:Bool) (hc:p.cells.length≤1073741824):ai C Cc [.bx (yN p),AJ k,vB b] (.tu []) [.bx (yN ⟨p.t,p.aU,if b=true∧k.k=1 then kZ p.cells k.c else p.cells,p.aq,p.next⟩)]:=by
 refine(Rb _ _ _ _ _ _ _ _ _ _ _ _ _ ?_).run
 cases b with
 |false=>exact av rfl fG
 |true=>
  refine aa rfl ?_
  by_cases h:k.k=1
  ·exact aa (by rw[bV];exact iK h) ⟨_,tH p.cells k.c hc,rfl,by rw[aT ⟨rfl,h⟩]⟩
  ·exact av (by rw[bV];exact iZ h) ⟨rfl,by rw[aK fun e=>h e.2]⟩
theorem rP (p:bg) (hS:aQ p≤4194304) (k:Key):ai C m0 [.bx (yN p),AJ k] (vB (g6 p k).2) [.bx (yN (g6 p k).1)]:=by
 have hP:=eF hS;have ta:=vC p.t k.b k.a az;have tp:=qv p.t k az;obtain⟨T,b,hT⟩: ∃T b,bB p.t k=(T,b):=⟨_,_,rfl⟩;obtain⟨o,f,hO⟩: ∃o f,xu p.t k.b k.a=(o,f):=⟨_,_,rfl⟩
 have e:g6 p k=if b=true then(⟨T,p.aU,if f=true∧o.k=1 then kZ p.cells o.c else p.cells,p.aq,p.next⟩,true) else(p,false):=by
  unfold g6 I6;rw[hT,hO]
 have hno:=BZ (t:=p.t) (k:=k);rw[hT] at tp hno;rw[hO] at ta;rw[e];refine(S5 _ _ _ _ _ _ _ _ _ _ _ _ ?_).run
 cases b with
 |false=>
  have hno:T=p.t:=hno rfl;subst hno;rw[aK cE];exact eG
 |true=>
  rw[aT rfl];have dr:=K4 ⟨T,p.aU,p.cells,p.aq,p.next⟩ o f (by simp only[];omega);exact eG
theorem ZL {l:List jU} {s:ByteArray} (h:dy l s<0):eI l (dy l s)=none:=jF az
theorem tJ (p:bg) (s:ByteArray) (b:Int) (hS:aQ p≤4194304) (hz:s.size≤140737488355328):ai C ru [dK p,vS s,vI b] (vI (mG p s b)) []:=by
 have hP:=eF hS;have hva:=gU p s az;have hvl:=Cw p s hS hz;refine(N4 _ _ _ _ _ _ _ _ _ ?_).run;unfold mG
 by_cases h1:uZ p s=true
 ·rw[aT h1] at hvl ⊢
  by_cases h2:dy p.aq s<0
  ·rw[aT h2] at hvl
   rw[ZL h2];exact eG
  ·rw[aK h2] at hvl
   obtain⟨v,hv⟩:=Qe h2;have hsz:=L6 (u0 (by unfold uZ at h1;simp only[dW] at h1;exact h1.1)) hv
   have hrv:rowAt (p.aq.map cj) (dy p.aq s)=some [iS v.name,iI v.dJ,iI v.size,iB v.fx]:=by rw[aY,hv];rfl
   have hin:=m6 b 0 (v.size-1);have hsub:dV v.size 1=v.size-1:=dL az;rw[hv];simp only[]
   cases h3:v.fx with
   |true=>
    rw[h3] at hrv;rw[aT rfl];exact eG
   |false=>
    rw[h3] at hrv;rw[aK cE]
    cases h4:g8 b 0 (v.size-1) with
    |true=>
     rw[h4,←hsub] at hin;rw[aT rfl];exact eG
    |false=>
     rw[h4,←hsub] at hin;rw[aK cE];exact eG
 ·rw[aK h1] at hvl ⊢
  exact eG
theorem Jo {l:List Cell} {n i:Int} {cs:List Cell} (h:jA l n=(cs,i,true)): ∃c,eI cs i=some c∧aaR cs i=c.g:=by
 have h0:fE l=true∧lz n=true∧0≤jG l:=Classical.byContradiction fun hn=>by
  rw[uY hn] at h;cases h
 rw[BV h0] at h;obtain⟨rfl,h2⟩:=Prod.mk.inj h;obtain⟨rfl,_⟩:=Prod.mk.inj h2;have hl: -1≤jG l∧jG l<l.length:=aaO Kx l;obtain⟨c,hc⟩:=gj (l:=l.modify (jG l).toNat fun c=>⟨c.g,true,n⟩) h0.2.2 (by rw[Th];exact hl.2);exact⟨c,hc,by unfold aaR;rw[hc]⟩
end Go.T.R
