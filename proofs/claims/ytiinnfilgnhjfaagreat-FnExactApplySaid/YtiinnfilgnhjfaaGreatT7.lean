import Derived.Test.YtiinnfilgnhjfaaGreatT3
import Derived.Test.YtiinnfilgnhjfaaGreatT5
set_option linter.all false
namespace Go.T
structure UL (w w':World) (z m:Nat) (old:Option Nat) (L:List Value) (v:Value):Prop where
 val: ∃b off c sp,v= .slice (some ⟨b,off,none⟩) m c∧m≤c∧c≤maxLen∧b<w'.heap.size∧(old=some b∨w.heap.size≤b)∧aa6 w' b off (L++sp)∧(L++sp).length=c*z∧amz w' b off (c*z)∧(∀i,w'.frozen? ⟨b,i,none⟩=false)
 frm:MV (fun k=>old=some k) w w'
theorem MV.rfl' {F:Nat→Prop} (w:World):MV F w w:=⟨rfl,rfl,rfl,de _,fun _ _ _=>rfl⟩
structure ajC (P:Program) (f:FuncId) (TE:TypeId) (BY z:Nat) (zero:Value):Prop where
 z1:1<z
 zs:zero.cells.size=z
 VY: ∀(b off n c vb voff vc:Nat) (vs:List Value) (w:World),n+1≤c→c≤9223372036854775807→vs.length=z→(∀j,j<z→(w.cell? ⟨b,off+n*z+j,none⟩).isSome=true)→(∀j,j<z→w.frozen? ⟨b,off+n*z+j,none⟩=false)→
  (∀j v,vs[j]?=some v→w.cell? ⟨vb,voff+j,none⟩=some v)→(∀v∈vs,v.oneCell'=true)→
  Calls P f #[.slice (some ⟨b,off,none⟩) n c,.int .i64 n,.slice (some ⟨vb,voff,none⟩) 1 vc] w fun e w'=>
   e= .returned (.slice (some ⟨b,off,none⟩) (n+1) c)∧w'=w.setCells b (off+n*z) vs
 VZ: ∀(base:Option Addr) (n c vb voff vc:Nat) (cs vs:List Value) (w:World),n≤c→c<n+1→(n+1)*BY≤140737488355328→cs.length=n*z→vs.length=z→(base=none→n=0)→
  (∀a,base=some a→ ∀j v,cs[j]?=some v→w.cell? (a.add j)=some v)→(∀j v,vs[j]?=some v→w.cell? ⟨vb,voff+j,none⟩=some v)→(∀v∈vs,v.oneCell'=true)→
  Calls P f #[.slice base n c,.int .i64 n,.slice (some ⟨vb,voff,none⟩) 1 vc] w fun e w'=>
   e= .returned (.slice (some ⟨w.heap.size,0,none⟩) (n+1) (grownCap w (n+1) c TE))∧
   w'=w.drew.alloc (.cells ((cs++vs).toArray++Builtin.zeroCells zero.cells (grownCap w (n+1) c TE-(n+1))) TE)
 shift: ∀(b off n c i vb voff vc:Nat) (cs vs:List Value) (w:World),i<n→n+1≤c→c≤9223372036854775807→vb≠b→cs.length=n*z→vs.length=z→
  (∀j v,cs[j]?=some v→w.cell? ⟨b,off+j,none⟩=some v)→(∀j,j<(n+1)*z→(w.cell? ⟨b,off+j,none⟩).isSome=true)→(∀j,j<(n+1)*z→w.frozen? ⟨b,off+j,none⟩=false)→
  (∀j v,vs[j]?=some v→w.cell? ⟨vb,voff+j,none⟩=some v)→(∀v∈cs,v.oneCell'=true)→(∀v∈vs,v.oneCell'=true)→
  ∀(tA tB:TypeId) (kA kB:Nat),w.shape? vb=some (tA,kA)→w.shape? b=some (tB,kB)→kB≠0→w.frozen? ⟨vb,voff,none⟩=false→w.frozen? ⟨vb,kA,none⟩=false→
  Calls P f #[.slice (some ⟨b,off,none⟩) n c,.int .i64 i,.slice (some ⟨vb,voff,none⟩) 1 vc] w fun e w'=>
   e= .returned (.slice (some ⟨b,off,none⟩) (n+1) c)∧w'=(w.drew.setCells b (off+(i+1)*z) (cs.drop (i*z))).setCells b (off+i*z) vs
 grow: ∀(b off n c i vb voff vc:Nat) (cs vs:List Value) (w:World),i<n→n≤c→c<n+1→(n+1)*BY≤140737488355328→cs.length=n*z→vs.length=z→
  (∀j v,cs[j]?=some v→w.cell? ⟨b,off+j,none⟩=some v)→(∀j v,vs[j]?=some v→w.cell? ⟨vb,voff+j,none⟩=some v)→(∀v∈cs,v.oneCell'=true)→(∀v∈vs,v.oneCell'=true)→
  Calls P f #[.slice (some ⟨b,off,none⟩) n c,.int .i64 i,.slice (some ⟨vb,voff,none⟩) 1 vc] w fun e w'=>
   e= .returned (.slice (some ⟨w.heap.size,0,none⟩) (n+1) (grownCap w (n+1) c TE))∧
   w'=(((w.alloc (.cells ((cs.take (i*z)).toArray++Builtin.zeroCells zero.cells (n+1-i)++Builtin.zeroCells zero.cells (grownCap w (n+1) c TE-(n+1))) TE)).drew.setCells w.heap.size (i*z) vs).drew).setCells w.heap.size ((i+1)*z) (cs.drop (i*z))
variable {w : World} {S1 S2 : Nat → Prop} {z : Nat} {rows : List (List TC)} {x : List TC} {v1 v2 : Value} {A1 A2 : Option Addr} {c1 c2 : Nat} {qR Uw : List I8}
theorem vN.len (o:vN w S1 z rows v1 A1 c1 qR):qR.length=rows.length*z:=by
 have:=congrArg List.length o.tcs;rw[dD o.width,ct] at this;exact this.symm
theorem vN.one (o:vN w S1 z rows v1 A1 c1 qR): ∀v∈qR.map (·.val),v.oneCell'=true:=fun v hv=>by
 obtain⟨t,ht,rfl⟩:=List.mem_map.1 hv;exact vM (o.ok t ht)
theorem je {b o:Nat} {us:List Value} {W:World} {x:Addr}:(W.setCells b o us).frozen? x=W.frozen? x:=World.frozen?_setCells b us o W x
theorem xU {b o:Nat} {us:List Value} {W:World}:(W.setCells b o us).heap.size=W.heap.size:=(oC b us o W).2.2.2
theorem ajC.post {P:Program} {f:FuncId} {TE:TypeId} {BY:Nat} {zero:Value} (I:ajC P f TE BY z zero) (o1:vN w S1 z rows v1 A1 c1 qR) (o2:vN w S2 z [x] v2 A2 c2 Uw) (hap: ∀k,S1 k→ ¬S2 k)
 (i:Nat) (hi:i≤rows.length) (hf1:(rows.length+1)*BY≤140737488355328) (hf2:rows.length+1≤140737488355328):
 Calls P f #[v1,.int .i64 i,v2] w fun e w'=> ∃v,e= .returned v∧UL w w' z (rows.length+1) (A1.map (·.block)) ((qR.map (·.val)).take (i*z)++Uw.map (·.val)++(qR.map (·.val)).drop (i*z)) v:=by
 have hz:=I.z1;obtain⟨n,hn⟩: ∃n,n=rows.length:=⟨_,rfl⟩;have l1:=o1.len;have l2:=o2.len;have h11:=o1.one;have h12:=o2.one;have hv1:=o1.val;have hv2:=o2.val;rw[←hn] at l1 hi hf1 hf2 hv1 ⊢;simp only[gn,List.length_nil,nB,Nat.one_mul] at l2 hv2;have hle:=o1.le;have hcm:=o1.cap;rw[←hn] at hle;obtain⟨cs,hcs⟩: ∃cs,cs=qR.map (·.val):=⟨_,rfl⟩;obtain⟨vs,hvs⟩: ∃vs,vs=Uw.map (·.val):=⟨_,rfl⟩;rw[←hcs] at h11;rw[←hvs] at h12
 have lc:cs.length=n*z:=by rw[hcs,ct,l1]
 have lv:vs.length=z:=by rw[hvs,ct,l2]
 rw[←hcs,←hvs]
 cases hA2:A2 with
 |none=>
  have h1:=o2.none hA2;have h2:=o2.le;simp only[gn,List.length_nil] at h2;omega
 |some a2=>
 obtain⟨KS,hs2,⟨sp2,Xo,ap7⟩,arC,aoJ⟩:=o2.row a2 hA2;obtain⟨vb,voff,vspot⟩:=a2
 cases hs2
 simp only at Xo ap7 arC aoJ KS;rw[←hvs] at Xo ap7;have hvr: ∀j v,vs[j]?=some v→w.cell? ⟨vb,voff+j,none⟩=some v:=fun j v hj=>Xo j v (by rw[nw (List.getElem?_eq_some_iff.1 hj).1];exact hj);rw[hA2] at hv2
 have ap9:c1≤9223372036854775807:=by simp only[maxLen] at hcm;omega
 have hzc: ∀k,(Builtin.zeroCells zero.cells k).size=k*z:=fun k=>by rw[size_zeroCells,I.zs]
 have hge:=grownCap_ge w (n+1) c1 TE;have hgm:=grownCap_le_maxLen w (n+1) c1 TE (by simp only[maxLen];omega);obtain⟨G,hG⟩: ∃G,G=grownCap w (n+1) c1 TE:=⟨_,rfl⟩;rw[←hG] at hge hgm;have eG:=qx z hge;rw[uN,Nat.one_mul] at eG
 have eZ:(G-(n+1))*z=G*z-(n*z+z):=by rw[Nat.sub_mul,uN,Nat.one_mul]
 by_cases hin:i=n
 ·
  subst hin
  have et:cs.take (i*z)++vs++cs.drop (i*z)=cs++vs:=by
   rw[MO an,Rc an,qv]
  rw[et]
  by_cases hroom:i+1≤c1
  ·cases hA1:A1 with
   |none=>have:=o1.none hA1;omega
   |some a1=>
    obtain⟨hS1,UP,⟨sp1,IJ,Kh⟩,Ux,ab6⟩:=o1.row a1 hA1;obtain⟨b,off,spot⟩:=a1
    cases UP
    simp only at IJ Kh Ux ab6 hS1;rw[←hcs] at IJ Kh;rw[hA1] at hv1;have em:=qx z hroom;rw[uN,Nat.one_mul] at em
    have hcell: ∀j,j<c1*z→(w.cell? ⟨b,off+j,none⟩).isSome=true:=fun j hj=>by rw[IJ j _ (cw an)];rfl
    rw[hv1,hv2];refine(I.VY b off i c1 vb voff c2 vs w hroom ap9 lv (fun j hj=>by rw[ny];exact hcell _ an) (fun j hj=>by rw[ny];exact Ux _ an) hvr h12).mono ?_;rintro e w' ⟨rfl,rfl⟩;refine⟨_,rfl,⟨b,off,c1,(cs++sp1).drop (i*z+z),rfl,hroom,hcm,?_,.inl rfl,?_,?_,?_,?_⟩,?_⟩
    ·rw[xU]
     have:=MX (IJ 0 _ (cw an));exact this
    ·have:=IJ.put (p:=i*z) (us:=vs) an
     rw[Rf an,MO an,lv] at this;exact this
    ·rw[cM,cM,jd,lc,lv,Kh];omega
    ·intro j hj;rw[je];exact Ux j hj
    ·intro j;rw[je];exact ab6 hz j
    ·exact(MV.rfl' w).setCells (.inr rfl)
  ·have hb:A1=none→i=0:=fun h=>by have:=o1.none h;omega
   rw[hv1,hv2];refine(I.VZ A1 i c1 vb voff c2 cs vs w hle an hf1 lc lv hb (fun a ha j v hj=> ?_) hvr h12).mono ?_
   ·obtain⟨hS1,UP,⟨sp1,IJ,Kh⟩,Ux,ab6⟩:=o1.row a ha
    obtain⟨b,off,spot⟩:=a
    cases UP
    rw[Addr.add_lit];exact IJ j v (by rw[←hcs,nw (List.getElem?_eq_some_iff.1 hj).1];exact hj)
   ·rintro e w' ⟨rfl,rfl⟩
    rw[←hG];obtain⟨ROW,Xj⟩: ∃ROW,ROW=(cs++vs).toArray++Builtin.zeroCells zero.cells (G-(i+1)):=⟨_,rfl⟩
    have hl:ROW.size=G*z:=by
     rw[Xj,Array.size_append,hzc,List.size_toArray,cM,lc,lv];omega
    have hL:ROW.toList=(cs++vs)++(Builtin.zeroCells zero.cells (G-(i+1))).toList:=by rw[Xj];simp
    rw[←Xj];refine⟨_,rfl,⟨w.heap.size,0,G,(Builtin.zeroCells zero.cells (G-(i+1))).toList,rfl,hge,hgm,?_,.inr (de _),?_,?_,?_,?_⟩,?_⟩
    ·simp
    ·rw[←hL]
     intro k y hk;rw[nB];exact(wO w.drew ROW TE k).trans (by rw[←UR];exact hk)
    ·rw[←hL,Ab,hl]
    ·intro j hj;exact nE w.drew ROW TE _
    ·intro j;exact nE w.drew ROW TE j
    ·exact((MV.rfl' w).MW (pV.drew w)).MW (pV.alloc _ _)
 ·have hlt:i<n:=by omega
  have ei:=qx z hlt;rw[Bw] at ei;have e1:(i+1)*z=i*z+z:=Bw _ _
  cases hA1:A1 with
  |none=>have:=o1.none hA1;omega
  |some a1=>
  obtain⟨hS1,UP,⟨sp1,IJ,Kh⟩,Ux,ab6⟩:=o1.row a1 hA1;obtain⟨b,off,spot⟩:=a1
  cases UP
  simp only at IJ Kh Ux ab6 hS1;rw[←hcs] at IJ Kh;rw[hA1] at hv1;have Xq: ∀j v,cs[j]?=some v→w.cell? ⟨b,off+j,none⟩=some v:=fun j v hj=>IJ j v (by rw[nw (List.getElem?_eq_some_iff.1 hj).1];exact hj)
  have hcell: ∀j,j<c1*z→(w.cell? ⟨b,off+j,none⟩).isSome=true:=fun j hj=>by rw[IJ j _ (cw an)];rfl
  have ld:(cs.drop (i*z)).length=n*z-i*z:=by rw[jd,lc]
  rw[hv1,hv2]
  by_cases hroom:n+1≤c1
  ·have em:=qx z hroom
   have e2:(n+1)*z=n*z+z:=Bw _ _;have hne:vb≠b:=fun e=>hap b hS1 (by rw[←e];exact KS);obtain⟨tA,kA,hsa,_⟩:=acP (hvr 0 _ (cw an));obtain⟨tB,kB,hsb,hkB⟩:=acP (Xq 0 _ (cw an));refine(I.shift b off n c1 i vb voff c2 cs vs w hlt hroom ap9 hne lc lv Xq (fun j hj=>hcell j an) (fun j hj=>Ux j an) hvr h11 h12 tA tB kA kB hsa hsb hkB (aoJ hz _) (aoJ hz _)).mono ?_;rintro e w' ⟨rfl,rfl⟩;have r0:aa6 w.drew b off (cs++sp1):=IJ
   have r1:=r0.put (p:=(i+1)*z) (us:=cs.drop (i*z)) (by rw[e1,ld];omega);have r2:=r1.put (p:=i*z) (us:=vs) (by simp only[cM,fu,jd] at Kh ⊢;omega);refine⟨_,rfl,⟨b,off,c1,(cs++sp1).drop ((i+1)*z+(cs.drop (i*z)).length),rfl,hroom,hcm,?_,.inl rfl,?_,?_,?_,?_⟩,?_⟩
   ·rw[xU,xU]
    exact MX (Xq 0 _ (cw an))
   ·have q1:(((cs++sp1).take ((i+1)*z)++cs.drop (i*z))++(cs++sp1).drop ((i+1)*z+(cs.drop (i*z)).length)).take (i*z)=cs.take (i*z):=by
     rw[Ac,Rf (by rw[fu];omega),List.take_take,Nat.min_eq_left an,Rf an]
    have q2:(((cs++sp1).take ((i+1)*z)++cs.drop (i*z))++(cs++sp1).drop ((i+1)*z+(cs.drop (i*z)).length)).drop (i*z+vs.length)=cs.drop (i*z)++(cs++sp1).drop ((i+1)*z+(cs.drop (i*z)).length):=by
     rw[Ac,List.drop_append_of_le_length (by rw[fu];omega),Rc (by rw[fu];omega),xy]
    rw[q1,q2,←Ac] at r2;exact r2
   ·simp only[cM,fu,jd,lc,lv] at Kh ⊢;omega
   ·intro j hj;rw[je,je];exact Ux j hj
   ·intro j;rw[je,je];exact ab6 hz j
   ·have f0:MV (fun k=>Option.map (fun x:Addr=>x.block) (some ⟨b,off,none⟩)=some k) w w.drew:=(MV.rfl' w).MW (pV.drew w)
    exact(f0.setCells (b:=b) (.inr rfl)).setCells (b:=b) (.inr rfl)
  ·refine(I.grow b off n c1 i vb voff c2 cs vs w hlt hle an hf1 lc lv Xq hvr h11 h12).mono ?_
   rintro e w' ⟨rfl,rfl⟩;rw[←hG];obtain⟨ROW,Xj⟩: ∃ROW,ROW=(cs.take (i*z)).toArray++Builtin.zeroCells zero.cells (n+1-i)++Builtin.zeroCells zero.cells (G-(n+1)):=⟨_,rfl⟩
   have eW:(n+1-i)*z=n*z+z-i*z:=by rw[Nat.sub_mul,uN,Nat.one_mul]
   have hl:ROW.size=G*z:=by
    rw[Xj,Array.size_append,Array.size_append,hzc,hzc,List.size_toArray,fu,lc];omega
   obtain⟨ZZ,hZZ⟩: ∃ZZ,ZZ=(Builtin.zeroCells zero.cells (n+1-i)).toList++(Builtin.zeroCells zero.cells (G-(n+1))).toList:=⟨_,rfl⟩
   have hL:ROW.toList=cs.take (i*z)++ZZ:=by rw[Xj,hZZ];simp
   have lZ:ZZ.length=G*z-i*z:=by
    have:=congrArg List.length hL;rw[Ab,hl,cM,fu,lc] at this;omega
   rw[←Xj]
   have r0:aa6 ((w.alloc (.cells ROW TE)).drew) w.heap.size 0 (cs.take (i*z)++ZZ):=fun k y hk=>by
    rw[nB];rw[←hL] at hk;exact(wO w ROW TE k).trans (by rw[←UR];exact hk)
   have r1:=r0.put (p:=i*z) (us:=vs) (by rw[cM,fu,lZ];omega);have r1':aa6 (((w.alloc (.cells ROW TE)).drew.setCells w.heap.size (0+i*z) vs).drew) w.heap.size 0 _:=r1;have r2:=r1'.put (p:=(i+1)*z) (us:=cs.drop (i*z)) (by simp only[cM,fu,jd];omega);rw[nB,nB] at r2;refine⟨_,rfl,⟨w.heap.size,0,G,(cs.take (i*z)++ZZ).drop ((i+1)*z+(cs.drop (i*z)).length),rfl,hge,hgm,?_,.inr (de _),?_,?_,?_,?_⟩,?_⟩
   ·rw[xU]
    show w.heap.size<(World.setCells _ _ _ _).heap.size;rw[xU];show w.heap.size<(w.alloc _).heap.size;simp
   ·have q1:(((cs.take (i*z)++ZZ).take (i*z)++vs)++(cs.take (i*z)++ZZ).drop (i*z+vs.length)).take ((i+1)*z)=cs.take (i*z)++vs:=by
     rw[Rf (by simp only[cM,fu];omega),MO (by simp only[cM,fu];omega)]
     congr 1
     rw[Rf (by rw[fu];omega),List.take_take,Nat.min_self]
    have q2:(((cs.take (i*z)++ZZ).take (i*z)++vs)++(cs.take (i*z)++ZZ).drop (i*z+vs.length)).drop ((i+1)*z+(cs.drop (i*z)).length)=(cs.take (i*z)++ZZ).drop ((i+1)*z+(cs.drop (i*z)).length):=by
     rw[List.drop_append,Rc (by simp only[cM,fu];omega),xy,List.drop_drop]
     congr 1
     simp only[cM,fu];omega
    rw[q1,q2] at r2;exact r2
   ·simp only[cM,fu,jd,lc,lv,lZ];omega
   ·intro j hj
    rw[je];show(World.setCells _ _ _ _).frozen? _=false;rw[je];exact nE w ROW TE _
   ·intro j
    rw[je];show(World.setCells _ _ _ _).frozen? _=false;rw[je];exact nE w ROW TE j
   ·have f0:MV (fun k=>Option.map (fun x:Addr=>x.block) (some ⟨b,off,none⟩)=some k) w ((w.alloc (.cells ROW TE)).drew):=((MV.rfl' w).MW (pV.alloc _ _)).MW (pV.drew _)
    have f1:=f0.setCells (b:=w.heap.size) (o:=i*z) (vs:=vs) (.inl (de _));have f2:=f1.MW (pV.drew _);exact f2.setCells (.inl (de _))
end Go.T
namespace Go.T
theorem Pk {z:Nat}: ∀{rows:List (List TC)},(∀r∈rows,r.length=z)→ ∀i,(rows.take i).flatten=rows.flatten.take (i*z)
 |[],_,i=>by simp
 |r::rs,hw,0=>by simp
 |r::rs,hw,i+1=>by
  have hr:=hw r (.head _);rw[List.take_succ_cons,Ae,Ae,Pk (fun r hr=>hw r (.tail _ hr)) i,Bw,List.take_append,hr];rw[MO (by omega:r.length≤i*z+z),show i*z+z-z=i*z by omega]
theorem Pm {z:Nat}: ∀{rows:List (List TC)},(∀r∈rows,r.length=z)→ ∀i,(rows.drop i).flatten=rows.flatten.drop (i*z)
 |[],_,i=>by simp
 |r::rs,hw,0=>by simp
 |r::rs,hw,i+1=>by
  have hr:=hw r (.head _);rw[List.drop_succ_cons,Ae,Pm (fun r hr=>hw r (.tail _ hr)) i,Bw,List.drop_append,hr];rw[Rc (by omega:r.length≤i*z+z),xy,show i*z+z-z=i*z by omega]
theorem MV.mono {F F':Nat→Prop} {w w':World} (h:MV F w w') (hF: ∀k,F k→F' k):MV F' w w':=
 ⟨h.os,h.tape,h.output,h.size,fun k hk hn=>h.block k hk fun hf=>hn (hF k hf)⟩
theorem UL.opened {w w':World} {z m:Nat} {old:Option Nat} {eP:List I8} {v:Value} (h:UL w w' z m old (eP.map (·.val)) v) {rows:List (List TC)} (hl:rows.length=m) (hz:0<z) (hw: ∀r∈rows,r.length=z) (ht:rows.flatten=eP.map (·.tc))
 (hok: ∀t∈eP,t.ok w) (hsub: ∀t∈eP,∀k,t.own k→k<w.heap.size∧old≠some k) (hd:eP.Pairwise I8.apart):
 ∃b A c,(old=some b∨w.heap.size≤b)∧b<w'.heap.size∧vN w' (fun k=>k=b∨ ∃t∈eP,t.own k) z rows v A c eP:=by
 obtain⟨b,off,c,sp,h1,h2,h3,h4,h5,h6,h7,h8,h9⟩:=h.val;refine⟨b,_,c,h5,h4,⟨by rw[h1,hl],by omega,h3,hz,hw,ht,fun t hm=> ?_,hd,fun t hm k hk=>⟨.inr ⟨t,hm,hk⟩,fun ad e=> ?_⟩,fun e=>(by cases e),fun ad e=> ?_⟩⟩
 ·refine(hok t hm).move (fun k hk=>hk.elim) fun _ k hk=> ?_
  exact h.frm.block k (hsub t hm k hk).1 (hsub t hm k hk).2
 ·cases e
  rintro rfl;rcases h5 with e|e
  ·exact(hsub t hm _ hk).2 e
  ·have:=(hsub t hm _ hk).1;omega
 ·cases e
  exact⟨.inl rfl,rfl,⟨sp,h6,h7⟩,h8,fun _ i=>h9 i⟩
theorem ajD {w w':World} {X:Nat→Nat→Nat→Prop} {Y:Nat→Nat→Prop} {Rg BB:Nat→Prop} {z:Nat} {bJ:List (List TC)} {v:Value} {A:Option Addr} {c b:Nat} {eP:List I8} {old:Option Nat} {ps:List cz} {xs:List Value} {sh:Bool}
 (hF:MV (fun k=>old=some k) w w') (hold: ∀k,old=some k→ ∃i j,X i j k) (hb:old=some b∨w.heap.size≤b) (hb2:b<w'.heap.size) (hX: ∀i j k,X i j k→k<w.heap.size) (aqa: ∀t∈eP,∀k,t.own k→ ∃i j,X i j k)
 (o:vN w' (fun k=>k=b∨ ∃t∈eP,t.own k) z bJ v A c eP) (arE:BI w' (fun k=> ¬False∧ ∀i,i<1→ ¬(i=0∧(k=b∨ ∃t∈eP,t.own k))) ps xs [] []):
 Rj (yp X Y) (KY true Rg BB) w w' ⟨ps,sh,[[.deep]]⟩ xs (.c (.sub z bJ)) [] v:=by
 have hv:=o.val;refine⟨hF.mono fun k hk=> .inl (hold k hk),fun _=>False,fun n k=>n=0∧(k=b∨ ∃t∈eP,t.own k),[(.deep,.sub z bJ,v)],[],⟨?_,?_,?_,fun k hk=>hk.elim⟩,?_,arE⟩
 ·intro i it hi
  cases i with
  |zero=>
   simp only[qv,gT,aY] at hi;subst hi;exact(o.rep (R:=fun _=>False)).mono fun k hk=>⟨rfl,hk⟩
  |succ i=>simp at hi
 ·rintro i k hi ⟨rfl,hk⟩
  refine⟨?_,?_,id⟩
  ·rcases hk with rfl|⟨t,ht,hk⟩
   ·exact hb2
   ·obtain⟨i,j,h⟩:=aqa t ht k hk
    exact mq (hX i j k h) hF.size
  ·rcases hk with rfl|⟨t,ht,hk⟩
   ·exact hb.elim (fun h=> .inr (.inl (hold _ h))) .inl
   ·exact .inr (.inl (aqa t ht k hk))
 ·rintro i j k hi hj ⟨rfl,_⟩ ⟨rfl,_⟩;rfl
 ·subst hv
  exact⟨⟨F1 _,rfl,fun h=>(by cases h),fun _=>rfl⟩,rfl⟩
def ajE (z BY:Nat):List TV→Option (TV×List TV)
 |[.c (.sub z1 rows),.c (.sc (.int .i64 i)),.c (.sub z2 [x])]=>
  if z1=z∧z2=z∧0≤i∧i≤(rows.length:Int)∧fits (rows.length+1) BY=true then some (.c (.sub z (rows.take i.toNat++x::rows.drop i.toNat)),[]) else none
 |_=>none
theorem apl {n b:Nat} (h:fits n b=true):n*b≤140737488355328∧n≤140737488355328:=by
 unfold fits at h;exact yh h
theorem ajC.call {C:pU} {f:FuncId} {TE:TypeId} {BY z:Nat} {zero:Value} (I:ajC C.P f TE BY z zero) (hb: ∃fn c,C.P.funcs[f]?=some fn∧fn.body=some c) {sh:Bool} (hs:C.sig f=⟨[.consume,.borrow,.consume],sh,[[.deep]]⟩)
 {vs:List TV} {r:TV} {fs:List TV} (h:ajE z BY vs=some (r,fs)):OZ C f vs r fs:=by
 unfold ajE at h
 split at h
 ·rename_i z1 rows i z2 x
  split at h
  ·rename_i hc
   obtain⟨rfl,rfl,h0,hi,hf⟩:=hc;simp only[aY,Bx] at h;obtain⟨rfl,rfl⟩:=h;obtain⟨hf1,hf2⟩:=apl hf;obtain⟨n,rfl⟩:=Int.eq_ofNat_of_zero_le h0
   have hn:n≤rows.length:=by omega
   rw[show(n:Int).toNat=n from rfl];refine⟨hb,fun w xs Rg BB X Y ha hl=> ?_⟩;rw[hs] at ha hl ⊢;obtain⟨x0,e0,a0⟩:=ha.each 0 _ rfl;obtain⟨x1,e1,a1⟩:=ha.each 1 _ rfl;obtain⟨x2,e2,a2⟩:=ha.each 2 _ rfl
   match xs,hl,e0,e1,e2 with
   |[y0,y1,y2],_,e0,e1,e2=>
    cases e0;cases e1;cases e2
    have a0:aB w Rg .deep (X 0 0) (.sub z2 rows) x0:=a0;have a1:aB w Rg .snap (X 1 0) (.sc (.int .i64 n)) x1:=a1;have a2:aB w Rg .deep (X 2 0) (.sub z2 [x]) x2:=a2;obtain⟨A1,c1,qR,o1⟩:=a0.opened;obtain⟨A2,c2,Uw,o2⟩:=a2.opened
    cases a1
    have hap: ∀k,X 0 0 k→ ¬X 2 0 k:=fun k h1 h2=>by have:=(ha.own 0 0 k h1).2.2.2.2 2 0 h2;omega
    refine(I.post o1 o2 hap n hn hf1 hf2).mono ?_;rintro e w' ⟨v,rfl,hp⟩;refine⟨v,rfl,?_⟩;have l1:=o1.len;have l2:=o2.len
    have hold: ∀k,A1.map (fun a=>a.block)=some k→X 0 0 k:=fun k hk=>by
     cases hA:A1 with
     |none=>rw[hA] at hk;cases hk
     |some ad=>rw[hA] at hk;cases hk;exact(o1.row ad hA).1
    rw[←IM,←DN,←ux,←ux] at hp
    have mem: ∀t,t∈qR.take (n*z2)++Uw++qR.drop (n*z2)→(t∈qR∧ ∀k,t.own k→X 0 0 k)∨(t∈Uw∧ ∀k,t.own k→X 2 0 k):=fun t ht=>by
     rcases List.mem_append.1 ht with ht|ht
     ·rcases List.mem_append.1 ht with ht|ht
      ·exact .inl ⟨Bv ht,fun k hk=>(o1.sub t (Bv ht) k hk).1⟩
      ·exact .inr ⟨ht,fun k hk=>(o2.sub t ht k hk).1⟩
     ·exact .inl ⟨zg ht,fun k hk=>(o1.sub t (zg ht) k hk).1⟩
    have zp: ∀r∈(rows.take n++x::rows.drop n),r.length=z2:=by
     intro r hr;rcases List.mem_append.1 hr with hr|hr
     ·exact o1.width r (Bv hr)
     ·rcases gj.1 hr with rfl|hr
      ·exact o2.width _ (.head _)
      ·exact o1.width r (zg hr)
    have htc:((rows.take n++x::rows.drop n)).flatten=((qR.take (n*z2)++Uw++qR.drop (n*z2))).map (·.tc):=by
     have hx:x=Uw.map (·.tc):=by have:=o2.tcs;simpa using this
     rw[ZI,Ae,Pk o1.width,Pm o1.width,o1.tcs,hx,←IM,←DN,←ux,←ux,Ac]
    have hok: ∀t∈(qR.take (n*z2)++Uw++qR.drop (n*z2)),t.ok w:=by
     intro t ht;exact(mem t ht).elim (fun h=>o1.ok t h.1) fun h=>o2.ok t h.1
    have hsb: ∀t∈(qR.take (n*z2)++Uw++qR.drop (n*z2)),∀k,t.own k→k<w.heap.size∧(A1.map (fun a=>a.block))≠some k:=by
     intro t ht k hk;rcases mem t ht with h|h
     ·refine⟨(ha.own 0 0 k (h.2 k hk)).1,fun e=> ?_⟩
      cases hA:A1 with
      |none=>rw[hA] at e;cases e
      |some ad=>rw[hA] at e;cases e;exact(o1.sub t h.1 _ hk).2 ad hA rfl
     ·exact⟨(ha.own 2 0 k (h.2 k hk)).1,fun e=>hap k (hold k e) (h.2 k hk)⟩
    have hdj:((qR.take (n*z2)++Uw++qR.drop (n*z2))).Pairwise I8.apart:=by
     have hd1:=o1.sO;rw[←MN (n*z2) qR] at hd1;obtain⟨p1,p2,p3⟩:=List.pairwise_append.1 hd1;have cr: ∀a∈qR,∀b∈Uw,I8.apart a b:=fun a ha b hb k h1 h2=>hap k (o1.sub a ha k h1).1 (o2.sub b hb k h2).1;refine List.pairwise_append.2 ⟨List.pairwise_append.2 ⟨p1,o2.sO,fun a ha b hb=>cr a (Bv ha) b hb⟩,p2,fun a ha b hb=> ?_⟩;rcases List.mem_append.1 ha with ha|ha
     ·exact p3 a ha b hb
     ·exact I8.aeM (cr b (zg hb) a ha)
    obtain⟨b,A,c,hb1,hb2,o⟩:=hp.opened (rows:=rows.take n++x::rows.drop n) (by simp only[cM,fu,jd,gn];omega) o1.z0 zp htc hok hsb hdj;exact ajD hp.frm (fun k hk=>⟨0,0,hold k hk⟩) hb1 hb2 (fun i j k h=>(ha.own i j k h).1) (fun t ht k hk=>(mem t ht).elim (fun h=>⟨0,0,h.2 k hk⟩) fun h=>⟨2,0,h.2 k hk⟩) o ⟨rfl,rfl⟩
  ·cases h
 ·cases h
structure anG (P:Program) (f:FuncId) (z:Nat) (zs:List Value):Prop where
 z1:1<z
 zl:zs.length=z
 walk: ∀(b off n c i j:Nat) (cs:List Value) (w:World),i<n→j=i+1→n≤c→c≤9223372036854775807→cs.length=n*z→
  (∀j v,cs[j]?=some v→w.cell? ⟨b,off+j,none⟩=some v)→(∀j,j<n*z→w.frozen? ⟨b,off+j,none⟩=false)→(∀v∈cs,v.oneCell'=true)→
  Calls P f #[.slice (some ⟨b,off,none⟩) n c,.int .i64 i,.int .i64 j] w fun e w'=>
   e= .returned (.slice (some ⟨b,off,none⟩) (n-1) c)∧w'=(w.drew.setCells b (off+i*z) (cs.drop (j*z))).setCells b (off+(n-1)*z) zs
def ajF (z:Nat):List TV→Option (TV×List TV)
 |[.c (.sub z1 rows),.c (.sc (.int .i64 i)),.c (.sc (.int .i64 j))]=>
  if z1=z∧0≤i∧i<(rows.length:Int)∧j=i+1 then some (.c (.sub z (rows.take i.toNat++rows.drop j.toNat)),[]) else none
 |_=>none
theorem anG.apm {C:pU} {f:FuncId} {z:Nat} {zs:List Value} (I:anG C.P f z zs) (hb: ∃fn c,C.P.funcs[f]?=some fn∧fn.body=some c) {sh:Bool} (hs:C.sig f=⟨[.consume,.borrow,.borrow],sh,[[.deep]]⟩)
 {vs:List TV} {r:TV} {fs:List TV} (h:ajF z vs=some (r,fs)):OZ C f vs r fs:=by
 unfold ajF at h
 split at h
 ·rename_i z1 rows i j
  split at h
  ·rename_i hc
   obtain⟨rfl,h0,hi,rfl⟩:=hc;simp only[aY,Bx] at h;obtain⟨rfl,rfl⟩:=h;obtain⟨n,rfl⟩:=Int.eq_ofNat_of_zero_le h0
   have hn:n<rows.length:=by omega
   rw[show(n:Int).toNat=n from rfl,show((n:Int)+1).toNat=n+1 from rfl];refine⟨hb,fun w xs Rg BB X Y ha hl=> ?_⟩;rw[hs] at ha hl ⊢;obtain⟨x0,e0,a0⟩:=ha.each 0 _ rfl;obtain⟨x1,e1,a1⟩:=ha.each 1 _ rfl;obtain⟨x2,e2,a2⟩:=ha.each 2 _ rfl
   match xs,hl,e0,e1,e2 with
   |[y0,y1,y2],_,e0,e1,e2=>
    cases e0;cases e1;cases e2
    have a0:aB w Rg .deep (X 0 0) (.sub z1 rows) x0:=a0;have a1:aB w Rg .snap (X 1 0) (.sc (.int .i64 n)) x1:=a1;have a2:aB w Rg .snap (X 2 0) (.sc (.int .i64 ((n:Int)+1))) x2:=a2;obtain⟨A1,c1,qR,o1⟩:=a0.opened
    cases a1
    cases a2
    have l1:=o1.len;have hle:=o1.le;have hcm:=o1.cap;have hv1:=o1.val;have hz:=I.z1
    cases hA1:A1 with
    |none=>have:=o1.none hA1;omega
    |some a1=>
    obtain⟨hS1,UP,⟨sp1,IJ,Kh⟩,Ux,ab6⟩:=o1.row a1 hA1;obtain⟨b,off,spot⟩:=a1
    cases UP
    simp only at IJ Kh Ux ab6 hS1;rw[hA1] at hv1;obtain⟨cs,hcs⟩: ∃cs,cs=qR.map (·.val):=⟨_,rfl⟩;rw[←hcs] at IJ Kh
    have lc:cs.length=rows.length*z1:=by rw[hcs,ct,l1]
    have em:=qx z1 hle;have en:=qx z1 hn;rw[Bw] at en
    have e3:(rows.length-1)*z1=rows.length*z1-z1:=by rw[Nat.sub_mul,Nat.one_mul]
    have e4:(n+1)*z1=n*z1+z1:=Bw _ _;have Xq: ∀j v,cs[j]?=some v→w.cell? ⟨b,off+j,none⟩=some v:=fun j v hj=>IJ j v (by rw[nw (List.getElem?_eq_some_iff.1 hj).1];exact hj);rw[hv1];refine(I.walk b off rows.length c1 n (n+1) cs w hn rfl hle (by simp only[maxLen] at hcm;omega) lc Xq (fun j hj=>Ux j an) (by rw[hcs];exact o1.one)).mono ?_;rintro e w' ⟨rfl,rfl⟩;refine⟨_,rfl,?_⟩;have r0:aa6 w.drew b off (cs++sp1):=IJ
    have ld:(cs.drop ((n+1)*z1)).length=rows.length*z1-(n*z1+z1):=by rw[jd,lc,e4]
    have r1:=r0.put (p:=n*z1) (us:=cs.drop ((n+1)*z1)) (by rw[ld];omega);have r2:=r1.put (p:=(rows.length-1)*z1) (us:=zs) (by rw[I.zl];simp only[cM,fu,jd] at Kh ⊢;omega)
    have hp:UL w ((w.drew.setCells b (off+n*z1) (cs.drop ((n+1)*z1))).setCells b (off+(rows.length-1)*z1) zs) z1 (rows.length-1) (some b) ((qR.take (n*z1)++qR.drop ((n+1)*z1)).map (·.val)) (.slice (some ⟨b,off,none⟩) (rows.length-1) c1):=by
     rw[ux,IM,DN,←hcs];refine⟨⟨b,off,c1,zs++((cs++sp1).take (n*z1)++cs.drop ((n+1)*z1)++(cs++sp1).drop (n*z1+(cs.drop ((n+1)*z1)).length)).drop ((rows.length-1)*z1+zs.length),rfl,by omega,hcm,?_,.inl rfl,?_,?_,?_,?_⟩,?_⟩
     ·rw[xU,xU]
      exact MX (Xq 0 _ (cw an))
     ·have q1:((cs++sp1).take (n*z1)++cs.drop ((n+1)*z1)++(cs++sp1).drop (n*z1+(cs.drop ((n+1)*z1)).length)).take ((rows.length-1)*z1)=cs.take (n*z1)++cs.drop ((n+1)*z1):=by
       rw[Rf (by simp only[cM,fu,ld];omega),MO (by simp only[cM,fu,ld];omega)]
       congr 1
       rw[Rf an]
      rw[q1] at r2;rw[←Ac];exact r2
     ·simp only[cM,fu,jd,lc,I.zl] at Kh ⊢;omega
     ·intro j hj;rw[je,je];exact Ux j hj
     ·intro j;rw[je,je];exact ab6 hz j
     ·have f0:MV (fun k=>some b=some k) w w.drew:=(MV.rfl' w).MW (pV.drew w)
      exact(f0.setCells (b:=b) (.inr rfl)).setCells (b:=b) (.inr rfl)
    have mem: ∀t,t∈qR.take (n*z1)++qR.drop ((n+1)*z1)→t∈qR:=fun t ht=>(List.mem_append.1 ht).elim Bv zg;have hX: ∀t∈qR,∀k,t.own k→X 0 0 k:=fun t ht k hk=>(o1.sub t ht k hk).1
    have zp: ∀r∈(rows.take n++rows.drop (n+1)),r.length=z1:=by
     intro r hr;rcases List.mem_append.1 hr with hr|hr
     ·exact o1.width r (Bv hr)
     ·exact o1.width r (zg hr)
    have htc:((rows.take n++rows.drop (n+1))).flatten=((qR.take (n*z1)++qR.drop ((n+1)*z1))).map (·.tc):=by
     rw[ZI,Pk o1.width,Pm o1.width,o1.tcs,←IM,←DN,←ux]
    have hsb: ∀t∈(qR.take (n*z1)++qR.drop ((n+1)*z1)),∀k,t.own k→k<w.heap.size∧(some b)≠some k:=by
     intro t ht k hk;refine⟨(ha.own 0 0 k (hX t (mem t ht) k hk)).1,fun e=> ?_⟩
     cases e
     exact(o1.sub t (mem t ht) _ hk).2 _ hA1 rfl
    have hdj:((qR.take (n*z1)++qR.drop ((n+1)*z1))).Pairwise I8.apart:=by
     have hd1:=o1.sO;refine hd1.sublist ?_;have:qR=qR.take (n*z1)++qR.drop (n*z1):=(MN _ _).symm
     conv=>rhs;rw[this]
     refine List.Sublist.append (List.Sublist.refl _) ?_;rw[e4,←List.drop_drop];exact List.drop_sublist _ _
    obtain⟨b',A,c,hb1,hb2,o⟩:=hp.opened (rows:=rows.take n++rows.drop (n+1)) (by simp only[cM,fu,jd,gn];omega) o1.z0 zp htc (fun t ht=>o1.ok t (mem t ht)) hsb hdj;exact ajD hp.frm (fun k hk=>⟨0,0,by cases hk;exact hS1⟩) hb1 hb2 (fun i j k h=>(ha.own i j k h).1) (fun t ht k hk=>⟨0,0,hX t (mem t ht) k hk⟩) o ⟨rfl,rfl⟩
  ·cases h
 ·cases h
end Go.T
