/- slices. -/
import Derived.Test.YtiinnfilgnhjfaaGreatT3
import Derived.Test.YtiinnfilgnhjfaaGreatT5
set_option linter.unusedVariables false
set_option linter.unusedSimpArgs false
namespace Go.T
structure Vs (w w':World) (z m:Nat) (old:Option Nat) (L:List Value) (v:Value):Prop where
 val: ∃b off c sp,v= .slice (some ⟨b,off,none⟩) m c∧m≤c∧c≤maxLen∧b<w'.heap.size∧(old=some b∨w.heap.size≤b)∧abY w' b off (L++sp)∧(L++sp).length=c*z∧anF w' b off (c*z)∧(∀i,w'.frozen? ⟨b,i,none⟩=false)
 frm:Ns (fun k=>old=some k) w w'
theorem Ns.rfl' {F:Nat→Prop} (w:World):Ns F w w:=⟨rfl,rfl,rfl,cV _,fun _ _ _=>rfl⟩
structure akx (P:Program) (f:FuncId) (TE:TypeId) (BY z:Nat) (zero:Value):Prop where
 z1:1<z
 zs:zero.cells.size=z
 WJ: ∀(b off n c vb voff vc:Nat) (vs:List Value) (w:World),n+1≤c→c≤9223372036854775807→vs.length=z→(∀j,j<z→(w.cell? ⟨b,off+n*z+j,none⟩).isSome=true)→(∀j,j<z→w.frozen? ⟨b,off+n*z+j,none⟩=false)→
  (∀j v,vs[j]?=some v→w.cell? ⟨vb,voff+j,none⟩=some v)→(∀v∈vs,v.oneCell'=true)→
  Calls P f #[.slice (some ⟨b,off,none⟩) n c,.int .i64 n,.slice (some ⟨vb,voff,none⟩) 1 vc] w fun e w'=>
   e= .returned (.slice (some ⟨b,off,none⟩) (n+1) c)∧w'=w.setCells b (off+n*z) vs
 WK: ∀(base:Option Addr) (n c vb voff vc:Nat) (cs vs:List Value) (w:World),n≤c→c<n+1→(n+1)*BY≤140737488355328→cs.length=n*z→vs.length=z→(base=none→n=0)→
  (∀a,base=some a→ ∀j v,cs[j]?=some v→w.cell? (a.add j)=some v)→(∀j v,vs[j]?=some v→w.cell? ⟨vb,voff+j,none⟩=some v)→(∀v∈vs,v.oneCell'=true)→
  Calls P f #[.slice base n c,.int .i64 n,.slice (some ⟨vb,voff,none⟩) 1 vc] w fun e w'=>
   e= .returned (.slice (some ⟨w.heap.size,0,none⟩) (n+1) (grownCap w (n+1) c TE))∧
   w'=w.drew.alloc (.cells ((cs++vs).toArray++Builtin.zeroCells zero.cells (grownCap w (n+1) c TE-(n+1))) TE)
 shift: ∀(b off n c i vb voff vc:Nat) (cs vs:List Value) (w:World),i<n→n+1≤c→c≤9223372036854775807→vb≠b→cs.length=n*z→vs.length=z→
  (∀j v,cs[j]?=some v→w.cell? ⟨b,off+j,none⟩=some v)→(∀j,j<(n+1)*z→(w.cell? ⟨b,off+j,none⟩).isSome=true)→(∀j,j<(n+1)*z→w.frozen? ⟨b,off+j,none⟩=false)→
  (∀j v,vs[j]?=some v→w.cell? ⟨vb,voff+j,none⟩=some v)→(∀v∈cs,v.oneCell'=true)→(∀v∈vs,v.oneCell'=true)→
  ∀(tA tB:TypeId) (kA kB:Nat),w.shape? vb=some (tA,kA)→w.shape? b=some (tB,kB)→kB≠0→w.frozen? ⟨vb,voff,none⟩=false→w.frozen? ⟨vb,kA,none⟩=false→
  Calls P f #[.slice (some ⟨b,off,none⟩) n c,.int .i64 i,.slice (some ⟨vb,voff,none⟩) 1 vc] w fun e w'=>
   e= .returned (.slice (some ⟨b,off,none⟩) (n+1) c)∧w'=(w.drew.setCells b (off+(i+1)*z) (cs.drop (i*z))).setCells b (off+i*z) vs
 grow: ∀(b off n c i vb voff vc:Nat) (cs vs:List Value) (w:World),i<n→n≤c→c<n+1→(n+1)*BY≤140737488355328→cs.length=n*z→vs.length=z→
  (∀j v,cs[j]?=some v→w.cell? ⟨b,off+j,none⟩=some v)→(∀j v,vs[j]?=some v→w.cell? ⟨vb,voff+j,none⟩=some v)→(∀v∈cs,v.oneCell'=true)→(∀v∈vs,v.oneCell'=true)→
  Calls P f #[.slice (some ⟨b,off,none⟩) n c,.int .i64 i,.slice (some ⟨vb,voff,none⟩) 1 vc] w fun e w'=>
   e= .returned (.slice (some ⟨w.heap.size,0,none⟩) (n+1) (grownCap w (n+1) c TE))∧
   w'=(((w.alloc (.cells ((cs.take (i*z)).toArray++Builtin.zeroCells zero.cells (n+1-i)++Builtin.zeroCells zero.cells (grownCap w (n+1) c TE-(n+1))) TE)).drew.setCells w.heap.size (i*z) vs).drew).setCells w.heap.size ((i+1)*z) (cs.drop (i*z))
variable {w : World} {S1 S2 : Nat → Prop} {z : Nat} {rows : List (List TC)} {x : List TC} {v1 v2 : Value} {A1 A2 : Option Addr} {c1 c2 : Nat} {qM Vd : List Jr}
theorem vK.len (o:vK w S1 z rows v1 A1 c1 qM):qM.length=rows.length*z:=by
 have:=congrArg List.length o.tcs;rw[dz o.width,bX] at this;exact this.symm
theorem vK.one (o:vK w S1 z rows v1 A1 c1 qM): ∀v∈qM.map (·.val),v.oneCell'=true:=fun v hv=>by
 obtain⟨t,ht,rfl⟩:=List.mem_map.1 hv;exact vJ (o.ok t ht)
theorem iT {b o:Nat} {us:List Value} {W:World} {x:Addr}:(W.setCells b o us).frozen? x=W.frozen? x:=World.frozen?_setCells b us o W x
theorem xW {b o:Nat} {us:List Value} {W:World}:(W.setCells b o us).heap.size=W.heap.size:=(oy b us o W).2.2.2
theorem akx.post {P:Program} {f:FuncId} {TE:TypeId} {BY:Nat} {zero:Value} (I:akx P f TE BY z zero) (o1:vK w S1 z rows v1 A1 c1 qM) (o2:vK w S2 z [x] v2 A2 c2 Vd) (hap: ∀k,S1 k→ ¬S2 k)
 (i:Nat) (hi:i≤rows.length) (hf1:(rows.length+1)*BY≤140737488355328) (hf2:rows.length+1≤140737488355328):
 Calls P f #[v1,.int .i64 i,v2] w fun e w'=> ∃v,e= .returned v∧Vs w w' z (rows.length+1) (A1.map (·.block)) ((qM.map (·.val)).take (i*z)++Vd.map (·.val)++(qM.map (·.val)).drop (i*z)) v:=by
 have hz:=I.z1;obtain⟨n,hn⟩: ∃n,n=rows.length:=⟨_,rfl⟩;have l1:=o1.len;have l2:=o2.len;have h11:=o1.one;have h12:=o2.one;have hv1:=o1.val;have hv2:=o2.val;rw[←hn] at l1 hi hf1 hf2 hv1 ⊢;simp only[fW,List.length_nil,nr,Nat.one_mul] at l2 hv2;have hle:=o1.le;have hcm:=o1.cap;rw[←hn] at hle;obtain⟨cs,hcs⟩: ∃cs,cs=qM.map (·.val):=⟨_,rfl⟩;obtain⟨vs,hvs⟩: ∃vs,vs=Vd.map (·.val):=⟨_,rfl⟩;rw[←hcs] at h11;rw[←hvs] at h12
 have lc:cs.length=n*z:=by rw[hcs,bX,l1]
 have lv:vs.length=z:=by rw[hvs,bX,l2]
 rw[←hcs,←hvs]
 cases hA2:A2 with
 |none=>
  have h1:=o2.none hA2;have h2:=o2.le;simp only[fW,List.length_nil] at h2;omega
 |some a2=>
 obtain⟨Ll,hs2,⟨sp2,Yj,arh⟩,asN,apM⟩:=o2.row a2 hA2;obtain⟨vb,voff,vspot⟩:=a2
 cases hs2
 simp only at Yj arh asN apM Ll;rw[←hvs] at Yj arh;have hvr: ∀j v,vs[j]?=some v→w.cell? ⟨vb,voff+j,none⟩=some v:=fun j v hj=>Yj j v (by rw[nj (List.getElem?_eq_some_iff.1 hj).1];exact hj);rw[hA2] at hv2
 have arj:c1≤9223372036854775807:=by simp only[maxLen] at hcm;omega
 have hzc: ∀k,(Builtin.zeroCells zero.cells k).size=k*z:=fun k=>by rw[size_zeroCells,I.zs]
 have hge:=grownCap_ge w (n+1) c1 TE;have hgm:=grownCap_le_maxLen w (n+1) c1 TE (by simp only[maxLen];omega);obtain⟨G,hG⟩: ∃G,G=grownCap w (n+1) c1 TE:=⟨_,rfl⟩;rw[←hG] at hge hgm;have eG:=qo z hge;rw[uK,Nat.one_mul] at eG
 have eZ:(G-(n+1))*z=G*z-(n*z+z):=by rw[Nat.sub_mul,uK,Nat.one_mul]
 by_cases hin:i=n
 ·
  subst hin
  have et:cs.take (i*z)++vs++cs.drop (i*z)=cs++vs:=by
   rw[Nl ay,Lm ay,qm]
  rw[et]
  by_cases hroom:i+1≤c1
  ·cases hA1:A1 with
   |none=>have:=o1.none hA1;omega
   |some a1=>
    obtain⟨hS1,Vw,⟨sp1,I5,KL⟩,Ve,ac8⟩:=o1.row a1 hA1;obtain⟨b,off,spot⟩:=a1
    cases Vw
    simp only at I5 KL Ve ac8 hS1;rw[←hcs] at I5 KL;rw[hA1] at hv1;have em:=qo z hroom;rw[uK,Nat.one_mul] at em
    have hcell: ∀j,j<c1*z→(w.cell? ⟨b,off+j,none⟩).isSome=true:=fun j hj=>by rw[I5 j _ (ck ay)];rfl
    rw[hv1,hv2];refine(I.WJ b off i c1 vb voff c2 vs w hroom arj lv (fun j hj=>by rw[nq];exact hcell _ ay) (fun j hj=>by rw[nq];exact Ve _ ay) hvr h12).mono ?_;rintro e w' ⟨rfl,rfl⟩;refine⟨_,rfl,⟨b,off,c1,(cs++sp1).drop (i*z+z),rfl,hroom,hcm,?_,.inl rfl,?_,?_,?_,?_⟩,?_⟩
    ·rw[xW]
     have:=Nu (I5 0 _ (ck ay));exact this
    ·have:=I5.put (p:=i*z) (us:=vs) ay
     rw[RU ay,Nl ay,lv] at this;exact this
    ·rw[cF,cF,iR,lc,lv,KL];omega
    ·intro j hj;rw[iT];exact Ve j hj
    ·intro j;rw[iT];exact ac8 hz j
    ·exact(Ns.rfl' w).setCells (.inr rfl)
  ·have hb:A1=none→i=0:=fun h=>by have:=o1.none h;omega
   rw[hv1,hv2];refine(I.WK A1 i c1 vb voff c2 cs vs w hle ay hf1 lc lv hb (fun a ha j v hj=> ?_) hvr h12).mono ?_
   ·obtain⟨hS1,Vw,⟨sp1,I5,KL⟩,Ve,ac8⟩:=o1.row a ha
    obtain⟨b,off,spot⟩:=a
    cases Vw
    rw[Addr.add_lit];exact I5 j v (by rw[←hcs,nj (List.getElem?_eq_some_iff.1 hj).1];exact hj)
   ·rintro e w' ⟨rfl,rfl⟩
    rw[←hG];obtain⟨ROW,Yf⟩: ∃ROW,ROW=(cs++vs).toArray++Builtin.zeroCells zero.cells (G-(i+1)):=⟨_,rfl⟩
    have hl:ROW.size=G*z:=by
     rw[Yf,Array.size_append,hzc,List.size_toArray,cF,lc,lv];omega
    have hL:ROW.toList=(cs++vs)++(Builtin.zeroCells zero.cells (G-(i+1))).toList:=by rw[Yf];simp
    rw[←Yf];refine⟨_,rfl,⟨w.heap.size,0,G,(Builtin.zeroCells zero.cells (G-(i+1))).toList,rfl,hge,hgm,?_,.inr (cV _),?_,?_,?_,?_⟩,?_⟩
    ·simp
    ·rw[←hL]
     intro k y hk;rw[nr];exact(wM w.drew ROW TE k).trans (by rw[←Vy];exact hk)
    ·rw[←hL,Ae,hl]
    ·intro j hj;exact nv w.drew ROW TE _
    ·intro j;exact nv w.drew ROW TE j
    ·exact((Ns.rfl' w).Nt (pP.drew w)).Nt (pP.alloc _ _)
 ·have hlt:i<n:=by omega
  have ei:=qo z hlt;rw[BA] at ei;have e1:(i+1)*z=i*z+z:=BA _ _
  cases hA1:A1 with
  |none=>have:=o1.none hA1;omega
  |some a1=>
  obtain⟨hS1,Vw,⟨sp1,I5,KL⟩,Ve,ac8⟩:=o1.row a1 hA1;obtain⟨b,off,spot⟩:=a1
  cases Vw
  simp only at I5 KL Ve ac8 hS1;rw[←hcs] at I5 KL;rw[hA1] at hv1;have Yl: ∀j v,cs[j]?=some v→w.cell? ⟨b,off+j,none⟩=some v:=fun j v hj=>I5 j v (by rw[nj (List.getElem?_eq_some_iff.1 hj).1];exact hj)
  have hcell: ∀j,j<c1*z→(w.cell? ⟨b,off+j,none⟩).isSome=true:=fun j hj=>by rw[I5 j _ (ck ay)];rfl
  have ld:(cs.drop (i*z)).length=n*z-i*z:=by rw[iR,lc]
  rw[hv1,hv2]
  by_cases hroom:n+1≤c1
  ·have em:=qo z hroom
   have e2:(n+1)*z=n*z+z:=BA _ _;have hne:vb≠b:=fun e=>hap b hS1 (by rw[←e];exact Ll);obtain⟨tA,kA,hsa,_⟩:=adP (hvr 0 _ (ck ay));obtain⟨tB,kB,hsb,hkB⟩:=adP (Yl 0 _ (ck ay));refine(I.shift b off n c1 i vb voff c2 cs vs w hlt hroom arj hne lc lv Yl (fun j hj=>hcell j ay) (fun j hj=>Ve j ay) hvr h11 h12 tA tB kA kB hsa hsb hkB (apM hz _) (apM hz _)).mono ?_;rintro e w' ⟨rfl,rfl⟩;have r0:abY w.drew b off (cs++sp1):=I5
   have r1:=r0.put (p:=(i+1)*z) (us:=cs.drop (i*z)) (by rw[e1,ld];omega);have r2:=r1.put (p:=i*z) (us:=vs) (by simp only[cF,eO,iR] at KL ⊢;omega);refine⟨_,rfl,⟨b,off,c1,(cs++sp1).drop ((i+1)*z+(cs.drop (i*z)).length),rfl,hroom,hcm,?_,.inl rfl,?_,?_,?_,?_⟩,?_⟩
   ·rw[xW,xW]
    exact Nu (Yl 0 _ (ck ay))
   ·have q1:(((cs++sp1).take ((i+1)*z)++cs.drop (i*z))++(cs++sp1).drop ((i+1)*z+(cs.drop (i*z)).length)).take (i*z)=cs.take (i*z):=by
     rw[Af,RU (by rw[eO];omega),List.take_take,Nat.min_eq_left ay,RU ay]
    have q2:(((cs++sp1).take ((i+1)*z)++cs.drop (i*z))++(cs++sp1).drop ((i+1)*z+(cs.drop (i*z)).length)).drop (i*z+vs.length)=cs.drop (i*z)++(cs++sp1).drop ((i+1)*z+(cs.drop (i*z)).length):=by
     rw[Af,List.drop_append_of_le_length (by rw[eO];omega),Lm (by rw[eO];omega),xB]
    rw[q1,q2,←Af] at r2;exact r2
   ·simp only[cF,eO,iR,lc,lv] at KL ⊢;omega
   ·intro j hj;rw[iT,iT];exact Ve j hj
   ·intro j;rw[iT,iT];exact ac8 hz j
   ·have f0:Ns (fun k=>Option.map (fun x:Addr=>x.block) (some ⟨b,off,none⟩)=some k) w w.drew:=(Ns.rfl' w).Nt (pP.drew w)
    exact(f0.setCells (b:=b) (.inr rfl)).setCells (b:=b) (.inr rfl)
  ·refine(I.grow b off n c1 i vb voff c2 cs vs w hlt hle ay hf1 lc lv Yl hvr h11 h12).mono ?_
   rintro e w' ⟨rfl,rfl⟩;rw[←hG];obtain⟨ROW,Yf⟩: ∃ROW,ROW=(cs.take (i*z)).toArray++Builtin.zeroCells zero.cells (n+1-i)++Builtin.zeroCells zero.cells (G-(n+1)):=⟨_,rfl⟩
   have eW:(n+1-i)*z=n*z+z-i*z:=by rw[Nat.sub_mul,uK,Nat.one_mul]
   have hl:ROW.size=G*z:=by
    rw[Yf,Array.size_append,Array.size_append,hzc,hzc,List.size_toArray,eO,lc];omega
   obtain⟨ZZ,hZZ⟩: ∃ZZ,ZZ=(Builtin.zeroCells zero.cells (n+1-i)).toList++(Builtin.zeroCells zero.cells (G-(n+1))).toList:=⟨_,rfl⟩
   have hL:ROW.toList=cs.take (i*z)++ZZ:=by rw[Yf,hZZ];simp
   have lZ:ZZ.length=G*z-i*z:=by
    have:=congrArg List.length hL;rw[Ae,hl,cF,eO,lc] at this;omega
   rw[←Yf]
   have r0:abY ((w.alloc (.cells ROW TE)).drew) w.heap.size 0 (cs.take (i*z)++ZZ):=fun k y hk=>by
    rw[nr];rw[←hL] at hk;exact(wM w ROW TE k).trans (by rw[←Vy];exact hk)
   have r1:=r0.put (p:=i*z) (us:=vs) (by rw[cF,eO,lZ];omega);have r1':abY (((w.alloc (.cells ROW TE)).drew.setCells w.heap.size (0+i*z) vs).drew) w.heap.size 0 _:=r1;have r2:=r1'.put (p:=(i+1)*z) (us:=cs.drop (i*z)) (by simp only[cF,eO,iR];omega);rw[nr,nr] at r2;refine⟨_,rfl,⟨w.heap.size,0,G,(cs.take (i*z)++ZZ).drop ((i+1)*z+(cs.drop (i*z)).length),rfl,hge,hgm,?_,.inr (cV _),?_,?_,?_,?_⟩,?_⟩
   ·rw[xW]
    show w.heap.size<(World.setCells _ _ _ _).heap.size;rw[xW];show w.heap.size<(w.alloc _).heap.size;simp
   ·have q1:(((cs.take (i*z)++ZZ).take (i*z)++vs)++(cs.take (i*z)++ZZ).drop (i*z+vs.length)).take ((i+1)*z)=cs.take (i*z)++vs:=by
     rw[RU (by simp only[cF,eO];omega),Nl (by simp only[cF,eO];omega)]
     congr 1
     rw[RU (by rw[eO];omega),List.take_take,Nat.min_self]
    have q2:(((cs.take (i*z)++ZZ).take (i*z)++vs)++(cs.take (i*z)++ZZ).drop (i*z+vs.length)).drop ((i+1)*z+(cs.drop (i*z)).length)=(cs.take (i*z)++ZZ).drop ((i+1)*z+(cs.drop (i*z)).length):=by
     rw[List.drop_append,Lm (by simp only[cF,eO];omega),xB,List.drop_drop]
     congr 1
     simp only[cF,eO];omega
    rw[q1,q2] at r2;exact r2
   ·simp only[cF,eO,iR,lc,lv,lZ];omega
   ·intro j hj
    rw[iT];show(World.setCells _ _ _ _).frozen? _=false;rw[iT];exact nv w ROW TE _
   ·intro j
    rw[iT];show(World.setCells _ _ _ _).frozen? _=false;rw[iT];exact nv w ROW TE j
   ·have f0:Ns (fun k=>Option.map (fun x:Addr=>x.block) (some ⟨b,off,none⟩)=some k) w ((w.alloc (.cells ROW TE)).drew):=((Ns.rfl' w).Nt (pP.alloc _ _)).Nt (pP.drew _)
    have f1:=f0.setCells (b:=w.heap.size) (o:=i*z) (vs:=vs) (.inl (cV _));have f2:=f1.Nt (pP.drew _);exact f2.setCells (.inl (cV _))
end Go.T
namespace Go.T
theorem P1 {z:Nat}: ∀{rows:List (List TC)},(∀r∈rows,r.length=z)→ ∀i,(rows.take i).flatten=rows.flatten.take (i*z)
 |[],_,i=>by simp
 |r::rs,hw,0=>by simp
 |r::rs,hw,i+1=>by
  have hr:=hw r (.head _);rw[List.take_succ_cons,Ag,Ag,P1 (fun r hr=>hw r (.tail _ hr)) i,BA,List.take_append,hr];rw[Nl (by omega:r.length≤i*z+z),show i*z+z-z=i*z by omega]
theorem P2 {z:Nat}: ∀{rows:List (List TC)},(∀r∈rows,r.length=z)→ ∀i,(rows.drop i).flatten=rows.flatten.drop (i*z)
 |[],_,i=>by simp
 |r::rs,hw,0=>by simp
 |r::rs,hw,i+1=>by
  have hr:=hw r (.head _);rw[List.drop_succ_cons,Ag,P2 (fun r hr=>hw r (.tail _ hr)) i,BA,List.drop_append,hr];rw[Lm (by omega:r.length≤i*z+z),xB,show i*z+z-z=i*z by omega]
theorem Ns.mono {F F':Nat→Prop} {w w':World} (h:Ns F w w') (hF: ∀k,F k→F' k):Ns F' w w':=
 ⟨h.os,h.tape,h.output,h.size,fun k hk hn=>h.block k hk fun hf=>hn (hF k hf)⟩
theorem Vs.opened {w w':World} {z m:Nat} {old:Option Nat} {eD:List Jr} {v:Value} (h:Vs w w' z m old (eD.map (·.val)) v) {rows:List (List TC)} (hl:rows.length=m) (hz:0<z) (hw: ∀r∈rows,r.length=z) (ht:rows.flatten=eD.map (·.tc))
 (hok: ∀t∈eD,t.ok w) (hsub: ∀t∈eD,∀k,t.own k→k<w.heap.size∧old≠some k) (hd:eD.Pairwise Jr.apart):
 ∃b A c,(old=some b∨w.heap.size≤b)∧b<w'.heap.size∧vK w' (fun k=>k=b∨ ∃t∈eD,t.own k) z rows v A c eD:=by
 obtain⟨b,off,c,sp,h1,h2,h3,h4,h5,h6,h7,h8,h9⟩:=h.val;refine⟨b,_,c,h5,h4,⟨by rw[h1,hl],by omega,h3,hz,hw,ht,fun t hm=> ?_,hd,fun t hm k hk=>⟨.inr ⟨t,hm,hk⟩,fun ad e=> ?_⟩,fun e=>(by cases e),fun ad e=> ?_⟩⟩
 ·refine(hok t hm).move (fun k hk=>hk.elim) fun _ k hk=> ?_
  exact h.frm.block k (hsub t hm k hk).1 (hsub t hm k hk).2
 ·cases e
  rintro rfl;rcases h5 with e|e
  ·exact(hsub t hm _ hk).2 e
  ·have:=(hsub t hm _ hk).1;omega
 ·cases e
  exact⟨.inl rfl,rfl,⟨sp,h6,h7⟩,h8,fun _ i=>h9 i⟩
theorem aky {w w':World} {X:Nat→Nat→Nat→Prop} {Y:Nat→Nat→Prop} {Rg BB:Nat→Prop} {z:Nat} {bH:List (List TC)} {v:Value} {A:Option Addr} {c b:Nat} {eD:List Jr} {old:Option Nat} {ps:List ct} {xs:List Value} {sh:Bool}
 (hF:Ns (fun k=>old=some k) w w') (hold: ∀k,old=some k→ ∃i j,X i j k) (hb:old=some b∨w.heap.size≤b) (hb2:b<w'.heap.size) (hX: ∀i j k,X i j k→k<w.heap.size) (ark: ∀t∈eD,∀k,t.own k→ ∃i j,X i j k)
 (o:vK w' (fun k=>k=b∨ ∃t∈eD,t.own k) z bH v A c eD) (asP:BM w' (fun k=> ¬False∧ ∀i,i<1→ ¬(i=0∧(k=b∨ ∃t∈eD,t.own k))) ps xs [] []):
 RX (yx X Y) (Ls true Rg BB) w w' ⟨ps,sh,[[.deep]]⟩ xs (.c (.sub z bH)) [] v:=by
 have hv:=o.val;refine⟨hF.mono fun k hk=> .inl (hold k hk),fun _=>False,fun n k=>n=0∧(k=b∨ ∃t∈eD,t.own k),[(.deep,.sub z bH,v)],[],⟨?_,?_,?_,fun k hk=>hk.elim⟩,?_,asP⟩
 ·intro i it hi
  cases i with
  |zero=>
   simp only[qm,gE,aY] at hi;subst hi;exact(o.rep (R:=fun _=>False)).mono fun k hk=>⟨rfl,hk⟩
  |succ i=>simp at hi
 ·rintro i k hi ⟨rfl,hk⟩
  refine⟨?_,?_,id⟩
  ·rcases hk with rfl|⟨t,ht,hk⟩
   ·exact hb2
   ·obtain⟨i,j,h⟩:=ark t ht k hk
    exact lY (hX i j k h) hF.size
  ·rcases hk with rfl|⟨t,ht,hk⟩
   ·exact hb.elim (fun h=> .inr (.inl (hold _ h))) .inl
   ·exact .inr (.inl (ark t ht k hk))
 ·rintro i j k hi hj ⟨rfl,_⟩ ⟨rfl,_⟩;rfl
 ·subst hv
  exact⟨⟨D4 _,rfl,fun h=>(by cases h),fun _=>rfl⟩,rfl⟩
def akz (z BY:Nat):List TV→Option (TV×List TV)
 |[.c (.sub z1 rows),.c (.sc (.int .i64 i)),.c (.sub z2 [x])]=>
  if z1=z∧z2=z∧0≤i∧i≤(rows.length:Int)∧fits (rows.length+1) BY=true then some (.c (.sub z (rows.take i.toNat++x::rows.drop i.toNat)),[]) else none
 |_=>none
theorem aqs {n b:Nat} (h:fits n b=true):n*b≤140737488355328∧n≤140737488355328:=by
 unfold fits at h;exact yp h
theorem akx.call {C:pO} {f:FuncId} {TE:TypeId} {BY z:Nat} {zero:Value} (I:akx C.P f TE BY z zero) (hb: ∃fn c,C.P.funcs[f]?=some fn∧fn.body=some c) {sh:Bool} (hs:C.sig f=⟨[.consume,.borrow,.consume],sh,[[.deep]]⟩)
 {vs:List TV} {r:TV} {fs:List TV} (h:akz z BY vs=some (r,fs)):PF C f vs r fs:=by
 unfold akz at h
 split at h
 ·rename_i z1 rows i z2 x
  split at h
  ·rename_i hc
   obtain⟨rfl,rfl,h0,hi,hf⟩:=hc;simp only[aY,BC] at h;obtain⟨rfl,rfl⟩:=h;obtain⟨hf1,hf2⟩:=aqs hf;obtain⟨n,rfl⟩:=Int.eq_ofNat_of_zero_le h0
   have hn:n≤rows.length:=by omega
   rw[show(n:Int).toNat=n from rfl];refine⟨hb,fun w xs Rg BB X Y ha hl=> ?_⟩;rw[hs] at ha hl ⊢;obtain⟨x0,e0,a0⟩:=ha.each 0 _ rfl;obtain⟨x1,e1,a1⟩:=ha.each 1 _ rfl;obtain⟨x2,e2,a2⟩:=ha.each 2 _ rfl
   match xs,hl,e0,e1,e2 with
   |[y0,y1,y2],_,e0,e1,e2=>
    cases e0;cases e1;cases e2
    have a0:aB w Rg .deep (X 0 0) (.sub z2 rows) x0:=a0;have a1:aB w Rg .snap (X 1 0) (.sc (.int .i64 n)) x1:=a1;have a2:aB w Rg .deep (X 2 0) (.sub z2 [x]) x2:=a2;obtain⟨A1,c1,qM,o1⟩:=a0.opened;obtain⟨A2,c2,Vd,o2⟩:=a2.opened
    cases a1
    have hap: ∀k,X 0 0 k→ ¬X 2 0 k:=fun k h1 h2=>by have:=(ha.own 0 0 k h1).2.2.2.2 2 0 h2;omega
    refine(I.post o1 o2 hap n hn hf1 hf2).mono ?_;rintro e w' ⟨v,rfl,hp⟩;refine⟨v,rfl,?_⟩;have l1:=o1.len;have l2:=o2.len
    have hold: ∀k,A1.map (fun a=>a.block)=some k→X 0 0 k:=fun k hk=>by
     cases hA:A1 with
     |none=>rw[hA] at hk;cases hk
     |some ad=>rw[hA] at hk;cases hk;exact(o1.row ad hA).1
    rw[←I8,←D3,←uv,←uv] at hp
    have mem: ∀t,t∈qM.take (n*z2)++Vd++qM.drop (n*z2)→(t∈qM∧ ∀k,t.own k→X 0 0 k)∨(t∈Vd∧ ∀k,t.own k→X 2 0 k):=fun t ht=>by
     rcases List.mem_append.1 ht with ht|ht
     ·rcases List.mem_append.1 ht with ht|ht
      ·exact .inl ⟨Ah ht,fun k hk=>(o1.sub t (Ah ht) k hk).1⟩
      ·exact .inr ⟨ht,fun k hk=>(o2.sub t ht k hk).1⟩
     ·exact .inl ⟨zm ht,fun k hk=>(o1.sub t (zm ht) k hk).1⟩
    have zz: ∀r∈(rows.take n++x::rows.drop n),r.length=z2:=by
     intro r hr;rcases List.mem_append.1 hr with hr|hr
     ·exact o1.width r (Ah hr)
     ·rcases fX.1 hr with rfl|hr
      ·exact o2.width _ (.head _)
      ·exact o1.width r (zm hr)
    have htc:((rows.take n++x::rows.drop n)).flatten=((qM.take (n*z2)++Vd++qM.drop (n*z2))).map (·.tc):=by
     have hx:x=Vd.map (·.tc):=by have:=o2.tcs;simpa using this
     rw[aaA,Ag,P1 o1.width,P2 o1.width,o1.tcs,hx,←I8,←D3,←uv,←uv,Af]
    have hok: ∀t∈(qM.take (n*z2)++Vd++qM.drop (n*z2)),t.ok w:=by
     intro t ht;exact(mem t ht).elim (fun h=>o1.ok t h.1) fun h=>o2.ok t h.1
    have hsb: ∀t∈(qM.take (n*z2)++Vd++qM.drop (n*z2)),∀k,t.own k→k<w.heap.size∧(A1.map (fun a=>a.block))≠some k:=by
     intro t ht k hk;rcases mem t ht with h|h
     ·refine⟨(ha.own 0 0 k (h.2 k hk)).1,fun e=> ?_⟩
      cases hA:A1 with
      |none=>rw[hA] at e;cases e
      |some ad=>rw[hA] at e;cases e;exact(o1.sub t h.1 _ hk).2 ad hA rfl
     ·exact⟨(ha.own 2 0 k (h.2 k hk)).1,fun e=>hap k (hold k e) (h.2 k hk)⟩
    have hdj:((qM.take (n*z2)++Vd++qM.drop (n*z2))).Pairwise Jr.apart:=by
     have hd1:=o1.sH;rw[←Nk (n*z2) qM] at hd1;obtain⟨p1,p2,p3⟩:=List.pairwise_append.1 hd1;have cr: ∀a∈qM,∀b∈Vd,Jr.apart a b:=fun a ha b hb k h1 h2=>hap k (o1.sub a ha k h1).1 (o2.sub b hb k h2).1;refine List.pairwise_append.2 ⟨List.pairwise_append.2 ⟨p1,o2.sH,fun a ha b hb=>cr a (Ah ha) b hb⟩,p2,fun a ha b hb=> ?_⟩;rcases List.mem_append.1 ha with ha|ha
     ·exact p3 a ha b hb
     ·exact Jr.afM (cr b (zm hb) a ha)
    obtain⟨b,A,c,hb1,hb2,o⟩:=hp.opened (rows:=rows.take n++x::rows.drop n) (by simp only[cF,eO,iR,fW];omega) o1.z0 zz htc hok hsb hdj;exact aky hp.frm (fun k hk=>⟨0,0,hold k hk⟩) hb1 hb2 (fun i j k h=>(ha.own i j k h).1) (fun t ht k hk=>(mem t ht).elim (fun h=>⟨0,0,h.2 k hk⟩) fun h=>⟨2,0,h.2 k hk⟩) o ⟨rfl,rfl⟩
  ·cases h
 ·cases h
structure aoL (P:Program) (f:FuncId) (z:Nat) (zs:List Value):Prop where
 z1:1<z
 zl:zs.length=z
 walk: ∀(b off n c i j:Nat) (cs:List Value) (w:World),i<n→j=i+1→n≤c→c≤9223372036854775807→cs.length=n*z→
  (∀j v,cs[j]?=some v→w.cell? ⟨b,off+j,none⟩=some v)→(∀j,j<n*z→w.frozen? ⟨b,off+j,none⟩=false)→(∀v∈cs,v.oneCell'=true)→
  Calls P f #[.slice (some ⟨b,off,none⟩) n c,.int .i64 i,.int .i64 j] w fun e w'=>
   e= .returned (.slice (some ⟨b,off,none⟩) (n-1) c)∧w'=(w.drew.setCells b (off+i*z) (cs.drop (j*z))).setCells b (off+(n-1)*z) zs
def akA (z:Nat):List TV→Option (TV×List TV)
 |[.c (.sub z1 rows),.c (.sc (.int .i64 i)),.c (.sc (.int .i64 j))]=>
  if z1=z∧0≤i∧i<(rows.length:Int)∧j=i+1 then some (.c (.sub z (rows.take i.toNat++rows.drop j.toNat)),[]) else none
 |_=>none
theorem aoL.aqt {C:pO} {f:FuncId} {z:Nat} {zs:List Value} (I:aoL C.P f z zs) (hb: ∃fn c,C.P.funcs[f]?=some fn∧fn.body=some c) {sh:Bool} (hs:C.sig f=⟨[.consume,.borrow,.borrow],sh,[[.deep]]⟩)
 {vs:List TV} {r:TV} {fs:List TV} (h:akA z vs=some (r,fs)):PF C f vs r fs:=by
 unfold akA at h
 split at h
 ·rename_i z1 rows i j
  split at h
  ·rename_i hc
   obtain⟨rfl,h0,hi,rfl⟩:=hc;simp only[aY,BC] at h;obtain⟨rfl,rfl⟩:=h;obtain⟨n,rfl⟩:=Int.eq_ofNat_of_zero_le h0
   have hn:n<rows.length:=by omega
   rw[show(n:Int).toNat=n from rfl,show((n:Int)+1).toNat=n+1 from rfl];refine⟨hb,fun w xs Rg BB X Y ha hl=> ?_⟩;rw[hs] at ha hl ⊢;obtain⟨x0,e0,a0⟩:=ha.each 0 _ rfl;obtain⟨x1,e1,a1⟩:=ha.each 1 _ rfl;obtain⟨x2,e2,a2⟩:=ha.each 2 _ rfl
   match xs,hl,e0,e1,e2 with
   |[y0,y1,y2],_,e0,e1,e2=>
    cases e0;cases e1;cases e2
    have a0:aB w Rg .deep (X 0 0) (.sub z1 rows) x0:=a0;have a1:aB w Rg .snap (X 1 0) (.sc (.int .i64 n)) x1:=a1;have a2:aB w Rg .snap (X 2 0) (.sc (.int .i64 ((n:Int)+1))) x2:=a2;obtain⟨A1,c1,qM,o1⟩:=a0.opened
    cases a1
    cases a2
    have l1:=o1.len;have hle:=o1.le;have hcm:=o1.cap;have hv1:=o1.val;have hz:=I.z1
    cases hA1:A1 with
    |none=>have:=o1.none hA1;omega
    |some a1=>
    obtain⟨hS1,Vw,⟨sp1,I5,KL⟩,Ve,ac8⟩:=o1.row a1 hA1;obtain⟨b,off,spot⟩:=a1
    cases Vw
    simp only at I5 KL Ve ac8 hS1;rw[hA1] at hv1;obtain⟨cs,hcs⟩: ∃cs,cs=qM.map (·.val):=⟨_,rfl⟩;rw[←hcs] at I5 KL
    have lc:cs.length=rows.length*z1:=by rw[hcs,bX,l1]
    have em:=qo z1 hle;have en:=qo z1 hn;rw[BA] at en
    have e3:(rows.length-1)*z1=rows.length*z1-z1:=by rw[Nat.sub_mul,Nat.one_mul]
    have e4:(n+1)*z1=n*z1+z1:=BA _ _;have Yl: ∀j v,cs[j]?=some v→w.cell? ⟨b,off+j,none⟩=some v:=fun j v hj=>I5 j v (by rw[nj (List.getElem?_eq_some_iff.1 hj).1];exact hj);rw[hv1];refine(I.walk b off rows.length c1 n (n+1) cs w hn rfl hle (by simp only[maxLen] at hcm;omega) lc Yl (fun j hj=>Ve j ay) (by rw[hcs];exact o1.one)).mono ?_;rintro e w' ⟨rfl,rfl⟩;refine⟨_,rfl,?_⟩;have r0:abY w.drew b off (cs++sp1):=I5
    have ld:(cs.drop ((n+1)*z1)).length=rows.length*z1-(n*z1+z1):=by rw[iR,lc,e4]
    have r1:=r0.put (p:=n*z1) (us:=cs.drop ((n+1)*z1)) (by rw[ld];omega);have r2:=r1.put (p:=(rows.length-1)*z1) (us:=zs) (by rw[I.zl];simp only[cF,eO,iR] at KL ⊢;omega)
    have hp:Vs w ((w.drew.setCells b (off+n*z1) (cs.drop ((n+1)*z1))).setCells b (off+(rows.length-1)*z1) zs) z1 (rows.length-1) (some b) ((qM.take (n*z1)++qM.drop ((n+1)*z1)).map (·.val)) (.slice (some ⟨b,off,none⟩) (rows.length-1) c1):=by
     rw[uv,I8,D3,←hcs];refine⟨⟨b,off,c1,zs++((cs++sp1).take (n*z1)++cs.drop ((n+1)*z1)++(cs++sp1).drop (n*z1+(cs.drop ((n+1)*z1)).length)).drop ((rows.length-1)*z1+zs.length),rfl,by omega,hcm,?_,.inl rfl,?_,?_,?_,?_⟩,?_⟩
     ·rw[xW,xW]
      exact Nu (Yl 0 _ (ck ay))
     ·have q1:((cs++sp1).take (n*z1)++cs.drop ((n+1)*z1)++(cs++sp1).drop (n*z1+(cs.drop ((n+1)*z1)).length)).take ((rows.length-1)*z1)=cs.take (n*z1)++cs.drop ((n+1)*z1):=by
       rw[RU (by simp only[cF,eO,ld];omega),Nl (by simp only[cF,eO,ld];omega)]
       congr 1
       rw[RU ay]
      rw[q1] at r2;rw[←Af];exact r2
     ·simp only[cF,eO,iR,lc,I.zl] at KL ⊢;omega
     ·intro j hj;rw[iT,iT];exact Ve j hj
     ·intro j;rw[iT,iT];exact ac8 hz j
     ·have f0:Ns (fun k=>some b=some k) w w.drew:=(Ns.rfl' w).Nt (pP.drew w)
      exact(f0.setCells (b:=b) (.inr rfl)).setCells (b:=b) (.inr rfl)
    have mem: ∀t,t∈qM.take (n*z1)++qM.drop ((n+1)*z1)→t∈qM:=fun t ht=>(List.mem_append.1 ht).elim Ah zm;have hX: ∀t∈qM,∀k,t.own k→X 0 0 k:=fun t ht k hk=>(o1.sub t ht k hk).1
    have zz: ∀r∈(rows.take n++rows.drop (n+1)),r.length=z1:=by
     intro r hr;rcases List.mem_append.1 hr with hr|hr
     ·exact o1.width r (Ah hr)
     ·exact o1.width r (zm hr)
    have htc:((rows.take n++rows.drop (n+1))).flatten=((qM.take (n*z1)++qM.drop ((n+1)*z1))).map (·.tc):=by
     rw[aaA,P1 o1.width,P2 o1.width,o1.tcs,←I8,←D3,←uv]
    have hsb: ∀t∈(qM.take (n*z1)++qM.drop ((n+1)*z1)),∀k,t.own k→k<w.heap.size∧(some b)≠some k:=by
     intro t ht k hk;refine⟨(ha.own 0 0 k (hX t (mem t ht) k hk)).1,fun e=> ?_⟩
     cases e
     exact(o1.sub t (mem t ht) _ hk).2 _ hA1 rfl
    have hdj:((qM.take (n*z1)++qM.drop ((n+1)*z1))).Pairwise Jr.apart:=by
     have hd1:=o1.sH;refine hd1.sublist ?_;have:qM=qM.take (n*z1)++qM.drop (n*z1):=(Nk _ _).symm
     conv=>rhs;rw[this]
     refine List.Sublist.append (List.Sublist.refl _) ?_;rw[e4,←List.drop_drop];exact List.drop_sublist _ _
    obtain⟨b',A,c,hb1,hb2,o⟩:=hp.opened (rows:=rows.take n++rows.drop (n+1)) (by simp only[cF,eO,iR,fW];omega) o1.z0 zz htc (fun t ht=>o1.ok t (mem t ht)) hsb hdj;exact aky hp.frm (fun k hk=>⟨0,0,by cases hk;exact hS1⟩) hb1 hb2 (fun i j k h=>(ha.own i j k h).1) (fun t ht k hk=>⟨0,0,hX t (mem t ht) k hk⟩) o ⟨rfl,rfl⟩
  ·cases h
 ·cases h
end Go.T
