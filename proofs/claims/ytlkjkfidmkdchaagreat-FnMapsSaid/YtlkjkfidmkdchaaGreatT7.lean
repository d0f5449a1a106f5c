import Derived.Test.YtlkjkfidmkdchaaGreatT3
import Derived.Test.YtlkjkfidmkdchaaGreatT5
set_option linter.all false
namespace Go.T
structure Qx (w w':World) (z m:Nat) (old:Option Nat) (L:List Value) (v:Value):Prop where
 val: ∃b off c sp,v= .slice (some ⟨b,off,none⟩) m c∧m≤c∧c≤maxLen∧b<w'.heap.size∧(old=some b∨w.heap.size≤b)∧WX w' b off (L++sp)∧(L++sp).length=c*z∧ai1 w' b off (c*z)∧(∀i,w'.frozen? ⟨b,i,none⟩=false)
 frm:J2 (fun k=>old=some k) w w'
theorem J2.rfl' {F:Nat→Prop} (w:World):J2 F w w:=⟨rfl,rfl,rfl,cL _,fun _ _ _=>rfl⟩
structure af8 (P:Program) (f:FuncId) (TE:TypeId) (BY z:Nat) (zero:Value):Prop where
 z1:1<z
 zs:zero.cells.size=z
 R5: ∀(b off n c vb voff vc:Nat) (vs:List Value) (w:World),n+1≤c→c≤9223372036854775807→vs.length=z→(∀j,j<z→(w.cell? ⟨b,off+n*z+j,none⟩).isSome=true)→(∀j,j<z→w.frozen? ⟨b,off+n*z+j,none⟩=false)→
  (∀j v,vs[j]?=some v→w.cell? ⟨vb,voff+j,none⟩=some v)→(∀v∈vs,v.oneCell'=true)→
  Calls P f #[.slice (some ⟨b,off,none⟩) n c,.int .i64 n,.slice (some ⟨vb,voff,none⟩) 1 vc] w fun e w'=>
   e= .returned (.slice (some ⟨b,off,none⟩) (n+1) c)∧w'=w.setCells b (off+n*z) vs
 R6: ∀(base:Option Addr) (n c vb voff vc:Nat) (cs vs:List Value) (w:World),n≤c→c<n+1→(n+1)*BY≤140737488355328→cs.length=n*z→vs.length=z→(base=none→n=0)→
  (∀a,base=some a→ ∀j v,cs[j]?=some v→w.cell? (a.add j)=some v)→(∀j v,vs[j]?=some v→w.cell? ⟨vb,voff+j,none⟩=some v)→(∀v∈vs,v.oneCell'=true)→
  Calls P f #[.slice base n c,.int .i64 n,.slice (some ⟨vb,voff,none⟩) 1 vc] w fun e w'=>
   e= .returned (.slice (some ⟨w.heap.size,0,none⟩) (n+1) (grownCap w (n+1) c TE))∧
   w'=w.drew.alloc (.cells ((cs++vs).toArray++Builtin.zeroCells zero.cells (grownCap w (n+1) c TE-(n+1))) TE)
 shift: ∀(b off n c i vb voff vc:Nat) (cs vs:List Value) (w:World),i<n→n+1≤c→c≤9223372036854775807→vb≠b→cs.length=n*z→vs.length=z→
  (∀j v,cs[j]?=some v→w.cell? ⟨b,off+j,none⟩=some v)→(∀j,j<(n+1)*z→(w.cell? ⟨b,off+j,none⟩).isSome=true)→(∀j,j<(n+1)*z→w.frozen? ⟨b,off+j,none⟩=false)→
  (∀j v,vs[j]?=some v→w.cell? ⟨vb,voff+j,none⟩=some v)→(∀v∈cs,v.oneCell'=true)→(∀v∈vs,v.oneCell'=true)→
  ∀(tA tB:TypeId) (kA kB:Nat),w.shape? vb=some (tA,kA)→w.shape? b=some (tB,kB)→kB≠0→w.frozen? ⟨vb,voff,none⟩=false→w.frozen? ⟨vb,kA,none⟩=false→
  Calls P f #[.slice (some ⟨b,off,none⟩) n c,.int .i64 i,.slice (some ⟨vb,voff,none⟩) 1 vc] w fun e w'=>
   e= .returned (.slice (some ⟨b,off,none⟩) (n+1) c)∧w'=(w.drew.setCells b (off+(i+1)*z) (cs.drop (i*z))).setCells b (off+i*z) vs
 grow: ∀(b off n c i vb voff vc:Nat) (cs vs:List Value) (w:World),i<n→n≤c→c<n+1→(n+1)*BY≤140737488355328→cs.length=n*z→vs.length=z→
  (∀j v,cs[j]?=some v→w.cell? ⟨b,off+j,none⟩=some v)→(∀j v,vs[j]?=some v→w.cell? ⟨vb,voff+j,none⟩=some v)→(∀v∈cs,v.oneCell'=true)→(∀v∈vs,v.oneCell'=true)→
  Calls P f #[.slice (some ⟨b,off,none⟩) n c,.int .i64 i,.slice (some ⟨vb,voff,none⟩) 1 vc] w fun e w'=>
   e= .returned (.slice (some ⟨w.heap.size,0,none⟩) (n+1) (grownCap w (n+1) c TE))∧
   w'=(((w.alloc (.cells ((cs.take (i*z)).toArray++Builtin.zeroCells zero.cells (n+1-i)++Builtin.zeroCells zero.cells (grownCap w (n+1) c TE-(n+1))) TE)).drew.setCells w.heap.size (i*z) vs).drew).setCells w.heap.size ((i+1)*z) (cs.drop (i*z))
variable {w : World} {S1 S2 : Nat → Prop} {z : Nat} {rows : List (List TC)} {x : List TC} {v1 v2 : Value} {A1 A2 : Option Addr} {c1 c2 : Nat} {oZ Qh : List FZ}
theorem sN.len (o:sN w S1 z rows v1 A1 c1 oZ):oZ.length=rows.length*z:=by
 have:=congrArg List.length o.tcs;rw[dg o.width,cq] at this;exact this.symm
theorem sN.one (o:sN w S1 z rows v1 A1 c1 oZ): ∀v∈oZ.map (·.val),v.oneCell'=true:=fun v hv=>by
 obtain⟨t,ht,rfl⟩:=List.mem_map.1 hv;exact sM (o.ok t ht)
theorem iu {b o:Nat} {us:List Value} {W:World} {x:Addr}:(W.setCells b o us).frozen? x=W.frozen? x:=World.frozen?_setCells b us o W x
theorem vv {b o:Nat} {us:List Value} {W:World}:(W.setCells b o us).heap.size=W.heap.size:=(ni b us o W).2.2.2
theorem af8.post {P:Program} {f:FuncId} {TE:TypeId} {BY:Nat} {zero:Value} (I:af8 P f TE BY z zero) (o1:sN w S1 z rows v1 A1 c1 oZ) (o2:sN w S2 z [x] v2 A2 c2 Qh) (hap: ∀k,S1 k→ ¬S2 k)
 (i:Nat) (hi:i≤rows.length) (hf1:(rows.length+1)*BY≤140737488355328) (HX:rows.length+1≤140737488355328):
 Calls P f #[v1,.int .i64 i,v2] w fun e w'=> ∃v,e= .returned v∧Qx w w' z (rows.length+1) (A1.map (·.block)) ((oZ.map (·.val)).take (i*z)++Qh.map (·.val)++(oZ.map (·.val)).drop (i*z)) v:=by
 have hz:=I.z1;obtain⟨n,hn⟩: ∃n,n=rows.length:=⟨_,rfl⟩;have l1:=o1.len;have l2:=o2.len;have h11:=o1.one;have h12:=o2.one;have hv1:=o1.val;have hv2:=o2.val;rw[←hn] at l1 hi hf1 HX hv1 ⊢;simp only[gG,List.length_nil,lG,Nat.one_mul] at l2 hv2;have hle:=o1.le;have hcm:=o1.cap;rw[←hn] at hle;obtain⟨cs,hcs⟩: ∃cs,cs=oZ.map (·.val):=⟨_,rfl⟩;obtain⟨vs,hvs⟩: ∃vs,vs=Qh.map (·.val):=⟨_,rfl⟩;rw[←hcs] at h11;rw[←hvs] at h12
 have lc:cs.length=n*z:=by rw[hcs,cq,l1]
 have lv:vs.length=z:=by rw[hvs,cq,l2]
 rw[←hcs,←hvs]
 cases hA2:A2 with
 |none=>
  have h1:=o2.none hA2;have h2:=o2.le;simp only[gG,List.length_nil] at h2;omega
 |some a2=>
 obtain⟨Yi,hs2,⟨sp2,IG,al8⟩,anV,akA⟩:=o2.row a2 hA2;obtain⟨vb,voff,vspot⟩:=a2
 cases hs2
 simp only at IG al8 anV akA Yi;rw[←hvs] at IG al8;have hvr: ∀j v,vs[j]?=some v→w.cell? ⟨vb,voff+j,none⟩=some v:=fun j v hj=>IG j v (by rw[kC (List.getElem?_eq_some_iff.1 hj).1];exact hj);rw[hA2] at hv2
 have ama:c1≤9223372036854775807:=by simp only[maxLen] at hcm;omega
 have hzc: ∀k,(Builtin.zeroCells zero.cells k).size=k*z:=fun k=>by rw[size_zeroCells,I.zs]
 have hge:=grownCap_ge w (n+1) c1 TE;have hgm:=grownCap_le_maxLen w (n+1) c1 TE (by simp only[maxLen];omega);obtain⟨G,hG⟩: ∃G,G=grownCap w (n+1) c1 TE:=⟨_,rfl⟩;rw[←hG] at hge hgm;have eG:=oH z hge;rw[rE,Nat.one_mul] at eG
 have eZ:(G-(n+1))*z=G*z-(n*z+z):=by rw[Nat.sub_mul,rE,Nat.one_mul]
 by_cases hin:i=n
 ·
  subst hin
  have et:cs.take (i*z)++vs++cs.drop (i*z)=cs++vs:=by
   rw[H6 au,Bo au,m0]
  rw[et]
  by_cases hroom:i+1≤c1
  ·cases hA1:A1 with
   |none=>have:=o1.none hA1;omega
   |some a1=>
    obtain⟨hS1,JQ,⟨sp1,FD,G6⟩,Qi,Yc⟩:=o1.row a1 hA1;obtain⟨b,off,spot⟩:=a1
    cases JQ
    simp only at FD G6 Qi Yc hS1;rw[←hcs] at FD G6;rw[hA1] at hv1;have em:=oH z hroom;rw[rE,Nat.one_mul] at em
    have hcell: ∀j,j<c1*z→(w.cell? ⟨b,off+j,none⟩).isSome=true:=fun j hj=>by rw[FD j _ (bC au)];rfl
    rw[hv1,hv2];refine(I.R5 b off i c1 vb voff c2 vs w hroom ama lv (fun j hj=>by rw[nO];exact hcell _ au) (fun j hj=>by rw[nO];exact Qi _ au) hvr h12).mono ?_;rintro e w' ⟨rfl,rfl⟩;refine⟨_,rfl,⟨b,off,c1,(cs++sp1).drop (i*z+z),rfl,hroom,hcm,?_,.inl rfl,?_,?_,?_,?_⟩,?_⟩
    ·rw[vv]
     have:=J4 (FD 0 _ (bC au));exact this
    ·have:=FD.put (p:=i*z) (us:=vs) au
     rw[NC au,H6 au,lv] at this;exact this
    ·rw[ct,ct,gQ,lc,lv,G6];omega
    ·intro j hj;rw[iu];exact Qi j hj
    ·intro j;rw[iu];exact Yc hz j
    ·exact(J2.rfl' w).setCells (.inr rfl)
  ·have hb:A1=none→i=0:=fun h=>by have:=o1.none h;omega
   rw[hv1,hv2];refine(I.R6 A1 i c1 vb voff c2 cs vs w hle au hf1 lc lv hb (fun a ha j v hj=> ?_) hvr h12).mono ?_
   ·obtain⟨hS1,JQ,⟨sp1,FD,G6⟩,Qi,Yc⟩:=o1.row a ha
    obtain⟨b,off,spot⟩:=a
    cases JQ
    rw[Addr.add_lit];exact FD j v (by rw[←hcs,kC (List.getElem?_eq_some_iff.1 hj).1];exact hj)
   ·rintro e w' ⟨rfl,rfl⟩
    rw[←hG];obtain⟨ROW,Tz⟩: ∃ROW,ROW=(cs++vs).toArray++Builtin.zeroCells zero.cells (G-(i+1)):=⟨_,rfl⟩
    have hl:ROW.size=G*z:=by
     rw[Tz,Array.size_append,hzc,List.size_toArray,ct,lc,lv];omega
    have hL:ROW.toList=(cs++vs)++(Builtin.zeroCells zero.cells (G-(i+1))).toList:=by rw[Tz];simp
    rw[←Tz];refine⟨_,rfl,⟨w.heap.size,0,G,(Builtin.zeroCells zero.cells (G-(i+1))).toList,rfl,hge,hgm,?_,.inr (cL _),?_,?_,?_,?_⟩,?_⟩
    ·simp
    ·rw[←hL]
     intro k y hk;rw[lG];exact(uj w.drew ROW TE k).trans (by rw[←QB];exact hk)
    ·rw[←hL,yf,hl]
    ·intro j hj;exact mm w.drew ROW TE _
    ·intro j;exact mm w.drew ROW TE j
    ·exact((J2.rfl' w).J3 (nQ.drew w)).J3 (nQ.alloc _ _)
 ·have hlt:i<n:=by omega
  have ei:=oH z hlt;rw[zI] at ei;have e1:(i+1)*z=i*z+z:=zI _ _
  cases hA1:A1 with
  |none=>have:=o1.none hA1;omega
  |some a1=>
  obtain⟨hS1,JQ,⟨sp1,FD,G6⟩,Qi,Yc⟩:=o1.row a1 hA1;obtain⟨b,off,spot⟩:=a1
  cases JQ
  simp only at FD G6 Qi Yc hS1;rw[←hcs] at FD G6;rw[hA1] at hv1;have TG: ∀j v,cs[j]?=some v→w.cell? ⟨b,off+j,none⟩=some v:=fun j v hj=>FD j v (by rw[kC (List.getElem?_eq_some_iff.1 hj).1];exact hj)
  have hcell: ∀j,j<c1*z→(w.cell? ⟨b,off+j,none⟩).isSome=true:=fun j hj=>by rw[FD j _ (bC au)];rfl
  have ld:(cs.drop (i*z)).length=n*z-i*z:=by rw[gQ,lc]
  rw[hv1,hv2]
  by_cases hroom:n+1≤c1
  ·have em:=oH z hroom
   have e2:(n+1)*z=n*z+z:=zI _ _;have hne:vb≠b:=fun e=>hap b hS1 (by rw[←e];exact Yi);obtain⟨tA,kA,hsa,_⟩:=YT (hvr 0 _ (bC au));obtain⟨tB,kB,hsb,hkB⟩:=YT (TG 0 _ (bC au));refine(I.shift b off n c1 i vb voff c2 cs vs w hlt hroom ama hne lc lv TG (fun j hj=>hcell j au) (fun j hj=>Qi j au) hvr h11 h12 tA tB kA kB hsa hsb hkB (akA hz _) (akA hz _)).mono ?_;rintro e w' ⟨rfl,rfl⟩;have r0:WX w.drew b off (cs++sp1):=FD
   have r1:=r0.put (p:=(i+1)*z) (us:=cs.drop (i*z)) (by rw[e1,ld];omega);have r2:=r1.put (p:=i*z) (us:=vs) (by simp only[ct,c7,gQ] at G6 ⊢;omega);refine⟨_,rfl,⟨b,off,c1,(cs++sp1).drop ((i+1)*z+(cs.drop (i*z)).length),rfl,hroom,hcm,?_,.inl rfl,?_,?_,?_,?_⟩,?_⟩
   ·rw[vv,vv]
    exact J4 (TG 0 _ (bC au))
   ·have q1:(((cs++sp1).take ((i+1)*z)++cs.drop (i*z))++(cs++sp1).drop ((i+1)*z+(cs.drop (i*z)).length)).take (i*z)=cs.take (i*z):=by
     rw[tT,NC (by rw[c7];omega),List.take_take,Nat.min_eq_left au,NC au]
    have q2:(((cs++sp1).take ((i+1)*z)++cs.drop (i*z))++(cs++sp1).drop ((i+1)*z+(cs.drop (i*z)).length)).drop (i*z+vs.length)=cs.drop (i*z)++(cs++sp1).drop ((i+1)*z+(cs.drop (i*z)).length):=by
     rw[tT,List.drop_append_of_le_length (by rw[c7];omega),Bo (by rw[c7];omega),tg]
    rw[q1,q2,←tT] at r2;exact r2
   ·simp only[ct,c7,gQ,lc,lv] at G6 ⊢;omega
   ·intro j hj;rw[iu,iu];exact Qi j hj
   ·intro j;rw[iu,iu];exact Yc hz j
   ·have f0:J2 (fun k=>Option.map (fun x:Addr=>x.block) (some ⟨b,off,none⟩)=some k) w w.drew:=(J2.rfl' w).J3 (nQ.drew w)
    exact(f0.setCells (b:=b) (.inr rfl)).setCells (b:=b) (.inr rfl)
  ·refine(I.grow b off n c1 i vb voff c2 cs vs w hlt hle au hf1 lc lv TG hvr h11 h12).mono ?_
   rintro e w' ⟨rfl,rfl⟩;rw[←hG];obtain⟨ROW,Tz⟩: ∃ROW,ROW=(cs.take (i*z)).toArray++Builtin.zeroCells zero.cells (n+1-i)++Builtin.zeroCells zero.cells (G-(n+1)):=⟨_,rfl⟩
   have eW:(n+1-i)*z=n*z+z-i*z:=by rw[Nat.sub_mul,rE,Nat.one_mul]
   have hl:ROW.size=G*z:=by
    rw[Tz,Array.size_append,Array.size_append,hzc,hzc,List.size_toArray,c7,lc];omega
   obtain⟨ZZ,hZZ⟩: ∃ZZ,ZZ=(Builtin.zeroCells zero.cells (n+1-i)).toList++(Builtin.zeroCells zero.cells (G-(n+1))).toList:=⟨_,rfl⟩
   have hL:ROW.toList=cs.take (i*z)++ZZ:=by rw[Tz,hZZ];simp
   have lZ:ZZ.length=G*z-i*z:=by
    have:=congrArg List.length hL;rw[yf,hl,ct,c7,lc] at this;omega
   rw[←Tz]
   have r0:WX ((w.alloc (.cells ROW TE)).drew) w.heap.size 0 (cs.take (i*z)++ZZ):=fun k y hk=>by
    rw[lG];rw[←hL] at hk;exact(uj w ROW TE k).trans (by rw[←QB];exact hk)
   have r1:=r0.put (p:=i*z) (us:=vs) (by rw[ct,c7,lZ];omega);have r1':WX (((w.alloc (.cells ROW TE)).drew.setCells w.heap.size (0+i*z) vs).drew) w.heap.size 0 _:=r1;have r2:=r1'.put (p:=(i+1)*z) (us:=cs.drop (i*z)) (by simp only[ct,c7,gQ];omega);rw[lG,lG] at r2;refine⟨_,rfl,⟨w.heap.size,0,G,(cs.take (i*z)++ZZ).drop ((i+1)*z+(cs.drop (i*z)).length),rfl,hge,hgm,?_,.inr (cL _),?_,?_,?_,?_⟩,?_⟩
   ·rw[vv]
    show w.heap.size<(World.setCells _ _ _ _).heap.size;rw[vv];show w.heap.size<(w.alloc _).heap.size;simp
   ·have q1:(((cs.take (i*z)++ZZ).take (i*z)++vs)++(cs.take (i*z)++ZZ).drop (i*z+vs.length)).take ((i+1)*z)=cs.take (i*z)++vs:=by
     rw[NC (by simp only[ct,c7];omega),H6 (by simp only[ct,c7];omega)]
     congr 1
     rw[NC (by rw[c7];omega),List.take_take,Nat.min_self]
    have q2:(((cs.take (i*z)++ZZ).take (i*z)++vs)++(cs.take (i*z)++ZZ).drop (i*z+vs.length)).drop ((i+1)*z+(cs.drop (i*z)).length)=(cs.take (i*z)++ZZ).drop ((i+1)*z+(cs.drop (i*z)).length):=by
     rw[List.drop_append,Bo (by simp only[ct,c7];omega),tg,List.drop_drop]
     congr 1
     simp only[ct,c7];omega
    rw[q1,q2] at r2;exact r2
   ·simp only[ct,c7,gQ,lc,lv,lZ];omega
   ·intro j hj
    rw[iu];show(World.setCells _ _ _ _).frozen? _=false;rw[iu];exact mm w ROW TE _
   ·intro j
    rw[iu];show(World.setCells _ _ _ _).frozen? _=false;rw[iu];exact mm w ROW TE j
   ·have f0:J2 (fun k=>Option.map (fun x:Addr=>x.block) (some ⟨b,off,none⟩)=some k) w ((w.alloc (.cells ROW TE)).drew):=((J2.rfl' w).J3 (nQ.alloc _ _)).J3 (nQ.drew _)
    have f1:=f0.setCells (b:=w.heap.size) (o:=i*z) (vs:=vs) (.inl (cL _));have f2:=f1.J3 (nQ.drew _);exact f2.setCells (.inl (cL _))
end Go.T
namespace Go.T
theorem Mi {z:Nat}: ∀{rows:List (List TC)},(∀r∈rows,r.length=z)→ ∀i,(rows.take i).flatten=rows.flatten.take (i*z)
 |[],_,i=>by simp
 |r::rs,hw,0=>by simp
 |r::rs,hw,i+1=>by
  have hr:=hw r (.head _);rw[List.take_succ_cons,yh,yh,Mi (fun r hr=>hw r (.tail _ hr)) i,zI,List.take_append,hr];rw[H6 (by omega:r.length≤i*z+z),show i*z+z-z=i*z by omega]
theorem Mj {z:Nat}: ∀{rows:List (List TC)},(∀r∈rows,r.length=z)→ ∀i,(rows.drop i).flatten=rows.flatten.drop (i*z)
 |[],_,i=>by simp
 |r::rs,hw,0=>by simp
 |r::rs,hw,i+1=>by
  have hr:=hw r (.head _);rw[List.drop_succ_cons,yh,Mj (fun r hr=>hw r (.tail _ hr)) i,zI,List.drop_append,hr];rw[Bo (by omega:r.length≤i*z+z),tg,show i*z+z-z=i*z by omega]
theorem J2.mono {F F':Nat→Prop} {w w':World} (h:J2 F w w') (hF: ∀k,F k→F' k):J2 F' w w':=
 ⟨h.os,h.tape,h.output,h.size,fun k hk hn=>h.block k hk fun hf=>hn (hF k hf)⟩
theorem Qx.opened {w w':World} {z m:Nat} {old:Option Nat} {dV:List FZ} {v:Value} (h:Qx w w' z m old (dV.map (·.val)) v) {rows:List (List TC)} (hl:rows.length=m) (hz:0<z) (hw: ∀r∈rows,r.length=z) (ht:rows.flatten=dV.map (·.tc))
 (hok: ∀t∈dV,t.ok w) (hsub: ∀t∈dV,∀k,t.own k→k<w.heap.size∧old≠some k) (hd:dV.Pairwise FZ.apart):
 ∃b A c,(old=some b∨w.heap.size≤b)∧b<w'.heap.size∧sN w' (fun k=>k=b∨ ∃t∈dV,t.own k) z rows v A c dV:=by
 obtain⟨b,off,c,sp,h1,h2,h3,h4,h5,h6,h7,h8,h9⟩:=h.val;refine⟨b,_,c,h5,h4,⟨by rw[h1,hl],by omega,h3,hz,hw,ht,fun t hm=> ?_,hd,fun t hm k hk=>⟨.inr ⟨t,hm,hk⟩,fun ad e=> ?_⟩,fun e=>(by cases e),fun ad e=> ?_⟩⟩
 ·refine(hok t hm).move (fun k hk=>hk.elim) fun _ k hk=> ?_
  exact h.frm.block k (hsub t hm k hk).1 (hsub t hm k hk).2
 ·cases e
  rintro rfl;rcases h5 with e|e
  ·exact(hsub t hm _ hk).2 e
  ·have:=(hsub t hm _ hk).1;omega
 ·cases e
  exact⟨.inl rfl,rfl,⟨sp,h6,h7⟩,h8,fun _ i=>h9 i⟩
theorem af9 {w w':World} {X:Nat→Nat→Nat→Prop} {Y:Nat→Nat→Prop} {Rg BB:Nat→Prop} {z:Nat} {bE:List (List TC)} {v:Value} {A:Option Addr} {c b:Nat} {dV:List FZ} {old:Option Nat} {ps:List bY} {xs:List Value} {sh:Bool}
 (hF:J2 (fun k=>old=some k) w w') (hold: ∀k,old=some k→ ∃i j,X i j k) (hb:old=some b∨w.heap.size≤b) (hb2:b<w'.heap.size) (hX: ∀i j k,X i j k→k<w.heap.size) (amb: ∀t∈dV,∀k,t.own k→ ∃i j,X i j k)
 (o:sN w' (fun k=>k=b∨ ∃t∈dV,t.own k) z bE v A c dV) (anX:zU w' (fun k=> ¬False∧ ∀i,i<1→ ¬(i=0∧(k=b∨ ∃t∈dV,t.own k))) ps xs [] []):
 NG (v8 X Y) (Ib true Rg BB) w w' ⟨ps,sh,[[.deep]],false⟩ xs (.c (.sub z bE)) [] v:=by
 have hv:=o.val;refine⟨hF.mono fun k hk=> .inl (hold k hk),fun _=>False,fun n k=>n=0∧(k=b∨ ∃t∈dV,t.own k),[(.deep,.sub z bE,v)],[],⟨?_,?_,?_,fun k hk=>hk.elim⟩,?_,anX⟩
 ·intro i it hi
  cases i with
  |zero=>
   simp only[m0,fu,bq] at hi;subst hi;exact(o.rep (R:=fun _=>False)).mono fun k hk=>⟨rfl,hk⟩
  |succ i=>simp at hi
 ·rintro i k hi ⟨rfl,hk⟩
  refine⟨?_,?_,id⟩
  ·rcases hk with rfl|⟨t,ht,hk⟩
   ·exact hb2
   ·obtain⟨i,j,h⟩:=amb t ht k hk
    exact kE (hX i j k h) hF.size
  ·rcases hk with rfl|⟨t,ht,hk⟩
   ·exact hb.elim (fun h=> .inr (.inl (hold _ h))) .inl
   ·exact .inr (.inl (amb t ht k hk))
 ·rintro i j k hi hj ⟨rfl,_⟩ ⟨rfl,_⟩;rfl
 ·subst hv
  exact⟨⟨cW _,rfl,fun h=>(by cases h),fun _=>rfl⟩,rfl⟩
def aga (z BY:Nat):List TV→Option (TV×List TV)
 |[.c (.sub z1 rows),.c (.sc (.int .i64 i)),.c (.sub z2 [x])]=>
  if z1=z∧z2=z∧0≤i∧i≤(rows.length:Int)∧fits (rows.length+1) BY=true then some (.c (.sub z (rows.take i.toNat++x::rows.drop i.toNat)),[]) else none
 |_=>none
theorem alu {n b:Nat} (h:fits n b=true):n*b≤140737488355328∧n≤140737488355328:=by
 unfold fits at h;exact th h
theorem af8.call {C:mG} {f:FuncId} {TE:TypeId} {BY z:Nat} {zero:Value} (I:af8 C.P f TE BY z zero) (hb: ∃fn c,C.P.funcs[f]?=some fn∧fn.body=some c) {sh:Bool} (hs:C.sig f=⟨[.consume [],.borrow,.consume []],sh,[[.deep]],false⟩)
 {vs:List TV} {r:TV} {fs:List TV} (h:aga z BY vs=some (r,fs)):LX C f vs r fs:=by
 unfold aga at h
 split at h
 ·rename_i z1 rows i z2 x
  split at h
  ·rename_i hc
   obtain⟨rfl,rfl,h0,hi,hf⟩:=hc;simp only[bq,zJ] at h;obtain⟨rfl,rfl⟩:=h;obtain⟨hf1,HX⟩:=alu hf;obtain⟨n,rfl⟩:=Int.eq_ofNat_of_zero_le h0
   have hn:n≤rows.length:=by omega
   rw[show(n:Int).toNat=n from rfl];refine⟨hb,fun w xs Rg BB X Y ha hl=> ?_⟩;rw[hs] at ha hl ⊢;obtain⟨x0,e0,a0⟩:=ha.each 0 _ rfl;obtain⟨x1,e1,a1⟩:=ha.each 1 _ rfl;obtain⟨x2,e2,a2⟩:=ha.each 2 _ rfl
   match xs,hl,e0,e1,e2 with
   |[y0,y1,y2],_,e0,e1,e2=>
    cases e0;cases e1;cases e2
    have a0:av w Rg .deep (X 0 0) (.sub z2 rows) x0:=a0;have a1:av w Rg .snap (X 1 0) (.sc (.int .i64 n)) x1:=a1;have a2:av w Rg .deep (X 2 0) (.sub z2 [x]) x2:=a2;obtain⟨A1,c1,oZ,o1⟩:=a0.opened;obtain⟨A2,c2,Qh,o2⟩:=a2.opened
    cases a1
    have hap: ∀k,X 0 0 k→ ¬X 2 0 k:=fun k h1 h2=>by have:=(ha.own 0 0 k h1).2.2.2.2 2 0 h2;omega
    refine(I.post o1 o2 hap n hn hf1 HX).mono ?_;rintro e w' ⟨v,rfl,hp⟩;refine⟨v,rfl,?_⟩;have l1:=o1.len;have l2:=o2.len
    have hold: ∀k,A1.map (fun a=>a.block)=some k→X 0 0 k:=fun k hk=>by
     cases hA:A1 with
     |none=>rw[hA] at hk;cases hk
     |some ad=>rw[hA] at hk;cases hk;exact(o1.row ad hA).1
    rw[←Du,←Bp,←td,←td] at hp
    have mem: ∀t,t∈oZ.take (n*z2)++Qh++oZ.drop (n*z2)→(t∈oZ∧ ∀k,t.own k→X 0 0 k)∨(t∈Qh∧ ∀k,t.own k→X 2 0 k):=fun t ht=>by
     rcases List.mem_append.1 ht with ht|ht
     ·rcases List.mem_append.1 ht with ht|ht
      ·exact .inl ⟨tf ht,fun k hk=>(o1.sub t (tf ht) k hk).1⟩
      ·exact .inr ⟨ht,fun k hk=>(o2.sub t ht k hk).1⟩
     ·exact .inl ⟨rD ht,fun k hk=>(o1.sub t (rD ht) k hk).1⟩
    have zp: ∀r∈(rows.take n++x::rows.drop n),r.length=z2:=by
     intro r hr;rcases List.mem_append.1 hr with hr|hr
     ·exact o1.width r (tf hr)
     ·rcases dJ.1 hr with rfl|hr
      ·exact o2.width _ (.head _)
      ·exact o1.width r (rD hr)
    have htc:((rows.take n++x::rows.drop n)).flatten=((oZ.take (n*z2)++Qh++oZ.drop (n*z2))).map (·.tc):=by
     have hx:x=Qh.map (·.tc):=by have:=o2.tcs;simpa using this
     rw[Vp,yh,Mi o1.width,Mj o1.width,o1.tcs,hx,←Du,←Bp,←td,←td,tT]
    have hok: ∀t∈(oZ.take (n*z2)++Qh++oZ.drop (n*z2)),t.ok w:=by
     intro t ht;exact(mem t ht).elim (fun h=>o1.ok t h.1) fun h=>o2.ok t h.1
    have hsb: ∀t∈(oZ.take (n*z2)++Qh++oZ.drop (n*z2)),∀k,t.own k→k<w.heap.size∧(A1.map (fun a=>a.block))≠some k:=by
     intro t ht k hk;rcases mem t ht with h|h
     ·refine⟨(ha.own 0 0 k (h.2 k hk)).1,fun e=> ?_⟩
      cases hA:A1 with
      |none=>rw[hA] at e;cases e
      |some ad=>rw[hA] at e;cases e;exact(o1.sub t h.1 _ hk).2 ad hA rfl
     ·exact⟨(ha.own 2 0 k (h.2 k hk)).1,fun e=>hap k (hold k e) (h.2 k hk)⟩
    have hdj:((oZ.take (n*z2)++Qh++oZ.drop (n*z2))).Pairwise FZ.apart:=by
     have hd1:=o1.qh;rw[←Dv (n*z2) oZ] at hd1;obtain⟨p1,p2,p3⟩:=List.pairwise_append.1 hd1;have cr: ∀a∈oZ,∀b∈Qh,FZ.apart a b:=fun a ha b hb k h1 h2=>hap k (o1.sub a ha k h1).1 (o2.sub b hb k h2).1;refine List.pairwise_append.2 ⟨List.pairwise_append.2 ⟨p1,o2.qh,fun a ha b hb=>cr a (tf ha) b hb⟩,p2,fun a ha b hb=> ?_⟩;rcases List.mem_append.1 ha with ha|ha
     ·exact p3 a ha b hb
     ·exact FZ.aa5 (cr b (rD hb) a ha)
    obtain⟨b,A,c,hb1,hb2,o⟩:=hp.opened (rows:=rows.take n++x::rows.drop n) (by simp only[ct,c7,gQ,gG];omega) o1.z0 zp htc hok hsb hdj;exact af9 hp.frm (fun k hk=>⟨0,0,hold k hk⟩) hb1 hb2 (fun i j k h=>(ha.own i j k h).1) (fun t ht k hk=>(mem t ht).elim (fun h=>⟨0,0,h.2 k hk⟩) fun h=>⟨2,0,h.2 k hk⟩) o ⟨rfl,rfl⟩
  ·cases h
 ·cases h
structure aj4 (P:Program) (f:FuncId) (z:Nat) (zs:List Value):Prop where
 z1:1<z
 zl:zs.length=z
 walk: ∀(b off n c i j:Nat) (cs:List Value) (w:World),i<n→j=i+1→n≤c→c≤9223372036854775807→cs.length=n*z→
  (∀j v,cs[j]?=some v→w.cell? ⟨b,off+j,none⟩=some v)→(∀j,j<n*z→w.frozen? ⟨b,off+j,none⟩=false)→(∀v∈cs,v.oneCell'=true)→
  Calls P f #[.slice (some ⟨b,off,none⟩) n c,.int .i64 i,.int .i64 j] w fun e w'=>
   e= .returned (.slice (some ⟨b,off,none⟩) (n-1) c)∧w'=(w.drew.setCells b (off+i*z) (cs.drop (j*z))).setCells b (off+(n-1)*z) zs
def agb (z:Nat):List TV→Option (TV×List TV)
 |[.c (.sub z1 rows),.c (.sc (.int .i64 i)),.c (.sc (.int .i64 j))]=>
  if z1=z∧0≤i∧i<(rows.length:Int)∧j=i+1 then some (.c (.sub z (rows.take i.toNat++rows.drop j.toNat)),[]) else none
 |_=>none
theorem aj4.alv {C:mG} {f:FuncId} {z:Nat} {zs:List Value} (I:aj4 C.P f z zs) (hb: ∃fn c,C.P.funcs[f]?=some fn∧fn.body=some c) {sh:Bool} (hs:C.sig f=⟨[.consume [],.borrow,.borrow],sh,[[.deep]],false⟩)
 {vs:List TV} {r:TV} {fs:List TV} (h:agb z vs=some (r,fs)):LX C f vs r fs:=by
 unfold agb at h
 split at h
 ·rename_i z1 rows i j
  split at h
  ·rename_i hc
   obtain⟨rfl,h0,hi,rfl⟩:=hc;simp only[bq,zJ] at h;obtain⟨rfl,rfl⟩:=h;obtain⟨n,rfl⟩:=Int.eq_ofNat_of_zero_le h0
   have hn:n<rows.length:=by omega
   rw[show(n:Int).toNat=n from rfl,show((n:Int)+1).toNat=n+1 from rfl];refine⟨hb,fun w xs Rg BB X Y ha hl=> ?_⟩;rw[hs] at ha hl ⊢;obtain⟨x0,e0,a0⟩:=ha.each 0 _ rfl;obtain⟨x1,e1,a1⟩:=ha.each 1 _ rfl;obtain⟨x2,e2,a2⟩:=ha.each 2 _ rfl
   match xs,hl,e0,e1,e2 with
   |[y0,y1,y2],_,e0,e1,e2=>
    cases e0;cases e1;cases e2
    have a0:av w Rg .deep (X 0 0) (.sub z1 rows) x0:=a0;have a1:av w Rg .snap (X 1 0) (.sc (.int .i64 n)) x1:=a1;have a2:av w Rg .snap (X 2 0) (.sc (.int .i64 ((n:Int)+1))) x2:=a2;obtain⟨A1,c1,oZ,o1⟩:=a0.opened
    cases a1
    cases a2
    have l1:=o1.len;have hle:=o1.le;have hcm:=o1.cap;have hv1:=o1.val;have hz:=I.z1
    cases hA1:A1 with
    |none=>have:=o1.none hA1;omega
    |some a1=>
    obtain⟨hS1,JQ,⟨sp1,FD,G6⟩,Qi,Yc⟩:=o1.row a1 hA1;obtain⟨b,off,spot⟩:=a1
    cases JQ
    simp only at FD G6 Qi Yc hS1;rw[hA1] at hv1;obtain⟨cs,hcs⟩: ∃cs,cs=oZ.map (·.val):=⟨_,rfl⟩;rw[←hcs] at FD G6
    have lc:cs.length=rows.length*z1:=by rw[hcs,cq,l1]
    have em:=oH z1 hle;have en:=oH z1 hn;rw[zI] at en
    have e3:(rows.length-1)*z1=rows.length*z1-z1:=by rw[Nat.sub_mul,Nat.one_mul]
    have e4:(n+1)*z1=n*z1+z1:=zI _ _;have TG: ∀j v,cs[j]?=some v→w.cell? ⟨b,off+j,none⟩=some v:=fun j v hj=>FD j v (by rw[kC (List.getElem?_eq_some_iff.1 hj).1];exact hj);rw[hv1];refine(I.walk b off rows.length c1 n (n+1) cs w hn rfl hle (by simp only[maxLen] at hcm;omega) lc TG (fun j hj=>Qi j au) (by rw[hcs];exact o1.one)).mono ?_;rintro e w' ⟨rfl,rfl⟩;refine⟨_,rfl,?_⟩;have r0:WX w.drew b off (cs++sp1):=FD
    have ld:(cs.drop ((n+1)*z1)).length=rows.length*z1-(n*z1+z1):=by rw[gQ,lc,e4]
    have r1:=r0.put (p:=n*z1) (us:=cs.drop ((n+1)*z1)) (by rw[ld];omega);have r2:=r1.put (p:=(rows.length-1)*z1) (us:=zs) (by rw[I.zl];simp only[ct,c7,gQ] at G6 ⊢;omega)
    have hp:Qx w ((w.drew.setCells b (off+n*z1) (cs.drop ((n+1)*z1))).setCells b (off+(rows.length-1)*z1) zs) z1 (rows.length-1) (some b) ((oZ.take (n*z1)++oZ.drop ((n+1)*z1)).map (·.val)) (.slice (some ⟨b,off,none⟩) (rows.length-1) c1):=by
     rw[td,Du,Bp,←hcs];refine⟨⟨b,off,c1,zs++((cs++sp1).take (n*z1)++cs.drop ((n+1)*z1)++(cs++sp1).drop (n*z1+(cs.drop ((n+1)*z1)).length)).drop ((rows.length-1)*z1+zs.length),rfl,by omega,hcm,?_,.inl rfl,?_,?_,?_,?_⟩,?_⟩
     ·rw[vv,vv]
      exact J4 (TG 0 _ (bC au))
     ·have q1:((cs++sp1).take (n*z1)++cs.drop ((n+1)*z1)++(cs++sp1).drop (n*z1+(cs.drop ((n+1)*z1)).length)).take ((rows.length-1)*z1)=cs.take (n*z1)++cs.drop ((n+1)*z1):=by
       rw[NC (by simp only[ct,c7,ld];omega),H6 (by simp only[ct,c7,ld];omega)]
       congr 1
       rw[NC au]
      rw[q1] at r2;rw[←tT];exact r2
     ·simp only[ct,c7,gQ,lc,I.zl] at G6 ⊢;omega
     ·intro j hj;rw[iu,iu];exact Qi j hj
     ·intro j;rw[iu,iu];exact Yc hz j
     ·have f0:J2 (fun k=>some b=some k) w w.drew:=(J2.rfl' w).J3 (nQ.drew w)
      exact(f0.setCells (b:=b) (.inr rfl)).setCells (b:=b) (.inr rfl)
    have mem: ∀t,t∈oZ.take (n*z1)++oZ.drop ((n+1)*z1)→t∈oZ:=fun t ht=>(List.mem_append.1 ht).elim tf rD;have hX: ∀t∈oZ,∀k,t.own k→X 0 0 k:=fun t ht k hk=>(o1.sub t ht k hk).1
    have zp: ∀r∈(rows.take n++rows.drop (n+1)),r.length=z1:=by
     intro r hr;rcases List.mem_append.1 hr with hr|hr
     ·exact o1.width r (tf hr)
     ·exact o1.width r (rD hr)
    have htc:((rows.take n++rows.drop (n+1))).flatten=((oZ.take (n*z1)++oZ.drop ((n+1)*z1))).map (·.tc):=by
     rw[Vp,Mi o1.width,Mj o1.width,o1.tcs,←Du,←Bp,←td]
    have hsb: ∀t∈(oZ.take (n*z1)++oZ.drop ((n+1)*z1)),∀k,t.own k→k<w.heap.size∧(some b)≠some k:=by
     intro t ht k hk;refine⟨(ha.own 0 0 k (hX t (mem t ht) k hk)).1,fun e=> ?_⟩
     cases e
     exact(o1.sub t (mem t ht) _ hk).2 _ hA1 rfl
    have hdj:((oZ.take (n*z1)++oZ.drop ((n+1)*z1))).Pairwise FZ.apart:=by
     have hd1:=o1.qh;refine hd1.sublist ?_;have:oZ=oZ.take (n*z1)++oZ.drop (n*z1):=(Dv _ _).symm
     conv=>rhs;rw[this]
     refine List.Sublist.append (List.Sublist.refl _) ?_;rw[e4,←List.drop_drop];exact List.drop_sublist _ _
    obtain⟨b',A,c,hb1,hb2,o⟩:=hp.opened (rows:=rows.take n++rows.drop (n+1)) (by simp only[ct,c7,gQ,gG];omega) o1.z0 zp htc (fun t ht=>o1.ok t (mem t ht)) hsb hdj;exact af9 hp.frm (fun k hk=>⟨0,0,by cases hk;exact hS1⟩) hb1 hb2 (fun i j k h=>(ha.own i j k h).1) (fun t ht k hk=>⟨0,0,hX t (mem t ht) k hk⟩) o ⟨rfl,rfl⟩
  ·cases h
 ·cases h
end Go.T
