import Derived.Test.YtiinnfilgnhjfaaGreatProg
import Derived.Shelf.Spec.SlicesInsertGrow
import Derived.KernelRfl
import Derived.Deep.RegionLaw
import Derived.Lib.SliceRun
import Derived.Test.YtiinnfilgnhjfaaGreatT7
set_option linter.all false
namespace Go.T.InsA
open Go Go.RowKit Go.Lib Go.Proofs Go.Shelf
theorem KF {P:Program} (w:World) (dT sT ty elem:TypeId) (b o dLen dCap:Nat) (a:Addr) (sLen sCap z:Nat) (cs:List Value)
 (hu:P.underlying dT=some (.slice elem)) (hs:(P.info? elem).map (·.size)=some z) (hn:cs.length=sP sLen dLen*z)
 (hsrc: ∀j v,cs[j]?=some v→w.cell? (a.add j)=some v) (hc: ∀j,j<cs.length→(w.cell? ⟨b,o+j,none⟩).isSome=true) (hf: ∀j,j<cs.length→w.frozen? ⟨b,o+j,none⟩=false) (h1: ∀v∈cs,v.oneCell'=true):
 (Builtin.copy_ #[dT,sT] ty #[.slice (some ⟨b,o,none⟩) dLen dCap,.slice (some a) sLen sCap]).run P w= .ok (goInt (sP sLen dLen)) (w.setCells b o cs):=by
 have hl:=run_loadCells_list (P:=P) w a cs hsrc;have hst:=run_storeCells_cells (P:=P) b o cs 0 w (by simpa using hc) (by simpa using hf) h1
 cases hq:P.info? elem with
 |none=>simp[hq] at hs
 |some i=>
  have hi:i.size=z:=by simpa [hq] using hs
  simp[Builtin.copy_,run_underlying hu,Builtin.lenOf,Builtin.firstCells,sizeOf,typeInfo,hq,hi,←hn,hl,hst]
theorem hU:Go.Proofs.Tryz.prog.underlying 35=some (.slice 125):=by kernel_rfl
theorem hUi:Go.Proofs.Tryz.prog.underlying 3=some (.int .i64):=by kernel_rfl
theorem hI:(Go.Proofs.Tryz.prog.info? 125).map (fun i=>(i.zero,i.size,i.bytes))=some (some (.agg #[.int .i64 0,.int .i64 0]),2,16):=by kernel_rfl
theorem hS:(Go.Proofs.Tryz.prog.info? 125).map (·.size)=some 2:=by kernel_rfl
theorem hM:Go.Proofs.Tryz.prog.follows .mixedOrders=true:=by kernel_rfl
set_option maxHeartbeats 4000000 in
set_option maxRecDepth 100000 in
theorem VY (b off n c vb voff vc:Nat) (vs:List Value) (w:World) (hroom:n+1≤c) (hc63:c≤9223372036854775807)
 (hvl:vs.length=2) (hsp: ∀j,j<2→(w.cell? ⟨b,off+n*2+j,none⟩).isSome=true) (hfz: ∀j,j<2→w.frozen? ⟨b,off+n*2+j,none⟩=false)
 (hvs: ∀j v,vs[j]?=some v→w.cell? ⟨vb,voff+j,none⟩=some v) (h1v: ∀v∈vs,v.oneCell'=true):
 Calls Go.Proofs.Tryz.prog 208 #[.slice (some ⟨b,off,none⟩) n c,.int .i64 n,.slice (some ⟨vb,voff,none⟩) 1 vc] w fun e w'=>
  e= .returned (.slice (some ⟨b,off,none⟩) (n+1) c)∧w'=w.setCells b (off+n*2) vs:=by
 obtain⟨i0,hi0,UQ,hz1,hz2⟩:=info_parts hI;have hsrc:Src Go.Proofs.Tryz.prog i0.size 35 (.slice (some ⟨vb,voff,none⟩) 1 vc) 1 vs w:=Src.ofSlice w hU ⟨vb,voff,none⟩ 1 vc vs an (fun j u hj=>by rw[Addr.add_lit];exact hvs j u hj) h1v
 go_enter Go.Proofs.Tryz.func208,Go.Proofs.Tryz.ntmps208
 go_wp2_with (at_builtin;refine Go.wpList_append_room_src _ rfl _ _ 35 35 rfl 125 i0 hU hi0 b off n c rfl _ rfl 1 vs hsrc hroom (by rw[hz1,hvl];exact hsp) (by rw[hz1,hvl];exact hfz) ?_)
 go_ret
 exact⟨rfl,rfl⟩
set_option maxHeartbeats 4000000 in
set_option maxRecDepth 100000 in
theorem VZ (base:Option Addr) (n c vb voff vc:Nat) (cs vs:List Value) (w:World) (hnc:n≤c) (hroom:c<n+1) (hbig:(n+1)*16≤140737488355328)
 (hcl:cs.length=n*2) (hvl:vs.length=2) (hnil:base=none→n=0)
 (hcs: ∀a,base=some a→ ∀j v,cs[j]?=some v→w.cell? (a.add j)=some v)
 (hvs: ∀j v,vs[j]?=some v→w.cell? ⟨vb,voff+j,none⟩=some v) (h1v: ∀v∈vs,v.oneCell'=true):
 Calls Go.Proofs.Tryz.prog 208 #[.slice base n c,.int .i64 n,.slice (some ⟨vb,voff,none⟩) 1 vc] w fun e w'=>
  e= .returned (.slice (some ⟨w.heap.size,0,none⟩) (n+1) (grownCap w (n+1) c 125))∧
  w'=w.drew.alloc (.cells ((cs++vs).toArray++Builtin.zeroCells (.agg #[.int .i64 0,.int .i64 0]:Value).cells (grownCap w (n+1) c 125-(n+1))) 125):=by
 obtain⟨i0,hi0,UQ,hzs,hzb⟩:=info_parts hI
 have hsrc:Src Go.Proofs.Tryz.prog i0.size 35 (.slice (some ⟨vb,voff,none⟩) 1 vc) 1 vs w:=by
  rw[hzs];exact Src.ofSlice w hU ⟨vb,voff,none⟩ 1 vc vs an (fun j u hj=>by rw[Addr.add_lit];exact hvs j u hj) h1v
 have hold:(Builtin.firstCells i0.size n (.slice base n c)).run Go.Proofs.Tryz.prog w.drew= .ok cs.toArray w.drew:=by
  rw[hzs]
  cases base with
  |none=>
   have h0:=hnil rfl;subst h0;have:cs=[]:=DK (by simpa using hcl);subst this;simp[Builtin.firstCells]
  |some a=>exact run_firstCells_some w.drew 2 n a n c cs an (fun j v hj=>hcs a rfl j v hj)
 have mixed:=hM
 have hrun: ∀ty,(Builtin.append_ #[35,35] ty #[.slice base n c,.slice (some ⟨vb,voff,none⟩) 1 vc]).run Go.Proofs.Tryz.prog w=_:=fun ty=>
  run_append_grow_src w 35 35 ty 125 i0 _ hU hi0 UQ base n c cs hold _ 1 vs hsrc hroom an (by rw[hzb];exact growslice_fits hroom hbig)
 go_enter Go.Proofs.Tryz.func208,Go.Proofs.Tryz.ntmps208
 cases base with
 |none=>
  have h0:=hnil rfl;subst h0
  go_wp2_with (at_builtin;refine Lib.wpList_append_run _ rfl _ _ _ _ rfl _ _ rfl rfl _ _ (hrun _) ?_)
  go_ret
  exact⟨rfl,rfl⟩
 |some a=>
  obtain⟨ab,ao,asp⟩:=a
  go_wp2_with (at_builtin;refine Lib.wpList_append_run _ rfl _ _ _ _ rfl _ _ rfl rfl _ _ (hrun _) ?_)
  all_goals (go_ret;exact⟨rfl,rfl⟩)
set_option maxHeartbeats 4000000 in
set_option maxRecDepth 100000 in
theorem shift (b off n c i vb voff vc:Nat) (cs vs:List Value) (w:World) (hi:i<n) (hroom:n+1≤c) (hc63:c≤9223372036854775807) (hvb:vb≠b)
 (hcl:cs.length=n*2) (hvl:vs.length=2)
 (hcs: ∀j v,cs[j]?=some v→w.cell? ⟨b,off+j,none⟩=some v) (hsp: ∀j,j<(n+1)*2→(w.cell? ⟨b,off+j,none⟩).isSome=true) (hfz: ∀j,j<(n+1)*2→w.frozen? ⟨b,off+j,none⟩=false)
 (hvs: ∀j v,vs[j]?=some v→w.cell? ⟨vb,voff+j,none⟩=some v) (h1c: ∀v∈cs,v.oneCell'=true) (h1v: ∀v∈vs,v.oneCell'=true)
 (tA tB:TypeId) (kA kB:Nat) (hsa:w.shape? vb=some (tA,kA)) (hsb:w.shape? b=some (tB,kB)) (hkB:kB≠0) (hfa:w.frozen? ⟨vb,voff,none⟩=false) (hfe:w.frozen? ⟨vb,kA,none⟩=false):
 Calls Go.Proofs.Tryz.prog 208 #[.slice (some ⟨b,off,none⟩) n c,.int .i64 i,.slice (some ⟨vb,voff,none⟩) 1 vc] w fun e w'=>
  e= .returned (.slice (some ⟨b,off,none⟩) (n+1) c)∧w'=(w.drew.setCells b (off+(i+1)*2) (cs.drop (i*2))).setCells b (off+i*2) vs:=by
 have hz2: ¬((i:Int)=(n:Int)):=by omega
 have hov: ∀lb cb,(callFunc 242 #[.slice (some ⟨vb,voff,none⟩) 1 vc,.slice (some ⟨b,off+(i+1)*2,none⟩) lb cb]).run Go.Proofs.Tryz.prog w= .ok (.value (.bool false)) w:=fun lb cb=>by
  rw[run_callFunc_extern Go.Proofs.Tryz.func242 (by kernel_rfl) (by kernel_rfl) (by kernel_rfl) (e:=Extern.SlicesOverlaps.overlaps #[35,35] #[4]) (by kernel_rfl),
   Lib.run_overlaps_apart w 35 4 125 hU 2 (fun w=>by obtain⟨i0,hi0,_,hz1,_⟩:=info_parts hI;simp[sizeOf,typeInfo,hi0,hz1]) ⟨vb,voff,none⟩ ⟨b,off+(i+1)*2,none⟩ 1 vc lb cb hvb tA tB kA kB hsa hsb hkB hfa hfe]
  rfl
 have hdl:(cs.drop (i*2)).length=(n-i)*2:=by rw[jd,hcl];omega
 have mixed:=hM
 have hw1:IntKind.i64.wrap ((i:Int)+1)=(i:Int)+1:=by rw[IntKind.wrap_i64];omega
 have Xp:IntKind.i64.wrap ((n:Int)+1)=(n:Int)+1:=by rw[IntKind.wrap_i64];omega
 have hb1:(0:Int)≤(i:Int)+1:=by omega
 have hin:i≤n:=by omega
 have htn:((i:Int)+1).toNat=i+1:=by omega
 have htm:((n:Int)+1).toNat=n+1:=by omega
 have hb2: ¬(c=i+1):=by omega
 have hb3:(i:Int)≤(n:Int):=by omega
 have atk:(i:Int)≤(n:Int)+1:=by omega
 have hb4: ¬(c=i):=by omega
 have aqc: ∀ty dc sc,(Builtin.copy_ #[35,35] ty #[.slice (some ⟨b,off+(i+1)*2,none⟩) (n-i) dc,.slice (some ⟨b,off+i*2,none⟩) (n+1-i) sc]).run Go.Proofs.Tryz.prog w.drew= .ok (goInt (sP (n+1-i) (n-i))) (w.drew.setCells b (off+(i+1)*2) (cs.drop (i*2))):=fun ty dc sc=>
  KF w.drew _ _ ty 125 b (off+(i+1)*2) (n-i) dc ⟨b,off+i*2,none⟩ (n+1-i) sc 2 (cs.drop (i*2)) hU hS (by rw[hdl,show sP (n+1-i) (n-i)=n-i from by simp only[Nat.min_def];split<;>omega])
   (fun j v hj=>by rw[Addr.add_lit,ny];exact hcs (i*2+j) v (by rwa [uw] at hj))
   (fun j hj=>by rw[ny];exact hsp _ an) (fun j hj=>by rw[ny];exact hfz _ an) (fun v hv=>h1c v (zg hv))
 obtain⟨W1,hW1⟩: ∃W1,W1=w.drew.setCells b (off+(i+1)*2) (cs.drop (i*2)):=⟨_,rfl⟩
 have arF: ∀k,k<(n+1)*2→(W1.cell? ⟨b,off+k,none⟩).isSome=true:=fun k hk=>by
  rw[hW1];exact isSome_setCells b _ _ _ (fun j hj=>by rw[ny];exact hsp _ an) _ (hsp k hk)
 have arG: ∀(W:World),(∀x,W.cell? x=W1.cell? x)→(∀x,W.frozen? x=W1.frozen? x)→ ∀ty dc,(Builtin.copy_ #[35,35] ty #[.slice (some ⟨b,off+i*2,none⟩) (n+1-i) dc,.slice (some ⟨vb,voff,none⟩) 1 vc]).run Go.Proofs.Tryz.prog W= .ok (goInt (sP 1 (n+1-i))) (W.setCells b (off+i*2) vs):=fun W hWc hWf ty dc=>
  KF W _ _ ty 125 b (off+i*2) (n+1-i) dc ⟨vb,voff,none⟩ 1 vc 2 vs hU hS (by rw[hvl,show sP 1 (n+1-i)=1 from by simp only[Nat.min_def];split<;>omega])
   (fun j v hj=>by
     rw[Addr.add_lit,hWc,hW1,World.cell?_setCells_out b _ _ _ _ (fun h _=>absurd h hvb)]
     exact hvs j v hj)
   (fun j hj=>by rw[hWc,ny];exact arF _ an) (fun j hj=>by rw[hWf,hW1,World.frozen?_setCells,ny];exact hfz _ an) h1v
 rw[←hW1] at aqc
 go_enter Go.Proofs.Tryz.func208,Go.Proofs.Tryz.ntmps208
 go_wp2_with (simp only[hov])
 go_region_law_o (refine step_copy_runI rfl _ _ 35 35 rfl _ _ (by simp[Act.eval,Act.put]) (by simp[Act.eval,Act.put]) (aqc _ _ _) ?_)
 go_wp2_with (at_builtin;refine wpList_copy_runI _ rfl _ _ 35 35 rfl _ _ rfl rfl (arG _ (fun _=>rfl) (fun _=>rfl) _ _) ?_)
 go_ret
 first|exact⟨rfl,rfl⟩|exact⟨rfl,by rw[hW1]⟩
set_option maxHeartbeats 4000000 in
set_option maxRecDepth 100000 in
theorem grow (b off n c i vb voff vc:Nat) (cs vs:List Value) (w:World) (hi:i<n) (hnc:n≤c) (hroom:c<n+1) (hbig:(n+1)*16≤140737488355328)
 (hcl:cs.length=n*2) (hvl:vs.length=2)
 (hcs: ∀j v,cs[j]?=some v→w.cell? ⟨b,off+j,none⟩=some v)
 (hvs: ∀j v,vs[j]?=some v→w.cell? ⟨vb,voff+j,none⟩=some v) (h1c: ∀v∈cs,v.oneCell'=true) (h1v: ∀v∈vs,v.oneCell'=true):
 Calls Go.Proofs.Tryz.prog 208 #[.slice (some ⟨b,off,none⟩) n c,.int .i64 i,.slice (some ⟨vb,voff,none⟩) 1 vc] w fun e w'=>
  e= .returned (.slice (some ⟨w.heap.size,0,none⟩) (n+1) (grownCap w (n+1) c 125))∧
  w'=(((w.alloc (.cells ((cs.take (i*2)).toArray++Builtin.zeroCells (.agg #[.int .i64 0,.int .i64 0]:Value).cells (n+1-i)++Builtin.zeroCells (.agg #[.int .i64 0,.int .i64 0]:Value).cells (grownCap w (n+1) c 125-(n+1))) 125)).drew.setCells w.heap.size (i*2) vs).drew).setCells w.heap.size ((i+1)*2) (cs.drop (i*2)):=by
 obtain⟨i0,hi0,UQ,hzs,hzb⟩:=info_parts hI;have mixed:=hM
 have hz2: ¬((i:Int)=(n:Int)):=by omega
 have hz3:(c:Int)<(n:Int)+1:=by omega
 have hbw:b<w.heap.size:=block_lt_of_cell (hcs 0 _ (cw an));have hvw:vb<w.heap.size:=block_lt_of_cell (hvs 0 _ (cw an))
 have hkk:(n:Int)+1-(i:Int)=((n+1-i:Nat):Int):=by omega
 have hik:i+(n+1-i)=n+1:=by omega
 have hold:(Builtin.firstCells i0.size i (.slice (some ⟨b,off,none⟩) i c)).run Go.Proofs.Tryz.prog w.drew= .ok (cs.take (i*2)).toArray w.drew:=by
  rw[hzs]
  exact run_firstCells_some w.drew 2 i ⟨b,off,none⟩ i c (cs.take (i*2)) (by rw[fu];omega) (fun j v hj=>by
   rw[Addr.add_lit];rw[DL] at hj
   split at hj
   ·exact hcs j v hj
   ·cases hj)
 have hrz: ∀ty,(Builtin.append_ #[35,3] ty #[.slice (some ⟨b,off,none⟩) i c,.int .i64 ((n:Int)+1-(i:Int))]).run Go.Proofs.Tryz.prog w=
  .ok (.slice (some ⟨w.heap.size,0,none⟩) (n+1) (grownCap w (n+1) c 125)) (w.drew.alloc (.cells ((cs.take (i*2)).toArray++Builtin.zeroCells (.agg #[.int .i64 0,.int .i64 0]:Value).cells (n+1-i)++Builtin.zeroCells (.agg #[.int .i64 0,.int .i64 0]:Value).cells (grownCap w (n+1) c 125-(n+1))) 125)):=fun ty=>by
  have h:=Lib.run_append_grow_zeros w 35 3 ty 125 i0 _ .i64 .i64 hU hUi hi0 UQ (some ⟨b,off,none⟩) i c (cs.take (i*2)) hold (n+1-i) an an an an (by rw[hzb];omega) (by rw[hzb,hik];exact growslice_fits hroom hbig);rw[hik] at h;rw[hkk];exact h
 obtain⟨G,hG⟩: ∃G,G=grownCap w (n+1) c 125:=⟨_,rfl⟩;obtain⟨ROW,Xj⟩: ∃ROW:Array Value,ROW=(cs.take (i*2)).toArray++Builtin.zeroCells (.agg #[.int .i64 0,.int .i64 0]:Value).cells (n+1-i)++Builtin.zeroCells (.agg #[.int .i64 0,.int .i64 0]:Value).cells (G-(n+1)):=⟨_,rfl⟩;rw[←hG] at hrz ⊢;rw[←Xj] at hrz ⊢
 have hRl:(n+1)*2≤ROW.size:=by
  rw[Xj];simp[Builtin.zeroCells,Value.cells];omega
 obtain⟨W1,hW1⟩: ∃W1,W1=w.drew.alloc (.cells ROW 125):=⟨_,rfl⟩;rw[←hW1] at hrz
 have hN: ∀j,j<(n+1)*2→(W1.cell? ⟨w.heap.size,j,none⟩).isSome=true:=fun j hj=>by
  rw[hW1,World.cell?_alloc_at (w:=w.drew) ROW _ w.heap.size j rfl,zf an];rfl
 have hNf: ∀j,W1.frozen? ⟨w.heap.size,j,none⟩=false:=fun j=>by rw[hW1];exact World.frozen?_alloc_at (w:=w.drew) ROW _ w.heap.size j rfl
 have hOb: ∀j v,w.cell? ⟨b,j,none⟩=some v→W1.cell? ⟨b,j,none⟩=some v:=fun j v h=>by rw[hW1,World.cell?_alloc_past (w:=w.drew) _ b j hbw];exact h
 have hOv: ∀j v,w.cell? ⟨vb,j,none⟩=some v→W1.cell? ⟨vb,j,none⟩=some v:=fun j v h=>by rw[hW1,World.cell?_alloc_past (w:=w.drew) _ vb j hvw];exact h
 have arH: ∀(W:World),(∀x,W.cell? x=W1.cell? x)→(∀x,W.frozen? x=W1.frozen? x)→ ∀ty dc,(Builtin.copy_ #[35,35] ty #[.slice (some ⟨w.heap.size,i*2,none⟩) (n+1-i) dc,.slice (some ⟨vb,voff,none⟩) 1 vc]).run Go.Proofs.Tryz.prog W= .ok (goInt (sP 1 (n+1-i))) (W.setCells w.heap.size (i*2) vs):=fun W hWc hWf ty dc=>
  KF W _ _ ty 125 w.heap.size (i*2) (n+1-i) dc ⟨vb,voff,none⟩ 1 vc 2 vs hU hS (by rw[hvl,show sP 1 (n+1-i)=1 from by simp only[Nat.min_def];split<;>omega])
   (fun j v hj=>by rw[Addr.add_lit,hWc];exact hOv _ v (hvs j v hj))
   (fun j hj=>by rw[hWc];exact hN _ an) (fun j hj=>by rw[hWf];exact hNf _) h1v
 have hGn:n+1≤G:=by rw[hG];exact grownCap_ge w _ _ _
 have hG63:G≤9223372036854775807:=by
  have:=grownCap_le_maxLen w (n+1) c 125 (by unfold maxLen;omega);rw[←hG] at this;unfold maxLen at this;omega
 have hGi: ¬(G=i):=by omega
 have ato: ¬(G=i+1):=by omega
 have hci: ¬(c=i):=by omega
 have hbN:b≠w.heap.size:=by omega
 have hdl:(cs.drop (i*2)).length=(n-i)*2:=by rw[jd,hcl];omega
 have aqe: ∀(W:World),(∀x,W.cell? x=(W1.setCells w.heap.size (i*2) vs).cell? x)→(∀x,W.frozen? x=(W1.setCells w.heap.size (i*2) vs).frozen? x)→ ∀ty dc sc,(Builtin.copy_ #[35,35] ty #[.slice (some ⟨w.heap.size,(i+1)*2,none⟩) (n+1-(i+1)) dc,.slice (some ⟨b,off+i*2,none⟩) (n-i) sc]).run Go.Proofs.Tryz.prog W= .ok (goInt (sP (n-i) (n+1-(i+1)))) (W.setCells w.heap.size ((i+1)*2) (cs.drop (i*2))):=fun W hWc hWf ty dc sc=>
  KF W _ _ ty 125 w.heap.size ((i+1)*2) (n+1-(i+1)) dc ⟨b,off+i*2,none⟩ (n-i) sc 2 (cs.drop (i*2)) hU hS (by rw[hdl,show sP (n-i) (n+1-(i+1))=n-i from by simp only[Nat.min_def];split<;>omega])
   (fun j v hj=>by
     rw[Addr.add_lit,hWc,World.cell?_setCells_out _ _ _ _ _ (fun h _=>absurd h hbN),ny]
     exact hOb _ v (hcs (i*2+j) v (by rwa [uw] at hj)))
   (fun j hj=>by rw[hWc];exact isSome_setCells _ _ _ _ (fun t ht=>hN _ an) _ (hN _ an))
   (fun j hj=>by rw[hWf,World.frozen?_setCells];exact hNf _) (fun v hv=>h1c v (zg hv))
 subst hW1;have hE1: ∀x,((w.alloc (.cells ROW 125)).drew).cell? x=(w.drew.alloc (.cells ROW 125)).cell? x:=fun x=>rfl;have hE2: ∀x,((w.alloc (.cells ROW 125)).drew).frozen? x=(w.drew.alloc (.cells ROW 125)).frozen? x:=fun x=>rfl;have hF1: ∀x,(((w.alloc (.cells ROW 125)).drew.setCells w.heap.size (i*2) vs).drew).cell? x=((w.drew.alloc (.cells ROW 125)).setCells w.heap.size (i*2) vs).cell? x:=fun x=>rfl
 have hF2: ∀x,(((w.alloc (.cells ROW 125)).drew.setCells w.heap.size (i*2) vs).drew).frozen? x=((w.drew.alloc (.cells ROW 125)).setCells w.heap.size (i*2) vs).frozen? x:=fun x=>rfl
 have hw1:IntKind.i64.wrap ((i:Int)+1)=(i:Int)+1:=by rw[IntKind.wrap_i64];omega
 have Xp:IntKind.i64.wrap ((n:Int)+1)=(n:Int)+1:=by rw[IntKind.wrap_i64];omega
 have hw3:IntKind.i64.wrap ((n:Int)+1-(i:Int))=(n:Int)+1-(i:Int):=by rw[IntKind.wrap_i64];omega
 have hb1:(0:Int)≤(i:Int)+1:=by omega
 have hin:i≤n:=by omega
 have htn:((i:Int)+1).toNat=i+1:=by omega
 have hb3:(i:Int)≤(n:Int):=by omega
 clear hkk hik hold Xj hG hRl
 go_enter Go.Proofs.Tryz.func208,Go.Proofs.Tryz.ntmps208
 go_wp2_with (first
  |(at_builtin;refine Lib.wpList_append_run _ rfl _ _ _ _ rfl _ _ rfl rfl _ _ (hrz _) ?_)
  |(at_builtin;refine wpList_copy_runI _ rfl _ _ 35 35 rfl _ _ rfl rfl (arH _ hE1 hE2 _ _) ?_)
  |(at_builtin;refine wpList_copy_runI _ rfl _ _ 35 35 rfl _ _ rfl rfl (aqe _ (fun _=>rfl) (fun _=>rfl) _ _ _) ?_))
 go_region_law_o (refine step_copy_runI rfl _ _ 35 35 rfl (.slice (some ⟨w.heap.size,(i+1)*2,none⟩) (n+1-(i+1)) (G-(i+1))) (.slice (some ⟨b,off+i*2,none⟩) (n-i) (c-i)) (by simp[Act.eval,Act.put]) (by simp[Act.eval,Act.put]) (aqe _ hF1 hF2 3 (G-(i+1)) (c-i)) ?_)
 go_wp2
 go_ret
 exact⟨rfl,rfl⟩
set_option maxHeartbeats 4000000 in
set_option maxRecDepth 100000 in
theorem afk {P:Program} (w:World) (t e ty:TypeId) (zv:Value) (vs:List Value) (ht:P.underlying t=some (.slice e)) (hv: ∀w,(zeroValue e).run P w= .ok zv w) (b o n c:Nat) (hvs:(Builtin.zeroCells zv.cells n).toList=vs) (h1: ∀v∈vs,v.oneCell'=true) (hn:0<n)
 (hc: ∀j,j<vs.length→(w.cell? ⟨b,o+j,none⟩).isSome=true) (hf: ∀j,j<vs.length→w.frozen? ⟨b,o+j,none⟩=false):
 (Builtin.clear_ #[t] ty #[.slice (some ⟨b,o,none⟩) n c]).run P w= .ok (.tuple #[]) (w.setCells b o vs):=by
 have hst:=run_storeCells_cells (P:=P) b o vs 0 w (by simpa using hc) (by simpa using hf) h1;simp only[xz] at hst;obtain⟨m,rfl⟩: ∃m,n=m+1:=⟨n-1,by omega⟩;simp[Builtin.clear_,run_underlying ht,hv,hvs,hst]
theorem hV: ∀w,(zeroValue 125).run Go.Proofs.Tryz.prog w= .ok (.agg #[.int .i64 0,.int .i64 0]) w:=fun w=>by
 obtain⟨i0,hi0,UQ,hzs,hzb⟩:=info_parts hI;simp[zeroValue,typeInfo,hi0,UQ]
def zs:List Value:=(Builtin.zeroCells (.agg #[.int .i64 0,.int .i64 0]:Value).cells 1).toList
theorem afl:zs.length=2:=by decide+kernel
theorem anT: ∀v∈zs,v.oneCell'=true:=by decide+kernel
set_option maxHeartbeats 4000000 in
set_option maxRecDepth 1000000 in
theorem delete (b off n c i j:Nat) (cs:List Value) (w:World) (hi:i<n) (hji:j=i+1) (hnc:n≤c) (hm:c≤9223372036854775807) (hcl:cs.length=n*2)
 (hcs: ∀j v,cs[j]?=some v→w.cell? ⟨b,off+j,none⟩=some v) (hfz: ∀j,j<n*2→w.frozen? ⟨b,off+j,none⟩=false) (h1c: ∀v∈cs,v.oneCell'=true):
 Calls Go.Proofs.Tryz.prog 232 #[.slice (some ⟨b,off,none⟩) n c,.int .i64 i,.int .i64 j] w fun e w'=>
  e= .returned (.slice (some ⟨b,off,none⟩) (n-1) c)∧w'=(w.drew.setCells b (off+i*2) (cs.drop (j*2))).setCells b (off+(n-1)*2) zs:=by
 obtain⟨i0,hi0,UQ,hz1,hz2⟩:=info_parts hI;have mixed:=hM
 have hij: ¬((i:Int)=(j:Int)):=by omega
 have hs: ∀j,j<n*2→(w.cell? ⟨b,off+j,none⟩).isSome=true:=fun j hj=>by
  rw[hcs j _ (cw an)];rfl
 obtain⟨news,hnews⟩: ∃news,news=cs.drop (j*2):=⟨_,rfl⟩
 have hlen:news.length=(n-j)*2:=by rw[hnews,jd,hcl];omega
 obtain⟨A,hA,hsrc⟩: ∃A:Addr,(if c=j then some (⟨b,off,none⟩:Addr) else some ⟨b,off+j*2,none⟩)=some A∧Hid (∀t u,news[t]?=some u→w.drew.cell? (A.add t)=some u):=by
  by_cases h:c=j
  ·refine⟨⟨b,off,none⟩,by simp[h],fun t u hu=> ?_⟩
   have h0:news.length=0:=by rw[hlen];omega
   rw[List.length_eq_zero_iff.1 h0] at hu;simp at hu
  ·refine⟨⟨b,off+j*2,none⟩,by simp[h],fun t u hu=> ?_⟩
   rw[Addr.add_lit,ny];rw[hnews,uw] at hu;exact hcs _ u hu
 have s1:Hid (news.length=(n-j)*2):=hlen;have s2:Hid (∀u∈news,u.oneCell'=true):=fun u hu=>h1c u (by rw[hnews] at hu;exact zg hu)
 have s3:Hid (∀t,t<news.length→(w.drew.cell? ⟨b,off+i*2+t,none⟩).isSome=true∧w.drew.frozen? ⟨b,off+i*2+t,none⟩=false):=fun t ht=>by
  rw[ny];exact⟨hs _ an,hfz _ an⟩
 obtain⟨W1,hW1⟩: ∃W1,W1=w.drew.setCells b (off+i*2) news:=⟨_,rfl⟩
 have UP: ∀k,k<n*2→(W1.cell? ⟨b,off+k,none⟩).isSome=true:=fun k hk=>by
  rw[hW1];exact isSome_setCells b _ _ _ (fun j hj=>by rw[ny];exact hs _ an) _ (hs k hk)
 have hf1: ∀k,k<n*2→W1.frozen? ⟨b,off+k,none⟩=false:=fun k hk=>by
  rw[hW1,World.frozen?_setCells];exact hfz k hk
 have hcl: ∀ty,(Builtin.clear_ #[35] ty #[.slice (some ⟨b,off+(i+(n-j))*2,none⟩) (n-(i+(n-j))) (c-(i+(n-j)))]).run Go.Proofs.Tryz.prog W1= .ok (.tuple #[]) (W1.setCells b (off+(i+(n-j))*2) zs):=fun ty=>
  afk W1 _ _ ty _ zs hU hV b _ _ _ (by rw[show n-(i+(n-j))=1 by omega];rfl) anT an (fun t ht=>by rw[afl] at ht;rw[ny];exact UP _ an) (fun t ht=>by rw[afl] at ht;rw[ny];exact hf1 _ an)
 have hW:Hid (W1=w.drew.setCells b (off+i*2) news):=hW1
 have hic:i≤c:=by omega
 have hjc:j≤c:=by omega
 have atv:i≤j:=by omega
 have hjn:j≤n:=by omega
 have hres:((n-1:Nat):Nat)=i+(n-j):=by omega
 rw[←hnews,←hW1,hres];clear hW1 UP hf1 hnews hlen hs hcs hfz hres hji
 go_enter Go.Proofs.Tryz.func232,Go.Proofs.Tryz.ntmps232
 go_wp2_with fail
 go_region_law_o (refine step_append_room rfl (.tmp 22) (.tmp 25) 35 rfl 125 i0 2 hU hi0 hz1 b off i c (by simp[Act.eval,Act.put]) A (n-j) (c-j) news (by simp[Act.eval,Act.put]) s1.out hsrc.out s2.out an s3.out ?_;rw[←hW.out])
 go_wp2
 go_ret
 exact⟨rfl,rfl⟩
theorem aqU:Go.T.ajC Go.Proofs.Tryz.prog 208 125 16 2 (.agg #[.int .i64 0,.int .i64 0]):=⟨by decide,by decide+kernel,VY,VZ,shift,grow⟩
theorem aqV: ∃fn c,(Go.Proofs.Tryz.prog).funcs[(208:Nat)]?=some fn∧fn.body=some c:=⟨Go.Proofs.Tryz.f208,_,Go.Proofs.Tryz.func208,rfl⟩
theorem aqW:Go.T.anG Go.Proofs.Tryz.prog 232 2 zs:=⟨by decide,afl,delete⟩
theorem aqX: ∃fn c,(Go.Proofs.Tryz.prog).funcs[(232:Nat)]?=some fn∧fn.body=some c:=⟨Go.Proofs.Tryz.f232,_,Go.Proofs.Tryz.func232,rfl⟩
end Go.T.InsA
