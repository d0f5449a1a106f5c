import Derived.Test.YtlkjkfidmkdchaaGreatProg
import Derived.Shelf.Spec.SlicesInsertGrow
import Derived.KernelRfl
import Derived.Deep.RegionLaw
import Derived.Lib.SliceRun
import Derived.Test.YtlkjkfidmkdchaaGreatT7
set_option linter.all false
namespace Go.T.InsM
open Go Go.RowKit Go.Lib Go.Proofs Go.Shelf
theorem HH {P:Program} (w:World) (dT sT ty elem:TypeId) (b o dLen dCap:Nat) (a:Addr) (sLen sCap z:Nat) (cs:List Value)
 (hu:P.underlying dT=some (.slice elem)) (hs:(P.info? elem).map (·.size)=some z) (hn:cs.length=qj sLen dLen*z)
 (hsrc: ∀j v,cs[j]?=some v→w.cell? (a.add j)=some v) (hc: ∀j,j<cs.length→(w.cell? ⟨b,o+j,none⟩).isSome=true) (hf: ∀j,j<cs.length→w.frozen? ⟨b,o+j,none⟩=false) (h1: ∀v∈cs,v.oneCell'=true):
 (Builtin.copy_ #[dT,sT] ty #[.slice (some ⟨b,o,none⟩) dLen dCap,.slice (some a) sLen sCap]).run P w= .ok (goInt (qj sLen dLen)) (w.setCells b o cs):=by
 have hl:=run_loadCells_list (P:=P) w a cs hsrc;have hst:=run_storeCells_cells (P:=P) b o cs 0 w (by simpa using hc) (by simpa using hf) h1
 cases hq:P.info? elem with
 |none=>simp[hq] at hs
 |some i=>
  have hi:i.size=z:=by simpa [hq] using hs
  simp[Builtin.copy_,run_underlying hu,Builtin.lenOf,Builtin.firstCells,sizeOf,typeInfo,hq,hi,←hn,hl,hst]
theorem hU:Go.Proofs.Tryz.prog.underlying 50=some (.slice 90):=by kernel_rfl
theorem hUi:Go.Proofs.Tryz.prog.underlying 3=some (.int .i64):=by kernel_rfl
theorem hI:(Go.Proofs.Tryz.prog.info? 90).map (fun i=>(i.zero,i.size,i.bytes))=some (some (.agg #[.string ⟨#[]⟩,.bool false,.slice none 0 0]),3,48):=by kernel_rfl
theorem hS:(Go.Proofs.Tryz.prog.info? 90).map (·.size)=some 3:=by kernel_rfl
theorem hM:Go.Proofs.Tryz.prog.follows .mixedOrders=true:=by kernel_rfl
set_option maxHeartbeats 4000000 in
set_option maxRecDepth 100000 in
theorem R5 (b off n c vb voff vc:Nat) (vs:List Value) (w:World) (hroom:n+1≤c) (hc63:c≤9223372036854775807)
 (hvl:vs.length=3) (hsp: ∀j,j<3→(w.cell? ⟨b,off+n*3+j,none⟩).isSome=true) (hfz: ∀j,j<3→w.frozen? ⟨b,off+n*3+j,none⟩=false)
 (hvs: ∀j v,vs[j]?=some v→w.cell? ⟨vb,voff+j,none⟩=some v) (h1v: ∀v∈vs,v.oneCell'=true):
 Calls Go.Proofs.Tryz.prog 121 #[.slice (some ⟨b,off,none⟩) n c,.int .i64 n,.slice (some ⟨vb,voff,none⟩) 1 vc] w fun e w'=>
  e= .returned (.slice (some ⟨b,off,none⟩) (n+1) c)∧w'=w.setCells b (off+n*3) vs:=by
 obtain⟨i0,hi0,Qg,hz1,hz2⟩:=info_parts hI;have hsrc:Src Go.Proofs.Tryz.prog i0.size 50 (.slice (some ⟨vb,voff,none⟩) 1 vc) 1 vs w:=Src.ofSlice w hU ⟨vb,voff,none⟩ 1 vc vs au (fun j u hj=>by rw[Addr.add_lit];exact hvs j u hj) h1v
 go_enter Go.Proofs.Tryz.func121,Go.Proofs.Tryz.ntmps121
 go_wp2_with (at_builtin;refine Go.wpList_append_room_src _ rfl _ _ 50 50 rfl 90 i0 hU hi0 b off n c rfl _ rfl 1 vs hsrc hroom (by rw[hz1,hvl];exact hsp) (by rw[hz1,hvl];exact hfz) ?_)
 go_ret
 exact⟨rfl,rfl⟩
set_option maxHeartbeats 4000000 in
set_option maxRecDepth 100000 in
theorem R6 (base:Option Addr) (n c vb voff vc:Nat) (cs vs:List Value) (w:World) (hnc:n≤c) (hroom:c<n+1) (hbig:(n+1)*48≤140737488355328)
 (hcl:cs.length=n*3) (hvl:vs.length=3) (hnil:base=none→n=0)
 (hcs: ∀a,base=some a→ ∀j v,cs[j]?=some v→w.cell? (a.add j)=some v)
 (hvs: ∀j v,vs[j]?=some v→w.cell? ⟨vb,voff+j,none⟩=some v) (h1v: ∀v∈vs,v.oneCell'=true):
 Calls Go.Proofs.Tryz.prog 121 #[.slice base n c,.int .i64 n,.slice (some ⟨vb,voff,none⟩) 1 vc] w fun e w'=>
  e= .returned (.slice (some ⟨w.heap.size,0,none⟩) (n+1) (grownCap w (n+1) c 90))∧
  w'=w.drew.alloc (.cells ((cs++vs).toArray++Builtin.zeroCells (.agg #[.string ⟨#[]⟩,.bool false,.slice none 0 0]:Value).cells (grownCap w (n+1) c 90-(n+1))) 90):=by
 obtain⟨i0,hi0,Qg,hzs,hzb⟩:=info_parts hI
 have hsrc:Src Go.Proofs.Tryz.prog i0.size 50 (.slice (some ⟨vb,voff,none⟩) 1 vc) 1 vs w:=by
  rw[hzs];exact Src.ofSlice w hU ⟨vb,voff,none⟩ 1 vc vs au (fun j u hj=>by rw[Addr.add_lit];exact hvs j u hj) h1v
 have hold:(Builtin.firstCells i0.size n (.slice base n c)).run Go.Proofs.Tryz.prog w.drew= .ok cs.toArray w.drew:=by
  rw[hzs]
  cases base with
  |none=>
   have h0:=hnil rfl;subst h0;have:cs=[]:=Dt (by simpa using hcl);subst this;simp[Builtin.firstCells]
  |some a=>exact run_firstCells_some w.drew 3 n a n c cs au (fun j v hj=>hcs a rfl j v hj)
 have mixed:=hM
 have hrun: ∀ty,(Builtin.append_ #[50,50] ty #[.slice base n c,.slice (some ⟨vb,voff,none⟩) 1 vc]).run Go.Proofs.Tryz.prog w=_:=fun ty=>
  run_append_grow_src w 50 50 ty 90 i0 _ hU hi0 Qg base n c cs hold _ 1 vs hsrc hroom au (by rw[hzb];exact growslice_fits hroom hbig)
 go_enter Go.Proofs.Tryz.func121,Go.Proofs.Tryz.ntmps121
 cases base with
 |none=>
  have h0:=hnil rfl;subst h0
  go_wp2_with (at_builtin;refine Lib.wpList_append_run _ rfl _ _ _ _ rfl _ _ rfl rfl _ _ (hrun _) ?_)
  go_ret
  exact⟨rfl,rfl⟩
 |some a=>
  obtain⟨ab,ao,asp⟩:=a
  go_wp2_with (at_builtin;refine Lib.wpList_append_run _ rfl _ _ _ _ rfl _ _ rfl rfl _ _ (hrun _) ?_)
  all_goals (go_ret;exact⟨rfl,rfl⟩)
set_option maxHeartbeats 4000000 in
set_option maxRecDepth 100000 in
theorem shift (b off n c i vb voff vc:Nat) (cs vs:List Value) (w:World) (hi:i<n) (hroom:n+1≤c) (hc63:c≤9223372036854775807) (hvb:vb≠b)
 (hcl:cs.length=n*3) (hvl:vs.length=3)
 (hcs: ∀j v,cs[j]?=some v→w.cell? ⟨b,off+j,none⟩=some v) (hsp: ∀j,j<(n+1)*3→(w.cell? ⟨b,off+j,none⟩).isSome=true) (hfz: ∀j,j<(n+1)*3→w.frozen? ⟨b,off+j,none⟩=false)
 (hvs: ∀j v,vs[j]?=some v→w.cell? ⟨vb,voff+j,none⟩=some v) (h1c: ∀v∈cs,v.oneCell'=true) (h1v: ∀v∈vs,v.oneCell'=true)
 (tA tB:TypeId) (kA kB:Nat) (hsa:w.shape? vb=some (tA,kA)) (hsb:w.shape? b=some (tB,kB)) (hkB:kB≠0) (hfa:w.frozen? ⟨vb,voff,none⟩=false) (hfe:w.frozen? ⟨vb,kA,none⟩=false):
 Calls Go.Proofs.Tryz.prog 121 #[.slice (some ⟨b,off,none⟩) n c,.int .i64 i,.slice (some ⟨vb,voff,none⟩) 1 vc] w fun e w'=>
  e= .returned (.slice (some ⟨b,off,none⟩) (n+1) c)∧w'=(w.drew.setCells b (off+(i+1)*3) (cs.drop (i*3))).setCells b (off+i*3) vs:=by
 have hz2: ¬((i:Int)=(n:Int)):=by omega
 have hov: ∀lb cb,(callFunc 151 #[.slice (some ⟨vb,voff,none⟩) 1 vc,.slice (some ⟨b,off+(i+1)*3,none⟩) lb cb]).run Go.Proofs.Tryz.prog w= .ok (.value (.bool false)) w:=fun lb cb=>by
  rw[run_callFunc_extern Go.Proofs.Tryz.func151 (by kernel_rfl) (by kernel_rfl) (by kernel_rfl) (e:=Extern.SlicesOverlaps.overlaps #[50,50] #[4]) (by kernel_rfl),
   Lib.run_overlaps_apart w 50 4 90 hU 3 (fun w=>by obtain⟨i0,hi0,_,hz1,_⟩:=info_parts hI;simp[sizeOf,typeInfo,hi0,hz1]) ⟨vb,voff,none⟩ ⟨b,off+(i+1)*3,none⟩ 1 vc lb cb hvb tA tB kA kB hsa hsb hkB hfa hfe]
  rfl
 have hdl:(cs.drop (i*3)).length=(n-i)*3:=by rw[gQ,hcl];omega
 have mixed:=hM
 have hw1:IntKind.i64.wrap ((i:Int)+1)=(i:Int)+1:=by rw[IntKind.wrap_i64];omega
 have Vm:IntKind.i64.wrap ((n:Int)+1)=(n:Int)+1:=by rw[IntKind.wrap_i64];omega
 have hb1:(0:Int)≤(i:Int)+1:=by omega
 have hin:i≤n:=by omega
 have htn:((i:Int)+1).toNat=i+1:=by omega
 have htm:((n:Int)+1).toNat=n+1:=by omega
 have hb2: ¬(c=i+1):=by omega
 have hb3:(i:Int)≤(n:Int):=by omega
 have aqa:(i:Int)≤(n:Int)+1:=by omega
 have hb4: ¬(c=i):=by omega
 have amd: ∀ty dc sc,(Builtin.copy_ #[50,50] ty #[.slice (some ⟨b,off+(i+1)*3,none⟩) (n-i) dc,.slice (some ⟨b,off+i*3,none⟩) (n+1-i) sc]).run Go.Proofs.Tryz.prog w.drew= .ok (goInt (qj (n+1-i) (n-i))) (w.drew.setCells b (off+(i+1)*3) (cs.drop (i*3))):=fun ty dc sc=>
  HH w.drew _ _ ty 90 b (off+(i+1)*3) (n-i) dc ⟨b,off+i*3,none⟩ (n+1-i) sc 3 (cs.drop (i*3)) hU hS (by rw[hdl,show qj (n+1-i) (n-i)=n-i from by simp only[Nat.min_def];split<;>omega])
   (fun j v hj=>by rw[Addr.add_lit,nO];exact hcs (i*3+j) v (by rwa [o5] at hj))
   (fun j hj=>by rw[nO];exact hsp _ au) (fun j hj=>by rw[nO];exact hfz _ au) (fun v hv=>h1c v (rD hv))
 obtain⟨W1,Yj⟩: ∃W1,W1=w.drew.setCells b (off+(i+1)*3) (cs.drop (i*3)):=⟨_,rfl⟩
 have anY: ∀k,k<(n+1)*3→(W1.cell? ⟨b,off+k,none⟩).isSome=true:=fun k hk=>by
  rw[Yj];exact isSome_setCells b _ _ _ (fun j hj=>by rw[nO];exact hsp _ au) _ (hsp k hk)
 have anZ: ∀(W:World),(∀x,W.cell? x=W1.cell? x)→(∀x,W.frozen? x=W1.frozen? x)→ ∀ty dc,(Builtin.copy_ #[50,50] ty #[.slice (some ⟨b,off+i*3,none⟩) (n+1-i) dc,.slice (some ⟨vb,voff,none⟩) 1 vc]).run Go.Proofs.Tryz.prog W= .ok (goInt (qj 1 (n+1-i))) (W.setCells b (off+i*3) vs):=fun W hWc hWf ty dc=>
  HH W _ _ ty 90 b (off+i*3) (n+1-i) dc ⟨vb,voff,none⟩ 1 vc 3 vs hU hS (by rw[hvl,show qj 1 (n+1-i)=1 from by simp only[Nat.min_def];split<;>omega])
   (fun j v hj=>by
     rw[Addr.add_lit,hWc,Yj,World.cell?_setCells_out b _ _ _ _ (fun h _=>absurd h hvb)]
     exact hvs j v hj)
   (fun j hj=>by rw[hWc,nO];exact anY _ au) (fun j hj=>by rw[hWf,Yj,World.frozen?_setCells,nO];exact hfz _ au) h1v
 rw[←Yj] at amd
 go_enter Go.Proofs.Tryz.func121,Go.Proofs.Tryz.ntmps121
 go_wp2_with (simp only[hov])
 go_region_law_o (refine step_copy_runI rfl _ _ 50 50 rfl _ _ (by simp[Act.eval,Act.put]) (by simp[Act.eval,Act.put]) (amd _ _ _) ?_)
 go_wp2_with (at_builtin;refine wpList_copy_runI _ rfl _ _ 50 50 rfl _ _ rfl rfl (anZ _ (fun _=>rfl) (fun _=>rfl) _ _) ?_)
 go_ret
 first|exact⟨rfl,rfl⟩|exact⟨rfl,by rw[Yj]⟩
set_option maxHeartbeats 4000000 in
set_option maxRecDepth 100000 in
theorem grow (b off n c i vb voff vc:Nat) (cs vs:List Value) (w:World) (hi:i<n) (hnc:n≤c) (hroom:c<n+1) (hbig:(n+1)*48≤140737488355328)
 (hcl:cs.length=n*3) (hvl:vs.length=3)
 (hcs: ∀j v,cs[j]?=some v→w.cell? ⟨b,off+j,none⟩=some v)
 (hvs: ∀j v,vs[j]?=some v→w.cell? ⟨vb,voff+j,none⟩=some v) (h1c: ∀v∈cs,v.oneCell'=true) (h1v: ∀v∈vs,v.oneCell'=true):
 Calls Go.Proofs.Tryz.prog 121 #[.slice (some ⟨b,off,none⟩) n c,.int .i64 i,.slice (some ⟨vb,voff,none⟩) 1 vc] w fun e w'=>
  e= .returned (.slice (some ⟨w.heap.size,0,none⟩) (n+1) (grownCap w (n+1) c 90))∧
  w'=(((w.alloc (.cells ((cs.take (i*3)).toArray++Builtin.zeroCells (.agg #[.string ⟨#[]⟩,.bool false,.slice none 0 0]:Value).cells (n+1-i)++Builtin.zeroCells (.agg #[.string ⟨#[]⟩,.bool false,.slice none 0 0]:Value).cells (grownCap w (n+1) c 90-(n+1))) 90)).drew.setCells w.heap.size (i*3) vs).drew).setCells w.heap.size ((i+1)*3) (cs.drop (i*3)):=by
 obtain⟨i0,hi0,Qg,hzs,hzb⟩:=info_parts hI;have mixed:=hM
 have hz2: ¬((i:Int)=(n:Int)):=by omega
 have hz3:(c:Int)<(n:Int)+1:=by omega
 have hbw:b<w.heap.size:=block_lt_of_cell (hcs 0 _ (bC au));have hvw:vb<w.heap.size:=block_lt_of_cell (hvs 0 _ (bC au))
 have hkk:(n:Int)+1-(i:Int)=((n+1-i:Nat):Int):=by omega
 have hik:i+(n+1-i)=n+1:=by omega
 have hold:(Builtin.firstCells i0.size i (.slice (some ⟨b,off,none⟩) i c)).run Go.Proofs.Tryz.prog w.drew= .ok (cs.take (i*3)).toArray w.drew:=by
  rw[hzs]
  exact run_firstCells_some w.drew 3 i ⟨b,off,none⟩ i c (cs.take (i*3)) (by rw[c7];omega) (fun j v hj=>by
   rw[Addr.add_lit];rw[zG] at hj
   split at hj
   ·exact hcs j v hj
   ·cases hj)
 have hrz: ∀ty,(Builtin.append_ #[50,3] ty #[.slice (some ⟨b,off,none⟩) i c,.int .i64 ((n:Int)+1-(i:Int))]).run Go.Proofs.Tryz.prog w=
  .ok (.slice (some ⟨w.heap.size,0,none⟩) (n+1) (grownCap w (n+1) c 90)) (w.drew.alloc (.cells ((cs.take (i*3)).toArray++Builtin.zeroCells (.agg #[.string ⟨#[]⟩,.bool false,.slice none 0 0]:Value).cells (n+1-i)++Builtin.zeroCells (.agg #[.string ⟨#[]⟩,.bool false,.slice none 0 0]:Value).cells (grownCap w (n+1) c 90-(n+1))) 90)):=fun ty=>by
  have h:=Lib.run_append_grow_zeros w 50 3 ty 90 i0 _ .i64 .i64 hU hUi hi0 Qg (some ⟨b,off,none⟩) i c (cs.take (i*3)) hold (n+1-i) au au au au (by rw[hzb];omega) (by rw[hzb,hik];exact growslice_fits hroom hbig);rw[hik] at h;rw[hkk];exact h
 obtain⟨G,hG⟩: ∃G,G=grownCap w (n+1) c 90:=⟨_,rfl⟩;obtain⟨ROW,Tz⟩: ∃ROW:Array Value,ROW=(cs.take (i*3)).toArray++Builtin.zeroCells (.agg #[.string ⟨#[]⟩,.bool false,.slice none 0 0]:Value).cells (n+1-i)++Builtin.zeroCells (.agg #[.string ⟨#[]⟩,.bool false,.slice none 0 0]:Value).cells (G-(n+1)):=⟨_,rfl⟩;rw[←hG] at hrz ⊢;rw[←Tz] at hrz ⊢
 have hRl:(n+1)*3≤ROW.size:=by
  rw[Tz];simp[Builtin.zeroCells,Value.cells];omega
 obtain⟨W1,Yj⟩: ∃W1,W1=w.drew.alloc (.cells ROW 90):=⟨_,rfl⟩;rw[←Yj] at hrz
 have hN: ∀j,j<(n+1)*3→(W1.cell? ⟨w.heap.size,j,none⟩).isSome=true:=fun j hj=>by
  rw[Yj,World.cell?_alloc_at (w:=w.drew) ROW _ w.heap.size j rfl,w8 au];rfl
 have hNf: ∀j,W1.frozen? ⟨w.heap.size,j,none⟩=false:=fun j=>by rw[Yj];exact World.frozen?_alloc_at (w:=w.drew) ROW _ w.heap.size j rfl
 have hOb: ∀j v,w.cell? ⟨b,j,none⟩=some v→W1.cell? ⟨b,j,none⟩=some v:=fun j v h=>by rw[Yj,World.cell?_alloc_past (w:=w.drew) _ b j hbw];exact h
 have hOv: ∀j v,w.cell? ⟨vb,j,none⟩=some v→W1.cell? ⟨vb,j,none⟩=some v:=fun j v h=>by rw[Yj,World.cell?_alloc_past (w:=w.drew) _ vb j hvw];exact h
 have an1: ∀(W:World),(∀x,W.cell? x=W1.cell? x)→(∀x,W.frozen? x=W1.frozen? x)→ ∀ty dc,(Builtin.copy_ #[50,50] ty #[.slice (some ⟨w.heap.size,i*3,none⟩) (n+1-i) dc,.slice (some ⟨vb,voff,none⟩) 1 vc]).run Go.Proofs.Tryz.prog W= .ok (goInt (qj 1 (n+1-i))) (W.setCells w.heap.size (i*3) vs):=fun W hWc hWf ty dc=>
  HH W _ _ ty 90 w.heap.size (i*3) (n+1-i) dc ⟨vb,voff,none⟩ 1 vc 3 vs hU hS (by rw[hvl,show qj 1 (n+1-i)=1 from by simp only[Nat.min_def];split<;>omega])
   (fun j v hj=>by rw[Addr.add_lit,hWc];exact hOv _ v (hvs j v hj))
   (fun j hj=>by rw[hWc];exact hN _ au) (fun j hj=>by rw[hWf];exact hNf _) h1v
 have hGn:n+1≤G:=by rw[hG];exact grownCap_ge w _ _ _
 have hG63:G≤9223372036854775807:=by
  have:=grownCap_le_maxLen w (n+1) c 90 (by unfold maxLen;omega);rw[←hG] at this;unfold maxLen at this;omega
 have hGi: ¬(G=i):=by omega
 have aqe: ¬(G=i+1):=by omega
 have hci: ¬(c=i):=by omega
 have hbN:b≠w.heap.size:=by omega
 have hdl:(cs.drop (i*3)).length=(n-i)*3:=by rw[gQ,hcl];omega
 have amf: ∀(W:World),(∀x,W.cell? x=(W1.setCells w.heap.size (i*3) vs).cell? x)→(∀x,W.frozen? x=(W1.setCells w.heap.size (i*3) vs).frozen? x)→ ∀ty dc sc,(Builtin.copy_ #[50,50] ty #[.slice (some ⟨w.heap.size,(i+1)*3,none⟩) (n+1-(i+1)) dc,.slice (some ⟨b,off+i*3,none⟩) (n-i) sc]).run Go.Proofs.Tryz.prog W= .ok (goInt (qj (n-i) (n+1-(i+1)))) (W.setCells w.heap.size ((i+1)*3) (cs.drop (i*3))):=fun W hWc hWf ty dc sc=>
  HH W _ _ ty 90 w.heap.size ((i+1)*3) (n+1-(i+1)) dc ⟨b,off+i*3,none⟩ (n-i) sc 3 (cs.drop (i*3)) hU hS (by rw[hdl,show qj (n-i) (n+1-(i+1))=n-i from by simp only[Nat.min_def];split<;>omega])
   (fun j v hj=>by
     rw[Addr.add_lit,hWc,World.cell?_setCells_out _ _ _ _ _ (fun h _=>absurd h hbN),nO]
     exact hOb _ v (hcs (i*3+j) v (by rwa [o5] at hj)))
   (fun j hj=>by rw[hWc];exact isSome_setCells _ _ _ _ (fun t ht=>hN _ au) _ (hN _ au))
   (fun j hj=>by rw[hWf,World.frozen?_setCells];exact hNf _) (fun v hv=>h1c v (rD hv))
 subst Yj;have hE1: ∀x,((w.alloc (.cells ROW 90)).drew).cell? x=(w.drew.alloc (.cells ROW 90)).cell? x:=fun x=>rfl;have hE2: ∀x,((w.alloc (.cells ROW 90)).drew).frozen? x=(w.drew.alloc (.cells ROW 90)).frozen? x:=fun x=>rfl;have hF1: ∀x,(((w.alloc (.cells ROW 90)).drew.setCells w.heap.size (i*3) vs).drew).cell? x=((w.drew.alloc (.cells ROW 90)).setCells w.heap.size (i*3) vs).cell? x:=fun x=>rfl;have hF2: ∀x,(((w.alloc (.cells ROW 90)).drew.setCells w.heap.size (i*3) vs).drew).frozen? x=((w.drew.alloc (.cells ROW 90)).setCells w.heap.size (i*3) vs).frozen? x:=fun x=>rfl
 have hw1:IntKind.i64.wrap ((i:Int)+1)=(i:Int)+1:=by rw[IntKind.wrap_i64];omega
 have Vm:IntKind.i64.wrap ((n:Int)+1)=(n:Int)+1:=by rw[IntKind.wrap_i64];omega
 have hw3:IntKind.i64.wrap ((n:Int)+1-(i:Int))=(n:Int)+1-(i:Int):=by rw[IntKind.wrap_i64];omega
 have hb1:(0:Int)≤(i:Int)+1:=by omega
 have hin:i≤n:=by omega
 have htn:((i:Int)+1).toNat=i+1:=by omega
 have hb3:(i:Int)≤(n:Int):=by omega
 clear hkk hik hold Tz hG hRl
 go_enter Go.Proofs.Tryz.func121,Go.Proofs.Tryz.ntmps121
 go_wp2_with (first
  |(at_builtin;refine Lib.wpList_append_run _ rfl _ _ _ _ rfl _ _ rfl rfl _ _ (hrz _) ?_)
  |(at_builtin;refine wpList_copy_runI _ rfl _ _ 50 50 rfl _ _ rfl rfl (an1 _ hE1 hE2 _ _) ?_)
  |(at_builtin;refine wpList_copy_runI _ rfl _ _ 50 50 rfl _ _ rfl rfl (amf _ (fun _=>rfl) (fun _=>rfl) _ _ _) ?_))
 go_region_law_o (refine step_copy_runI rfl _ _ 50 50 rfl (.slice (some ⟨w.heap.size,(i+1)*3,none⟩) (n+1-(i+1)) (G-(i+1))) (.slice (some ⟨b,off+i*3,none⟩) (n-i) (c-i)) (by simp[Act.eval,Act.put]) (by simp[Act.eval,Act.put]) (amf _ hF1 hF2 3 (G-(i+1)) (c-i)) ?_)
 go_wp2
 go_ret
 exact⟨rfl,rfl⟩
set_option maxHeartbeats 4000000 in
set_option maxRecDepth 100000 in
theorem abH {P:Program} (w:World) (t e ty:TypeId) (zv:Value) (vs:List Value) (ht:P.underlying t=some (.slice e)) (hv: ∀w,(zeroValue e).run P w= .ok zv w) (b o n c:Nat) (hvs:(Builtin.zeroCells zv.cells n).toList=vs) (h1: ∀v∈vs,v.oneCell'=true) (hn:0<n)
 (hc: ∀j,j<vs.length→(w.cell? ⟨b,o+j,none⟩).isSome=true) (hf: ∀j,j<vs.length→w.frozen? ⟨b,o+j,none⟩=false):
 (Builtin.clear_ #[t] ty #[.slice (some ⟨b,o,none⟩) n c]).run P w= .ok (.tuple #[]) (w.setCells b o vs):=by
 have hst:=run_storeCells_cells (P:=P) b o vs 0 w (by simpa using hc) (by simpa using hf) h1;simp only[tW] at hst;obtain⟨m,rfl⟩: ∃m,n=m+1:=⟨n-1,by omega⟩;simp[Builtin.clear_,run_underlying ht,hv,hvs,hst]
theorem hV: ∀w,(zeroValue 90).run Go.Proofs.Tryz.prog w= .ok (.agg #[.string ⟨#[]⟩,.bool false,.slice none 0 0]) w:=fun w=>by
 obtain⟨i0,hi0,Qg,hzs,hzb⟩:=info_parts hI;simp[zeroValue,typeInfo,hi0,Qg]
def zs:List Value:=(Builtin.zeroCells (.agg #[.string ⟨#[]⟩,.bool false,.slice none 0 0]:Value).cells 1).toList
theorem abI:zs.length=3:=by decide+kernel
theorem aj7: ∀v∈zs,v.oneCell'=true:=by decide+kernel
set_option maxHeartbeats 4000000 in
set_option maxRecDepth 1000000 in
theorem delete (b off n c i j:Nat) (cs:List Value) (w:World) (hi:i<n) (hji:j=i+1) (hnc:n≤c) (hm:c≤9223372036854775807) (hcl:cs.length=n*3)
 (hcs: ∀j v,cs[j]?=some v→w.cell? ⟨b,off+j,none⟩=some v) (hfz: ∀j,j<n*3→w.frozen? ⟨b,off+j,none⟩=false) (h1c: ∀v∈cs,v.oneCell'=true):
 Calls Go.Proofs.Tryz.prog 84 #[.slice (some ⟨b,off,none⟩) n c,.int .i64 i,.int .i64 j] w fun e w'=>
  e= .returned (.slice (some ⟨b,off,none⟩) (n-1) c)∧w'=(w.drew.setCells b (off+i*3) (cs.drop (j*3))).setCells b (off+(n-1)*3) zs:=by
 obtain⟨i0,hi0,Qg,hz1,hz2⟩:=info_parts hI;have mixed:=hM
 have hij: ¬((i:Int)=(j:Int)):=by omega
 have hs: ∀j,j<n*3→(w.cell? ⟨b,off+j,none⟩).isSome=true:=fun j hj=>by
  rw[hcs j _ (bC au)];rfl
 obtain⟨news,hnews⟩: ∃news,news=cs.drop (j*3):=⟨_,rfl⟩
 have hlen:news.length=(n-j)*3:=by rw[hnews,gQ,hcl];omega
 obtain⟨A,hA,hsrc⟩: ∃A:Addr,(if c=j then some (⟨b,off,none⟩:Addr) else some ⟨b,off+j*3,none⟩)=some A∧Hid (∀t u,news[t]?=some u→w.drew.cell? (A.add t)=some u):=by
  by_cases h:c=j
  ·refine⟨⟨b,off,none⟩,by simp[h],fun t u hu=> ?_⟩
   have h0:news.length=0:=by rw[hlen];omega
   rw[List.length_eq_zero_iff.1 h0] at hu;simp at hu
  ·refine⟨⟨b,off+j*3,none⟩,by simp[h],fun t u hu=> ?_⟩
   rw[Addr.add_lit,nO];rw[hnews,o5] at hu;exact hcs _ u hu
 have s1:Hid (news.length=(n-j)*3):=hlen;have s2:Hid (∀u∈news,u.oneCell'=true):=fun u hu=>h1c u (by rw[hnews] at hu;exact rD hu)
 have s3:Hid (∀t,t<news.length→(w.drew.cell? ⟨b,off+i*3+t,none⟩).isSome=true∧w.drew.frozen? ⟨b,off+i*3+t,none⟩=false):=fun t ht=>by
  rw[nO];exact⟨hs _ au,hfz _ au⟩
 obtain⟨W1,Yj⟩: ∃W1,W1=w.drew.setCells b (off+i*3) news:=⟨_,rfl⟩
 have JQ: ∀k,k<n*3→(W1.cell? ⟨b,off+k,none⟩).isSome=true:=fun k hk=>by
  rw[Yj];exact isSome_setCells b _ _ _ (fun j hj=>by rw[nO];exact hs _ au) _ (hs k hk)
 have hf1: ∀k,k<n*3→W1.frozen? ⟨b,off+k,none⟩=false:=fun k hk=>by
  rw[Yj,World.frozen?_setCells];exact hfz k hk
 have hcl: ∀ty,(Builtin.clear_ #[50] ty #[.slice (some ⟨b,off+(i+(n-j))*3,none⟩) (n-(i+(n-j))) (c-(i+(n-j)))]).run Go.Proofs.Tryz.prog W1= .ok (.tuple #[]) (W1.setCells b (off+(i+(n-j))*3) zs):=fun ty=>
  abH W1 _ _ ty _ zs hU hV b _ _ _ (by rw[show n-(i+(n-j))=1 by omega];rfl) aj7 au (fun t ht=>by rw[abI] at ht;rw[nO];exact JQ _ au) (fun t ht=>by rw[abI] at ht;rw[nO];exact hf1 _ au)
 have hW:Hid (W1=w.drew.setCells b (off+i*3) news):=Yj
 have hic:i≤c:=by omega
 have hjc:j≤c:=by omega
 have aqk:i≤j:=by omega
 have hjn:j≤n:=by omega
 have hres:((n-1:Nat):Nat)=i+(n-j):=by omega
 rw[←hnews,←Yj,hres];clear Yj JQ hf1 hnews hlen hs hcs hfz hres hji
 go_enter Go.Proofs.Tryz.func84,Go.Proofs.Tryz.ntmps84
 go_wp2_with fail
 go_region_law_o (refine step_append_room rfl (.tmp 22) (.tmp 25) 50 rfl 90 i0 3 hU hi0 hz1 b off i c (by simp[Act.eval,Act.put]) A (n-j) (c-j) news (by simp[Act.eval,Act.put]) s1.out hsrc.out s2.out au s3.out ?_;rw[←hW.out])
 go_wp2
 go_ret
 exact⟨rfl,rfl⟩
theorem am9:Go.T.af8 Go.Proofs.Tryz.prog 121 90 48 3 (.agg #[.string ⟨#[]⟩,.bool false,.slice none 0 0]):=⟨by decide,by decide+kernel,R5,R6,shift,grow⟩
theorem ana: ∃fn c,(Go.Proofs.Tryz.prog).funcs[(121:Nat)]?=some fn∧fn.body=some c:=⟨Go.Proofs.Tryz.f121,_,Go.Proofs.Tryz.func121,rfl⟩
theorem anb:Go.T.aj4 Go.Proofs.Tryz.prog 84 3 zs:=⟨by decide,abI,delete⟩
theorem anc: ∃fn c,(Go.Proofs.Tryz.prog).funcs[(84:Nat)]?=some fn∧fn.body=some c:=⟨Go.Proofs.Tryz.f84,_,Go.Proofs.Tryz.func84,rfl⟩
end Go.T.InsM
