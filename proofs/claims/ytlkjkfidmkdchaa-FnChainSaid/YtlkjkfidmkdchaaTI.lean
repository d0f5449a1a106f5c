import Derived.Test.YtlkjkfidmkdchaaProg
import Derived.Shelf.Spec.SlicesInsertGrow
import Derived.KernelRfl
import Derived.Deep.RegionLaw
import Derived.Lib.SliceRun
import Derived.Test.YtlkjkfidmkdchaaT7
set_option linter.all false
namespace Go.T.InsA
open Go Go.RowKit Go.Lib Go.Proofs Go.Shelf
theorem z8 {P:Program} (w:World) (dT sT ty elem:TypeId) (b o dLen dCap:Nat) (a:Addr) (sLen sCap z:Nat) (cs:List Value)
 (hu:P.underlying dT=some (.slice elem)) (hs:(P.info? elem).map (·.size)=some z) (hn:cs.length=me sLen dLen*z)
 (hsrc: ∀j v,cs[j]?=some v→w.cell? (a.add j)=some v) (hc: ∀j,j<cs.length→(w.cell? ⟨b,o+j,none⟩).isSome=true) (hf: ∀j,j<cs.length→w.frozen? ⟨b,o+j,none⟩=false) (h1: ∀v∈cs,v.oneCell'=true):
 (Builtin.copy_ #[dT,sT] ty #[.slice (some ⟨b,o,none⟩) dLen dCap,.slice (some a) sLen sCap]).run P w= .ok (goInt (me sLen dLen)) (w.setCells b o cs):=by
 have hl:=run_loadCells_list (P:=P) w a cs hsrc;have hst:=run_storeCells_cells (P:=P) b o cs 0 w (by simpa using hc) (by simpa using hf) h1
 cases hq:P.info? elem with
 |none=>simp[hq] at hs
 |some i=>
  have hi:i.size=z:=by simpa [hq] using hs
  simp[Builtin.copy_,run_underlying hu,Builtin.lenOf,Builtin.firstCells,sizeOf,typeInfo,hq,hi,←hn,hl,hst]
theorem hU:Go.Proofs.Try.prog.underlying 61=some (.slice 147):=by kernel_rfl
theorem hUi:Go.Proofs.Try.prog.underlying 3=some (.int .i64):=by kernel_rfl
theorem hI:(Go.Proofs.Try.prog.info? 147).map (fun i=>(i.zero,i.size,i.bytes))=some (some (.agg #[.int .i64 0,.int .i64 0]),2,16):=by kernel_rfl
theorem hS:(Go.Proofs.Try.prog.info? 147).map (·.size)=some 2:=by kernel_rfl
theorem hM:Go.Proofs.Try.prog.follows .mixedOrders=true:=by kernel_rfl
set_option maxHeartbeats 4000000 in
set_option maxRecDepth 100000 in
theorem HI (b off n c vb voff vc:Nat) (vs:List Value) (w:World) (hroom:n+1≤c) (hc63:c≤9223372036854775807)
 (hvl:vs.length=2) (hsp: ∀j,j<2→(w.cell? ⟨b,off+n*2+j,none⟩).isSome=true) (hfz: ∀j,j<2→w.frozen? ⟨b,off+n*2+j,none⟩=false)
 (hvs: ∀j v,vs[j]?=some v→w.cell? ⟨vb,voff+j,none⟩=some v) (h1v: ∀v∈vs,v.oneCell'=true):
 Calls Go.Proofs.Try.prog 199 #[.slice (some ⟨b,off,none⟩) n c,.int .i64 n,.slice (some ⟨vb,voff,none⟩) 1 vc] w fun e w'=>
  e= .returned (.slice (some ⟨b,off,none⟩) (n+1) c)∧w'=w.setCells b (off+n*2) vs:=by
 obtain⟨i0,Qh,LZ,hz1,Yd⟩:=info_parts hI;have hsrc:Src Go.Proofs.Try.prog i0.size 61 (.slice (some ⟨vb,voff,none⟩) 1 vc) 1 vs w:=Src.ofSlice w hU ⟨vb,voff,none⟩ 1 vc vs ax (fun j u hj=>by rw[Addr.add_lit];exact hvs j u hj) h1v
 go_enter Go.Proofs.Try.func199,Go.Proofs.Try.ntmps199
 go_wp2_with (at_builtin;refine Go.wpList_append_room_src _ rfl _ _ 61 61 rfl 147 i0 hU Qh b off n c rfl _ rfl 1 vs hsrc hroom (by rw[hz1,hvl];exact hsp) (by rw[hz1,hvl];exact hfz) ?_)
 go_ret
 exact⟨rfl,rfl⟩
set_option maxHeartbeats 4000000 in
set_option maxRecDepth 100000 in
theorem HJ (base:Option Addr) (n c vb voff vc:Nat) (cs vs:List Value) (w:World) (hnc:n≤c) (hroom:c<n+1) (hbig:(n+1)*16≤140737488355328)
 (hcl:cs.length=n*2) (hvl:vs.length=2) (hnil:base=none→n=0)
 (hcs: ∀a,base=some a→ ∀j v,cs[j]?=some v→w.cell? (a.add j)=some v)
 (hvs: ∀j v,vs[j]?=some v→w.cell? ⟨vb,voff+j,none⟩=some v) (h1v: ∀v∈vs,v.oneCell'=true):
 Calls Go.Proofs.Try.prog 199 #[.slice base n c,.int .i64 n,.slice (some ⟨vb,voff,none⟩) 1 vc] w fun e w'=>
  e= .returned (.slice (some ⟨w.heap.size,0,none⟩) (n+1) (grownCap w (n+1) c 147))∧
  w'=w.drew.alloc (.cells ((cs++vs).toArray++Builtin.zeroCells (.agg #[.int .i64 0,.int .i64 0]:Value).cells (grownCap w (n+1) c 147-(n+1))) 147):=by
 obtain⟨i0,Qh,LZ,hzs,ZJ⟩:=info_parts hI
 have hsrc:Src Go.Proofs.Try.prog i0.size 61 (.slice (some ⟨vb,voff,none⟩) 1 vc) 1 vs w:=by
  rw[hzs];exact Src.ofSlice w hU ⟨vb,voff,none⟩ 1 vc vs ax (fun j u hj=>by rw[Addr.add_lit];exact hvs j u hj) h1v
 have hold:(Builtin.firstCells i0.size n (.slice base n c)).run Go.Proofs.Try.prog w.drew= .ok cs.toArray w.drew:=by
  rw[hzs]
  cases base with
  |none=>
   have h0:=hnil rfl;subst h0;have:cs=[]:=yq (by simpa using hcl);subst this;simp[Builtin.firstCells]
  |some a=>exact run_firstCells_some w.drew 2 n a n c cs ax (fun j v hj=>hcs a rfl j v hj)
 have mixed:=hM
 have hrun: ∀ty,(Builtin.append_ #[61,61] ty #[.slice base n c,.slice (some ⟨vb,voff,none⟩) 1 vc]).run Go.Proofs.Try.prog w=_:=fun ty=>
  run_append_grow_src w 61 61 ty 147 i0 _ hU Qh LZ base n c cs hold _ 1 vs hsrc hroom ax (by rw[ZJ];exact growslice_fits hroom hbig)
 go_enter Go.Proofs.Try.func199,Go.Proofs.Try.ntmps199
 cases base with
 |none=>
  have h0:=hnil rfl;subst h0
  go_wp2_with (at_builtin;refine Lib.wpList_append_run _ rfl _ _ _ _ rfl _ _ rfl rfl _ _ (hrun _) ?_)
  go_ret
  exact⟨rfl,rfl⟩
 |some a=>
  obtain⟨ab,ao,asp⟩:=a
  go_wp2_with (at_builtin;refine Lib.wpList_append_run _ rfl _ _ _ _ rfl _ _ rfl rfl _ _ (hrun _) ?_)
  all_goals (go_ret;exact⟨rfl,rfl⟩)
set_option maxHeartbeats 4000000 in
set_option maxRecDepth 100000 in
theorem shift (b off n c i vb voff vc:Nat) (cs vs:List Value) (w:World) (hi:i<n) (hroom:n+1≤c) (hc63:c≤9223372036854775807) (hvb:vb≠b)
 (hcl:cs.length=n*2) (hvl:vs.length=2)
 (hcs: ∀j v,cs[j]?=some v→w.cell? ⟨b,off+j,none⟩=some v) (hsp: ∀j,j<(n+1)*2→(w.cell? ⟨b,off+j,none⟩).isSome=true) (hfz: ∀j,j<(n+1)*2→w.frozen? ⟨b,off+j,none⟩=false)
 (hvs: ∀j v,vs[j]?=some v→w.cell? ⟨vb,voff+j,none⟩=some v) (h1c: ∀v∈cs,v.oneCell'=true) (h1v: ∀v∈vs,v.oneCell'=true)
 (tA tB:TypeId) (kA kB:Nat) (hsa:w.shape? vb=some (tA,kA)) (hsb:w.shape? b=some (tB,kB)) (hkB:kB≠0) (hfa:w.frozen? ⟨vb,voff,none⟩=false) (hfe:w.frozen? ⟨vb,kA,none⟩=false):
 Calls Go.Proofs.Try.prog 199 #[.slice (some ⟨b,off,none⟩) n c,.int .i64 i,.slice (some ⟨vb,voff,none⟩) 1 vc] w fun e w'=>
  e= .returned (.slice (some ⟨b,off,none⟩) (n+1) c)∧w'=(w.drew.setCells b (off+(i+1)*2) (cs.drop (i*2))).setCells b (off+i*2) vs:=by
 have Yd: ¬((i:Int)=(n:Int)):=by omega
 have hov: ∀lb cb,(callFunc 210 #[.slice (some ⟨vb,voff,none⟩) 1 vc,.slice (some ⟨b,off+(i+1)*2,none⟩) lb cb]).run Go.Proofs.Try.prog w= .ok (.value (.bool false)) w:=fun lb cb=>by
  rw[run_callFunc_extern Go.Proofs.Try.func210 (by kernel_rfl) (by kernel_rfl) (by kernel_rfl) (e:=Extern.SlicesOverlaps.overlaps #[61,61] #[4]) (by kernel_rfl),
   Lib.run_overlaps_apart w 61 4 147 hU 2 (fun w=>by obtain⟨i0,Qh,_,hz1,_⟩:=info_parts hI;simp[sizeOf,typeInfo,Qh,hz1]) ⟨vb,voff,none⟩ ⟨b,off+(i+1)*2,none⟩ 1 vc lb cb hvb tA tB kA kB hsa hsb hkB hfa hfe]
  rfl
 have hdl:(cs.drop (i*2)).length=(n-i)*2:=by rw[gf,hcl];omega
 have mixed:=hM
 have hw1:IntKind.i64.wrap ((i:Int)+1)=(i:Int)+1:=by rw[IntKind.wrap_i64];omega
 have Jn:IntKind.i64.wrap ((n:Int)+1)=(n:Int)+1:=by rw[IntKind.wrap_i64];omega
 have hb1:(0:Int)≤(i:Int)+1:=by omega
 have hin:i≤n:=by omega
 have htn:((i:Int)+1).toNat=i+1:=by omega
 have Z6:((n:Int)+1).toNat=n+1:=by omega
 have hb2: ¬(c=i+1):=by omega
 have hb3:(i:Int)≤(n:Int):=by omega
 have ady:(i:Int)≤(n:Int)+1:=by omega
 have hb4: ¬(c=i):=by omega
 have ZK: ∀ty dc sc,(Builtin.copy_ #[61,61] ty #[.slice (some ⟨b,off+(i+1)*2,none⟩) (n-i) dc,.slice (some ⟨b,off+i*2,none⟩) (n+1-i) sc]).run Go.Proofs.Try.prog w.drew= .ok (goInt (me (n+1-i) (n-i))) (w.drew.setCells b (off+(i+1)*2) (cs.drop (i*2))):=fun ty dc sc=>
  z8 w.drew _ _ ty 147 b (off+(i+1)*2) (n-i) dc ⟨b,off+i*2,none⟩ (n+1-i) sc 2 (cs.drop (i*2)) hU hS (by rw[hdl,show me (n+1-i) (n-i)=n-i from by simp only[Nat.min_def];split<;>omega])
   (fun j v hj=>by rw[Addr.add_lit,jA];exact hcs (i*2+j) v (by rwa [lY] at hj))
   (fun j hj=>by rw[jA];exact hsp _ ax) (fun j hj=>by rw[jA];exact hfz _ ax) (fun v hv=>h1c v (qx hv))
 obtain⟨W1,L3⟩: ∃W1,W1=w.drew.setCells b (off+(i+1)*2) (cs.drop (i*2)):=⟨_,rfl⟩
 have abw: ∀k,k<(n+1)*2→(W1.cell? ⟨b,off+k,none⟩).isSome=true:=fun k hk=>by
  rw[L3];exact isSome_setCells b _ _ _ (fun j hj=>by rw[jA];exact hsp _ ax) _ (hsp k hk)
 have abx: ∀(W:World),(∀x,W.cell? x=W1.cell? x)→(∀x,W.frozen? x=W1.frozen? x)→ ∀ty dc,(Builtin.copy_ #[61,61] ty #[.slice (some ⟨b,off+i*2,none⟩) (n+1-i) dc,.slice (some ⟨vb,voff,none⟩) 1 vc]).run Go.Proofs.Try.prog W= .ok (goInt (me 1 (n+1-i))) (W.setCells b (off+i*2) vs):=fun W Ww ZL ty dc=>
  z8 W _ _ ty 147 b (off+i*2) (n+1-i) dc ⟨vb,voff,none⟩ 1 vc 2 vs hU hS (by rw[hvl,show me 1 (n+1-i)=1 from by simp only[Nat.min_def];split<;>omega])
   (fun j v hj=>by
     rw[Addr.add_lit,Ww,L3,World.cell?_setCells_out b _ _ _ _ (fun h _=>absurd h hvb)]
     exact hvs j v hj)
   (fun j hj=>by rw[Ww,jA];exact abw _ ax) (fun j hj=>by rw[ZL,L3,World.frozen?_setCells,jA];exact hfz _ ax) h1v
 rw[←L3] at ZK
 go_enter Go.Proofs.Try.func199,Go.Proofs.Try.ntmps199
 go_wp2_with (simp only[hov])
 go_region_law_o (refine step_copy_runI rfl _ _ 61 61 rfl _ _ (by simp[Act.eval,Act.put]) (by simp[Act.eval,Act.put]) (ZK _ _ _) ?_)
 go_wp2_with (at_builtin;refine wpList_copy_runI _ rfl _ _ 61 61 rfl _ _ rfl rfl (abx _ (fun _=>rfl) (fun _=>rfl) _ _) ?_)
 go_ret
 first|exact⟨rfl,rfl⟩|exact⟨rfl,by rw[L3]⟩
set_option maxHeartbeats 4000000 in
set_option maxRecDepth 100000 in
theorem grow (b off n c i vb voff vc:Nat) (cs vs:List Value) (w:World) (hi:i<n) (hnc:n≤c) (hroom:c<n+1) (hbig:(n+1)*16≤140737488355328)
 (hcl:cs.length=n*2) (hvl:vs.length=2)
 (hcs: ∀j v,cs[j]?=some v→w.cell? ⟨b,off+j,none⟩=some v)
 (hvs: ∀j v,vs[j]?=some v→w.cell? ⟨vb,voff+j,none⟩=some v) (h1c: ∀v∈cs,v.oneCell'=true) (h1v: ∀v∈vs,v.oneCell'=true):
 Calls Go.Proofs.Try.prog 199 #[.slice (some ⟨b,off,none⟩) n c,.int .i64 i,.slice (some ⟨vb,voff,none⟩) 1 vc] w fun e w'=>
  e= .returned (.slice (some ⟨w.heap.size,0,none⟩) (n+1) (grownCap w (n+1) c 147))∧
  w'=(((w.alloc (.cells ((cs.take (i*2)).toArray++Builtin.zeroCells (.agg #[.int .i64 0,.int .i64 0]:Value).cells (n+1-i)++Builtin.zeroCells (.agg #[.int .i64 0,.int .i64 0]:Value).cells (grownCap w (n+1) c 147-(n+1))) 147)).drew.setCells w.heap.size (i*2) vs).drew).setCells w.heap.size ((i+1)*2) (cs.drop (i*2)):=by
 obtain⟨i0,Qh,LZ,hzs,ZJ⟩:=info_parts hI;have mixed:=hM
 have Yd: ¬((i:Int)=(n:Int)):=by omega
 have hz3:(c:Int)<(n:Int)+1:=by omega
 have hbw:b<w.heap.size:=block_lt_of_cell (hcs 0 _ (aZ ax));have hvw:vb<w.heap.size:=block_lt_of_cell (hvs 0 _ (aZ ax))
 have hkk:(n:Int)+1-(i:Int)=((n+1-i:Nat):Int):=by omega
 have hik:i+(n+1-i)=n+1:=by omega
 have hold:(Builtin.firstCells i0.size i (.slice (some ⟨b,off,none⟩) i c)).run Go.Proofs.Try.prog w.drew= .ok (cs.take (i*2)).toArray w.drew:=by
  rw[hzs]
  exact run_firstCells_some w.drew 2 i ⟨b,off,none⟩ i c (cs.take (i*2)) (by rw[dj];omega) (fun j v hj=>by
   rw[Addr.add_lit];rw[Bz] at hj
   split at hj
   ·exact hcs j v hj
   ·cases hj)
 have hrz: ∀ty,(Builtin.append_ #[61,3] ty #[.slice (some ⟨b,off,none⟩) i c,.int .i64 ((n:Int)+1-(i:Int))]).run Go.Proofs.Try.prog w=
  .ok (.slice (some ⟨w.heap.size,0,none⟩) (n+1) (grownCap w (n+1) c 147)) (w.drew.alloc (.cells ((cs.take (i*2)).toArray++Builtin.zeroCells (.agg #[.int .i64 0,.int .i64 0]:Value).cells (n+1-i)++Builtin.zeroCells (.agg #[.int .i64 0,.int .i64 0]:Value).cells (grownCap w (n+1) c 147-(n+1))) 147)):=fun ty=>by
  have h:=Lib.run_append_grow_zeros w 61 3 ty 147 i0 _ .i64 .i64 hU hUi Qh LZ (some ⟨b,off,none⟩) i c (cs.take (i*2)) hold (n+1-i) ax ax ax ax (by rw[ZJ];omega) (by rw[ZJ,hik];exact growslice_fits hroom hbig);rw[hik] at h;rw[hkk];exact h
 obtain⟨G,hG⟩: ∃G,G=grownCap w (n+1) c 147:=⟨_,rfl⟩;obtain⟨ROW,Iu⟩: ∃ROW:Array Value,ROW=(cs.take (i*2)).toArray++Builtin.zeroCells (.agg #[.int .i64 0,.int .i64 0]:Value).cells (n+1-i)++Builtin.zeroCells (.agg #[.int .i64 0,.int .i64 0]:Value).cells (G-(n+1)):=⟨_,rfl⟩;rw[←hG] at hrz ⊢;rw[←Iu] at hrz ⊢
 have hRl:(n+1)*2≤ROW.size:=by
  rw[Iu];simp[Builtin.zeroCells,Value.cells];omega
 obtain⟨W1,L3⟩: ∃W1,W1=w.drew.alloc (.cells ROW 147):=⟨_,rfl⟩;rw[←L3] at hrz
 have hN: ∀j,j<(n+1)*2→(W1.cell? ⟨w.heap.size,j,none⟩).isSome=true:=fun j hj=>by
  rw[L3,World.cell?_alloc_at (w:=w.drew) ROW _ w.heap.size j rfl,qw ax];rfl
 have hNf: ∀j,W1.frozen? ⟨w.heap.size,j,none⟩=false:=fun j=>by rw[L3];exact World.frozen?_alloc_at (w:=w.drew) ROW _ w.heap.size j rfl
 have hOb: ∀j v,w.cell? ⟨b,j,none⟩=some v→W1.cell? ⟨b,j,none⟩=some v:=fun j v h=>by rw[L3,World.cell?_alloc_past (w:=w.drew) _ b j hbw];exact h
 have hOv: ∀j v,w.cell? ⟨vb,j,none⟩=some v→W1.cell? ⟨vb,j,none⟩=some v:=fun j v h=>by rw[L3,World.cell?_alloc_past (w:=w.drew) _ vb j hvw];exact h
 have aby: ∀(W:World),(∀x,W.cell? x=W1.cell? x)→(∀x,W.frozen? x=W1.frozen? x)→ ∀ty dc,(Builtin.copy_ #[61,61] ty #[.slice (some ⟨w.heap.size,i*2,none⟩) (n+1-i) dc,.slice (some ⟨vb,voff,none⟩) 1 vc]).run Go.Proofs.Try.prog W= .ok (goInt (me 1 (n+1-i))) (W.setCells w.heap.size (i*2) vs):=fun W Ww ZL ty dc=>
  z8 W _ _ ty 147 w.heap.size (i*2) (n+1-i) dc ⟨vb,voff,none⟩ 1 vc 2 vs hU hS (by rw[hvl,show me 1 (n+1-i)=1 from by simp only[Nat.min_def];split<;>omega])
   (fun j v hj=>by rw[Addr.add_lit,Ww];exact hOv _ v (hvs j v hj))
   (fun j hj=>by rw[Ww];exact hN _ ax) (fun j hj=>by rw[ZL];exact hNf _) h1v
 have hGn:n+1≤G:=by rw[hG];exact grownCap_ge w _ _ _
 have hG63:G≤9223372036854775807:=by
  have:=grownCap_le_maxLen w (n+1) c 147 (by unfold maxLen;omega);rw[←hG] at this;unfold maxLen at this;omega
 have hGi: ¬(G=i):=by omega
 have adC: ¬(G=i+1):=by omega
 have hci: ¬(c=i):=by omega
 have hbN:b≠w.heap.size:=by omega
 have hdl:(cs.drop (i*2)).length=(n-i)*2:=by rw[gf,hcl];omega
 have ZM: ∀(W:World),(∀x,W.cell? x=(W1.setCells w.heap.size (i*2) vs).cell? x)→(∀x,W.frozen? x=(W1.setCells w.heap.size (i*2) vs).frozen? x)→ ∀ty dc sc,(Builtin.copy_ #[61,61] ty #[.slice (some ⟨w.heap.size,(i+1)*2,none⟩) (n+1-(i+1)) dc,.slice (some ⟨b,off+i*2,none⟩) (n-i) sc]).run Go.Proofs.Try.prog W= .ok (goInt (me (n-i) (n+1-(i+1)))) (W.setCells w.heap.size ((i+1)*2) (cs.drop (i*2))):=fun W Ww ZL ty dc sc=>
  z8 W _ _ ty 147 w.heap.size ((i+1)*2) (n+1-(i+1)) dc ⟨b,off+i*2,none⟩ (n-i) sc 2 (cs.drop (i*2)) hU hS (by rw[hdl,show me (n-i) (n+1-(i+1))=n-i from by simp only[Nat.min_def];split<;>omega])
   (fun j v hj=>by
     rw[Addr.add_lit,Ww,World.cell?_setCells_out _ _ _ _ _ (fun h _=>absurd h hbN),jA]
     exact hOb _ v (hcs (i*2+j) v (by rwa [lY] at hj)))
   (fun j hj=>by rw[Ww];exact isSome_setCells _ _ _ _ (fun t ht=>hN _ ax) _ (hN _ ax))
   (fun j hj=>by rw[ZL,World.frozen?_setCells];exact hNf _) (fun v hv=>h1c v (qx hv))
 subst L3;have hE1: ∀x,((w.alloc (.cells ROW 147)).drew).cell? x=(w.drew.alloc (.cells ROW 147)).cell? x:=fun x=>rfl;have hE2: ∀x,((w.alloc (.cells ROW 147)).drew).frozen? x=(w.drew.alloc (.cells ROW 147)).frozen? x:=fun x=>rfl;have hF1: ∀x,(((w.alloc (.cells ROW 147)).drew.setCells w.heap.size (i*2) vs).drew).cell? x=((w.drew.alloc (.cells ROW 147)).setCells w.heap.size (i*2) vs).cell? x:=fun x=>rfl
 have hF2: ∀x,(((w.alloc (.cells ROW 147)).drew.setCells w.heap.size (i*2) vs).drew).frozen? x=((w.drew.alloc (.cells ROW 147)).setCells w.heap.size (i*2) vs).frozen? x:=fun x=>rfl
 have hw1:IntKind.i64.wrap ((i:Int)+1)=(i:Int)+1:=by rw[IntKind.wrap_i64];omega
 have Jn:IntKind.i64.wrap ((n:Int)+1)=(n:Int)+1:=by rw[IntKind.wrap_i64];omega
 have hw3:IntKind.i64.wrap ((n:Int)+1-(i:Int))=(n:Int)+1-(i:Int):=by rw[IntKind.wrap_i64];omega
 have hb1:(0:Int)≤(i:Int)+1:=by omega
 have hin:i≤n:=by omega
 have htn:((i:Int)+1).toNat=i+1:=by omega
 have hb3:(i:Int)≤(n:Int):=by omega
 clear hkk hik hold Iu hG hRl
 go_enter Go.Proofs.Try.func199,Go.Proofs.Try.ntmps199
 go_wp2_with (first
  |(at_builtin;refine Lib.wpList_append_run _ rfl _ _ _ _ rfl _ _ rfl rfl _ _ (hrz _) ?_)
  |(at_builtin;refine wpList_copy_runI _ rfl _ _ 61 61 rfl _ _ rfl rfl (aby _ hE1 hE2 _ _) ?_)
  |(at_builtin;refine wpList_copy_runI _ rfl _ _ 61 61 rfl _ _ rfl rfl (ZM _ (fun _=>rfl) (fun _=>rfl) _ _ _) ?_))
 go_region_law_o (refine step_copy_runI rfl _ _ 61 61 rfl (.slice (some ⟨w.heap.size,(i+1)*2,none⟩) (n+1-(i+1)) (G-(i+1))) (.slice (some ⟨b,off+i*2,none⟩) (n-i) (c-i)) (by simp[Act.eval,Act.put]) (by simp[Act.eval,Act.put]) (ZM _ hF1 hF2 3 (G-(i+1)) (c-i)) ?_)
 go_wp2
 go_ret
 exact⟨rfl,rfl⟩
set_option maxHeartbeats 4000000 in
set_option maxRecDepth 100000 in
theorem O5 {P:Program} (w:World) (t e ty:TypeId) (zv:Value) (vs:List Value) (ht:P.underlying t=some (.slice e)) (hv: ∀w,(zeroValue e).run P w= .ok zv w) (b o n c:Nat) (hvs:(Builtin.zeroCells zv.cells n).toList=vs) (h1: ∀v∈vs,v.oneCell'=true) (hn:0<n)
 (hc: ∀j,j<vs.length→(w.cell? ⟨b,o+j,none⟩).isSome=true) (hf: ∀j,j<vs.length→w.frozen? ⟨b,o+j,none⟩=false):
 (Builtin.clear_ #[t] ty #[.slice (some ⟨b,o,none⟩) n c]).run P w= .ok (.tuple #[]) (w.setCells b o vs):=by
 have hst:=run_storeCells_cells (P:=P) b o vs 0 w (by simpa using hc) (by simpa using hf) h1;simp only[oX] at hst;obtain⟨m,rfl⟩: ∃m,n=m+1:=⟨n-1,by omega⟩;simp[Builtin.clear_,run_underlying ht,hv,hvs,hst]
theorem hV: ∀w,(zeroValue 147).run Go.Proofs.Try.prog w= .ok (.agg #[.int .i64 0,.int .i64 0]) w:=fun w=>by
 obtain⟨i0,Qh,LZ,hzs,ZJ⟩:=info_parts hI;simp[zeroValue,typeInfo,Qh,LZ]
def zs:List Value:=(Builtin.zeroCells (.agg #[.int .i64 0,.int .i64 0]:Value).cells 1).toList
theorem O6:zs.length=2:=by decide+kernel
theorem Xp: ∀v∈zs,v.oneCell'=true:=by decide+kernel
set_option maxHeartbeats 4000000 in
set_option maxRecDepth 1000000 in
theorem delete (b off n c i j:Nat) (cs:List Value) (w:World) (hi:i<n) (hji:j=i+1) (hnc:n≤c) (hm:c≤9223372036854775807) (hcl:cs.length=n*2)
 (hcs: ∀j v,cs[j]?=some v→w.cell? ⟨b,off+j,none⟩=some v) (hfz: ∀j,j<n*2→w.frozen? ⟨b,off+j,none⟩=false) (h1c: ∀v∈cs,v.oneCell'=true):
 Calls Go.Proofs.Try.prog 222 #[.slice (some ⟨b,off,none⟩) n c,.int .i64 i,.int .i64 j] w fun e w'=>
  e= .returned (.slice (some ⟨b,off,none⟩) (n-1) c)∧w'=(w.drew.setCells b (off+i*2) (cs.drop (j*2))).setCells b (off+(n-1)*2) zs:=by
 obtain⟨i0,Qh,LZ,hz1,Yd⟩:=info_parts hI;have mixed:=hM
 have hij: ¬((i:Int)=(j:Int)):=by omega
 have hs: ∀j,j<n*2→(w.cell? ⟨b,off+j,none⟩).isSome=true:=fun j hj=>by
  rw[hcs j _ (aZ ax)];rfl
 obtain⟨news,hnews⟩: ∃news,news=cs.drop (j*2):=⟨_,rfl⟩
 have hlen:news.length=(n-j)*2:=by rw[hnews,gf,hcl];omega
 obtain⟨A,hA,hsrc⟩: ∃A:Addr,(if c=j then some (⟨b,off,none⟩:Addr) else some ⟨b,off+j*2,none⟩)=some A∧Hid (∀t u,news[t]?=some u→w.drew.cell? (A.add t)=some u):=by
  by_cases h:c=j
  ·refine⟨⟨b,off,none⟩,by simp[h],fun t u hu=> ?_⟩
   have h0:news.length=0:=by rw[hlen];omega
   rw[List.length_eq_zero_iff.1 h0] at hu;simp at hu
  ·refine⟨⟨b,off+j*2,none⟩,by simp[h],fun t u hu=> ?_⟩
   rw[Addr.add_lit,jA];rw[hnews,lY] at hu;exact hcs _ u hu
 have s1:Hid (news.length=(n-j)*2):=hlen;have s2:Hid (∀u∈news,u.oneCell'=true):=fun u hu=>h1c u (by rw[hnews] at hu;exact qx hu)
 have s3:Hid (∀t,t<news.length→(w.drew.cell? ⟨b,off+i*2+t,none⟩).isSome=true∧w.drew.frozen? ⟨b,off+i*2+t,none⟩=false):=fun t ht=>by
  rw[jA];exact⟨hs _ ax,hfz _ ax⟩
 obtain⟨W1,L3⟩: ∃W1,W1=w.drew.setCells b (off+i*2) news:=⟨_,rfl⟩
 have Ei: ∀k,k<n*2→(W1.cell? ⟨b,off+k,none⟩).isSome=true:=fun k hk=>by
  rw[L3];exact isSome_setCells b _ _ _ (fun j hj=>by rw[jA];exact hs _ ax) _ (hs k hk)
 have Ue: ∀k,k<n*2→W1.frozen? ⟨b,off+k,none⟩=false:=fun k hk=>by
  rw[L3,World.frozen?_setCells];exact hfz k hk
 have hcl: ∀ty,(Builtin.clear_ #[61] ty #[.slice (some ⟨b,off+(i+(n-j))*2,none⟩) (n-(i+(n-j))) (c-(i+(n-j)))]).run Go.Proofs.Try.prog W1= .ok (.tuple #[]) (W1.setCells b (off+(i+(n-j))*2) zs):=fun ty=>
  O5 W1 _ _ ty _ zs hU hV b _ _ _ (by rw[show n-(i+(n-j))=1 by omega];rfl) Xp ax (fun t ht=>by rw[O6] at ht;rw[jA];exact Ei _ ax) (fun t ht=>by rw[O6] at ht;rw[jA];exact Ue _ ax)
 have hW:Hid (W1=w.drew.setCells b (off+i*2) news):=L3
 have hic:i≤c:=by omega
 have hjc:j≤c:=by omega
 have adI:i≤j:=by omega
 have hjn:j≤n:=by omega
 have hres:((n-1:Nat):Nat)=i+(n-j):=by omega
 rw[←hnews,←L3,hres];clear L3 Ei Ue hnews hlen hs hcs hfz hres hji
 go_enter Go.Proofs.Try.func222,Go.Proofs.Try.ntmps222
 go_wp2_with fail
 go_region_law_o (refine step_append_room rfl (.tmp 22) (.tmp 25) 61 rfl 147 i0 2 hU Qh hz1 b off i c (by simp[Act.eval,Act.put]) A (n-j) (c-j) news (by simp[Act.eval,Act.put]) s1.out hsrc.out s2.out ax s3.out ?_;rw[←hW.out])
 go_wp2
 go_ret
 exact⟨rfl,rfl⟩
theorem aaN:Go.T.Tv Go.Proofs.Try.prog 199 147 16 2 (.agg #[.int .i64 0,.int .i64 0]):=⟨by decide,by decide+kernel,HI,HJ,shift,grow⟩
theorem aaO: ∃fn c,(Go.Proofs.Try.prog).funcs[(199:Nat)]?=some fn∧fn.body=some c:=⟨Go.Proofs.Try.f199,_,Go.Proofs.Try.func199,rfl⟩
theorem aaP:Go.T.Xi Go.Proofs.Try.prog 222 2 zs:=⟨by decide,O6,delete⟩
theorem aaQ: ∃fn c,(Go.Proofs.Try.prog).funcs[(222:Nat)]?=some fn∧fn.body=some c:=⟨Go.Proofs.Try.f222,_,Go.Proofs.Try.func222,rfl⟩
end Go.T.InsA
