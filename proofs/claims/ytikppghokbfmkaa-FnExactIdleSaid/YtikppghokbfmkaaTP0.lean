/- What the functions answer. -/
import Derived.Test.YtikppghokbfmkaaTR0
set_option linter.unusedVariables false
set_option linter.unusedSimpArgs false
set_option maxRecDepth 100000
namespace Go.T.R
open Go Go.T
theorem toKey (v0 : Int) (v1 : Int) (v2 : Int) (v3 : Int) (v4 : Int) : RunF C laws_toKey [.ag [iI v0, iI v1, iI v2, iI v3, iI v4]] (.ag [iI v0, iI v1, iI v2, iI v3, iI v4]) [] := (f_laws_toKey _ _ _ _ _ _ ⟨rfl, rfl⟩).run
theorem eqKey (v0 : Int) (v1 : Int) (v2 : Int) (v3 : Int) (v4 : Int) : RunF C laws_eqKey [.ag [iI v0, iI v1, iI v2, iI v3, iI v4], .ag [iI v0, iI v1, iI v2, iI v3, iI v4]] (vB true) [] := by
  refine (f_laws_eqKey _ _ _ _ _ _ _ _ _ _ _ ?_).run
  simp
theorem toKeyS (l : List (Key)) (hl : l.length ≤ 1099511627776) : RunF C laws_toKeyS [vKeys l] (vKeys l) [] := by
  refine (f_laws_toKeyS _ _ ?_).run
  simp only [List.length_map]
  refine brB_yes (by simp; omega) ?_
  simp only [ofNat_cast, numI_eq, Int.toNat_natCast]
  refine cp_loop (e := keyC) (z := [iI 0, iI 0, iI 0, iI 0, iI 0]) l (fun i rows => LoopG C laws_toKeyS pRRLRB 4 0 (s_laws_toKeyS_0 (l.map keyC) i rows) _) (fun a => rfl) ?_ ?_
  · exact r_laws_toKeyS_0 _ _ _ _ (brB_no (by simp) (a_laws_toKeyS_1 _ _ _ _ _ ⟨rfl, rfl⟩))
  · intro i rows a hi ha hr hn
    refine r_laws_toKeyS_0 _ _ _ _ (brB_yes (by simp; omega) ⟨_, _, _, _, _, rowAt_map ha, _, _, _, _, _, toKey _ _ _ _ _, _, _, _, _, _, hr, _, _, _, _, _, hr, ?_⟩)
    rw [addW_eq (by omega)]
    exact hn
theorem eqKeyS (l : List (Key)) (hl : l.length ≤ 1099511627776) : RunF C laws_eqKeyS [vKeys l, vKeys l] (vB true) [] := by
  refine (f_laws_eqKeyS _ _ _ ?_).run
  refine brB_no (by simp) ?_
  refine idx_walk l (fun i => LoopG C laws_eqKeyS pRRLRB 4 0 (s_laws_eqKeyS_0 (l.map keyC) (l.map keyC) i) _) ?_ ?_
  · exact r_laws_eqKeyS_0 _ _ _ _ (brB_no (by simp) (a_laws_eqKeyS_2 _ _ _ _ _ ⟨rfl, rfl⟩))
  · intro i a hi ha _ _ hn
    refine r_laws_eqKeyS_0 _ _ _ _ (brB_yes (by simp; omega) ⟨_, _, _, _, _, rowAt_map ha, _, _, _, _, _, rowAt_map ha, _, eqKey _ _ _ _ _, brB_no (by simp) ?_⟩)
    rw [addW_eq (by omega)]
    exact hn
theorem toAge (v0 : Int) (v1 : Int) : RunF C laws_toAge [.ag [iI v0, iI v1]] (.ag [iI v0, iI v1]) [] := (f_laws_toAge _ _ _ ⟨rfl, rfl⟩).run
theorem eqAge (v0 : Int) (v1 : Int) : RunF C laws_eqAge [.ag [iI v0, iI v1], .ag [iI v0, iI v1]] (vB true) [] := by
  refine (f_laws_eqAge _ _ _ _ _ ?_).run
  simp
theorem toAgeS (l : List (Age)) (hl : l.length ≤ 1099511627776) : RunF C laws_toAgeS [vAges l] (vAges l) [] := by
  refine (f_laws_toAgeS _ _ ?_).run
  simp only [List.length_map]
  refine brB_yes (by simp; omega) ?_
  simp only [ofNat_cast, numI_eq, Int.toNat_natCast]
  refine cp_loop (e := ageC) (z := [iI 0, iI 0]) l (fun i rows => LoopG C laws_toAgeS pRRLRB 4 0 (s_laws_toAgeS_0 (l.map ageC) i rows) _) (fun a => rfl) ?_ ?_
  · exact r_laws_toAgeS_0 _ _ _ _ (brB_no (by simp) (a_laws_toAgeS_1 _ _ _ _ _ ⟨rfl, rfl⟩))
  · intro i rows a hi ha hr hn
    refine r_laws_toAgeS_0 _ _ _ _ (brB_yes (by simp; omega) ⟨_, _, rowAt_map ha, _, _, toAge _ _, _, _, hr, _, _, hr, ?_⟩)
    rw [addW_eq (by omega)]
    exact hn
theorem eqAgeS (l : List (Age)) (hl : l.length ≤ 1099511627776) : RunF C laws_eqAgeS [vAges l, vAges l] (vB true) [] := by
  refine (f_laws_eqAgeS _ _ _ ?_).run
  refine brB_no (by simp) ?_
  refine idx_walk l (fun i => LoopG C laws_eqAgeS pRRLRB 4 0 (s_laws_eqAgeS_0 (l.map ageC) (l.map ageC) i) _) ?_ ?_
  · exact r_laws_eqAgeS_0 _ _ _ _ (brB_no (by simp) (a_laws_eqAgeS_2 _ _ _ _ _ ⟨rfl, rfl⟩))
  · intro i a hi ha _ _ hn
    refine r_laws_eqAgeS_0 _ _ _ _ (brB_yes (by simp; omega) ⟨_, _, rowAt_map ha, _, _, rowAt_map ha, _, eqAge _ _, brB_no (by simp) ?_⟩)
    rw [addW_eq (by omega)]
    exact hn
theorem toCell (v0 : Int) (v1 : Bool) (v2 : Int) : RunF C laws_toCell [.ag [iI v0, iB v1, iI v2]] (.ag [iI v0, iB v1, iI v2]) [] := (f_laws_toCell _ _ _ _ ⟨rfl, rfl⟩).run
theorem eqCell (v0 : Int) (v1 : Bool) (v2 : Int) : RunF C laws_eqCell [.ag [iI v0, iB v1, iI v2], .ag [iI v0, iB v1, iI v2]] (vB true) [] := by
  refine (f_laws_eqCell _ _ _ _ _ _ _ ?_).run
  simp
theorem toCellS (l : List (Cell)) (hl : l.length ≤ 1099511627776) : RunF C laws_toCellS [vCells l] (vCells l) [] := by
  refine (f_laws_toCellS _ _ ?_).run
  simp only [List.length_map]
  refine brB_yes (by simp; omega) ?_
  simp only [ofNat_cast, numI_eq, Int.toNat_natCast]
  refine cp_loop (e := cellC) (z := [iI 0, iB false, iI 0]) l (fun i rows => LoopG C laws_toCellS pRRLRB 4 0 (s_laws_toCellS_0 (l.map cellC) i rows) _) (fun a => rfl) ?_ ?_
  · exact r_laws_toCellS_0 _ _ _ _ (brB_no (by simp) (a_laws_toCellS_1 _ _ _ _ _ ⟨rfl, rfl⟩))
  · intro i rows a hi ha hr hn
    refine r_laws_toCellS_0 _ _ _ _ (brB_yes (by simp; omega) ⟨_, _, _, rowAt_map ha, _, _, _, toCell _ _ _, _, _, _, hr, _, _, _, hr, ?_⟩)
    rw [addW_eq (by omega)]
    exact hn
theorem eqCellS (l : List (Cell)) (hl : l.length ≤ 1099511627776) : RunF C laws_eqCellS [vCells l, vCells l] (vB true) [] := by
  refine (f_laws_eqCellS _ _ _ ?_).run
  refine brB_no (by simp) ?_
  refine idx_walk l (fun i => LoopG C laws_eqCellS pRRLRB 4 0 (s_laws_eqCellS_0 (l.map cellC) (l.map cellC) i) _) ?_ ?_
  · exact r_laws_eqCellS_0 _ _ _ _ (brB_no (by simp) (a_laws_eqCellS_2 _ _ _ _ _ ⟨rfl, rfl⟩))
  · intro i a hi ha _ _ hn
    refine r_laws_eqCellS_0 _ _ _ _ (brB_yes (by simp; omega) ⟨_, _, _, rowAt_map ha, _, _, _, rowAt_map ha, _, eqCell _ _ _, brB_no (by simp) ?_⟩)
    rw [addW_eq (by omega)]
    exact hn
theorem toVol (v0 : ByteArray) (v1 : Int) (v2 : Int) (v3 : Bool) : RunF C laws_toVol [.ag [iS v0, iI v1, iI v2, iB v3]] (.ag [iS v0, iI v1, iI v2, iB v3]) [] := (f_laws_toVol _ _ _ _ _ ⟨rfl, rfl⟩).run
theorem eqVol (v0 : ByteArray) (v1 : Int) (v2 : Int) (v3 : Bool) : RunF C laws_eqVol [.ag [iS v0, iI v1, iI v2, iB v3], .ag [iS v0, iI v1, iI v2, iB v3]] (vB true) [] := by
  refine (f_laws_eqVol _ _ _ _ _ _ _ _ _ ?_).run
  simp
theorem toVolS (l : List (Vol)) (hl : l.length ≤ 1099511627776) : RunF C laws_toVolS [vVols l] (vVols l) [] := by
  refine (f_laws_toVolS _ _ ?_).run
  simp only [List.length_map]
  refine brB_yes (by simp; omega) ?_
  simp only [ofNat_cast, numI_eq, Int.toNat_natCast]
  refine cp_loop (e := volC) (z := [iS bs0, iI 0, iI 0, iB false]) l (fun i rows => LoopG C laws_toVolS pRRLRB 4 0 (s_laws_toVolS_0 (l.map volC) i rows) _) (fun a => rfl) ?_ ?_
  · exact r_laws_toVolS_0 _ _ _ _ (brB_no (by simp) (a_laws_toVolS_1 _ _ _ _ _ ⟨rfl, rfl⟩))
  · intro i rows a hi ha hr hn
    refine r_laws_toVolS_0 _ _ _ _ (brB_yes (by simp; omega) ⟨_, _, _, _, rowAt_map ha, _, _, _, _, toVol _ _ _ _, _, _, _, _, hr, _, _, _, _, hr, ?_⟩)
    rw [addW_eq (by omega)]
    exact hn
theorem eqVolS (l : List (Vol)) (hl : l.length ≤ 1099511627776) : RunF C laws_eqVolS [vVols l, vVols l] (vB true) [] := by
  refine (f_laws_eqVolS _ _ _ ?_).run
  refine brB_no (by simp) ?_
  refine idx_walk l (fun i => LoopG C laws_eqVolS pRRLRB 4 0 (s_laws_eqVolS_0 (l.map volC) (l.map volC) i) _) ?_ ?_
  · exact r_laws_eqVolS_0 _ _ _ _ (brB_no (by simp) (a_laws_eqVolS_2 _ _ _ _ _ ⟨rfl, rfl⟩))
  · intro i a hi ha _ _ hn
    refine r_laws_eqVolS_0 _ _ _ _ (brB_yes (by simp; omega) ⟨_, _, _, _, rowAt_map ha, _, _, _, _, rowAt_map ha, _, eqVol _ _ _ _, brB_no (by simp) ?_⟩)
    rw [addW_eq (by omega)]
    exact hn
theorem toIntS (l : List (Int)) (hl : l.length ≤ 1099511627776) : RunF C laws_toIntS [vInts l] (vInts l) [] := by
  refine (f_laws_toIntS _ _ ?_).run
  simp only [List.length_map]
  refine brB_yes (by simp; omega) ?_
  simp only [ofNat_cast, numI_eq, Int.toNat_natCast]
  refine cp_loop (e := intC) (z := [iI 0]) l (fun i rows => LoopG C laws_toIntS pRRLRB 4 0 (s_laws_toIntS_0 (l.map intC) i rows) _) (fun a => rfl) ?_ ?_
  · exact r_laws_toIntS_0 _ _ _ _ (brB_no (by simp) (a_laws_toIntS_1 _ _ _ _ _ ⟨rfl, rfl⟩))
  · intro i rows a hi ha hr hn
    refine r_laws_toIntS_0 _ _ _ _ (brB_yes (by simp; omega) ⟨_, rowAt_map ha, _, hr, _, hr, ?_⟩)
    rw [addW_eq (by omega)]
    exact hn
theorem eqIntS (l : List (Int)) (hl : l.length ≤ 1099511627776) : RunF C laws_eqIntS [vInts l, vInts l] (vB true) [] := by
  refine (f_laws_eqIntS _ _ _ ?_).run
  refine brB_no (by simp) ?_
  refine idx_walk l (fun i => LoopG C laws_eqIntS pRRLRB 4 0 (s_laws_eqIntS_0 (l.map intC) (l.map intC) i) _) ?_ ?_
  · exact r_laws_eqIntS_0 _ _ _ _ (brB_no (by simp) (a_laws_eqIntS_2 _ _ _ _ _ ⟨rfl, rfl⟩))
  · intro i a hi ha _ _ hn
    refine r_laws_eqIntS_0 _ _ _ _ (brB_yes (by simp; omega) ⟨_, rowAt_map ha, _, rowAt_map ha, brB_no (by simp) ?_⟩)
    rw [addW_eq (by omega)]
    exact hn
theorem toKeySS (l : List (List Key)) (hl : l.length ≤ 1099511627776) (hs : ∀ s ∈ l, s.length ≤ 1099511627776) : RunF C laws_toKeySS [vSets l] (vSets l) [] := by
  refine (f_laws_toKeySS _ _ ?_).run
  simp only [List.length_map]
  refine brB_yes (by simp; omega) ?_
  simp only [ofNat_cast, numI_eq, Int.toNat_natCast]
  refine cp_loop (e := setC) (z := [TC.sub 5 []]) l (fun i rows => LoopG C laws_toKeySS pRRLRB 4 0 (s_laws_toKeySS_0 (l.map setC) i rows) _) (fun a => rfl) ?_ ?_
  · exact r_laws_toKeySS_0 _ _ _ _ (brB_no (by simp) (a_laws_toKeySS_1 _ _ _ _ _ ⟨rfl, rfl⟩))
  · intro i rows a hi ha hr hn
    refine r_laws_toKeySS_0 _ _ _ _ (brB_yes (by simp; omega) ⟨_, rowAt_map ha, _, toKeyS _ (hs _ (List.mem_of_getElem? ha)), _, hr, _, hr, ?_⟩)
    rw [addW_eq (by omega)]
    exact hn
def NodeB (n : List (List Key)) : Prop := n.length ≤ 1099511627776 ∧ ∀ s ∈ n, s.length ≤ 1099511627776
def NodesB (l : List (List (List Key))) : Prop := l.length ≤ 1099511627776 ∧ ∀ n ∈ l, NodeB n
def TreeB (t : Tree) : Prop := t.lows.length ≤ 1099511627776 ∧ NodesB t.nodes
theorem toNode (n : List (List Key)) (h : NodeB n) : RunF C laws_toNode [vNode n] (vNode n) [] := (f_laws_toNode _ _ ⟨_, toKeySS n h.1 h.2, rfl, rfl⟩).run
theorem toNodeS (l : List (List (List Key))) (hl : l.length ≤ 1099511627776) (hs : ∀ n ∈ l, NodeB n) : RunF C laws_toNodeS [vNodes l] (vNodes l) [] := by
  refine (f_laws_toNodeS _ _ ?_).run
  simp only [List.length_map]
  refine brB_yes (by simp; omega) ?_
  simp only [ofNat_cast, numI_eq, Int.toNat_natCast]
  refine cp_loop (e := nodeC) (z := [TC.sub 1 []]) l (fun i rows => LoopG C laws_toNodeS pRRLRB 4 0 (s_laws_toNodeS_0 (l.map nodeC) i rows) _) (fun a => rfl) ?_ ?_
  · exact r_laws_toNodeS_0 _ _ _ _ (brB_no (by simp) (a_laws_toNodeS_1 _ _ _ _ _ ⟨rfl, rfl⟩))
  · intro i rows a hi ha hr hn
    refine r_laws_toNodeS_0 _ _ _ _ (brB_yes (by simp; omega) ⟨_, rowAt_map ha, _, toNode _ (hs _ (List.mem_of_getElem? ha)), _, hr, _, hr, ?_⟩)
    rw [addW_eq (by omega)]
    exact hn
theorem toTree (t : Tree) (h : TreeB t) : RunF C laws_toTree [vTree t] (vTree t) [] := (f_laws_toTree _ _ _ ⟨_, toIntS _ h.1, _, toNodeS _ h.2.1 h.2.2, rfl, rfl⟩).run
theorem eqKeySS (l : List (List Key)) (hl : l.length ≤ 1099511627776) (hs : ∀ s ∈ l, s.length ≤ 1099511627776) : RunF C laws_eqKeySS [vSets l, vSets l] (vB true) [] := by
  refine (f_laws_eqKeySS _ _ _ ?_).run
  refine brB_no (by simp) ?_
  refine idx_walk l (fun i => LoopG C laws_eqKeySS pRRLRB 4 0 (s_laws_eqKeySS_0 (l.map setC) (l.map setC) i) _) ?_ ?_
  · exact r_laws_eqKeySS_0 _ _ _ _ (brB_no (by simp) (a_laws_eqKeySS_2 _ _ _ _ _ ⟨rfl, rfl⟩))
  · intro i a hi ha _ _ hn
    refine r_laws_eqKeySS_0 _ _ _ _ (brB_yes (by simp; omega) ⟨_, rowAt_map ha, _, rowAt_map ha, _, eqKeyS _ (hs _ (List.mem_of_getElem? ha)), brB_no (by simp) ?_⟩)
    rw [addW_eq (by omega)]
    exact hn
theorem eqNode (n : List (List Key)) (h : NodeB n) : RunF C laws_eqNode [vNode n, vNode n] (vB true) [] := (f_laws_eqNode _ _ _ ⟨_, eqKeySS n h.1 h.2, by simp⟩).run
theorem eqNodeS (l : List (List (List Key))) (hl : l.length ≤ 1099511627776) (hs : ∀ n ∈ l, NodeB n) : RunF C laws_eqNodeS [vNodes l, vNodes l] (vB true) [] := by
  refine (f_laws_eqNodeS _ _ _ ?_).run
  refine brB_no (by simp) ?_
  refine idx_walk l (fun i => LoopG C laws_eqNodeS pRRLRB 4 0 (s_laws_eqNodeS_0 (l.map nodeC) (l.map nodeC) i) _) ?_ ?_
  · exact r_laws_eqNodeS_0 _ _ _ _ (brB_no (by simp) (a_laws_eqNodeS_2 _ _ _ _ _ ⟨rfl, rfl⟩))
  · intro i a hi ha _ _ hn
    refine r_laws_eqNodeS_0 _ _ _ _ (brB_yes (by simp; omega) ⟨_, rowAt_map ha, _, rowAt_map ha, _, eqNode _ (hs _ (List.mem_of_getElem? ha)), brB_no (by simp) ?_⟩)
    rw [addW_eq (by omega)]
    exact hn
theorem eqTree (t : Tree) (h : TreeB t) : RunF C laws_eqTree [vTree t, vTree t] (vB true) [] := (f_laws_eqTree _ _ _ _ _ ⟨_, eqIntS _ h.1, brB_no rfl ⟨_, eqNodeS _ h.2.1 h.2.2, by simp⟩⟩).run
structure PoolB (p : Pool) : Prop where
  t : TreeB p.t
  ages : p.ages.length ≤ 1099511627776
  cells : p.cells.length ≤ 1099511627776
  vols : p.vols.length ≤ 1099511627776
theorem toPool (p : Pool) (h : PoolB p) : RunF C laws_toPool [vPool p] (vPool p) [] := (f_laws_toPool _ _ _ _ _ _ _ ⟨_, _, toTree p.t h.t, _, toAgeS _ h.ages, _, toCellS _ h.cells, _, toVolS _ h.vols, rfl, rfl⟩).run
theorem eqPool (p : Pool) (h : PoolB p) : RunF C laws_eqPool [vPool p, vPool p] (vB true) [] := (f_laws_eqPool _ _ _ _ _ _ _ _ _ _ _ _ _ ⟨_, eqTree p.t h.t, brB_no rfl ⟨_, eqAgeS _ h.ages, brB_no rfl ⟨_, eqCellS _ h.cells, brB_no rfl ⟨_, eqVolS _ h.vols, brB_no rfl (by simp)⟩⟩⟩⟩).run
theorem szIntS (l : List (Int)) (left : Int) (h0 : 0 ≤ left ∧ left ≤ 1048576) (hl : l.length ≤ 140737488355328) : RunF C laws_szIntS [vInts l, vI left] (vI (lft left l.length)) [] := by
  refine (f_laws_szIntS _ _ _ ?_).run
  simp only [List.length_map, ofNat_cast]
  rw [subW_eq (by omega)]
  unfold lft
  simp only [ltI_eq, brB_dec]
  by_cases h : left < (l.length : Int)
  · rw [if_pos (by omega), if_pos h]; exact ⟨rfl, by first | rfl | trivial⟩
  · rw [if_neg (by omega), if_neg h]; exact ⟨rfl, by first | rfl | trivial⟩
theorem szKeyS (l : List (Key)) (left : Int) (h0 : 0 ≤ left ∧ left ≤ 1048576) (hl : l.length ≤ 140737488355328) : RunF C laws_szKeyS [vKeys l, vI left] (vI (lft left l.length)) [] := by
  refine (f_laws_szKeyS _ _ _ ?_).run
  simp only [List.length_map, ofNat_cast]
  rw [subW_eq (by omega)]
  unfold lft
  simp only [ltI_eq, brB_dec]
  by_cases h : left < (l.length : Int)
  · rw [if_pos (by omega), if_pos h]; exact ⟨rfl, by first | rfl | trivial⟩
  · rw [if_neg (by omega), if_neg h]; exact ⟨rfl, by first | rfl | trivial⟩
theorem szAgeS (l : List (Age)) (left : Int) (h0 : 0 ≤ left ∧ left ≤ 1048576) (hl : l.length ≤ 140737488355328) : RunF C laws_szAgeS [vAges l, vI left] (vI (lft left l.length)) [] := by
  refine (f_laws_szAgeS _ _ _ ?_).run
  simp only [List.length_map, ofNat_cast]
  rw [subW_eq (by omega)]
  unfold lft
  simp only [ltI_eq, brB_dec]
  by_cases h : left < (l.length : Int)
  · rw [if_pos (by omega), if_pos h]; exact ⟨rfl, by first | rfl | trivial⟩
  · rw [if_neg (by omega), if_neg h]; exact ⟨rfl, by first | rfl | trivial⟩
theorem szCellS (l : List (Cell)) (left : Int) (h0 : 0 ≤ left ∧ left ≤ 1048576) (hl : l.length ≤ 140737488355328) : RunF C laws_szCellS [vCells l, vI left] (vI (lft left l.length)) [] := by
  refine (f_laws_szCellS _ _ _ ?_).run
  simp only [List.length_map, ofNat_cast]
  rw [subW_eq (by omega)]
  unfold lft
  simp only [ltI_eq, brB_dec]
  by_cases h : left < (l.length : Int)
  · rw [if_pos (by omega), if_pos h]; exact ⟨rfl, by first | rfl | trivial⟩
  · rw [if_neg (by omega), if_neg h]; exact ⟨rfl, by first | rfl | trivial⟩
theorem szKeySS (l : List (List Key)) (left : Int) (h0 : 0 ≤ left ∧ left ≤ 1048576) (hl : l.length ≤ 140737488355328) (hs : ∀ s ∈ l, s.length ≤ 140737488355328) : RunF C laws_szKeySS [vSets l, vI left] (vI (lft left (l.length + tot szSet l))) [] := by
  refine (f_laws_szKeySS _ _ _ ?_).run
  simp only [List.length_map, ofNat_cast]
  rw [subW_eq (by omega)]
  simp only [ltI_eq, brB_dec]
  by_cases h : left < (l.length : Int)
  · rw [if_pos (by omega)]
    refine ⟨?_, by first | rfl | trivial⟩
    unfold lft
    rw [if_pos (by omega)]
  · rw [if_neg (by omega)]
    have key : ∀ cur : Int, 0 ≤ cur ∧ cur ≤ 1048576 → lft cur (tot szSet (l.drop 0)) = lft left (l.length + tot szSet l) → LoopG C laws_szKeySS pRRRLRB 4 0 (s_laws_szKeySS_0 (l.map setC) cur ((0 : Nat) : Int)) (fun x st => AftF C laws_szKeySS pRRRLRB x st fun r fs => r = vI (lft left (l.length + tot szSet l)) ∧ fs = []) := by
      refine idx_walk l (fun i => ∀ cur : Int, 0 ≤ cur ∧ cur ≤ 1048576 → lft cur (tot szSet (l.drop i)) = lft left (l.length + tot szSet l) → LoopG C laws_szKeySS pRRRLRB 4 0 (s_laws_szKeySS_0 (l.map setC) cur i) _) ?_ ?_
      · intro cur hc he
        refine r_laws_szKeySS_0 _ _ _ _ (brB_no (by simp) (a_laws_szKeySS_2 _ _ _ _ _ ⟨?_, rfl⟩))
        rw [← he, List.drop_length]
        unfold lft tot
        rw [if_neg (by omega)]
        simp
      · intro i a hi ha hd _ hn cur hc he
        rw [hd] at he
        simp only [tot] at he
        refine r_laws_szKeySS_0 _ _ _ _ (brB_yes (by simp; omega) ⟨_, rowAt_map ha, _, szKeyS a cur hc (hs a (List.mem_of_getElem? ha)), ?_⟩)
        by_cases hw : cur < (szSet a : Int)
        · refine brB_yes (by simp [lft, szSet] at hw ⊢; omega) (a_laws_szKeySS_1 _ ⟨?_, rfl⟩)
          rw [← he]
          unfold lft
          rw [if_pos (by omega)]
        · have hl2 : lft cur (szSet a) = cur - szSet a := if_neg hw
          refine brB_no (by simp [lft, szSet] at hw ⊢; omega) ?_
          rw [addW_eq (by omega)]
          have := hn (cur - szSet a) (by omega) (by rw [← he]; unfold lft; split <;> split <;> omega)
          rw [← hl2] at this
          exact this
    refine key (left - l.length) (by omega) ?_
    simp only [List.drop_zero]
    unfold lft
    split <;> split <;> omega
theorem szNode_run (n : List (List Key)) (left : Int) (h0 : 0 ≤ left ∧ left ≤ 1048576) (hl : n.length ≤ 140737488355328) (hs : ∀ s ∈ n, s.length ≤ 140737488355328) : RunF C laws_szNode [vNode n, vI left] (vI (lft left (szNode n))) [] := by
  refine (f_laws_szNode _ _ _ ⟨_, szKeySS n left h0 hl hs, ?_⟩).run
  show brB _ _ _
  unfold szNode
  simp only [ltI_eq, brB_dec]
  split
  · refine ⟨?_, by first | rfl | trivial⟩
    unfold lft at *
    split <;> simp_all <;> omega
  · simp
theorem szNodeS (l : List (List (List Key))) (left : Int) (h0 : 0 ≤ left ∧ left ≤ 1048576) (hl : l.length ≤ 140737488355328) (hs : ∀ n ∈ l, n.length ≤ 140737488355328 ∧ ∀ s ∈ n, s.length ≤ 140737488355328) : RunF C laws_szNodeS [vNodes l, vI left] (vI (lft left (l.length + tot szNode l))) [] := by
  refine (f_laws_szNodeS _ _ _ ?_).run
  simp only [List.length_map, ofNat_cast]
  rw [subW_eq (by omega)]
  simp only [ltI_eq, brB_dec]
  by_cases h : left < (l.length : Int)
  · rw [if_pos (by omega)]
    refine ⟨?_, by first | rfl | trivial⟩
    unfold lft
    rw [if_pos (by omega)]
  · rw [if_neg (by omega)]
    have key : ∀ cur : Int, 0 ≤ cur ∧ cur ≤ 1048576 → lft cur (tot szNode (l.drop 0)) = lft left (l.length + tot szNode l) → LoopG C laws_szNodeS pRRRLRB 4 0 (s_laws_szNodeS_0 (l.map nodeC) cur ((0 : Nat) : Int)) (fun x st => AftF C laws_szNodeS pRRRLRB x st fun r fs => r = vI (lft left (l.length + tot szNode l)) ∧ fs = []) := by
      refine idx_walk l (fun i => ∀ cur : Int, 0 ≤ cur ∧ cur ≤ 1048576 → lft cur (tot szNode (l.drop i)) = lft left (l.length + tot szNode l) → LoopG C laws_szNodeS pRRRLRB 4 0 (s_laws_szNodeS_0 (l.map nodeC) cur i) _) ?_ ?_
      · intro cur hc he
        refine r_laws_szNodeS_0 _ _ _ _ (brB_no (by simp) (a_laws_szNodeS_2 _ _ _ _ _ ⟨?_, rfl⟩))
        rw [← he, List.drop_length]
        unfold lft tot
        rw [if_neg (by omega)]
        simp
      · intro i a hi ha hd _ hn cur hc he
        rw [hd] at he
        simp only [tot] at he
        refine r_laws_szNodeS_0 _ _ _ _ (brB_yes (by simp; omega) ⟨_, rowAt_map ha, _, szNode_run a cur hc (hs a (List.mem_of_getElem? ha)).1 (hs a (List.mem_of_getElem? ha)).2, ?_⟩)
        by_cases hw : cur < (szNode a : Int)
        · refine brB_yes (by simp [lft, szNode] at hw ⊢; omega) (a_laws_szNodeS_1 _ ⟨?_, rfl⟩)
          rw [← he]
          unfold lft
          rw [if_pos (by omega)]
        · have hl2 : lft cur (szNode a) = cur - szNode a := if_neg hw
          refine brB_no (by simp [lft, szNode] at hw ⊢; omega) ?_
          rw [addW_eq (by omega)]
          have := hn (cur - szNode a) (by omega) (by rw [← he]; unfold lft; split <;> split <;> omega)
          rw [← hl2] at this
          exact this
    refine key (left - l.length) (by omega) ?_
    simp only [List.drop_zero]
    unfold lft
    split <;> split <;> omega
theorem lft_lft {a : Int} {n m : Nat} (h : ¬ lft a n < 0) (h0 : 0 ≤ a) : lft (lft a n) m = lft a (n + m) := by unfold lft at *; split <;> split <;> split <;> simp_all <;> omega
theorem lft_in {a : Int} {n : Nat} (h : ¬ lft a n < 0) (h0 : 0 ≤ a ∧ a ≤ 1048576) : 0 ≤ lft a n ∧ lft a n ≤ 1048576 := by unfold lft at *; split <;> simp_all <;> omega
theorem lft_neg {a : Int} {n m : Nat} (h : lft a n < 0) (h0 : 0 ≤ a) : lft a (n + m) = -1 := by unfold lft at *; split <;> simp_all <;> omega
structure TreeW (t : Tree) : Prop where
  lows : t.lows.length ≤ 140737488355328
  nodes : t.nodes.length ≤ 140737488355328
  node : ∀ n ∈ t.nodes, n.length ≤ 140737488355328 ∧ ∀ s ∈ n, s.length ≤ 140737488355328
theorem szTree_run (t : Tree) (left : Int) (h0 : 0 ≤ left ∧ left ≤ 1048576) (h : TreeW t) : RunF C laws_szTree [vTree t, vI left] (vI (lft left (szTree t))) [] := by
  refine (f_laws_szTree _ _ _ _ ⟨_, szIntS _ left h0 h.lows, ?_⟩).run
  unfold szTree szNodes
  refine brB_both (fun hb => ?_) fun hb => ⟨_, szNodeS _ _ (lft_in (by simpa using hb) h0) h.nodes h.node, ?_⟩
  · rw [lft_neg (by simpa using hb) h0.1]; exact ⟨rfl, by first | rfl | trivial⟩
  · have hb : ¬ lft left t.lows.length < 0 := by simpa using hb
    rw [lft_lft hb h0.1]
    refine brB_both (fun hc => ?_) fun hc => ⟨rfl, rfl⟩
    refine ⟨?_, rfl⟩
    have hc : lft left (t.lows.length + (t.nodes.length + tot szNode t.nodes)) < 0 := by simpa using hc
    unfold lft at *
    split <;> simp_all <;> omega
theorem szVol_run (s : ByteArray) (a z : Int) (f : Bool) (left : Int) (h0 : 0 ≤ left ∧ left ≤ 1048576) (hl : s.size ≤ 140737488355328) : RunF C laws_szVol [.ag [iS s, iI a, iI z, iB f], vI left] (vI (lft left s.size)) [] := by
  refine (f_laws_szVol _ _ _ _ _ _ ?_).run
  simp only [strLen, ofNat_cast]
  rw [subW_eq (by omega)]
  unfold lft
  simp only [ltI_eq, brB_dec]
  by_cases h : left < (s.size : Int)
  · rw [if_pos (by omega), if_pos h]; exact ⟨rfl, by first | rfl | trivial⟩
  · rw [if_neg (by omega), if_neg h]; exact ⟨rfl, by first | rfl | trivial⟩
theorem szVolS (l : List (Vol)) (left : Int) (h0 : 0 ≤ left ∧ left ≤ 1048576) (hl : l.length ≤ 140737488355328) (hs : ∀ v ∈ l, v.name.size ≤ 140737488355328) : RunF C laws_szVolS [vVols l, vI left] (vI (lft left (l.length + tot szVol l))) [] := by
  refine (f_laws_szVolS _ _ _ ?_).run
  simp only [List.length_map, ofNat_cast]
  rw [subW_eq (by omega)]
  simp only [ltI_eq, brB_dec]
  by_cases h : left < (l.length : Int)
  · rw [if_pos (by omega)]
    refine ⟨?_, by first | rfl | trivial⟩
    unfold lft
    rw [if_pos (by omega)]
  · rw [if_neg (by omega)]
    have key : ∀ cur : Int, 0 ≤ cur ∧ cur ≤ 1048576 → lft cur (tot szVol (l.drop 0)) = lft left (l.length + tot szVol l) → LoopG C laws_szVolS pRRRLRB 4 0 (s_laws_szVolS_0 (l.map volC) cur ((0 : Nat) : Int)) (fun x st => AftF C laws_szVolS pRRRLRB x st fun r fs => r = vI (lft left (l.length + tot szVol l)) ∧ fs = []) := by
      refine idx_walk l (fun i => ∀ cur : Int, 0 ≤ cur ∧ cur ≤ 1048576 → lft cur (tot szVol (l.drop i)) = lft left (l.length + tot szVol l) → LoopG C laws_szVolS pRRRLRB 4 0 (s_laws_szVolS_0 (l.map volC) cur i) _) ?_ ?_
      · intro cur hc he
        refine r_laws_szVolS_0 _ _ _ _ (brB_no (by simp) (a_laws_szVolS_2 _ _ _ _ _ ⟨?_, rfl⟩))
        rw [← he, List.drop_length]
        unfold lft tot
        rw [if_neg (by omega)]
        simp
      · intro i a hi ha hd _ hn cur hc he
        rw [hd] at he
        simp only [tot] at he
        refine r_laws_szVolS_0 _ _ _ _ (brB_yes (by simp; omega) ⟨_, _, _, _, rowAt_map ha, _, szVol_run _ _ _ _ cur hc (hs a (List.mem_of_getElem? ha)), ?_⟩)
        by_cases hw : cur < (szVol a : Int)
        · refine brB_yes (by simp [lft, szVol] at hw ⊢; omega) (a_laws_szVolS_1 _ ⟨?_, rfl⟩)
          rw [← he]
          unfold lft
          rw [if_pos (by omega)]
        · have hl2 : lft cur (szVol a) = cur - szVol a := if_neg hw
          refine brB_no (by simp [lft, szVol] at hw ⊢; omega) ?_
          rw [addW_eq (by omega)]
          have := hn (cur - szVol a) (by omega) (by rw [← he]; unfold lft; split <;> split <;> omega)
          rw [← hl2] at this
          exact this
    refine key (left - l.length) (by omega) ?_
    simp only [List.drop_zero]
    unfold lft
    split <;> split <;> omega
structure PoolW (p : Pool) : Prop where
  t : TreeW p.t
  ages : p.ages.length ≤ 140737488355328
  cells : p.cells.length ≤ 140737488355328
  vols : p.vols.length ≤ 140737488355328
  vol : ∀ v ∈ p.vols, v.name.size ≤ 140737488355328
theorem szPool_run (p : Pool) (left : Int) (h0 : 0 ≤ left ∧ left ≤ 1048576) (h : PoolW p) : RunF C laws_szPool [vPool p, vI left] (vI (lft left (szPool p))) [] := by
  refine (f_laws_szPool _ _ _ _ _ _ _ _ ⟨_, szTree_run p.t left h0 h.t, ?_⟩).run
  unfold szPool szVols
  refine brB_both (fun hb => ?_) fun hb => ⟨_, szAgeS _ _ (lft_in (by simpa using hb) h0) h.ages, ?_⟩
  · rw [Nat.add_assoc, Nat.add_assoc, lft_neg (by simpa using hb) h0.1]; exact ⟨rfl, by first | rfl | trivial⟩
  rw [lft_lft (by simpa using hb) h0.1]
  refine brB_both (fun hb => ?_) fun hb => ⟨_, szCellS _ _ (lft_in (by simpa using hb) h0) h.cells, ?_⟩
  · rw [Nat.add_assoc, lft_neg (by simpa using hb) h0.1]; exact ⟨rfl, by first | rfl | trivial⟩
  rw [lft_lft (by simpa using hb) h0.1]
  refine brB_both (fun hb => ?_) fun hb => ⟨_, szVolS _ _ (lft_in (by simpa using hb) h0) h.vols h.vol, ?_⟩
  · rw [lft_neg (by simpa using hb) h0.1]; exact ⟨rfl, by first | rfl | trivial⟩
  rw [lft_lft (by simpa using hb) h0.1]
  refine brB_both (fun hc => ?_) fun hc => ⟨rfl, rfl⟩
  refine ⟨?_, rfl⟩
  have hc : lft left (szTree p.t + p.ages.length + p.cells.length + (p.vols.length + tot szVol p.vols)) < 0 := by simpa using hc
  unfold lft at *
  split <;> simp_all <;> omega
theorem run_spec_Idle (p : Pool) (id : Int) (hl : p.vols.length ≤ 1073741824) : RunF C spec_Idle [vPool p, vI id] (vB (idleB p.vols id)) [] := by
  refine (f_spec_Idle _ _ _ _ _ _ _ _ ?_).run
  have key : (p.vols.drop 0).any (fun v : Vol => decide (v.age = id)) = p.vols.any (fun v : Vol => decide (v.age = id)) → LoopG C spec_Idle pRLRB 4 0 (s_spec_Idle_0 id ((0 : Nat) : Int) (p.t.lows.map intC) (p.t.nodes.map nodeC) (p.ages.map ageC) (p.cells.map cellC) (p.vols.map volC) p.next) (fun u st => AftF C spec_Idle pRLRB u st fun r fs => r = vB (idleB p.vols id) ∧ fs = []) := by
    refine idx_walk p.vols (fun i => (p.vols.drop i).any (fun v : Vol => decide (v.age = id)) = p.vols.any (fun v : Vol => decide (v.age = id)) → LoopG C spec_Idle pRLRB 4 0 (s_spec_Idle_0 id i (p.t.lows.map intC) (p.t.nodes.map nodeC) (p.ages.map ageC) (p.cells.map cellC) (p.vols.map volC) p.next) _) ?_ ?_
    · intro h0
      refine r_spec_Idle_0 _ _ _ _ _ _ _ _ _ (brB_no (by simp) (a_spec_Idle_2 _ _ _ _ _ _ _ _ _ _ ?_))
      rw [List.drop_length] at h0
      simp only [List.any_nil] at h0
      show _ = vB (idleB p.vols id) ∧ _
      first | unfold hasI | unfold idleB | skip
      rw [← h0]
      exact ⟨rfl, rfl⟩
    · intro i a hi ha hd ht hn h0
      refine r_spec_Idle_0 _ _ _ _ _ _ _ _ _ (brB_yes (by simp; omega) ?_)
      rw [hd] at h0
      simp only [List.any_cons] at h0
      simp only [ex_vol, eqI_eq, brB_dec, getZ_nat, ha, Option.some.injEq, exists_eq_left', exists_eq_left, brB_not, brB_and, brB_or, key_eta, age_eta, cell_eta, vol_eta, map_eta, op_eta, succ_len, natAdd, List.length_map, List.length_append, List.length_singleton, Bool.true_and, Bool.and_true]
      rw [addW_eq (by omega)]
      split
      · rename_i hp
        refine a_spec_Idle_1 _ _ _ _ _ _ _ ?_
        have e : p.vols.any (fun v : Vol => decide (v.age = id)) = true := by rw [← h0]; simp [hp]
        first | unfold hasI | unfold idleB | skip
        rw [e]
        exact ⟨rfl, rfl⟩
      · rename_i hp
        exact hn (by simpa [hp] using h0)
  exact key rfl
@[simp] theorem c_impl_Idle_1 (n : ByteArray) (a z : Int) (f : Bool) (id : Int) (q : Bool) : RunF C impl_Idle_1 [.ag [iS n, iI a, iI z, iB f], .bx [iI id]] (vB q) [] ↔ q = decide (a = id) := iffB (by
  refine (f_impl_Idle_1 _ _ _ _ _ _ ?_).run
  simp)
theorem run_idx_impl_Idle_1 (l : List Vol) (id : Int) (hl : l.length ≤ 1073741824) : RunF C slices_IndexFunc_Vol [vVols l, .fn impl_Idle_1 [[iI id]]] (vI (idxF (fun v : Vol => decide (v.age = id)) l 0)) [] := by
  refine (f_slices_IndexFunc_Vol_impl_Idle_1 _ _ _ ?_).run
  have key : idxF (fun v : Vol => decide (v.age = id)) (l.drop 0) ((0 : Nat) : Int) = idxF (fun v : Vol => decide (v.age = id)) l 0 → LoopG C slices_IndexFunc_Vol pRLRB 4 0 (s_slices_IndexFunc_Vol_impl_Idle_1_0 (l.map volC) ((0 : Nat) : Int) id) (fun u st => AftF C slices_IndexFunc_Vol pRLRB u st fun r fs => r = vI (idxF (fun v : Vol => decide (v.age = id)) l 0) ∧ fs = []) := by
    refine idx_walk l (fun i => idxF (fun v : Vol => decide (v.age = id)) (l.drop i) (i : Int) = idxF (fun v : Vol => decide (v.age = id)) l 0 → LoopG C slices_IndexFunc_Vol pRLRB 4 0 (s_slices_IndexFunc_Vol_impl_Idle_1_0 (l.map volC) i id) _) ?_ ?_
    · intro h0
      refine r_slices_IndexFunc_Vol_impl_Idle_1_0 _ _ _ _ (brB_no (by simp) (a_slices_IndexFunc_Vol_impl_Idle_1_2 _ _ _ _ _ _ ?_))
      rw [List.drop_length] at h0
      simp only [idxF] at h0
      change _ = vI (idxF (fun v : Vol => decide (v.age = id)) l 0) ∧ _
      rw [← h0]
      exact ⟨rfl, by first | rfl | trivial⟩
    · intro i a hi ha hd htk hn h0
      refine r_slices_IndexFunc_Vol_impl_Idle_1_0 _ _ _ _ (brB_yes (by simp; omega) ?_)
      rw [hd] at h0
      simp only [idxF] at h0
      simp only [ex_vol, eqI_eq, c_impl_Idle_1, brB_dec, getZ_nat, ha, Option.some.injEq, exists_eq_left', exists_eq_left, brB_not, brB_and, brB_or, key_eta, age_eta, cell_eta, vol_eta, map_eta, op_eta, succ_len, natAdd, List.length_map, List.length_append, List.length_singleton, Bool.true_and, Bool.and_true]
      rw [addW_eq (by omega)]
      split at h0
      · rename_i hp
        have hp := of_decide_eq_true hp
        first | rw [if_pos hp] | rw [if_pos hp.symm]
        refine a_slices_IndexFunc_Vol_impl_Idle_1_1 _ _ _ ?_
        rw [h0]
        exact ⟨rfl, by first | rfl | trivial⟩
      · rename_i hp
        have hp : ¬ _ := fun h => hp (decide_eq_true h)
        first | rw [if_neg hp] | rw [if_neg (fun h => hp h.symm)]
        exact hn h0
  exact key rfl
theorem run_has_impl_Idle_1 (l : List Vol) (id : Int) (hl : l.length ≤ 1073741824) : RunF C slices_ContainsFunc_Vol [vVols l, .fn impl_Idle_1 [[iI id]]] (vB (l.any (fun v : Vol => decide (v.age = id)))) [] := by
  refine (f_slices_ContainsFunc_Vol_impl_Idle_1 _ _ _ ⟨_, run_idx_impl_Idle_1 l id hl, ?_⟩).run
  rw [leI_eq, idxF_any _ _ _ (by omega)]
  exact ⟨rfl, by first | rfl | trivial⟩
theorem run_impl_Idle (p : Pool) (id : Int) (hl : p.vols.length ≤ 1073741824) : RunF C impl_Idle [vPool p, vI id] (vB (idleB p.vols id)) [] := (f_impl_Idle _ _ _ _ _ _ _ _ ⟨_, run_has_impl_Idle_1 p.vols id hl, rfl, by first | rfl | trivial⟩).run
theorem len_of {n z : Nat} (h : n * z ≤ reachBytes) (hz : 1 ≤ z) : n ≤ 140737488355328 := by
  have : reachBytes ≤ 140737488355328 := by decide
  have h2 : n * 1 ≤ n * z := Nat.mul_le_mul_left n hz
  omega
theorem int_in {r : List TC} (h : WfT C.tt t_int r) : ∃ n : Int, r = intC n ∧ True := by
  obtain ⟨n, rfl, _⟩ := h.int_inv (k := .i64) (by kernel_rfl)
  exact ⟨n, rfl, trivial⟩
theorem key_in {r : List TC} (h : WfT C.tt t_laws_Key r) : ∃ x : Key, r = keyC x ∧ True := by
  obtain ⟨q0, r0, rfl, h0, k0⟩ := (h.struct_inv (fs := [(0, 3), (1, 3), (2, 3), (3, 3), (4, 3)]) (by kernel_rfl)).cons_inv
  obtain ⟨q1, r1, rfl, h1, k1⟩ := k0.cons_inv
  obtain ⟨q2, r2, rfl, h2, k2⟩ := k1.cons_inv
  obtain ⟨q3, r3, rfl, h3, k3⟩ := k2.cons_inv
  obtain ⟨q4, r4, rfl, h4, k4⟩ := k3.cons_inv
  have e := k4.nil_inv
  subst e
  obtain ⟨v0, rfl, _⟩ := h0.int_inv (k := .i64) (by kernel_rfl)
  obtain ⟨v1, rfl, _⟩ := h1.int_inv (k := .i64) (by kernel_rfl)
  obtain ⟨v2, rfl, _⟩ := h2.int_inv (k := .i64) (by kernel_rfl)
  obtain ⟨v3, rfl, _⟩ := h3.int_inv (k := .i64) (by kernel_rfl)
  obtain ⟨v4, rfl, _⟩ := h4.int_inv (k := .i64) (by kernel_rfl)
  exact ⟨⟨v0, v1, v2, v3, v4⟩, rfl, trivial⟩
theorem age_in {r : List TC} (h : WfT C.tt t_laws_Age r) : ∃ x : Age, r = ageC x ∧ True := by
  obtain ⟨q0, r0, rfl, h0, k0⟩ := (h.struct_inv (fs := [(0, 3), (1, 3)]) (by kernel_rfl)).cons_inv
  obtain ⟨q1, r1, rfl, h1, k1⟩ := k0.cons_inv
  have e := k1.nil_inv
  subst e
  obtain ⟨v0, rfl, _⟩ := h0.int_inv (k := .i64) (by kernel_rfl)
  obtain ⟨v1, rfl, _⟩ := h1.int_inv (k := .i64) (by kernel_rfl)
  exact ⟨⟨v0, v1⟩, rfl, trivial⟩
theorem cell_in {r : List TC} (h : WfT C.tt t_laws_Cell r) : ∃ x : Cell, r = cellC x ∧ True := by
  obtain ⟨q0, r0, rfl, h0, k0⟩ := (h.struct_inv (fs := [(0, 3), (1, 4), (2, 3)]) (by kernel_rfl)).cons_inv
  obtain ⟨q1, r1, rfl, h1, k1⟩ := k0.cons_inv
  obtain ⟨q2, r2, rfl, h2, k2⟩ := k1.cons_inv
  have e := k2.nil_inv
  subst e
  obtain ⟨v0, rfl, _⟩ := h0.int_inv (k := .i64) (by kernel_rfl)
  obtain ⟨v1, rfl⟩ := h1.bool_inv (by kernel_rfl)
  obtain ⟨v2, rfl, _⟩ := h2.int_inv (k := .i64) (by kernel_rfl)
  exact ⟨⟨v0, v1, v2⟩, rfl, trivial⟩
theorem vol_in {r : List TC} (h : WfT C.tt t_laws_Vol r) : ∃ x : Vol, r = volC x ∧ x.name.size ≤ 140737488355328 := by
  obtain ⟨q0, r0, rfl, h0, k0⟩ := (h.struct_inv (fs := [(0, 9), (1, 3), (2, 3), (3, 4)]) (by kernel_rfl)).cons_inv
  obtain ⟨q1, r1, rfl, h1, k1⟩ := k0.cons_inv
  obtain ⟨q2, r2, rfl, h2, k2⟩ := k1.cons_inv
  obtain ⟨q3, r3, rfl, h3, k3⟩ := k2.cons_inv
  have e := k3.nil_inv
  subst e
  obtain ⟨v0, rfl, z0⟩ := h0.str_inv (by kernel_rfl)
  obtain ⟨v1, rfl, _⟩ := h1.int_inv (k := .i64) (by kernel_rfl)
  obtain ⟨v2, rfl, _⟩ := h2.int_inv (k := .i64) (by kernel_rfl)
  obtain ⟨v3, rfl⟩ := h3.bool_inv (by kernel_rfl)
  exact ⟨⟨v0, v1, v2, v3⟩, rfl, Nat.le_trans z0 (by decide)⟩
theorem ints_rows {r : List TC} (h : WfT C.tt t_S_int r) : ∃ l : List (Int), r = [.sub 1 (l.map intC)] ∧ l.length ≤ 140737488355328 ∧ ∀ x ∈ l, True := by
  obtain ⟨w, rfl, y, z⟩ := h.slice_inv (e := t_int) (by kernel_rfl)
  obtain ⟨l, rfl, hl⟩ := rows_typed fun r hr => int_in (y r hr)
  rw [List.length_map] at z
  exact ⟨l, rfl, len_of z (by decide +kernel), hl⟩
theorem keys_rows {r : List TC} (h : WfT C.tt t_S_laws_Key r) : ∃ l : List (Key), r = [.sub 5 (l.map keyC)] ∧ l.length ≤ 140737488355328 ∧ ∀ x ∈ l, True := by
  obtain ⟨w, rfl, y, z⟩ := h.slice_inv (e := t_laws_Key) (by kernel_rfl)
  obtain ⟨l, rfl, hl⟩ := rows_typed fun r hr => key_in (y r hr)
  rw [List.length_map] at z
  exact ⟨l, rfl, len_of z (by decide +kernel), hl⟩
theorem ages_rows {r : List TC} (h : WfT C.tt t_S_laws_Age r) : ∃ l : List (Age), r = [.sub 2 (l.map ageC)] ∧ l.length ≤ 140737488355328 ∧ ∀ x ∈ l, True := by
  obtain ⟨w, rfl, y, z⟩ := h.slice_inv (e := t_laws_Age) (by kernel_rfl)
  obtain ⟨l, rfl, hl⟩ := rows_typed fun r hr => age_in (y r hr)
  rw [List.length_map] at z
  exact ⟨l, rfl, len_of z (by decide +kernel), hl⟩
theorem cells_rows {r : List TC} (h : WfT C.tt t_S_laws_Cell r) : ∃ l : List (Cell), r = [.sub 3 (l.map cellC)] ∧ l.length ≤ 140737488355328 ∧ ∀ x ∈ l, True := by
  obtain ⟨w, rfl, y, z⟩ := h.slice_inv (e := t_laws_Cell) (by kernel_rfl)
  obtain ⟨l, rfl, hl⟩ := rows_typed fun r hr => cell_in (y r hr)
  rw [List.length_map] at z
  exact ⟨l, rfl, len_of z (by decide +kernel), hl⟩
theorem vols_rows {r : List TC} (h : WfT C.tt t_S_laws_Vol r) : ∃ l : List (Vol), r = [.sub 4 (l.map volC)] ∧ l.length ≤ 140737488355328 ∧ ∀ x ∈ l, x.name.size ≤ 140737488355328 := by
  obtain ⟨w, rfl, y, z⟩ := h.slice_inv (e := t_laws_Vol) (by kernel_rfl)
  obtain ⟨l, rfl, hl⟩ := rows_typed fun r hr => vol_in (y r hr)
  rw [List.length_map] at z
  exact ⟨l, rfl, len_of z (by decide +kernel), hl⟩
theorem set_in {r : List TC} (h : WfT C.tt t_S_laws_Key r) : ∃ s : List Key, r = setC s ∧ s.length ≤ 140737488355328 := by
  obtain ⟨l, rfl, hl, _⟩ := keys_rows h
  exact ⟨l, rfl, hl⟩
theorem sets_rows {r : List TC} (h : WfT C.tt t_SS_laws_Key r) : ∃ l : List (List Key), r = [.sub 1 (l.map setC)] ∧ l.length ≤ 140737488355328 ∧ ∀ x ∈ l, x.length ≤ 140737488355328 := by
  obtain ⟨w, rfl, y, z⟩ := h.slice_inv (e := t_S_laws_Key) (by kernel_rfl)
  obtain ⟨l, rfl, hl⟩ := rows_typed fun r hr => set_in (y r hr)
  rw [List.length_map] at z
  exact ⟨l, rfl, len_of z (by decide +kernel), hl⟩
theorem node_in {r : List TC} (h : WfT C.tt t_laws_Node r) : ∃ n : List (List Key), r = nodeC n ∧ (n.length ≤ 140737488355328 ∧ ∀ s ∈ n, s.length ≤ 140737488355328) := by
  obtain ⟨q0, r0, rfl, h0, k0⟩ := (h.struct_inv (fs := [(0, 131)]) (by kernel_rfl)).cons_inv
  have e := k0.nil_inv
  subst e
  obtain ⟨l, rfl, hl, hs⟩ := sets_rows h0
  exact ⟨l, rfl, hl, hs⟩
theorem nodes_rows {r : List TC} (h : WfT C.tt t_S_laws_Node r) : ∃ l : List (List (List Key)), r = [.sub 1 (l.map nodeC)] ∧ l.length ≤ 140737488355328 ∧ ∀ x ∈ l, x.length ≤ 140737488355328 ∧ ∀ s ∈ x, s.length ≤ 140737488355328 := by
  obtain ⟨w, rfl, y, z⟩ := h.slice_inv (e := t_laws_Node) (by kernel_rfl)
  obtain ⟨l, rfl, hl⟩ := rows_typed fun r hr => node_in (y r hr)
  rw [List.length_map] at z
  exact ⟨l, rfl, len_of z (by decide +kernel), hl⟩
theorem tree_in {r : List TC} (h : WfT C.tt t_laws_Tree r) : ∃ t : Tree, r = treeC t ∧ TreeW t := by
  obtain ⟨q0, r0, rfl, h0, k0⟩ := (h.struct_inv (fs := [(0, 22), (1, 23)]) (by kernel_rfl)).cons_inv
  obtain ⟨q1, r1, rfl, h1, k1⟩ := k0.cons_inv
  have e := k1.nil_inv
  subst e
  obtain ⟨l, rfl, hl, _⟩ := ints_rows h0
  obtain ⟨n, rfl, hn, hs⟩ := nodes_rows h1
  exact ⟨⟨l, n⟩, rfl, ⟨hl, hn, hs⟩⟩
theorem pool_in {r : List TC} (h : WfT C.tt t_laws_Pool r) : ∃ p : Pool, r = poolC p ∧ PoolW p := by
  obtain ⟨q0, r0, rfl, h0, k0⟩ := (h.struct_inv (fs := [(0, 25), (2, 47), (3, 48), (4, 49), (5, 3)]) (by kernel_rfl)).cons_inv
  obtain ⟨q1, r1, rfl, h1, k1⟩ := k0.cons_inv
  obtain ⟨q2, r2, rfl, h2, k2⟩ := k1.cons_inv
  obtain ⟨q3, r3, rfl, h3, k3⟩ := k2.cons_inv
  obtain ⟨q4, r4, rfl, h4, k4⟩ := k3.cons_inv
  have e := k4.nil_inv
  subst e
  obtain ⟨t, rfl, ht⟩ := tree_in h0
  obtain ⟨a, rfl, ha, _⟩ := ages_rows h1
  obtain ⟨c, rfl, hc, _⟩ := cells_rows h2
  obtain ⟨v, rfl, hv, hw⟩ := vols_rows h3
  obtain ⟨n, rfl, _⟩ := int_in h4
  exact ⟨⟨t, a, c, v, n⟩, rfl, ⟨ht, ha, hc, hv, hw⟩⟩
theorem v_int {v : TV} (h : WfV C.tt t_int v) : ∃ n : Int, v = vI n := by
  have ht : (C.tt t_int).ti = .int .i64 := by kernel_rfl
  cases h with
  | c _ hw =>
    obtain ⟨n, h1, _⟩ := int_in hw
    unfold intC at h1
    cases h1
    exact ⟨n, rfl⟩
  | ag h1 _ => rw [ht] at h1; cases h1
theorem v_pool {v : TV} (h : WfV C.tt t_laws_Pool v) : ∃ x : Pool, v = vPool x ∧ PoolW x := by
  have ht : (C.tt t_laws_Pool).ti = .struct [(0, 25), (2, 47), (3, 48), (4, 49), (5, 3)] := by kernel_rfl
  cases h with
  | c hs hw => exact absurd ht (hs _)
  | ag _ hw =>
    obtain ⟨x, rfl, hx⟩ := pool_in hw
    exact ⟨x, rfl, hx⟩
theorem lft_ok {a : Int} {n : Nat} (h : ltI (lft a n) 0 = false) (h0 : 0 ≤ a ∧ a ≤ 1048576) : (n : Int) ≤ a ∧ (0 ≤ lft a n ∧ lft a n ≤ 1048576) ∧ lft a n = a - n := by
  rw [ltI_eq] at h
  have h : ¬ lft a n < 0 := of_decide_eq_false h
  unfold lft at *
  split at h <;> simp_all <;> omega
theorem treeB_of {t : Tree} (h : szTree t ≤ 1048576) : TreeB t := by
  unfold szTree szNodes at h
  refine ⟨by omega, by omega, fun n hn => ?_⟩
  have h1 := tot_mem (w := szNode) hn
  have e : szNode n = n.length + tot szSet n := rfl
  exact ⟨by omega, fun s hs => by
    have h2 := tot_mem (w := szSet) hs
    have e2 : szSet s = s.length := rfl
    omega⟩
theorem poolB_of {p : Pool} (h : szPool p ≤ 1048576) : PoolB p := by
  unfold szPool szVols at h
  exact ⟨treeB_of (by omega), by omega, by omega, by omega⟩
theorem poolS_of {p : Pool} (h : szPool p ≤ 1048576) : szTree p.t ≤ 1048576 ∧ p.ages.length ≤ 1048576 ∧ p.cells.length ≤ 1048576 ∧ p.vols.length ≤ 1048576 ∧ tot szVol p.vols ≤ 1048576 := by
  unfold szPool szVols at h
  omega
theorem law_Idle (p : Pool) (w_p : PoolW p) (i : Int) : RunF C laws_FnExactIdle [vPool p, vI i] (vB true) [] := by
  refine (f_laws_FnExactIdle _ _ _ _ _ _ _ _ ?_).run
  refine ⟨_, szPool_run _ _ (by first | omega | assumption) (by assumption), ?_⟩
  refine brB_both (fun _ => ⟨rfl, by first | rfl | trivial⟩) fun hz0 => ?_
  obtain ⟨hz0a, hz0b, hz0c⟩ := lft_ok hz0 (by first | omega | assumption)
  have hB := poolB_of (p := p) (by omega)
  have hS : szPool p ≤ 1048576 := by omega
  have hP := poolS_of hS
  refine ⟨_, _, _, _, _, _, toPool _ (by assumption), ?_⟩
  refine ⟨_, run_spec_Idle p i (by omega), ?_⟩
  refine ⟨_, _, _, _, _, _, toPool _ (by assumption), ?_⟩
  refine ⟨_, run_impl_Idle p i (by omega), ?_⟩
  refine brB_no (by first | rfl | (simp; done) | (simp; omega)) ?_
  refine ⟨_, _, _, _, _, _, toPool _ (by assumption), ?_⟩
  refine ⟨_, eqPool _ (by assumption), ?_⟩
  refine brB_no (by first | rfl | (simp; done) | (simp; omega)) ?_
  exact ⟨rfl, by first | rfl | trivial⟩
theorem all_Idle (vs : List TV) (h : WfVs C.tt [t_laws_Pool, t_int] vs) : ∃ k, callP C k laws_FnExactIdle vs (vB true) [] := by
  cases h with
  | cons h0 h => 
    cases h with
    | cons h1 h => 
      cases h
      obtain ⟨p, rfl, wp⟩ := v_pool h0
      obtain ⟨i, rfl⟩ := v_int h1
      exact law_Idle p wp i
end Go.T.R
