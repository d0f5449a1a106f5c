/- What the functions answer. -/
import Derived.Test.YtikppghokbfmkaaTR0
set_option linter.unusedVariables false
set_option linter.unusedSimpArgs false
set_option maxRecDepth 100000
namespace Go.T.R
open Go Go.T
theorem toKey (v0 : Int) (v1 : Int) (v2 : Int) (v3 : Int) (v4 : Int) : RunF C laws_toKey [.ag [iI v0, iI v1, iI v2, iI v3, iI v4]] (.ag [iI v0, iI v1, iI v2, iI v3, iI v4]) [] := (f_laws_toKey _ _ _ _ _ _ ⟨rfl, rfl⟩).run
theorem eqKey (v0 : Int) (v1 : Int) (v2 : Int) (v3 : Int) (v4 : Int) : RunF C laws_eqKey [.ag [iI v0, iI v1, iI v2, iI v3, iI v4], .ag [iI v0, iI v1, iI v2, iI v3, iI v4]] (vB true) [] := by
  refine (f_laws_eqKey _ _ _ _ _ _ _ _ _ _ _ ?_).run
  simp
theorem toKeyS (l : List (Key)) (hl : l.length ≤ 1099511627776) : RunF C laws_toKeyS [vKeys l] (vKeys l) [] := by
  refine (f_laws_toKeyS _ _ ?_).run
  simp only [List.length_map]
  refine brB_yes (by simp; omega) ?_
  simp only [ofNat_cast, numI_eq, Int.toNat_natCast]
  refine cp_loop (e := keyC) (z := [iI 0, iI 0, iI 0, iI 0, iI 0]) l (fun i rows => LoopG C laws_toKeyS pRRLRB 4 0 (s_laws_toKeyS_0 (l.map keyC) i rows) _) (fun a => rfl) ?_ ?_
  · exact r_laws_toKeyS_0 _ _ _ _ (brB_no (by simp) (a_laws_toKeyS_1 _ _ _ _ _ ⟨rfl, rfl⟩))
  · intro i rows a hi ha hr hn
    refine r_laws_toKeyS_0 _ _ _ _ (brB_yes (by simp; omega) ⟨_, _, _, _, _, rowAt_map ha, _, _, _, _, _, toKey _ _ _ _ _, _, _, _, _, _, hr, _, _, _, _, _, hr, ?_⟩)
    rw [addW_eq (by omega)]
    exact hn
theorem eqKeyS (l : List (Key)) (hl : l.length ≤ 1099511627776) : RunF C laws_eqKeyS [vKeys l, vKeys l] (vB true) [] := by
  refine (f_laws_eqKeyS _ _ _ ?_).run
  refine brB_no (by simp) ?_
  refine idx_walk l (fun i => LoopG C laws_eqKeyS pRRLRB 4 0 (s_laws_eqKeyS_0 (l.map keyC) (l.map keyC) i) _) ?_ ?_
  · exact r_laws_eqKeyS_0 _ _ _ _ (brB_no (by simp) (a_laws_eqKeyS_2 _ _ _ _ _ ⟨rfl, rfl⟩))
  · intro i a hi ha _ _ hn
    refine r_laws_eqKeyS_0 _ _ _ _ (brB_yes (by simp; omega) ⟨_, _, _, _, _, rowAt_map ha, _, _, _, _, _, rowAt_map ha, _, eqKey _ _ _ _ _, brB_no (by simp) ?_⟩)
    rw [addW_eq (by omega)]
    exact hn
theorem toAge (v0 : Int) (v1 : Int) : RunF C laws_toAge [.ag [iI v0, iI v1]] (.ag [iI v0, iI v1]) [] := (f_laws_toAge _ _ _ ⟨rfl, rfl⟩).run
theorem eqAge (v0 : Int) (v1 : Int) : RunF C laws_eqAge [.ag [iI v0, iI v1], .ag [iI v0, iI v1]] (vB true) [] := by
  refine (f_laws_eqAge _ _ _ _ _ ?_).run
  simp
theorem toAgeS (l : List (Age)) (hl : l.length ≤ 1099511627776) : RunF C laws_toAgeS [vAges l] (vAges l) [] := by
  refine (f_laws_toAgeS _ _ ?_).run
  simp only [List.length_map]
  refine brB_yes (by simp; omega) ?_
  simp only [ofNat_cast, numI_eq, Int.toNat_natCast]
  refine cp_loop (e := ageC) (z := [iI 0, iI 0]) l (fun i rows => LoopG C laws_toAgeS pRRLRB 4 0 (s_laws_toAgeS_0 (l.map ageC) i rows) _) (fun a => rfl) ?_ ?_
  · exact r_laws_toAgeS_0 _ _ _ _ (brB_no (by simp) (a_laws_toAgeS_1 _ _ _ _ _ ⟨rfl, rfl⟩))
  · intro i rows a hi ha hr hn
    refine r_laws_toAgeS_0 _ _ _ _ (brB_yes (by simp; omega) ⟨_, _, rowAt_map ha, _, _, toAge _ _, _, _, hr, _, _, hr, ?_⟩)
    rw [addW_eq (by omega)]
    exact hn
theorem eqAgeS (l : List (Age)) (hl : l.length ≤ 1099511627776) : RunF C laws_eqAgeS [vAges l, vAges l] (vB true) [] := by
  refine (f_laws_eqAgeS _ _ _ ?_).run
  refine brB_no (by simp) ?_
  refine idx_walk l (fun i => LoopG C laws_eqAgeS pRRLRB 4 0 (s_laws_eqAgeS_0 (l.map ageC) (l.map ageC) i) _) ?_ ?_
  · exact r_laws_eqAgeS_0 _ _ _ _ (brB_no (by simp) (a_laws_eqAgeS_2 _ _ _ _ _ ⟨rfl, rfl⟩))
  · intro i a hi ha _ _ hn
    refine r_laws_eqAgeS_0 _ _ _ _ (brB_yes (by simp; omega) ⟨_, _, rowAt_map ha, _, _, rowAt_map ha, _, eqAge _ _, brB_no (by simp) ?_⟩)
    rw [addW_eq (by omega)]
    exact hn
theorem toCell (v0 : Int) (v1 : Bool) (v2 : Int) : RunF C laws_toCell [.ag [iI v0, iB v1, iI v2]] (.ag [iI v0, iB v1, iI v2]) [] := (f_laws_toCell _ _ _ _ ⟨rfl, rfl⟩).run
theorem eqCell (v0 : Int) (v1 : Bool) (v2 : Int) : RunF C laws_eqCell [.ag [iI v0, iB v1, iI v2], .ag [iI v0, iB v1, iI v2]] (vB true) [] := by
  refine (f_laws_eqCell _ _ _ _ _ _ _ ?_).run
  simp
theorem toCellS (l : List (Cell)) (hl : l.length ≤ 1099511627776) : RunF C laws_toCellS [vCells l] (vCells l) [] := by
  refine (f_laws_toCellS _ _ ?_).run
  simp only [List.length_map]
  refine brB_yes (by simp; omega) ?_
  simp only [ofNat_cast, numI_eq, Int.toNat_natCast]
  refine cp_loop (e := cellC) (z := [iI 0, iB false, iI 0]) l (fun i rows => LoopG C laws_toCellS pRRLRB 4 0 (s_laws_toCellS_0 (l.map cellC) i rows) _) (fun a => rfl) ?_ ?_
  · exact r_laws_toCellS_0 _ _ _ _ (brB_no (by simp) (a_laws_toCellS_1 _ _ _ _ _ ⟨rfl, rfl⟩))
  · intro i rows a hi ha hr hn
    refine r_laws_toCellS_0 _ _ _ _ (brB_yes (by simp; omega) ⟨_, _, _, rowAt_map ha, _, _, _, toCell _ _ _, _, _, _, hr, _, _, _, hr, ?_⟩)
    rw [addW_eq (by omega)]
    exact hn
theorem eqCellS (l : List (Cell)) (hl : l.length ≤ 1099511627776) : RunF C laws_eqCellS [vCells l, vCells l] (vB true) [] := by
  refine (f_laws_eqCellS _ _ _ ?_).run
  refine brB_no (by simp) ?_
  refine idx_walk l (fun i => LoopG C laws_eqCellS pRRLRB 4 0 (s_laws_eqCellS_0 (l.map cellC) (l.map cellC) i) _) ?_ ?_
  · exact r_laws_eqCellS_0 _ _ _ _ (brB_no (by simp) (a_laws_eqCellS_2 _ _ _ _ _ ⟨rfl, rfl⟩))
  · intro i a hi ha _ _ hn
    refine r_laws_eqCellS_0 _ _ _ _ (brB_yes (by simp; omega) ⟨_, _, _, rowAt_map ha, _, _, _, rowAt_map ha, _, eqCell _ _ _, brB_no (by simp) ?_⟩)
    rw [addW_eq (by omega)]
    exact hn
theorem toVol (v0 : ByteArray) (v1 : Int) (v2 : Int) (v3 : Bool) : RunF C laws_toVol [.ag [iS v0, iI v1, iI v2, iB v3]] (.ag [iS v0, iI v1, iI v2, iB v3]) [] := (f_laws_toVol _ _ _ _ _ ⟨rfl, rfl⟩).run
theorem eqVol (v0 : ByteArray) (v1 : Int) (v2 : Int) (v3 : Bool) : RunF C laws_eqVol [.ag [iS v0, iI v1, iI v2, iB v3], .ag [iS v0, iI v1, iI v2, iB v3]] (vB true) [] := by
  refine (f_laws_eqVol _ _ _ _ _ _ _ _ _ ?_).run
  simp
theorem toVolS (l : List (Vol)) (hl : l.length ≤ 1099511627776) : RunF C laws_toVolS [vVols l] (vVols l) [] := by
  refine (f_laws_toVolS _ _ ?_).run
  simp only [List.length_map]
  refine brB_yes (by simp; omega) ?_
  simp only [ofNat_cast, numI_eq, Int.toNat_natCast]
  refine cp_loop (e := volC) (z := [iS bs0, iI 0, iI 0, iB false]) l (fun i rows => LoopG C laws_toVolS pRRLRB 4 0 (s_laws_toVolS_0 (l.map volC) i rows) _) (fun a => rfl) ?_ ?_
  · exact r_laws_toVolS_0 _ _ _ _ (brB_no (by simp) (a_laws_toVolS_1 _ _ _ _ _ ⟨rfl, rfl⟩))
  · intro i rows a hi ha hr hn
    refine r_laws_toVolS_0 _ _ _ _ (brB_yes (by simp; omega) ⟨_, _, _, _, rowAt_map ha, _, _, _, _, toVol _ _ _ _, _, _, _, _, hr, _, _, _, _, hr, ?_⟩)
    rw [addW_eq (by omega)]
    exact hn
theorem eqVolS (l : List (Vol)) (hl : l.length ≤ 1099511627776) : RunF C laws_eqVolS [vVols l, vVols l] (vB true) [] := by
  refine (f_laws_eqVolS _ _ _ ?_).run
  refine brB_no (by simp) ?_
  refine idx_walk l (fun i => LoopG C laws_eqVolS pRRLRB 4 0 (s_laws_eqVolS_0 (l.map volC) (l.map volC) i) _) ?_ ?_
  · exact r_laws_eqVolS_0 _ _ _ _ (brB_no (by simp) (a_laws_eqVolS_2 _ _ _ _ _ ⟨rfl, rfl⟩))
  · intro i a hi ha _ _ hn
    refine r_laws_eqVolS_0 _ _ _ _ (brB_yes (by simp; omega) ⟨_, _, _, _, rowAt_map ha, _, _, _, _, rowAt_map ha, _, eqVol _ _ _ _, brB_no (by simp) ?_⟩)
    rw [addW_eq (by omega)]
    exact hn
theorem toIntS (l : List (Int)) (hl : l.length ≤ 1099511627776) : RunF C laws_toIntS [vInts l] (vInts l) [] := by
  refine (f_laws_toIntS _ _ ?_).run
  simp only [List.length_map]
  refine brB_yes (by simp; omega) ?_
  simp only [ofNat_cast, numI_eq, Int.toNat_natCast]
  refine cp_loop (e := intC) (z := [iI 0]) l (fun i rows => LoopG C laws_toIntS pRRLRB 4 0 (s_laws_toIntS_0 (l.map intC) i rows) _) (fun a => rfl) ?_ ?_
  · exact r_laws_toIntS_0 _ _ _ _ (brB_no (by simp) (a_laws_toIntS_1 _ _ _ _ _ ⟨rfl, rfl⟩))
  · intro i rows a hi ha hr hn
    refine r_laws_toIntS_0 _ _ _ _ (brB_yes (by simp; omega) ⟨_, rowAt_map ha, _, hr, _, hr, ?_⟩)
    rw [addW_eq (by omega)]
    exact hn
theorem eqIntS (l : List (Int)) (hl : l.length ≤ 1099511627776) : RunF C laws_eqIntS [vInts l, vInts l] (vB true) [] := by
  refine (f_laws_eqIntS _ _ _ ?_).run
  refine brB_no (by simp) ?_
  refine idx_walk l (fun i => LoopG C laws_eqIntS pRRLRB 4 0 (s_laws_eqIntS_0 (l.map intC) (l.map intC) i) _) ?_ ?_
  · exact r_laws_eqIntS_0 _ _ _ _ (brB_no (by simp) (a_laws_eqIntS_2 _ _ _ _ _ ⟨rfl, rfl⟩))
  · intro i a hi ha _ _ hn
    refine r_laws_eqIntS_0 _ _ _ _ (brB_yes (by simp; omega) ⟨_, rowAt_map ha, _, rowAt_map ha, brB_no (by simp) ?_⟩)
    rw [addW_eq (by omega)]
    exact hn
theorem toKeySS (l : List (List Key)) (hl : l.length ≤ 1099511627776) (hs : ∀ s ∈ l, s.length ≤ 1099511627776) : RunF C laws_toKeySS [vSets l] (vSets l) [] := by
  refine (f_laws_toKeySS _ _ ?_).run
  simp only [List.length_map]
  refine brB_yes (by simp; omega) ?_
  simp only [ofNat_cast, numI_eq, Int.toNat_natCast]
  refine cp_loop (e := setC) (z := [TC.sub 5 []]) l (fun i rows => LoopG C laws_toKeySS pRRLRB 4 0 (s_laws_toKeySS_0 (l.map setC) i rows) _) (fun a => rfl) ?_ ?_
  · exact r_laws_toKeySS_0 _ _ _ _ (brB_no (by simp) (a_laws_toKeySS_1 _ _ _ _ _ ⟨rfl, rfl⟩))
  · intro i rows a hi ha hr hn
    refine r_laws_toKeySS_0 _ _ _ _ (brB_yes (by simp; omega) ⟨_, rowAt_map ha, _, toKeyS _ (hs _ (List.mem_of_getElem? ha)), _, hr, _, hr, ?_⟩)
    rw [addW_eq (by omega)]
    exact hn
def NodeB (n : List (List Key)) : Prop := n.length ≤ 1099511627776 ∧ ∀ s ∈ n, s.length ≤ 1099511627776
def NodesB (l : List (List (List Key))) : Prop := l.length ≤ 1099511627776 ∧ ∀ n ∈ l, NodeB n
def TreeB (t : Tree) : Prop := t.lows.length ≤ 1099511627776 ∧ NodesB t.nodes
theorem toNode (n : List (List Key)) (h : NodeB n) : RunF C laws_toNode [vNode n] (vNode n) [] := (f_laws_toNode _ _ ⟨_, toKeySS n h.1 h.2, rfl, rfl⟩).run
theorem toNodeS (l : List (List (List Key))) (hl : l.length ≤ 1099511627776) (hs : ∀ n ∈ l, NodeB n) : RunF C laws_toNodeS [vNodes l] (vNodes l) [] := by
  refine (f_laws_toNodeS _ _ ?_).run
  simp only [List.length_map]
  refine brB_yes (by simp; omega) ?_
  simp only [ofNat_cast, numI_eq, Int.toNat_natCast]
  refine cp_loop (e := nodeC) (z := [TC.sub 1 []]) l (fun i rows => LoopG C laws_toNodeS pRRLRB 4 0 (s_laws_toNodeS_0 (l.map nodeC) i rows) _) (fun a => rfl) ?_ ?_
  · exact r_laws_toNodeS_0 _ _ _ _ (brB_no (by simp) (a_laws_toNodeS_1 _ _ _ _ _ ⟨rfl, rfl⟩))
  · intro i rows a hi ha hr hn
    refine r_laws_toNodeS_0 _ _ _ _ (brB_yes (by simp; omega) ⟨_, rowAt_map ha, _, toNode _ (hs _ (List.mem_of_getElem? ha)), _, hr, _, hr, ?_⟩)
    rw [addW_eq (by omega)]
    exact hn
theorem toTree (t : Tree) (h : TreeB t) : RunF C laws_toTree [vTree t] (vTree t) [] := (f_laws_toTree _ _ _ ⟨_, toIntS _ h.1, _, toNodeS _ h.2.1 h.2.2, rfl, rfl⟩).run
theorem eqKeySS (l : List (List Key)) (hl : l.length ≤ 1099511627776) (hs : ∀ s ∈ l, s.length ≤ 1099511627776) : RunF C laws_eqKeySS [vSets l, vSets l] (vB true) [] := by
  refine (f_laws_eqKeySS _ _ _ ?_).run
  refine brB_no (by simp) ?_
  refine idx_walk l (fun i => LoopG C laws_eqKeySS pRRLRB 4 0 (s_laws_eqKeySS_0 (l.map setC) (l.map setC) i) _) ?_ ?_
  · exact r_laws_eqKeySS_0 _ _ _ _ (brB_no (by simp) (a_laws_eqKeySS_2 _ _ _ _ _ ⟨rfl, rfl⟩))
  · intro i a hi ha _ _ hn
    refine r_laws_eqKeySS_0 _ _ _ _ (brB_yes (by simp; omega) ⟨_, rowAt_map ha, _, rowAt_map ha, _, eqKeyS _ (hs _ (List.mem_of_getElem? ha)), brB_no (by simp) ?_⟩)
    rw [addW_eq (by omega)]
    exact hn
theorem eqNode (n : List (List Key)) (h : NodeB n) : RunF C laws_eqNode [vNode n, vNode n] (vB true) [] := (f_laws_eqNode _ _ _ ⟨_, eqKeySS n h.1 h.2, by simp⟩).run
theorem eqNodeS (l : List (List (List Key))) (hl : l.length ≤ 1099511627776) (hs : ∀ n ∈ l, NodeB n) : RunF C laws_eqNodeS [vNodes l, vNodes l] (vB true) [] := by
  refine (f_laws_eqNodeS _ _ _ ?_).run
  refine brB_no (by simp) ?_
  refine idx_walk l (fun i => LoopG C laws_eqNodeS pRRLRB 4 0 (s_laws_eqNodeS_0 (l.map nodeC) (l.map nodeC) i) _) ?_ ?_
  · exact r_laws_eqNodeS_0 _ _ _ _ (brB_no (by simp) (a_laws_eqNodeS_2 _ _ _ _ _ ⟨rfl, rfl⟩))
  · intro i a hi ha _ _ hn
    refine r_laws_eqNodeS_0 _ _ _ _ (brB_yes (by simp; omega) ⟨_, rowAt_map ha, _, rowAt_map ha, _, eqNode _ (hs _ (List.mem_of_getElem? ha)), brB_no (by simp) ?_⟩)
    rw [addW_eq (by omega)]
    exact hn
theorem eqTree (t : Tree) (h : TreeB t) : RunF C laws_eqTree [vTree t, vTree t] (vB true) [] := (f_laws_eqTree _ _ _ _ _ ⟨_, eqIntS _ h.1, brB_no rfl ⟨_, eqNodeS _ h.2.1 h.2.2, by simp⟩⟩).run
structure PoolB (p : Pool) : Prop where
  t : TreeB p.t
  ages : p.ages.length ≤ 1099511627776
  cells : p.cells.length ≤ 1099511627776
  vols : p.vols.length ≤ 1099511627776
theorem toPool (p : Pool) (h : PoolB p) : RunF C laws_toPool [vPool p] (vPool p) [] := (f_laws_toPool _ _ _ _ _ _ _ ⟨_, _, toTree p.t h.t, _, toAgeS _ h.ages, _, toCellS _ h.cells, _, toVolS _ h.vols, rfl, rfl⟩).run
theorem eqPool (p : Pool) (h : PoolB p) : RunF C laws_eqPool [vPool p, vPool p] (vB true) [] := (f_laws_eqPool _ _ _ _ _ _ _ _ _ _ _ _ _ ⟨_, eqTree p.t h.t, brB_no rfl ⟨_, eqAgeS _ h.ages, brB_no rfl ⟨_, eqCellS _ h.cells, brB_no rfl ⟨_, eqVolS _ h.vols, brB_no rfl (by simp)⟩⟩⟩⟩).run
theorem szIntS (l : List (Int)) (left : Int) (h0 : 0 ≤ left ∧ left ≤ 1048576) (hl : l.length ≤ 140737488355328) : RunF C laws_szIntS [vInts l, vI left] (vI (lft left l.length)) [] := by
  refine (f_laws_szIntS _ _ _ ?_).run
  simp only [List.length_map, ofNat_cast]
  rw [subW_eq (by omega)]
  unfold lft
  simp only [ltI_eq, brB_dec]
  by_cases h : left < (l.length : Int)
  · rw [if_pos (by omega), if_pos h]; exact ⟨rfl, by first | rfl | trivial⟩
  · rw [if_neg (by omega), if_neg h]; exact ⟨rfl, by first | rfl | trivial⟩
theorem szKeyS (l : List (Key)) (left : Int) (h0 : 0 ≤ left ∧ left ≤ 1048576) (hl : l.length ≤ 140737488355328) : RunF C laws_szKeyS [vKeys l, vI left] (vI (lft left l.length)) [] := by
  refine (f_laws_szKeyS _ _ _ ?_).run
  simp only [List.length_map, ofNat_cast]
  rw [subW_eq (by omega)]
  unfold lft
  simp only [ltI_eq, brB_dec]
  by_cases h : left < (l.length : Int)
  · rw [if_pos (by omega), if_pos h]; exact ⟨rfl, by first | rfl | trivial⟩
  · rw [if_neg (by omega), if_neg h]; exact ⟨rfl, by first | rfl | trivial⟩
theorem szAgeS (l : List (Age)) (left : Int) (h0 : 0 ≤ left ∧ left ≤ 1048576) (hl : l.length ≤ 140737488355328) : RunF C laws_szAgeS [vAges l, vI left] (vI (lft left l.length)) [] := by
  refine (f_laws_szAgeS _ _ _ ?_).run
  simp only [List.length_map, ofNat_cast]
  rw [subW_eq (by omega)]
  unfold lft
  simp only [ltI_eq, brB_dec]
  by_cases h : left < (l.length : Int)
  · rw [if_pos (by omega), if_pos h]; exact ⟨rfl, by first | rfl | trivial⟩
  · rw [if_neg (by omega), if_neg h]; exact ⟨rfl, by first | rfl | trivial⟩
theorem szCellS (l : List (Cell)) (left : Int) (h0 : 0 ≤ left ∧ left ≤ 1048576) (hl : l.length ≤ 140737488355328) : RunF C laws_szCellS [vCells l, vI left] (vI (lft left l.length)) [] := by
  refine (f_laws_szCellS _ _ _ ?_).run
  simp only [List.length_map, ofNat_cast]
  rw [subW_eq (by omega)]
  unfold lft
  simp only [ltI_eq, brB_dec]
  by_cases h : left < (l.length : Int)
  · rw [if_pos (by omega), if_pos h]; exact ⟨rfl, by first | rfl | trivial⟩
  · rw [if_neg (by omega), if_neg h]; exact ⟨rfl, by first | rfl | trivial⟩
theorem szKeySS (l : List (List Key)) (left : Int) (h0 : 0 ≤ left ∧ left ≤ 1048576) (hl : l.length ≤ 140737488355328) (hs : ∀ s ∈ l, s.length ≤ 140737488355328) : RunF C laws_szKeySS [vSets l, vI left] (vI (lft left (l.length + tot szSet l))) [] := by
  refine (f_laws_szKeySS _ _ _ ?_).run
  simp only [List.length_map, ofNat_cast]
  rw [subW_eq (by omega)]
  simp only [ltI_eq, brB_dec]
  by_cases h : left < (l.length : Int)
  · rw [if_pos (by omega)]
    refine ⟨?_, by first | rfl | trivial⟩
    unfold lft
    rw [if_pos (by omega)]
  · rw [if_neg (by omega)]
    have key : ∀ cur : Int, 0 ≤ cur ∧ cur ≤ 1048576 → lft cur (tot szSet (l.drop 0)) = lft left (l.length + tot szSet l) → LoopG C laws_szKeySS pRRRLRB 4 0 (s_laws_szKeySS_0 (l.map setC) cur ((0 : Nat) : Int)) (fun x st => AftF C laws_szKeySS pRRRLRB x st fun r fs => r = vI (lft left (l.length + tot szSet l)) ∧ fs = []) := by
      refine idx_walk l (fun i => ∀ cur : Int, 0 ≤ cur ∧ cur ≤ 1048576 → lft cur (tot szSet (l.drop i)) = lft left (l.length + tot szSet l) → LoopG C laws_szKeySS pRRRLRB 4 0 (s_laws_szKeySS_0 (l.map setC) cur i) _) ?_ ?_
      · intro cur hc he
        refine r_laws_szKeySS_0 _ _ _ _ (brB_no (by simp) (a_laws_szKeySS_2 _ _ _ _ _ ⟨?_, rfl⟩))
        rw [← he, List.drop_length]
        unfold lft tot
        rw [if_neg (by omega)]
        simp
      · intro i a hi ha hd _ hn cur hc he
        rw [hd] at he
        simp only [tot] at he
        refine r_laws_szKeySS_0 _ _ _ _ (brB_yes (by simp; omega) ⟨_, rowAt_map ha, _, szKeyS a cur hc (hs a (List.mem_of_getElem? ha)), ?_⟩)
        by_cases hw : cur < (szSet a : Int)
        · refine brB_yes (by simp [lft, szSet] at hw ⊢; omega) (a_laws_szKeySS_1 _ ⟨?_, rfl⟩)
          rw [← he]
          unfold lft
          rw [if_pos (by omega)]
        · have hl2 : lft cur (szSet a) = cur - szSet a := if_neg hw
          refine brB_no (by simp [lft, szSet] at hw ⊢; omega) ?_
          rw [addW_eq (by omega)]
          have := hn (cur - szSet a) (by omega) (by rw [← he]; unfold lft; split <;> split <;> omega)
          rw [← hl2] at this
          exact this
    refine key (left - l.length) (by omega) ?_
    simp only [List.drop_zero]
    unfold lft
    split <;> split <;> omega
theorem szNode_run (n : List (List Key)) (left : Int) (h0 : 0 ≤ left ∧ left ≤ 1048576) (hl : n.length ≤ 140737488355328) (hs : ∀ s ∈ n, s.length ≤ 140737488355328) : RunF C laws_szNode [vNode n, vI left] (vI (lft left (szNode n))) [] := by
  refine (f_laws_szNode _ _ _ ⟨_, szKeySS n left h0 hl hs, ?_⟩).run
  show brB _ _ _
  unfold szNode
  simp only [ltI_eq, brB_dec]
  split
  · refine ⟨?_, by first | rfl | trivial⟩
    unfold lft at *
    split <;> simp_all <;> omega
  · simp
theorem szNodeS (l : List (List (List Key))) (left : Int) (h0 : 0 ≤ left ∧ left ≤ 1048576) (hl : l.length ≤ 140737488355328) (hs : ∀ n ∈ l, n.length ≤ 140737488355328 ∧ ∀ s ∈ n, s.length ≤ 140737488355328) : RunF C laws_szNodeS [vNodes l, vI left] (vI (lft left (l.length + tot szNode l))) [] := by
  refine (f_laws_szNodeS _ _ _ ?_).run
  simp only [List.length_map, ofNat_cast]
  rw [subW_eq (by omega)]
  simp only [ltI_eq, brB_dec]
  by_cases h : left < (l.length : Int)
  · rw [if_pos (by omega)]
    refine ⟨?_, by first | rfl | trivial⟩
    unfold lft
    rw [if_pos (by omega)]
  · rw [if_neg (by omega)]
    have key : ∀ cur : Int, 0 ≤ cur ∧ cur ≤ 1048576 → lft cur (tot szNode (l.drop 0)) = lft left (l.length + tot szNode l) → LoopG C laws_szNodeS pRRRLRB 4 0 (s_laws_szNodeS_0 (l.map nodeC) cur ((0 : Nat) : Int)) (fun x st => AftF C laws_szNodeS pRRRLRB x st fun r fs => r = vI (lft left (l.length + tot szNode l)) ∧ fs = []) := by
      refine idx_walk l (fun i => ∀ cur : Int, 0 ≤ cur ∧ cur ≤ 1048576 → lft cur (tot szNode (l.drop i)) = lft left (l.length + tot szNode l) → LoopG C laws_szNodeS pRRRLRB 4 0 (s_laws_szNodeS_0 (l.map nodeC) cur i) _) ?_ ?_
      · intro cur hc he
        refine r_laws_szNodeS_0 _ _ _ _ (brB_no (by simp) (a_laws_szNodeS_2 _ _ _ _ _ ⟨?_, rfl⟩))
        rw [← he, List.drop_length]
        unfold lft tot
        rw [if_neg (by omega)]
        simp
      · intro i a hi ha hd _ hn cur hc he
        rw [hd] at he
        simp only [tot] at he
        refine r_laws_szNodeS_0 _ _ _ _ (brB_yes (by simp; omega) ⟨_, rowAt_map ha, _, szNode_run a cur hc (hs a (List.mem_of_getElem? ha)).1 (hs a (List.mem_of_getElem? ha)).2, ?_⟩)
        by_cases hw : cur < (szNode a : Int)
        · refine brB_yes (by simp [lft, szNode] at hw ⊢; omega) (a_laws_szNodeS_1 _ ⟨?_, rfl⟩)
          rw [← he]
          unfold lft
          rw [if_pos (by omega)]
        · have hl2 : lft cur (szNode a) = cur - szNode a := if_neg hw
          refine brB_no (by simp [lft, szNode] at hw ⊢; omega) ?_
          rw [addW_eq (by omega)]
          have := hn (cur - szNode a) (by omega) (by rw [← he]; unfold lft; split <;> split <;> omega)
          rw [← hl2] at this
          exact this
    refine key (left - l.length) (by omega) ?_
    simp only [List.drop_zero]
    unfold lft
    split <;> split <;> omega
theorem lft_lft {a : Int} {n m : Nat} (h : ¬ lft a n < 0) (h0 : 0 ≤ a) : lft (lft a n) m = lft a (n + m) := by unfold lft at *; split <;> split <;> split <;> simp_all <;> omega
theorem lft_in {a : Int} {n : Nat} (h : ¬ lft a n < 0) (h0 : 0 ≤ a ∧ a ≤ 1048576) : 0 ≤ lft a n ∧ lft a n ≤ 1048576 := by unfold lft at *; split <;> simp_all <;> omega
theorem lft_neg {a : Int} {n m : Nat} (h : lft a n < 0) (h0 : 0 ≤ a) : lft a (n + m) = -1 := by unfold lft at *; split <;> simp_all <;> omega
structure TreeW (t : Tree) : Prop where
  lows : t.lows.length ≤ 140737488355328
  nodes : t.nodes.length ≤ 140737488355328
  node : ∀ n ∈ t.nodes, n.length ≤ 140737488355328 ∧ ∀ s ∈ n, s.length ≤ 140737488355328
theorem szTree_run (t : Tree) (left : Int) (h0 : 0 ≤ left ∧ left ≤ 1048576) (h : TreeW t) : RunF C laws_szTree [vTree t, vI left] (vI (lft left (szTree t))) [] := by
  refine (f_laws_szTree _ _ _ _ ⟨_, szIntS _ left h0 h.lows, ?_⟩).run
  unfold szTree szNodes
  refine brB_both (fun hb => ?_) fun hb => ⟨_, szNodeS _ _ (lft_in (by simpa using hb) h0) h.nodes h.node, ?_⟩
  · rw [lft_neg (by simpa using hb) h0.1]; exact ⟨rfl, by first | rfl | trivial⟩
  · have hb : ¬ lft left t.lows.length < 0 := by simpa using hb
    rw [lft_lft hb h0.1]
    refine brB_both (fun hc => ?_) fun hc => ⟨rfl, rfl⟩
    refine ⟨?_, rfl⟩
    have hc : lft left (t.lows.length + (t.nodes.length + tot szNode t.nodes)) < 0 := by simpa using hc
    unfold lft at *
    split <;> simp_all <;> omega
theorem szVol_run (s : ByteArray) (a z : Int) (f : Bool) (left : Int) (h0 : 0 ≤ left ∧ left ≤ 1048576) (hl : s.size ≤ 140737488355328) : RunF C laws_szVol [.ag [iS s, iI a, iI z, iB f], vI left] (vI (lft left s.size)) [] := by
  refine (f_laws_szVol _ _ _ _ _ _ ?_).run
  simp only [strLen, ofNat_cast]
  rw [subW_eq (by omega)]
  unfold lft
  simp only [ltI_eq, brB_dec]
  by_cases h : left < (s.size : Int)
  · rw [if_pos (by omega), if_pos h]; exact ⟨rfl, by first | rfl | trivial⟩
  · rw [if_neg (by omega), if_neg h]; exact ⟨rfl, by first | rfl | trivial⟩
theorem szVolS (l : List (Vol)) (left : Int) (h0 : 0 ≤ left ∧ left ≤ 1048576) (hl : l.length ≤ 140737488355328) (hs : ∀ v ∈ l, v.name.size ≤ 140737488355328) : RunF C laws_szVolS [vVols l, vI left] (vI (lft left (l.length + tot szVol l))) [] := by
  refine (f_laws_szVolS _ _ _ ?_).run
  simp only [List.length_map, ofNat_cast]
  rw [subW_eq (by omega)]
  simp only [ltI_eq, brB_dec]
  by_cases h : left < (l.length : Int)
  · rw [if_pos (by omega)]
    refine ⟨?_, by first | rfl | trivial⟩
    unfold lft
    rw [if_pos (by omega)]
  · rw [if_neg (by omega)]
    have key : ∀ cur : Int, 0 ≤ cur ∧ cur ≤ 1048576 → lft cur (tot szVol (l.drop 0)) = lft left (l.length + tot szVol l) → LoopG C laws_szVolS pRRRLRB 4 0 (s_laws_szVolS_0 (l.map volC) cur ((0 : Nat) : Int)) (fun x st => AftF C laws_szVolS pRRRLRB x st fun r fs => r = vI (lft left (l.length + tot szVol l)) ∧ fs = []) := by
      refine idx_walk l (fun i => ∀ cur : Int, 0 ≤ cur ∧ cur ≤ 1048576 → lft cur (tot szVol (l.drop i)) = lft left (l.length + tot szVol l) → LoopG C laws_szVolS pRRRLRB 4 0 (s_laws_szVolS_0 (l.map volC) cur i) _) ?_ ?_
      · intro cur hc he
        refine r_laws_szVolS_0 _ _ _ _ (brB_no (by simp) (a_laws_szVolS_2 _ _ _ _ _ ⟨?_, rfl⟩))
        rw [← he, List.drop_length]
        unfold lft tot
        rw [if_neg (by omega)]
        simp
      · intro i a hi ha hd _ hn cur hc he
        rw [hd] at he
        simp only [tot] at he
        refine r_laws_szVolS_0 _ _ _ _ (brB_yes (by simp; omega) ⟨_, _, _, _, rowAt_map ha, _, szVol_run _ _ _ _ cur hc (hs a (List.mem_of_getElem? ha)), ?_⟩)
        by_cases hw : cur < (szVol a : Int)
        · refine brB_yes (by simp [lft, szVol] at hw ⊢; omega) (a_laws_szVolS_1 _ ⟨?_, rfl⟩)
          rw [← he]
          unfold lft
          rw [if_pos (by omega)]
        · have hl2 : lft cur (szVol a) = cur - szVol a := if_neg hw
          refine brB_no (by simp [lft, szVol] at hw ⊢; omega) ?_
          rw [addW_eq (by omega)]
          have := hn (cur - szVol a) (by omega) (by rw [← he]; unfold lft; split <;> split <;> omega)
          rw [← hl2] at this
          exact this
    refine key (left - l.length) (by omega) ?_
    simp only [List.drop_zero]
    unfold lft
    split <;> split <;> omega
structure PoolW (p : Pool) : Prop where
  t : TreeW p.t
  ages : p.ages.length ≤ 140737488355328
  cells : p.cells.length ≤ 140737488355328
  vols : p.vols.length ≤ 140737488355328
  vol : ∀ v ∈ p.vols, v.name.size ≤ 140737488355328
  siz : ∀ v ∈ p.vols, v.size ≤ 9223372036854775807
theorem szPool_run (p : Pool) (left : Int) (h0 : 0 ≤ left ∧ left ≤ 1048576) (h : PoolW p) : RunF C laws_szPool [vPool p, vI left] (vI (lft left (szPool p))) [] := by
  refine (f_laws_szPool _ _ _ _ _ _ _ _ ⟨_, szTree_run p.t left h0 h.t, ?_⟩).run
  unfold szPool szVols
  refine brB_both (fun hb => ?_) fun hb => ⟨_, szAgeS _ _ (lft_in (by simpa using hb) h0) h.ages, ?_⟩
  · rw [Nat.add_assoc, Nat.add_assoc, lft_neg (by simpa using hb) h0.1]; exact ⟨rfl, by first | rfl | trivial⟩
  rw [lft_lft (by simpa using hb) h0.1]
  refine brB_both (fun hb => ?_) fun hb => ⟨_, szCellS _ _ (lft_in (by simpa using hb) h0) h.cells, ?_⟩
  · rw [Nat.add_assoc, lft_neg (by simpa using hb) h0.1]; exact ⟨rfl, by first | rfl | trivial⟩
  rw [lft_lft (by simpa using hb) h0.1]
  refine brB_both (fun hb => ?_) fun hb => ⟨_, szVolS _ _ (lft_in (by simpa using hb) h0) h.vols h.vol, ?_⟩
  · rw [lft_neg (by simpa using hb) h0.1]; exact ⟨rfl, by first | rfl | trivial⟩
  rw [lft_lft (by simpa using hb) h0.1]
  refine brB_both (fun hc => ?_) fun hc => ⟨rfl, rfl⟩
  refine ⟨?_, rfl⟩
  have hc : lft left (szTree p.t + p.ages.length + p.cells.length + (p.vols.length + tot szVol p.vols)) < 0 := by simpa using hc
  unfold lft at *
  split <;> simp_all <;> omega
theorem run0_spec_l12SameInts (l m : List (Int)) (hl : l.length ≤ 1073741824) (he : l.length = m.length) : RunF C spec_l12SameInts [vInts l, vInts m] (vB ((allN l.length (eqAt sqInt l m)))) [] := by
  refine (f_spec_l12SameInts _ _ _ ?_).run
  refine brB_no (by simp [he]) ?_
  have key : ((List.range' 0 (l.length - 0)).all (eqAt sqInt l m)) = (allN l.length (eqAt sqInt l m)) → LoopG C spec_l12SameInts pRRLRB 4 0 (s_spec_l12SameInts_0 (l.map intC) (m.map intC) ((0 : Nat) : Int)) (fun u st => AftF C spec_l12SameInts pRRLRB u st fun r fs => r = vB ((allN l.length (eqAt sqInt l m))) ∧ fs = []) := by
    refine nat_walk (l.length) (fun i => ((List.range' i (l.length - i)).all (eqAt sqInt l m)) = (allN l.length (eqAt sqInt l m)) → LoopG C spec_l12SameInts pRRLRB 4 0 (s_spec_l12SameInts_0 (l.map intC) (m.map intC) i) (fun u st => AftF C spec_l12SameInts pRRLRB u st fun r fs => r = vB ((allN l.length (eqAt sqInt l m))) ∧ fs = [])) ?_ ?_
    · intro h0
      refine r_spec_l12SameInts_0 _ _ _ _ (brB_no (by simp) (a_spec_l12SameInts_2 _ _ _ _ _ ?_))
      rw [Nat.sub_self] at h0
      simp only [List.range'_zero, List.all_nil, Bool.true_and] at h0
      rw [← h0]
      exact ⟨rfl, by first | rfl | trivial⟩
    · intro i hi hn h0
      rw [range_step hi, List.all_cons] at h0
      have ha : l[i]? = some l[i] := List.getElem?_eq_getElem hi
      have gO : (eqAt sqInt l m) i = false → (allN l.length (eqAt sqInt l m)) = false := fun e => by rw [← h0, e]; rfl
      have gN : (eqAt sqInt l m) i = true → LoopG C spec_l12SameInts pRRLRB 4 0 (s_spec_l12SameInts_0 (l.map intC) (m.map intC) ((i : Int) + 1)) (fun u st => AftF C spec_l12SameInts pRRLRB u st fun r fs => r = vB ((allN l.length (eqAt sqInt l m))) ∧ fs = []) := fun e => hn (by rw [← h0, e]; rfl)
      refine r_spec_l12SameInts_0 _ _ _ _ (brB_yes (by simp; omega) ?_)
      have hb : m[i]? = some m[i] := List.getElem?_eq_getElem (by omega)
      have e : eqAt sqInt l m i = sqInt l[i] m[i] := eqAt_some ha hb
      simp only [ex_int, getZ_nat, ha, hb, Option.some.injEq, exists_eq_left']
      rw [addW_eq (by omega)]
      cases h1 : sqInt l[i] m[i] with
      | false => exact brB_yes (show (!sqInt l[i] m[i]) = true by rw [h1]; rfl) (a_spec_l12SameInts_1 _ (by rw [gO (by rw [e]; exact h1)]; exact ⟨rfl, by first | rfl | trivial⟩))
      | true => exact brB_no (show (!sqInt l[i] m[i]) = false by rw [h1]; rfl) (gN (by rw [e]; exact h1))
  exact key rfl
theorem run_spec_l12SameInts (l m : List (Int)) (hl : l.length ≤ 1073741824) : RunF C spec_l12SameInts [vInts l, vInts m] (vB (eqL sqInt l m)) [] := by
  by_cases he : l.length = m.length
  · rw [eqL_eq he]; exact run0_spec_l12SameInts l m hl he 
  · rw [eqL_ne he]
    refine (f_spec_l12SameInts _ _ _ (brB_yes (by simp; omega) ?_)).run
    exact ⟨rfl, by first | rfl | trivial⟩
theorem run0_slices_Equal_int (l m : List (Int)) (hl : l.length ≤ 1073741824) (he : l.length = m.length) : RunF C slices_Equal_int [vInts l, vInts m] (vB ((allN l.length (eqAt sqInt l m)))) [] := by
  refine (f_slices_Equal_int _ _ _ ?_).run
  refine brB_no (by simp [he]) ?_
  have key : ((List.range' 0 (l.length - 0)).all (eqAt sqInt l m)) = (allN l.length (eqAt sqInt l m)) → LoopG C slices_Equal_int pRRLRB 4 0 (s_slices_Equal_int_0 (l.map intC) (m.map intC) ((0 : Nat) : Int)) (fun u st => AftF C slices_Equal_int pRRLRB u st fun r fs => r = vB ((allN l.length (eqAt sqInt l m))) ∧ fs = []) := by
    refine nat_walk (l.length) (fun i => ((List.range' i (l.length - i)).all (eqAt sqInt l m)) = (allN l.length (eqAt sqInt l m)) → LoopG C slices_Equal_int pRRLRB 4 0 (s_slices_Equal_int_0 (l.map intC) (m.map intC) i) (fun u st => AftF C slices_Equal_int pRRLRB u st fun r fs => r = vB ((allN l.length (eqAt sqInt l m))) ∧ fs = [])) ?_ ?_
    · intro h0
      refine r_slices_Equal_int_0 _ _ _ _ (brB_no (by simp) (a_slices_Equal_int_2 _ _ _ _ _ _ ?_))
      rw [Nat.sub_self] at h0
      simp only [List.range'_zero, List.all_nil, Bool.true_and] at h0
      rw [← h0]
      exact ⟨rfl, by first | rfl | trivial⟩
    · intro i hi hn h0
      rw [range_step hi, List.all_cons] at h0
      have ha : l[i]? = some l[i] := List.getElem?_eq_getElem hi
      have gO : (eqAt sqInt l m) i = false → (allN l.length (eqAt sqInt l m)) = false := fun e => by rw [← h0, e]; rfl
      have gN : (eqAt sqInt l m) i = true → LoopG C slices_Equal_int pRRLRB 4 0 (s_slices_Equal_int_0 (l.map intC) (m.map intC) ((i : Int) + 1)) (fun u st => AftF C slices_Equal_int pRRLRB u st fun r fs => r = vB ((allN l.length (eqAt sqInt l m))) ∧ fs = []) := fun e => hn (by rw [← h0, e]; rfl)
      refine r_slices_Equal_int_0 _ _ _ _ (brB_yes (by simp; omega) ?_)
      have hb : m[i]? = some m[i] := List.getElem?_eq_getElem (by omega)
      have e : eqAt sqInt l m i = sqInt l[i] m[i] := eqAt_some ha hb
      simp only [ex_int, getZ_nat, ha, hb, Option.some.injEq, exists_eq_left']
      rw [addW_eq (by omega)]
      cases h1 : sqInt l[i] m[i] with
      | false => exact brB_yes (show (!sqInt l[i] m[i]) = true by rw [h1]; rfl) (a_slices_Equal_int_1 _ (by rw [gO (by rw [e]; exact h1)]; exact ⟨rfl, by first | rfl | trivial⟩))
      | true => exact brB_no (show (!sqInt l[i] m[i]) = false by rw [h1]; rfl) (gN (by rw [e]; exact h1))
  exact key rfl
theorem run_slices_Equal_int (l m : List (Int)) (hl : l.length ≤ 1073741824) : RunF C slices_Equal_int [vInts l, vInts m] (vB (eqL sqInt l m)) [] := by
  by_cases he : l.length = m.length
  · rw [eqL_eq he]; exact run0_slices_Equal_int l m hl he 
  · rw [eqL_ne he]
    refine (f_slices_Equal_int _ _ _ (brB_yes (by simp; omega) ?_)).run
    exact ⟨rfl, by first | rfl | trivial⟩
theorem run0_spec_l16SameKeys (l m : List (Key)) (hl : l.length ≤ 1073741824) (he : l.length = m.length) : RunF C spec_l16SameKeys [vKeys l, vKeys m] (vB ((allN l.length (eqAt sqKey l m)))) [] := by
  refine (f_spec_l16SameKeys _ _ _ ?_).run
  refine brB_no (by simp [he]) ?_
  have key : ((List.range' 0 (l.length - 0)).all (eqAt sqKey l m)) = (allN l.length (eqAt sqKey l m)) → LoopG C spec_l16SameKeys pRRLRB 4 0 (s_spec_l16SameKeys_0 (l.map keyC) (m.map keyC) ((0 : Nat) : Int)) (fun u st => AftF C spec_l16SameKeys pRRLRB u st fun r fs => r = vB ((allN l.length (eqAt sqKey l m))) ∧ fs = []) := by
    refine nat_walk (l.length) (fun i => ((List.range' i (l.length - i)).all (eqAt sqKey l m)) = (allN l.length (eqAt sqKey l m)) → LoopG C spec_l16SameKeys pRRLRB 4 0 (s_spec_l16SameKeys_0 (l.map keyC) (m.map keyC) i) (fun u st => AftF C spec_l16SameKeys pRRLRB u st fun r fs => r = vB ((allN l.length (eqAt sqKey l m))) ∧ fs = [])) ?_ ?_
    · intro h0
      refine r_spec_l16SameKeys_0 _ _ _ _ (brB_no (by simp) (a_spec_l16SameKeys_2 _ _ _ _ _ ?_))
      rw [Nat.sub_self] at h0
      simp only [List.range'_zero, List.all_nil, Bool.true_and] at h0
      rw [← h0]
      exact ⟨rfl, by first | rfl | trivial⟩
    · intro i hi hn h0
      rw [range_step hi, List.all_cons] at h0
      have ha : l[i]? = some l[i] := List.getElem?_eq_getElem hi
      have gO : (eqAt sqKey l m) i = false → (allN l.length (eqAt sqKey l m)) = false := fun e => by rw [← h0, e]; rfl
      have gN : (eqAt sqKey l m) i = true → LoopG C spec_l16SameKeys pRRLRB 4 0 (s_spec_l16SameKeys_0 (l.map keyC) (m.map keyC) ((i : Int) + 1)) (fun u st => AftF C spec_l16SameKeys pRRLRB u st fun r fs => r = vB ((allN l.length (eqAt sqKey l m))) ∧ fs = []) := fun e => hn (by rw [← h0, e]; rfl)
      refine r_spec_l16SameKeys_0 _ _ _ _ (brB_yes (by simp; omega) ?_)
      have hb : m[i]? = some m[i] := List.getElem?_eq_getElem (by omega)
      have e : eqAt sqKey l m i = sqKey l[i] m[i] := eqAt_some ha hb
      simp only [ex_key, getZ_nat, ha, hb, Option.some.injEq, exists_eq_left']
      rw [addW_eq (by omega)]
      cases h1 : sqKey l[i] m[i] with
      | false => exact brB_yes (show (!sqKey l[i] m[i]) = true by rw [h1]; rfl) (a_spec_l16SameKeys_1 _ (by rw [gO (by rw [e]; exact h1)]; exact ⟨rfl, by first | rfl | trivial⟩))
      | true => exact brB_no (show (!sqKey l[i] m[i]) = false by rw [h1]; rfl) (gN (by rw [e]; exact h1))
  exact key rfl
theorem run_spec_l16SameKeys (l m : List (Key)) (hl : l.length ≤ 1073741824) : RunF C spec_l16SameKeys [vKeys l, vKeys m] (vB (eqL sqKey l m)) [] := by
  by_cases he : l.length = m.length
  · rw [eqL_eq he]; exact run0_spec_l16SameKeys l m hl he 
  · rw [eqL_ne he]
    refine (f_spec_l16SameKeys _ _ _ (brB_yes (by simp; omega) ?_)).run
    exact ⟨rfl, by first | rfl | trivial⟩
theorem run0_slices_Equal_Key (l m : List (Key)) (hl : l.length ≤ 1073741824) (he : l.length = m.length) : RunF C slices_Equal_Key [vKeys l, vKeys m] (vB ((allN l.length (eqAt sqKey l m)))) [] := by
  refine (f_slices_Equal_Key _ _ _ ?_).run
  refine brB_no (by simp [he]) ?_
  have key : ((List.range' 0 (l.length - 0)).all (eqAt sqKey l m)) = (allN l.length (eqAt sqKey l m)) → LoopG C slices_Equal_Key pRRLRB 4 0 (s_slices_Equal_Key_0 (l.map keyC) (m.map keyC) ((0 : Nat) : Int)) (fun u st => AftF C slices_Equal_Key pRRLRB u st fun r fs => r = vB ((allN l.length (eqAt sqKey l m))) ∧ fs = []) := by
    refine nat_walk (l.length) (fun i => ((List.range' i (l.length - i)).all (eqAt sqKey l m)) = (allN l.length (eqAt sqKey l m)) → LoopG C slices_Equal_Key pRRLRB 4 0 (s_slices_Equal_Key_0 (l.map keyC) (m.map keyC) i) (fun u st => AftF C slices_Equal_Key pRRLRB u st fun r fs => r = vB ((allN l.length (eqAt sqKey l m))) ∧ fs = [])) ?_ ?_
    · intro h0
      refine r_slices_Equal_Key_0 _ _ _ _ (brB_no (by simp) (a_slices_Equal_Key_2 _ _ _ _ _ _ ?_))
      rw [Nat.sub_self] at h0
      simp only [List.range'_zero, List.all_nil, Bool.true_and] at h0
      rw [← h0]
      exact ⟨rfl, by first | rfl | trivial⟩
    · intro i hi hn h0
      rw [range_step hi, List.all_cons] at h0
      have ha : l[i]? = some l[i] := List.getElem?_eq_getElem hi
      have gO : (eqAt sqKey l m) i = false → (allN l.length (eqAt sqKey l m)) = false := fun e => by rw [← h0, e]; rfl
      have gN : (eqAt sqKey l m) i = true → LoopG C slices_Equal_Key pRRLRB 4 0 (s_slices_Equal_Key_0 (l.map keyC) (m.map keyC) ((i : Int) + 1)) (fun u st => AftF C slices_Equal_Key pRRLRB u st fun r fs => r = vB ((allN l.length (eqAt sqKey l m))) ∧ fs = []) := fun e => hn (by rw [← h0, e]; rfl)
      refine r_slices_Equal_Key_0 _ _ _ _ (brB_yes (by simp; omega) ?_)
      have hb : m[i]? = some m[i] := List.getElem?_eq_getElem (by omega)
      have e : eqAt sqKey l m i = sqKey l[i] m[i] := eqAt_some ha hb
      simp only [ex_key, getZ_nat, ha, hb, Option.some.injEq, exists_eq_left']
      rw [addW_eq (by omega)]
      cases h1 : sqKey l[i] m[i] with
      | false => exact brB_yes (show (!sqKey l[i] m[i]) = true by rw [h1]; rfl) (a_slices_Equal_Key_1 _ (by rw [gO (by rw [e]; exact h1)]; exact ⟨rfl, by first | rfl | trivial⟩))
      | true => exact brB_no (show (!sqKey l[i] m[i]) = false by rw [h1]; rfl) (gN (by rw [e]; exact h1))
  exact key rfl
theorem run_slices_Equal_Key (l m : List (Key)) (hl : l.length ≤ 1073741824) : RunF C slices_Equal_Key [vKeys l, vKeys m] (vB (eqL sqKey l m)) [] := by
  by_cases he : l.length = m.length
  · rw [eqL_eq he]; exact run0_slices_Equal_Key l m hl he 
  · rw [eqL_ne he]
    refine (f_slices_Equal_Key _ _ _ (brB_yes (by simp; omega) ?_)).run
    exact ⟨rfl, by first | rfl | trivial⟩
theorem run0_slices_Equal_Age (l m : List (Age)) (hl : l.length ≤ 1073741824) (he : l.length = m.length) : RunF C slices_Equal_Age [vAges l, vAges m] (vB ((allN l.length (eqAt sqAge l m)))) [] := by
  refine (f_slices_Equal_Age _ _ _ ?_).run
  refine brB_no (by simp [he]) ?_
  have key : ((List.range' 0 (l.length - 0)).all (eqAt sqAge l m)) = (allN l.length (eqAt sqAge l m)) → LoopG C slices_Equal_Age pRRLRB 4 0 (s_slices_Equal_Age_0 (l.map ageC) (m.map ageC) ((0 : Nat) : Int)) (fun u st => AftF C slices_Equal_Age pRRLRB u st fun r fs => r = vB ((allN l.length (eqAt sqAge l m))) ∧ fs = []) := by
    refine nat_walk (l.length) (fun i => ((List.range' i (l.length - i)).all (eqAt sqAge l m)) = (allN l.length (eqAt sqAge l m)) → LoopG C slices_Equal_Age pRRLRB 4 0 (s_slices_Equal_Age_0 (l.map ageC) (m.map ageC) i) (fun u st => AftF C slices_Equal_Age pRRLRB u st fun r fs => r = vB ((allN l.length (eqAt sqAge l m))) ∧ fs = [])) ?_ ?_
    · intro h0
      refine r_slices_Equal_Age_0 _ _ _ _ (brB_no (by simp) (a_slices_Equal_Age_2 _ _ _ _ _ _ ?_))
      rw [Nat.sub_self] at h0
      simp only [List.range'_zero, List.all_nil, Bool.true_and] at h0
      rw [← h0]
      exact ⟨rfl, by first | rfl | trivial⟩
    · intro i hi hn h0
      rw [range_step hi, List.all_cons] at h0
      have ha : l[i]? = some l[i] := List.getElem?_eq_getElem hi
      have gO : (eqAt sqAge l m) i = false → (allN l.length (eqAt sqAge l m)) = false := fun e => by rw [← h0, e]; rfl
      have gN : (eqAt sqAge l m) i = true → LoopG C slices_Equal_Age pRRLRB 4 0 (s_slices_Equal_Age_0 (l.map ageC) (m.map ageC) ((i : Int) + 1)) (fun u st => AftF C slices_Equal_Age pRRLRB u st fun r fs => r = vB ((allN l.length (eqAt sqAge l m))) ∧ fs = []) := fun e => hn (by rw [← h0, e]; rfl)
      refine r_slices_Equal_Age_0 _ _ _ _ (brB_yes (by simp; omega) ?_)
      have hb : m[i]? = some m[i] := List.getElem?_eq_getElem (by omega)
      have e : eqAt sqAge l m i = sqAge l[i] m[i] := eqAt_some ha hb
      simp only [ex_age, getZ_nat, ha, hb, Option.some.injEq, exists_eq_left']
      rw [addW_eq (by omega)]
      cases h1 : sqAge l[i] m[i] with
      | false => exact brB_yes (show (!sqAge l[i] m[i]) = true by rw [h1]; rfl) (a_slices_Equal_Age_1 _ (by rw [gO (by rw [e]; exact h1)]; exact ⟨rfl, by first | rfl | trivial⟩))
      | true => exact brB_no (show (!sqAge l[i] m[i]) = false by rw [h1]; rfl) (gN (by rw [e]; exact h1))
  exact key rfl
theorem run_slices_Equal_Age (l m : List (Age)) (hl : l.length ≤ 1073741824) : RunF C slices_Equal_Age [vAges l, vAges m] (vB (eqL sqAge l m)) [] := by
  by_cases he : l.length = m.length
  · rw [eqL_eq he]; exact run0_slices_Equal_Age l m hl he 
  · rw [eqL_ne he]
    refine (f_slices_Equal_Age _ _ _ (brB_yes (by simp; omega) ?_)).run
    exact ⟨rfl, by first | rfl | trivial⟩
theorem run0_slices_Equal_Cell (l m : List (Cell)) (hl : l.length ≤ 1073741824) (he : l.length = m.length) : RunF C slices_Equal_Cell [vCells l, vCells m] (vB ((allN l.length (eqAt sqCell l m)))) [] := by
  refine (f_slices_Equal_Cell _ _ _ ?_).run
  refine brB_no (by simp [he]) ?_
  have key : ((List.range' 0 (l.length - 0)).all (eqAt sqCell l m)) = (allN l.length (eqAt sqCell l m)) → LoopG C slices_Equal_Cell pRRLRB 4 0 (s_slices_Equal_Cell_0 (l.map cellC) (m.map cellC) ((0 : Nat) : Int)) (fun u st => AftF C slices_Equal_Cell pRRLRB u st fun r fs => r = vB ((allN l.length (eqAt sqCell l m))) ∧ fs = []) := by
    refine nat_walk (l.length) (fun i => ((List.range' i (l.length - i)).all (eqAt sqCell l m)) = (allN l.length (eqAt sqCell l m)) → LoopG C slices_Equal_Cell pRRLRB 4 0 (s_slices_Equal_Cell_0 (l.map cellC) (m.map cellC) i) (fun u st => AftF C slices_Equal_Cell pRRLRB u st fun r fs => r = vB ((allN l.length (eqAt sqCell l m))) ∧ fs = [])) ?_ ?_
    · intro h0
      refine r_slices_Equal_Cell_0 _ _ _ _ (brB_no (by simp) (a_slices_Equal_Cell_2 _ _ _ _ _ _ ?_))
      rw [Nat.sub_self] at h0
      simp only [List.range'_zero, List.all_nil, Bool.true_and] at h0
      rw [← h0]
      exact ⟨rfl, by first | rfl | trivial⟩
    · intro i hi hn h0
      rw [range_step hi, List.all_cons] at h0
      have ha : l[i]? = some l[i] := List.getElem?_eq_getElem hi
      have gO : (eqAt sqCell l m) i = false → (allN l.length (eqAt sqCell l m)) = false := fun e => by rw [← h0, e]; rfl
      have gN : (eqAt sqCell l m) i = true → LoopG C slices_Equal_Cell pRRLRB 4 0 (s_slices_Equal_Cell_0 (l.map cellC) (m.map cellC) ((i : Int) + 1)) (fun u st => AftF C slices_Equal_Cell pRRLRB u st fun r fs => r = vB ((allN l.length (eqAt sqCell l m))) ∧ fs = []) := fun e => hn (by rw [← h0, e]; rfl)
      refine r_slices_Equal_Cell_0 _ _ _ _ (brB_yes (by simp; omega) ?_)
      have hb : m[i]? = some m[i] := List.getElem?_eq_getElem (by omega)
      have e : eqAt sqCell l m i = sqCell l[i] m[i] := eqAt_some ha hb
      simp only [ex_cell, getZ_nat, ha, hb, Option.some.injEq, exists_eq_left']
      rw [addW_eq (by omega)]
      cases h1 : sqCell l[i] m[i] with
      | false => exact brB_yes (show (!sqCell l[i] m[i]) = true by rw [h1]; rfl) (a_slices_Equal_Cell_1 _ (by rw [gO (by rw [e]; exact h1)]; exact ⟨rfl, by first | rfl | trivial⟩))
      | true => exact brB_no (show (!sqCell l[i] m[i]) = false by rw [h1]; rfl) (gN (by rw [e]; exact h1))
  exact key rfl
theorem run_slices_Equal_Cell (l m : List (Cell)) (hl : l.length ≤ 1073741824) : RunF C slices_Equal_Cell [vCells l, vCells m] (vB (eqL sqCell l m)) [] := by
  by_cases he : l.length = m.length
  · rw [eqL_eq he]; exact run0_slices_Equal_Cell l m hl he 
  · rw [eqL_ne he]
    refine (f_slices_Equal_Cell _ _ _ (brB_yes (by simp; omega) ?_)).run
    exact ⟨rfl, by first | rfl | trivial⟩
theorem run0_slices_Equal_Vol (l m : List (Vol)) (hl : l.length ≤ 1073741824) (he : l.length = m.length) : RunF C slices_Equal_Vol [vVols l, vVols m] (vB ((allN l.length (eqAt sqVol l m)))) [] := by
  refine (f_slices_Equal_Vol _ _ _ ?_).run
  refine brB_no (by simp [he]) ?_
  have key : ((List.range' 0 (l.length - 0)).all (eqAt sqVol l m)) = (allN l.length (eqAt sqVol l m)) → LoopG C slices_Equal_Vol pRRLRB 4 0 (s_slices_Equal_Vol_0 (l.map volC) (m.map volC) ((0 : Nat) : Int)) (fun u st => AftF C slices_Equal_Vol pRRLRB u st fun r fs => r = vB ((allN l.length (eqAt sqVol l m))) ∧ fs = []) := by
    refine nat_walk (l.length) (fun i => ((List.range' i (l.length - i)).all (eqAt sqVol l m)) = (allN l.length (eqAt sqVol l m)) → LoopG C slices_Equal_Vol pRRLRB 4 0 (s_slices_Equal_Vol_0 (l.map volC) (m.map volC) i) (fun u st => AftF C slices_Equal_Vol pRRLRB u st fun r fs => r = vB ((allN l.length (eqAt sqVol l m))) ∧ fs = [])) ?_ ?_
    · intro h0
      refine r_slices_Equal_Vol_0 _ _ _ _ (brB_no (by simp) (a_slices_Equal_Vol_2 _ _ _ _ _ _ ?_))
      rw [Nat.sub_self] at h0
      simp only [List.range'_zero, List.all_nil, Bool.true_and] at h0
      rw [← h0]
      exact ⟨rfl, by first | rfl | trivial⟩
    · intro i hi hn h0
      rw [range_step hi, List.all_cons] at h0
      have ha : l[i]? = some l[i] := List.getElem?_eq_getElem hi
      have gO : (eqAt sqVol l m) i = false → (allN l.length (eqAt sqVol l m)) = false := fun e => by rw [← h0, e]; rfl
      have gN : (eqAt sqVol l m) i = true → LoopG C slices_Equal_Vol pRRLRB 4 0 (s_slices_Equal_Vol_0 (l.map volC) (m.map volC) ((i : Int) + 1)) (fun u st => AftF C slices_Equal_Vol pRRLRB u st fun r fs => r = vB ((allN l.length (eqAt sqVol l m))) ∧ fs = []) := fun e => hn (by rw [← h0, e]; rfl)
      refine r_slices_Equal_Vol_0 _ _ _ _ (brB_yes (by simp; omega) ?_)
      have hb : m[i]? = some m[i] := List.getElem?_eq_getElem (by omega)
      have e : eqAt sqVol l m i = sqVol l[i] m[i] := eqAt_some ha hb
      simp only [ex_vol, getZ_nat, ha, hb, Option.some.injEq, exists_eq_left']
      rw [addW_eq (by omega)]
      cases h1 : sqVol l[i] m[i] with
      | false => exact brB_yes (show (!sqVol l[i] m[i]) = true by rw [h1]; rfl) (a_slices_Equal_Vol_1 _ (by rw [gO (by rw [e]; exact h1)]; exact ⟨rfl, by first | rfl | trivial⟩))
      | true => exact brB_no (show (!sqVol l[i] m[i]) = false by rw [h1]; rfl) (gN (by rw [e]; exact h1))
  exact key rfl
theorem run_slices_Equal_Vol (l m : List (Vol)) (hl : l.length ≤ 1073741824) : RunF C slices_Equal_Vol [vVols l, vVols m] (vB (eqL sqVol l m)) [] := by
  by_cases he : l.length = m.length
  · rw [eqL_eq he]; exact run0_slices_Equal_Vol l m hl he 
  · rw [eqL_ne he]
    refine (f_slices_Equal_Vol _ _ _ (brB_yes (by simp; omega) ?_)).run
    exact ⟨rfl, by first | rfl | trivial⟩
theorem run_impl_sameNode_1 (l m : List Key) (hl : l.length ≤ 1073741824) : RunF C impl_sameNode_1 [vKeys l, vKeys m] (vB (eqL sqKey l m)) [] := by
  refine (f_impl_sameNode_1 _ _ _ ?_).run
  exact ⟨_, run_slices_Equal_Key l m hl, ⟨rfl, by first | rfl | trivial⟩⟩
theorem run0_slices_EqualFunc_Key_impl_sameNode_1 (l m : List (List Key)) (hl : l.length ≤ 1073741824) (he : l.length = m.length) (hs : ∀ s ∈ l, s.length ≤ 1073741824) : RunF C slices_EqualFunc_Key [.c (.sub 1 (l.map setC)), .c (.sub 1 (m.map setC)), .fn 139 []] (vB ((allN l.length (eqAt (eqL sqKey) l m)))) [] := by
  refine (f_slices_EqualFunc_Key_impl_sameNode_1 _ _ _ ?_).run
  refine brB_no (by simp [he]) ?_
  have key : ((List.range' 0 (l.length - 0)).all (eqAt (eqL sqKey) l m)) = (allN l.length (eqAt (eqL sqKey) l m)) → LoopG C slices_EqualFunc_Key pRRLRB 4 0 (s_slices_EqualFunc_Key_impl_sameNode_1_0 (m.map setC) (l.map setC) ((0 : Nat) : Int)) (fun u st => AftF C slices_EqualFunc_Key pRRLRB u st fun r fs => r = vB ((allN l.length (eqAt (eqL sqKey) l m))) ∧ fs = []) := by
    refine nat_walk (l.length) (fun i => ((List.range' i (l.length - i)).all (eqAt (eqL sqKey) l m)) = (allN l.length (eqAt (eqL sqKey) l m)) → LoopG C slices_EqualFunc_Key pRRLRB 4 0 (s_slices_EqualFunc_Key_impl_sameNode_1_0 (m.map setC) (l.map setC) i) (fun u st => AftF C slices_EqualFunc_Key pRRLRB u st fun r fs => r = vB ((allN l.length (eqAt (eqL sqKey) l m))) ∧ fs = [])) ?_ ?_
    · intro h0
      refine r_slices_EqualFunc_Key_impl_sameNode_1_0 _ _ _ _ (brB_no (by simp) (a_slices_EqualFunc_Key_impl_sameNode_1_2 _ _ _ _ _ _ ?_))
      rw [Nat.sub_self] at h0
      simp only [List.range'_zero, List.all_nil, Bool.true_and] at h0
      rw [← h0]
      exact ⟨rfl, by first | rfl | trivial⟩
    · intro i hi hn h0
      rw [range_step hi, List.all_cons] at h0
      have ha : l[i]? = some l[i] := List.getElem?_eq_getElem hi
      have gO : (eqAt (eqL sqKey) l m) i = false → (allN l.length (eqAt (eqL sqKey) l m)) = false := fun e => by rw [← h0, e]; rfl
      have gN : (eqAt (eqL sqKey) l m) i = true → LoopG C slices_EqualFunc_Key pRRLRB 4 0 (s_slices_EqualFunc_Key_impl_sameNode_1_0 (m.map setC) (l.map setC) ((i : Int) + 1)) (fun u st => AftF C slices_EqualFunc_Key pRRLRB u st fun r fs => r = vB ((allN l.length (eqAt (eqL sqKey) l m))) ∧ fs = []) := fun e => hn (by rw [← h0, e]; rfl)
      refine r_slices_EqualFunc_Key_impl_sameNode_1_0 _ _ _ _ (brB_yes (by simp; omega) ?_)
      have hb : m[i]? = some m[i] := List.getElem?_eq_getElem (by omega)
      have e : eqAt (eqL sqKey) l m i = (eqL sqKey) l[i] m[i] := eqAt_some ha hb
      have hcall : ∀ q, RunF C impl_sameNode_1 [vKeys l[i], vKeys m[i]] (vB q) [] ↔ q = eqL sqKey l[i] m[i] := fun q => iffB (run_impl_sameNode_1 _ _ (hs _ (List.getElem_mem hi)))
      simp only [ex_set, getZ_nat, ha, hb, Option.some.injEq, exists_eq_left', hcall, exists_eq_left]
      rw [addW_eq (by omega)]
      cases h1 : (eqL sqKey) l[i] m[i] with
      | false => exact brB_yes rfl (a_slices_EqualFunc_Key_impl_sameNode_1_1 _ (by rw [gO (by rw [e]; exact h1)]; exact ⟨rfl, by first | rfl | trivial⟩))
      | true => exact brB_no rfl (gN (by rw [e]; exact h1))
  exact key rfl
theorem run_slices_EqualFunc_Key_impl_sameNode_1 (l m : List (List Key)) (hl : l.length ≤ 1073741824) (hs : ∀ s ∈ l, s.length ≤ 1073741824) : RunF C slices_EqualFunc_Key [.c (.sub 1 (l.map setC)), .c (.sub 1 (m.map setC)), .fn 139 []] (vB (eqL (eqL sqKey) l m)) [] := by
  by_cases he : l.length = m.length
  · rw [eqL_eq he]; exact run0_slices_EqualFunc_Key_impl_sameNode_1 l m hl he hs
  · rw [eqL_ne he]
    refine (f_slices_EqualFunc_Key_impl_sameNode_1 _ _ _ (brB_yes (by simp; omega) ?_)).run
    exact ⟨rfl, by first | rfl | trivial⟩
theorem run_impl_sameNode (l m : List (List Key)) (hl : l.length ≤ 1073741824) (hs : ∀ s ∈ l, s.length ≤ 1073741824) : RunF C impl_sameNode [vNode l, vNode m] (vB (eqL (eqL sqKey) l m)) [] := by
  refine (f_impl_sameNode _ _ _ ?_).run
  exact ⟨_, run_slices_EqualFunc_Key_impl_sameNode_1 l m hl hs, ⟨rfl, by first | rfl | trivial⟩⟩
theorem run0_slices_EqualFunc_Node_impl_sameNode (l m : List (List (List Key))) (hl : l.length ≤ 1073741824) (he : l.length = m.length) (hs : ∀ n ∈ l, n.length ≤ 1073741824 ∧ ∀ s ∈ n, s.length ≤ 1073741824) : RunF C slices_EqualFunc_Node [.c (.sub 1 (l.map nodeC)), .c (.sub 1 (m.map nodeC)), .fn 99 []] (vB ((allN l.length (eqAt (eqL (eqL sqKey)) l m)))) [] := by
  refine (f_slices_EqualFunc_Node_impl_sameNode _ _ _ ?_).run
  refine brB_no (by simp [he]) ?_
  have key : ((List.range' 0 (l.length - 0)).all (eqAt (eqL (eqL sqKey)) l m)) = (allN l.length (eqAt (eqL (eqL sqKey)) l m)) → LoopG C slices_EqualFunc_Node pRRLRB 4 0 (s_slices_EqualFunc_Node_impl_sameNode_0 (m.map nodeC) (l.map nodeC) ((0 : Nat) : Int)) (fun u st => AftF C slices_EqualFunc_Node pRRLRB u st fun r fs => r = vB ((allN l.length (eqAt (eqL (eqL sqKey)) l m))) ∧ fs = []) := by
    refine nat_walk (l.length) (fun i => ((List.range' i (l.length - i)).all (eqAt (eqL (eqL sqKey)) l m)) = (allN l.length (eqAt (eqL (eqL sqKey)) l m)) → LoopG C slices_EqualFunc_Node pRRLRB 4 0 (s_slices_EqualFunc_Node_impl_sameNode_0 (m.map nodeC) (l.map nodeC) i) (fun u st => AftF C slices_EqualFunc_Node pRRLRB u st fun r fs => r = vB ((allN l.length (eqAt (eqL (eqL sqKey)) l m))) ∧ fs = [])) ?_ ?_
    · intro h0
      refine r_slices_EqualFunc_Node_impl_sameNode_0 _ _ _ _ (brB_no (by simp) (a_slices_EqualFunc_Node_impl_sameNode_2 _ _ _ _ _ _ ?_))
      rw [Nat.sub_self] at h0
      simp only [List.range'_zero, List.all_nil, Bool.true_and] at h0
      rw [← h0]
      exact ⟨rfl, by first | rfl | trivial⟩
    · intro i hi hn h0
      rw [range_step hi, List.all_cons] at h0
      have ha : l[i]? = some l[i] := List.getElem?_eq_getElem hi
      have gO : (eqAt (eqL (eqL sqKey)) l m) i = false → (allN l.length (eqAt (eqL (eqL sqKey)) l m)) = false := fun e => by rw [← h0, e]; rfl
      have gN : (eqAt (eqL (eqL sqKey)) l m) i = true → LoopG C slices_EqualFunc_Node pRRLRB 4 0 (s_slices_EqualFunc_Node_impl_sameNode_0 (m.map nodeC) (l.map nodeC) ((i : Int) + 1)) (fun u st => AftF C slices_EqualFunc_Node pRRLRB u st fun r fs => r = vB ((allN l.length (eqAt (eqL (eqL sqKey)) l m))) ∧ fs = []) := fun e => hn (by rw [← h0, e]; rfl)
      refine r_slices_EqualFunc_Node_impl_sameNode_0 _ _ _ _ (brB_yes (by simp; omega) ?_)
      have hb : m[i]? = some m[i] := List.getElem?_eq_getElem (by omega)
      have e : eqAt (eqL (eqL sqKey)) l m i = (eqL (eqL sqKey)) l[i] m[i] := eqAt_some ha hb
      have hcall : ∀ q, RunF C impl_sameNode [vNode l[i], vNode m[i]] (vB q) [] ↔ q = eqL (eqL sqKey) l[i] m[i] := fun q => iffB (run_impl_sameNode _ _ (hs _ (List.getElem_mem hi)).1 (hs _ (List.getElem_mem hi)).2)
      simp only [ex_node, getZ_nat, ha, hb, Option.some.injEq, exists_eq_left', hcall, exists_eq_left]
      rw [addW_eq (by omega)]
      cases h1 : (eqL (eqL sqKey)) l[i] m[i] with
      | false => exact brB_yes rfl (a_slices_EqualFunc_Node_impl_sameNode_1 _ _ _ (by rw [gO (by rw [e]; exact h1)]; exact ⟨rfl, by first | rfl | trivial⟩))
      | true => exact brB_no rfl (gN (by rw [e]; exact h1))
  exact key rfl
theorem run_slices_EqualFunc_Node_impl_sameNode (l m : List (List (List Key))) (hl : l.length ≤ 1073741824) (hs : ∀ n ∈ l, n.length ≤ 1073741824 ∧ ∀ s ∈ n, s.length ≤ 1073741824) : RunF C slices_EqualFunc_Node [.c (.sub 1 (l.map nodeC)), .c (.sub 1 (m.map nodeC)), .fn 99 []] (vB (eqL (eqL (eqL sqKey)) l m)) [] := by
  by_cases he : l.length = m.length
  · rw [eqL_eq he]; exact run0_slices_EqualFunc_Node_impl_sameNode l m hl he hs
  · rw [eqL_ne he]
    refine (f_slices_EqualFunc_Node_impl_sameNode _ _ _ (brB_yes (by simp; omega) ?_)).run
    exact ⟨rfl, by first | rfl | trivial⟩
theorem run_spec_l16SameTree (t u : Tree) (hl : szTree t ≤ 1073741824) : RunF C spec_l16SameTree [vTree t, vTree u] (vB (sqTree t u)) [] := by
  have e2 : szTree t = t.lows.length + (t.nodes.length + tot szNode t.nodes) := rfl
  refine (f_spec_l16SameTree _ _ _ _ _ ⟨_, run_spec_l12SameInts t.lows u.lows (by omega), ?_⟩).run
  unfold sqTree
  cases h1 : eqL sqInt t.lows u.lows with
  | false => exact brB_yes rfl ⟨rfl, by first | rfl | trivial⟩
  | true =>
    refine brB_no rfl ?_
    by_cases he : t.nodes.length = u.nodes.length
    · refine brB_no (by simp [he]) ?_
      rw [eqL_eq he, Bool.true_and]
      have key : ((List.range' 0 (t.nodes.length - 0)).all (eqAt (eqL (eqL sqKey)) t.nodes u.nodes)) = allN t.nodes.length (eqAt (eqL (eqL sqKey)) t.nodes u.nodes) → LoopG C spec_l16SameTree pRRLRB 4 0 (s_spec_l16SameTree_0 ((0 : Nat) : Int) (t.lows.map intC) (t.nodes.map nodeC) (u.lows.map intC) (u.nodes.map nodeC)) (fun x st => AftF C spec_l16SameTree pRRLRB x st fun r fs => r = vB (allN t.nodes.length (eqAt (eqL (eqL sqKey)) t.nodes u.nodes)) ∧ fs = []) := by
        refine nat_walk t.nodes.length (fun i => ((List.range' i (t.nodes.length - i)).all (eqAt (eqL (eqL sqKey)) t.nodes u.nodes)) = allN t.nodes.length (eqAt (eqL (eqL sqKey)) t.nodes u.nodes) → LoopG C spec_l16SameTree pRRLRB 4 0 (s_spec_l16SameTree_0 i (t.lows.map intC) (t.nodes.map nodeC) (u.lows.map intC) (u.nodes.map nodeC)) (fun x st => AftF C spec_l16SameTree pRRLRB x st fun r fs => r = vB (allN t.nodes.length (eqAt (eqL (eqL sqKey)) t.nodes u.nodes)) ∧ fs = [])) ?_ ?_
        · intro h0
          rw [Nat.sub_self] at h0
          simp only [List.range'_zero, List.all_nil] at h0
          exact r_spec_l16SameTree_0 _ _ _ _ _ _ (brB_no (by simp) (a_spec_l16SameTree_3 _ _ _ _ _ _ _ (by rw [← h0]; exact ⟨rfl, by first | rfl | trivial⟩)))
        · intro i hi hn h0
          rw [range_step hi, List.all_cons] at h0
          have ha : t.nodes[i]? = some t.nodes[i] := List.getElem?_eq_getElem hi
          have hb : u.nodes[i]? = some u.nodes[i] := List.getElem?_eq_getElem (by omega)
          have e : eqAt (eqL (eqL sqKey)) t.nodes u.nodes i = eqL (eqL sqKey) t.nodes[i] u.nodes[i] := eqAt_some ha hb
          have hz : szNode t.nodes[i] ≤ tot szNode t.nodes := tot_get (w := szNode) ha
          have e1 : szNode t.nodes[i] = t.nodes[i].length + tot szSet t.nodes[i] := rfl
          have gO : eqAt (eqL (eqL sqKey)) t.nodes u.nodes i = false → AftF C spec_l16SameTree pRRLRB TX.ret (t_spec_l16SameTree_1 (t.lows.map intC) (t.nodes.map nodeC) (u.lows.map intC) (u.nodes.map nodeC)) (fun r fs => r = vB (allN t.nodes.length (eqAt (eqL (eqL sqKey)) t.nodes u.nodes)) ∧ fs = []) := fun e => a_spec_l16SameTree_1 _ _ _ _ _ (by rw [← h0, e]; exact ⟨rfl, by first | rfl | trivial⟩)
          have gN : eqAt (eqL (eqL sqKey)) t.nodes u.nodes i = true → LoopG C spec_l16SameTree pRRLRB 4 0 (s_spec_l16SameTree_0 ((i : Int) + 1) (t.lows.map intC) (t.nodes.map nodeC) (u.lows.map intC) (u.nodes.map nodeC)) (fun x st => AftF C spec_l16SameTree pRRLRB x st fun r fs => r = vB (allN t.nodes.length (eqAt (eqL (eqL sqKey)) t.nodes u.nodes)) ∧ fs = []) := fun e => hn (by rw [← h0, e]; rfl)
          refine r_spec_l16SameTree_0 _ _ _ _ _ _ (brB_yes (by simp; omega) ?_)
          simp only [ex_node, getZ_nat, ha, hb, Option.some.injEq, exists_eq_left']
          by_cases h2 : t.nodes[i].length = u.nodes[i].length
          · refine brB_no (by simp [h2]) ?_
            rw [e, eqL_eq h2] at gO gN
            have keyI : ((List.range' 0 (t.nodes[i].length - 0)).all (eqAt (eqL sqKey) t.nodes[i] u.nodes[i])) = allN t.nodes[i].length (eqAt (eqL sqKey) t.nodes[i] u.nodes[i]) → LoopG C spec_l16SameTree pRRLRBBRLBRRB 3 2 (s_spec_l16SameTree_2 i ((0 : Nat) : Int) (t.lows.map intC) (t.nodes.map nodeC) (u.lows.map intC) (u.nodes.map nodeC)) (fun x st => AftL C spec_l16SameTree pRRLRB 4 0 pRLBRRB x st (fun x st => AftF C spec_l16SameTree pRRLRB x st fun r fs => r = vB (allN t.nodes.length (eqAt (eqL (eqL sqKey)) t.nodes u.nodes)) ∧ fs = [])) := by
              refine nat_walk t.nodes[i].length (fun k => ((List.range' k (t.nodes[i].length - k)).all (eqAt (eqL sqKey) t.nodes[i] u.nodes[i])) = allN t.nodes[i].length (eqAt (eqL sqKey) t.nodes[i] u.nodes[i]) → LoopG C spec_l16SameTree pRRLRBBRLBRRB 3 2 (s_spec_l16SameTree_2 i k (t.lows.map intC) (t.nodes.map nodeC) (u.lows.map intC) (u.nodes.map nodeC)) (fun x st => AftL C spec_l16SameTree pRRLRB 4 0 pRLBRRB x st (fun x st => AftF C spec_l16SameTree pRRLRB x st fun r fs => r = vB (allN t.nodes.length (eqAt (eqL (eqL sqKey)) t.nodes u.nodes)) ∧ fs = []))) ?_ ?_
              · intro h3
                rw [Nat.sub_self] at h3
                simp only [List.range'_zero, List.all_nil] at h3
                refine r_spec_l16SameTree_2 _ _ _ _ _ _ _ ?_
                simp only [ex_node, getZ_nat, ha, Option.some.injEq, exists_eq_left']
                refine brB_no (by simp) (a_spec_l16SameTree_5 _ _ _ _ _ _ _ _ ?_)
                rw [addW_eq (by omega)]
                exact gN h3.symm
              · intro k hk hn2 h3
                rw [range_step hk, List.all_cons] at h3
                have hka : t.nodes[i][k]? = some t.nodes[i][k] := List.getElem?_eq_getElem hk
                have hkb : u.nodes[i][k]? = some u.nodes[i][k] := List.getElem?_eq_getElem (by omega)
                have ek : eqAt (eqL sqKey) t.nodes[i] u.nodes[i] k = eqL sqKey t.nodes[i][k] u.nodes[i][k] := eqAt_some hka hkb
                have hzk : szSet t.nodes[i][k] ≤ tot szSet t.nodes[i] := tot_get (w := szSet) hka
                have ezk : szSet t.nodes[i][k] = t.nodes[i][k].length := rfl
                refine r_spec_l16SameTree_2 _ _ _ _ _ _ _ ?_
                simp only [ex_node, getZ_nat, ha, Option.some.injEq, exists_eq_left']
                refine brB_yes (by simp; omega) ?_
                simp only [ex_node, ex_set, getZ_nat, ha, hb, hka, hkb, Option.some.injEq, exists_eq_left']
                refine ⟨_, run_spec_l16SameKeys _ _ (by omega), ?_⟩
                rw [addW_eq (by omega)]
                cases h4 : eqL sqKey t.nodes[i][k] u.nodes[i][k] with
                | false => exact brB_yes rfl (a_spec_l16SameTree_4 _ _ _ _ _ (gO (by rw [← h3, ek, h4]; rfl)))
                | true => exact brB_no rfl (hn2 (by rw [← h3, ek, h4]; rfl))
            exact keyI rfl
          · exact brB_yes (by simp; omega) (gO (by rw [e, eqL_ne h2]))
      exact key rfl
    · exact brB_yes (by simp; omega) ⟨by rw [eqL_ne he]; rfl, rfl⟩
theorem run_impl_SamePool (p q : Pool) (hS : szPool p ≤ 1048576) : RunF C impl_SamePool [vPool p, vPool q] (vB (samePool p q)) [] := by
  have hP := poolS_of hS
  have e2 : szTree p.t = p.t.lows.length + (p.t.nodes.length + tot szNode p.t.nodes) := rfl
  have hns : ∀ n ∈ p.t.nodes, n.length ≤ 1073741824 ∧ ∀ s ∈ n, s.length ≤ 1073741824 := by
    intro n hn
    have h1 : szNode n ≤ tot szNode p.t.nodes := tot_mem (w := szNode) hn
    have h2 : szNode n = n.length + tot szSet n := rfl
    refine ⟨by omega, fun s hs => ?_⟩
    have h3 : szSet s ≤ tot szSet n := tot_mem (w := szSet) hs
    have h4 : szSet s = s.length := rfl
    omega
  unfold samePool sqTree
  rw [Bool.and_assoc]
  refine (f_impl_SamePool _ _ _ _ _ _ _ _ _ _ _ _ _ ?_).run
  refine ⟨_, run_slices_Equal_int p.t.lows q.t.lows (by omega), ?_⟩
  cases h0 : eqL sqInt p.t.lows q.t.lows with
  | false => exact brB_no rfl ⟨rfl, by first | rfl | trivial⟩
  | true =>
    refine brB_yes rfl ?_
    refine ⟨_, run_slices_EqualFunc_Node_impl_sameNode p.t.nodes q.t.nodes (by omega) hns, ?_⟩
    cases h1 : eqL (eqL (eqL sqKey)) p.t.nodes q.t.nodes with
    | false => exact brB_no rfl ⟨rfl, by first | rfl | trivial⟩
    | true =>
      refine brB_yes rfl ?_
      refine ⟨_, run_slices_Equal_Age p.ages q.ages (by omega), ?_⟩
      cases h2 : eqL sqAge p.ages q.ages with
      | false => exact brB_no rfl ⟨rfl, by first | rfl | trivial⟩
      | true =>
        refine brB_yes rfl ?_
        refine ⟨_, run_slices_Equal_Cell p.cells q.cells (by omega), ?_⟩
        cases h3 : eqL sqCell p.cells q.cells with
        | false => exact brB_no rfl ⟨rfl, by first | rfl | trivial⟩
        | true =>
          refine brB_yes rfl ?_
          refine ⟨_, run_slices_Equal_Vol p.vols q.vols (by omega), ?_⟩
          cases h4 : eqL sqVol p.vols q.vols with
          | false => exact brB_no rfl ⟨rfl, by first | rfl | trivial⟩
          | true =>
            refine brB_yes rfl ?_
            exact ⟨rfl, by first | rfl | trivial⟩
theorem run_spec_SamePool (p q : Pool) (hS : szPool p ≤ 1048576) : RunF C spec_SamePool [vPool p, vPool q] (vB (samePool p q)) [] := by
  have hP := poolS_of hS
  unfold samePool
  refine (f_spec_SamePool _ _ _ _ _ _ _ _ _ _ _ _ _ ⟨_, run_spec_l16SameTree p.t q.t (by omega), ?_⟩).run
  cases h0 : sqTree p.t q.t with
  | false => exact brB_yes rfl ⟨rfl, by first | rfl | trivial⟩
  | true =>
    refine brB_no rfl ?_
    by_cases ha : p.ages.length = q.ages.length
    rotate_left; · exact brB_yes (by simp; omega) ⟨by rw [eqL_ne ha]; rfl, rfl⟩
    by_cases hc : p.cells.length = q.cells.length
    rotate_left; · exact brB_no (by simp [ha]) (brB_yes (by simp; omega) ⟨by rw [eqL_ne hc]; simp, rfl⟩)
    by_cases hv : p.vols.length = q.vols.length
    rotate_left; · exact brB_no (by simp [ha]) (brB_no (by simp [hc]) (brB_yes (by simp; omega) ⟨by rw [eqL_ne hv]; simp, rfl⟩))
    refine brB_no (by simp [ha]) (brB_no (by simp [hc]) (brB_no (by simp [hv]) ?_))
    cases hx : eqI p.next q.next with
    | false => exact brB_yes rfl ⟨by simp, by first | rfl | trivial⟩
    | true =>
    refine brB_no rfl ?_
    rw [eqL_eq ha, eqL_eq hc, eqL_eq hv, Bool.true_and, Bool.and_true]
    have key2 : ((List.range' 0 (p.vols.length - 0)).all (eqAt sqVol p.vols q.vols)) = (allN p.ages.length (eqAt sqAge p.ages q.ages) && (allN p.cells.length (eqAt sqCell p.cells q.cells) && allN p.vols.length (eqAt sqVol p.vols q.vols))) → LoopG C spec_SamePool pRRRRLRB 4 4 (s_spec_SamePool_6 ((0 : Nat) : Int) (p.t.lows.map intC) (p.t.nodes.map nodeC) (p.ages.map ageC) (p.cells.map cellC) (p.vols.map volC) p.next (q.t.lows.map intC) (q.t.nodes.map nodeC) (q.ages.map ageC) (q.cells.map cellC) (q.vols.map volC) q.next) (fun x st => AftF C spec_SamePool pRRRRLRB x st fun r fs => r = vB (allN p.ages.length (eqAt sqAge p.ages q.ages) && (allN p.cells.length (eqAt sqCell p.cells q.cells) && allN p.vols.length (eqAt sqVol p.vols q.vols))) ∧ fs = []) := by
      refine nat_walk p.vols.length (fun i => ((List.range' i (p.vols.length - i)).all (eqAt sqVol p.vols q.vols)) = (allN p.ages.length (eqAt sqAge p.ages q.ages) && (allN p.cells.length (eqAt sqCell p.cells q.cells) && allN p.vols.length (eqAt sqVol p.vols q.vols))) → LoopG C spec_SamePool pRRRRLRB 4 4 (s_spec_SamePool_6 i (p.t.lows.map intC) (p.t.nodes.map nodeC) (p.ages.map ageC) (p.cells.map cellC) (p.vols.map volC) p.next (q.t.lows.map intC) (q.t.nodes.map nodeC) (q.ages.map ageC) (q.cells.map cellC) (q.vols.map volC) q.next) (fun x st => AftF C spec_SamePool pRRRRLRB x st fun r fs => r = vB (allN p.ages.length (eqAt sqAge p.ages q.ages) && (allN p.cells.length (eqAt sqCell p.cells q.cells) && allN p.vols.length (eqAt sqVol p.vols q.vols))) ∧ fs = [])) ?_ ?_
      · intro h0
        rw [Nat.sub_self] at h0
        simp only [List.range'_zero, List.all_nil, Bool.true_and] at h0
        refine r_spec_SamePool_6 _ _ _ _ _ _ _ _ _ _ _ _ _ _ (brB_no (by simp) (a_spec_SamePool_8 _ _ _ _ _ _ _ _ _ _ _ _ _ _ _ ?_))
        rw [← h0]; exact ⟨rfl, by first | rfl | trivial⟩
      · intro i hi hn h0
        rw [range_step hi, List.all_cons] at h0
        have ha : p.vols[i]? = some p.vols[i] := List.getElem?_eq_getElem hi
        have hb : q.vols[i]? = some q.vols[i] := List.getElem?_eq_getElem (by omega)
        have e : eqAt sqVol p.vols q.vols i = sqVol p.vols[i] q.vols[i] := eqAt_some ha hb
        refine r_spec_SamePool_6 _ _ _ _ _ _ _ _ _ _ _ _ _ _ (brB_yes (by simp; omega) ?_)
        simp only [ex_vol, getZ_nat, ha, hb, Option.some.injEq, exists_eq_left']
        rw [addW_eq (by omega)]
        cases h1 : sqVol p.vols[i] q.vols[i] with
        | false => exact brB_yes (show (!sqVol p.vols[i] q.vols[i]) = true by rw [h1]; rfl) (a_spec_SamePool_7 _ _ _ _ _ _ _ _ _ _ _ _ _ (by rw [← h0, e, h1]; exact ⟨rfl, by first | rfl | trivial⟩))
        | true => exact brB_no (show (!sqVol p.vols[i] q.vols[i]) = false by rw [h1]; rfl) (hn (by rw [← h0, e, h1]; rfl))
    have key1 : ((List.range' 0 (p.cells.length - 0)).all (eqAt sqCell p.cells q.cells) && (allN p.vols.length (eqAt sqVol p.vols q.vols))) = (allN p.ages.length (eqAt sqAge p.ages q.ages) && (allN p.cells.length (eqAt sqCell p.cells q.cells) && allN p.vols.length (eqAt sqVol p.vols q.vols))) → LoopG C spec_SamePool pRRRLRB 4 2 (s_spec_SamePool_3 ((0 : Nat) : Int) (p.t.lows.map intC) (p.t.nodes.map nodeC) (p.ages.map ageC) (p.cells.map cellC) (p.vols.map volC) p.next (q.t.lows.map intC) (q.t.nodes.map nodeC) (q.ages.map ageC) (q.cells.map cellC) (q.vols.map volC) q.next) (fun x st => AftF C spec_SamePool pRRRLRB x st fun r fs => r = vB (allN p.ages.length (eqAt sqAge p.ages q.ages) && (allN p.cells.length (eqAt sqCell p.cells q.cells) && allN p.vols.length (eqAt sqVol p.vols q.vols))) ∧ fs = []) := by
      refine nat_walk p.cells.length (fun i => ((List.range' i (p.cells.length - i)).all (eqAt sqCell p.cells q.cells) && (allN p.vols.length (eqAt sqVol p.vols q.vols))) = (allN p.ages.length (eqAt sqAge p.ages q.ages) && (allN p.cells.length (eqAt sqCell p.cells q.cells) && allN p.vols.length (eqAt sqVol p.vols q.vols))) → LoopG C spec_SamePool pRRRLRB 4 2 (s_spec_SamePool_3 i (p.t.lows.map intC) (p.t.nodes.map nodeC) (p.ages.map ageC) (p.cells.map cellC) (p.vols.map volC) p.next (q.t.lows.map intC) (q.t.nodes.map nodeC) (q.ages.map ageC) (q.cells.map cellC) (q.vols.map volC) q.next) (fun x st => AftF C spec_SamePool pRRRLRB x st fun r fs => r = vB (allN p.ages.length (eqAt sqAge p.ages q.ages) && (allN p.cells.length (eqAt sqCell p.cells q.cells) && allN p.vols.length (eqAt sqVol p.vols q.vols))) ∧ fs = [])) ?_ ?_
      · intro h0
        rw [Nat.sub_self] at h0
        simp only [List.range'_zero, List.all_nil, Bool.true_and] at h0
        refine r_spec_SamePool_3 _ _ _ _ _ _ _ _ _ _ _ _ _ _ (brB_no (by simp) (a_spec_SamePool_5 _ _ _ _ _ _ _ _ _ _ _ _ _ _ _ ?_))
        exact key2 h0
      · intro i hi hn h0
        rw [range_step hi, List.all_cons] at h0
        have ha : p.cells[i]? = some p.cells[i] := List.getElem?_eq_getElem hi
        have hb : q.cells[i]? = some q.cells[i] := List.getElem?_eq_getElem (by omega)
        have e : eqAt sqCell p.cells q.cells i = sqCell p.cells[i] q.cells[i] := eqAt_some ha hb
        refine r_spec_SamePool_3 _ _ _ _ _ _ _ _ _ _ _ _ _ _ (brB_yes (by simp; omega) ?_)
        simp only [ex_cell, getZ_nat, ha, hb, Option.some.injEq, exists_eq_left']
        rw [addW_eq (by omega)]
        cases h1 : sqCell p.cells[i] q.cells[i] with
        | false => exact brB_yes (show (!sqCell p.cells[i] q.cells[i]) = true by rw [h1]; rfl) (a_spec_SamePool_4 _ _ _ _ _ _ _ _ _ _ _ _ _ (by rw [← h0, e, h1]; exact ⟨rfl, by first | rfl | trivial⟩))
        | true => exact brB_no (show (!sqCell p.cells[i] q.cells[i]) = false by rw [h1]; rfl) (hn (by rw [← h0, e, h1]; rfl))
    have key0 : ((List.range' 0 (p.ages.length - 0)).all (eqAt sqAge p.ages q.ages) && (allN p.cells.length (eqAt sqCell p.cells q.cells) && allN p.vols.length (eqAt sqVol p.vols q.vols))) = (allN p.ages.length (eqAt sqAge p.ages q.ages) && (allN p.cells.length (eqAt sqCell p.cells q.cells) && allN p.vols.length (eqAt sqVol p.vols q.vols))) → LoopG C spec_SamePool pRRLRB 4 0 (s_spec_SamePool_0 ((0 : Nat) : Int) (p.t.lows.map intC) (p.t.nodes.map nodeC) (p.ages.map ageC) (p.cells.map cellC) (p.vols.map volC) p.next (q.t.lows.map intC) (q.t.nodes.map nodeC) (q.ages.map ageC) (q.cells.map cellC) (q.vols.map volC) q.next) (fun x st => AftF C spec_SamePool pRRLRB x st fun r fs => r = vB (allN p.ages.length (eqAt sqAge p.ages q.ages) && (allN p.cells.length (eqAt sqCell p.cells q.cells) && allN p.vols.length (eqAt sqVol p.vols q.vols))) ∧ fs = []) := by
      refine nat_walk p.ages.length (fun i => ((List.range' i (p.ages.length - i)).all (eqAt sqAge p.ages q.ages) && (allN p.cells.length (eqAt sqCell p.cells q.cells) && allN p.vols.length (eqAt sqVol p.vols q.vols))) = (allN p.ages.length (eqAt sqAge p.ages q.ages) && (allN p.cells.length (eqAt sqCell p.cells q.cells) && allN p.vols.length (eqAt sqVol p.vols q.vols))) → LoopG C spec_SamePool pRRLRB 4 0 (s_spec_SamePool_0 i (p.t.lows.map intC) (p.t.nodes.map nodeC) (p.ages.map ageC) (p.cells.map cellC) (p.vols.map volC) p.next (q.t.lows.map intC) (q.t.nodes.map nodeC) (q.ages.map ageC) (q.cells.map cellC) (q.vols.map volC) q.next) (fun x st => AftF C spec_SamePool pRRLRB x st fun r fs => r = vB (allN p.ages.length (eqAt sqAge p.ages q.ages) && (allN p.cells.length (eqAt sqCell p.cells q.cells) && allN p.vols.length (eqAt sqVol p.vols q.vols))) ∧ fs = [])) ?_ ?_
      · intro h0
        rw [Nat.sub_self] at h0
        simp only [List.range'_zero, List.all_nil, Bool.true_and] at h0
        refine r_spec_SamePool_0 _ _ _ _ _ _ _ _ _ _ _ _ _ _ (brB_no (by simp) (a_spec_SamePool_2 _ _ _ _ _ _ _ _ _ _ _ _ _ _ _ ?_))
        exact key1 h0
      · intro i hi hn h0
        rw [range_step hi, List.all_cons] at h0
        have ha : p.ages[i]? = some p.ages[i] := List.getElem?_eq_getElem hi
        have hb : q.ages[i]? = some q.ages[i] := List.getElem?_eq_getElem (by omega)
        have e : eqAt sqAge p.ages q.ages i = sqAge p.ages[i] q.ages[i] := eqAt_some ha hb
        refine r_spec_SamePool_0 _ _ _ _ _ _ _ _ _ _ _ _ _ _ (brB_yes (by simp; omega) ?_)
        simp only [ex_age, getZ_nat, ha, hb, Option.some.injEq, exists_eq_left']
        rw [addW_eq (by omega)]
        cases h1 : sqAge p.ages[i] q.ages[i] with
        | false => exact brB_yes (show (!sqAge p.ages[i] q.ages[i]) = true by rw [h1]; rfl) (a_spec_SamePool_1 _ _ _ _ _ _ _ _ _ _ _ _ _ (by rw [← h0, e, h1]; exact ⟨rfl, by first | rfl | trivial⟩))
        | true => exact brB_no (show (!sqAge p.ages[i] q.ages[i]) = false by rw [h1]; rfl) (hn (by rw [← h0, e, h1]; rfl))
    exact key0 rfl
theorem len_of {n z : Nat} (h : n * z ≤ reachBytes) (hz : 1 ≤ z) : n ≤ 140737488355328 := by
  have : reachBytes ≤ 140737488355328 := by decide
  have h2 : n * 1 ≤ n * z := Nat.mul_le_mul_left n hz
  omega
theorem i64_hi {n : Int} (h : (Lit.int .i64 n).wf = true) : n ≤ 9223372036854775807 := by
  have := (i64_wf h).2
  omega
theorem int_in {r : List TC} (h : WfT C.tt t_int r) : ∃ n : Int, r = intC n ∧ True := by
  obtain ⟨n, rfl, _⟩ := h.int_inv (k := .i64) (by kernel_rfl)
  exact ⟨n, rfl, trivial⟩
theorem key_in {r : List TC} (h : WfT C.tt t_laws_Key r) : ∃ x : Key, r = keyC x ∧ True := by
  obtain ⟨q0, r0, rfl, h0, k0⟩ := (h.struct_inv (fs := [(0, 3), (1, 3), (2, 3), (3, 3), (4, 3)]) (by kernel_rfl)).cons_inv
  obtain ⟨q1, r1, rfl, h1, k1⟩ := k0.cons_inv
  obtain ⟨q2, r2, rfl, h2, k2⟩ := k1.cons_inv
  obtain ⟨q3, r3, rfl, h3, k3⟩ := k2.cons_inv
  obtain ⟨q4, r4, rfl, h4, k4⟩ := k3.cons_inv
  have e := k4.nil_inv
  subst e
  obtain ⟨v0, rfl, u0⟩ := h0.int_inv (k := .i64) (by kernel_rfl)
  obtain ⟨v1, rfl, u1⟩ := h1.int_inv (k := .i64) (by kernel_rfl)
  obtain ⟨v2, rfl, u2⟩ := h2.int_inv (k := .i64) (by kernel_rfl)
  obtain ⟨v3, rfl, u3⟩ := h3.int_inv (k := .i64) (by kernel_rfl)
  obtain ⟨v4, rfl, u4⟩ := h4.int_inv (k := .i64) (by kernel_rfl)
  exact ⟨⟨v0, v1, v2, v3, v4⟩, rfl, trivial⟩
theorem age_in {r : List TC} (h : WfT C.tt t_laws_Age r) : ∃ x : Age, r = ageC x ∧ True := by
  obtain ⟨q0, r0, rfl, h0, k0⟩ := (h.struct_inv (fs := [(0, 3), (1, 3)]) (by kernel_rfl)).cons_inv
  obtain ⟨q1, r1, rfl, h1, k1⟩ := k0.cons_inv
  have e := k1.nil_inv
  subst e
  obtain ⟨v0, rfl, u0⟩ := h0.int_inv (k := .i64) (by kernel_rfl)
  obtain ⟨v1, rfl, u1⟩ := h1.int_inv (k := .i64) (by kernel_rfl)
  exact ⟨⟨v0, v1⟩, rfl, trivial⟩
theorem cell_in {r : List TC} (h : WfT C.tt t_laws_Cell r) : ∃ x : Cell, r = cellC x ∧ True := by
  obtain ⟨q0, r0, rfl, h0, k0⟩ := (h.struct_inv (fs := [(0, 3), (1, 4), (2, 3)]) (by kernel_rfl)).cons_inv
  obtain ⟨q1, r1, rfl, h1, k1⟩ := k0.cons_inv
  obtain ⟨q2, r2, rfl, h2, k2⟩ := k1.cons_inv
  have e := k2.nil_inv
  subst e
  obtain ⟨v0, rfl, u0⟩ := h0.int_inv (k := .i64) (by kernel_rfl)
  obtain ⟨v1, rfl⟩ := h1.bool_inv (by kernel_rfl)
  obtain ⟨v2, rfl, u2⟩ := h2.int_inv (k := .i64) (by kernel_rfl)
  exact ⟨⟨v0, v1, v2⟩, rfl, trivial⟩
theorem vol_in {r : List TC} (h : WfT C.tt t_laws_Vol r) : ∃ x : Vol, r = volC x ∧ x.name.size ≤ 140737488355328 ∧ x.size ≤ 9223372036854775807 := by
  obtain ⟨q0, r0, rfl, h0, k0⟩ := (h.struct_inv (fs := [(0, 9), (1, 3), (2, 3), (3, 4)]) (by kernel_rfl)).cons_inv
  obtain ⟨q1, r1, rfl, h1, k1⟩ := k0.cons_inv
  obtain ⟨q2, r2, rfl, h2, k2⟩ := k1.cons_inv
  obtain ⟨q3, r3, rfl, h3, k3⟩ := k2.cons_inv
  have e := k3.nil_inv
  subst e
  obtain ⟨v0, rfl, z0⟩ := h0.str_inv (by kernel_rfl)
  obtain ⟨v1, rfl, u1⟩ := h1.int_inv (k := .i64) (by kernel_rfl)
  obtain ⟨v2, rfl, u2⟩ := h2.int_inv (k := .i64) (by kernel_rfl)
  obtain ⟨v3, rfl⟩ := h3.bool_inv (by kernel_rfl)
  exact ⟨⟨v0, v1, v2, v3⟩, rfl, ⟨Nat.le_trans z0 (by decide), i64_hi u2⟩⟩
theorem ints_rows {r : List TC} (h : WfT C.tt t_S_int r) : ∃ l : List (Int), r = [.sub 1 (l.map intC)] ∧ l.length ≤ 140737488355328 ∧ ∀ x ∈ l, True := by
  obtain ⟨w, rfl, y, z⟩ := h.slice_inv (e := t_int) (by kernel_rfl)
  obtain ⟨l, rfl, hl⟩ := rows_typed fun r hr => int_in (y r hr)
  rw [List.length_map] at z
  exact ⟨l, rfl, len_of z (by decide +kernel), hl⟩
theorem keys_rows {r : List TC} (h : WfT C.tt t_S_laws_Key r) : ∃ l : List (Key), r = [.sub 5 (l.map keyC)] ∧ l.length ≤ 140737488355328 ∧ ∀ x ∈ l, True := by
  obtain ⟨w, rfl, y, z⟩ := h.slice_inv (e := t_laws_Key) (by kernel_rfl)
  obtain ⟨l, rfl, hl⟩ := rows_typed fun r hr => key_in (y r hr)
  rw [List.length_map] at z
  exact ⟨l, rfl, len_of z (by decide +kernel), hl⟩
theorem ages_rows {r : List TC} (h : WfT C.tt t_S_laws_Age r) : ∃ l : List (Age), r = [.sub 2 (l.map ageC)] ∧ l.length ≤ 140737488355328 ∧ ∀ x ∈ l, True := by
  obtain ⟨w, rfl, y, z⟩ := h.slice_inv (e := t_laws_Age) (by kernel_rfl)
  obtain ⟨l, rfl, hl⟩ := rows_typed fun r hr => age_in (y r hr)
  rw [List.length_map] at z
  exact ⟨l, rfl, len_of z (by decide +kernel), hl⟩
theorem cells_rows {r : List TC} (h : WfT C.tt t_S_laws_Cell r) : ∃ l : List (Cell), r = [.sub 3 (l.map cellC)] ∧ l.length ≤ 140737488355328 ∧ ∀ x ∈ l, True := by
  obtain ⟨w, rfl, y, z⟩ := h.slice_inv (e := t_laws_Cell) (by kernel_rfl)
  obtain ⟨l, rfl, hl⟩ := rows_typed fun r hr => cell_in (y r hr)
  rw [List.length_map] at z
  exact ⟨l, rfl, len_of z (by decide +kernel), hl⟩
theorem vols_rows {r : List TC} (h : WfT C.tt t_S_laws_Vol r) : ∃ l : List (Vol), r = [.sub 4 (l.map volC)] ∧ l.length ≤ 140737488355328 ∧ ∀ x ∈ l, x.name.size ≤ 140737488355328 ∧ x.size ≤ 9223372036854775807 := by
  obtain ⟨w, rfl, y, z⟩ := h.slice_inv (e := t_laws_Vol) (by kernel_rfl)
  obtain ⟨l, rfl, hl⟩ := rows_typed fun r hr => vol_in (y r hr)
  rw [List.length_map] at z
  exact ⟨l, rfl, len_of z (by decide +kernel), hl⟩
theorem set_in {r : List TC} (h : WfT C.tt t_S_laws_Key r) : ∃ s : List Key, r = setC s ∧ s.length ≤ 140737488355328 := by
  obtain ⟨l, rfl, hl, _⟩ := keys_rows h
  exact ⟨l, rfl, hl⟩
theorem sets_rows {r : List TC} (h : WfT C.tt t_SS_laws_Key r) : ∃ l : List (List Key), r = [.sub 1 (l.map setC)] ∧ l.length ≤ 140737488355328 ∧ ∀ x ∈ l, x.length ≤ 140737488355328 := by
  obtain ⟨w, rfl, y, z⟩ := h.slice_inv (e := t_S_laws_Key) (by kernel_rfl)
  obtain ⟨l, rfl, hl⟩ := rows_typed fun r hr => set_in (y r hr)
  rw [List.length_map] at z
  exact ⟨l, rfl, len_of z (by decide +kernel), hl⟩
theorem node_in {r : List TC} (h : WfT C.tt t_laws_Node r) : ∃ n : List (List Key), r = nodeC n ∧ (n.length ≤ 140737488355328 ∧ ∀ s ∈ n, s.length ≤ 140737488355328) := by
  obtain ⟨q0, r0, rfl, h0, k0⟩ := (h.struct_inv (fs := [(0, 131)]) (by kernel_rfl)).cons_inv
  have e := k0.nil_inv
  subst e
  obtain ⟨l, rfl, hl, hs⟩ := sets_rows h0
  exact ⟨l, rfl, hl, hs⟩
theorem nodes_rows {r : List TC} (h : WfT C.tt t_S_laws_Node r) : ∃ l : List (List (List Key)), r = [.sub 1 (l.map nodeC)] ∧ l.length ≤ 140737488355328 ∧ ∀ x ∈ l, x.length ≤ 140737488355328 ∧ ∀ s ∈ x, s.length ≤ 140737488355328 := by
  obtain ⟨w, rfl, y, z⟩ := h.slice_inv (e := t_laws_Node) (by kernel_rfl)
  obtain ⟨l, rfl, hl⟩ := rows_typed fun r hr => node_in (y r hr)
  rw [List.length_map] at z
  exact ⟨l, rfl, len_of z (by decide +kernel), hl⟩
theorem tree_in {r : List TC} (h : WfT C.tt t_laws_Tree r) : ∃ t : Tree, r = treeC t ∧ TreeW t := by
  obtain ⟨q0, r0, rfl, h0, k0⟩ := (h.struct_inv (fs := [(0, 22), (1, 23)]) (by kernel_rfl)).cons_inv
  obtain ⟨q1, r1, rfl, h1, k1⟩ := k0.cons_inv
  have e := k1.nil_inv
  subst e
  obtain ⟨l, rfl, hl, _⟩ := ints_rows h0
  obtain ⟨n, rfl, hn, hs⟩ := nodes_rows h1
  exact ⟨⟨l, n⟩, rfl, ⟨hl, hn, hs⟩⟩
theorem pool_in {r : List TC} (h : WfT C.tt t_laws_Pool r) : ∃ p : Pool, r = poolC p ∧ PoolW p := by
  obtain ⟨q0, r0, rfl, h0, k0⟩ := (h.struct_inv (fs := [(0, 25), (2, 47), (3, 48), (4, 49), (5, 3)]) (by kernel_rfl)).cons_inv
  obtain ⟨q1, r1, rfl, h1, k1⟩ := k0.cons_inv
  obtain ⟨q2, r2, rfl, h2, k2⟩ := k1.cons_inv
  obtain ⟨q3, r3, rfl, h3, k3⟩ := k2.cons_inv
  obtain ⟨q4, r4, rfl, h4, k4⟩ := k3.cons_inv
  have e := k4.nil_inv
  subst e
  obtain ⟨t, rfl, ht⟩ := tree_in h0
  obtain ⟨a, rfl, ha, _⟩ := ages_rows h1
  obtain ⟨c, rfl, hc, _⟩ := cells_rows h2
  obtain ⟨v, rfl, hv, hw⟩ := vols_rows h3
  obtain ⟨n, rfl, _⟩ := int_in h4
  exact ⟨⟨t, a, c, v, n⟩, rfl, ⟨ht, ha, hc, hv, fun v h => (hw v h).1, fun v h => (hw v h).2⟩⟩
theorem v_pool {v : TV} (h : WfV C.tt t_laws_Pool v) : ∃ x : Pool, v = vPool x ∧ PoolW x := by
  have ht : (C.tt t_laws_Pool).ti = .struct [(0, 25), (2, 47), (3, 48), (4, 49), (5, 3)] := by kernel_rfl
  cases h with
  | c hs hw => exact absurd ht (hs _)
  | ag _ hw =>
    obtain ⟨x, rfl, hx⟩ := pool_in hw
    exact ⟨x, rfl, hx⟩
theorem lft_ok {a : Int} {n : Nat} (h : ltI (lft a n) 0 = false) (h0 : 0 ≤ a ∧ a ≤ 1048576) : (n : Int) ≤ a ∧ (0 ≤ lft a n ∧ lft a n ≤ 1048576) ∧ lft a n = a - n := by
  rw [ltI_eq] at h
  have h : ¬ lft a n < 0 := of_decide_eq_false h
  unfold lft at *
  split at h <;> simp_all <;> omega
theorem treeB_of {t : Tree} (h : szTree t ≤ 1048576) : TreeB t := by
  unfold szTree szNodes at h
  refine ⟨by omega, by omega, fun n hn => ?_⟩
  have h1 := tot_mem (w := szNode) hn
  have e : szNode n = n.length + tot szSet n := rfl
  exact ⟨by omega, fun s hs => by
    have h2 := tot_mem (w := szSet) hs
    have e2 : szSet s = s.length := rfl
    omega⟩
theorem poolB_of {p : Pool} (h : szPool p ≤ 1048576) : PoolB p := by
  unfold szPool szVols at h
  exact ⟨treeB_of (by omega), by omega, by omega, by omega⟩
theorem law_SamePool (p : Pool) (w_p : PoolW p) (q : Pool) (w_q : PoolW q) : RunF C laws_FnExactSamePool [vPool p, vPool q] (vB true) [] := by
  refine (f_laws_FnExactSamePool _ _ _ _ _ _ _ _ _ _ _ _ _ ?_).run
  refine ⟨_, szPool_run _ _ (by first | omega | assumption) (by assumption), ?_⟩
  refine brB_both (fun _ => ⟨rfl, by first | rfl | trivial⟩) fun hz0 => ?_
  obtain ⟨hz0a, hz0b, hz0c⟩ := lft_ok hz0 (by first | omega | assumption)
  refine ⟨_, szPool_run _ _ (by first | omega | assumption) (by assumption), ?_⟩
  refine brB_both (fun _ => ⟨rfl, by first | rfl | trivial⟩) fun hz1 => ?_
  obtain ⟨hz1a, hz1b, hz1c⟩ := lft_ok hz1 (by first | omega | assumption)
  have hB := poolB_of (p := p) (by omega)
  have hS : szPool p ≤ 1048576 := by omega
  have hP := poolS_of hS
  have hB2 := poolB_of (p := q) (by omega)
  have hS2 : szPool q ≤ 1048576 := by omega
  have hP2 := poolS_of hS2
  refine ⟨_, _, _, _, _, _, toPool _ (by assumption), ?_⟩
  refine ⟨_, _, _, _, _, _, toPool _ (by assumption), ?_⟩
  refine ⟨_, run_spec_SamePool p q hS, ?_⟩
  refine ⟨_, _, _, _, _, _, toPool _ (by assumption), ?_⟩
  refine ⟨_, _, _, _, _, _, toPool _ (by assumption), ?_⟩
  refine ⟨_, run_impl_SamePool p q hS, ?_⟩
  refine brB_no (by first | rfl | (simp; done) | (simp; omega)) ?_
  refine ⟨_, _, _, _, _, _, toPool _ (by assumption), ?_⟩
  refine ⟨_, eqPool _ (by assumption), ?_⟩
  refine brB_no (by first | rfl | (simp; done) | (simp; omega)) ?_
  refine ⟨_, _, _, _, _, _, toPool _ (by assumption), ?_⟩
  refine ⟨_, eqPool _ (by assumption), ?_⟩
  refine brB_no (by first | rfl | (simp; done) | (simp; omega)) ?_
  exact ⟨rfl, by first | rfl | trivial⟩
theorem all_SamePool (vs : List TV) (h : WfVs C.tt [t_laws_Pool, t_laws_Pool] vs) : ∃ k, callP C k laws_FnExactSamePool vs (vB true) [] := by
  cases h with
  | cons h0 h => 
    cases h with
    | cons h1 h => 
      cases h
      obtain ⟨p, rfl, wp⟩ := v_pool h0
      obtain ⟨q, rfl, wq⟩ := v_pool h1
      exact law_SamePool p wp q wq
end Go.T.R
