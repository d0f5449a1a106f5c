/- What the functions answer. -/
import Derived.Test.YtakljkckacgonaaGreatTR0
set_option linter.unusedVariables false
set_option linter.unusedSimpArgs false
set_option maxRecDepth 100000
namespace Go.T.R
open Go Go.T
theorem toKey (v0 : Int) (v1 : Int) (v2 : Int) (v3 : Int) (v4 : Int) : RunF C laws_toKey [.ag [iI v0, iI v1, iI v2, iI v3, iI v4]] (.ag [iI v0, iI v1, iI v2, iI v3, iI v4]) [] := (f_laws_toKey _ _ _ _ _ _ ⟨rfl, by first | rfl | trivial⟩).run
theorem eqKey (v0 : Int) (v1 : Int) (v2 : Int) (v3 : Int) (v4 : Int) : RunF C laws_eqKey [.ag [iI v0, iI v1, iI v2, iI v3, iI v4], .ag [iI v0, iI v1, iI v2, iI v3, iI v4]] (vB true) [] := by
  refine (f_laws_eqKey _ _ _ _ _ _ _ _ _ _ _ ?_).run
  simp
theorem toKeyS (l : List (Key)) (hl : l.length ≤ 1099511627776) : RunF C laws_toKeyS [vKeys l] (vKeys l) [] := by
  refine (f_laws_toKeyS _ _ ?_).run
  simp only [List.length_map]
  refine brB_yes (by simp; omega) ?_
  simp only [ofNat_cast, numI_eq, Int.toNat_natCast]
  refine cp_loop (e := keyC) (z := [iI 0, iI 0, iI 0, iI 0, iI 0]) l (fun i rows => LoopG C laws_toKeyS pRRLRB 4 0 (s_laws_toKeyS_0 (l.map keyC) i rows) _) (fun a => rfl) ?_ ?_
  · exact r_laws_toKeyS_0 _ _ _ _ (brB_no (by simp) (a_laws_toKeyS_1 _ _ _ _ _ ⟨rfl, by first | rfl | trivial⟩))
  · intro i rows a hi ha hr hn
    refine r_laws_toKeyS_0 _ _ _ _ (brB_yes (by simp; omega) ⟨_, _, _, _, _, rowAt_map ha, _, _, _, _, _, toKey _ _ _ _ _, _, _, _, _, _, hr, _, _, _, _, _, hr, ?_⟩)
    rw [addW_eq (by omega)]
    exact hn
theorem eqKeyS (l : List (Key)) (hl : l.length ≤ 1099511627776) : RunF C laws_eqKeyS [vKeys l, vKeys l] (vB true) [] := by
  refine (f_laws_eqKeyS _ _ _ ?_).run
  refine brB_no (by simp) ?_
  refine idx_walk l (fun i => LoopG C laws_eqKeyS pRRLRB 4 0 (s_laws_eqKeyS_0 (l.map keyC) (l.map keyC) i) _) ?_ ?_
  · exact r_laws_eqKeyS_0 _ _ _ _ (brB_no (by simp) (a_laws_eqKeyS_2 _ _ _ _ _ ⟨rfl, by first | rfl | trivial⟩))
  · intro i a hi ha _ _ hn
    refine r_laws_eqKeyS_0 _ _ _ _ (brB_yes (by simp; omega) ⟨_, _, _, _, _, rowAt_map ha, _, _, _, _, _, rowAt_map ha, _, eqKey _ _ _ _ _, brB_no (by simp) ?_⟩)
    rw [addW_eq (by omega)]
    exact hn
theorem toAge (v0 : Int) (v1 : Int) : RunF C laws_toAge [.ag [iI v0, iI v1]] (.ag [iI v0, iI v1]) [] := (f_laws_toAge _ _ _ ⟨rfl, by first | rfl | trivial⟩).run
theorem eqAge (v0 : Int) (v1 : Int) : RunF C laws_eqAge [.ag [iI v0, iI v1], .ag [iI v0, iI v1]] (vB true) [] := by
  refine (f_laws_eqAge _ _ _ _ _ ?_).run
  simp
theorem toAgeS (l : List (Age)) (hl : l.length ≤ 1099511627776) : RunF C laws_toAgeS [vAges l] (vAges l) [] := by
  refine (f_laws_toAgeS _ _ ?_).run
  simp only [List.length_map]
  refine brB_yes (by simp; omega) ?_
  simp only [ofNat_cast, numI_eq, Int.toNat_natCast]
  refine cp_loop (e := ageC) (z := [iI 0, iI 0]) l (fun i rows => LoopG C laws_toAgeS pRRLRB 4 0 (s_laws_toAgeS_0 (l.map ageC) i rows) _) (fun a => rfl) ?_ ?_
  · exact r_laws_toAgeS_0 _ _ _ _ (brB_no (by simp) (a_laws_toAgeS_1 _ _ _ _ _ ⟨rfl, by first | rfl | trivial⟩))
  · intro i rows a hi ha hr hn
    refine r_laws_toAgeS_0 _ _ _ _ (brB_yes (by simp; omega) ⟨_, _, rowAt_map ha, _, _, toAge _ _, _, _, hr, _, _, hr, ?_⟩)
    rw [addW_eq (by omega)]
    exact hn
theorem eqAgeS (l : List (Age)) (hl : l.length ≤ 1099511627776) : RunF C laws_eqAgeS [vAges l, vAges l] (vB true) [] := by
  refine (f_laws_eqAgeS _ _ _ ?_).run
  refine brB_no (by simp) ?_
  refine idx_walk l (fun i => LoopG C laws_eqAgeS pRRLRB 4 0 (s_laws_eqAgeS_0 (l.map ageC) (l.map ageC) i) _) ?_ ?_
  · exact r_laws_eqAgeS_0 _ _ _ _ (brB_no (by simp) (a_laws_eqAgeS_2 _ _ _ _ _ ⟨rfl, by first | rfl | trivial⟩))
  · intro i a hi ha _ _ hn
    refine r_laws_eqAgeS_0 _ _ _ _ (brB_yes (by simp; omega) ⟨_, _, rowAt_map ha, _, _, rowAt_map ha, _, eqAge _ _, brB_no (by simp) ?_⟩)
    rw [addW_eq (by omega)]
    exact hn
theorem toCell (v0 : Int) (v1 : Bool) (v2 : Int) : RunF C laws_toCell [.ag [iI v0, iB v1, iI v2]] (.ag [iI v0, iB v1, iI v2]) [] := (f_laws_toCell _ _ _ _ ⟨rfl, by first | rfl | trivial⟩).run
theorem eqCell (v0 : Int) (v1 : Bool) (v2 : Int) : RunF C laws_eqCell [.ag [iI v0, iB v1, iI v2], .ag [iI v0, iB v1, iI v2]] (vB true) [] := by
  refine (f_laws_eqCell _ _ _ _ _ _ _ ?_).run
  simp
theorem toCellS (l : List (Cell)) (hl : l.length ≤ 1099511627776) : RunF C laws_toCellS [vCells l] (vCells l) [] := by
  refine (f_laws_toCellS _ _ ?_).run
  simp only [List.length_map]
  refine brB_yes (by simp; omega) ?_
  simp only [ofNat_cast, numI_eq, Int.toNat_natCast]
  refine cp_loop (e := cellC) (z := [iI 0, iB false, iI 0]) l (fun i rows => LoopG C laws_toCellS pRRLRB 4 0 (s_laws_toCellS_0 (l.map cellC) i rows) _) (fun a => rfl) ?_ ?_
  · exact r_laws_toCellS_0 _ _ _ _ (brB_no (by simp) (a_laws_toCellS_1 _ _ _ _ _ ⟨rfl, by first | rfl | trivial⟩))
  · intro i rows a hi ha hr hn
    refine r_laws_toCellS_0 _ _ _ _ (brB_yes (by simp; omega) ⟨_, _, _, rowAt_map ha, _, _, _, toCell _ _ _, _, _, _, hr, _, _, _, hr, ?_⟩)
    rw [addW_eq (by omega)]
    exact hn
theorem eqCellS (l : List (Cell)) (hl : l.length ≤ 1099511627776) : RunF C laws_eqCellS [vCells l, vCells l] (vB true) [] := by
  refine (f_laws_eqCellS _ _ _ ?_).run
  refine brB_no (by simp) ?_
  refine idx_walk l (fun i => LoopG C laws_eqCellS pRRLRB 4 0 (s_laws_eqCellS_0 (l.map cellC) (l.map cellC) i) _) ?_ ?_
  · exact r_laws_eqCellS_0 _ _ _ _ (brB_no (by simp) (a_laws_eqCellS_2 _ _ _ _ _ ⟨rfl, by first | rfl | trivial⟩))
  · intro i a hi ha _ _ hn
    refine r_laws_eqCellS_0 _ _ _ _ (brB_yes (by simp; omega) ⟨_, _, _, rowAt_map ha, _, _, _, rowAt_map ha, _, eqCell _ _ _, brB_no (by simp) ?_⟩)
    rw [addW_eq (by omega)]
    exact hn
theorem toVol (v0 : ByteArray) (v1 : Int) (v2 : Int) (v3 : Bool) : RunF C laws_toVol [.ag [iS v0, iI v1, iI v2, iB v3]] (.ag [iS v0, iI v1, iI v2, iB v3]) [] := (f_laws_toVol _ _ _ _ _ ⟨rfl, by first | rfl | trivial⟩).run
theorem eqVol (v0 : ByteArray) (v1 : Int) (v2 : Int) (v3 : Bool) : RunF C laws_eqVol [.ag [iS v0, iI v1, iI v2, iB v3], .ag [iS v0, iI v1, iI v2, iB v3]] (vB true) [] := by
  refine (f_laws_eqVol _ _ _ _ _ _ _ _ _ ?_).run
  simp
theorem toVolS (l : List (Vol)) (hl : l.length ≤ 1099511627776) : RunF C laws_toVolS [vVols l] (vVols l) [] := by
  refine (f_laws_toVolS _ _ ?_).run
  simp only [List.length_map]
  refine brB_yes (by simp; omega) ?_
  simp only [ofNat_cast, numI_eq, Int.toNat_natCast]
  refine cp_loop (e := volC) (z := [iS bs0, iI 0, iI 0, iB false]) l (fun i rows => LoopG C laws_toVolS pRRLRB 4 0 (s_laws_toVolS_0 (l.map volC) i rows) _) (fun a => rfl) ?_ ?_
  · exact r_laws_toVolS_0 _ _ _ _ (brB_no (by simp) (a_laws_toVolS_1 _ _ _ _ _ ⟨rfl, by first | rfl | trivial⟩))
  · intro i rows a hi ha hr hn
    refine r_laws_toVolS_0 _ _ _ _ (brB_yes (by simp; omega) ⟨_, _, _, _, rowAt_map ha, _, _, _, _, toVol _ _ _ _, _, _, _, _, hr, _, _, _, _, hr, ?_⟩)
    rw [addW_eq (by omega)]
    exact hn
theorem eqVolS (l : List (Vol)) (hl : l.length ≤ 1099511627776) : RunF C laws_eqVolS [vVols l, vVols l] (vB true) [] := by
  refine (f_laws_eqVolS _ _ _ ?_).run
  refine brB_no (by simp) ?_
  refine idx_walk l (fun i => LoopG C laws_eqVolS pRRLRB 4 0 (s_laws_eqVolS_0 (l.map volC) (l.map volC) i) _) ?_ ?_
  · exact r_laws_eqVolS_0 _ _ _ _ (brB_no (by simp) (a_laws_eqVolS_2 _ _ _ _ _ ⟨rfl, by first | rfl | trivial⟩))
  · intro i a hi ha _ _ hn
    refine r_laws_eqVolS_0 _ _ _ _ (brB_yes (by simp; omega) ⟨_, _, _, _, rowAt_map ha, _, _, _, _, rowAt_map ha, _, eqVol _ _ _ _, brB_no (by simp) ?_⟩)
    rw [addW_eq (by omega)]
    exact hn
theorem toIntS (l : List (Int)) (hl : l.length ≤ 1099511627776) : RunF C laws_toIntS [vInts l] (vInts l) [] := by
  refine (f_laws_toIntS _ _ ?_).run
  simp only [List.length_map]
  refine brB_yes (by simp; omega) ?_
  simp only [ofNat_cast, numI_eq, Int.toNat_natCast]
  refine cp_loop (e := intC) (z := [iI 0]) l (fun i rows => LoopG C laws_toIntS pRRLRB 4 0 (s_laws_toIntS_0 (l.map intC) i rows) _) (fun a => rfl) ?_ ?_
  · exact r_laws_toIntS_0 _ _ _ _ (brB_no (by simp) (a_laws_toIntS_1 _ _ _ _ _ ⟨rfl, by first | rfl | trivial⟩))
  · intro i rows a hi ha hr hn
    refine r_laws_toIntS_0 _ _ _ _ (brB_yes (by simp; omega) ⟨_, rowAt_map ha, _, hr, _, hr, ?_⟩)
    rw [addW_eq (by omega)]
    exact hn
theorem eqIntS (l : List (Int)) (hl : l.length ≤ 1099511627776) : RunF C laws_eqIntS [vInts l, vInts l] (vB true) [] := by
  refine (f_laws_eqIntS _ _ _ ?_).run
  refine brB_no (by simp) ?_
  refine idx_walk l (fun i => LoopG C laws_eqIntS pRRLRB 4 0 (s_laws_eqIntS_0 (l.map intC) (l.map intC) i) _) ?_ ?_
  · exact r_laws_eqIntS_0 _ _ _ _ (brB_no (by simp) (a_laws_eqIntS_2 _ _ _ _ _ ⟨rfl, by first | rfl | trivial⟩))
  · intro i a hi ha _ _ hn
    refine r_laws_eqIntS_0 _ _ _ _ (brB_yes (by simp; omega) ⟨_, rowAt_map ha, _, rowAt_map ha, brB_no (by simp) ?_⟩)
    rw [addW_eq (by omega)]
    exact hn
theorem toKeySS (l : List (List Key)) (hl : l.length ≤ 1099511627776) (hs : ∀ s ∈ l, s.length ≤ 1099511627776) : RunF C laws_toKeySS [vSets l] (vSets l) [] := by
  refine (f_laws_toKeySS _ _ ?_).run
  simp only [List.length_map]
  refine brB_yes (by simp; omega) ?_
  simp only [ofNat_cast, numI_eq, Int.toNat_natCast]
  refine cp_loop (e := setC) (z := [TC.sub 5 []]) l (fun i rows => LoopG C laws_toKeySS pRRLRB 4 0 (s_laws_toKeySS_0 (l.map setC) i rows) _) (fun a => rfl) ?_ ?_
  · exact r_laws_toKeySS_0 _ _ _ _ (brB_no (by simp) (a_laws_toKeySS_1 _ _ _ _ _ ⟨rfl, by first | rfl | trivial⟩))
  · intro i rows a hi ha hr hn
    refine r_laws_toKeySS_0 _ _ _ _ (brB_yes (by simp; omega) ⟨_, rowAt_map ha, _, toKeyS _ (hs _ (List.mem_of_getElem? ha)), _, hr, _, hr, ?_⟩)
    rw [addW_eq (by omega)]
    exact hn
def NodeB (n : List (List Key)) : Prop := n.length ≤ 1099511627776 ∧ ∀ s ∈ n, s.length ≤ 1099511627776
def NodesB (l : List (List (List Key))) : Prop := l.length ≤ 1099511627776 ∧ ∀ n ∈ l, NodeB n
def TreeB (t : Tree) : Prop := t.lows.length ≤ 1099511627776 ∧ NodesB t.nodes
theorem toNode (n : List (List Key)) (h : NodeB n) : RunF C laws_toNode [vNode n] (vNode n) [] := (f_laws_toNode _ _ ⟨_, toKeySS n h.1 h.2, rfl, rfl⟩).run
theorem toNodeS (l : List (List (List Key))) (hl : l.length ≤ 1099511627776) (hs : ∀ n ∈ l, NodeB n) : RunF C laws_toNodeS [vNodes l] (vNodes l) [] := by
  refine (f_laws_toNodeS _ _ ?_).run
  simp only [List.length_map]
  refine brB_yes (by simp; omega) ?_
  simp only [ofNat_cast, numI_eq, Int.toNat_natCast]
  refine cp_loop (e := nodeC) (z := [TC.sub 1 []]) l (fun i rows => LoopG C laws_toNodeS pRRLRB 4 0 (s_laws_toNodeS_0 (l.map nodeC) i rows) _) (fun a => rfl) ?_ ?_
  · exact r_laws_toNodeS_0 _ _ _ _ (brB_no (by simp) (a_laws_toNodeS_1 _ _ _ _ _ ⟨rfl, by first | rfl | trivial⟩))
  · intro i rows a hi ha hr hn
    refine r_laws_toNodeS_0 _ _ _ _ (brB_yes (by simp; omega) ⟨_, rowAt_map ha, _, toNode _ (hs _ (List.mem_of_getElem? ha)), _, hr, _, hr, ?_⟩)
    rw [addW_eq (by omega)]
    exact hn
theorem toTree (t : Tree) (h : TreeB t) : RunF C laws_toTree [vTree t] (vTree t) [] := (f_laws_toTree _ _ _ ⟨_, toIntS _ h.1, _, toNodeS _ h.2.1 h.2.2, rfl, rfl⟩).run
theorem eqKeySS (l : List (List Key)) (hl : l.length ≤ 1099511627776) (hs : ∀ s ∈ l, s.length ≤ 1099511627776) : RunF C laws_eqKeySS [vSets l, vSets l] (vB true) [] := by
  refine (f_laws_eqKeySS _ _ _ ?_).run
  refine brB_no (by simp) ?_
  refine idx_walk l (fun i => LoopG C laws_eqKeySS pRRLRB 4 0 (s_laws_eqKeySS_0 (l.map setC) (l.map setC) i) _) ?_ ?_
  · exact r_laws_eqKeySS_0 _ _ _ _ (brB_no (by simp) (a_laws_eqKeySS_2 _ _ _ _ _ ⟨rfl, by first | rfl | trivial⟩))
  · intro i a hi ha _ _ hn
    refine r_laws_eqKeySS_0 _ _ _ _ (brB_yes (by simp; omega) ⟨_, rowAt_map ha, _, rowAt_map ha, _, eqKeyS _ (hs _ (List.mem_of_getElem? ha)), brB_no (by simp) ?_⟩)
    rw [addW_eq (by omega)]
    exact hn
theorem eqNode (n : List (List Key)) (h : NodeB n) : RunF C laws_eqNode [vNode n, vNode n] (vB true) [] := (f_laws_eqNode _ _ _ ⟨_, eqKeySS n h.1 h.2, by simp⟩).run
theorem eqNodeS (l : List (List (List Key))) (hl : l.length ≤ 1099511627776) (hs : ∀ n ∈ l, NodeB n) : RunF C laws_eqNodeS [vNodes l, vNodes l] (vB true) [] := by
  refine (f_laws_eqNodeS _ _ _ ?_).run
  refine brB_no (by simp) ?_
  refine idx_walk l (fun i => LoopG C laws_eqNodeS pRRLRB 4 0 (s_laws_eqNodeS_0 (l.map nodeC) (l.map nodeC) i) _) ?_ ?_
  · exact r_laws_eqNodeS_0 _ _ _ _ (brB_no (by simp) (a_laws_eqNodeS_2 _ _ _ _ _ ⟨rfl, by first | rfl | trivial⟩))
  · intro i a hi ha _ _ hn
    refine r_laws_eqNodeS_0 _ _ _ _ (brB_yes (by simp; omega) ⟨_, rowAt_map ha, _, rowAt_map ha, _, eqNode _ (hs _ (List.mem_of_getElem? ha)), brB_no (by simp) ?_⟩)
    rw [addW_eq (by omega)]
    exact hn
theorem eqTree (t : Tree) (h : TreeB t) : RunF C laws_eqTree [vTree t, vTree t] (vB true) [] := (f_laws_eqTree _ _ _ _ _ ⟨_, eqIntS _ h.1, brB_no rfl ⟨_, eqNodeS _ h.2.1 h.2.2, by simp⟩⟩).run
structure PoolB (p : Pool) : Prop where
  t : TreeB p.t
  ages : p.ages.length ≤ 1099511627776
  cells : p.cells.length ≤ 1099511627776
  vols : p.vols.length ≤ 1099511627776
theorem toPool (p : Pool) (h : PoolB p) : RunF C laws_toPool [vPool p] (vPool p) [] := (f_laws_toPool _ _ _ _ _ _ _ ⟨_, _, toTree p.t h.t, _, toAgeS _ h.ages, _, toCellS _ h.cells, _, toVolS _ h.vols, rfl, rfl⟩).run
theorem eqPool (p : Pool) (h : PoolB p) : RunF C laws_eqPool [vPool p, vPool p] (vB true) [] := (f_laws_eqPool _ _ _ _ _ _ _ _ _ _ _ _ _ ⟨_, eqTree p.t h.t, brB_no rfl ⟨_, eqAgeS _ h.ages, brB_no rfl ⟨_, eqCellS _ h.cells, brB_no rfl ⟨_, eqVolS _ h.vols, brB_no rfl (by simp)⟩⟩⟩⟩).run
theorem szIntS (l : List (Int)) (left : Int) (h0 : 0 ≤ left ∧ left ≤ 1048576) (hl : l.length ≤ 140737488355328) : RunF C laws_szIntS [vInts l, vI left] (vI (lft left l.length)) [] := by
  refine (f_laws_szIntS _ _ _ ?_).run
  simp only [List.length_map, ofNat_cast]
  rw [subW_eq (by omega)]
  unfold lft
  simp only [ltI_eq, brB_dec]
  by_cases h : left < (l.length : Int)
  · rw [if_pos (by omega), if_pos h]; exact ⟨rfl, by first | rfl | trivial⟩
  · rw [if_neg (by omega), if_neg h]; exact ⟨rfl, by first | rfl | trivial⟩
theorem szKeyS (l : List (Key)) (left : Int) (h0 : 0 ≤ left ∧ left ≤ 1048576) (hl : l.length ≤ 140737488355328) : RunF C laws_szKeyS [vKeys l, vI left] (vI (lft left l.length)) [] := by
  refine (f_laws_szKeyS _ _ _ ?_).run
  simp only [List.length_map, ofNat_cast]
  rw [subW_eq (by omega)]
  unfold lft
  simp only [ltI_eq, brB_dec]
  by_cases h : left < (l.length : Int)
  · rw [if_pos (by omega), if_pos h]; exact ⟨rfl, by first | rfl | trivial⟩
  · rw [if_neg (by omega), if_neg h]; exact ⟨rfl, by first | rfl | trivial⟩
theorem szAgeS (l : List (Age)) (left : Int) (h0 : 0 ≤ left ∧ left ≤ 1048576) (hl : l.length ≤ 140737488355328) : RunF C laws_szAgeS [vAges l, vI left] (vI (lft left l.length)) [] := by
  refine (f_laws_szAgeS _ _ _ ?_).run
  simp only [List.length_map, ofNat_cast]
  rw [subW_eq (by omega)]
  unfold lft
  simp only [ltI_eq, brB_dec]
  by_cases h : left < (l.length : Int)
  · rw [if_pos (by omega), if_pos h]; exact ⟨rfl, by first | rfl | trivial⟩
  · rw [if_neg (by omega), if_neg h]; exact ⟨rfl, by first | rfl | trivial⟩
theorem szCellS (l : List (Cell)) (left : Int) (h0 : 0 ≤ left ∧ left ≤ 1048576) (hl : l.length ≤ 140737488355328) : RunF C laws_szCellS [vCells l, vI left] (vI (lft left l.length)) [] := by
  refine (f_laws_szCellS _ _ _ ?_).run
  simp only [List.length_map, ofNat_cast]
  rw [subW_eq (by omega)]
  unfold lft
  simp only [ltI_eq, brB_dec]
  by_cases h : left < (l.length : Int)
  · rw [if_pos (by omega), if_pos h]; exact ⟨rfl, by first | rfl | trivial⟩
  · rw [if_neg (by omega), if_neg h]; exact ⟨rfl, by first | rfl | trivial⟩
theorem szKeySS (l : List (List Key)) (left : Int) (h0 : 0 ≤ left ∧ left ≤ 1048576) (hl : l.length ≤ 140737488355328) (hs : ∀ s ∈ l, s.length ≤ 140737488355328) : RunF C laws_szKeySS [vSets l, vI left] (vI (lft left (l.length + tot szSet l))) [] := by
  refine (f_laws_szKeySS _ _ _ ?_).run
  simp only [List.length_map, ofNat_cast]
  rw [subW_eq (by omega)]
  simp only [ltI_eq, brB_dec]
  by_cases h : left < (l.length : Int)
  · rw [if_pos (by omega)]
    refine ⟨?_, by first | rfl | trivial⟩
    unfold lft
    rw [if_pos (by omega)]
  · rw [if_neg (by omega)]
    have key : ∀ cur : Int, 0 ≤ cur ∧ cur ≤ 1048576 → lft cur (tot szSet (l.drop 0)) = lft left (l.length + tot szSet l) → LoopG C laws_szKeySS pRRRLRB 4 0 (s_laws_szKeySS_0 (l.map setC) cur ((0 : Nat) : Int)) (fun x st => AftF C laws_szKeySS pRRRLRB x st fun r fs => r = vI (lft left (l.length + tot szSet l)) ∧ fs = []) := by
      refine idx_walk l (fun i => ∀ cur : Int, 0 ≤ cur ∧ cur ≤ 1048576 → lft cur (tot szSet (l.drop i)) = lft left (l.length + tot szSet l) → LoopG C laws_szKeySS pRRRLRB 4 0 (s_laws_szKeySS_0 (l.map setC) cur i) _) ?_ ?_
      · intro cur hc he
        refine r_laws_szKeySS_0 _ _ _ _ (brB_no (by simp) (a_laws_szKeySS_2 _ _ _ _ _ ⟨?_, by first | rfl | trivial⟩))
        rw [← he, List.drop_length]
        unfold lft tot
        rw [if_neg (by omega)]
        simp
      · intro i a hi ha hd _ hn cur hc he
        rw [hd] at he
        simp only [tot] at he
        refine r_laws_szKeySS_0 _ _ _ _ (brB_yes (by simp; omega) ⟨_, rowAt_map ha, _, szKeyS a cur hc (hs a (List.mem_of_getElem? ha)), ?_⟩)
        by_cases hw : cur < (szSet a : Int)
        · refine brB_yes (by simp [lft, szSet] at hw ⊢; omega) (a_laws_szKeySS_1 _ ⟨?_, by first | rfl | trivial⟩)
          rw [← he]
          unfold lft
          rw [if_pos (by omega)]
        · have hl2 : lft cur (szSet a) = cur - szSet a := if_neg hw
          refine brB_no (by simp [lft, szSet] at hw ⊢; omega) ?_
          rw [addW_eq (by omega)]
          have := hn (cur - szSet a) (by omega) (by rw [← he]; unfold lft; split <;> split <;> omega)
          rw [← hl2] at this
          exact this
    refine key (left - l.length) (by omega) ?_
    simp only [List.drop_zero]
    unfold lft
    split <;> split <;> omega
theorem szNode_run (n : List (List Key)) (left : Int) (h0 : 0 ≤ left ∧ left ≤ 1048576) (hl : n.length ≤ 140737488355328) (hs : ∀ s ∈ n, s.length ≤ 140737488355328) : RunF C laws_szNode [vNode n, vI left] (vI (lft left (szNode n))) [] := by
  refine (f_laws_szNode _ _ _ ⟨_, szKeySS n left h0 hl hs, ?_⟩).run
  show brB _ _ _
  unfold szNode
  simp only [ltI_eq, brB_dec]
  split
  · refine ⟨?_, by first | rfl | trivial⟩
    unfold lft at *
    split <;> simp_all <;> omega
  · simp
theorem szNodeS (l : List (List (List Key))) (left : Int) (h0 : 0 ≤ left ∧ left ≤ 1048576) (hl : l.length ≤ 140737488355328) (hs : ∀ n ∈ l, n.length ≤ 140737488355328 ∧ ∀ s ∈ n, s.length ≤ 140737488355328) : RunF C laws_szNodeS [vNodes l, vI left] (vI (lft left (l.length + tot szNode l))) [] := by
  refine (f_laws_szNodeS _ _ _ ?_).run
  simp only [List.length_map, ofNat_cast]
  rw [subW_eq (by omega)]
  simp only [ltI_eq, brB_dec]
  by_cases h : left < (l.length : Int)
  · rw [if_pos (by omega)]
    refine ⟨?_, by first | rfl | trivial⟩
    unfold lft
    rw [if_pos (by omega)]
  · rw [if_neg (by omega)]
    have key : ∀ cur : Int, 0 ≤ cur ∧ cur ≤ 1048576 → lft cur (tot szNode (l.drop 0)) = lft left (l.length + tot szNode l) → LoopG C laws_szNodeS pRRRLRB 4 0 (s_laws_szNodeS_0 (l.map nodeC) cur ((0 : Nat) : Int)) (fun x st => AftF C laws_szNodeS pRRRLRB x st fun r fs => r = vI (lft left (l.length + tot szNode l)) ∧ fs = []) := by
      refine idx_walk l (fun i => ∀ cur : Int, 0 ≤ cur ∧ cur ≤ 1048576 → lft cur (tot szNode (l.drop i)) = lft left (l.length + tot szNode l) → LoopG C laws_szNodeS pRRRLRB 4 0 (s_laws_szNodeS_0 (l.map nodeC) cur i) _) ?_ ?_
      · intro cur hc he
        refine r_laws_szNodeS_0 _ _ _ _ (brB_no (by simp) (a_laws_szNodeS_2 _ _ _ _ _ ⟨?_, by first | rfl | trivial⟩))
        rw [← he, List.drop_length]
        unfold lft tot
        rw [if_neg (by omega)]
        simp
      · intro i a hi ha hd _ hn cur hc he
        rw [hd] at he
        simp only [tot] at he
        refine r_laws_szNodeS_0 _ _ _ _ (brB_yes (by simp; omega) ⟨_, rowAt_map ha, _, szNode_run a cur hc (hs a (List.mem_of_getElem? ha)).1 (hs a (List.mem_of_getElem? ha)).2, ?_⟩)
        by_cases hw : cur < (szNode a : Int)
        · refine brB_yes (by simp [lft, szNode] at hw ⊢; omega) (a_laws_szNodeS_1 _ ⟨?_, by first | rfl | trivial⟩)
          rw [← he]
          unfold lft
          rw [if_pos (by omega)]
        · have hl2 : lft cur (szNode a) = cur - szNode a := if_neg hw
          refine brB_no (by simp [lft, szNode] at hw ⊢; omega) ?_
          rw [addW_eq (by omega)]
          have := hn (cur - szNode a) (by omega) (by rw [← he]; unfold lft; split <;> split <;> omega)
          rw [← hl2] at this
          exact this
    refine key (left - l.length) (by omega) ?_
    simp only [List.drop_zero]
    unfold lft
    split <;> split <;> omega
theorem lft_lft {a : Int} {n m : Nat} (h : ¬ lft a n < 0) (h0 : 0 ≤ a) : lft (lft a n) m = lft a (n + m) := by unfold lft at *; split <;> split <;> split <;> simp_all <;> omega
theorem lft_in {a : Int} {n : Nat} (h : ¬ lft a n < 0) (h0 : 0 ≤ a ∧ a ≤ 1048576) : 0 ≤ lft a n ∧ lft a n ≤ 1048576 := by unfold lft at *; split <;> simp_all <;> omega
theorem lft_neg {a : Int} {n m : Nat} (h : lft a n < 0) (h0 : 0 ≤ a) : lft a (n + m) = -1 := by unfold lft at *; split <;> simp_all <;> omega
structure TreeW (t : Tree) : Prop where
  lows : t.lows.length ≤ 140737488355328
  nodes : t.nodes.length ≤ 140737488355328
  node : ∀ n ∈ t.nodes, n.length ≤ 140737488355328 ∧ ∀ s ∈ n, s.length ≤ 140737488355328
theorem szTree_run (t : Tree) (left : Int) (h0 : 0 ≤ left ∧ left ≤ 1048576) (h : TreeW t) : RunF C laws_szTree [vTree t, vI left] (vI (lft left (szTree t))) [] := by
  refine (f_laws_szTree _ _ _ _ ⟨_, szIntS _ left h0 h.lows, ?_⟩).run
  unfold szTree szNodes
  refine brB_both (fun hb => ?_) fun hb => ⟨_, szNodeS _ _ (lft_in (by simpa using hb) h0) h.nodes h.node, ?_⟩
  · rw [lft_neg (by simpa using hb) h0.1]; exact ⟨rfl, by first | rfl | trivial⟩
  · have hb : ¬ lft left t.lows.length < 0 := by simpa using hb
    rw [lft_lft hb h0.1]
    refine brB_both (fun hc => ?_) fun hc => ⟨rfl, by first | rfl | trivial⟩
    refine ⟨?_, by first | rfl | trivial⟩
    have hc : lft left (t.lows.length + (t.nodes.length + tot szNode t.nodes)) < 0 := by simpa using hc
    unfold lft at *
    split <;> simp_all <;> omega
theorem szVol_run (s : ByteArray) (a z : Int) (f : Bool) (left : Int) (h0 : 0 ≤ left ∧ left ≤ 1048576) (hl : s.size ≤ 140737488355328) : RunF C laws_szVol [.ag [iS s, iI a, iI z, iB f], vI left] (vI (lft left s.size)) [] := by
  refine (f_laws_szVol _ _ _ _ _ _ ?_).run
  simp only [strLen, ofNat_cast]
  rw [subW_eq (by omega)]
  unfold lft
  simp only [ltI_eq, brB_dec]
  by_cases h : left < (s.size : Int)
  · rw [if_pos (by omega), if_pos h]; exact ⟨rfl, by first | rfl | trivial⟩
  · rw [if_neg (by omega), if_neg h]; exact ⟨rfl, by first | rfl | trivial⟩
theorem szVolS (l : List (Vol)) (left : Int) (h0 : 0 ≤ left ∧ left ≤ 1048576) (hl : l.length ≤ 140737488355328) (hs : ∀ v ∈ l, v.name.size ≤ 140737488355328) : RunF C laws_szVolS [vVols l, vI left] (vI (lft left (l.length + tot szVol l))) [] := by
  refine (f_laws_szVolS _ _ _ ?_).run
  simp only [List.length_map, ofNat_cast]
  rw [subW_eq (by omega)]
  simp only [ltI_eq, brB_dec]
  by_cases h : left < (l.length : Int)
  · rw [if_pos (by omega)]
    refine ⟨?_, by first | rfl | trivial⟩
    unfold lft
    rw [if_pos (by omega)]
  · rw [if_neg (by omega)]
    have key : ∀ cur : Int, 0 ≤ cur ∧ cur ≤ 1048576 → lft cur (tot szVol (l.drop 0)) = lft left (l.length + tot szVol l) → LoopG C laws_szVolS pRRRLRB 4 0 (s_laws_szVolS_0 (l.map volC) cur ((0 : Nat) : Int)) (fun x st => AftF C laws_szVolS pRRRLRB x st fun r fs => r = vI (lft left (l.length + tot szVol l)) ∧ fs = []) := by
      refine idx_walk l (fun i => ∀ cur : Int, 0 ≤ cur ∧ cur ≤ 1048576 → lft cur (tot szVol (l.drop i)) = lft left (l.length + tot szVol l) → LoopG C laws_szVolS pRRRLRB 4 0 (s_laws_szVolS_0 (l.map volC) cur i) _) ?_ ?_
      · intro cur hc he
        refine r_laws_szVolS_0 _ _ _ _ (brB_no (by simp) (a_laws_szVolS_2 _ _ _ _ _ ⟨?_, by first | rfl | trivial⟩))
        rw [← he, List.drop_length]
        unfold lft tot
        rw [if_neg (by omega)]
        simp
      · intro i a hi ha hd _ hn cur hc he
        rw [hd] at he
        simp only [tot] at he
        refine r_laws_szVolS_0 _ _ _ _ (brB_yes (by simp; omega) ⟨_, _, _, _, rowAt_map ha, _, szVol_run _ _ _ _ cur hc (hs a (List.mem_of_getElem? ha)), ?_⟩)
        by_cases hw : cur < (szVol a : Int)
        · refine brB_yes (by simp [lft, szVol] at hw ⊢; omega) (a_laws_szVolS_1 _ ⟨?_, by first | rfl | trivial⟩)
          rw [← he]
          unfold lft
          rw [if_pos (by omega)]
        · have hl2 : lft cur (szVol a) = cur - szVol a := if_neg hw
          refine brB_no (by simp [lft, szVol] at hw ⊢; omega) ?_
          rw [addW_eq (by omega)]
          have := hn (cur - szVol a) (by omega) (by rw [← he]; unfold lft; split <;> split <;> omega)
          rw [← hl2] at this
          exact this
    refine key (left - l.length) (by omega) ?_
    simp only [List.drop_zero]
    unfold lft
    split <;> split <;> omega
structure PoolW (p : Pool) : Prop where
  t : TreeW p.t
  ages : p.ages.length ≤ 140737488355328
  cells : p.cells.length ≤ 140737488355328
  vols : p.vols.length ≤ 140737488355328
  vol : ∀ v ∈ p.vols, v.name.size ≤ 140737488355328
  siz : ∀ v ∈ p.vols, v.size ≤ 9223372036854775807
theorem szPool_run (p : Pool) (left : Int) (h0 : 0 ≤ left ∧ left ≤ 1048576) (h : PoolW p) : RunF C laws_szPool [vPool p, vI left] (vI (lft left (szPool p))) [] := by
  refine (f_laws_szPool _ _ _ _ _ _ _ _ ⟨_, szTree_run p.t left h0 h.t, ?_⟩).run
  unfold szPool szVols
  refine brB_both (fun hb => ?_) fun hb => ⟨_, szAgeS _ _ (lft_in (by simpa using hb) h0) h.ages, ?_⟩
  · rw [Nat.add_assoc, Nat.add_assoc, lft_neg (by simpa using hb) h0.1]; exact ⟨rfl, by first | rfl | trivial⟩
  rw [lft_lft (by simpa using hb) h0.1]
  refine brB_both (fun hb => ?_) fun hb => ⟨_, szCellS _ _ (lft_in (by simpa using hb) h0) h.cells, ?_⟩
  · rw [Nat.add_assoc, lft_neg (by simpa using hb) h0.1]; exact ⟨rfl, by first | rfl | trivial⟩
  rw [lft_lft (by simpa using hb) h0.1]
  refine brB_both (fun hb => ?_) fun hb => ⟨_, szVolS _ _ (lft_in (by simpa using hb) h0) h.vols h.vol, ?_⟩
  · rw [lft_neg (by simpa using hb) h0.1]; exact ⟨rfl, by first | rfl | trivial⟩
  rw [lft_lft (by simpa using hb) h0.1]
  refine brB_both (fun hc => ?_) fun hc => ⟨rfl, by first | rfl | trivial⟩
  refine ⟨?_, by first | rfl | trivial⟩
  have hc : lft left (szTree p.t + p.ages.length + p.cells.length + (p.vols.length + tot szVol p.vols)) < 0 := by simpa using hc
  unfold lft at *
  split <;> simp_all <;> omega
theorem run_within (a b c : Int) : RunF C impl_within [vI a, vI b, vI c] (vB (inB a b c)) [] := by
  refine (f_impl_within _ _ _ _ ?_).run
  simp only [leI_eq, brB_dec, inB]
  split <;> simp_all <;> omega
theorem run_l1In (a b c : Int) : RunF C spec_l1In [vI a, vI b, vI c] (vB (inB a b c)) [] := by
  refine (f_spec_l1In _ _ _ _ ?_).run
  simp only [leI_eq, brB_dec, inB]
  split <;> simp_all <;> omega
@[simp] theorem c_within (a b c : Int) (q : Bool) : RunF C impl_within [vI a, vI b, vI c] (vB q) [] ↔ q = inB a b c := iffB (run_within a b c)
@[simp] theorem c_l1In (a b c : Int) (q : Bool) : RunF C spec_l1In [vI a, vI b, vI c] (vB q) [] ↔ q = inB a b c := iffB (run_l1In a b c)
theorem run_impl_KeyOk (b a k c g : Int) : RunF C impl_KeyOk [.ag [iI b, iI a, iI k, iI c, iI g]] (vB (keyOk ⟨b, a, k, c, g⟩)) [] := by
  refine (f_impl_KeyOk _ _ _ _ _ _ ?_).run
  simp only [c_within, exists_eq_left, keyOk, eqI_eq, brB_not, brB_dec]
  cases inB b 0 15 <;> cases inB a 1 60 <;> cases inB k 0 2 <;> by_cases h : k = 1 <;> by_cases h1 : c = 0 <;> by_cases h2 : g = 0 <;> cases inB c 0 23 <;> simp_all
theorem run_spec_KeyOk (b a k c g : Int) : RunF C spec_KeyOk [.ag [iI b, iI a, iI k, iI c, iI g]] (vB (keyOk ⟨b, a, k, c, g⟩)) [] := by
  refine (f_spec_KeyOk _ _ _ _ _ _ ?_).run
  simp only [c_l1In, exists_eq_left, keyOk, eqI_eq, brB_not, brB_dec]
  cases inB b 0 15 <;> cases inB a 1 60 <;> cases inB k 0 2 <;> by_cases h : k = 1 <;> by_cases h1 : c = 0 <;> by_cases h2 : g = 0 <;> cases inB c 0 23 <;> simp_all
@[simp] theorem c_impl_KeyOk (b a k c g : Int) (q : Bool) : RunF C impl_KeyOk [.ag [iI b, iI a, iI k, iI c, iI g]] (vB q) [] ↔ q = keyOk ⟨b, a, k, c, g⟩ := iffB (run_impl_KeyOk b a k c g)
@[simp] theorem c_spec_KeyOk (b a k c g : Int) (q : Bool) : RunF C spec_KeyOk [.ag [iI b, iI a, iI k, iI c, iI g]] (vB q) [] ↔ q = keyOk ⟨b, a, k, c, g⟩ := iffB (run_spec_KeyOk b a k c g)
@[simp] theorem c_impl_LessKey (b a k c g b' a' k' c' g' : Int) (q : Bool) : RunF C impl_LessKey [.ag [iI b, iI a, iI k, iI c, iI g], .ag [iI b', iI a', iI k', iI c', iI g']] (vB q) [] ↔ q = lessKey ⟨b, a, k, c, g⟩ ⟨b', a', k', c', g'⟩ := iffB (by
  refine (f_impl_LessKey _ _ _ _ _ _ _ _ _ _ _ ?_).run
  simp only [ltI_eq, eqI_eq, brB_dec, lessKey]
  by_cases h1 : b < b' <;> by_cases h2 : b = b' <;> simp_all)
@[simp] theorem c_spec_LessKey (b a k c g b' a' k' c' g' : Int) (q : Bool) : RunF C spec_LessKey [.ag [iI b, iI a, iI k, iI c, iI g], .ag [iI b', iI a', iI k', iI c', iI g']] (vB q) [] ↔ q = lessKey ⟨b, a, k, c, g⟩ ⟨b', a', k', c', g'⟩ := iffB (by
  refine (f_spec_LessKey _ _ _ _ _ _ _ _ _ _ _ ?_).run
  simp only [ltI_eq, eqI_eq, brB_not, brB_dec, lessKey]
  by_cases h2 : b = b' <;> simp_all)
@[simp] theorem c_impl_SameSpot (b a k c g b' a' k' c' g' : Int) (q : Bool) : RunF C impl_SameSpot [.ag [iI b, iI a, iI k, iI c, iI g], .ag [iI b', iI a', iI k', iI c', iI g']] (vB q) [] ↔ q = sameSpot ⟨b, a, k, c, g⟩ ⟨b', a', k', c', g'⟩ := iffB (by
  refine (f_impl_SameSpot _ _ _ _ _ _ _ _ _ _ _ ?_).run
  simp only [ltI_eq, eqI_eq, brB_not, brB_dec, sameSpot]
  by_cases h2 : b = b' <;> simp_all)
@[simp] theorem c_spec_SameSpot (b a k c g b' a' k' c' g' : Int) (q : Bool) : RunF C spec_SameSpot [.ag [iI b, iI a, iI k, iI c, iI g], .ag [iI b', iI a', iI k', iI c', iI g']] (vB q) [] ↔ q = sameSpot ⟨b, a, k, c, g⟩ ⟨b', a', k', c', g'⟩ := iffB (by
  refine (f_spec_SameSpot _ _ _ _ _ _ _ _ _ _ _ ?_).run
  simp only [ltI_eq, eqI_eq, brB_not, brB_dec, sameSpot]
  by_cases h2 : b = b' <;> simp_all)
theorem run_spec_SetPut (l : List Key) (x : Key) (hl : l.length ≤ 1073741824) : RunF C spec_SetPut [vKeys l, vKey x] (vKeys (setPut l x)) [] := by
  refine (f_spec_SetPut _ _ _ _ _ _ _ ?_).run
  have key : ∀ (put : Bool) (acc : List Key), acc.length + (l.drop 0).length ≤ l.length + (if put then 1 else 0) → acc ++ setPutF x put (l.drop 0) = setPut l x → LoopG C spec_SetPut pRRRLRB 4 0 (s_spec_SetPut_0 (l.map keyC) put ((0 : Nat) : Int) x.b x.a x.k x.c x.g (acc.map keyC)) (fun u st => AftF C spec_SetPut pRRRLRB u st fun r fs => r = vKeys (setPut l x) ∧ fs = []) := by
    refine idx_walk l (fun i => ∀ (put : Bool) (acc : List Key), acc.length + (l.drop i).length ≤ l.length + (if put then 1 else 0) → acc ++ setPutF x put (l.drop i) = setPut l x → LoopG C spec_SetPut pRRRLRB 4 0 (s_spec_SetPut_0 (l.map keyC) put i x.b x.a x.k x.c x.g (acc.map keyC)) _) ?_ ?_
    · intro put acc hb he
      refine r_spec_SetPut_0 _ _ _ _ _ _ _ _ _ _ (brB_no (by simp) (a_spec_SetPut_1 _ _ _ _ _ _ _ _ _ _ _ ?_))
      simp only [app_key, key_eta, allSc_key1, Bool.true_and, brB_not, succ_len, List.length_map]
      have hb2 : acc.length ≤ l.length + 1 := by simp at hb; split at hb <;> omega
      rw [fitsT (by omega)]
      rw [List.drop_length] at he
      cases put <;> simp [setPutF] at he ⊢ <;> rw [← he] <;> simp
    · intro i a hi ha hd _ hn put acc hb he
      rw [hd] at hb he
      simp only [List.length_cons] at hb
      have hb' : acc.length + (List.drop (i + 1) l).length + 1 ≤ l.length + 1 := by split at hb <;> omega
      refine r_spec_SetPut_0 _ _ _ _ _ _ _ _ _ _ (brB_yes (by simp; omega) ?_)
      simp only [ex_key, getZ_nat, ha, Option.some.injEq, exists_eq_left', c_spec_LessKey, c_spec_SameSpot, exists_eq_left, brB_not, key_eta, app_key, allSc_key1, Bool.true_and, succ_len, List.length_map, List.length_append, List.length_singleton]
      simp (disch := omega) only [fitsT, addW_eq, brB_t]
      simp only [setPutF] at he
      cases put <;> cases hk : lessKey a x <;> cases hs : sameSpot a x <;> simp only [brB_t, brB_f] <;> simp [hk, hs] at he hb <;> exact hn _ _ (by simp at hb ⊢; omega) (by simpa using he)
  exact key false [] (by simp) rfl
@[simp] theorem c_spec_SetPut (l : List Key) (hl : l.length ≤ 1073741824) (b a k c g : Int) (q : RR) : RunF C spec_SetPut [.c (.sub 5 (l.map keyC)), .ag [iI b, iI a, iI k, iI c, iI g]] (.c (.sub 5 q)) [] ↔ q = (setPut l ⟨b, a, k, c, g⟩).map keyC := iffL (run_spec_SetPut l ⟨b, a, k, c, g⟩ hl)
theorem run_impl_SetPut (l : List Key) (x : Key) (hl : l.length ≤ 1073741824) : RunF C impl_SetPut [vKeys l, vKey x] (vKeys (setPut l x)) [] := by
  refine (f_impl_SetPut _ _ _ _ _ _ _ ?_).run
  have key : ∀ (put : Bool) (acc : List Key), acc.length + (l.drop 0).length ≤ l.length + (if put then 1 else 0) → acc ++ setPutF x put (l.drop 0) = setPut l x → LoopG C impl_SetPut pRRRLRB 4 0 (s_impl_SetPut_0 put (l.map keyC) ((0 : Nat) : Int) x.b x.a x.k x.c x.g (acc.map keyC)) (fun u st => AftF C impl_SetPut pRRRLRB u st fun r fs => r = vKeys (setPut l x) ∧ fs = []) := by
    refine idx_walk l (fun i => ∀ (put : Bool) (acc : List Key), acc.length + (l.drop i).length ≤ l.length + (if put then 1 else 0) → acc ++ setPutF x put (l.drop i) = setPut l x → LoopG C impl_SetPut pRRRLRB 4 0 (s_impl_SetPut_0 put (l.map keyC) i x.b x.a x.k x.c x.g (acc.map keyC)) _) ?_ ?_
    · intro put acc hb he
      refine r_impl_SetPut_0 _ _ _ _ _ _ _ _ _ _ (brB_no (by simp) (a_impl_SetPut_1 _ _ _ _ _ _ _ _ _ _ _ _ ?_))
      simp only [app_key, key_eta, allSc_key1, Bool.true_and, brB_not, succ_len, List.length_map]
      have hb2 : acc.length ≤ l.length + 1 := by simp at hb; split at hb <;> omega
      rw [fitsT (by omega)]
      rw [List.drop_length] at he
      cases put <;> simp [setPutF] at he ⊢ <;> rw [← he] <;> simp
    · intro i a hi ha hd _ hn put acc hb he
      rw [hd] at hb he
      simp only [List.length_cons] at hb
      have hb' : acc.length + (List.drop (i + 1) l).length + 1 ≤ l.length + 1 := by split at hb <;> omega
      refine r_impl_SetPut_0 _ _ _ _ _ _ _ _ _ _ (brB_yes (by simp; omega) ?_)
      simp only [ex_key, getZ_nat, ha, Option.some.injEq, exists_eq_left', c_impl_LessKey, c_impl_SameSpot, exists_eq_left, brB_not, key_eta, app_key, allSc_key1, Bool.true_and, succ_len, List.length_map, List.length_append, List.length_singleton]
      simp (disch := omega) only [fitsT, addW_eq, brB_t]
      simp only [setPutF] at he
      cases put <;> cases hk : lessKey a x <;> cases hs : sameSpot a x <;> simp only [brB_t, brB_f] <;> simp [hk, hs] at he hb <;> exact hn _ _ (by simp at hb ⊢; omega) (by simpa using he)
  exact key false [] (by simp) rfl
@[simp] theorem c_impl_SetPut (l : List Key) (hl : l.length ≤ 1073741824) (b a k c g : Int) (q : RR) : RunF C impl_SetPut [.c (.sub 5 (l.map keyC)), .ag [iI b, iI a, iI k, iI c, iI g]] (.c (.sub 5 q)) [] ↔ q = (setPut l ⟨b, a, k, c, g⟩).map keyC := iffL (run_impl_SetPut l ⟨b, a, k, c, g⟩ hl)
theorem run_spec_MergeSets (old new : List Key) (hl : old.length + new.length ≤ 1073741824) : RunF C spec_MergeSets [vKeys old, vKeys new] (vKeys (mergeSets old new)) [] := by
  refine (f_spec_MergeSets _ _ _ ?_).run
  rw [allSc_key, fitsT (by simp; omega)]
  refine brB_yes rfl ?_
  have key : ∀ (acc : List Key), acc.length + (new.drop 0).length ≤ old.length + new.length → mergeSets acc (new.drop 0) = mergeSets old new → LoopG C spec_MergeSets pRRLRB 4 0 (s_spec_MergeSets_0 (new.map keyC) ((0 : Nat) : Int) (acc.map keyC)) (fun u st => AftF C spec_MergeSets pRRLRB u st fun r fs => r = (vKeys (mergeSets old new)) ∧ fs = []) := by
    refine idx_walk new (fun i => ∀ (acc : List Key), acc.length + (new.drop i).length ≤ old.length + new.length → mergeSets acc (new.drop i) = mergeSets old new → LoopG C spec_MergeSets pRRLRB 4 0 (s_spec_MergeSets_0 (new.map keyC) i (acc.map keyC)) (fun u st => AftF C spec_MergeSets pRRLRB u st fun r fs => r = (vKeys (mergeSets old new)) ∧ fs = [])) ?_ ?_
    · intro acc h0 h1
      refine r_spec_MergeSets_0 _ _ _ _ (brB_no (by simp) (a_spec_MergeSets_1 _ _ _ _ _ ?_))
      rw [List.drop_length] at h1
      rw [← h1]
      exact ⟨rfl, by first | rfl | trivial⟩
    · intro i a hi ha hd ht hn acc h0 h1
      refine r_spec_MergeSets_0 _ _ _ _ (brB_yes (by simp; omega) ?_)
      rw [hd] at h0 h1
      simp only [List.length_cons] at h0
      simp only [ex_key, c_spec_SetPut acc (by omega), getZ_nat, ha, Option.some.injEq, exists_eq_left', exists_eq_left, brB_not, brB_and, brB_or, key_eta, age_eta, cell_eta, vol_eta, map_eta, op_eta, succ_len, natAdd, List.length_map, List.length_append, List.length_singleton, Bool.true_and, Bool.and_true]
      rw [addW_eq (by omega)]
      have h2 := setPut_len acc a
      exact hn _ (by omega) (by rw [← h1]; rfl)
  exact key old (by simp) rfl
theorem c_spec_MergeSets (old new : List Key) (hl : old.length + new.length ≤ 1073741824) (q : RR) : RunF C spec_MergeSets [vKeys old, vKeys new] (.c (.sub 5 q)) [] ↔ q = (mergeSets old new).map keyC := iffL (run_spec_MergeSets old new hl)
theorem run_spec_Drop (l : List Key) (hl : l.length ≤ 1073741824) : RunF C spec_Drop [vKeys l] (vKeys (dropN l)) [] := by
  refine (f_spec_Drop _ _ ?_).run
  have key : ∀ (acc : List Key), acc.length + (l.drop 0).length ≤ l.length → acc ++ dropN (l.drop 0) = dropN l → LoopG C spec_Drop pRRLRB 4 0 (s_spec_Drop_0 (l.map keyC) ((0 : Nat) : Int) (acc.map keyC)) (fun u st => AftF C spec_Drop pRRLRB u st fun r fs => r = (vKeys (dropN l)) ∧ fs = []) := by
    refine idx_walk l (fun i => ∀ (acc : List Key), acc.length + (l.drop i).length ≤ l.length → acc ++ dropN (l.drop i) = dropN l → LoopG C spec_Drop pRRLRB 4 0 (s_spec_Drop_0 (l.map keyC) i (acc.map keyC)) (fun u st => AftF C spec_Drop pRRLRB u st fun r fs => r = (vKeys (dropN l)) ∧ fs = [])) ?_ ?_
    · intro acc h0 h1
      refine r_spec_Drop_0 _ _ _ _ (brB_no (by simp) (a_spec_Drop_1 _ _ _ _ _ ?_))
      rw [List.drop_length] at h1
      simp [dropN] at h1
      simp [dropN, h1]
    · intro i a hi ha hd ht hn acc h0 h1
      refine r_spec_Drop_0 _ _ _ _ (brB_yes (by simp; omega) ?_)
      rw [hd] at h0 h1
      simp only [List.length_cons] at h0
      simp only [ex_key, app_key, allSc_key1, eqI_eq, brB_dec, getZ_nat, ha, Option.some.injEq, exists_eq_left', exists_eq_left, brB_not, brB_and, brB_or, key_eta, age_eta, cell_eta, vol_eta, map_eta, op_eta, succ_len, natAdd, List.length_map, List.length_append, List.length_singleton, Bool.true_and, Bool.and_true]
      simp (disch := omega) only [fitsT, addW_eq, brB_t]
      by_cases hk : a.k = 0
      · rw [if_pos hk]
        exact hn _ (by omega) (by rw [← h1]; simp [dropN, hk])
      · rw [if_neg hk]
        exact hn (acc ++ [a]) (by simp only [List.length_append, List.length_singleton]; omega) (by rw [← h1]; simp [dropN, hk])
  exact key [] (by simp) rfl
theorem run_spec_NodeKeys (n : List (List Key)) (hb : n.length ≤ 1073741824) (hl : tot szSet n ≤ 1073741824) : RunF C spec_NodeKeys [vNode n] (vKeys (nodeKeys n)) [] := by
  refine (f_spec_NodeKeys _ _ ?_).run
  have key : ∀ (acc : List Key), acc.length + tot szSet (n.drop 0) ≤ tot szSet n → (n.drop 0).foldl mergeSets acc = nodeKeys0 n → LoopG C spec_NodeKeys pRRLRB 4 0 (s_spec_NodeKeys_0 ((0 : Nat) : Int) (n.map setC) (acc.map keyC)) (fun u st => AftF C spec_NodeKeys pRRLRB u st fun r fs => r = (vKeys (nodeKeys n)) ∧ fs = []) := by
    refine idx_walk n (fun i => ∀ (acc : List Key), acc.length + tot szSet (n.drop i) ≤ tot szSet n → (n.drop i).foldl mergeSets acc = nodeKeys0 n → LoopG C spec_NodeKeys pRRLRB 4 0 (s_spec_NodeKeys_0 i (n.map setC) (acc.map keyC)) (fun u st => AftF C spec_NodeKeys pRRLRB u st fun r fs => r = (vKeys (nodeKeys n)) ∧ fs = [])) ?_ ?_
    · intro acc h0 h1
      refine r_spec_NodeKeys_0 _ _ _ _ (brB_no (by simp) (a_spec_NodeKeys_1 _ _ _ _ _ ?_))
      rw [List.drop_length] at h0 h1
      simp only [List.foldl_nil] at h1
      refine ⟨_, run_spec_Drop acc (by omega), ?_⟩
      rw [h1]
      exact ⟨rfl, by first | rfl | trivial⟩
    · intro i a hi ha hd ht hn acc h0 h1
      refine r_spec_NodeKeys_0 _ _ _ _ (brB_yes (by simp; omega) ?_)
      rw [hd] at h0 h1
      simp only [tot, szSet] at h0
      simp only [ex_set, c_spec_MergeSets acc a (by omega), getZ_nat, ha, Option.some.injEq, exists_eq_left', exists_eq_left, brB_not, brB_and, brB_or, key_eta, age_eta, cell_eta, vol_eta, map_eta, op_eta, succ_len, natAdd, List.length_map, List.length_append, List.length_singleton, Bool.true_and, Bool.and_true]
      rw [addW_eq (by omega)]
      have h2 := mergeSets_len a acc
      exact hn _ (by omega) (by rw [← h1]; rfl)
  exact key [] (by simp) rfl
theorem c_spec_NodeKeys (n : List (List Key)) (hb : n.length ≤ 1073741824) (hl : tot szSet n ≤ 1073741824) (q : RR) : RunF C spec_NodeKeys [.ag [.sub 1 (n.map setC)]] (.c (.sub 5 q)) [] ↔ q = (nodeKeys n).map keyC := iffL (run_spec_NodeKeys n hb hl)
theorem run_spec_TreeKeys (t : Tree) (hl : szTree t ≤ 1073741824) : RunF C spec_TreeKeys [vTree t] (vKeys (treeKeys t)) [] := by
  refine (f_spec_TreeKeys _ _ _ ?_).run
  have key : ∀ (acc : List Key), acc.length + tot szNode (t.nodes.drop 0) ≤ tot szNode t.nodes → acc ++ (t.nodes.drop 0).flatMap nodeKeys = treeKeys t → LoopG C spec_TreeKeys pRRLRB 4 0 (s_spec_TreeKeys_0 ((0 : Nat) : Int) (t.lows.map intC) (t.nodes.map nodeC) (acc.map keyC)) (fun u st => AftF C spec_TreeKeys pRRLRB u st fun r fs => r = (vKeys (treeKeys t)) ∧ fs = []) := by
    refine idx_walk t.nodes (fun i => ∀ (acc : List Key), acc.length + tot szNode (t.nodes.drop i) ≤ tot szNode t.nodes → acc ++ (t.nodes.drop i).flatMap nodeKeys = treeKeys t → LoopG C spec_TreeKeys pRRLRB 4 0 (s_spec_TreeKeys_0 i (t.lows.map intC) (t.nodes.map nodeC) (acc.map keyC)) (fun u st => AftF C spec_TreeKeys pRRLRB u st fun r fs => r = (vKeys (treeKeys t)) ∧ fs = [])) ?_ ?_
    · intro acc h0 h1
      refine r_spec_TreeKeys_0 _ _ _ _ _ (brB_no (by simp) (a_spec_TreeKeys_1 _ _ _ _ _ _ ?_))
      rw [List.drop_length] at h1
      simp at h1
      simp [h1]
    · intro i a hi ha hd ht hn acc h0 h1
      refine r_spec_TreeKeys_0 _ _ _ _ _ (brB_yes (by have := hi; unfold szTree szNodes at hl; simp; omega) ?_)
      have hz : a.length + tot szSet a ≤ tot szNode t.nodes := tot_get (w := szNode) ha
      rw [hd] at h0 h1
      simp only [tot, szNode] at h0
      unfold szTree szNodes at hl
      have h2 := nodeKeys_len a
      simp only [listApp, ex_node, c_spec_NodeKeys a (by omega) (by omega), allSc_key, getZ_nat, ha, Option.some.injEq, exists_eq_left', exists_eq_left, brB_not, brB_and, brB_or, key_eta, age_eta, cell_eta, vol_eta, map_eta, op_eta, succ_len, natAdd, List.length_map, List.length_append, List.length_singleton, Bool.true_and, Bool.and_true]
      rw [fitsT (by omega), addW_eq (by omega)]
      refine brB_yes rfl ?_
      rw [← List.map_append]
      exact hn _ (by simp; omega) (by rw [← h1]; simp)
  exact key [] (by simp) rfl
theorem run_impl_copyKeys (l : List Key) (hl : l.length ≤ 2147483648) : RunF C impl_copyKeys [vKeys l] (vKeys l) [] := by
  refine (f_impl_copyKeys _ _ ?_).run
  rw [allSc_key, fitsT (by simp; omega)]
  exact ⟨rfl, by first | rfl | trivial⟩
theorem run_impl_MergeSets (old new : List Key) (hl : old.length + new.length ≤ 1073741824) : RunF C impl_MergeSets [vKeys old, vKeys new] (vKeys (mergeSets old new)) [] := by
  refine (f_impl_MergeSets _ _ _ ?_).run
  refine ⟨_, run_impl_copyKeys old (by omega), ?_⟩
  have key : ∀ (acc : List Key), acc.length + (new.drop 0).length ≤ old.length + new.length → mergeSets acc (new.drop 0) = mergeSets old new → LoopG C impl_MergeSets pRRLRB 4 0 (s_impl_MergeSets_0 (new.map keyC) ((0 : Nat) : Int) (acc.map keyC)) (fun u st => AftF C impl_MergeSets pRRLRB u st fun r fs => r = (vKeys (mergeSets old new)) ∧ fs = []) := by
    refine idx_walk new (fun i => ∀ (acc : List Key), acc.length + (new.drop i).length ≤ old.length + new.length → mergeSets acc (new.drop i) = mergeSets old new → LoopG C impl_MergeSets pRRLRB 4 0 (s_impl_MergeSets_0 (new.map keyC) i (acc.map keyC)) (fun u st => AftF C impl_MergeSets pRRLRB u st fun r fs => r = (vKeys (mergeSets old new)) ∧ fs = [])) ?_ ?_
    · intro acc h0 h1
      refine r_impl_MergeSets_0 _ _ _ _ (brB_no (by simp) (a_impl_MergeSets_1 _ _ _ _ _ _ ?_))
      rw [List.drop_length] at h1
      rw [← h1]
      exact ⟨rfl, by first | rfl | trivial⟩
    · intro i a hi ha hd ht hn acc h0 h1
      refine r_impl_MergeSets_0 _ _ _ _ (brB_yes (by simp; omega) ?_)
      rw [hd] at h0 h1
      simp only [List.length_cons] at h0
      simp only [ex_key, c_impl_SetPut acc (by omega), getZ_nat, ha, Option.some.injEq, exists_eq_left', exists_eq_left, brB_not, brB_and, brB_or, key_eta, age_eta, cell_eta, vol_eta, map_eta, op_eta, succ_len, natAdd, List.length_map, List.length_append, List.length_singleton, Bool.true_and, Bool.and_true]
      rw [addW_eq (by omega)]
      have h2 := setPut_len acc a
      exact hn _ (by omega) (by rw [← h1]; rfl)
  exact key old (by simp) rfl
theorem c_impl_MergeSets (old new : List Key) (hl : old.length + new.length ≤ 1073741824) (q : RR) : RunF C impl_MergeSets [vKeys old, vKeys new] (.c (.sub 5 q)) [] ↔ q = (mergeSets old new).map keyC := iffL (run_impl_MergeSets old new hl)
theorem run_impl_Drop (l : List Key) (hl : l.length ≤ 1073741824) : RunF C impl_Drop [vKeys l] (vKeys (dropN l)) [] := by
  refine (f_impl_Drop _ _ ?_).run
  have key : ∀ (acc : List Key), acc.length + (l.drop 0).length ≤ l.length → acc ++ dropN (l.drop 0) = dropN l → LoopG C impl_Drop pRRLRB 4 0 (s_impl_Drop_0 (l.map keyC) ((0 : Nat) : Int) (acc.map keyC)) (fun u st => AftF C impl_Drop pRRLRB u st fun r fs => r = (vKeys (dropN l)) ∧ fs = []) := by
    refine idx_walk l (fun i => ∀ (acc : List Key), acc.length + (l.drop i).length ≤ l.length → acc ++ dropN (l.drop i) = dropN l → LoopG C impl_Drop pRRLRB 4 0 (s_impl_Drop_0 (l.map keyC) i (acc.map keyC)) (fun u st => AftF C impl_Drop pRRLRB u st fun r fs => r = (vKeys (dropN l)) ∧ fs = [])) ?_ ?_
    · intro acc h0 h1
      refine r_impl_Drop_0 _ _ _ _ (brB_no (by simp) (a_impl_Drop_1 _ _ _ _ _ _ ?_))
      rw [List.drop_length] at h1
      simp [dropN] at h1
      simp [dropN, h1]
    · intro i a hi ha hd ht hn acc h0 h1
      refine r_impl_Drop_0 _ _ _ _ (brB_yes (by simp; omega) ?_)
      rw [hd] at h0 h1
      simp only [List.length_cons] at h0
      simp only [ex_key, app_key, allSc_key1, eqI_eq, brB_dec, getZ_nat, ha, Option.some.injEq, exists_eq_left', exists_eq_left, brB_not, brB_and, brB_or, key_eta, age_eta, cell_eta, vol_eta, map_eta, op_eta, succ_len, natAdd, List.length_map, List.length_append, List.length_singleton, Bool.true_and, Bool.and_true]
      simp (disch := omega) only [fitsT, addW_eq, brB_t]
      by_cases hk : a.k = 0
      · rw [if_pos hk]
        exact hn _ (by omega) (by rw [← h1]; simp [dropN, hk])
      · rw [if_neg hk]
        exact hn (acc ++ [a]) (by simp only [List.length_append, List.length_singleton]; omega) (by rw [← h1]; simp [dropN, hk])
  exact key [] (by simp) rfl
theorem run_impl_NodeKeys (n : List (List Key)) (hb : n.length ≤ 1073741824) (hl : tot szSet n ≤ 1073741824) : RunF C impl_NodeKeys [vNode n] (vKeys (nodeKeys n)) [] := by
  refine (f_impl_NodeKeys _ _ ?_).run
  have key : ∀ (acc : List Key), acc.length + tot szSet (n.drop 0) ≤ tot szSet n → (n.drop 0).foldl mergeSets acc = nodeKeys0 n → LoopG C impl_NodeKeys pRRLRB 4 0 (s_impl_NodeKeys_0 (n.map setC) ((0 : Nat) : Int) (acc.map keyC)) (fun u st => AftF C impl_NodeKeys pRRLRB u st fun r fs => r = (vKeys (nodeKeys n)) ∧ fs = []) := by
    refine idx_walk n (fun i => ∀ (acc : List Key), acc.length + tot szSet (n.drop i) ≤ tot szSet n → (n.drop i).foldl mergeSets acc = nodeKeys0 n → LoopG C impl_NodeKeys pRRLRB 4 0 (s_impl_NodeKeys_0 (n.map setC) i (acc.map keyC)) (fun u st => AftF C impl_NodeKeys pRRLRB u st fun r fs => r = (vKeys (nodeKeys n)) ∧ fs = [])) ?_ ?_
    · intro acc h0 h1
      refine r_impl_NodeKeys_0 _ _ _ _ (brB_no (by simp) (a_impl_NodeKeys_1 _ _ _ _ _ _ ?_))
      rw [List.drop_length] at h0 h1
      simp only [List.foldl_nil] at h1
      refine ⟨_, run_impl_Drop acc (by omega), ?_⟩
      rw [h1]
      exact ⟨rfl, by first | rfl | trivial⟩
    · intro i a hi ha hd ht hn acc h0 h1
      refine r_impl_NodeKeys_0 _ _ _ _ (brB_yes (by simp; omega) ?_)
      rw [hd] at h0 h1
      simp only [tot, szSet] at h0
      simp only [ex_set, c_impl_MergeSets acc a (by omega), getZ_nat, ha, Option.some.injEq, exists_eq_left', exists_eq_left, brB_not, brB_and, brB_or, key_eta, age_eta, cell_eta, vol_eta, map_eta, op_eta, succ_len, natAdd, List.length_map, List.length_append, List.length_singleton, Bool.true_and, Bool.and_true]
      rw [addW_eq (by omega)]
      have h2 := mergeSets_len a acc
      exact hn _ (by omega) (by rw [← h1]; rfl)
  exact key [] (by simp) rfl
theorem c_impl_NodeKeys (n : List (List Key)) (hb : n.length ≤ 1073741824) (hl : tot szSet n ≤ 1073741824) (q : RR) : RunF C impl_NodeKeys [.ag [.sub 1 (n.map setC)]] (.c (.sub 5 q)) [] ↔ q = (nodeKeys n).map keyC := iffL (run_impl_NodeKeys n hb hl)
theorem run_impl_TreeKeys (t : Tree) (hl : szTree t ≤ 1073741824) : RunF C impl_TreeKeys [vTree t] (vKeys (treeKeys t)) [] := by
  refine (f_impl_TreeKeys _ _ _ ?_).run
  have key : ∀ (acc : List Key), acc.length + tot szNode (t.nodes.drop 0) ≤ tot szNode t.nodes → acc ++ (t.nodes.drop 0).flatMap nodeKeys = treeKeys t → LoopG C impl_TreeKeys pRRLRB 4 0 (s_impl_TreeKeys_0 (t.nodes.map nodeC) ((0 : Nat) : Int) (acc.map keyC)) (fun u st => AftF C impl_TreeKeys pRRLRB u st fun r fs => r = (vKeys (treeKeys t)) ∧ fs = []) := by
    refine idx_walk t.nodes (fun i => ∀ (acc : List Key), acc.length + tot szNode (t.nodes.drop i) ≤ tot szNode t.nodes → acc ++ (t.nodes.drop i).flatMap nodeKeys = treeKeys t → LoopG C impl_TreeKeys pRRLRB 4 0 (s_impl_TreeKeys_0 (t.nodes.map nodeC) i (acc.map keyC)) (fun u st => AftF C impl_TreeKeys pRRLRB u st fun r fs => r = (vKeys (treeKeys t)) ∧ fs = [])) ?_ ?_
    · intro acc h0 h1
      refine r_impl_TreeKeys_0 _ _ _ _ (brB_no (by simp) (a_impl_TreeKeys_1 _ _ _ _ _ _ ?_))
      rw [List.drop_length] at h1
      simp at h1
      simp [h1]
    · intro i a hi ha hd ht hn acc h0 h1
      refine r_impl_TreeKeys_0 _ _ _ _ (brB_yes (by have := hi; unfold szTree szNodes at hl; simp; omega) ?_)
      have hz : a.length + tot szSet a ≤ tot szNode t.nodes := tot_get (w := szNode) ha
      rw [hd] at h0 h1
      simp only [tot, szNode] at h0
      unfold szTree szNodes at hl
      have h2 := nodeKeys_len a
      simp only [listApp, ex_node, c_impl_NodeKeys a (by omega) (by omega), allSc_key, getZ_nat, ha, Option.some.injEq, exists_eq_left', exists_eq_left, brB_not, brB_and, brB_or, key_eta, age_eta, cell_eta, vol_eta, map_eta, op_eta, succ_len, natAdd, List.length_map, List.length_append, List.length_singleton, Bool.true_and, Bool.and_true]
      rw [fitsT (by omega), addW_eq (by omega)]
      refine brB_yes rfl ?_
      rw [← List.map_append]
      exact hn _ (by simp; omega) (by rw [← h1]; simp)
  exact key [] (by simp) rfl
theorem run_spec_AgeAt (l : List Age) (id : Int) (hl : l.length ≤ 1073741824) : RunF C spec_AgeAt [vAges l, vI id] (vI (ageAt l id)) [] := by
  refine (f_spec_AgeAt _ _ _ ?_).run
  have key : idxF (fun a : Age => decide (a.id = id)) (l.drop 0) ((0 : Nat) : Int) = idxF (fun a : Age => decide (a.id = id)) l 0 → LoopG C spec_AgeAt pRLRB 4 0 (s_spec_AgeAt_0 (l.map ageC) id ((0 : Nat) : Int)) (fun u st => AftF C spec_AgeAt pRLRB u st fun r fs => r = vI (ageAt l id) ∧ fs = []) := by
    refine idx_walk l (fun i => idxF (fun a : Age => decide (a.id = id)) (l.drop i) (i : Int) = idxF (fun a : Age => decide (a.id = id)) l 0 → LoopG C spec_AgeAt pRLRB 4 0 (s_spec_AgeAt_0 (l.map ageC) id i) _) ?_ ?_
    · intro h0
      refine r_spec_AgeAt_0 _ _ _ _ (brB_no (by simp) (a_spec_AgeAt_2 _ _ _ _ _ ?_))
      rw [List.drop_length] at h0
      simp only [idxF] at h0
      change _ = vI (idxF (fun a : Age => decide (a.id = id)) l 0) ∧ _
      rw [← h0]
      exact ⟨rfl, by first | rfl | trivial⟩
    · intro i a hi ha hd htk hn h0
      refine r_spec_AgeAt_0 _ _ _ _ (brB_yes (by simp; omega) ?_)
      rw [hd] at h0
      simp only [idxF] at h0
      simp only [ex_age, eqI_eq, brB_dec, getZ_nat, ha, Option.some.injEq, exists_eq_left', exists_eq_left, brB_not, brB_and, brB_or, key_eta, age_eta, cell_eta, vol_eta, map_eta, op_eta, succ_len, natAdd, List.length_map, List.length_append, List.length_singleton, Bool.true_and, Bool.and_true]
      rw [addW_eq (by omega)]
      split at h0
      · rename_i hp
        have hp := of_decide_eq_true hp
        first | rw [if_pos hp] | rw [if_pos hp.symm]
        refine a_spec_AgeAt_1 _ _ ?_
        rw [h0]
        exact ⟨rfl, by first | rfl | trivial⟩
      · rename_i hp
        have hp : ¬ _ := fun h => hp (decide_eq_true h)
        first | rw [if_neg hp] | rw [if_neg (fun h => hp h.symm)]
        exact hn h0
  exact key rfl
@[simp] theorem c_impl_AgeAt_1 (a b id : Int) (q : Bool) : RunF C impl_AgeAt_1 [.ag [iI a, iI b], .bx [iI id]] (vB q) [] ↔ q = decide (a = id) := iffB (by
  refine (f_impl_AgeAt_1 _ _ _ _ ?_).run
  simp)
theorem run_idx_AgeAt (l : List Age) (id : Int) (hl : l.length ≤ 1073741824) : RunF C slices_IndexFunc_Age [vAges l, .fn impl_AgeAt_1 [[iI id]]] (vI (ageAt l id)) [] := by
  refine (f_slices_IndexFunc_Age_impl_AgeAt_1 _ _ _ ?_).run
  have key : idxF (fun a : Age => decide (a.id = id)) (l.drop 0) ((0 : Nat) : Int) = idxF (fun a : Age => decide (a.id = id)) l 0 → LoopG C slices_IndexFunc_Age pRLRB 4 0 (s_slices_IndexFunc_Age_impl_AgeAt_1_0 (l.map ageC) ((0 : Nat) : Int) id) (fun u st => AftF C slices_IndexFunc_Age pRLRB u st fun r fs => r = vI (ageAt l id) ∧ fs = []) := by
    refine idx_walk l (fun i => idxF (fun a : Age => decide (a.id = id)) (l.drop i) (i : Int) = idxF (fun a : Age => decide (a.id = id)) l 0 → LoopG C slices_IndexFunc_Age pRLRB 4 0 (s_slices_IndexFunc_Age_impl_AgeAt_1_0 (l.map ageC) i id) _) ?_ ?_
    · intro h0
      refine r_slices_IndexFunc_Age_impl_AgeAt_1_0 _ _ _ _ (brB_no (by simp) (a_slices_IndexFunc_Age_impl_AgeAt_1_2 _ _ _ _ _ _ ?_))
      rw [List.drop_length] at h0
      simp only [idxF] at h0
      change _ = vI (idxF (fun a : Age => decide (a.id = id)) l 0) ∧ _
      rw [← h0]
      exact ⟨rfl, by first | rfl | trivial⟩
    · intro i a hi ha hd htk hn h0
      refine r_slices_IndexFunc_Age_impl_AgeAt_1_0 _ _ _ _ (brB_yes (by simp; omega) ?_)
      rw [hd] at h0
      simp only [idxF] at h0
      simp only [ex_age, eqI_eq, c_impl_AgeAt_1, brB_dec, getZ_nat, ha, Option.some.injEq, exists_eq_left', exists_eq_left, brB_not, brB_and, brB_or, key_eta, age_eta, cell_eta, vol_eta, map_eta, op_eta, succ_len, natAdd, List.length_map, List.length_append, List.length_singleton, Bool.true_and, Bool.and_true]
      rw [addW_eq (by omega)]
      split at h0
      · rename_i hp
        have hp := of_decide_eq_true hp
        first | rw [if_pos hp] | rw [if_pos hp.symm]
        refine a_slices_IndexFunc_Age_impl_AgeAt_1_1 _ _ _ ?_
        rw [h0]
        exact ⟨rfl, by first | rfl | trivial⟩
      · rename_i hp
        have hp : ¬ _ := fun h => hp (decide_eq_true h)
        first | rw [if_neg hp] | rw [if_neg (fun h => hp h.symm)]
        exact hn h0
  exact key rfl
theorem run_impl_AgeAt (l : List Age) (id : Int) (hl : l.length ≤ 1073741824) : RunF C impl_AgeAt [vAges l, vI id] (vI (ageAt l id)) [] := (f_impl_AgeAt _ _ _ ⟨_, run_idx_AgeAt l id hl, rfl, by first | rfl | trivial⟩).run
theorem c_spec_AgeAt (l : List Age) (id : Int) (hl : l.length ≤ 1073741824) (q : Int) : RunF C spec_AgeAt [vAges l, vI id] (vI q) [] ↔ q = ageAt l id := iffI (run_spec_AgeAt l id hl)
theorem c_impl_AgeAt (l : List Age) (id : Int) (hl : l.length ≤ 1073741824) (q : Int) : RunF C impl_AgeAt [vAges l, vI id] (vI q) [] ↔ q = ageAt l id := iffI (run_impl_AgeAt l id hl)
@[simp] theorem c_spec_l1Word (a : Int) (q : Bool) : RunF C spec_l1Word [vI a] (vB q) [] ↔ q = isWordB a := iffB ((f_spec_l1Word _ _ ⟨_, run_l1In _ _ _, rfl, by first | rfl | trivial⟩).run)
theorem run_spec_CellAt (l : List Cell) (i gen : Int) (hl : l.length ≤ 1073741824) : RunF C spec_CellAt [vCells l, vI i, vI gen] (tIB (cellAt l i gen)) [] := by
  refine (f_spec_CellAt _ _ _ _ ?_).run
  simp only [c_l1In, exists_eq_left, List.length_map, Int.ofNat_eq_natCast, brB_not, ex_cell]
  rw [subW_eq (by omega)]
  by_cases h : 0 ≤ i ∧ i < l.length
  · obtain ⟨a, ha⟩ := getZ_some h.1 h.2
    have e : inB i 0 ((l.length : Int) - 1) = true := decide_eq_true (by omega)
    simp only [e, brB_t, ha, Option.some.injEq, exists_eq_left', eqI_eq, brB_dec, cellAt]
    cases h1 : a.u <;> by_cases h2 : a.g = gen <;> simp [h1, h2]
  · have e : inB i 0 ((l.length : Int) - 1) = false := decide_eq_false (by omega)
    have hn : getZ l i = none := getZ_none h
    simp [e, cellAt, hn]
theorem c_spec_CellAt (l : List Cell) (hl : l.length ≤ 1073741824) (i gen : Int) (n : Int) (q : Bool) : RunF C spec_CellAt [vCells l, vI i, vI gen] (.tu [(0, [iI n]), (0, [iB q])]) [] ↔ n = (cellAt l i gen).1 ∧ q = (cellAt l i gen).2 := iffIB (run_spec_CellAt l i gen hl)
theorem run_spec_UsedCells (l : List Cell) (hl : l.length ≤ 1073741824) : RunF C spec_UsedCells [vCells l] (vI (usedCells l)) [] := by
  refine (f_spec_UsedCells _ _ ?_).run
  have key : ∀ (n : Nat), n + (l.drop 0).length ≤ l.length → n + usedCells (l.drop 0) = usedCells l → LoopG C spec_UsedCells pRRLRB 4 0 (s_spec_UsedCells_0 (l.map cellC) n ((0 : Nat) : Int)) (fun u st => AftF C spec_UsedCells pRRLRB u st fun r fs => r = (vI (usedCells l)) ∧ fs = []) := by
    refine idx_walk l (fun i => ∀ (n : Nat), n + (l.drop i).length ≤ l.length → n + usedCells (l.drop i) = usedCells l → LoopG C spec_UsedCells pRRLRB 4 0 (s_spec_UsedCells_0 (l.map cellC) n i) (fun u st => AftF C spec_UsedCells pRRLRB u st fun r fs => r = (vI (usedCells l)) ∧ fs = [])) ?_ ?_
    · intro n h0 h1
      refine r_spec_UsedCells_0 _ _ _ _ (brB_no (by simp) (a_spec_UsedCells_1 _ _ _ _ _ ?_))
      rw [List.drop_length] at h1
      simp [usedCells] at h1
      simp [h1, usedCells]
    · intro i a hi ha hd ht hn n h0 h1
      refine r_spec_UsedCells_0 _ _ _ _ (brB_yes (by simp; omega) ?_)
      rw [hd] at h0 h1
      simp only [List.length_cons] at h0
      simp only [ex_cell, getZ_nat, ha, Option.some.injEq, exists_eq_left', exists_eq_left, brB_not, brB_and, brB_or, key_eta, age_eta, cell_eta, vol_eta, map_eta, op_eta, succ_len, natAdd, List.length_map, List.length_append, List.length_singleton, Bool.true_and, Bool.and_true]
      rw [addW_eq (by omega), addW_eq (by omega)]
      cases hu : a.u
      · exact hn n (by omega) (by rw [← h1]; simp [usedCells, hu])
      · exact hn (n + 1) (by omega) (by rw [← h1]; simp [usedCells, hu]; omega)
  exact key 0 (by simp) (by simp)
theorem run_spec_CellsOk (l : List Cell) (hl : l.length ≤ 1073741824) : RunF C spec_CellsOk [vCells l] (vB ((l.all cellOk && decide (l.length = 24)))) [] := by
  refine (f_spec_CellsOk _ _ ?_).run
  have key : ((l.drop 0).all cellOk && decide (l.length = 24)) = (l.all cellOk && decide (l.length = 24)) → LoopG C spec_CellsOk pRLRB 4 0 (s_spec_CellsOk_0 (l.map cellC) ((0 : Nat) : Int)) (fun u st => AftF C spec_CellsOk pRLRB u st fun r fs => r = vB ((l.all cellOk && decide (l.length = 24))) ∧ fs = []) := by
    refine idx_walk l (fun i => ((l.drop i).all cellOk && decide (l.length = 24)) = (l.all cellOk && decide (l.length = 24)) → LoopG C spec_CellsOk pRLRB 4 0 (s_spec_CellsOk_0 (l.map cellC) i) (fun u st => AftF C spec_CellsOk pRLRB u st fun r fs => r = vB ((l.all cellOk && decide (l.length = 24))) ∧ fs = [])) ?_ ?_
    · intro h0
      refine r_spec_CellsOk_0 _ _ _ (brB_no (by simp) (a_spec_CellsOk_2 _ _ _ _ ?_))
      rw [List.drop_length] at h0
      simp only [List.all_nil, Bool.true_and] at h0
      rw [← h0]
      simp [eqI_eq]
      try omega
    · intro i a hi ha hd htk hn h0
      have gO : cellOk a = false → (l.all cellOk && decide (l.length = 24)) = false := fun e => by rw [← h0, hd]; simp [e]
      have gN : cellOk a = true → LoopG C spec_CellsOk pRLRB 4 0 (s_spec_CellsOk_0 (l.map cellC) ((i : Int) + 1)) (fun u st => AftF C spec_CellsOk pRLRB u st fun r fs => r = vB ((l.all cellOk && decide (l.length = 24))) ∧ fs = []) := fun e => hn (by rw [← h0, hd]; simp [e])
      refine r_spec_CellsOk_0 _ _ _ (brB_yes (by simp; omega) ?_)
      simp only [ex_cell, c_l1In, c_spec_l1Word, eqI_eq, getZ_nat, ha, Option.some.injEq, exists_eq_left', exists_eq_left, brB_not, brB_and, brB_or, key_eta, age_eta, cell_eta, vol_eta, map_eta, op_eta, succ_len, natAdd, List.length_map, List.length_append, List.length_singleton, Bool.true_and, Bool.and_true]
      rw [addW_eq (by omega)]
      cases h1 : inB a.g 0 999 <;> cases h2 : isWordB a.n <;> cases h3 : a.u <;> by_cases h4 : a.n = 0 <;> simp only [h1, h2, h3, h4, brB_t, brB_f, decide_true, decide_false, not_true_eq_false, not_false_eq_true, Bool.not_true, Bool.not_false] <;> first | exact gN (by unfold cellOk; rw [h1, h2, h3]; simp [h4]) | exact a_spec_CellsOk_1 _ (by rw [gO (by unfold cellOk; rw [h1, h2, h3]; simp [h4])]; exact ⟨rfl, by first | rfl | trivial⟩)
  exact key rfl
theorem c_spec_CellsOk (l : List Cell) (hl : l.length ≤ 1073741824) (q : Bool) : RunF C spec_CellsOk [vCells l] (vB q) [] ↔ q = cellsOk l := iffB (run_spec_CellsOk l hl)
@[simp] theorem c_impl_isWord (a : Int) (q : Bool) : RunF C impl_isWord [vI a] (vB q) [] ↔ q = isWordB a := iffB ((f_impl_isWord _ _ ⟨_, run_within _ _ _, rfl, by first | rfl | trivial⟩).run)
theorem run_impl_CellAt (l : List Cell) (i gen : Int) (hl : l.length ≤ 1073741824) : RunF C impl_CellAt [vCells l, vI i, vI gen] (tIB (cellAt l i gen)) [] := by
  refine (f_impl_CellAt _ _ _ _ ?_).run
  simp only [c_within, exists_eq_left, List.length_map, Int.ofNat_eq_natCast, brB_not, ex_cell]
  rw [subW_eq (by omega)]
  by_cases h : 0 ≤ i ∧ i < l.length
  · obtain ⟨a, ha⟩ := getZ_some h.1 h.2
    have e : inB i 0 ((l.length : Int) - 1) = true := decide_eq_true (by omega)
    simp only [e, brB_t, ha, Option.some.injEq, exists_eq_left', eqI_eq, brB_dec, cellAt]
    cases h1 : a.u <;> by_cases h2 : a.g = gen <;> simp [h1, h2]
  · have e : inB i 0 ((l.length : Int) - 1) = false := decide_eq_false (by omega)
    have hn : getZ l i = none := getZ_none h
    simp [e, cellAt, hn]
theorem c_impl_CellAt (l : List Cell) (hl : l.length ≤ 1073741824) (i gen : Int) (n : Int) (q : Bool) : RunF C impl_CellAt [vCells l, vI i, vI gen] (.tu [(0, [iI n]), (0, [iB q])]) [] ↔ n = (cellAt l i gen).1 ∧ q = (cellAt l i gen).2 := iffIB (run_impl_CellAt l i gen hl)
theorem run_impl_UsedCells (l : List Cell) (hl : l.length ≤ 1073741824) : RunF C impl_UsedCells [vCells l] (vI (usedCells l)) [] := by
  refine (f_impl_UsedCells _ _ ?_).run
  have key : ∀ (n : Nat), n + (l.drop 0).length ≤ l.length → n + usedCells (l.drop 0) = usedCells l → LoopG C impl_UsedCells pRRLRB 4 0 (s_impl_UsedCells_0 n (l.map cellC) ((0 : Nat) : Int)) (fun u st => AftF C impl_UsedCells pRRLRB u st fun r fs => r = (vI (usedCells l)) ∧ fs = []) := by
    refine idx_walk l (fun i => ∀ (n : Nat), n + (l.drop i).length ≤ l.length → n + usedCells (l.drop i) = usedCells l → LoopG C impl_UsedCells pRRLRB 4 0 (s_impl_UsedCells_0 n (l.map cellC) i) (fun u st => AftF C impl_UsedCells pRRLRB u st fun r fs => r = (vI (usedCells l)) ∧ fs = [])) ?_ ?_
    · intro n h0 h1
      refine r_impl_UsedCells_0 _ _ _ _ (brB_no (by simp) (a_impl_UsedCells_1 _ _ _ _ _ _ ?_))
      rw [List.drop_length] at h1
      simp [usedCells] at h1
      simp [h1, usedCells]
    · intro i a hi ha hd ht hn n h0 h1
      refine r_impl_UsedCells_0 _ _ _ _ (brB_yes (by simp; omega) ?_)
      rw [hd] at h0 h1
      simp only [List.length_cons] at h0
      simp only [ex_cell, getZ_nat, ha, Option.some.injEq, exists_eq_left', exists_eq_left, brB_not, brB_and, brB_or, key_eta, age_eta, cell_eta, vol_eta, map_eta, op_eta, succ_len, natAdd, List.length_map, List.length_append, List.length_singleton, Bool.true_and, Bool.and_true]
      rw [addW_eq (by omega), addW_eq (by omega)]
      cases hu : a.u
      · exact hn n (by omega) (by rw [← h1]; simp [usedCells, hu])
      · exact hn (n + 1) (by omega) (by rw [← h1]; simp [usedCells, hu]; omega)
  exact key 0 (by simp) (by simp)
theorem run_impl_CellsOk (l : List Cell) (hl : l.length ≤ 1073741824) : RunF C impl_CellsOk [vCells l] (vB ((l.all cellOk && decide (l.length = 24)))) [] := by
  refine (f_impl_CellsOk _ _ ?_).run
  have key : ((l.drop 0).all cellOk && decide (l.length = 24)) = (l.all cellOk && decide (l.length = 24)) → LoopG C impl_CellsOk pRLRB 4 0 (s_impl_CellsOk_0 (l.map cellC) ((0 : Nat) : Int)) (fun u st => AftF C impl_CellsOk pRLRB u st fun r fs => r = vB ((l.all cellOk && decide (l.length = 24))) ∧ fs = []) := by
    refine idx_walk l (fun i => ((l.drop i).all cellOk && decide (l.length = 24)) = (l.all cellOk && decide (l.length = 24)) → LoopG C impl_CellsOk pRLRB 4 0 (s_impl_CellsOk_0 (l.map cellC) i) (fun u st => AftF C impl_CellsOk pRLRB u st fun r fs => r = vB ((l.all cellOk && decide (l.length = 24))) ∧ fs = [])) ?_ ?_
    · intro h0
      refine r_impl_CellsOk_0 _ _ _ (brB_no (by simp) (a_impl_CellsOk_2 _ _ _ _ _ ?_))
      rw [List.drop_length] at h0
      simp only [List.all_nil, Bool.true_and] at h0
      rw [← h0]
      simp [eqI_eq]
      try omega
    · intro i a hi ha hd htk hn h0
      have gO : cellOk a = false → (l.all cellOk && decide (l.length = 24)) = false := fun e => by rw [← h0, hd]; simp [e]
      have gN : cellOk a = true → LoopG C impl_CellsOk pRLRB 4 0 (s_impl_CellsOk_0 (l.map cellC) ((i : Int) + 1)) (fun u st => AftF C impl_CellsOk pRLRB u st fun r fs => r = vB ((l.all cellOk && decide (l.length = 24))) ∧ fs = []) := fun e => hn (by rw [← h0, hd]; simp [e])
      refine r_impl_CellsOk_0 _ _ _ (brB_yes (by simp; omega) ?_)
      simp only [ex_cell, c_within, c_impl_isWord, eqI_eq, getZ_nat, ha, Option.some.injEq, exists_eq_left', exists_eq_left, brB_not, brB_and, brB_or, key_eta, age_eta, cell_eta, vol_eta, map_eta, op_eta, succ_len, natAdd, List.length_map, List.length_append, List.length_singleton, Bool.true_and, Bool.and_true]
      rw [addW_eq (by omega)]
      cases h1 : inB a.g 0 999 <;> cases h2 : isWordB a.n <;> cases h3 : a.u <;> by_cases h4 : a.n = 0 <;> simp only [h1, h2, h3, h4, brB_t, brB_f, decide_true, decide_false, not_true_eq_false, not_false_eq_true, Bool.not_true, Bool.not_false] <;> first | exact gN (by unfold cellOk; rw [h1, h2, h3]; simp [h4]) | exact a_impl_CellsOk_1 _ _ _ _ (by rw [gO (by unfold cellOk; rw [h1, h2, h3]; simp [h4])]; exact ⟨rfl, by first | rfl | trivial⟩)
  exact key rfl
theorem c_impl_CellsOk (l : List Cell) (hl : l.length ≤ 1073741824) (q : Bool) : RunF C impl_CellsOk [vCells l] (vB q) [] ↔ q = cellsOk l := iffB (run_impl_CellsOk l hl)
theorem run_spec_NameOk (s : ByteArray) (hl : s.size ≤ 140737488355328) : RunF C spec_NameOk [vS s] (vB ((allN s.size (nameAtOk s) && inB s.size 1 6))) [] := by
  refine (f_spec_NameOk _ _ ?_).run
  have key : ((List.range' 0 (s.size - 0)).all (nameAtOk s) && inB s.size 1 6) = (allN s.size (nameAtOk s) && inB s.size 1 6) → LoopG C spec_NameOk pRLRB 4 0 (s_spec_NameOk_0 s ((0 : Nat) : Int)) (fun u st => AftF C spec_NameOk pRLRB u st fun r fs => r = vB ((allN s.size (nameAtOk s) && inB s.size 1 6)) ∧ fs = []) := by
    refine nat_walk (s.size) (fun i => ((List.range' i (s.size - i)).all (nameAtOk s) && inB s.size 1 6) = (allN s.size (nameAtOk s) && inB s.size 1 6) → LoopG C spec_NameOk pRLRB 4 0 (s_spec_NameOk_0 s i) (fun u st => AftF C spec_NameOk pRLRB u st fun r fs => r = vB ((allN s.size (nameAtOk s) && inB s.size 1 6)) ∧ fs = [])) ?_ ?_
    · intro h0
      refine r_spec_NameOk_0 _ _ _ (brB_no (by simp) (a_spec_NameOk_2 _ _ _ _ ?_))
      rw [Nat.sub_self] at h0
      simp only [List.range'_zero, List.all_nil, Bool.true_and] at h0
      rw [← h0]
      simp only [c_l1In, exists_eq_left, strLen, Int.ofNat_eq_natCast]
      simp
    · intro i hi hn h0
      rw [range_step hi, List.all_cons] at h0
      have gO : (nameAtOk s) i = false → (allN s.size (nameAtOk s) && inB s.size 1 6) = false := fun e => by rw [← h0, e]; rfl
      have gN : (nameAtOk s) i = true → LoopG C spec_NameOk pRLRB 4 0 (s_spec_NameOk_0 s ((i : Int) + 1)) (fun u st => AftF C spec_NameOk pRLRB u st fun r fs => r = vB ((allN s.size (nameAtOk s) && inB s.size 1 6)) ∧ fs = []) := fun e => hn (by rw [← h0, e]; rfl)
      refine r_spec_NameOk_0 _ _ _ (brB_yes (by simp; omega) ?_)
      obtain ⟨n, hb, hn0, hn1⟩ := byteAt_ok hi
      have hw : wrapI .i64 n = n := wrapI_eq (by omega)
      simp only [hb, Option.some.injEq, exists_eq_left', c_l1In, exists_eq_left, hw, brB_not]
      rw [addW_eq (by omega)]
      have e : nameAtOk s i = (inB n 97 122 || inB n 48 57) := by unfold nameAtOk; rw [hb]; rfl
      rw [e] at gO gN
      cases h1 : inB n 97 122 <;> cases h2 : inB n 48 57 <;> simp only [brB_t, brB_f] <;> first | exact gN (by rw [h1, h2]; rfl) | exact a_spec_NameOk_1 _ (by rw [gO (by rw [h1, h2]; rfl)]; exact ⟨rfl, by first | rfl | trivial⟩)
  exact key rfl
theorem c_spec_NameOk (s : ByteArray) (hl : s.size ≤ 140737488355328) (q : Bool) : RunF C spec_NameOk [vS s] (vB q) [] ↔ q = nameOk s := iffB (run_spec_NameOk s hl)
theorem kids0 (l : List Age) : ∀ (id : Int), id = 0 → kidsOf l id = [] := fun id h => if_pos h
theorem run_spec_KidsOf (l : List Age) (id : Int) (hl : l.length ≤ 1073741824) : RunF C spec_KidsOf [vAges l, vI id] (vInts (kidsOf l id)) [] := by
  refine (f_spec_KidsOf _ _ _ ?_).run
  have key : ∀ (acc : List Int), acc.length + (l.drop 0).length ≤ l.length → acc ++ kidsOf (l.drop 0) id = kidsOf l id → LoopG C spec_KidsOf pRRLRB 4 0 (s_spec_KidsOf_0 (l.map ageC) id ((0 : Nat) : Int) (acc.map intC)) (fun u st => AftF C spec_KidsOf pRRLRB u st fun r fs => r = (vInts (kidsOf l id)) ∧ fs = []) := by
    refine idx_walk l (fun i => ∀ (acc : List Int), acc.length + (l.drop i).length ≤ l.length → acc ++ kidsOf (l.drop i) id = kidsOf l id → LoopG C spec_KidsOf pRRLRB 4 0 (s_spec_KidsOf_0 (l.map ageC) id i (acc.map intC)) (fun u st => AftF C spec_KidsOf pRRLRB u st fun r fs => r = (vInts (kidsOf l id)) ∧ fs = [])) ?_ ?_
    · intro acc h0 h1
      refine r_spec_KidsOf_0 _ _ _ _ _ (brB_no (by simp) (a_spec_KidsOf_1 _ _ _ _ _ _ ?_))
      rw [List.drop_length] at h1
      simp [kidsOf] at h1
      simp [kidsOf, h1]
    · intro i a hi ha hd ht hn acc h0 h1
      refine r_spec_KidsOf_0 _ _ _ _ _ (brB_yes (by simp; omega) ?_)
      rw [hd] at h0 h1
      simp only [List.length_cons] at h0
      simp only [ex_age, app_int, allSc1, eqI_eq, brB_dec, getZ_nat, ha, Option.some.injEq, exists_eq_left', exists_eq_left, brB_not, brB_and, brB_or, key_eta, age_eta, cell_eta, vol_eta, map_eta, op_eta, succ_len, natAdd, List.length_map, List.length_append, List.length_singleton, Bool.true_and, Bool.and_true]
      simp (disch := omega) only [fitsT, addW_eq, brB_t]
      by_cases hz : id = 0
      · rw [kids0 _ _ hz] at h1
        have e : ∀ (A B : Prop), (if a.fr = id then (if id = 0 then A else B) else A) = if a.fr = id then A else A := fun A B => by rw [if_pos hz]
        rw [e, ite_self]
        exact hn _ (by omega) (by rw [kids0 _ _ hz, ← h1])
      by_cases hk : a.fr = id
      · rw [if_pos hk, if_neg hz]
        exact hn (acc ++ [a.id]) (by simp only [List.length_append, List.length_singleton]; omega) (by rw [← h1]; simp [kidsOf, hk, hz])
      · rw [if_neg hk]
        exact hn _ (by omega) (by rw [← h1]; simp [kidsOf, hk, hz])
  exact key [] (by simp) rfl
theorem run_spec_l4Rises (l : List Key) (hl : l.length ≤ 1073741824) : RunF C spec_l4Rises [vKeys l] (vB (allN l.length (pairL l lessKey))) [] := by
  refine (f_spec_l4Rises _ _ ?_).run
  have key : ∀ (k i : Nat), i + k = l.length → 1 ≤ i → (List.range' i k).all (pairL l lessKey) = allN l.length (pairL l lessKey) → LoopG C spec_l4Rises pRLRB 4 0 (s_spec_l4Rises_0 (l.map keyC) i) (fun u st => AftF C spec_l4Rises pRLRB u st fun r fs => r = vB (allN l.length (pairL l lessKey)) ∧ fs = []) := by
    intro k
    induction k with
    | zero =>
      intro i h h1 h0
      refine r_spec_l4Rises_0 _ _ _ (brB_no (by simp; omega) (a_spec_l4Rises_2 _ _ _ _ ?_))
      simp only [List.range'_zero, List.all_nil] at h0
      rw [← h0]; exact ⟨rfl, by first | rfl | trivial⟩
    | succ k ih =>
      intro i h h1 h0
      obtain ⟨j, rfl⟩ : ∃ j, i = j + 1 := ⟨i - 1, by omega⟩
      have hj : l[j]? = some l[j] := List.getElem?_eq_getElem (by omega)
      have hj1 : l[j + 1]? = some l[j + 1] := List.getElem?_eq_getElem (by omega)
      have e : pairL l lessKey (j + 1) = lessKey l[j] l[j + 1] := by simp only [pairL, hj, hj1]
      rw [List.range'_succ, List.all_cons, e] at h0
      refine r_spec_l4Rises_0 _ _ _ (brB_yes (by simp; omega) ?_)
      rw [subW_eq (by omega), show ((j + 1 : Nat) : Int) - 1 = (j : Int) by omega]
      simp only [ex_key, getZ_nat, hj, hj1, Option.some.injEq, exists_eq_left', c_spec_LessKey, exists_eq_left, key_eta, brB_not]
      rw [addW_eq (by omega)]
      cases hb : lessKey l[j] l[j + 1] with
      | true =>
        rw [hb, Bool.true_and] at h0
        exact brB_yes rfl (ih (j + 1 + 1) (by omega) (by omega) h0)
      | false =>
        rw [hb, Bool.false_and] at h0
        refine brB_no rfl (a_spec_l4Rises_1 _ ?_)
        rw [← h0]; exact ⟨rfl, by first | rfl | trivial⟩
  cases hz : l.length with
  | zero =>
    have : l = [] := List.eq_nil_of_length_eq_zero hz
    subst this
    exact r_spec_l4Rises_0 _ _ _ (brB_no (by simp) (a_spec_l4Rises_2 _ _ _ _ ⟨rfl, by first | rfl | trivial⟩))
  | succ n =>
    rw [hz] at key
    exact key n 1 (by omega) (by omega) (by unfold allN; rw [List.range'_succ, List.all_cons]; rfl)
theorem run_spec_SetOk (l : List Key) (hl : l.length ≤ 1073741824) : RunF C spec_SetOk [vKeys l] (vB ((l.all keyOk && (allN l.length (pairL l lessKey) && decide (l.length ≤ 60))))) [] := by
  refine (f_spec_SetOk _ _ ?_).run
  have key : ((l.drop 0).all keyOk && (allN l.length (pairL l lessKey) && decide (l.length ≤ 60))) = (l.all keyOk && (allN l.length (pairL l lessKey) && decide (l.length ≤ 60))) → LoopG C spec_SetOk pRLRB 4 0 (s_spec_SetOk_0 (l.map keyC) ((0 : Nat) : Int)) (fun u st => AftF C spec_SetOk pRLRB u st fun r fs => r = vB ((l.all keyOk && (allN l.length (pairL l lessKey) && decide (l.length ≤ 60)))) ∧ fs = []) := by
    refine idx_walk l (fun i => ((l.drop i).all keyOk && (allN l.length (pairL l lessKey) && decide (l.length ≤ 60))) = (l.all keyOk && (allN l.length (pairL l lessKey) && decide (l.length ≤ 60))) → LoopG C spec_SetOk pRLRB 4 0 (s_spec_SetOk_0 (l.map keyC) i) (fun u st => AftF C spec_SetOk pRLRB u st fun r fs => r = vB ((l.all keyOk && (allN l.length (pairL l lessKey) && decide (l.length ≤ 60)))) ∧ fs = [])) ?_ ?_
    · intro h0
      refine r_spec_SetOk_0 _ _ _ (brB_no (by simp) (a_spec_SetOk_2 _ _ _ _ ?_))
      rw [List.drop_length] at h0
      simp only [List.all_nil, Bool.true_and] at h0
      rw [← h0]
      refine ⟨_, run_spec_l4Rises l hl, ?_⟩
      simp only [leI_eq, List.length_map, Int.ofNat_eq_natCast]
      cases allN l.length (pairL l lessKey) <;> simp
      omega
    · intro i a hi ha hd htk hn h0
      have gO : keyOk a = false → (l.all keyOk && (allN l.length (pairL l lessKey) && decide (l.length ≤ 60))) = false := fun e => by rw [← h0, hd]; simp [e]
      have gN : keyOk a = true → LoopG C spec_SetOk pRLRB 4 0 (s_spec_SetOk_0 (l.map keyC) ((i : Int) + 1)) (fun u st => AftF C spec_SetOk pRLRB u st fun r fs => r = vB ((l.all keyOk && (allN l.length (pairL l lessKey) && decide (l.length ≤ 60)))) ∧ fs = []) := fun e => hn (by rw [← h0, hd]; simp [e])
      refine r_spec_SetOk_0 _ _ _ (brB_yes (by simp; omega) ?_)
      simp only [ex_key, c_spec_KeyOk, getZ_nat, ha, Option.some.injEq, exists_eq_left', exists_eq_left, brB_not, brB_and, brB_or, key_eta, age_eta, cell_eta, vol_eta, map_eta, op_eta, succ_len, natAdd, List.length_map, List.length_append, List.length_singleton, Bool.true_and, Bool.and_true]
      rw [addW_eq (by omega)]
      cases h1 : keyOk a <;> simp only [brB_t, brB_f] <;> first | exact gN (by assumption) | exact a_spec_SetOk_1 _ (by rw [gO (by assumption)]; exact ⟨rfl, by first | rfl | trivial⟩)
  exact key rfl
theorem run_spec_SetOk' (l : List Key) (hl : l.length ≤ 1073741824) : RunF C spec_SetOk [vKeys l] (vB (setOk l)) [] := by
  have := run_spec_SetOk l hl
  rw [setOk_eq]
  exact this
theorem c_spec_SetOk (l : List Key) (hl : l.length ≤ 1073741824) (q : Bool) : RunF C spec_SetOk [vKeys l] (vB q) [] ↔ q = setOk l := iffB (run_spec_SetOk' l hl)
theorem run_impl_NameOk (s : ByteArray) (hl : s.size ≤ 140737488355328) : RunF C impl_NameOk [vS s] (vB ((allN s.size (nameAtOk s) && inB s.size 1 6))) [] := by
  refine (f_impl_NameOk _ _ ?_).run
  have key : ((List.range' 0 (s.size - 0)).all (nameAtOk s) && inB s.size 1 6) = (allN s.size (nameAtOk s) && inB s.size 1 6) → LoopG C impl_NameOk pRLRB 4 0 (s_impl_NameOk_0 s ((0 : Nat) : Int)) (fun u st => AftF C impl_NameOk pRLRB u st fun r fs => r = vB ((allN s.size (nameAtOk s) && inB s.size 1 6)) ∧ fs = []) := by
    refine nat_walk (s.size) (fun i => ((List.range' i (s.size - i)).all (nameAtOk s) && inB s.size 1 6) = (allN s.size (nameAtOk s) && inB s.size 1 6) → LoopG C impl_NameOk pRLRB 4 0 (s_impl_NameOk_0 s i) (fun u st => AftF C impl_NameOk pRLRB u st fun r fs => r = vB ((allN s.size (nameAtOk s) && inB s.size 1 6)) ∧ fs = [])) ?_ ?_
    · intro h0
      refine r_impl_NameOk_0 _ _ _ (brB_no (by simp) (a_impl_NameOk_2 _ _ _ _ ?_))
      rw [Nat.sub_self] at h0
      simp only [List.range'_zero, List.all_nil, Bool.true_and] at h0
      rw [← h0]
      simp only [c_within, exists_eq_left, strLen, Int.ofNat_eq_natCast]
      simp
    · intro i hi hn h0
      rw [range_step hi, List.all_cons] at h0
      have gO : (nameAtOk s) i = false → (allN s.size (nameAtOk s) && inB s.size 1 6) = false := fun e => by rw [← h0, e]; rfl
      have gN : (nameAtOk s) i = true → LoopG C impl_NameOk pRLRB 4 0 (s_impl_NameOk_0 s ((i : Int) + 1)) (fun u st => AftF C impl_NameOk pRLRB u st fun r fs => r = vB ((allN s.size (nameAtOk s) && inB s.size 1 6)) ∧ fs = []) := fun e => hn (by rw [← h0, e]; rfl)
      refine r_impl_NameOk_0 _ _ _ (brB_yes (by simp; omega) ?_)
      obtain ⟨n, hb, hn0, hn1⟩ := byteAt_ok hi
      have hw : wrapI .i64 n = n := wrapI_eq (by omega)
      simp only [hb, Option.some.injEq, exists_eq_left', c_within, exists_eq_left, hw, brB_not]
      rw [addW_eq (by omega)]
      have e : nameAtOk s i = (inB n 97 122 || inB n 48 57) := by unfold nameAtOk; rw [hb]; rfl
      rw [e] at gO gN
      cases h1 : inB n 97 122 <;> cases h2 : inB n 48 57 <;> simp only [brB_t, brB_f] <;> first | exact gN (by rw [h1, h2]; rfl) | exact a_impl_NameOk_1 _ (by rw [gO (by rw [h1, h2]; rfl)]; exact ⟨rfl, by first | rfl | trivial⟩)
  exact key rfl
theorem c_impl_NameOk (s : ByteArray) (hl : s.size ≤ 140737488355328) (q : Bool) : RunF C impl_NameOk [vS s] (vB q) [] ↔ q = nameOk s := iffB (run_impl_NameOk s hl)
theorem run_impl_KidsOf (l : List Age) (id : Int) (hl : l.length ≤ 1073741824) : RunF C impl_KidsOf [vAges l, vI id] (vInts (kidsOf l id)) [] := by
  refine (f_impl_KidsOf _ _ _ ?_).run
  unfold kidsOf
  by_cases hz : id = 0
  · refine brB_yes (by simp [hz]) ?_
    rw [if_pos hz]
    exact ⟨rfl, by first | rfl | trivial⟩
  refine brB_no (by simp [hz]) ?_
  rw [if_neg hz]
  have key : ∀ (acc : List Int), acc.length + (l.drop 0).length ≤ l.length → acc ++ ((l.drop 0).filter fun a => decide (a.fr = id)).map (·.id) = (l.filter fun a => decide (a.fr = id)).map (·.id) → LoopG C impl_KidsOf pRRRLRB 4 0 (s_impl_KidsOf_0 id (l.map ageC) ((0 : Nat) : Int) (acc.map intC)) (fun u st => AftF C impl_KidsOf pRRRLRB u st fun r fs => r = vInts ((l.filter fun a => decide (a.fr = id)).map (·.id)) ∧ fs = []) := by
    refine idx_walk l (fun i => ∀ (acc : List Int), acc.length + (l.drop i).length ≤ l.length → acc ++ ((l.drop i).filter fun a => decide (a.fr = id)).map (·.id) = (l.filter fun a => decide (a.fr = id)).map (·.id) → LoopG C impl_KidsOf pRRRLRB 4 0 (s_impl_KidsOf_0 id (l.map ageC) i (acc.map intC)) (fun u st => AftF C impl_KidsOf pRRRLRB u st fun r fs => r = vInts ((l.filter fun a => decide (a.fr = id)).map (·.id)) ∧ fs = [])) ?_ ?_
    · intro acc h0 h1
      refine r_impl_KidsOf_0 _ _ _ _ _ (brB_no (by simp) (a_impl_KidsOf_1 _ _ _ _ _ _ _ ?_))
      rw [List.drop_length] at h1
      simp only [List.filter_nil, List.map_nil, List.append_nil] at h1
      rw [h1]
      exact ⟨rfl, by first | rfl | trivial⟩
    · intro i a hi ha hd ht hn acc h0 h1
      refine r_impl_KidsOf_0 _ _ _ _ _ (brB_yes (by simp; omega) ?_)
      rw [hd] at h0 h1
      simp only [List.length_cons] at h0
      simp only [ex_age, app_int, allSc1, eqI_eq, brB_dec, getZ_nat, ha, Option.some.injEq, exists_eq_left', exists_eq_left, brB_not, brB_and, brB_or, key_eta, age_eta, cell_eta, vol_eta, map_eta, op_eta, succ_len, natAdd, List.length_map, List.length_append, List.length_singleton, Bool.true_and, Bool.and_true]
      simp (disch := omega) only [fitsT, addW_eq, brB_t]
      by_cases hk : a.fr = id
      · rw [if_pos hk]
        exact hn (acc ++ [a.id]) (by simp only [List.length_append, List.length_singleton]; omega) (by rw [← h1]; simp [hk])
      · rw [if_neg hk]
        exact hn _ (by omega) (by rw [← h1]; simp [hk])
  exact key [] (by simp) rfl
theorem run_impl_SetOk' (l : List Key) (hl : l.length ≤ 1073741824) : RunF C impl_SetOk [vKeys l] (vB ((allN l.length (setOkAt l) && decide (l.length ≤ 60)))) [] := by
  refine (f_impl_SetOk _ _ ?_).run
  have key : ((List.range' 0 (l.length - 0)).all (setOkAt l) && decide (l.length ≤ 60)) = (allN l.length (setOkAt l) && decide (l.length ≤ 60)) → LoopG C impl_SetOk pRLRB 4 0 (s_impl_SetOk_0 (l.map keyC) ((0 : Nat) : Int)) (fun u st => AftF C impl_SetOk pRLRB u st fun r fs => r = vB ((allN l.length (setOkAt l) && decide (l.length ≤ 60))) ∧ fs = []) := by
    refine nat_walk (l.length) (fun i => ((List.range' i (l.length - i)).all (setOkAt l) && decide (l.length ≤ 60)) = (allN l.length (setOkAt l) && decide (l.length ≤ 60)) → LoopG C impl_SetOk pRLRB 4 0 (s_impl_SetOk_0 (l.map keyC) i) (fun u st => AftF C impl_SetOk pRLRB u st fun r fs => r = vB ((allN l.length (setOkAt l) && decide (l.length ≤ 60))) ∧ fs = [])) ?_ ?_
    · intro h0
      refine r_impl_SetOk_0 _ _ _ (brB_no (by simp) (a_impl_SetOk_2 _ _ _ _ _ ?_))
      rw [Nat.sub_self] at h0
      simp only [List.range'_zero, List.all_nil, Bool.true_and] at h0
      rw [← h0]
      simp [leI_eq]
      omega
    · intro i hi hn h0
      rw [range_step hi, List.all_cons] at h0
      have gO : (setOkAt l) i = false → (allN l.length (setOkAt l) && decide (l.length ≤ 60)) = false := fun e => by rw [← h0, e]; rfl
      have gN : (setOkAt l) i = true → LoopG C impl_SetOk pRLRB 4 0 (s_impl_SetOk_0 (l.map keyC) ((i : Int) + 1)) (fun u st => AftF C impl_SetOk pRLRB u st fun r fs => r = vB ((allN l.length (setOkAt l) && decide (l.length ≤ 60))) ∧ fs = []) := fun e => hn (by rw [← h0, e]; rfl)
      refine r_impl_SetOk_0 _ _ _ (brB_yes (by simp; omega) ?_)
      have ha : l[i]? = some l[i] := List.getElem?_eq_getElem hi
      simp only [ex_key, c_impl_KeyOk, c_impl_LessKey, getZ_nat, ha, Option.some.injEq, exists_eq_left', exists_eq_left, brB_not, brB_and, brB_or, key_eta, age_eta, cell_eta, vol_eta, map_eta, op_eta, succ_len, natAdd, List.length_map, List.length_append, List.length_singleton, Bool.true_and, Bool.and_true]
      rw [addW_eq (by omega)]
      cases i with
      | zero =>
        have e : setOkAt l 0 = keyOk l[0] := by simp [setOkAt, atL, pairL, hi]
        simp only [e] at gO gN
        cases h1 : keyOk l[0] <;> simp only [h1, brB_t, brB_f, ltI_eq, brB_dec, Int.natCast_zero, Int.lt_irrefl, if_false] <;> first | exact gN h1 | exact a_impl_SetOk_1 _ _ _ _ _ _ (by rw [gO h1]; exact ⟨rfl, by first | rfl | trivial⟩)
      | succ k =>
        have hk : l[k]? = some l[k] := List.getElem?_eq_getElem (by omega)
        have e : setOkAt l (k + 1) = (keyOk l[k + 1] && lessKey l[k] l[k + 1]) := by simp only [setOkAt, atL, pairL, hk, ha]
        simp only [e] at gO gN
        rw [subW_eq (by omega), show ((k + 1 : Nat) : Int) - 1 = (k : Int) by omega]
        simp only [getZ_nat, hk, Option.some.injEq, exists_eq_left', key_eta, ltI_eq, brB_dec]
        rw [if_pos (by omega)]
        cases h1 : keyOk l[k + 1] <;> cases h2 : lessKey l[k] l[k + 1] <;> simp only [brB_t, brB_f] <;> first | exact gN (by rw [h1, h2]; rfl) | exact a_impl_SetOk_1 _ _ _ _ _ _ (by rw [gO (by rw [h1, h2]; rfl)]; exact ⟨rfl, by first | rfl | trivial⟩)
  exact key rfl
theorem c_impl_SetOk (l : List Key) (hl : l.length ≤ 1073741824) (q : Bool) : RunF C impl_SetOk [vKeys l] (vB q) [] ↔ q = setOk l := iffB (run_impl_SetOk' l hl)
theorem run_spec_VolAt (p : Pool) (s : ByteArray) (hl : p.vols.length ≤ 1073741824) : RunF C spec_VolAt [vPool p, vS s] (vI (volAt p.vols s)) [] := by
  refine (f_spec_VolAt _ _ _ _ _ _ _ _ ?_).run
  have key : idxF (fun v : Vol => decide (v.name = s)) (p.vols.drop 0) ((0 : Nat) : Int) = idxF (fun v : Vol => decide (v.name = s)) p.vols 0 → LoopG C spec_VolAt pRLRB 4 0 (s_spec_VolAt_0 s ((0 : Nat) : Int) (p.t.lows.map intC) (p.t.nodes.map nodeC) (p.ages.map ageC) (p.cells.map cellC) (p.vols.map volC) p.next) (fun u st => AftF C spec_VolAt pRLRB u st fun r fs => r = vI (volAt p.vols s) ∧ fs = []) := by
    refine idx_walk p.vols (fun i => idxF (fun v : Vol => decide (v.name = s)) (p.vols.drop i) (i : Int) = idxF (fun v : Vol => decide (v.name = s)) p.vols 0 → LoopG C spec_VolAt pRLRB 4 0 (s_spec_VolAt_0 s i (p.t.lows.map intC) (p.t.nodes.map nodeC) (p.ages.map ageC) (p.cells.map cellC) (p.vols.map volC) p.next) _) ?_ ?_
    · intro h0
      refine r_spec_VolAt_0 _ _ _ _ _ _ _ _ _ (brB_no (by simp) (a_spec_VolAt_2 _ _ _ _ _ _ _ _ _ _ ?_))
      rw [List.drop_length] at h0
      simp only [idxF] at h0
      change _ = vI (idxF (fun v : Vol => decide (v.name = s)) p.vols 0) ∧ _
      rw [← h0]
      exact ⟨rfl, by first | rfl | trivial⟩
    · intro i a hi ha hd htk hn h0
      refine r_spec_VolAt_0 _ _ _ _ _ _ _ _ _ (brB_yes (by simp; omega) ?_)
      rw [hd] at h0
      simp only [idxF] at h0
      simp only [ex_vol, eqS_eq, brB_dec, getZ_nat, ha, Option.some.injEq, exists_eq_left', exists_eq_left, brB_not, brB_and, brB_or, key_eta, age_eta, cell_eta, vol_eta, map_eta, op_eta, succ_len, natAdd, List.length_map, List.length_append, List.length_singleton, Bool.true_and, Bool.and_true]
      rw [addW_eq (by omega)]
      split at h0
      · rename_i hp
        have hp := of_decide_eq_true hp
        first | rw [if_pos hp] | rw [if_pos hp.symm]
        refine a_spec_VolAt_1 _ _ _ _ _ _ _ _ ?_
        rw [h0]
        exact ⟨rfl, by first | rfl | trivial⟩
      · rename_i hp
        have hp : ¬ _ := fun h => hp (decide_eq_true h)
        first | rw [if_neg hp] | rw [if_neg (fun h => hp h.symm)]
        exact hn h0
  exact key rfl
@[simp] theorem c_impl_VolAt_1 (n : ByteArray) (a z : Int) (f : Bool) (s : ByteArray) (q : Bool) : RunF C impl_VolAt_1 [.ag [iS n, iI a, iI z, iB f], .bx [iS s]] (vB q) [] ↔ q = decide (n = s) := iffB (by
  refine (f_impl_VolAt_1 _ _ _ _ _ _ ?_).run
  simp)
theorem run_idx_VolAt (l : List Vol) (s : ByteArray) (hl : l.length ≤ 1073741824) : RunF C slices_IndexFunc_Vol [vVols l, .fn impl_VolAt_1 [[iS s]]] (vI (volAt l s)) [] := by
  refine (f_slices_IndexFunc_Vol_impl_VolAt_1 _ _ _ ?_).run
  have key : idxF (fun v : Vol => decide (v.name = s)) (l.drop 0) ((0 : Nat) : Int) = idxF (fun v : Vol => decide (v.name = s)) l 0 → LoopG C slices_IndexFunc_Vol pRLRB 4 0 (s_slices_IndexFunc_Vol_impl_VolAt_1_0 (l.map volC) ((0 : Nat) : Int) s) (fun u st => AftF C slices_IndexFunc_Vol pRLRB u st fun r fs => r = vI (volAt l s) ∧ fs = []) := by
    refine idx_walk l (fun i => idxF (fun v : Vol => decide (v.name = s)) (l.drop i) (i : Int) = idxF (fun v : Vol => decide (v.name = s)) l 0 → LoopG C slices_IndexFunc_Vol pRLRB 4 0 (s_slices_IndexFunc_Vol_impl_VolAt_1_0 (l.map volC) i s) _) ?_ ?_
    · intro h0
      refine r_slices_IndexFunc_Vol_impl_VolAt_1_0 _ _ _ _ (brB_no (by simp) (a_slices_IndexFunc_Vol_impl_VolAt_1_2 _ _ _ _ _ _ ?_))
      rw [List.drop_length] at h0
      simp only [idxF] at h0
      change _ = vI (idxF (fun v : Vol => decide (v.name = s)) l 0) ∧ _
      rw [← h0]
      exact ⟨rfl, by first | rfl | trivial⟩
    · intro i a hi ha hd htk hn h0
      refine r_slices_IndexFunc_Vol_impl_VolAt_1_0 _ _ _ _ (brB_yes (by simp; omega) ?_)
      rw [hd] at h0
      simp only [idxF] at h0
      simp only [ex_vol, eqI_eq, c_impl_VolAt_1, brB_dec, getZ_nat, ha, Option.some.injEq, exists_eq_left', exists_eq_left, brB_not, brB_and, brB_or, key_eta, age_eta, cell_eta, vol_eta, map_eta, op_eta, succ_len, natAdd, List.length_map, List.length_append, List.length_singleton, Bool.true_and, Bool.and_true]
      rw [addW_eq (by omega)]
      split at h0
      · rename_i hp
        have hp := of_decide_eq_true hp
        first | rw [if_pos hp] | rw [if_pos hp.symm]
        refine a_slices_IndexFunc_Vol_impl_VolAt_1_1 _ _ _ ?_
        rw [h0]
        exact ⟨rfl, by first | rfl | trivial⟩
      · rename_i hp
        have hp : ¬ _ := fun h => hp (decide_eq_true h)
        first | rw [if_neg hp] | rw [if_neg (fun h => hp h.symm)]
        exact hn h0
  exact key rfl
theorem run_impl_VolAt (p : Pool) (s : ByteArray) (hl : p.vols.length ≤ 1073741824) : RunF C impl_VolAt [vPool p, vS s] (vI (volAt p.vols s)) [] := (f_impl_VolAt _ _ _ _ _ _ _ _ ⟨_, run_idx_VolAt p.vols s hl, rfl, by first | rfl | trivial⟩).run
@[simp] theorem c_impl_volsOk_1 (n : ByteArray) (a z : Int) (f : Bool) (s : ByteArray) (a' z' : Int) (f' : Bool) (q : Bool) : RunF C impl_volsOk_1 [.ag [iS n, iI a, iI z, iB f], .bx [iS s, iI a', iI z', iB f']] (vB q) [] ↔ q = decide (a = a') := iffB (by
  refine (f_impl_volsOk_1 _ _ _ _ _ _ _ _ _ ?_).run
  simp)
theorem run_idx_impl_volsOk_1 (l : List Vol) (s : ByteArray) (a' z' : Int) (f' : Bool) (hl : l.length ≤ 1073741824) : RunF C slices_IndexFunc_Vol [vVols l, .fn impl_volsOk_1 [[iS s, iI a', iI z', iB f']]] (vI (idxF (fun v : Vol => decide (v.age = a')) l 0)) [] := by
  refine (f_slices_IndexFunc_Vol_impl_volsOk_1 _ _ _ _ _ _ ?_).run
  have key : idxF (fun v : Vol => decide (v.age = a')) (l.drop 0) ((0 : Nat) : Int) = idxF (fun v : Vol => decide (v.age = a')) l 0 → LoopG C slices_IndexFunc_Vol pRLRB 4 0 (s_slices_IndexFunc_Vol_impl_volsOk_1_0 (l.map volC) ((0 : Nat) : Int) s a' z' f') (fun u st => AftF C slices_IndexFunc_Vol pRLRB u st fun r fs => r = vI (idxF (fun v : Vol => decide (v.age = a')) l 0) ∧ fs = []) := by
    refine idx_walk l (fun i => idxF (fun v : Vol => decide (v.age = a')) (l.drop i) (i : Int) = idxF (fun v : Vol => decide (v.age = a')) l 0 → LoopG C slices_IndexFunc_Vol pRLRB 4 0 (s_slices_IndexFunc_Vol_impl_volsOk_1_0 (l.map volC) i s a' z' f') _) ?_ ?_
    · intro h0
      refine r_slices_IndexFunc_Vol_impl_volsOk_1_0 _ _ _ _ _ _ _ (brB_no (by simp) (a_slices_IndexFunc_Vol_impl_volsOk_1_2 _ _ _ _ _ _ _ _ _ ?_))
      rw [List.drop_length] at h0
      simp only [idxF] at h0
      change _ = vI (idxF (fun v : Vol => decide (v.age = a')) l 0) ∧ _
      rw [← h0]
      exact ⟨rfl, by first | rfl | trivial⟩
    · intro i a hi ha hd htk hn h0
      refine r_slices_IndexFunc_Vol_impl_volsOk_1_0 _ _ _ _ _ _ _ (brB_yes (by simp; omega) ?_)
      rw [hd] at h0
      simp only [idxF] at h0
      simp only [ex_vol, eqI_eq, c_impl_volsOk_1, brB_dec, getZ_nat, ha, Option.some.injEq, exists_eq_left', exists_eq_left, brB_not, brB_and, brB_or, key_eta, age_eta, cell_eta, vol_eta, map_eta, op_eta, succ_len, natAdd, List.length_map, List.length_append, List.length_singleton, Bool.true_and, Bool.and_true]
      rw [addW_eq (by omega)]
      split at h0
      · rename_i hp
        have hp := of_decide_eq_true hp
        first | rw [if_pos hp] | rw [if_pos hp.symm]
        refine a_slices_IndexFunc_Vol_impl_volsOk_1_1 _ _ _ _ _ _ ?_
        rw [h0]
        exact ⟨rfl, by first | rfl | trivial⟩
      · rename_i hp
        have hp : ¬ _ := fun h => hp (decide_eq_true h)
        first | rw [if_neg hp] | rw [if_neg (fun h => hp h.symm)]
        exact hn h0
  exact key rfl
theorem run_has_impl_volsOk_1 (l : List Vol) (s : ByteArray) (a' z' : Int) (f' : Bool) (hl : l.length ≤ 1073741824) : RunF C slices_ContainsFunc_Vol [vVols l, .fn impl_volsOk_1 [[iS s, iI a', iI z', iB f']]] (vB (l.any (fun v : Vol => decide (v.age = a')))) [] := by
  refine (f_slices_ContainsFunc_Vol_impl_volsOk_1 _ _ _ _ _ _ ⟨_, run_idx_impl_volsOk_1 l s a' z' f' hl, ?_⟩).run
  rw [leI_eq, idxF_any _ _ _ (by omega)]
  exact ⟨rfl, by first | rfl | trivial⟩
theorem run_spec_l5Count (n : List (List Key)) (hb : n.length ≤ 1073741824) (hl : tot szSet n ≤ 1073741824) : RunF C spec_l5Count [vNode n] (vI (nodeCount n)) [] := by
  refine (f_spec_l5Count _ _ ?_).run
  have key : ∀ (c : Nat), c + tot szSet (n.drop 0) = nodeCount n → LoopG C spec_l5Count pRRLRB 4 0 (s_spec_l5Count_0 c ((0 : Nat) : Int) (n.map setC)) (fun u st => AftF C spec_l5Count pRRLRB u st fun r fs => r = (vI (nodeCount n)) ∧ fs = []) := by
    refine idx_walk n (fun i => ∀ (c : Nat), c + tot szSet (n.drop i) = nodeCount n → LoopG C spec_l5Count pRRLRB 4 0 (s_spec_l5Count_0 c i (n.map setC)) (fun u st => AftF C spec_l5Count pRRLRB u st fun r fs => r = (vI (nodeCount n)) ∧ fs = [])) ?_ ?_
    · intro c h0
      refine r_spec_l5Count_0 _ _ _ _ (brB_no (by simp) (a_spec_l5Count_1 _ _ _ _ _ ?_))
      rw [List.drop_length] at h0
      simp only [tot, Nat.add_zero] at h0
      rw [h0]
      exact ⟨rfl, by first | rfl | trivial⟩
    · intro i a hi ha hd ht hn c h0
      refine r_spec_l5Count_0 _ _ _ _ (brB_yes (by simp; omega) ?_)
      rw [hd] at h0
      have e5 : tot szSet (a :: n.drop (i + 1)) = a.length + tot szSet (n.drop (i + 1)) := rfl
      rw [e5] at h0
      unfold nodeCount at h0
      simp only [ex_set, getZ_nat, ha, Option.some.injEq, exists_eq_left', exists_eq_left, brB_not, brB_and, brB_or, key_eta, age_eta, cell_eta, vol_eta, map_eta, op_eta, succ_len, natAdd, List.length_map, List.length_append, List.length_singleton, Bool.true_and, Bool.and_true]
      rw [addW_eq (by simp only [Int.ofNat_eq_natCast]; omega), addW_eq (by omega)]
      exact hn (c + a.length) (by unfold nodeCount; omega)
  exact key 0 (by simp [nodeCount])
theorem run_spec_NodeOk0 (n : List (List Key)) (hs : tot szSet n ≤ 1073741824) (hl : n.length ≤ 1073741824) : RunF C spec_NodeOk [vNode n] (vB ((n.all nodeSetOk && (decide (n.length ≤ 3) && decide (nodeCount n ≤ 8))))) [] := by
  refine (f_spec_NodeOk _ _ ?_).run
  have key : ((n.drop 0).all nodeSetOk && (decide (n.length ≤ 3) && decide (nodeCount n ≤ 8))) = (n.all nodeSetOk && (decide (n.length ≤ 3) && decide (nodeCount n ≤ 8))) → LoopG C spec_NodeOk pRLRB 4 0 (s_spec_NodeOk_0 ((0 : Nat) : Int) (n.map setC)) (fun u st => AftF C spec_NodeOk pRLRB u st fun r fs => r = vB ((n.all nodeSetOk && (decide (n.length ≤ 3) && decide (nodeCount n ≤ 8)))) ∧ fs = []) := by
    refine idx_walk n (fun i => ((n.drop i).all nodeSetOk && (decide (n.length ≤ 3) && decide (nodeCount n ≤ 8))) = (n.all nodeSetOk && (decide (n.length ≤ 3) && decide (nodeCount n ≤ 8))) → LoopG C spec_NodeOk pRLRB 4 0 (s_spec_NodeOk_0 i (n.map setC)) (fun u st => AftF C spec_NodeOk pRLRB u st fun r fs => r = vB ((n.all nodeSetOk && (decide (n.length ≤ 3) && decide (nodeCount n ≤ 8)))) ∧ fs = [])) ?_ ?_
    · intro h0
      refine r_spec_NodeOk_0 _ _ _ (brB_no (by simp) (a_spec_NodeOk_2 _ _ _ _ ?_))
      rw [List.drop_length] at h0
      simp only [List.all_nil, Bool.true_and] at h0
      rw [← h0]
      simp only [leI_eq, List.length_map, Int.ofNat_eq_natCast, brB_dec]
      by_cases h3 : n.length ≤ 3
      · rw [if_pos (by omega)]
        refine ⟨_, run_spec_l5Count n hl hs, ?_⟩
        simp [h3]
        omega
      · rw [if_neg (by omega)]
        simp [h3]
    · intro i a hi ha hd htk hn h0
      have gO : nodeSetOk a = false → (n.all nodeSetOk && (decide (n.length ≤ 3) && decide (nodeCount n ≤ 8))) = false := fun e => by rw [← h0, hd]; simp [e]
      have gN : nodeSetOk a = true → LoopG C spec_NodeOk pRLRB 4 0 (s_spec_NodeOk_0 ((i : Int) + 1) (n.map setC)) (fun u st => AftF C spec_NodeOk pRLRB u st fun r fs => r = vB ((n.all nodeSetOk && (decide (n.length ≤ 3) && decide (nodeCount n ≤ 8)))) ∧ fs = []) := fun e => hn (by rw [← h0, hd]; simp [e])
      refine r_spec_NodeOk_0 _ _ _ (brB_yes (by simp; omega) ?_)
      have hz : a.length ≤ tot szSet n := tot_get (w := szSet) ha
      have hh : ∀ q, RunF C spec_SetOk [vKeys a] (vB q) [] ↔ q = setOk a := fun q => c_spec_SetOk a (by omega) q
      simp only [ex_set, hh, eqI_eq, Int.ofNat_eq_natCast, brB_dec, getZ_nat, ha, Option.some.injEq, exists_eq_left', exists_eq_left, brB_not, brB_and, brB_or, key_eta, age_eta, cell_eta, vol_eta, map_eta, op_eta, succ_len, natAdd, List.length_map, List.length_append, List.length_singleton, Bool.true_and, Bool.and_true]
      rw [addW_eq (by omega)]
      cases h1 : setOk a <;> by_cases h2 : a.length = 0 <;> simp only [brB_t, brB_f] <;> first | (rw [if_pos (by omega)]; exact a_spec_NodeOk_1 _ _ (by rw [gO (by simp [nodeSetOk, h1, h2])]; exact ⟨rfl, by first | rfl | trivial⟩)) | (rw [if_neg (by omega)]; exact gN (by simp [nodeSetOk, h1, h2])) | exact a_spec_NodeOk_1 _ _ (by rw [gO (by simp [nodeSetOk, h1, h2])]; exact ⟨rfl, by first | rfl | trivial⟩)
  exact key rfl
theorem run_spec_NodeOk (n : List (List Key)) (hb : n.length ≤ 1073741824) (hl : tot szSet n ≤ 1073741824) : RunF C spec_NodeOk [vNode n] (vB (nodeOk n)) [] := by
  have := run_spec_NodeOk0 n hl hb
  rw [nodeOk_eq]
  exact this
theorem run_spec_AgesOk (l : List Age) (hl : l.length ≤ 1073741824) : RunF C spec_AgesOk [vAges l] (vB ((allN l.length (ageOkAt l) && decide (l.length ≤ 16)))) [] := by
  refine (f_spec_AgesOk _ _ ?_).run
  have key : ((List.range' 0 (l.length - 0)).all (ageOkAt l) && decide (l.length ≤ 16)) = (allN l.length (ageOkAt l) && decide (l.length ≤ 16)) → LoopG C spec_AgesOk pRLRB 4 0 (s_spec_AgesOk_0 (l.map ageC) ((0 : Nat) : Int)) (fun u st => AftF C spec_AgesOk pRLRB u st fun r fs => r = vB ((allN l.length (ageOkAt l) && decide (l.length ≤ 16))) ∧ fs = []) := by
    refine nat_walk (l.length) (fun i => ((List.range' i (l.length - i)).all (ageOkAt l) && decide (l.length ≤ 16)) = (allN l.length (ageOkAt l) && decide (l.length ≤ 16)) → LoopG C spec_AgesOk pRLRB 4 0 (s_spec_AgesOk_0 (l.map ageC) i) (fun u st => AftF C spec_AgesOk pRLRB u st fun r fs => r = vB ((allN l.length (ageOkAt l) && decide (l.length ≤ 16))) ∧ fs = [])) ?_ ?_
    · intro h0
      refine r_spec_AgesOk_0 _ _ _ (brB_no (by simp) (a_spec_AgesOk_2 _ _ _ _ ?_))
      rw [Nat.sub_self] at h0
      simp only [List.range'_zero, List.all_nil, Bool.true_and] at h0
      rw [← h0]
      simp [leI_eq]
      omega
    · intro i hi hn h0
      rw [range_step hi, List.all_cons] at h0
      have gO : (ageOkAt l) i = false → (allN l.length (ageOkAt l) && decide (l.length ≤ 16)) = false := fun e => by rw [← h0, e]; rfl
      have gN : (ageOkAt l) i = true → LoopG C spec_AgesOk pRLRB 4 0 (s_spec_AgesOk_0 (l.map ageC) ((i : Int) + 1)) (fun u st => AftF C spec_AgesOk pRLRB u st fun r fs => r = vB ((allN l.length (ageOkAt l) && decide (l.length ≤ 16))) ∧ fs = []) := fun e => hn (by rw [← h0, e]; rfl)
      refine r_spec_AgesOk_0 _ _ _ (brB_yes (by simp; omega) ?_)
      have ha : l[i]? = some l[i] := List.getElem?_eq_getElem hi
      have hh : ∀ q, RunF C spec_AgeAt [vAges (l.take i), vI l[i].fr] (vI q) [] ↔ q = ageAt (l.take i) l[i].fr := fun q => c_spec_AgeAt (l.take i) l[i].fr (by simp; omega) q
      have hcut : cutRows (l.map ageC) 0 (i : Int) = (l.take i).map ageC := by rw [cutRows_map, Int.toNat_natCast]; rfl
      have hin : inCut 0 (i : Int) (l.length : Int) = true := by simp; omega
      simp only [ex_age, c_l1In, hcut, getZ_nat, ha, Option.some.injEq, exists_eq_left', exists_eq_left, brB_not, brB_and, brB_or, key_eta, age_eta, cell_eta, vol_eta, map_eta, op_eta, succ_len, natAdd, List.length_map, List.length_append, List.length_singleton, Bool.true_and, Bool.and_true]
      simp only [ha, hin, hh, exists_eq_left, Option.some.injEq, exists_eq_left', brB_t, eqI_eq, leI_eq, ltI_eq, brB_dec, Int.ofNat_eq_natCast, List.length_map]
      rw [addW_eq (by omega)]
      cases i with
      | zero =>
        have e : ageOkAt l 0 = (inB l[0].id 1 60 && (decide (l[0].fr = 0) || !decide (ageAt (l.take 0) l[0].fr < 0))) := by simp [ageOkAt, atL, pairL, hi]
        rw [e] at gO gN
        have hz : ¬ ((0 : Int) < ((0 : Nat) : Int)) := by omega
        simp only [if_neg hz]
        cases h1 : inB l[0].id 1 60 with
        | false => simp only [brB_f]; exact a_spec_AgesOk_1 _ (by rw [gO (by rw [h1]; simp)]; exact ⟨rfl, by first | rfl | trivial⟩)
        | true =>
          simp only [brB_t]
          by_cases h2 : l[0].fr = 0
          · rw [if_pos h2]; exact gN (by rw [h1, decide_eq_true h2]; simp)
          · rw [if_neg h2]
            by_cases h3 : ageAt (l.take 0) l[0].fr < 0
            · rw [if_pos h3]; exact a_spec_AgesOk_1 _ (by rw [gO (by rw [decide_eq_false h2, decide_eq_true h3]; simp)]; exact ⟨rfl, by first | rfl | trivial⟩)
            · rw [if_neg h3]; exact gN (by rw [h1, decide_eq_false h3]; simp)
      | succ k =>
        have hk : l[k]? = some l[k] := List.getElem?_eq_getElem (by omega)
        have e : ageOkAt l (k + 1) = (inB l[k + 1].id 1 60 && (decide (l[k].id < l[k + 1].id) && (decide (l[k + 1].fr = 0) || !decide (ageAt (l.take (k + 1)) l[k + 1].fr < 0)))) := by simp only [ageOkAt, atL, pairL, hk, ha]
        rw [e] at gO gN
        rw [subW_eq (by omega), show ((k + 1 : Nat) : Int) - 1 = (k : Int) by omega]
        simp only [getZ_nat, hk, Option.some.injEq, exists_eq_left']
        rw [if_pos (by omega)]
        cases h1 : inB l[k + 1].id 1 60 with
        | false => simp only [brB_f]; exact a_spec_AgesOk_1 _ (by rw [gO (by rw [h1]; simp)]; exact ⟨rfl, by first | rfl | trivial⟩)
        | true =>
          simp only [brB_t]
          by_cases h4 : l[k].id < l[k + 1].id
          · rw [if_neg (by omega)]
            by_cases h2 : l[k + 1].fr = 0
            · rw [if_pos h2]; exact gN (by rw [h1, decide_eq_true h4, decide_eq_true h2]; simp)
            · rw [if_neg h2]
              by_cases h3 : ageAt (l.take (k + 1)) l[k + 1].fr < 0
              · rw [if_pos h3]; exact a_spec_AgesOk_1 _ (by rw [gO (by rw [decide_eq_false h2, decide_eq_true h3]; simp)]; exact ⟨rfl, by first | rfl | trivial⟩)
              · rw [if_neg h3]; exact gN (by rw [h1, decide_eq_true h4, decide_eq_false h3]; simp)
          · rw [if_pos (by omega)]; exact a_spec_AgesOk_1 _ (by rw [gO (by rw [decide_eq_false h4]; simp)]; exact ⟨rfl, by first | rfl | trivial⟩)
  exact key rfl
theorem c_spec_AgesOk (l : List Age) (hl : l.length ≤ 1073741824) (q : Bool) : RunF C spec_AgesOk [vAges l] (vB q) [] ↔ q = agesOk l := iffB (run_spec_AgesOk l hl)
theorem run_impl_NodeOk0 (n : List (List Key)) (hb : n.length ≤ 1073741824) (hl : tot szSet n ≤ 1073741824) : RunF C impl_NodeOk [vNode n] (vB (n.all nodeSetOk && (decide (n.length ≤ 3) && decide (nodeCount n ≤ 8)))) [] := by
  refine (f_impl_NodeOk _ _ ?_).run
  have key : ∀ (c : Nat), c + tot szSet (n.drop 0) = nodeCount n → ((n.drop 0).all nodeSetOk && (decide (n.length ≤ 3) && decide (nodeCount n ≤ 8))) = (n.all nodeSetOk && (decide (n.length ≤ 3) && decide (nodeCount n ≤ 8))) → LoopG C impl_NodeOk pRRLRB 4 0 (s_impl_NodeOk_0 c (n.map setC) ((0 : Nat) : Int)) (fun u st => AftF C impl_NodeOk pRRLRB u st fun r fs => r = (vB (n.all nodeSetOk && (decide (n.length ≤ 3) && decide (nodeCount n ≤ 8)))) ∧ fs = []) := by
    refine idx_walk n (fun i => ∀ (c : Nat), c + tot szSet (n.drop i) = nodeCount n → ((n.drop i).all nodeSetOk && (decide (n.length ≤ 3) && decide (nodeCount n ≤ 8))) = (n.all nodeSetOk && (decide (n.length ≤ 3) && decide (nodeCount n ≤ 8))) → LoopG C impl_NodeOk pRRLRB 4 0 (s_impl_NodeOk_0 c (n.map setC) i) (fun u st => AftF C impl_NodeOk pRRLRB u st fun r fs => r = (vB (n.all nodeSetOk && (decide (n.length ≤ 3) && decide (nodeCount n ≤ 8)))) ∧ fs = [])) ?_ ?_
    · intro c h0 h1
      refine r_impl_NodeOk_0 _ _ _ _ (brB_no (by simp) (a_impl_NodeOk_2 _ _ _ _ _ _ ?_))
      rw [List.drop_length] at h0 h1
      simp only [tot, Nat.add_zero] at h0
      simp only [List.all_nil, Bool.true_and] at h1
      rw [← h1]
      simp only [leI_eq, List.length_map, Int.ofNat_eq_natCast, brB_dec]
      by_cases h3 : n.length ≤ 3
      · rw [if_pos (by omega)]
        simp [h3]
        omega
      · rw [if_neg (by omega)]
        simp [h3]
    · intro i a hi ha hd ht hn c h0 h1
      refine r_impl_NodeOk_0 _ _ _ _ (brB_yes (by simp; omega) ?_)
      have hz : a.length ≤ tot szSet n := tot_get (w := szSet) ha
      have hh : ∀ q, RunF C impl_SetOk [vKeys a] (vB q) [] ↔ q = setOk a := fun q => c_impl_SetOk a (by omega) q
      rw [hd] at h0 h1
      have e5 : tot szSet (a :: n.drop (i + 1)) = a.length + tot szSet (n.drop (i + 1)) := rfl
      rw [e5] at h0
      unfold nodeCount at h0
      have hO : nodeSetOk a = false → AftF C impl_NodeOk pRRLRB TX.ret (t_impl_NodeOk_1 (n.map setC)) (fun r fs => r = vB (n.all nodeSetOk && (decide (n.length ≤ 3) && decide (nodeCount n ≤ 8))) ∧ fs = []) := fun e => a_impl_NodeOk_1 _ _ (by rw [← h1]; simp only [List.all_cons, e]; exact ⟨rfl, by first | rfl | trivial⟩)
      simp only [ex_set, hh, eqI_eq, Int.ofNat_eq_natCast, brB_dec, getZ_nat, ha, Option.some.injEq, exists_eq_left', exists_eq_left, brB_not, brB_and, brB_or, key_eta, age_eta, cell_eta, vol_eta, map_eta, op_eta, succ_len, natAdd, List.length_map, List.length_append, List.length_singleton, Bool.true_and, Bool.and_true]
      rw [addW_eq (by omega), addW_eq (by omega)]
      cases h2 : setOk a <;> by_cases h3 : a.length = 0 <;> simp only [brB_t, brB_f]
      · exact hO (by simp [nodeSetOk, h2])
      · exact hO (by simp [nodeSetOk, h2])
      · rw [if_pos (by omega)]; exact hO (by simp [nodeSetOk, h3])
      · rw [if_neg (by omega)]
        exact hn (c + a.length) (by unfold nodeCount; omega) (by rw [← h1]; simp [nodeSetOk, h2, h3])
  exact key 0 (by simp [nodeCount]) rfl
theorem run_impl_NodeOk (n : List (List Key)) (hb : n.length ≤ 1073741824) (hl : tot szSet n ≤ 1073741824) : RunF C impl_NodeOk [vNode n] (vB (nodeOk n)) [] := by
  have := run_impl_NodeOk0 n hb hl
  rw [nodeOk_eq]
  exact this
theorem c_impl_NodeOk (n : List (List Key)) (hb : n.length ≤ 1073741824) (hl : tot szSet n ≤ 1073741824) (q : Bool) : RunF C impl_NodeOk [.ag [.sub 1 (n.map setC)]] (vB q) [] ↔ q = nodeOk n := iffB (run_impl_NodeOk n hb hl)
theorem run_impl_AgesOk (l : List Age) (hl : l.length ≤ 1073741824) : RunF C impl_AgesOk [vAges l] (vB ((allN l.length (ageOkAt l) && decide (l.length ≤ 16)))) [] := by
  refine (f_impl_AgesOk _ _ ?_).run
  have key : ((List.range' 0 (l.length - 0)).all (ageOkAt l) && decide (l.length ≤ 16)) = (allN l.length (ageOkAt l) && decide (l.length ≤ 16)) → LoopG C impl_AgesOk pRLRB 4 0 (s_impl_AgesOk_0 (l.map ageC) ((0 : Nat) : Int)) (fun u st => AftF C impl_AgesOk pRLRB u st fun r fs => r = vB ((allN l.length (ageOkAt l) && decide (l.length ≤ 16))) ∧ fs = []) := by
    refine nat_walk (l.length) (fun i => ((List.range' i (l.length - i)).all (ageOkAt l) && decide (l.length ≤ 16)) = (allN l.length (ageOkAt l) && decide (l.length ≤ 16)) → LoopG C impl_AgesOk pRLRB 4 0 (s_impl_AgesOk_0 (l.map ageC) i) (fun u st => AftF C impl_AgesOk pRLRB u st fun r fs => r = vB ((allN l.length (ageOkAt l) && decide (l.length ≤ 16))) ∧ fs = [])) ?_ ?_
    · intro h0
      refine r_impl_AgesOk_0 _ _ _ (brB_no (by simp) (a_impl_AgesOk_2 _ _ _ _ _ ?_))
      rw [Nat.sub_self] at h0
      simp only [List.range'_zero, List.all_nil, Bool.true_and] at h0
      rw [← h0]
      simp [leI_eq]
      omega
    · intro i hi hn h0
      rw [range_step hi, List.all_cons] at h0
      have gO : (ageOkAt l) i = false → (allN l.length (ageOkAt l) && decide (l.length ≤ 16)) = false := fun e => by rw [← h0, e]; rfl
      have gN : (ageOkAt l) i = true → LoopG C impl_AgesOk pRLRB 4 0 (s_impl_AgesOk_0 (l.map ageC) ((i : Int) + 1)) (fun u st => AftF C impl_AgesOk pRLRB u st fun r fs => r = vB ((allN l.length (ageOkAt l) && decide (l.length ≤ 16))) ∧ fs = []) := fun e => hn (by rw [← h0, e]; rfl)
      refine r_impl_AgesOk_0 _ _ _ (brB_yes (by simp; omega) ?_)
      have ha : l[i]? = some l[i] := List.getElem?_eq_getElem hi
      have hh : ∀ q, RunF C impl_AgeAt [vAges (l.take i), vI l[i].fr] (vI q) [] ↔ q = ageAt (l.take i) l[i].fr := fun q => c_impl_AgeAt (l.take i) l[i].fr (by simp; omega) q
      have hcut : cutRows (l.map ageC) 0 (i : Int) = (l.take i).map ageC := by rw [cutRows_map, Int.toNat_natCast]; rfl
      have hin : inCut 0 (i : Int) (l.length : Int) = true := by simp; omega
      simp only [ex_age, c_within, hcut, getZ_nat, ha, Option.some.injEq, exists_eq_left', exists_eq_left, brB_not, brB_and, brB_or, key_eta, age_eta, cell_eta, vol_eta, map_eta, op_eta, succ_len, natAdd, List.length_map, List.length_append, List.length_singleton, Bool.true_and, Bool.and_true]
      simp only [ha, hin, hh, exists_eq_left, Option.some.injEq, exists_eq_left', brB_t, eqI_eq, leI_eq, ltI_eq, brB_dec, Int.ofNat_eq_natCast, List.length_map]
      rw [addW_eq (by omega)]
      cases i with
      | zero =>
        have e : ageOkAt l 0 = (inB l[0].id 1 60 && (decide (l[0].fr = 0) || !decide (ageAt (l.take 0) l[0].fr < 0))) := by simp [ageOkAt, atL, pairL, hi]
        rw [e] at gO gN
        have hz : ¬ ((0 : Int) < ((0 : Nat) : Int)) := by omega
        simp only [if_neg hz]
        cases h1 : inB l[0].id 1 60 with
        | false => simp only [brB_f]; exact a_impl_AgesOk_1 _ _ _ (by rw [gO (by rw [h1]; simp)]; exact ⟨rfl, by first | rfl | trivial⟩)
        | true =>
          simp only [brB_t]
          by_cases h2 : l[0].fr = 0
          · rw [if_pos h2]; exact gN (by rw [h1, decide_eq_true h2]; simp)
          · rw [if_neg h2]
            by_cases h3 : ageAt (l.take 0) l[0].fr < 0
            · rw [if_pos h3]; exact a_impl_AgesOk_1 _ _ _ (by rw [gO (by rw [decide_eq_false h2, decide_eq_true h3]; simp)]; exact ⟨rfl, by first | rfl | trivial⟩)
            · rw [if_neg h3]; exact gN (by rw [h1, decide_eq_false h3]; simp)
      | succ k =>
        have hk : l[k]? = some l[k] := List.getElem?_eq_getElem (by omega)
        have e : ageOkAt l (k + 1) = (inB l[k + 1].id 1 60 && (decide (l[k].id < l[k + 1].id) && (decide (l[k + 1].fr = 0) || !decide (ageAt (l.take (k + 1)) l[k + 1].fr < 0)))) := by simp only [ageOkAt, atL, pairL, hk, ha]
        rw [e] at gO gN
        rw [subW_eq (by omega), show ((k + 1 : Nat) : Int) - 1 = (k : Int) by omega]
        simp only [getZ_nat, hk, Option.some.injEq, exists_eq_left']
        rw [if_pos (by omega)]
        cases h1 : inB l[k + 1].id 1 60 with
        | false => simp only [brB_f]; exact a_impl_AgesOk_1 _ _ _ (by rw [gO (by rw [h1]; simp)]; exact ⟨rfl, by first | rfl | trivial⟩)
        | true =>
          simp only [brB_t]
          by_cases h4 : l[k].id < l[k + 1].id
          · rw [if_neg (by omega)]
            by_cases h2 : l[k + 1].fr = 0
            · rw [if_pos h2]; exact gN (by rw [h1, decide_eq_true h4, decide_eq_true h2]; simp)
            · rw [if_neg h2]
              by_cases h3 : ageAt (l.take (k + 1)) l[k + 1].fr < 0
              · rw [if_pos h3]; exact a_impl_AgesOk_1 _ _ _ (by rw [gO (by rw [decide_eq_false h2, decide_eq_true h3]; simp)]; exact ⟨rfl, by first | rfl | trivial⟩)
              · rw [if_neg h3]; exact gN (by rw [h1, decide_eq_true h4, decide_eq_false h3]; simp)
          · rw [if_pos (by omega)]; exact a_impl_AgesOk_1 _ _ _ (by rw [gO (by rw [decide_eq_false h4]; simp)]; exact ⟨rfl, by first | rfl | trivial⟩)
  exact key rfl
theorem c_impl_AgesOk (l : List Age) (hl : l.length ≤ 1073741824) (q : Bool) : RunF C impl_AgesOk [vAges l] (vB q) [] ↔ q = agesOk l := iffB (run_impl_AgesOk l hl)
@[simp] theorem c_spec_SpotOf (b a q : Int) : RunF C spec_SpotOf [vI b, vI a] (vI q) [] ↔ q = spotOf b a := iffI ((f_spec_SpotOf _ _ _ ⟨rfl, by first | rfl | trivial⟩).run)
@[simp] theorem c_spec_l6Spot (b a k c g q : Int) : RunF C spec_l6Spot [.ag [iI b, iI a, iI k, iI c, iI g]] (vI q) [] ↔ q = spotOf b a := iffI (by
  refine (f_spec_l6Spot _ _ _ _ _ _ ?_).run
  simp only [c_spec_SpotOf, exists_eq_left]
  simp)
@[simp] theorem c_impl_SpotOf (b a q : Int) : RunF C impl_SpotOf [vI b, vI a] (vI q) [] ↔ q = spotOf b a := iffI ((f_impl_SpotOf _ _ _ ⟨rfl, by first | rfl | trivial⟩).run)
theorem loop_spec_l6Node (t : Tree) (i : Nat) (n : List (List Key)) (hi : i < t.lows.length) (hl : szTree t ≤ 1073741824) (hn : n.length ≤ 1073741824) (hz : tot szSet n ≤ 1073741824) : LoopG C spec_l6Node pRRRLRB 4 0 (s_spec_l6Node_0 i ((0 : Nat) : Int) (t.lows.map intC) (t.nodes.map nodeC) (n.map setC)) (fun u st => AftF C spec_l6Node pRRRLRB u st fun r fs => r = vB (n.all (setSpotOk t.lows i)) ∧ fs = []) := by
  have hll : t.lows.length ≤ 1073741824 := by unfold szTree at hl; omega
  have hlo : t.lows[i]? = some t.lows[i] := List.getElem?_eq_getElem hi
  have key : (n.drop 0).all (setSpotOk t.lows i) = n.all (setSpotOk t.lows i) → LoopG C spec_l6Node pRRRLRB 4 0 (s_spec_l6Node_0 i ((0 : Nat) : Int) (t.lows.map intC) (t.nodes.map nodeC) (n.map setC)) (fun u st => AftF C spec_l6Node pRRRLRB u st fun r fs => r = vB (n.all (setSpotOk t.lows i)) ∧ fs = []) := by
    refine idx_walk n (fun k => (n.drop k).all (setSpotOk t.lows i) = n.all (setSpotOk t.lows i) → LoopG C spec_l6Node pRRRLRB 4 0 (s_spec_l6Node_0 i k (t.lows.map intC) (t.nodes.map nodeC) (n.map setC)) (fun u st => AftF C spec_l6Node pRRRLRB u st fun r fs => r = vB (n.all (setSpotOk t.lows i)) ∧ fs = [])) ?_ ?_
    · intro h0
      refine r_spec_l6Node_0 _ _ _ _ _ _ (brB_no (by simp) (a_spec_l6Node_2 _ _ _ _ _ _ _ ?_))
      rw [List.drop_length] at h0
      simp only [List.all_nil] at h0
      rw [← h0]
      exact ⟨rfl, by first | rfl | trivial⟩
    · intro k s hk hs hd htk hnext h0
      have hsl : s.length ≤ tot szSet n := tot_get (w := szSet) hs
      rw [hd, List.all_cons] at h0
      refine r_spec_l6Node_0 _ _ _ _ _ _ (brB_yes (by simp; omega) ?_)
      have keyI : (s.drop 0).all (keySpotOk t.lows i) = s.all (keySpotOk t.lows i) → LoopG C spec_l6Node pRRRLRBBRLBRB 3 2 (s_spec_l6Node_1 i k ((0 : Nat) : Int) (t.lows.map intC) (t.nodes.map nodeC) (n.map setC)) (fun u st => AftL C spec_l6Node pRRRLRB 4 0 pRLBRB u st (fun u st => AftF C spec_l6Node pRRRLRB u st fun r fs => r = vB (n.all (setSpotOk t.lows i)) ∧ fs = [])) := by
        refine idx_walk s (fun j => (s.drop j).all (keySpotOk t.lows i) = s.all (keySpotOk t.lows i) → LoopG C spec_l6Node pRRRLRBBRLBRB 3 2 (s_spec_l6Node_1 i k j (t.lows.map intC) (t.nodes.map nodeC) (n.map setC)) (fun u st => AftL C spec_l6Node pRRRLRB 4 0 pRLBRB u st (fun u st => AftF C spec_l6Node pRRRLRB u st fun r fs => r = vB (n.all (setSpotOk t.lows i)) ∧ fs = []))) ?_ ?_
        · intro h1
          rw [List.drop_length] at h1
          simp only [List.all_nil] at h1
          refine r_spec_l6Node_1 _ _ _ _ _ _ _ (⟨_, rowAt_map hs, brB_no (by simp) (a_spec_l6Node_4 _ _ _ _ _ _ _ _ ?_)⟩)
          rw [addW_eq (by omega)]
          exact hnext (by rw [← h0]; unfold setSpotOk; rw [← h1]; simp)
        · intro j x hj hx hdj htj hn2 h1
          rw [hdj, List.all_cons] at h1
          have gO : keySpotOk t.lows i x = false → AftL C spec_l6Node pRRRLRB 4 0 pRLBRB TX.ret (t_spec_l6Node_3 (t.lows.map intC) (t.nodes.map nodeC) (n.map setC)) (fun u st => AftF C spec_l6Node pRRRLRB u st fun r fs => r = vB (n.all (setSpotOk t.lows i)) ∧ fs = []) := fun e => a_spec_l6Node_3 _ _ _ _ (a_spec_l6Node_5 _ _ _ _ (by
            have e2 : setSpotOk t.lows i s = false := by unfold setSpotOk; rw [← h1, e]; rfl
            rw [← h0, e2]; exact ⟨rfl, by first | rfl | trivial⟩))
          have gN : keySpotOk t.lows i x = true → LoopG C spec_l6Node pRRRLRBBRLBRB 3 2 (s_spec_l6Node_1 i k ((j : Int) + 1) (t.lows.map intC) (t.nodes.map nodeC) (n.map setC)) (fun u st => AftL C spec_l6Node pRRRLRB 4 0 pRLBRB u st (fun u st => AftF C spec_l6Node pRRRLRB u st fun r fs => r = vB (n.all (setSpotOk t.lows i)) ∧ fs = [])) := fun e => hn2 (by rw [← h1, e]; rfl)
          have e : keySpotOk t.lows i x = (!decide (spotOf x.b x.a < t.lows[i]) && (match t.lows[i + 1]? with | some hi => decide (spotOf x.b x.a < hi) | none => true)) := by simp only [keySpotOk, spotOk, hlo]; rfl
          rw [e] at gO gN
          refine r_spec_l6Node_1 _ _ _ _ _ _ _ (⟨_, rowAt_map hs, brB_yes (by simp; omega) ⟨_, rowAt_map hs, ?_⟩⟩)
          rw [addW_eq (a := (i : Int)) (by omega), addW_eq (a := (j : Int)) (by omega)]
          simp only [ex_key, ex_int, getZ_nat, hx, hlo, Option.some.injEq, exists_eq_left', c_spec_l6Spot, exists_eq_left, ltI_eq, leI_eq, brB_dec, List.length_map, Int.ofNat_eq_natCast]
          by_cases h2 : spotOf x.b x.a < t.lows[i]
          · rw [if_pos h2]
            exact gO (by rw [decide_eq_true h2]; rfl)
          · rw [if_neg h2]
            by_cases h3 : i + 1 < t.lows.length
            · have hhi : t.lows[i + 1]? = some t.lows[i + 1] := List.getElem?_eq_getElem h3
              rw [if_pos (by omega), show ((i : Int) + 1) = ((i + 1 : Nat) : Int) by omega, getZ_nat, hhi]
              simp only [Option.some.injEq, exists_eq_left']
              rw [hhi] at gO gN
              by_cases h4 : spotOf x.b x.a < t.lows[i + 1]
              · rw [if_neg (by omega)]
                exact gN (by rw [decide_eq_false h2]; simp [h4])
              · rw [if_pos (by omega)]
                exact gO (by simp [h4])
            · rw [if_neg (by omega)]
              have hno : t.lows[i + 1]? = none := List.getElem?_eq_none (by omega)
              rw [hno] at gN
              exact gN (by rw [decide_eq_false h2]; rfl)
      exact keyI rfl
  exact key rfl
theorem loop_impl_inBounds (t : Tree) (i : Nat) (n : List (List Key)) (hi : i < t.lows.length) (hl : szTree t ≤ 1073741824) (hn : n.length ≤ 1073741824) (hz : tot szSet n ≤ 1073741824) : LoopG C impl_inBounds pRLRB 4 0 (s_impl_inBounds_0 i (n.map setC) (n.length : Int) ((0 : Nat) : Int) (t.lows.map intC) (t.nodes.map nodeC)) (fun u st => AftF C impl_inBounds pRLRB u st fun r fs => r = vB (n.all (setSpotOk t.lows i)) ∧ fs = []) := by
  have hll : t.lows.length ≤ 1073741824 := by unfold szTree at hl; omega
  have hlo : t.lows[i]? = some t.lows[i] := List.getElem?_eq_getElem hi
  have key : (n.drop 0).all (setSpotOk t.lows i) = n.all (setSpotOk t.lows i) → LoopG C impl_inBounds pRLRB 4 0 (s_impl_inBounds_0 i (n.map setC) (n.length : Int) ((0 : Nat) : Int) (t.lows.map intC) (t.nodes.map nodeC)) (fun u st => AftF C impl_inBounds pRLRB u st fun r fs => r = vB (n.all (setSpotOk t.lows i)) ∧ fs = []) := by
    refine idx_walk n (fun k => (n.drop k).all (setSpotOk t.lows i) = n.all (setSpotOk t.lows i) → LoopG C impl_inBounds pRLRB 4 0 (s_impl_inBounds_0 i (n.map setC) (n.length : Int) k (t.lows.map intC) (t.nodes.map nodeC)) (fun u st => AftF C impl_inBounds pRLRB u st fun r fs => r = vB (n.all (setSpotOk t.lows i)) ∧ fs = [])) ?_ ?_
    · intro h0
      refine r_impl_inBounds_0 _ _ _ _ _ _ _ (brB_no (by simp) (a_impl_inBounds_2 _ _ _ _ _ _ _ _ ?_))
      rw [List.drop_length] at h0
      simp only [List.all_nil] at h0
      rw [← h0]
      exact ⟨rfl, by first | rfl | trivial⟩
    · intro k s hk hs hd htk hnext h0
      have hsl : s.length ≤ tot szSet n := tot_get (w := szSet) hs
      rw [hd, List.all_cons] at h0
      refine r_impl_inBounds_0 _ _ _ _ _ _ _ (brB_yes (by simp; omega) ⟨_, rowAt_map hs, ?_⟩)
      have keyI : (s.drop 0).all (keySpotOk t.lows i) = s.all (keySpotOk t.lows i) → LoopG C impl_inBounds pRLRBBRRLBRRB 3 2 (s_impl_inBounds_1 i (n.map setC) (n.length : Int) k (s.map keyC) ((0 : Nat) : Int) (t.lows.map intC) (t.nodes.map nodeC)) (fun u st => AftL C impl_inBounds pRLRB 4 0 pRRLBRRB u st (fun u st => AftF C impl_inBounds pRLRB u st fun r fs => r = vB (n.all (setSpotOk t.lows i)) ∧ fs = [])) := by
        refine idx_walk s (fun j => (s.drop j).all (keySpotOk t.lows i) = s.all (keySpotOk t.lows i) → LoopG C impl_inBounds pRLRBBRRLBRRB 3 2 (s_impl_inBounds_1 i (n.map setC) (n.length : Int) k (s.map keyC) j (t.lows.map intC) (t.nodes.map nodeC)) (fun u st => AftL C impl_inBounds pRLRB 4 0 pRRLBRRB u st (fun u st => AftF C impl_inBounds pRLRB u st fun r fs => r = vB (n.all (setSpotOk t.lows i)) ∧ fs = []))) ?_ ?_
        · intro h1
          rw [List.drop_length] at h1
          simp only [List.all_nil] at h1
          refine r_impl_inBounds_1 _ _ _ _ _ _ _ _ _ (brB_no (by simp) (a_impl_inBounds_4 _ _ _ _ _ _ _ _ _ _ _ ?_))
          rw [addW_eq (by omega)]
          exact hnext (by rw [← h0]; unfold setSpotOk; rw [← h1]; simp)
        · intro j x hj hx hdj htj hn2 h1
          rw [hdj, List.all_cons] at h1
          have gO : keySpotOk t.lows i x = false → AftL C impl_inBounds pRLRB 4 0 pRRLBRRB TX.ret (t_impl_inBounds_3 (t.lows.map intC) (t.nodes.map nodeC) x.b x.a x.k x.c x.g) (fun u st => AftF C impl_inBounds pRLRB u st fun r fs => r = vB (n.all (setSpotOk t.lows i)) ∧ fs = []) := fun e => a_impl_inBounds_3 _ _ _ _ _ _ _ _ (a_impl_inBounds_5 _ _ _ _ _ _ _ _ (by
            have e2 : setSpotOk t.lows i s = false := by unfold setSpotOk; rw [← h1, e]; rfl
            rw [← h0, e2]; exact ⟨rfl, by first | rfl | trivial⟩))
          have gN : keySpotOk t.lows i x = true → LoopG C impl_inBounds pRLRBBRRLBRRB 3 2 (s_impl_inBounds_1 i (n.map setC) (n.length : Int) k (s.map keyC) ((j : Int) + 1) (t.lows.map intC) (t.nodes.map nodeC)) (fun u st => AftL C impl_inBounds pRLRB 4 0 pRRLBRRB u st (fun u st => AftF C impl_inBounds pRLRB u st fun r fs => r = vB (n.all (setSpotOk t.lows i)) ∧ fs = [])) := fun e => hn2 (by rw [← h1, e]; rfl)
          have e : keySpotOk t.lows i x = (!decide (spotOf x.b x.a < t.lows[i]) && (match t.lows[i + 1]? with | some hi => decide (spotOf x.b x.a < hi) | none => true)) := by simp only [keySpotOk, spotOk, hlo]; rfl
          rw [e] at gO gN
          refine r_impl_inBounds_1 _ _ _ _ _ _ _ _ _ (brB_yes (by simp; omega) ?_)
          rw [addW_eq (a := (i : Int)) (by omega), addW_eq (a := (j : Int)) (by omega)]
          simp only [ex_key, ex_int, getZ_nat, hx, hlo, Option.some.injEq, exists_eq_left', c_impl_SpotOf, exists_eq_left, ltI_eq, leI_eq, brB_dec, List.length_map, Int.ofNat_eq_natCast]
          by_cases h2 : spotOf x.b x.a < t.lows[i]
          · rw [if_pos h2]
            exact gO (by rw [decide_eq_true h2]; rfl)
          · rw [if_neg h2]
            by_cases h3 : i + 1 < t.lows.length
            · have hhi : t.lows[i + 1]? = some t.lows[i + 1] := List.getElem?_eq_getElem h3
              rw [if_pos (by omega), show ((i : Int) + 1) = ((i + 1 : Nat) : Int) by omega, getZ_nat, hhi]
              simp only [Option.some.injEq, exists_eq_left']
              rw [hhi] at gO gN
              by_cases h4 : spotOf x.b x.a < t.lows[i + 1]
              · rw [if_neg (by omega)]
                exact gN (by rw [decide_eq_false h2]; simp [h4])
              · rw [if_pos (by omega)]
                exact gO (by simp [h4])
            · rw [if_neg (by omega)]
              have hno : t.lows[i + 1]? = none := List.getElem?_eq_none (by omega)
              rw [hno] at gN
              exact gN (by rw [decide_eq_false h2]; rfl)
      exact keyI rfl
  exact key rfl
theorem run_spec_l6Node (t : Tree) (i : Nat) (n : List (List Key)) (ha : t.nodes[i]? = some n) (hlo : i < t.lows.length) (hl : szTree t ≤ 1073741824) : RunF C spec_l6Node [vTree t, vI i] (vB (nodeOk n && ((decide (i = 0) || !decide ((nodeKeys n).length = 0)) && n.all (setSpotOk t.lows i)))) [] := by
  have hz : szNode n ≤ tot szNode t.nodes := tot_get (w := szNode) ha
  have e1 : szNode n = n.length + tot szSet n := rfl
  have e2 : szTree t = t.lows.length + (t.nodes.length + tot szNode t.nodes) := rfl
  have hnk := nodeKeys_len n
  refine (f_spec_l6Node _ _ _ _ ⟨_, rowAt_map (e := nodeC) ha, _, run_spec_NodeOk n (by omega) (by omega), ?_⟩).run
  cases h1 : nodeOk n with
  | false => exact brB_yes rfl ⟨rfl, by first | rfl | trivial⟩
  | true =>
    refine brB_no rfl ?_
    have hloop := loop_spec_l6Node t i n hlo hl (by omega) (by omega)
    have conv : ∀ B : Bool, B = n.all (setSpotOk t.lows i) → LoopG C spec_l6Node pRRRLRB 4 0 (s_spec_l6Node_0 i 0 (t.lows.map intC) (t.nodes.map nodeC) (n.map setC)) (fun u st => AftF C spec_l6Node pRRRLRB u st fun r fs => r = vB B ∧ fs = []) := fun B hB => by subst hB; exact hloop
    cases i with
    | zero => exact brB_no (by simp) (conv _ (by simp))
    | succ k =>
      refine brB_yes (by first | (simp; done) | (simp; omega)) ⟨_, run_spec_NodeKeys n (by omega) (by omega), ?_⟩
      by_cases h2 : (nodeKeys n).length = 0
      · refine brB_yes (by simp [h2]) ?_
        simp [h2]
      · exact brB_no (by simpa using h2) (conv _ (by simp [h2]))
theorem run_spec_TreeOk (t : Tree) (hl : szTree t ≤ 1073741824) : RunF C spec_TreeOk [vTree t] (vB (treeOk t)) [] := by
  have e2 : szTree t = t.lows.length + (t.nodes.length + tot szNode t.nodes) := rfl
  refine (f_spec_TreeOk _ _ _ ?_).run
  simp only [c_l1In, exists_eq_left, List.length_map, Int.ofNat_eq_natCast, eqI_eq, brB_not]
  unfold treeOk
  cases h1 : inB (t.nodes.length : Int) 1 20 with
  | false => exact brB_no rfl ⟨rfl, by first | rfl | trivial⟩
  | true =>
    refine brB_yes rfl ?_
    have hn1 : 1 ≤ t.nodes.length := by have := of_decide_eq_true h1; omega
    by_cases h2 : t.lows.length = t.nodes.length
    · refine brB_yes (by simp [h2]) ?_
      have h0 : t.lows[0]? = some t.lows[0] := List.getElem?_eq_getElem (by omega)
      have hz0 : getZ t.lows 0 = some t.lows[0] := by rw [show (0 : Int) = ((0 : Nat) : Int) from rfl, getZ_nat]; exact h0
      simp only [ex_int, hz0, h0, Option.some.injEq, exists_eq_left', brB_dec]
      by_cases h3 : t.lows[0] = 0
      · rw [if_pos (by simpa using h3)]
        have hw : (true && (decide (t.lows.length = t.nodes.length) && ((decide (t.lows[0] = 0)) && (allN t.nodes.length (treeAtOk t) && decide ((treeKeys t).length ≤ 60))))) = (allN t.nodes.length (treeAtOk t) && decide ((treeKeys t).length ≤ 60)) := by simp [h2, h3]
        rw [hw]
        have key : ((List.range' 0 (t.nodes.length - 0)).all (treeAtOk t) && decide ((treeKeys t).length ≤ 60)) = (allN t.nodes.length (treeAtOk t) && decide ((treeKeys t).length ≤ 60)) → LoopG C spec_TreeOk pRRLRB 4 0 (s_spec_TreeOk_0 ((0 : Nat) : Int) (t.lows.map intC) (t.nodes.map nodeC)) (fun u st => AftF C spec_TreeOk pRRLRB u st fun r fs => r = vB (allN t.nodes.length (treeAtOk t) && decide ((treeKeys t).length ≤ 60)) ∧ fs = []) := by
          refine nat_walk t.nodes.length (fun i => ((List.range' i (t.nodes.length - i)).all (treeAtOk t) && decide ((treeKeys t).length ≤ 60)) = (allN t.nodes.length (treeAtOk t) && decide ((treeKeys t).length ≤ 60)) → LoopG C spec_TreeOk pRRLRB 4 0 (s_spec_TreeOk_0 i (t.lows.map intC) (t.nodes.map nodeC)) _) ?_ ?_
          · intro h0
            rw [Nat.sub_self] at h0
            simp only [List.range'_zero, List.all_nil, Bool.true_and] at h0
            refine r_spec_TreeOk_0 _ _ _ _ (brB_no (by simp) (a_spec_TreeOk_2 _ _ _ _ _ ⟨_, run_spec_TreeKeys t hl, ?_⟩))
            rw [← h0]
            simp [leI_eq]
            omega
          · intro i hi hn h0
            rw [range_step hi, List.all_cons] at h0
            have ha : t.nodes[i]? = some t.nodes[i] := List.getElem?_eq_getElem hi
            have hli : t.lows[i]? = some t.lows[i] := List.getElem?_eq_getElem (by omega)
            have gO : treeAtOk t i = false → AftF C spec_TreeOk pRRLRB TX.ret (t_spec_TreeOk_1 (t.lows.map intC) (t.nodes.map nodeC)) (fun r fs => r = vB (allN t.nodes.length (treeAtOk t) && decide ((treeKeys t).length ≤ 60)) ∧ fs = []) := fun e => a_spec_TreeOk_1 _ _ _ (by rw [← h0, e]; exact ⟨rfl, by first | rfl | trivial⟩)
            have gN : treeAtOk t i = true → LoopG C spec_TreeOk pRRLRB 4 0 (s_spec_TreeOk_0 ((i : Int) + 1) (t.lows.map intC) (t.nodes.map nodeC)) (fun u st => AftF C spec_TreeOk pRRLRB u st fun r fs => r = vB (allN t.nodes.length (treeAtOk t) && decide ((treeKeys t).length ≤ 60)) ∧ fs = []) := fun e => hn (by rw [← h0, e]; rfl)
            have hh : ∀ q, RunF C spec_l6Node [vTree t, vI i] (vB q) [] ↔ q = _ := fun q => iffB (run_spec_l6Node t i t.nodes[i] ha (by omega) hl)
            refine r_spec_TreeOk_0 _ _ _ _ (brB_yes (by simp; omega) ?_)
            rw [addW_eq (by omega)]
            simp only [hh, exists_eq_left, ltI_eq, leI_eq, brB_dec, brB_not]
            cases i with
            | zero =>
              have e : treeAtOk t 0 = (nodeOk t.nodes[0] && ((decide (0 = 0) || !decide ((nodeKeys t.nodes[0]).length = 0)) && t.nodes[0].all (setSpotOk t.lows 0))) := by simp only [treeAtOk, pairL, ha, Bool.true_and]
              rw [e] at gO gN
              rw [if_neg (by omega)]
              exact brB_both gN gO
            | succ k =>
              have hk : t.lows[k]? = some t.lows[k] := List.getElem?_eq_getElem (by omega)
              have e : treeAtOk t (k + 1) = (decide (t.lows[k] < t.lows[k + 1]) && (nodeOk t.nodes[k + 1] && ((decide (k + 1 = 0) || !decide ((nodeKeys t.nodes[k + 1]).length = 0)) && t.nodes[k + 1].all (setSpotOk t.lows (k + 1))))) := by simp only [treeAtOk, pairL, ha, hk, hli]
              rw [e] at gO gN
              rw [if_pos (by omega), subW_eq (by omega), show ((k + 1 : Nat) : Int) - 1 = (k : Int) by omega]
              simp only [ex_int, getZ_nat, hk, hli, Option.some.injEq, exists_eq_left']
              by_cases h4 : t.lows[k] < t.lows[k + 1]
              · rw [if_neg (by omega)]
                rw [decide_eq_true h4, Bool.true_and] at gO gN
                exact brB_both gN gO
              · rw [if_pos (by omega)]
                exact gO (by rw [decide_eq_false h4]; rfl)
        exact key rfl
      · rw [if_neg (by simpa using h3)]
        simp [h3]
    · refine brB_no (by simp; omega) ?_
      simp [h2]
theorem run_impl_inBounds (t : Tree) (i : Nat) (n : List (List Key)) (ha : t.nodes[i]? = some n) (hlo : i < t.lows.length) (hl : szTree t ≤ 1073741824) : RunF C impl_inBounds [vTree t, vI i] (vB (n.all (setSpotOk t.lows i))) [] := by
  have hz : szNode n ≤ tot szNode t.nodes := tot_get (w := szNode) ha
  have e1 : szNode n = n.length + tot szSet n := rfl
  have e2 : szTree t = t.lows.length + (t.nodes.length + tot szNode t.nodes) := rfl
  refine (f_impl_inBounds _ _ _ _ ⟨_, rowAt_map (e := nodeC) ha, ?_⟩).run
  simp only [List.length_map, Int.ofNat_eq_natCast]
  exact loop_impl_inBounds t i n hlo hl (by omega) (by omega)
theorem run_impl_TreeOk (t : Tree) (hl : szTree t ≤ 1073741824) : RunF C impl_TreeOk [vTree t] (vB (treeOk t)) [] := by
  have e2 : szTree t = t.lows.length + (t.nodes.length + tot szNode t.nodes) := rfl
  refine (f_impl_TreeOk _ _ _ ?_).run
  simp only [c_within, exists_eq_left, List.length_map, Int.ofNat_eq_natCast, eqI_eq, brB_not]
  unfold treeOk
  cases h1 : inB (t.nodes.length : Int) 1 20 with
  | false => exact brB_no rfl ⟨rfl, by first | rfl | trivial⟩
  | true =>
    refine brB_yes rfl ?_
    have hn1 : 1 ≤ t.nodes.length := by have := of_decide_eq_true h1; omega
    by_cases h2 : t.lows.length = t.nodes.length
    · refine brB_yes (by simp [h2]) ?_
      have h0 : t.lows[0]? = some t.lows[0] := List.getElem?_eq_getElem (by omega)
      have hz0 : getZ t.lows 0 = some t.lows[0] := by rw [show (0 : Int) = ((0 : Nat) : Int) from rfl, getZ_nat]; exact h0
      simp only [ex_int, hz0, h0, Option.some.injEq, exists_eq_left', brB_dec]
      by_cases h3 : t.lows[0] = 0
      · rw [if_pos (by simpa using h3)]
        have hw : (true && (decide (t.lows.length = t.nodes.length) && ((decide (t.lows[0] = 0)) && (allN t.nodes.length (treeAtOk t) && decide ((treeKeys t).length ≤ 60))))) = (allN t.nodes.length (treeAtOk t) && decide ((treeKeys t).length ≤ 60)) := by simp [h2, h3]
        rw [hw]
        have key : ∀ c : Nat, c + ((t.nodes.drop 0).flatMap nodeKeys).length = (treeKeys t).length → ((List.range' 0 (t.nodes.length - 0)).all (treeAtOk t) && decide ((treeKeys t).length ≤ 60)) = (allN t.nodes.length (treeAtOk t) && decide ((treeKeys t).length ≤ 60)) → LoopG C impl_TreeOk pRRRLRB 4 0 (s_impl_TreeOk_0 c (t.nodes.map nodeC) ((0 : Nat) : Int) (t.lows.map intC)) (fun u st => AftF C impl_TreeOk pRRRLRB u st fun r fs => r = vB (allN t.nodes.length (treeAtOk t) && decide ((treeKeys t).length ≤ 60)) ∧ fs = []) := by
          refine nat_walk t.nodes.length (fun i => ∀ c : Nat, c + ((t.nodes.drop i).flatMap nodeKeys).length = (treeKeys t).length → ((List.range' i (t.nodes.length - i)).all (treeAtOk t) && decide ((treeKeys t).length ≤ 60)) = (allN t.nodes.length (treeAtOk t) && decide ((treeKeys t).length ≤ 60)) → LoopG C impl_TreeOk pRRRLRB 4 0 (s_impl_TreeOk_0 c (t.nodes.map nodeC) i (t.lows.map intC)) _) ?_ ?_
          · intro c hc h0
            rw [Nat.sub_self] at h0
            simp only [List.range'_zero, List.all_nil, Bool.true_and] at h0
            rw [List.drop_length] at hc
            simp at hc
            refine r_impl_TreeOk_0 _ _ _ _ _ (brB_no (by simp) (a_impl_TreeOk_3 _ _ _ _ _ _ _ ?_))
            rw [← h0]
            simp [leI_eq]
            omega
          · intro i hi hn c hc h0
            rw [range_step hi, List.all_cons] at h0
            have ha : t.nodes[i]? = some t.nodes[i] := List.getElem?_eq_getElem hi
            have hli : t.lows[i]? = some t.lows[i] := List.getElem?_eq_getElem (by omega)
            rw [List.drop_eq_getElem_cons hi, List.flatMap_cons, List.length_append] at hc
            have hz : szNode t.nodes[i] ≤ tot szNode t.nodes := tot_get (w := szNode) ha
            have e1 : szNode t.nodes[i] = t.nodes[i].length + tot szSet t.nodes[i] := rfl
            have hnk := nodeKeys_len t.nodes[i]
            have htk := treeKeys_len t
            have gO1 : treeAtOk t i = false → AftF C impl_TreeOk pRRRLRB TX.ret (t_impl_TreeOk_1 (t.lows.map intC) (t.nodes.map nodeC) (t.nodes[i].map setC)) (fun r fs => r = vB (allN t.nodes.length (treeAtOk t) && decide ((treeKeys t).length ≤ 60)) ∧ fs = []) := fun e => a_impl_TreeOk_1 _ _ _ _ (by rw [← h0, e]; exact ⟨rfl, by first | rfl | trivial⟩)
            have gO2 : treeAtOk t i = false → AftF C impl_TreeOk pRRRLRB TX.ret (t_impl_TreeOk_2 (t.lows.map intC) (t.nodes.map nodeC) (t.nodes[i].map setC) ((nodeKeys t.nodes[i]).map keyC)) (fun r fs => r = vB (allN t.nodes.length (treeAtOk t) && decide ((treeKeys t).length ≤ 60)) ∧ fs = []) := fun e => a_impl_TreeOk_2 _ _ _ _ _ (by rw [← h0, e]; exact ⟨rfl, by first | rfl | trivial⟩)
            have gN : treeAtOk t i = true → LoopG C impl_TreeOk pRRRLRB 4 0 (s_impl_TreeOk_0 ((c : Int) + ((nodeKeys t.nodes[i]).length : Int)) (t.nodes.map nodeC) ((i : Int) + 1) (t.lows.map intC)) (fun u st => AftF C impl_TreeOk pRRRLRB u st fun r fs => r = vB (allN t.nodes.length (treeAtOk t) && decide ((treeKeys t).length ≤ 60)) ∧ fs = []) := fun e => hn (c + (nodeKeys t.nodes[i]).length) (by omega) (by rw [← h0, e]; rfl)
            have hb : ∀ q, RunF C impl_inBounds [vTree t, vI i] (vB q) [] ↔ q = _ := fun q => iffB (run_impl_inBounds t i t.nodes[i] ha (by omega) hl)
            have hk : ∀ q, RunF C impl_NodeKeys [vNode t.nodes[i]] (.c (.sub 5 q)) [] ↔ q = (nodeKeys t.nodes[i]).map keyC := fun q => c_impl_NodeKeys t.nodes[i] (by omega) (by omega) q
            have ho : ∀ q, RunF C impl_NodeOk [vNode t.nodes[i]] (vB q) [] ↔ q = nodeOk t.nodes[i] := fun q => c_impl_NodeOk t.nodes[i] (by omega) (by omega) q
            refine r_impl_TreeOk_0 _ _ _ _ _ (brB_yes (by simp; omega) ?_)
            simp only [ex_node, getZ_nat, ha, Option.some.injEq, exists_eq_left', hb, hk, ho, exists_eq_left, ltI_eq, leI_eq, eqI_eq, brB_dec, brB_not, List.length_map, Int.ofNat_eq_natCast]
            rw [addW_eq (a := (c : Int)) (by omega), addW_eq (a := (i : Int)) (by omega)]
            cases i with
            | zero =>
              have e : treeAtOk t 0 = (nodeOk t.nodes[0] && ((decide (0 = 0) || !decide ((nodeKeys t.nodes[0]).length = 0)) && t.nodes[0].all (setSpotOk t.lows 0))) := by simp only [treeAtOk, pairL, ha, Bool.true_and]
              rw [e] at gO1 gN
              have hzz : ¬ ((0 : Int) < ((0 : Nat) : Int)) := by omega
              simp only [if_neg hzz]
              cases h4 : nodeOk t.nodes[0] with
              | false => exact brB_no rfl (gO1 (by rw [h4]; rfl))
              | true =>
                refine brB_yes rfl ?_
                cases h5 : t.nodes[0].all (setSpotOk t.lows 0) with
                | false => exact brB_no rfl (gO1 (by rw [h4, h5]; simp))
                | true => exact brB_yes rfl (gN (by rw [h4, h5]; simp))
            | succ k =>
              have hk1 : t.lows[k]? = some t.lows[k] := List.getElem?_eq_getElem (by omega)
              have e : treeAtOk t (k + 1) = (decide (t.lows[k] < t.lows[k + 1]) && (nodeOk t.nodes[k + 1] && ((decide (k + 1 = 0) || !decide ((nodeKeys t.nodes[k + 1]).length = 0)) && t.nodes[k + 1].all (setSpotOk t.lows (k + 1))))) := by simp only [treeAtOk, pairL, ha, hk1, hli]
              rw [e] at gO1 gO2 gN
              have hzz : (0 : Int) < ((k + 1 : Nat) : Int) := by omega
              simp only [if_pos hzz]
              rw [subW_eq (by omega), show ((k + 1 : Nat) : Int) - 1 = (k : Int) by omega]
              simp only [ex_int, getZ_nat, hk1, hli, Option.some.injEq, exists_eq_left']
              by_cases h6 : t.lows[k] < t.lows[k + 1]
              · rw [if_neg (by omega)]
                cases h4 : nodeOk t.nodes[k + 1] with
                | false => exact brB_no rfl (gO1 (by rw [h4]; simp))
                | true =>
                  refine brB_yes rfl ?_
                  cases h5 : t.nodes[k + 1].all (setSpotOk t.lows (k + 1)) with
                  | false => exact brB_no rfl (gO1 (by rw [h4, h5]; simp))
                  | true =>
                    refine brB_yes rfl ?_
                    by_cases h7 : (nodeKeys t.nodes[k + 1]).length = 0
                    · rw [if_pos (by omega)]; exact gO2 (by rw [h4, h5]; simp [h7])
                    · rw [if_neg (by omega)]; exact gN (by rw [h4, h5, decide_eq_true h6]; simp [h7])
              · rw [if_pos (by omega)]
                exact gO1 (by rw [decide_eq_false h6]; rfl)
        exact key 0 (by simp [treeKeys]) rfl
      · rw [if_neg (by simpa using h3)]
        simp [h3]
    · refine brB_no (by simp; omega) ?_
      simp [h2]
theorem run_spec_l10Vols (p : Pool) (hS : szPool p ≤ 4194304) : RunF C spec_l10Vols [vPool p] (vB (volsOk p)) [] := by
  have hP := poolS_of hS
  have hname : ∀ v ∈ p.vols, v.name.size ≤ 140737488355328 := fun v hv => by have := tot_mem (w := szVol) hv; have e : szVol v = v.name.size := rfl; omega
  refine (f_spec_l10Vols _ _ _ _ _ _ _ ?_).run
  unfold volsOk
  have key : ((List.range' 0 (p.vols.length - 0)).all (volOkAt p) && decide (p.vols.length ≤ 6)) = (allN p.vols.length (volOkAt p) && decide (p.vols.length ≤ 6)) → LoopG C spec_l10Vols pRLRB 4 0 (s_spec_l10Vols_0 ((0 : Nat) : Int) (p.t.lows.map intC) (p.t.nodes.map nodeC) (p.ages.map ageC) (p.cells.map cellC) (p.vols.map volC) p.next) (fun u st => AftF C spec_l10Vols pRLRB u st fun r fs => r = vB (allN p.vols.length (volOkAt p) && decide (p.vols.length ≤ 6)) ∧ fs = []) := by
    refine nat_walk p.vols.length (fun i => ((List.range' i (p.vols.length - i)).all (volOkAt p) && decide (p.vols.length ≤ 6)) = (allN p.vols.length (volOkAt p) && decide (p.vols.length ≤ 6)) → LoopG C spec_l10Vols pRLRB 4 0 (s_spec_l10Vols_0 i (p.t.lows.map intC) (p.t.nodes.map nodeC) (p.ages.map ageC) (p.cells.map cellC) (p.vols.map volC) p.next) (fun u st => AftF C spec_l10Vols pRLRB u st fun r fs => r = vB (allN p.vols.length (volOkAt p) && decide (p.vols.length ≤ 6)) ∧ fs = [])) ?_ ?_
    · intro h0
      rw [Nat.sub_self] at h0
      simp only [List.range'_zero, List.all_nil, Bool.true_and] at h0
      refine r_spec_l10Vols_0 _ _ _ _ _ _ _ _ (brB_no (by simp) (a_spec_l10Vols_4 _ _ _ _ _ _ _ _ _ ?_))
      rw [← h0]
      simp [leI_eq]
      omega
    · intro i hi hn h0
      rw [range_step hi, List.all_cons] at h0
      have ha : p.vols[i]? = some p.vols[i] := List.getElem?_eq_getElem hi
      have hv := hname p.vols[i] (List.getElem_mem hi)
      have hkl := kidsOf_len p.ages p.vols[i].age
      have gO1 : volOkAt p i = false → AftF C spec_l10Vols pRLRB TX.ret (t_spec_l10Vols_1 (p.t.lows.map intC) (p.t.nodes.map nodeC) (p.ages.map ageC) (p.cells.map cellC) (p.vols.map volC) p.next p.vols[i].name p.vols[i].age p.vols[i].size p.vols[i].fx) (fun r fs => r = vB (allN p.vols.length (volOkAt p) && decide (p.vols.length ≤ 6)) ∧ fs = []) := fun e => a_spec_l10Vols_1 _ _ _ _ _ _ _ _ _ _ _ (by rw [← h0, e]; exact ⟨rfl, by first | rfl | trivial⟩)
      have gO2 : volOkAt p i = false → AftF C spec_l10Vols pRLRB TX.ret (t_spec_l10Vols_2 (p.t.lows.map intC) (p.t.nodes.map nodeC) (p.ages.map ageC) (p.cells.map cellC) (p.vols.map volC) p.next p.vols[i].name p.vols[i].age p.vols[i].size p.vols[i].fx ((kidsOf p.ages p.vols[i].age).map intC)) (fun r fs => r = vB (allN p.vols.length (volOkAt p) && decide (p.vols.length ≤ 6)) ∧ fs = []) := fun e => a_spec_l10Vols_2 _ _ _ _ _ _ _ _ _ _ _ _ (by rw [← h0, e]; exact ⟨rfl, by first | rfl | trivial⟩)
      have gN : volOkAt p i = true → LoopG C spec_l10Vols pRLRB 4 0 (s_spec_l10Vols_0 ((i : Int) + 1) (p.t.lows.map intC) (p.t.nodes.map nodeC) (p.ages.map ageC) (p.cells.map cellC) (p.vols.map volC) p.next) (fun u st => AftF C spec_l10Vols pRLRB u st fun r fs => r = vB (allN p.vols.length (volOkAt p) && decide (p.vols.length ≤ 6)) ∧ fs = []) := fun e => hn (by rw [← h0, e]; rfl)
      have hin : ∀ b : Bool, ((p.vols.take i).any fun u => decide (u.age = p.vols[i].age)) = b → (b = true → volOkAt p i = false) → (b = false → volOkAt p i = true) → LoopG C spec_l10Vols pRLRBBRLBRRRB 3 2 (s_spec_l10Vols_3 i 0 (p.t.lows.map intC) (p.t.nodes.map nodeC) (p.ages.map ageC) (p.cells.map cellC) (p.vols.map volC) p.next p.vols[i].name p.vols[i].age p.vols[i].size p.vols[i].fx) (fun u st => AftL C spec_l10Vols pRLRB 4 0 pRLBRRRB u st (fun u st => AftF C spec_l10Vols pRLRB u st fun r fs => r = vB (allN p.vols.length (volOkAt p) && decide (p.vols.length ≤ 6)) ∧ fs = [])) := by
        intro b hb hbt hbf
        have keyI : (((p.vols.take i).drop 0).any fun u => decide (u.age = p.vols[i].age)) = b → LoopG C spec_l10Vols pRLRBBRLBRRRB 3 2 (s_spec_l10Vols_3 i ((0 : Nat) : Int) (p.t.lows.map intC) (p.t.nodes.map nodeC) (p.ages.map ageC) (p.cells.map cellC) (p.vols.map volC) p.next p.vols[i].name p.vols[i].age p.vols[i].size p.vols[i].fx) (fun u st => AftL C spec_l10Vols pRLRB 4 0 pRLBRRRB u st (fun u st => AftF C spec_l10Vols pRLRB u st fun r fs => r = vB (allN p.vols.length (volOkAt p) && decide (p.vols.length ≤ 6)) ∧ fs = [])) := by
          have hle : (p.vols.take i).length = i := by simp; omega
          refine idx_walk (p.vols.take i) (fun k => (((p.vols.take i).drop k).any fun u => decide (u.age = p.vols[i].age)) = b → LoopG C spec_l10Vols pRLRBBRLBRRRB 3 2 (s_spec_l10Vols_3 i k (p.t.lows.map intC) (p.t.nodes.map nodeC) (p.ages.map ageC) (p.cells.map cellC) (p.vols.map volC) p.next p.vols[i].name p.vols[i].age p.vols[i].size p.vols[i].fx) (fun u st => AftL C spec_l10Vols pRLRB 4 0 pRLBRRRB u st (fun u st => AftF C spec_l10Vols pRLRB u st fun r fs => r = vB (allN p.vols.length (volOkAt p) && decide (p.vols.length ≤ 6)) ∧ fs = []))) ?_ ?_
          · intro h1
            rw [List.drop_length] at h1
            simp only [List.any_nil] at h1
            refine r_spec_l10Vols_3 _ _ _ _ _ _ _ _ _ _ _ _ _ (brB_no (by simp; omega) (a_spec_l10Vols_6 _ _ _ _ _ _ _ _ _ _ _ _ _ ?_))
            rw [addW_eq (by omega)]
            exact gN (hbf h1.symm)
          · intro k u hk hu hd htk hn2 h1
            have hu' : p.vols[k]? = some u := by rw [← hu, List.getElem?_take]; simp; omega
            rw [hd, List.any_cons] at h1
            refine r_spec_l10Vols_3 _ _ _ _ _ _ _ _ _ _ _ _ _ (brB_yes (by simp; omega) ?_)
            rw [addW_eq (by omega)]
            simp only [ex_vol, getZ_nat, hu', Option.some.injEq, exists_eq_left', eqI_eq, brB_dec]
            by_cases h2 : u.age = p.vols[i].age
            · rw [if_pos h2]
              rw [decide_eq_true h2, Bool.true_or] at h1
              exact a_spec_l10Vols_5 _ _ _ _ _ _ _ _ _ _ _ (gO1 (hbt h1.symm))
            · rw [if_neg h2]
              rw [decide_eq_false h2, Bool.false_or] at h1
              exact hn2 h1
        exact keyI hb
      have hage : ∀ z, RunF C spec_AgeAt [vAges p.ages, vI p.vols[i].age] (vI z) [] ↔ z = ageAt p.ages p.vols[i].age := fun z => c_spec_AgeAt p.ages p.vols[i].age (by omega) z
      have hkid : ∀ z, RunF C spec_KidsOf [vAges p.ages, vI p.vols[i].age] (.c (.sub 1 z)) [] ↔ z = (kidsOf p.ages p.vols[i].age).map intC := fun z => iffL (run_spec_KidsOf p.ages p.vols[i].age (by omega))
      refine r_spec_l10Vols_0 _ _ _ _ _ _ _ _ (brB_yes (by simp; omega) ?_)
      simp only [ex_vol, getZ_nat, ha, Option.some.injEq, exists_eq_left', c_spec_NameOk p.vols[i].name hv, c_l1In, hage, hkid, exists_eq_left, brB_not, ltI_eq, brB_dec, List.length_map, Int.ofNat_eq_natCast]
      cases h1 : nameOk p.vols[i].name with
      | false => exact brB_no rfl (gO1 (by simp [volOkAt, ha, h1]))
      | true =>
        refine brB_yes rfl ?_
        cases h2 : inB p.vols[i].size 1 12 with
        | false => exact brB_no rfl (gO1 (by simp [volOkAt, ha, h2]))
        | true =>
          refine brB_yes rfl ?_
          by_cases h3 : ageAt p.ages p.vols[i].age < 0
          · rw [if_pos h3]; exact gO1 (by simp [volOkAt, ha, h3])
          · rw [if_neg h3]
            by_cases h4 : (kidsOf p.ages p.vols[i].age).length = 0
            · rw [if_neg (by omega)]
              cases i with
              | zero =>
                rw [if_neg (by omega)]
                exact hin _ rfl (fun e => by simp at e) (fun e => by simp [volOkAt, ha, h1, h2, h3, h4, pairL])
              | succ k =>
                have hk : p.vols[k]? = some p.vols[k] := List.getElem?_eq_getElem (by omega)
                rw [if_pos (by omega), subW_eq (by omega), show ((k + 1 : Nat) : Int) - 1 = (k : Int) by omega]
                simp only [getZ_nat, hk, Option.some.injEq, exists_eq_left']
                cases h5 : ltS p.vols[k].name p.vols[k + 1].name with
                | false => exact brB_no rfl (gO2 (by simp [volOkAt, ha, hk, pairL, h5]))
                | true => exact brB_yes rfl (hin _ rfl (fun e => by simp only [volOkAt, ha, e]; simp) (fun e => by simp only [volOkAt, ha, hk, pairL, h5, h1, h2, e]; simp [h3, h4]))
            · rw [if_pos (by omega)]; exact gO2 (by simp [volOkAt, ha, h4])
  exact key rfl
theorem run_impl_volsOk (p : Pool) (hS : szPool p ≤ 4194304) : RunF C impl_volsOk [vPool p] (vB (volsOk p)) [] := by
  have hP := poolS_of hS
  have hname : ∀ v ∈ p.vols, v.name.size ≤ 140737488355328 := fun v hv => by have := tot_mem (w := szVol) hv; have e : szVol v = v.name.size := rfl; omega
  refine (f_impl_volsOk _ _ _ _ _ _ _ ?_).run
  unfold volsOk
  have key : ((List.range' 0 (p.vols.length - 0)).all (volOkAt p) && decide (p.vols.length ≤ 6)) = (allN p.vols.length (volOkAt p) && decide (p.vols.length ≤ 6)) → LoopG C impl_volsOk pRLRB 4 0 (s_impl_volsOk_0 (p.vols.map volC) ((0 : Nat) : Int) (p.t.lows.map intC) (p.t.nodes.map nodeC) (p.ages.map ageC) (p.cells.map cellC) p.next) (fun u st => AftF C impl_volsOk pRLRB u st fun r fs => r = vB (allN p.vols.length (volOkAt p) && decide (p.vols.length ≤ 6)) ∧ fs = []) := by
    refine nat_walk p.vols.length (fun i => ((List.range' i (p.vols.length - i)).all (volOkAt p) && decide (p.vols.length ≤ 6)) = (allN p.vols.length (volOkAt p) && decide (p.vols.length ≤ 6)) → LoopG C impl_volsOk pRLRB 4 0 (s_impl_volsOk_0 (p.vols.map volC) i (p.t.lows.map intC) (p.t.nodes.map nodeC) (p.ages.map ageC) (p.cells.map cellC) p.next) (fun u st => AftF C impl_volsOk pRLRB u st fun r fs => r = vB (allN p.vols.length (volOkAt p) && decide (p.vols.length ≤ 6)) ∧ fs = [])) ?_ ?_
    · intro h0
      rw [Nat.sub_self] at h0
      simp only [List.range'_zero, List.all_nil, Bool.true_and] at h0
      refine r_impl_volsOk_0 _ _ _ _ _ _ _ _ (brB_no (by simp) (a_impl_volsOk_3 _ _ _ _ _ _ _ _ _ _ ?_))
      rw [← h0]
      simp [leI_eq]
      omega
    · intro i hi hn h0
      rw [range_step hi, List.all_cons] at h0
      have ha : p.vols[i]? = some p.vols[i] := List.getElem?_eq_getElem hi
      have hv := hname p.vols[i] (List.getElem_mem hi)
      have hkl := kidsOf_len p.ages p.vols[i].age
      have gO1 : volOkAt p i = false → AftF C impl_volsOk pRLRB TX.ret (t_impl_volsOk_1 (p.t.lows.map intC) (p.t.nodes.map nodeC) (p.ages.map ageC) (p.cells.map cellC) (p.vols.map volC) p.next p.vols[i].name p.vols[i].age p.vols[i].size p.vols[i].fx) (fun r fs => r = vB (allN p.vols.length (volOkAt p) && decide (p.vols.length ≤ 6)) ∧ fs = []) := fun e => a_impl_volsOk_1 _ _ _ _ _ _ _ _ _ _ _ (by rw [← h0, e]; exact ⟨rfl, by first | rfl | trivial⟩)
      have gO2 : volOkAt p i = false → AftF C impl_volsOk pRLRB TX.ret (t_impl_volsOk_2 (p.t.lows.map intC) (p.t.nodes.map nodeC) (p.ages.map ageC) (p.cells.map cellC) (p.vols.map volC) p.next p.vols[i].name p.vols[i].age p.vols[i].size p.vols[i].fx ((kidsOf p.ages p.vols[i].age).map intC)) (fun r fs => r = vB (allN p.vols.length (volOkAt p) && decide (p.vols.length ≤ 6)) ∧ fs = []) := fun e => a_impl_volsOk_2 _ _ _ _ _ _ _ _ _ _ _ _ (by rw [← h0, e]; exact ⟨rfl, by first | rfl | trivial⟩)
      have gN : volOkAt p i = true → LoopG C impl_volsOk pRLRB 4 0 (s_impl_volsOk_0 (p.vols.map volC) ((i : Int) + 1) (p.t.lows.map intC) (p.t.nodes.map nodeC) (p.ages.map ageC) (p.cells.map cellC) p.next) (fun u st => AftF C impl_volsOk pRLRB u st fun r fs => r = vB (allN p.vols.length (volOkAt p) && decide (p.vols.length ≤ 6)) ∧ fs = []) := fun e => hn (by rw [← h0, e]; rfl)
      have hage : ∀ z, RunF C impl_AgeAt [vAges p.ages, vI p.vols[i].age] (vI z) [] ↔ z = ageAt p.ages p.vols[i].age := fun z => c_impl_AgeAt p.ages p.vols[i].age (by omega) z
      have hkid : ∀ z, RunF C impl_KidsOf [vAges p.ages, vI p.vols[i].age] (.c (.sub 1 z)) [] ↔ z = (kidsOf p.ages p.vols[i].age).map intC := fun z => iffL (run_impl_KidsOf p.ages p.vols[i].age (by omega))
      have hcut : cutRows (p.vols.map volC) 0 (i : Int) = (p.vols.take i).map volC := by rw [cutRows_map, Int.toNat_natCast]; rfl
      have hcin : inCut 0 (i : Int) (p.vols.length : Int) = true := by simp; omega
      have hhas : ∀ z, RunF C slices_ContainsFunc_Vol [vVols (p.vols.take i), .fn impl_volsOk_1 [[iS p.vols[i].name, iI p.vols[i].age, iI p.vols[i].size, iB p.vols[i].fx]]] (vB z) [] ↔ z = (p.vols.take i).any fun u => decide (u.age = p.vols[i].age) := fun z => iffB (run_has_impl_volsOk_1 (p.vols.take i) _ _ _ _ (by simp; omega))
      refine r_impl_volsOk_0 _ _ _ _ _ _ _ _ (brB_yes (by simp; omega) ?_)
      simp only [hcut, ex_vol, getZ_nat, ha, Option.some.injEq, exists_eq_left', c_impl_NameOk p.vols[i].name hv, c_within, hage, hkid, hhas, exists_eq_left, brB_not, ltI_eq, brB_dec, List.length_map, Int.ofNat_eq_natCast]
      rw [addW_eq (by omega)]
      cases h1 : nameOk p.vols[i].name with
      | false => exact brB_no rfl (gO1 (by simp [volOkAt, ha, h1]))
      | true =>
        refine brB_yes rfl ?_
        cases i with
        | zero =>
          rw [if_neg (by omega)]
          cases h2 : inB p.vols[0].size 1 12 with
          | false => exact brB_no rfl (gO1 (by simp [volOkAt, ha, h2]))
          | true =>
            refine brB_yes rfl ?_
            by_cases h3 : ageAt p.ages p.vols[0].age < 0
            · rw [if_pos h3]; exact gO1 (by simp [volOkAt, ha, h3])
            · rw [if_neg h3]
              by_cases h4 : (kidsOf p.ages p.vols[0].age).length = 0
              · rw [if_neg (by omega)]
                refine brB_yes hcin ?_
                cases h6 : (p.vols.take (0)).any fun u => decide (u.age = p.vols[0].age) with
                | true => exact brB_yes rfl (gO2 (by simp only [volOkAt, ha, h6]; simp))
                | false => exact brB_no rfl (gN (by simp only [volOkAt, ha, h6, h1, h2, pairL]; simp [h3, h4]))
              · rw [if_pos (by omega)]; exact gO2 (by simp [volOkAt, ha, h4])
        | succ k =>
          have hk : p.vols[k]? = some p.vols[k] := List.getElem?_eq_getElem (by omega)
          rw [if_pos (by omega), subW_eq (by omega), show ((k + 1 : Nat) : Int) - 1 = (k : Int) by omega]
          simp only [getZ_nat, hk, Option.some.injEq, exists_eq_left']
          cases h5 : ltS p.vols[k].name p.vols[k + 1].name with
          | false => exact brB_no rfl (gO1 (by simp [volOkAt, ha, hk, pairL, h5]))
          | true =>
            refine brB_yes rfl ?_
            cases h2 : inB p.vols[k + 1].size 1 12 with
            | false => exact brB_no rfl (gO1 (by simp [volOkAt, ha, h2]))
            | true =>
              refine brB_yes rfl ?_
              by_cases h3 : ageAt p.ages p.vols[k + 1].age < 0
              · rw [if_pos h3]; exact gO1 (by simp [volOkAt, ha, h3])
              · rw [if_neg h3]
                by_cases h4 : (kidsOf p.ages p.vols[k + 1].age).length = 0
                · rw [if_neg (by omega)]
                  refine brB_yes hcin ?_
                  cases h6 : (p.vols.take (k + 1)).any fun u => decide (u.age = p.vols[k + 1].age) with
                  | true => exact brB_yes rfl (gO2 (by simp only [volOkAt, ha, h6]; simp))
                  | false => exact brB_no rfl (gN (by simp only [volOkAt, ha, h6, h1, h2, pairL, hk, h5]; simp [h3, h4]))
                · rw [if_pos (by omega)]; exact gO2 (by simp [volOkAt, ha, h4])
  exact key rfl
theorem numI24 : numI 24 = 24 := by unfold numI; rfl
theorem g24 {n : Nat} (h : n ≤ 1000) : (true && eqI 24 24 && leI 0 24 && fits (numI 24) n) = true := by rw [numI24, fitsT (by omega)]; simp
theorem taken0 : (takenOf []).map boolC = List.replicate 24 [iB false] := by rw [takenOf_nil]; rfl
theorem run_spec_l10Keys (p : Pool) (hS : szPool p ≤ 4194304) : RunF C spec_l10Keys [vPool p] (vB (keysFit p)) [] := by
  have hP := poolS_of hS
  have htl := treeKeys_len p.t
  refine (f_spec_l10Keys _ _ _ _ _ _ _ ?_).run
  refine ⟨_, run_spec_TreeKeys p.t (by omega), ?_⟩
  unfold keysFit
  generalize treeKeys p.t = L at *
  have hdk : dataKeys L ≤ L.length := List.length_filter_le _ _
  have key : ∀ c : Nat, c + dataKeys (L.drop 0) = dataKeys L → ((List.range' 0 (L.length - 0)).all (keyFitAt p L) && decide ((usedCells p.cells : Int) = dataKeys L)) = (allN L.length (keyFitAt p L) && decide ((usedCells p.cells : Int) = dataKeys L)) → LoopG C spec_l10Keys pRRRLRB 4 0 (s_spec_l10Keys_0 (c : Int) ((0 : Nat) : Int) (p.t.lows.map intC) (p.t.nodes.map nodeC) (p.ages.map ageC) (p.cells.map cellC) (p.vols.map volC) p.next (L.map keyC)) (fun u st => AftF C spec_l10Keys pRRRLRB u st fun r fs => r = vB (allN L.length (keyFitAt p L) && decide ((usedCells p.cells : Int) = dataKeys L)) ∧ fs = []) := by
    refine nat_walk L.length (fun i => ∀ c : Nat, c + dataKeys (L.drop i) = dataKeys L → ((List.range' i (L.length - i)).all (keyFitAt p L) && decide ((usedCells p.cells : Int) = dataKeys L)) = (allN L.length (keyFitAt p L) && decide ((usedCells p.cells : Int) = dataKeys L)) → LoopG C spec_l10Keys pRRRLRB 4 0 (s_spec_l10Keys_0 (c : Int) i (p.t.lows.map intC) (p.t.nodes.map nodeC) (p.ages.map ageC) (p.cells.map cellC) (p.vols.map volC) p.next (L.map keyC)) (fun u st => AftF C spec_l10Keys pRRRLRB u st fun r fs => r = vB (allN L.length (keyFitAt p L) && decide ((usedCells p.cells : Int) = dataKeys L)) ∧ fs = [])) ?_ ?_
    · intro c hc h0
      rw [Nat.sub_self] at h0
      simp only [List.range'_zero, List.all_nil, Bool.true_and] at h0
      rw [List.drop_length] at hc
      have hc0 : c = dataKeys L := by simpa [dataKeys] using hc
      subst hc0
      refine r_spec_l10Keys_0 _ _ _ _ _ _ _ _ _ _ (brB_no (by simp) (a_spec_l10Keys_3 _ _ _ _ _ _ _ _ _ _ _ ⟨_, run_spec_UsedCells p.cells (by omega), ?_⟩))
      rw [← h0]
      refine ⟨?_, by first | rfl | trivial⟩
      simp [eqI_eq, eq_comm]
    · intro i hi hn c hc h0
      rw [range_step hi, List.all_cons] at h0
      have ha : L[i]? = some L[i] := List.getElem?_eq_getElem hi
      rw [List.drop_eq_getElem_cons hi, dataKeys_cons] at hc
      have gO1 : keyFitAt p L i = false → AftF C spec_l10Keys pRRRLRB TX.ret (t_spec_l10Keys_1 (p.t.lows.map intC) (p.t.nodes.map nodeC) (p.ages.map ageC) (p.cells.map cellC) (p.vols.map volC) p.next (L.map keyC)) (fun r fs => r = vB (allN L.length (keyFitAt p L) && decide ((usedCells p.cells : Int) = dataKeys L)) ∧ fs = []) := fun e => a_spec_l10Keys_1 _ _ _ _ _ _ _ _ (by rw [← h0, e]; exact ⟨rfl, by first | rfl | trivial⟩)
      have gN : ∀ c' : Nat, c' + dataKeys (L.drop (i + 1)) = dataKeys L → keyFitAt p L i = true → LoopG C spec_l10Keys pRRRLRB 4 0 (s_spec_l10Keys_0 (c' : Int) ((i : Int) + 1) (p.t.lows.map intC) (p.t.nodes.map nodeC) (p.ages.map ageC) (p.cells.map cellC) (p.vols.map volC) p.next (L.map keyC)) (fun u st => AftF C spec_l10Keys pRRRLRB u st fun r fs => r = vB (allN L.length (keyFitAt p L) && decide ((usedCells p.cells : Int) = dataKeys L)) ∧ fs = []) := fun c' e' e => hn c' e' (by rw [← h0, e]; rfl)
      have hin : ∀ b : Bool, ((L.take i).any fun x => decide (x.k = 1) && decide (x.c = L[i].c)) = b → (b = true → keyFitAt p L i = false) → (b = false → keyFitAt p L i = true) → L[i].k = 1 → LoopG C spec_l10Keys pRRRLRBBRLBRRRRRRB 3 2 (s_spec_l10Keys_2 c i 0 (p.t.lows.map intC) (p.t.nodes.map nodeC) (p.ages.map ageC) (p.cells.map cellC) (p.vols.map volC) p.next (L.map keyC)) (fun u st => AftL C spec_l10Keys pRRRLRB 4 0 pRLBRRRRRRB u st (fun u st => AftF C spec_l10Keys pRRRLRB u st fun r fs => r = vB (allN L.length (keyFitAt p L) && decide ((usedCells p.cells : Int) = dataKeys L)) ∧ fs = [])) := by
        intro b hb hbt hbf hk1
        rw [if_pos hk1] at hc
        have keyI : (((L.take i).drop 0).any fun x => decide (x.k = 1) && decide (x.c = L[i].c)) = b → LoopG C spec_l10Keys pRRRLRBBRLBRRRRRRB 3 2 (s_spec_l10Keys_2 c i ((0 : Nat) : Int) (p.t.lows.map intC) (p.t.nodes.map nodeC) (p.ages.map ageC) (p.cells.map cellC) (p.vols.map volC) p.next (L.map keyC)) (fun u st => AftL C spec_l10Keys pRRRLRB 4 0 pRLBRRRRRRB u st (fun u st => AftF C spec_l10Keys pRRRLRB u st fun r fs => r = vB (allN L.length (keyFitAt p L) && decide ((usedCells p.cells : Int) = dataKeys L)) ∧ fs = [])) := by
          have hle : (L.take i).length = i := by simp; omega
          refine idx_walk (L.take i) (fun k => (((L.take i).drop k).any fun x => decide (x.k = 1) && decide (x.c = L[i].c)) = b → LoopG C spec_l10Keys pRRRLRBBRLBRRRRRRB 3 2 (s_spec_l10Keys_2 c i k (p.t.lows.map intC) (p.t.nodes.map nodeC) (p.ages.map ageC) (p.cells.map cellC) (p.vols.map volC) p.next (L.map keyC)) (fun u st => AftL C spec_l10Keys pRRRLRB 4 0 pRLBRRRRRRB u st (fun u st => AftF C spec_l10Keys pRRRLRB u st fun r fs => r = vB (allN L.length (keyFitAt p L) && decide ((usedCells p.cells : Int) = dataKeys L)) ∧ fs = []))) ?_ ?_
          · intro h1
            rw [List.drop_length] at h1
            simp only [List.any_nil] at h1
            refine r_spec_l10Keys_2 _ _ _ _ _ _ _ _ _ _ _ (brB_no (by simp; omega) (a_spec_l10Keys_5 _ _ _ _ _ _ _ _ _ _ _ ?_))
            rw [addW_eq (by omega), addW_eq (by omega)]
            exact gN (c + 1) (by omega) (hbf h1.symm)
          · intro k u hk hu hd htk hn2 h1
            have hu' : L[k]? = some u := by rw [← hu, List.getElem?_take]; simp; omega
            rw [hd, List.any_cons] at h1
            refine r_spec_l10Keys_2 _ _ _ _ _ _ _ _ _ _ _ (brB_yes (by simp; omega) ?_)
            rw [addW_eq (by omega)]
            simp only [ex_key, getZ_nat, hu', ha, Option.some.injEq, exists_eq_left', eqI_eq, brB_dec]
            by_cases h3 : u.k = 1
            · rw [if_pos h3]
              by_cases h2 : u.c = L[i].c
              · rw [if_pos h2]
                rw [decide_eq_true h3, decide_eq_true h2, Bool.and_self, Bool.true_or] at h1
                exact a_spec_l10Keys_4 _ _ _ _ _ _ _ _ (gO1 (hbt h1.symm))
              · rw [if_neg h2]
                rw [decide_eq_false h2, Bool.and_false, Bool.false_or] at h1
                exact hn2 h1
            · rw [if_neg h3]
              rw [decide_eq_false h3, Bool.false_and, Bool.false_or] at h1
              exact hn2 h1
        exact keyI hb
      have hage : ∀ z, RunF C spec_AgeAt [vAges p.ages, vI L[i].a] (vI z) [] ↔ z = ageAt p.ages L[i].a := fun z => c_spec_AgeAt p.ages L[i].a (by omega) z
      have hcell : ∀ n b, RunF C spec_CellAt [vCells p.cells, vI L[i].c, vI L[i].g] (.tu [(0, [iI n]), (0, [iB b])]) [] ↔ n = (cellAt p.cells L[i].c L[i].g).1 ∧ b = (cellAt p.cells L[i].c L[i].g).2 := fun n b => c_spec_CellAt p.cells (by omega) _ _ n b
      refine r_spec_l10Keys_0 _ _ _ _ _ _ _ _ _ _ (brB_yes (by simp; omega) ?_)
      simp only [ex_key, getZ_nat, ha, Option.some.injEq, exists_eq_left', hage, hcell, and_assoc, exists_and_left, exists_eq_left, ltI_eq, eqI_eq, brB_not, brB_dec]
      rw [addW_eq (a := (i : Int)) (by omega)]
      by_cases h1 : ageAt p.ages L[i].a < 0
      · rw [if_pos h1]; exact gO1 (by simp [keyFitAt, ha, h1])
      · rw [if_neg h1]
        by_cases h2 : L[i].k = 1
        · rw [if_pos h2]
          cases h3 : (cellAt p.cells L[i].c L[i].g).2 with
          | false => exact brB_no rfl (gO1 (by simp [keyFitAt, ha, h2, h3]))
          | true =>
            refine brB_yes rfl ?_
            exact hin _ rfl (fun e => by simp only [keyFitAt, ha, e, h2]; simp) (fun e => by simp only [keyFitAt, ha, e, h2, h3]; simp [h1]) h2
        · rw [if_neg h2]
          rw [if_neg h2] at hc
          exact gN c (by omega) (by simp [keyFitAt, ha, h1, h2])
  exact key 0 (by simp) rfl
theorem run_impl_keysFit (p : Pool) (hS : szPool p ≤ 4194304) (h24 : p.cells.length = 24) : RunF C impl_keysFit [vPool p] (vB (keysFit p)) [] := by
  have hP := poolS_of hS
  have htl := treeKeys_len p.t
  refine (f_impl_keysFit _ _ _ _ _ _ _ ?_).run
  refine brB_yes (g24 (by omega)) ⟨_, run_impl_TreeKeys p.t (by omega), ?_⟩
  unfold keysFit
  generalize treeKeys p.t = L at *
  have hdk : dataKeys L ≤ L.length := List.length_filter_le _ _
  have key : ∀ c : Nat, c + dataKeys (L.drop 0) = dataKeys L → ((List.range' 0 (L.length - 0)).all (keyFitAt p L) && decide ((usedCells p.cells : Int) = dataKeys L)) = (allN L.length (keyFitAt p L) && decide ((usedCells p.cells : Int) = dataKeys L)) → LoopG C impl_keysFit pRRRLRB 4 0 (s_impl_keysFit_0 (c : Int) (L.map keyC) ((0 : Nat) : Int) (p.t.lows.map intC) (p.t.nodes.map nodeC) (p.ages.map ageC) (p.cells.map cellC) (p.vols.map volC) p.next ((takenOf (L.take 0)).map boolC)) (fun u st => AftF C impl_keysFit pRRRLRB u st fun r fs => r = vB (allN L.length (keyFitAt p L) && decide ((usedCells p.cells : Int) = dataKeys L)) ∧ fs = []) := by
    refine nat_walk L.length (fun i => ∀ c : Nat, c + dataKeys (L.drop i) = dataKeys L → ((List.range' i (L.length - i)).all (keyFitAt p L) && decide ((usedCells p.cells : Int) = dataKeys L)) = (allN L.length (keyFitAt p L) && decide ((usedCells p.cells : Int) = dataKeys L)) → LoopG C impl_keysFit pRRRLRB 4 0 (s_impl_keysFit_0 (c : Int) (L.map keyC) i (p.t.lows.map intC) (p.t.nodes.map nodeC) (p.ages.map ageC) (p.cells.map cellC) (p.vols.map volC) p.next ((takenOf (L.take i)).map boolC)) (fun u st => AftF C impl_keysFit pRRRLRB u st fun r fs => r = vB (allN L.length (keyFitAt p L) && decide ((usedCells p.cells : Int) = dataKeys L)) ∧ fs = [])) ?_ ?_
    · intro c hc h0
      rw [Nat.sub_self] at h0
      simp only [List.range'_zero, List.all_nil, Bool.true_and] at h0
      rw [List.drop_length] at hc
      have hc0 : c = dataKeys L := by simpa [dataKeys] using hc
      subst hc0
      refine r_impl_keysFit_0 _ _ _ _ _ _ _ _ _ _ _ (brB_no (by simp) (a_impl_keysFit_2 _ _ _ _ _ _ _ _ _ _ _ _ _ ⟨_, run_impl_UsedCells p.cells (by omega), ?_⟩))
      rw [← h0]
      refine ⟨?_, by first | rfl | trivial⟩
      simp [eqI_eq, eq_comm]
    · intro i hi hn c hc h0
      rw [range_step hi, List.all_cons] at h0
      have ha : L[i]? = some L[i] := List.getElem?_eq_getElem hi
      rw [List.drop_eq_getElem_cons hi, dataKeys_cons] at hc
      have gO1 : ∀ u, keyFitAt p L i = false → AftF C impl_keysFit pRRRLRB TX.ret (t_impl_keysFit_1 (p.t.lows.map intC) (p.t.nodes.map nodeC) (p.ages.map ageC) (p.cells.map cellC) (p.vols.map volC) p.next L[i].b L[i].a L[i].k L[i].c L[i].g u (L.map keyC)) (fun r fs => r = vB (allN L.length (keyFitAt p L) && decide ((usedCells p.cells : Int) = dataKeys L)) ∧ fs = []) := fun u e => a_impl_keysFit_1 _ _ _ _ _ _ _ _ _ _ _ _ _ _ (by rw [← h0, e]; exact ⟨rfl, by first | rfl | trivial⟩)
      have ht1 : L.take (i + 1) = L.take i ++ [L[i]] := by rw [List.take_add_one, ha]; rfl
      have gN : ∀ c' : Nat, c' + dataKeys (L.drop (i + 1)) = dataKeys L → keyFitAt p L i = true → LoopG C impl_keysFit pRRRLRB 4 0 (s_impl_keysFit_0 (c' : Int) (L.map keyC) ((i : Int) + 1) (p.t.lows.map intC) (p.t.nodes.map nodeC) (p.ages.map ageC) (p.cells.map cellC) (p.vols.map volC) p.next ((takenOf (L.take (i + 1))).map boolC)) (fun u st => AftF C impl_keysFit pRRRLRB u st fun r fs => r = vB (allN L.length (keyFitAt p L) && decide ((usedCells p.cells : Int) = dataKeys L)) ∧ fs = []) := fun c' e' e => hn c' e' (by rw [← h0, e]; rfl)
      have hage : ∀ z, RunF C impl_AgeAt [vAges p.ages, vI L[i].a] (vI z) [] ↔ z = ageAt p.ages L[i].a := fun z => c_impl_AgeAt p.ages L[i].a (by omega) z
      have hcell : ∀ n b, RunF C impl_CellAt [vCells p.cells, vI L[i].c, vI L[i].g] (.tu [(0, [iI n]), (0, [iB b])]) [] ↔ n = (cellAt p.cells L[i].c L[i].g).1 ∧ b = (cellAt p.cells L[i].c L[i].g).2 := fun n b => c_impl_CellAt p.cells (by omega) _ _ n b
      refine r_impl_keysFit_0 _ _ _ _ _ _ _ _ _ _ _ (brB_yes (by simp; omega) ?_)
      simp only [ex_key, getZ_nat, ha, Option.some.injEq, exists_eq_left', hage, hcell, and_assoc, exists_and_left, exists_eq_left, ltI_eq, eqI_eq, brB_not, brB_dec]
      rw [addW_eq (a := (i : Int)) (by omega)]
      by_cases h1 : ageAt p.ages L[i].a < 0
      · rw [if_pos h1]; exact gO1 _ (by simp [keyFitAt, ha, h1])
      · rw [if_neg h1]
        by_cases h2 : L[i].k = 1
        · rw [if_pos h2]
          cases h3 : (cellAt p.cells L[i].c L[i].g).2 with
          | false => exact brB_no rfl (gO1 _ (by simp [keyFitAt, ha, h2, h3]))
          | true =>
            refine brB_yes rfl ?_
            have hci := cellAt_in h3
            rw [h24] at hci
            simp only [ex_bool, takenOf_get (L.take i) hci, Option.some.injEq, exists_eq_left', exists_eq_left, sr_bool]
            cases h4 : (L.take i).any fun x => decide (x.k = 1) && decide (x.c = L[i].c) with
            | true => exact brB_yes rfl (gO1 _ (by simp only [keyFitAt, ha, h4, h2]; simp))
            | false =>
              refine brB_no rfl ?_
              rw [takenOf_add (L.take i) L[i] h2 hci, ← ht1, addW_eq (a := (c : Int)) (by omega)]
              rw [if_pos h2] at hc
              exact gN (c + 1) (by omega) (by simp only [keyFitAt, ha, h4, h2, h3]; simp [h1])
        · rw [if_neg h2]
          rw [if_neg h2] at hc
          have hg := gN c (by omega) (by simp [keyFitAt, ha, h1, h2])
          rw [ht1, takenOf_skip _ _ h2] at hg
          exact hg
  rw [numI24, ← taken0]; exact key 0 (by simp) rfl
def ageBel (n : Int) (a : Age) : Bool := decide (a.id < n)
theorem poolOk_eq (p : Pool) : poolOk p = (p.ages.all (ageBel p.next) && (treeOk p.t && (agesOk p.ages && (cellsOk p.cells && (inB p.next 1 61 && (volsOk p && keysFit p)))))) := rfl
theorem cells24 {l : List Cell} (h : cellsOk l = true) : l.length = 24 := by simp [cellsOk] at h; omega
theorem run0_spec_PoolOk (p : Pool) (hS : szPool p ≤ 4194304) : RunF C spec_PoolOk [vPool p] (vB ((p.ages.all (ageBel p.next) && (treeOk p.t && (agesOk p.ages && (cellsOk p.cells && (inB p.next 1 61 && (volsOk p && keysFit p)))))))) [] := by
  refine (f_spec_PoolOk _ _ _ _ _ _ _ ?_).run
  have hP := poolS_of hS
  have htl := treeKeys_len p.t
  have key : ((p.ages.drop 0).all (ageBel p.next) && (treeOk p.t && (agesOk p.ages && (cellsOk p.cells && (inB p.next 1 61 && (volsOk p && keysFit p)))))) = (p.ages.all (ageBel p.next) && (treeOk p.t && (agesOk p.ages && (cellsOk p.cells && (inB p.next 1 61 && (volsOk p && keysFit p)))))) → LoopG C spec_PoolOk pRLRB 4 0 (s_spec_PoolOk_0 ((0 : Nat) : Int) (p.t.lows.map intC) (p.t.nodes.map nodeC) (p.ages.map ageC) (p.cells.map cellC) (p.vols.map volC) p.next) (fun u st => AftF C spec_PoolOk pRLRB u st fun r fs => r = vB ((p.ages.all (ageBel p.next) && (treeOk p.t && (agesOk p.ages && (cellsOk p.cells && (inB p.next 1 61 && (volsOk p && keysFit p))))))) ∧ fs = []) := by
    refine idx_walk p.ages (fun i => ((p.ages.drop i).all (ageBel p.next) && (treeOk p.t && (agesOk p.ages && (cellsOk p.cells && (inB p.next 1 61 && (volsOk p && keysFit p)))))) = (p.ages.all (ageBel p.next) && (treeOk p.t && (agesOk p.ages && (cellsOk p.cells && (inB p.next 1 61 && (volsOk p && keysFit p)))))) → LoopG C spec_PoolOk pRLRB 4 0 (s_spec_PoolOk_0 i (p.t.lows.map intC) (p.t.nodes.map nodeC) (p.ages.map ageC) (p.cells.map cellC) (p.vols.map volC) p.next) (fun u st => AftF C spec_PoolOk pRLRB u st fun r fs => r = vB ((p.ages.all (ageBel p.next) && (treeOk p.t && (agesOk p.ages && (cellsOk p.cells && (inB p.next 1 61 && (volsOk p && keysFit p))))))) ∧ fs = [])) ?_ ?_
    · intro h0
      refine r_spec_PoolOk_0 _ _ _ _ _ _ _ _ (brB_no (by simp) (a_spec_PoolOk_2 _ _ _ _ _ _ _ _ _ ?_))
      rw [List.drop_length] at h0
      simp only [List.all_nil, Bool.true_and] at h0
      rw [← h0]
      refine ⟨_, run_spec_TreeOk p.t (by omega), ?_⟩
      cases h1 : treeOk p.t with
      | false => exact brB_no rfl ⟨rfl, by first | rfl | trivial⟩
      | true =>
        refine brB_yes rfl ⟨_, (c_spec_AgesOk p.ages (by omega) (agesOk p.ages)).2 rfl, ?_⟩
        cases h2 : agesOk p.ages with
        | false => exact brB_no rfl ⟨rfl, by first | rfl | trivial⟩
        | true =>
          refine brB_yes rfl ⟨_, (c_spec_CellsOk p.cells (by omega) (cellsOk p.cells)).2 rfl, ?_⟩
          cases h3 : cellsOk p.cells with
          | false => exact brB_no rfl ⟨rfl, by first | rfl | trivial⟩
          | true =>
            refine brB_yes rfl ⟨_, run_l1In p.next 1 61, ?_⟩
            cases h4 : inB p.next 1 61 with
            | false => exact brB_no rfl ⟨rfl, by first | rfl | trivial⟩
            | true =>
              refine brB_yes rfl ⟨_, run_spec_l10Vols p hS, ?_⟩
              cases h5 : volsOk p with
              | false => exact brB_no rfl ⟨rfl, by first | rfl | trivial⟩
              | true => exact brB_yes rfl ⟨_, run_spec_l10Keys p hS, ⟨rfl, by first | rfl | trivial⟩⟩
    · intro i a hi ha hd htk hn h0
      have gO : (ageBel p.next) a = false → (p.ages.all (ageBel p.next) && (treeOk p.t && (agesOk p.ages && (cellsOk p.cells && (inB p.next 1 61 && (volsOk p && keysFit p)))))) = false := fun e => by rw [← h0, hd]; simp [e]
      have gN : (ageBel p.next) a = true → LoopG C spec_PoolOk pRLRB 4 0 (s_spec_PoolOk_0 ((i : Int) + 1) (p.t.lows.map intC) (p.t.nodes.map nodeC) (p.ages.map ageC) (p.cells.map cellC) (p.vols.map volC) p.next) (fun u st => AftF C spec_PoolOk pRLRB u st fun r fs => r = vB ((p.ages.all (ageBel p.next) && (treeOk p.t && (agesOk p.ages && (cellsOk p.cells && (inB p.next 1 61 && (volsOk p && keysFit p))))))) ∧ fs = []) := fun e => hn (by rw [← h0, hd]; simp [e])
      refine r_spec_PoolOk_0 _ _ _ _ _ _ _ _ (brB_yes (by simp; omega) ?_)
      simp only [ex_age, getZ_nat, ha, Option.some.injEq, exists_eq_left', leI_eq, brB_dec]
      rw [addW_eq (by omega)]
      by_cases h1 : p.next ≤ a.id
      · rw [if_pos h1]; exact a_spec_PoolOk_1 _ _ _ _ _ _ _ (by rw [gO (by simp [ageBel]; omega)]; exact ⟨rfl, by first | rfl | trivial⟩)
      · rw [if_neg h1]; exact gN (by simp [ageBel]; omega)
  exact key rfl
theorem run_spec_PoolOk (p : Pool) (hS : szPool p ≤ 4194304) : RunF C spec_PoolOk [vPool p] (vB (poolOk p)) [] := run0_spec_PoolOk p hS
theorem run_impl_PoolOk (p : Pool) (hS : szPool p ≤ 4194304) : RunF C impl_PoolOk [vPool p] (vB (poolOk p)) [] := by
  have hP := poolS_of hS
  rw [poolOk_eq]
  refine (f_impl_PoolOk _ _ _ _ _ _ _ ?_).run
  refine ⟨_, run_impl_TreeOk p.t (by omega), ?_⟩
  cases h1 : treeOk p.t with
  | false => exact brB_yes rfl ⟨by simp, by first | rfl | trivial⟩
  | true =>
    refine brB_no rfl ⟨_, (c_impl_AgesOk p.ages (by omega) (agesOk p.ages)).2 rfl, ?_⟩
    cases h2 : agesOk p.ages with
    | false => exact brB_yes rfl ⟨by simp, by first | rfl | trivial⟩
    | true =>
      refine brB_no rfl ⟨_, (c_impl_CellsOk p.cells (by omega) (cellsOk p.cells)).2 rfl, ?_⟩
      cases h3 : cellsOk p.cells with
      | false => exact brB_yes rfl ⟨by simp, by first | rfl | trivial⟩
      | true =>
        refine brB_no rfl ⟨_, run_within p.next 1 61, ?_⟩
        cases h4 : inB p.next 1 61 with
        | false => exact brB_yes rfl ⟨by simp, by first | rfl | trivial⟩
        | true =>
          refine brB_no rfl ?_
          simp only [Bool.true_and]
          have key : ((p.ages.drop 0).all (ageBel p.next) && (volsOk p && keysFit p)) = (p.ages.all (ageBel p.next) && (volsOk p && keysFit p)) → LoopG C impl_PoolOk pRRLRB 4 0 (s_impl_PoolOk_0 (p.ages.map ageC) ((0 : Nat) : Int) (p.t.lows.map intC) (p.t.nodes.map nodeC) (p.cells.map cellC) (p.vols.map volC) p.next) (fun u st => AftF C impl_PoolOk pRRLRB u st fun r fs => r = vB (p.ages.all (ageBel p.next) && (volsOk p && keysFit p)) ∧ fs = []) := by
            refine idx_walk p.ages (fun i => ((p.ages.drop i).all (ageBel p.next) && (volsOk p && keysFit p)) = (p.ages.all (ageBel p.next) && (volsOk p && keysFit p)) → LoopG C impl_PoolOk pRRLRB 4 0 (s_impl_PoolOk_0 (p.ages.map ageC) i (p.t.lows.map intC) (p.t.nodes.map nodeC) (p.cells.map cellC) (p.vols.map volC) p.next) (fun u st => AftF C impl_PoolOk pRRLRB u st fun r fs => r = vB (p.ages.all (ageBel p.next) && (volsOk p && keysFit p)) ∧ fs = [])) ?_ ?_
            · intro h0
              rw [List.drop_length] at h0
              simp only [List.all_nil, Bool.true_and] at h0
              refine r_impl_PoolOk_0 _ _ _ _ _ _ _ _ (brB_no (by simp) (a_impl_PoolOk_2 _ _ _ _ _ _ _ _ _ _ ⟨_, run_impl_volsOk p hS, ?_⟩))
              rw [← h0]
              cases h5 : volsOk p with
              | false => exact brB_no rfl ⟨rfl, by first | rfl | trivial⟩
              | true => exact brB_yes rfl ⟨_, run_impl_keysFit p hS (cells24 h3), ⟨rfl, by first | rfl | trivial⟩⟩
            · intro i a hi ha hd htk hn h0
              rw [hd, List.all_cons] at h0
              refine r_impl_PoolOk_0 _ _ _ _ _ _ _ _ (brB_yes (by simp; omega) ?_)
              simp only [ex_age, getZ_nat, ha, Option.some.injEq, exists_eq_left', leI_eq, brB_dec]
              rw [addW_eq (by omega)]
              by_cases h5 : p.next ≤ a.id
              · rw [if_pos h5]
                have e : ageBel p.next a = false := by simp [ageBel]; omega
                exact a_impl_PoolOk_1 _ _ _ _ _ _ _ _ _ (by rw [← h0, e]; exact ⟨rfl, by first | rfl | trivial⟩)
              · rw [if_neg h5]
                have e : ageBel p.next a = true := by simp [ageBel]; omega
                exact hn (by rw [← h0, e]; rfl)
          exact key rfl
theorem run_spec_l9Copy (l : List Cell) (hl : l.length ≤ 1073741824) : RunF C spec_l9Copy [vCells l] (vCells l) [] := by
  refine (f_spec_l9Copy _ _ ?_).run
  rw [show allSc (l.map cellC) = true from by simp [allSc_cell], fitsT (by simp; omega)]
  exact ⟨rfl, by first | rfl | trivial⟩
theorem run_impl_copyCells (l : List Cell) (hl : l.length ≤ 1073741824) : RunF C impl_copyCells [vCells l] (vCells l) [] := by
  refine (f_impl_copyCells _ _ ?_).run
  rw [show allSc (l.map cellC) = true from by simp [allSc_cell], fitsT (by simp; omega)]
  exact ⟨rfl, by first | rfl | trivial⟩
theorem run_impl_copyInts (l : List Int) (hl : l.length ≤ 1073741824) : RunF C impl_copyInts [vInts l] (vInts l) [] := by
  refine (f_impl_copyInts _ _ ?_).run
  rw [show allSc (l.map intC) = true from allSc_int _, fitsT (by simp; omega)]
  exact ⟨rfl, by first | rfl | trivial⟩
theorem run_impl_copyAges (l : List Age) (hl : l.length ≤ 1073741824) : RunF C impl_copyAges [vAges l] (vAges l) [] := by
  refine (f_impl_copyAges _ _ ?_).run
  rw [show allSc (l.map ageC) = true from allSc_age _, fitsT (by simp; omega)]
  exact ⟨rfl, by first | rfl | trivial⟩
theorem run_impl_copyNode (n : List (List Key)) (hl : n.length ≤ 1073741824) (hs : ∀ s ∈ n, s.length ≤ 1073741824) : RunF C impl_copyNode [vNode n] (vNode n) [] := by
  refine (f_impl_copyNode _ _ ?_).run
  skip
  have key : ((0 : Nat) = 0 → LoopG C impl_copyNode pRRLRB 4 0 (s_impl_copyNode_0 (n.map setC)) (fun u st => AftF C impl_copyNode pRRLRB u st fun r fs => r = (vNode n) ∧ fs = [])) ∧ (0 < (0 : Nat) → LoopG C impl_copyNode pRRLRB 4 0 (s_impl_copyNode_1 (n.map setC) ((0 : Nat) : Int) ((n.take 0).map setC)) (fun u st => AftF C impl_copyNode pRRLRB u st fun r fs => r = (vNode n) ∧ fs = [])) := by
    refine idx_walk n (fun i => (i = 0 → LoopG C impl_copyNode pRRLRB 4 0 (s_impl_copyNode_0 (n.map setC)) (fun u st => AftF C impl_copyNode pRRLRB u st fun r fs => r = (vNode n) ∧ fs = [])) ∧ (0 < i → LoopG C impl_copyNode pRRLRB 4 0 (s_impl_copyNode_1 (n.map setC) i ((n.take i).map setC)) (fun u st => AftF C impl_copyNode pRRLRB u st fun r fs => r = (vNode n) ∧ fs = []))) ?_ ?_
    · refine ⟨fun h => ?_, fun h => ?_⟩
      · have hnil : n = [] := List.length_eq_zero_iff.1 h
        refine r_impl_copyNode_0 _ _ (brB_no (by simp [h]) (a_impl_copyNode_2 _ _ _ _ ⟨?_, by first | rfl | trivial⟩))
        simp [hnil]
      · rw [List.take_length]
        exact r_impl_copyNode_1 _ _ _ _ (brB_no (by simp) (a_impl_copyNode_3 _ _ _ _ _ _ ⟨rfl, by first | rfl | trivial⟩))
    · intro i a hi ha hd htk hn
      have hmem := List.mem_of_getElem? ha
      refine ⟨fun h => ?_, fun h => ?_⟩
      · subst h
        have hz : getZ n 0 = some a := (getZ_nat n 0).trans ha
        have hn2 := hn.2 (by omega)
        rw [htk] at hn2
        refine r_impl_copyNode_0 _ _ (brB_yes (by simp; omega) ?_)
        simp only [ex_set, hz, Option.some.injEq, exists_eq_left']
        refine ⟨_, run_impl_copyKeys a (by have := hs a hmem; omega), brB_yes (fitsT (by simp; try omega)) ?_⟩
        rw [addW_eq (by omega)]
        exact hn2
      · have hn2 := hn.2 (by omega)
        rw [htk] at hn2
        refine r_impl_copyNode_1 _ _ _ _ (brB_yes (by simp; omega) ?_)
        simp only [ex_set, getZ_nat, ha, Option.some.injEq, exists_eq_left']
        refine ⟨_, run_impl_copyKeys a (by have := hs a hmem; omega), brB_yes (fitsT (by simp; try omega)) ?_⟩
        rw [addW_eq (by omega)]
        rw [List.map_append] at hn2
        exact hn2
  exact key.1 rfl
theorem run_spec_l5Copy (n : List (List Key)) (hl : n.length ≤ 1073741824) (hs : ∀ s ∈ n, s.length ≤ 1073741824) : RunF C spec_l5Copy [vNode n] (vNode n) [] := by
  refine (f_spec_l5Copy _ _ ?_).run
  skip
  have key : ((0 : Nat) = 0 → LoopG C spec_l5Copy pRRLRB 4 0 (s_spec_l5Copy_0 (n.map setC)) (fun u st => AftF C spec_l5Copy pRRLRB u st fun r fs => r = (vNode n) ∧ fs = [])) ∧ (0 < (0 : Nat) → LoopG C spec_l5Copy pRRLRB 4 0 (s_spec_l5Copy_1 ((0 : Nat) : Int) (n.map setC) ((n.take 0).map setC)) (fun u st => AftF C spec_l5Copy pRRLRB u st fun r fs => r = (vNode n) ∧ fs = [])) := by
    refine idx_walk n (fun i => (i = 0 → LoopG C spec_l5Copy pRRLRB 4 0 (s_spec_l5Copy_0 (n.map setC)) (fun u st => AftF C spec_l5Copy pRRLRB u st fun r fs => r = (vNode n) ∧ fs = [])) ∧ (0 < i → LoopG C spec_l5Copy pRRLRB 4 0 (s_spec_l5Copy_1 i (n.map setC) ((n.take i).map setC)) (fun u st => AftF C spec_l5Copy pRRLRB u st fun r fs => r = (vNode n) ∧ fs = []))) ?_ ?_
    · refine ⟨fun h => ?_, fun h => ?_⟩
      · have hnil : n = [] := List.length_eq_zero_iff.1 h
        refine r_spec_l5Copy_0 _ _ (brB_no (by simp [h]) (a_spec_l5Copy_2 _ _ _ ⟨?_, by first | rfl | trivial⟩))
        simp [hnil]
      · rw [List.take_length]
        exact r_spec_l5Copy_1 _ _ _ _ (brB_no (by simp) (a_spec_l5Copy_3 _ _ _ _ _ ⟨rfl, by first | rfl | trivial⟩))
    · intro i a hi ha hd htk hn
      have hmem := List.mem_of_getElem? ha
      refine ⟨fun h => ?_, fun h => ?_⟩
      · subst h
        have hz : getZ n 0 = some a := (getZ_nat n 0).trans ha
        have hn2 := hn.2 (by omega)
        rw [htk] at hn2
        refine r_spec_l5Copy_0 _ _ (brB_yes (by simp; omega) ?_)
        simp only [ex_set, hz, Option.some.injEq, exists_eq_left']
        have hsa := hs a hmem
        refine brB_yes (by rw [show allSc (a.map keyC) = true from allSc_key _, fitsT (by simp; omega)]; rfl) (brB_yes (fitsT (by simp; try omega)) ?_)
        rw [addW_eq (by omega)]
        exact hn2
      · have hn2 := hn.2 (by omega)
        rw [htk] at hn2
        refine r_spec_l5Copy_1 _ _ _ _ (brB_yes (by simp; omega) ?_)
        simp only [ex_set, getZ_nat, ha, Option.some.injEq, exists_eq_left']
        have hsa := hs a hmem
        refine brB_yes (by rw [show allSc (a.map keyC) = true from allSc_key _, fitsT (by simp; omega)]; rfl) (brB_yes (fitsT (by simp; try omega)) ?_)
        rw [addW_eq (by omega)]
        rw [List.map_append] at hn2
        exact hn2
  exact key.1 rfl
theorem run_impl_copyTree (t : Tree) (hl : t.lows.length ≤ 1073741824 ∧ t.nodes.length ≤ 1073741824) (hs : ∀ n ∈ t.nodes, n.length ≤ 1073741824 ∧ ∀ s ∈ n, s.length ≤ 1073741824) : RunF C impl_copyTree [vTree t] (vTree t) [] := by
  refine (f_impl_copyTree _ _ _ ?_).run
  refine ⟨_, run_impl_copyInts t.lows hl.1, ?_⟩
  have key : ((0 : Nat) = 0 → LoopG C impl_copyTree pRRLRB 4 0 (s_impl_copyTree_0 (t.nodes.map nodeC) (t.lows.map intC)) (fun u st => AftF C impl_copyTree pRRLRB u st fun r fs => r = (vTree t) ∧ fs = [])) ∧ (0 < (0 : Nat) → LoopG C impl_copyTree pRRLRB 4 0 (s_impl_copyTree_1 (t.nodes.map nodeC) ((0 : Nat) : Int) (t.lows.map intC) ((t.nodes.take 0).map nodeC)) (fun u st => AftF C impl_copyTree pRRLRB u st fun r fs => r = (vTree t) ∧ fs = [])) := by
    refine idx_walk t.nodes (fun i => (i = 0 → LoopG C impl_copyTree pRRLRB 4 0 (s_impl_copyTree_0 (t.nodes.map nodeC) (t.lows.map intC)) (fun u st => AftF C impl_copyTree pRRLRB u st fun r fs => r = (vTree t) ∧ fs = [])) ∧ (0 < i → LoopG C impl_copyTree pRRLRB 4 0 (s_impl_copyTree_1 (t.nodes.map nodeC) i (t.lows.map intC) ((t.nodes.take i).map nodeC)) (fun u st => AftF C impl_copyTree pRRLRB u st fun r fs => r = (vTree t) ∧ fs = []))) ?_ ?_
    · refine ⟨fun h => ?_, fun h => ?_⟩
      · have hnil : t.nodes = [] := List.length_eq_zero_iff.1 h
        refine r_impl_copyTree_0 _ _ _ (brB_no (by simp [h]) (a_impl_copyTree_2 _ _ _ _ _ ⟨?_, by first | rfl | trivial⟩))
        simp [hnil]
      · rw [List.take_length]
        exact r_impl_copyTree_1 _ _ _ _ _ (brB_no (by simp) (a_impl_copyTree_3 _ _ _ _ _ _ _ ⟨rfl, by first | rfl | trivial⟩))
    · intro i a hi ha hd htk hn
      have hmem := List.mem_of_getElem? ha
      refine ⟨fun h => ?_, fun h => ?_⟩
      · subst h
        have hz : getZ t.nodes 0 = some a := (getZ_nat t.nodes 0).trans ha
        have hn2 := hn.2 (by omega)
        rw [htk] at hn2
        refine r_impl_copyTree_0 _ _ _ (brB_yes (by simp; omega) ?_)
        simp only [ex_node, hz, Option.some.injEq, exists_eq_left']
        refine ⟨_, run_impl_copyNode a (hs a hmem).1 (hs a hmem).2, brB_yes (fitsT (by simp; try omega)) ?_⟩
        rw [addW_eq (by omega)]
        exact hn2
      · have hn2 := hn.2 (by omega)
        rw [htk] at hn2
        refine r_impl_copyTree_1 _ _ _ _ _ (brB_yes (by simp; omega) ?_)
        simp only [ex_node, getZ_nat, ha, Option.some.injEq, exists_eq_left']
        refine ⟨_, run_impl_copyNode a (hs a hmem).1 (hs a hmem).2, brB_yes (fitsT (by simp; try omega)) ?_⟩
        rw [addW_eq (by omega)]
        rw [List.map_append] at hn2
        exact hn2
  exact key.1 rfl
theorem run_spec_l6Copy (t : Tree) (hl : t.lows.length ≤ 1073741824 ∧ t.nodes.length ≤ 1073741824) (hs : ∀ n ∈ t.nodes, n.length ≤ 1073741824 ∧ ∀ s ∈ n, s.length ≤ 1073741824) : RunF C spec_l6Copy [vTree t] (vTree t) [] := by
  refine (f_spec_l6Copy _ _ _ ?_).run
  refine brB_yes (by rw [show allSc (t.lows.map intC) = true from allSc_int _, fitsT (by simp; omega)]; rfl) ?_
  have key : ((0 : Nat) = 0 → LoopG C spec_l6Copy pRRLRB 4 0 (s_spec_l6Copy_0 (t.lows.map intC) (t.nodes.map nodeC)) (fun u st => AftF C spec_l6Copy pRRLRB u st fun r fs => r = (vTree t) ∧ fs = [])) ∧ (0 < (0 : Nat) → LoopG C spec_l6Copy pRRLRB 4 0 (s_spec_l6Copy_1 ((0 : Nat) : Int) (t.lows.map intC) (t.nodes.map nodeC) ((t.nodes.take 0).map nodeC)) (fun u st => AftF C spec_l6Copy pRRLRB u st fun r fs => r = (vTree t) ∧ fs = [])) := by
    refine idx_walk t.nodes (fun i => (i = 0 → LoopG C spec_l6Copy pRRLRB 4 0 (s_spec_l6Copy_0 (t.lows.map intC) (t.nodes.map nodeC)) (fun u st => AftF C spec_l6Copy pRRLRB u st fun r fs => r = (vTree t) ∧ fs = [])) ∧ (0 < i → LoopG C spec_l6Copy pRRLRB 4 0 (s_spec_l6Copy_1 i (t.lows.map intC) (t.nodes.map nodeC) ((t.nodes.take i).map nodeC)) (fun u st => AftF C spec_l6Copy pRRLRB u st fun r fs => r = (vTree t) ∧ fs = []))) ?_ ?_
    · refine ⟨fun h => ?_, fun h => ?_⟩
      · have hnil : t.nodes = [] := List.length_eq_zero_iff.1 h
        refine r_spec_l6Copy_0 _ _ _ (brB_no (by simp [h]) (a_spec_l6Copy_2 _ _ _ _ ⟨?_, by first | rfl | trivial⟩))
        simp [hnil]
      · rw [List.take_length]
        exact r_spec_l6Copy_1 _ _ _ _ _ (brB_no (by simp) (a_spec_l6Copy_3 _ _ _ _ _ _ ⟨rfl, by first | rfl | trivial⟩))
    · intro i a hi ha hd htk hn
      have hmem := List.mem_of_getElem? ha
      refine ⟨fun h => ?_, fun h => ?_⟩
      · subst h
        have hz : getZ t.nodes 0 = some a := (getZ_nat t.nodes 0).trans ha
        have hn2 := hn.2 (by omega)
        rw [htk] at hn2
        refine r_spec_l6Copy_0 _ _ _ (brB_yes (by simp; omega) ?_)
        simp only [ex_node, hz, Option.some.injEq, exists_eq_left']
        refine ⟨_, run_spec_l5Copy a (hs a hmem).1 (hs a hmem).2, brB_yes (fitsT (by simp; try omega)) ?_⟩
        rw [addW_eq (by omega)]
        exact hn2
      · have hn2 := hn.2 (by omega)
        rw [htk] at hn2
        refine r_spec_l6Copy_1 _ _ _ _ _ (brB_yes (by simp; omega) ?_)
        simp only [ex_node, getZ_nat, ha, Option.some.injEq, exists_eq_left']
        refine ⟨_, run_spec_l5Copy a (hs a hmem).1 (hs a hmem).2, brB_yes (fitsT (by simp; try omega)) ?_⟩
        rw [addW_eq (by omega)]
        rw [List.map_append] at hn2
        exact hn2
  exact key.1 rfl
theorem nodes_small {t : Tree} (h : szTree t ≤ 4194304) : (t.lows.length ≤ 1073741824 ∧ t.nodes.length ≤ 1073741824) ∧ ∀ n ∈ t.nodes, n.length ≤ 1073741824 ∧ ∀ s ∈ n, s.length ≤ 1073741824 := by
  have e2 : szTree t = t.lows.length + (t.nodes.length + tot szNode t.nodes) := rfl
  refine ⟨⟨by omega, by omega⟩, fun n hn => ?_⟩
  have h1 : szNode n ≤ tot szNode t.nodes := tot_mem (w := szNode) hn
  have h2 : szNode n = n.length + tot szSet n := rfl
  refine ⟨by omega, fun s hs => ?_⟩
  have h3 : szSet s ≤ tot szSet n := tot_mem (w := szSet) hs
  have h4 : szSet s = s.length := rfl
  omega
theorem run_spec_l10Copy (p : Pool) (hS : szPool p ≤ 4194304) : RunF C spec_l10Copy [vPool p] (vPool p) [] := by
  have hP := poolS_of hS
  have hN := nodes_small hP.1
  have hT := run_spec_l6Copy p.t hN.1 hN.2
  have hA : (allSc (p.ages.map ageC) && fits (Nat.add 0 (p.ages.map ageC).length) 16) = true := by rw [allSc_age, fitsT (by simp; omega)]; rfl
  have hC := run_spec_l9Copy p.cells (by omega)
  have hV : (allSc (p.vols.map volC) && fits (Nat.add 0 (p.vols.map volC).length) 40) = true := by rw [allSc_vol, fitsT (by simp; omega)]; rfl
  refine (f_spec_l10Copy _ _ _ _ _ _ _ ?_).run
  repeat' first
    | exact rfl
    | refine ⟨(vPool p, []), ?_, ?_, ⟨rfl, by first | rfl | trivial⟩⟩
    | refine ⟨(vPool p, []), ?_, ?_, by first | rfl | trivial⟩
    | refine ⟨_, _, hT, ?_⟩
    | refine brB_yes hA ?_
    | refine ⟨_, hC, ?_⟩
    | refine brB_yes hV ?_
theorem run_impl_copyPool (p : Pool) (hS : szPool p ≤ 4194304) : RunF C impl_copyPool [vPool p] (vPool p) [] := by
  have hP := poolS_of hS
  have hN := nodes_small hP.1
  have hT := run_impl_copyTree p.t hN.1 hN.2
  have hA := run_impl_copyAges p.ages (by omega)
  have hC := run_impl_copyCells p.cells (by omega)
  have hV : (allSc (p.vols.map volC) && fits (Nat.add 0 (p.vols.map volC).length) 40) = true := by rw [allSc_vol, fitsT (by simp; omega)]; rfl
  refine (f_impl_copyPool _ _ _ _ _ _ _ ?_).run
  repeat' first
    | exact rfl
    | refine ⟨(vPool p, []), ?_, ?_, ⟨rfl, by first | rfl | trivial⟩⟩
    | refine ⟨(vPool p, []), ?_, ?_, by first | rfl | trivial⟩
    | refine ⟨_, _, hT, ?_⟩
    | refine ⟨_, hA, ?_⟩
    | refine ⟨_, hC, ?_⟩
    | refine brB_yes hV ?_
theorem run_spec_l11End (p x : Pool) (hS : szPool p ≤ 4194304) (hX : szPool x ≤ 4194304) : RunF C spec_l11End [vPool p, vPool x, vB true] (tPI (endP p x)) [] := by
  refine (f_spec_l11End _ _ _ _ _ _ _ _ _ _ _ _ _ _ ?_).run
  refine brB_no rfl ⟨_, run_spec_PoolOk x hX, ?_⟩
  unfold endP
  cases h1 : poolOk x with
  | false => exact brB_yes rfl ⟨_, _, _, _, _, _, run_spec_l10Copy p hS, ⟨rfl, by first | rfl | trivial⟩⟩
  | true => exact brB_no rfl ⟨rfl, by first | rfl | trivial⟩
theorem run_impl_settled (p x : Pool) (hS : szPool p ≤ 4194304) (hX : szPool x ≤ 4194304) : RunF C impl_settled [vPool p, vPool x, vB true] (tPI (endP p x)) [] := by
  refine (f_impl_settled _ _ _ _ _ _ _ _ _ _ _ _ _ _ ?_).run
  refine brB_no rfl ⟨_, run_impl_PoolOk x hX, ?_⟩
  unfold endP
  cases h1 : poolOk x with
  | false => exact brB_yes rfl ⟨_, _, _, _, _, _, run_impl_copyPool p hS, ⟨rfl, by first | rfl | trivial⟩⟩
  | true => exact brB_no rfl ⟨rfl, by first | rfl | trivial⟩
theorem run_Insert_Age (l : List Age) (id fr : Int) (k : Nat) (hk : k ≤ l.length) (hl : l.length ≤ 1073741824) : RunF C slices_Insert_Age [vAges l, vI (k : Int), .c (.sub 2 [[iI id, iI fr]])] (vAges (l.take k ++ ⟨id, fr⟩ :: l.drop k)) [] := by
  refine RunF.ext (p := insP 2 16) rfl ?_
  unfold insP
  simp only []
  rw [if_pos ⟨trivial, trivial, by omega, by simp <;> omega, fitsT (by simp <;> omega)⟩, Int.toNat_natCast]
  unfold vAges
  rw [List.map_append, List.map_cons, List.map_take, List.map_drop]
  rfl
theorem run_impl_NewAge (l : List Age) (id fr : Int) (hl : l.length ≤ 1073741800) : RunF C impl_NewAge [vAges l, vI id, vI fr] (TV.tu [(0, [TC.sub 2 ((newAge l id fr).1.map ageC)]), (0, [iB (newAge l id fr).2])]) [] := by
  refine (f_impl_NewAge _ _ _ _ ?_).run
  have key : (l.take 0).all (leA id) = true → LoopG C impl_NewAge pRRLB 4 0 (s_impl_NewAge_0 (l.map ageC) id fr ((0 : Nat) : Int)) (fun x st => AftF C impl_NewAge pRRLB x st fun r fs => r = (TV.tu [(0, [TC.sub 2 ((newAge l id fr).1.map ageC)]), (0, [iB (newAge l id fr).2])]) ∧ fs = []) := by
    have fin : ∀ k : Nat, k ≤ l.length → (l.takeWhile (leA id)).length = k → ∀ Q : QV, Q (TV.tu [(0, [TC.sub 2 ((newAge l id fr).1.map ageC)]), (0, [iB (newAge l id fr).2])]) [] →
        ∃ (l7 : RR), RunF C impl_copyAges ([TV.c (TC.sub 2 (l.map ageC))]) (TV.c (TC.sub 2 l7)) [] ∧ (∃ (l8 : RR), RunF C slices_Insert_Age ([TV.c (TC.sub 2 l7), TV.c (iI (k : Int)), TV.c (TC.sub 2 [[iI id, iI fr]])]) (TV.c (TC.sub 2 l8)) [] ∧ (∃ (n9 : Int), RunF C impl_AgeAt ([TV.c (TC.sub 2 (l.map ageC)), TV.c (iI id)]) (TV.c (iI n9)) [] ∧ (brB (leI 0 n9) (∃ (l10 : RR), RunF C impl_copyAges ([TV.c (TC.sub 2 (l.map ageC))]) (TV.c (TC.sub 2 l10)) [] ∧ (Q (TV.tu [(0, [TC.sub 2 l10]), (0, [iB false])]) ([]))) (∃ (b11 : Bool), RunF C impl_AgesOk ([TV.c (TC.sub 2 l8)]) (TV.c (iB b11)) [] ∧ (brB (!b11) (∃ (l12 : RR), RunF C impl_copyAges ([TV.c (TC.sub 2 (l.map ageC))]) (TV.c (TC.sub 2 l12)) [] ∧ (Q (TV.tu [(0, [TC.sub 2 l12]), (0, [iB false])]) ([]))) (Q (TV.tu [(0, [TC.sub 2 l8]), (0, [iB true])]) ([]))))))) := by
      intro k hk he Q hQ
      have hi := putIn_at (leA id) (⟨id, fr⟩ : Age) l he
      have hln : (insAge l id fr).length ≤ 1073741824 := by unfold insAge; rw [putIn_len]; omega
      refine ⟨_, run_impl_copyAges l (by omega), _, run_Insert_Age l id fr k hk (by omega), _, run_impl_AgeAt l id (by omega), ?_⟩
      unfold newAge at hQ
      rw [hi]
      by_cases h1 : 0 ≤ ageAt l id
      · rw [if_pos h1] at hQ
        exact brB_yes (by simpa using h1) ⟨_, run_impl_copyAges l (by omega), hQ⟩
      · rw [if_neg h1] at hQ
        have hok : RunF C impl_AgesOk [vAges (insAge l id fr)] (vB (agesOk (insAge l id fr))) [] := run_impl_AgesOk (insAge l id fr) hln
        refine brB_no (by simp <;> omega) ⟨_, hok, ?_⟩
        by_cases h2 : agesOk (insAge l id fr) = true
        · rw [if_pos h2] at hQ
          rw [h2]
          exact brB_no rfl hQ
        · rw [if_neg h2] at hQ
          have h2 : agesOk (insAge l id fr) = false := by simpa using h2
          rw [h2]
          exact brB_yes rfl ⟨_, run_impl_copyAges l (by omega), hQ⟩
    refine idx_walk l (fun i => (l.take i).all (leA id) = true → LoopG C impl_NewAge pRRLB 4 0 (s_impl_NewAge_0 (l.map ageC) id fr (i : Int)) _) ?_ ?_
    · intro h0
      refine r_impl_NewAge_0 _ _ _ _ _ (brB_no (by simp) (a_impl_NewAge_2 _ _ _ _ _ (fin l.length (Nat.le_refl _) (tw_len _ l _ (Nat.le_refl _) h0 fun a ha => ?_) (fun r fs => r = (TV.tu [(0, [TC.sub 2 ((newAge l id fr).1.map ageC)]), (0, [iB (newAge l id fr).2])]) ∧ fs = []) ⟨rfl, by first | rfl | trivial⟩)))
      rw [List.getElem?_eq_none (Nat.le_refl _)] at ha; cases ha
    · intro i a hi ha hd ht hn h0
      refine r_impl_NewAge_0 _ _ _ _ _ (brB_yes (by simp <;> omega) ⟨a.id, a.fr, by rw [rowAt_mapZ, getZ_nat, ha]; rfl, ?_⟩)
      by_cases hle : a.id ≤ id
      · refine brB_yes (by simpa using hle) ?_
        rw [addW_eq (by omega)]
        exact hn (by rw [ht, List.all_append, h0]; simp [leA, hle])
      · refine brB_no (by simpa using hle) (a_impl_NewAge_1 _ _ _ _ _ _ (fin i (by omega) (tw_len _ l i (by omega) h0 fun b hb => ?_) (fun r fs => r = (TV.tu [(0, [TC.sub 2 ((newAge l id fr).1.map ageC)]), (0, [iB (newAge l id fr).2])]) ∧ fs = []) ⟨rfl, by first | rfl | trivial⟩))
        rw [ha] at hb; cases hb; simp [leA]; omega
  exact key rfl
theorem run_spec_NewAge (l : List Age) (id fr : Int) (hl : l.length ≤ 1073741800) : RunF C spec_NewAge [vAges l, vI id, vI fr] (TV.tu [(0, [TC.sub 2 ((newAge l id fr).1.map ageC)]), (0, [iB (newAge l id fr).2])]) [] := by
  refine (f_spec_NewAge _ _ _ _ ⟨_, run_spec_AgeAt l id (by omega), ?_⟩).run
  obtain ⟨T, hT⟩ : ∃ T, T = if 0 ≤ ageAt l id then l else insAge l id fr := ⟨_, rfl⟩
  have hTl : T.length ≤ l.length + 1 := by
    rw [hT]; split
    · omega
    · unfold insAge; rw [putIn_len]; omega
  have key : ∀ (b : Bool) (acc : List Age), acc ++ (if b = true then l.drop 0 else insAge (l.drop 0) id fr) = T → LoopG C spec_NewAge pRRRLRB 4 0 (s_spec_NewAge_0 (l.map ageC) id fr b ((0 : Nat) : Int) (acc.map ageC)) (fun x st => AftF C spec_NewAge pRRRLRB x st fun r fs => r = (TV.tu [(0, [TC.sub 2 ((newAge l id fr).1.map ageC)]), (0, [iB (newAge l id fr).2])]) ∧ fs = []) := by
    have fin : ∀ Q : QV, Q (TV.tu [(0, [TC.sub 2 ((newAge l id fr).1.map ageC)]), (0, [iB (newAge l id fr).2])]) [] →
        ∃ (n17 : Int), RunF C spec_AgeAt ([TV.c (TC.sub 2 (l.map ageC)), TV.c (iI id)]) (TV.c (iI n17)) [] ∧ (brB (leI 0 n17) (brB (allSc (l.map ageC) && fits (Nat.add 0 (List.length (l.map ageC))) 16) (Q (TV.tu [(0, [TC.sub 2 (l.map ageC)]), (0, [iB false])]) ([])) (False)) (∃ (b18 : Bool), RunF C spec_AgesOk ([TV.c (TC.sub 2 (T.map ageC))]) (TV.c (iB b18)) [] ∧ (brB (!b18) (brB (allSc (l.map ageC) && fits (Nat.add 0 (List.length (l.map ageC))) 16) (Q (TV.tu [(0, [TC.sub 2 (l.map ageC)]), (0, [iB false])]) ([])) (False)) (Q (TV.tu [(0, [TC.sub 2 (T.map ageC)]), (0, [iB true])]) ([]))))) := by
      intro Q hQ
      have hcp : (allSc (l.map ageC) && fits (Nat.add 0 (List.length (l.map ageC))) 16) = true := by rw [allSc_age, fitsT (by simp <;> omega)]; rfl
      refine ⟨_, run_spec_AgeAt l id (by omega), ?_⟩
      unfold newAge at hQ
      by_cases h1 : 0 ≤ ageAt l id
      · rw [if_pos h1] at hQ
        exact brB_yes (by simpa using h1) (brB_yes hcp hQ)
      · rw [if_neg h1] at hQ hT
        have hok : RunF C spec_AgesOk [vAges T] (vB (agesOk T)) [] := run_spec_AgesOk T (by omega)
        refine brB_no (by simp <;> omega) ⟨_, hok, ?_⟩
        subst hT
        by_cases h2 : agesOk (insAge l id fr) = true
        · rw [if_pos h2] at hQ
          rw [h2]
          exact brB_no rfl hQ
        · rw [if_neg h2] at hQ
          have h2 : agesOk (insAge l id fr) = false := by simpa using h2
          rw [h2]
          exact brB_yes rfl (brB_yes hcp hQ)
    refine idx_walk l (fun i => ∀ (b : Bool) (acc : List Age), acc ++ (if b = true then l.drop i else insAge (l.drop i) id fr) = T → LoopG C spec_NewAge pRRRLRB 4 0 (s_spec_NewAge_0 (l.map ageC) id fr b (i : Int) (acc.map ageC)) _) ?_ ?_
    · intro b acc h0
      have hlen := congrArg List.length h0
      rw [List.length_append] at hlen
      refine r_spec_NewAge_0 _ _ _ _ _ _ _ (brB_no (by simp) (a_spec_NewAge_1 _ _ _ _ _ _ _ _ ?_))
      rw [List.drop_length] at h0
      cases b with
      | true =>
        simp only [if_true, List.append_nil] at h0
        subst h0
        exact brB_no rfl (fin (fun r fs => r = (TV.tu [(0, [TC.sub 2 ((newAge l id fr).1.map ageC)]), (0, [iB (newAge l id fr).2])]) ∧ fs = []) ⟨rfl, by first | rfl | trivial⟩)
      | false =>
        have e : acc ++ [(⟨id, fr⟩ : Age)] = T := by simpa [insAge, putIn] using h0
        refine brB_yes rfl (brB_yes (by rw [allSc_age1, fitsT (by simp <;> omega)]; rfl) ?_)
        rw [app_age, e]
        exact fin (fun r fs => r = (TV.tu [(0, [TC.sub 2 ((newAge l id fr).1.map ageC)]), (0, [iB (newAge l id fr).2])]) ∧ fs = []) ⟨rfl, by first | rfl | trivial⟩
    · intro i a hi ha hd ht hn b acc h0
      have hlen := congrArg List.length h0
      rw [List.length_append] at hlen
      refine r_spec_NewAge_0 _ _ _ _ _ _ _ (brB_yes (by simp <;> omega) ?_)
      have hrow : rowAt (l.map ageC) (i : Int) = some [iI a.id, iI a.fr] := by rw [rowAt_mapZ, getZ_nat, ha]; rfl
      have hadd : addW (i : Int) 1 = ((i + 1 : Nat) : Int) := addW_eq (by omega)
      cases b with
      | true =>
        rw [hd] at h0
        simp only [if_true] at h0
        refine brB_no rfl ⟨_, _, hrow, brB_yes (by rw [allSc_age1, fitsT (by simp <;> omega)]; rfl) ?_⟩
        rw [hadd, app_age]
        exact hn true (acc ++ [a]) (by rw [← h0]; simp)
      | false =>
        rw [hd] at h0
        simp only [Bool.false_eq_true, if_false] at h0
        unfold insAge at h0
        rw [putIn_cons] at h0
        refine brB_yes rfl ⟨_, _, hrow, ?_⟩
        by_cases hlt : id < a.id
        · have hle : leA id a = false := by simp [leA]; omega
          rw [hle] at h0
          simp only [Bool.false_eq_true, if_false] at h0
          refine brB_yes (by simpa using hlt) (brB_yes (by rw [allSc_age1, fitsT (by simp <;> omega)]; rfl) ⟨_, _, hrow, brB_yes (by rw [allSc_age1, app_age, fitsT (by simp <;> omega)]; rfl) ?_⟩)
          rw [hadd, app_age, app_age]
          exact hn true (acc ++ [⟨id, fr⟩] ++ [a]) (by rw [← h0]; simp)
        · have hle : leA id a = true := by simp [leA]; omega
          rw [hle] at h0
          simp only [if_true] at h0
          refine brB_no (by simpa using hlt) ⟨_, _, hrow, brB_yes (by rw [allSc_age1, fitsT (by simp <;> omega)]; rfl) ?_⟩
          rw [hadd, app_age]
          exact hn false (acc ++ [a]) (by rw [← h0]; simp [insAge])
  refine key (leI 0 (ageAt l id)) [] ?_
  rw [hT, leI_eq]
  by_cases h1 : 0 ≤ ageAt l id <;> simp [h1]
theorem run_impl_insertVol (l : List Vol) (v : Vol) (hl : l.length ≤ 1073741800) : RunF C impl_insertVol [vVols l, .ag (volC v)] (vVols (insVol l v)) [] := by
  refine (f_impl_insertVol _ _ _ _ _ _ ?_).run
  have hTl : (insVol l v).length = l.length + 1 := putIn_len _ _ _
  have key : ∀ (b : Bool) (acc : List Vol), acc ++ (if b = true then l.drop 0 else insVol (l.drop 0) v) = insVol l v → LoopG C impl_insertVol pRRRLRB 4 0 (s_impl_insertVol_0 b (l.map volC) ((0 : Nat) : Int) v.name v.age v.size v.fx (acc.map volC)) (fun x st => AftF C impl_insertVol pRRRLRB x st fun r fs => r = vVols (insVol l v) ∧ fs = []) := by
    refine idx_walk l (fun i => ∀ (b : Bool) (acc : List Vol), acc ++ (if b = true then l.drop i else insVol (l.drop i) v) = insVol l v → LoopG C impl_insertVol pRRRLRB 4 0 (s_impl_insertVol_0 b (l.map volC) (i : Int) v.name v.age v.size v.fx (acc.map volC)) _) ?_ ?_
    · intro b acc h0
      have hlen := congrArg List.length h0
      rw [List.length_append] at hlen
      refine r_impl_insertVol_0 _ _ _ _ _ _ _ _ _ (brB_no (by simp) (a_impl_insertVol_1 _ _ _ _ _ _ _ _ _ _ _ ?_))
      rw [List.drop_length] at h0
      cases b with
      | true =>
        simp only [if_true, List.append_nil] at h0
        exact brB_no rfl (by rw [h0]; exact ⟨rfl, by first | rfl | trivial⟩)
      | false =>
        have e : acc ++ [v] = insVol l v := by rw [← h0]; simp [insVol, putIn]
        refine brB_yes rfl (brB_yes (by rw [allSc_vol1, fitsT (by simp <;> omega)]; rfl) ?_)
        rw [app_vol]
        exact ⟨by rw [e], rfl⟩
    · intro i a hi ha hd ht hn b acc h0
      have hlen := congrArg List.length h0
      rw [List.length_append] at hlen
      have hrow : rowAt (l.map volC) (i : Int) = some [iS a.name, iI a.age, iI a.size, iB a.fx] := by rw [rowAt_mapZ, getZ_nat, ha]; rfl
      have hadd : addW (i : Int) 1 = ((i + 1 : Nat) : Int) := addW_eq (by omega)
      refine r_impl_insertVol_0 _ _ _ _ _ _ _ _ _ (brB_yes (by simp <;> omega) ⟨_, _, _, _, hrow, ?_⟩)
      cases b with
      | true =>
        rw [hd] at h0
        simp only [if_true] at h0
        refine brB_no rfl (brB_yes (by rw [allSc_vol1, fitsT (by simp <;> omega)]; rfl) ?_)
        rw [hadd, app_vol]
        exact hn true (acc ++ [a]) (by rw [← h0]; simp)
      | false =>
        rw [hd] at h0
        simp only [Bool.false_eq_true, if_false] at h0
        unfold insVol at h0
        rw [putIn_cons] at h0
        refine brB_yes rfl ?_
        cases hle : leV v a with
        | false =>
          rw [hle] at h0
          simp only [Bool.false_eq_true, if_false] at h0
          refine brB_yes (by unfold leV at hle; rw [hle]; rfl) (brB_yes (by rw [allSc_vol1, fitsT (by simp <;> omega)]; rfl) (brB_yes (by rw [allSc_vol1, app_vol, fitsT (by simp <;> omega)]; rfl) ?_))
          rw [hadd, app_vol, app_vol]
          exact hn true (acc ++ [v] ++ [a]) (by rw [show insVol l v = putIn (leV v) v l from rfl, ← h0]; simp)
        | true =>
          rw [hle] at h0
          simp only [if_true] at h0
          refine brB_no (by unfold leV at hle; rw [hle]; rfl) (brB_yes (by rw [allSc_vol1, fitsT (by simp <;> omega)]; rfl) ?_)
          rw [hadd, app_vol]
          exact hn false (acc ++ [a]) (by rw [show insVol l v = putIn (leV v) v l from rfl, ← h0]; simp [insVol])
  exact key false [] rfl
theorem run_spec_l11PutVol (l : List Vol) (v : Vol) (hr : Rise l) (hl : l.length ≤ 1073741800) : RunF C spec_l11PutVol [vVols l, .ag (volC v)] (vVols (insVol l v)) [] := by
  have key : ∀ (k : Nat) (y : Vol), k ≤ l.length → (∀ u ∈ l.drop k, leV v u = false) → LoopG C spec_l11PutVol pRRRLB 4 0 (s_spec_l11PutVol_0 (k : Int) v.name v.age v.size v.fx ((l.take k ++ y :: l.drop k).map volC)) (fun x st => AftF C spec_l11PutVol pRRRLB x st fun r fs => r = vVols (insVol l v) ∧ fs = []) := by
    intro k
    induction k with
    | zero =>
      intro y hk hg
      have hget : rowAt ((l.take 0 ++ y :: l.drop 0).map volC) ((0 : Nat) : Int) = some [iS y.name, iI y.age, iI y.size, iB y.fx] := by rw [rowAt_mapZ, getZ_nat]; rfl
      refine r_spec_l11PutVol_0 _ _ _ _ _ _ _ (brB_no (by simp) (a_spec_l11PutVol_2 _ _ _ _ _ _ _ ⟨_, _, _, _, hget, _, _, _, _, hget, ?_⟩))
      refine ⟨?_, rfl⟩
      have := putIn_at (leV v) v l (hr.cut (k := 0) hk hg fun u h => absurd h (by omega))
      rw [show insVol l v = putIn (leV v) v l from rfl, ← this, show ((0 : Nat) : Int) = 0 from rfl]
      simp [setRow, volC]
    | succ k ih =>
      intro y hk hg
      have hk1 : k < l.length := by omega
      obtain ⟨a, ha⟩ : ∃ a, l[k]? = some a := ⟨_, List.getElem?_eq_getElem hk1⟩
      have hsub : subW ((k + 1 : Nat) : Int) 1 = (k : Int) := by rw [subW_eq (by omega)]; omega
      have htl : (l.take (k + 1)).length = k + 1 := by rw [List.length_take]; omega
      have hgk : (l.take (k + 1) ++ y :: l.drop (k + 1))[k]? = some a := by rw [List.getElem?_append_left (by omega), List.getElem?_take, if_pos (by omega), ha]
      have hgk1 : (l.take (k + 1) ++ y :: l.drop (k + 1))[k + 1]? = some y := by rw [List.getElem?_append_right (by omega), htl, Nat.sub_self]; rfl
      have hra : rowAt ((l.take (k + 1) ++ y :: l.drop (k + 1)).map volC) (k : Int) = some [iS a.name, iI a.age, iI a.size, iB a.fx] := by rw [rowAt_mapZ, getZ_nat, hgk]; rfl
      have hry : rowAt ((l.take (k + 1) ++ y :: l.drop (k + 1)).map volC) ((k + 1 : Nat) : Int) = some [iS y.name, iI y.age, iI y.size, iB y.fx] := by rw [rowAt_mapZ, getZ_nat, hgk1]; rfl
      have hset : ∀ u : Vol, setRow ((l.take (k + 1) ++ y :: l.drop (k + 1)).map volC) ((k + 1 : Nat) : Int) 0 [iS u.name, iI u.age, iI u.size, iB u.fx] = (l.take (k + 1) ++ u :: l.drop (k + 1)).map volC := fun u => by
        rw [setRow_map (a := y) (a' := u) hgk1 rfl]
        congr 1
        rw [List.set_append_right _ _ (by omega), htl, Nat.sub_self]
        rfl
      refine r_spec_l11PutVol_0 _ _ _ _ _ _ _ (brB_yes (by simp <;> omega) ?_)
      rw [hsub]
      refine ⟨_, _, _, _, hra, _, _, _, _, hra, ?_⟩
      cases hle : leV v a with
      | false =>
        refine brB_yes (by unfold leV at hle; rw [hle]; rfl) ⟨_, _, _, _, hra, _, _, _, _, hra, _, _, _, _, hry, _, _, _, _, hry, ?_⟩
        rw [hset a]
        have e : l.take (k + 1) ++ a :: l.drop (k + 1) = l.take k ++ a :: l.drop k := by
          rw [List.take_add_one, ha, List.drop_eq_getElem_cons hk1, show l[k] = a from by rw [List.getElem?_eq_getElem hk1] at ha; exact Option.some.inj ha]
          simp
        rw [e]
        refine ih a (by omega) fun u hu => ?_
        rw [List.drop_eq_getElem_cons hk1, show l[k] = a from by rw [List.getElem?_eq_getElem hk1] at ha; exact Option.some.inj ha] at hu
        rcases List.mem_cons.1 hu with rfl | hu
        · exact hle
        · exact hg u hu
      | true =>
        refine brB_no (by unfold leV at hle; rw [hle]; rfl) (a_spec_l11PutVol_1 _ _ _ _ _ _ _ _ ⟨_, _, _, _, hry, _, _, _, _, hry, ?_⟩)
        rw [hset v]
        refine ⟨?_, rfl⟩
        have := putIn_at (leV v) v l (hr.cut (k := k + 1) hk hg fun u _ hu => by rw [Nat.add_sub_cancel, ha] at hu; cases hu; exact hle)
        rw [show insVol l v = putIn (leV v) v l from rfl, ← this]
  have h0 : (allSc (l.map volC) && fits (Nat.add 0 (l.map volC).length) 40) = true := by rw [allSc_vol, fitsT (by simp <;> omega)]; rfl
  have h00 : (allSc [[iS v.name, iI v.age, iI v.size, iB v.fx]] && fits (Nat.succ (l.map volC).length) 40) = true := by rw [allSc_vol1, fitsT (by simp <;> omega)]; rfl
  have hstart : LoopG C spec_l11PutVol pRRRLB 4 0 (s_spec_l11PutVol_0 (subW (Int.ofNat (List.length (List.append (l.map volC) [[iS v.name, iI v.age, iI v.size, iB v.fx]]))) 1) v.name v.age v.size v.fx (List.append (l.map volC) [[iS v.name, iI v.age, iI v.size, iB v.fx]])) (fun x st => AftF C spec_l11PutVol pRRRLB x st fun r fs => (r, fs) = (vVols (insVol l v), ([] : List TV))) := by
    have hk := key l.length v (Nat.le_refl _) (by rw [List.drop_length]; intro u hu; cases hu)
    rw [List.take_length, List.drop_length] at hk
    rw [app_vol]
    have e : subW (Int.ofNat ((l ++ [(⟨v.name, v.age, v.size, v.fx⟩ : Vol)]).map volC).length) 1 = (l.length : Int) := by
      rw [subW_eq (by simp <;> omega)]; simp
    rw [e]
    have eQ : (fun (r : TV) (fs : List TV) => (r, fs) = (vVols (insVol l v), ([] : List TV))) = fun r fs => r = vVols (insVol l v) ∧ fs = [] := by
      funext r fs; simp
    rw [eQ]
    exact hk
  have S := brB_yes (B := False) h0 (brB_yes (B := False) h00 hstart)
  exact (f_spec_l11PutVol _ _ _ _ _ _ ⟨(vVols (insVol l v), []), ⟨(vVols (insVol l v), []), S, S, rfl⟩, S, ⟨rfl, by first | rfl | trivial⟩⟩).run
theorem run_spec_l11End_b (p x : Pool) (ok : Bool) (hS : szPool p ≤ 4194304) (hX : szPool x ≤ 4194304) : RunF C spec_l11End [vPool p, vPool x, vB ok] (tPI (endB p x ok)) [] := by
  cases ok with
  | true => exact run_spec_l11End p x hS hX
  | false =>
    refine (f_spec_l11End _ _ _ _ _ _ _ _ _ _ _ _ _ _ ?_).run
    exact brB_yes rfl ⟨_, _, _, _, _, _, run_spec_l10Copy p hS, ⟨rfl, by first | rfl | trivial⟩⟩
theorem run_impl_settled_b (p x : Pool) (ok : Bool) (hS : szPool p ≤ 4194304) (hX : szPool x ≤ 4194304) : RunF C impl_settled [vPool p, vPool x, vB ok] (tPI (endB p x ok)) [] := by
  cases ok with
  | true => exact run_impl_settled p x hS hX
  | false =>
    refine (f_impl_settled _ _ _ _ _ _ _ _ _ _ _ _ _ _ ?_).run
    exact brB_yes rfl ⟨_, _, _, _, _, _, run_impl_copyPool p hS, ⟨rfl, by first | rfl | trivial⟩⟩
theorem run_spec_l11Form (p : Pool) (s : ByteArray) (hS : szPool p ≤ 4194304) (hz : s.size ≤ 140737488355328) : RunF C spec_l11Form [vPool p, vS s] (vI (if formB p s = true then 0 else 1)) [] := by
  refine (f_spec_l11Form _ _ _ _ _ _ _ _ ⟨_, run_spec_PoolOk p hS, ?_⟩).run
  unfold formB
  cases h1 : poolOk p with
  | false => exact brB_yes rfl ⟨rfl, by first | rfl | trivial⟩
  | true =>
    refine brB_no rfl ⟨_, (c_spec_NameOk s hz (nameOk s)).2 rfl, ?_⟩
    cases h2 : nameOk s with
    | false => exact brB_yes rfl ⟨rfl, by first | rfl | trivial⟩
    | true => exact brB_no rfl ⟨rfl, by first | rfl | trivial⟩
theorem run_spec_Snap (p : Pool) (s to : ByteArray) (fx : Bool) (hS : szPool p ≤ 1048576) (hz : s.size ≤ 1048576) (hz2 : to.size ≤ 1048576) : RunF C spec_Snap [vPool p, vS s, vS to, vB fx] (tPI (snapP p s to fx)) [] := by
  have hX : ∀ v, szPool (snapX p to (volAt p.vols s) v fx) ≤ 4194304 := fun v => by have := snapX_sz p to (volAt p.vols s) v fx; omega
  have hS' : szPool p ≤ 4194304 := by omega
  have hP := poolS_of hS'
  refine (f_spec_Snap _ _ _ _ _ _ _ _ _ _ ⟨_, run_spec_l11Form p s hS' (by omega), ?_⟩).run
  unfold snapP
  cases h0 : formB p s with
  | false => exact brB_yes (by simp) ⟨_, _, _, _, _, _, run_spec_l10Copy p hS', ⟨by simp, by first | rfl | trivial⟩⟩
  | true =>
  have hPO : poolOk p = true := by unfold formB at h0; simp only [Bool.and_eq_true] at h0; exact h0.1
  have hnx : 1 ≤ p.next ∧ p.next ≤ 61 := by
    have := hPO
    unfold poolOk at this
    simp only [Bool.and_eq_true] at this
    have h := this.2.2.2.2.1
    unfold inB at h
    simpa using h
  refine brB_no (by simp) ⟨_, (c_spec_NameOk to (by omega) (nameOk to)).2 rfl, ?_⟩
  cases hb : nameOk to with
  | false => exact brB_yes rfl ⟨_, _, _, _, _, _, run_spec_l10Copy p hS', ⟨by simp, by first | rfl | trivial⟩⟩
  | true =>
  rw [if_pos ⟨rfl, by first | rfl | trivial⟩]
  refine brB_no rfl ⟨_, run_spec_VolAt p s (by omega), ?_⟩
  by_cases hn : volAt p.vols s < 0
  · rw [getZ_none (by omega)]
    exact brB_yes (by simpa using hn) ⟨_, _, _, _, _, _, run_spec_l10Copy p hS', ⟨rfl, by first | rfl | trivial⟩⟩
  · obtain ⟨v, hv, _⟩ := idxF_get _ p.vols (show ¬ idxF (fun v : Vol => decide (v.name = s)) p.vols 0 < 0 from hn)
    have hv : getZ p.vols (volAt p.vols s) = some v := hv
    have hrow : rowAt (p.vols.map volC) (volAt p.vols s) = some [iS v.name, iI v.age, iI v.size, iB v.fx] := by rw [rowAt_mapZ, hv]; rfl
    have hl1 := newAge_len p.ages p.next v.age
    have hrise : Rise (p.vols.modify (volAt p.vols s).toNat fun u => { u with age := p.next }) := Rise.modify (f := fun u : Vol => { u with age := p.next }) (fun _ => rfl) _ (pool_rise hPO)
    have hml : (p.vols.modify (volAt p.vols s).toNat fun u => { u with age := p.next }).length ≤ 4194304 := by rw [List.length_modify]; omega
    have ha1 : addW p.next 1 = p.next + 1 := addW_eq (by omega)
    have ha2 : addW p.next 2 = p.next + 2 := addW_eq (by omega)
    have hXv := hX v
    rw [hv]
    refine brB_no (by simpa using hn) ⟨_, run_spec_VolAt p to (by omega), ?_⟩
    simp only []
    by_cases h1 : 0 ≤ volAt p.vols to
    · rw [if_pos h1]
      exact brB_yes (by simpa using h1) ⟨_, _, _, _, _, _, run_spec_l10Copy p hS', ⟨rfl, by first | rfl | trivial⟩⟩
    · rw [if_neg h1]
      rw [ha1, ha2]
      refine brB_no (by simp <;> omega) ⟨_, _, _, _, _, _, run_spec_l10Copy p hS', _, run_spec_VolAt p s (by omega), _, _, _, _, hrow, _, _, run_spec_NewAge p.ages p.next v.age (by omega), _, _, _, _, hrow, _, _, run_spec_NewAge (newAge p.ages p.next v.age).1 (p.next + 1) v.age (by omega), _, _, _, _, hrow, _, _, _, _, hrow, _, _, _, _, hrow, ?_⟩
      rw [sr_vol_age]
      refine ⟨_, run_spec_l11PutVol _ ⟨to, p.next + 1, v.size, fx⟩ hrise (by omega), ?_⟩
      cases hq : (newAge p.ages p.next v.age).2 with
      | true => exact brB_yes rfl ⟨_, _, _, _, _, _, _, run_spec_l11End_b p (snapX p to (volAt p.vols s) v fx) _ hS' hXv, ⟨rfl, by first | rfl | trivial⟩⟩
      | false => exact brB_no rfl ⟨_, _, _, _, _, _, _, run_spec_l11End_b p (snapX p to (volAt p.vols s) v fx) _ hS' hXv, ⟨rfl, by first | rfl | trivial⟩⟩
theorem run_impl_Snap (p : Pool) (s to : ByteArray) (fx : Bool) (hS : szPool p ≤ 1048576) (hz : s.size ≤ 1048576) (hz2 : to.size ≤ 1048576) : RunF C impl_Snap [vPool p, vS s, vS to, vB fx] (tPI (snapP p s to fx)) [] := by
  have hX : ∀ v, szPool (snapX p to (volAt p.vols s) v fx) ≤ 4194304 := fun v => by have := snapX_sz p to (volAt p.vols s) v fx; omega
  have hS' : szPool p ≤ 4194304 := by omega
  have hP := poolS_of hS'
  refine (f_impl_Snap _ _ _ _ _ _ _ _ _ _ ⟨_, run_impl_VolAt p s (by omega), _, run_impl_PoolOk p hS', ?_⟩).run
  unfold snapP formB
  cases hPO : poolOk p with
  | false => exact brB_yes rfl ⟨_, _, _, _, _, _, run_impl_copyPool p hS', ⟨by simp, by first | rfl | trivial⟩⟩
  | true =>
  have hnx : 1 ≤ p.next ∧ p.next ≤ 61 := by
    have := hPO
    unfold poolOk at this
    simp only [Bool.and_eq_true] at this
    have h := this.2.2.2.2.1
    unfold inB at h
    simpa using h
  refine brB_no rfl ⟨_, (c_impl_NameOk s (by omega) (nameOk s)).2 rfl, ?_⟩
  cases ha : nameOk s with
  | false => exact brB_yes rfl ⟨_, _, _, _, _, _, run_impl_copyPool p hS', ⟨by simp, by first | rfl | trivial⟩⟩
  | true =>
  refine brB_no rfl ⟨_, (c_impl_NameOk to (by omega) (nameOk to)).2 rfl, ?_⟩
  cases hb : nameOk to with
  | false => exact brB_yes rfl ⟨_, _, _, _, _, _, run_impl_copyPool p hS', ⟨by simp, by first | rfl | trivial⟩⟩
  | true =>
  rw [if_pos ⟨rfl, by first | rfl | trivial⟩]
  refine brB_no rfl ?_
  by_cases hn : volAt p.vols s < 0
  · rw [getZ_none (by omega)]
    exact brB_yes (by simpa using hn) ⟨_, _, _, _, _, _, run_impl_copyPool p hS', ⟨rfl, by first | rfl | trivial⟩⟩
  · obtain ⟨v, hv, _⟩ := idxF_get _ p.vols (show ¬ idxF (fun v : Vol => decide (v.name = s)) p.vols 0 < 0 from hn)
    have hv : getZ p.vols (volAt p.vols s) = some v := hv
    have hrow : rowAt (p.vols.map volC) (volAt p.vols s) = some [iS v.name, iI v.age, iI v.size, iB v.fx] := by rw [rowAt_mapZ, hv]; rfl
    have hl1 := newAge_len p.ages p.next v.age
    have hrise : Rise (p.vols.modify (volAt p.vols s).toNat fun u => { u with age := p.next }) := Rise.modify (f := fun u : Vol => { u with age := p.next }) (fun _ => rfl) _ (pool_rise hPO)
    have hml : (p.vols.modify (volAt p.vols s).toNat fun u => { u with age := p.next }).length ≤ 4194304 := by rw [List.length_modify]; omega
    have ha1 : addW p.next 1 = p.next + 1 := addW_eq (by omega)
    have ha2 : addW p.next 2 = p.next + 2 := addW_eq (by omega)
    have hXv := hX v
    rw [hv]
    refine brB_no (by simpa using hn) ⟨_, run_impl_VolAt p to (by omega), ?_⟩
    simp only []
    by_cases h1 : 0 ≤ volAt p.vols to
    · rw [if_pos h1]
      exact brB_yes (by simpa using h1) ⟨_, _, _, _, _, _, run_impl_copyPool p hS', ⟨rfl, by first | rfl | trivial⟩⟩
    · rw [if_neg h1]
      rw [ha1]
      refine brB_no (by simp <;> omega) ⟨_, _, _, _, _, _, run_impl_copyPool p hS', _, _, _, _, hrow, _, _, run_impl_NewAge p.ages p.next v.age (by omega), _, _, run_impl_NewAge (newAge p.ages p.next v.age).1 (p.next + 1) v.age (by omega), _, _, _, _, hrow, _, _, _, _, hrow, ?_⟩
      rw [sr_vol_age, ha2]
      refine ⟨_, run_impl_insertVol _ ⟨to, p.next + 1, v.size, fx⟩ (by omega), ?_⟩
      cases hq : (newAge p.ages p.next v.age).2 with
      | true => exact brB_yes rfl ⟨_, _, _, _, _, _, _, run_impl_settled_b p (snapX p to (volAt p.vols s) v fx) _ hS' hXv, ⟨rfl, by first | rfl | trivial⟩⟩
      | false => exact brB_no rfl ⟨_, _, _, _, _, _, _, run_impl_settled_b p (snapX p to (volAt p.vols s) v fx) _ hS' hXv, ⟨rfl, by first | rfl | trivial⟩⟩
theorem eqI30 : eqI 3 0 = false := by simp
theorem eqI100 : eqI 10 0 = false := by simp
def mTextF : Nat → Int → ByteArray → ByteArray
  | 0, _, out => out
  | n + 1, k, out => if k ≤ 0 then out else mTextF n (quoI .i64 k 10) (catS (strOf [wrapI .u8 (48 + remI k 10)]) out)
def mText (k : Int) : ByteArray := if k ≤ 0 then ⟨#[109, 48]⟩ else catS ⟨#[109]⟩ (mTextF 19 k bs0)
attribute [local semireducible] byteRows strOf catS in
theorem byteRows1 (n : Int) : byteRows [[TC.sc (.int .u8 n)]] = some [n] := rfl
attribute [local semireducible] strOf in
theorem strOf1 (n : Int) : (strOf [n]).size = 1 := rfl
attribute [local semireducible] catS in
theorem catS_size (a b : ByteArray) : (catS a b).size = a.size + b.size := by show (a ++ b).size = _; simp
attribute [local semireducible] quoI in
theorem quoI_eq {a b : Int} (h0 : 0 ≤ a) (h1 : a ≤ 9223372036854775807) : quoI .i64 a 10 = a / 10 := by
  show IntKind.i64.wrap (a.tdiv 10) = _
  rw [Int.tdiv_eq_ediv_of_nonneg h0]
  exact IntWalk.i64_in _ (by omega)
theorem mTextF_neg (n : Nat) (k : Int) (out : ByteArray) (h : k ≤ 0) : mTextF n k out = out := by cases n <;> simp [mTextF, h]
theorem run_markText (k : Int) (hk : k ≤ 2305843009213693952) : RunF C laws_markText [vI k] (vS (mText k)) [] := by
  refine (f_laws_markText _ _ ?_).run
  unfold mText
  simp only [leI_eq, brB_dec]
  by_cases h : k ≤ 0
  · rw [if_pos h, if_pos h]; exact ⟨rfl, by first | rfl | trivial⟩
  · rw [if_neg h, if_neg h]
    have key : ∀ (F : ByteArray) (n : Nat) (k' : Int) (out : ByteArray), k' < 10 ^ n → k' ≤ 2305843009213693952 → out.size + n ≤ 100 → mTextF n k' out = F → LoopG C laws_markText pRRRLB 4 0 (s_laws_markText_0 k' out) (fun u st => AftF C laws_markText pRRRLB u st fun r fs => r = vS (catS ⟨#[109]⟩ F) ∧ fs = []) := by
      intro F n
      induction n with
      | zero =>
        intro k' out h1 h2 h3 h4
        refine r_laws_markText_0 _ _ _ (brB_no (by simp at h1 ⊢; omega) (a_laws_markText_1 _ _ _ _ ?_))
        simp only [mTextF] at h4
        subst h4
        refine brB_yes (fitsT (by simp only [natAdd, strLen]; omega)) ⟨rfl, by first | rfl | trivial⟩
      | succ n ih =>
        intro k' out h1 h2 h3 h4
        by_cases h0 : k' ≤ 0
        · rw [mTextF_neg _ _ _ h0] at h4
          subst h4
          exact r_laws_markText_0 _ _ _ (brB_no (by simp; omega) (a_laws_markText_1 _ _ _ _ (brB_yes (fitsT (by simp only [natAdd, strLen]; omega)) ⟨rfl, by first | rfl | trivial⟩)))
        · simp only [mTextF, if_neg h0] at h4
          have hr : 0 ≤ remI k' 10 ∧ remI k' 10 ≤ 9 := by rw [remI_eq, Int.tmod_eq_emod_of_nonneg (by omega)]; omega
          refine r_laws_markText_0 _ _ _ (brB_yes (by simp; omega) (brB_no eqI100 ⟨_, byteRows1 _, brB_yes (fitsT (by simp only [natAdd, strLen, strOf1]; omega)) (brB_no eqI100 ?_)⟩))
          rw [addW_eq (by omega)]
          refine ih _ _ ?_ ?_ ?_ h4
          · rw [quoI_eq (b := 0) (by omega) (by omega)]
            have : (10 : Int) ^ (n + 1) = 10 ^ n * 10 := Int.pow_succ ..
            omega
          · rw [quoI_eq (b := 0) (by omega) (by omega)]; omega
          · rw [catS_size, strOf1]; omega
    exact key _ 19 k bs0 (by rw [show (10 : Int) ^ 19 = 10000000000000000000 from by decide]; omega) hk (by decide) rfl
theorem c_markText (k : Int) (hk : k ≤ 2305843009213693952) (q : ByteArray) : RunF C laws_markText [vI k] (vS q) [] ↔ q = mText k := iffS (run_markText k hk)
def mkInt (_ : Int) (k : Int) : Int := k
def wInt (_ : Int) : Nat := 1
theorem markIntS (l : List (Int)) (k : Int) (h0 : 0 ≤ k) (hk : k + tot wInt l ≤ 2305843009213693952) (hl : l.length ≤ 1099511627776) : RunF C laws_markIntS [vInts l, vI k] (vI (k + tot wInt l)) [vInts (markG mkInt wInt l k)] := by
  refine (f_laws_markIntS _ _ _ ?_).run
  refine mark_loop (e := intC) mkInt wInt (fun k i rows => LoopG C laws_markIntS pRLRB 4 0 (s_laws_markIntS_0 k i rows) _) 2305843009213693952 ?_ l [] k h0 hk (by simpa using hl) ?_
  · intro d a r k h0 hk hd hn
    have hw : wInt a = 1 := rfl
    rw [hw] at hk hn
    refine r_laws_markIntS_0 _ _ _ _ (brB_yes (by simp; omega) ?_)
    simp (disch := omega) only [addW_eq]
    simp only [ex_int, sr_int, getZ_mod, ex_some_map, getZ_mid, Option.some.injEq, exists_eq_left', exists_eq_left, mod_mod, eqI30, brB_f, brB_not]
    rw [mod_mid]
    rw [show (k + 1 : Int) = k + ((1 : Nat) : Int) by omega]
    exact hn
  · refine r_laws_markIntS_0 _ _ _ _ (brB_no (by simp [markG_len]) (a_laws_markIntS_1 _ _ _ _ _ ⟨rfl, by first | rfl | trivial⟩))
theorem heldIntS (l : List (Int)) (k : Int) (h0 : 0 ≤ k) (hk : k + tot wInt l ≤ 2305843009213693952) (hl : l.length ≤ 1099511627776) : RunF C laws_heldIntS [vInts (markG mkInt wInt l k), vI k] (vI (k + tot wInt l)) [] := by
  refine (f_laws_heldIntS _ _ _ ?_).run
  refine held_loop (e := intC) mkInt wInt (fun k i rows => LoopG C laws_heldIntS pRLRB 4 0 (s_laws_heldIntS_0 rows k i) _) 2305843009213693952 ?_ l [] k h0 hk (by simpa using hl) ?_
  · intro d a r k h0 hk hd hn
    have hw : wInt a = 1 := rfl
    rw [hw] at hk hn
    refine r_laws_heldIntS_0 _ _ _ _ (brB_yes (by simp; omega) ?_)
    simp (disch := omega) only [addW_eq]
    simp only [ex_int, getZ_mod, ex_some_map, getZ_mid, Option.some.injEq, exists_eq_left', exists_eq_left, mod_mod, eqI30, brB_f, brB_not, mkInt, eqI_eq, eqS_eq, eqB_eq, brB_dec, if_true, decide_true, Bool.not_true]
    rw [show (k + 1 : Int) = k + ((1 : Nat) : Int) by omega]
    exact hn
  · refine r_laws_heldIntS_0 _ _ _ _ (brB_no (by simp [markG_len]) (a_laws_heldIntS_2 _ _ _ _ _ ⟨rfl, by first | rfl | trivial⟩))
def mkKey (_ : Key) (k : Int) : Key := ⟨k, k + 1, k + 1 + 1, k + 1 + 1 + 1, k + 1 + 1 + 1 + 1⟩
def wKey (_ : Key) : Nat := 5
theorem markKeyS (l : List (Key)) (k : Int) (h0 : 0 ≤ k) (hk : k + tot wKey l ≤ 2305843009213693952) (hl : l.length ≤ 1099511627776) : RunF C laws_markKeyS [vKeys l, vI k] (vI (k + tot wKey l)) [vKeys (markG mkKey wKey l k)] := by
  refine (f_laws_markKeyS _ _ _ ?_).run
  refine mark_loop (e := keyC) mkKey wKey (fun k i rows => LoopG C laws_markKeyS pRLRB 4 0 (s_laws_markKeyS_0 k i rows) _) 2305843009213693952 ?_ l [] k h0 hk (by simpa using hl) ?_
  · intro d a r k h0 hk hd hn
    have hw : wKey a = 5 := rfl
    rw [hw] at hk hn
    refine r_laws_markKeyS_0 _ _ _ _ (brB_yes (by simp; omega) ?_)
    simp (disch := omega) only [addW_eq]
    simp only [ex_key, sr_key_b, sr_key_a, sr_key_k, sr_key_c, sr_key_g, sr_key, getZ_mod, ex_some_map, getZ_mid, Option.some.injEq, exists_eq_left', exists_eq_left, mod_mod, eqI30, brB_f, brB_not]
    rw [mod_mid]
    rw [show (k + 1 + 1 + 1 + 1 + 1 : Int) = k + ((5 : Nat) : Int) by omega]
    exact hn
  · refine r_laws_markKeyS_0 _ _ _ _ (brB_no (by simp [markG_len]) (a_laws_markKeyS_1 _ _ _ _ _ ⟨rfl, by first | rfl | trivial⟩))
theorem heldKeyS (l : List (Key)) (k : Int) (h0 : 0 ≤ k) (hk : k + tot wKey l ≤ 2305843009213693952) (hl : l.length ≤ 1099511627776) : RunF C laws_heldKeyS [vKeys (markG mkKey wKey l k), vI k] (vI (k + tot wKey l)) [] := by
  refine (f_laws_heldKeyS _ _ _ ?_).run
  refine held_loop (e := keyC) mkKey wKey (fun k i rows => LoopG C laws_heldKeyS pRLRB 4 0 (s_laws_heldKeyS_0 rows k i) _) 2305843009213693952 ?_ l [] k h0 hk (by simpa using hl) ?_
  · intro d a r k h0 hk hd hn
    have hw : wKey a = 5 := rfl
    rw [hw] at hk hn
    refine r_laws_heldKeyS_0 _ _ _ _ (brB_yes (by simp; omega) ?_)
    simp (disch := omega) only [addW_eq]
    simp only [ex_key, getZ_mod, ex_some_map, getZ_mid, Option.some.injEq, exists_eq_left', exists_eq_left, mod_mod, eqI30, brB_f, brB_not, mkKey, eqI_eq, eqS_eq, eqB_eq, brB_dec, if_true, decide_true, Bool.not_true]
    rw [show (k + 1 + 1 + 1 + 1 + 1 : Int) = k + ((5 : Nat) : Int) by omega]
    exact hn
  · refine r_laws_heldKeyS_0 _ _ _ _ (brB_no (by simp [markG_len]) (a_laws_heldKeyS_2 _ _ _ _ _ ⟨rfl, by first | rfl | trivial⟩))
def mkAge (_ : Age) (k : Int) : Age := ⟨k, k + 1⟩
def wAge (_ : Age) : Nat := 2
theorem markAgeS (l : List (Age)) (k : Int) (h0 : 0 ≤ k) (hk : k + tot wAge l ≤ 2305843009213693952) (hl : l.length ≤ 1099511627776) : RunF C laws_markAgeS [vAges l, vI k] (vI (k + tot wAge l)) [vAges (markG mkAge wAge l k)] := by
  refine (f_laws_markAgeS _ _ _ ?_).run
  refine mark_loop (e := ageC) mkAge wAge (fun k i rows => LoopG C laws_markAgeS pRLRB 4 0 (s_laws_markAgeS_0 k i rows) _) 2305843009213693952 ?_ l [] k h0 hk (by simpa using hl) ?_
  · intro d a r k h0 hk hd hn
    have hw : wAge a = 2 := rfl
    rw [hw] at hk hn
    refine r_laws_markAgeS_0 _ _ _ _ (brB_yes (by simp; omega) ?_)
    simp (disch := omega) only [addW_eq]
    simp only [ex_age, sr_age_id, sr_age_fr, sr_age, getZ_mod, ex_some_map, getZ_mid, Option.some.injEq, exists_eq_left', exists_eq_left, mod_mod, eqI30, brB_f, brB_not]
    rw [mod_mid]
    rw [show (k + 1 + 1 : Int) = k + ((2 : Nat) : Int) by omega]
    exact hn
  · refine r_laws_markAgeS_0 _ _ _ _ (brB_no (by simp [markG_len]) (a_laws_markAgeS_1 _ _ _ _ _ ⟨rfl, by first | rfl | trivial⟩))
theorem heldAgeS (l : List (Age)) (k : Int) (h0 : 0 ≤ k) (hk : k + tot wAge l ≤ 2305843009213693952) (hl : l.length ≤ 1099511627776) : RunF C laws_heldAgeS [vAges (markG mkAge wAge l k), vI k] (vI (k + tot wAge l)) [] := by
  refine (f_laws_heldAgeS _ _ _ ?_).run
  refine held_loop (e := ageC) mkAge wAge (fun k i rows => LoopG C laws_heldAgeS pRLRB 4 0 (s_laws_heldAgeS_0 rows k i) _) 2305843009213693952 ?_ l [] k h0 hk (by simpa using hl) ?_
  · intro d a r k h0 hk hd hn
    have hw : wAge a = 2 := rfl
    rw [hw] at hk hn
    refine r_laws_heldAgeS_0 _ _ _ _ (brB_yes (by simp; omega) ?_)
    simp (disch := omega) only [addW_eq]
    simp only [ex_age, getZ_mod, ex_some_map, getZ_mid, Option.some.injEq, exists_eq_left', exists_eq_left, mod_mod, eqI30, brB_f, brB_not, mkAge, eqI_eq, eqS_eq, eqB_eq, brB_dec, if_true, decide_true, Bool.not_true]
    rw [show (k + 1 + 1 : Int) = k + ((2 : Nat) : Int) by omega]
    exact hn
  · refine r_laws_heldAgeS_0 _ _ _ _ (brB_no (by simp [markG_len]) (a_laws_heldAgeS_2 _ _ _ _ _ ⟨rfl, by first | rfl | trivial⟩))
def mkCell (_ : Cell) (k : Int) : Cell := ⟨k, eqI (remI (k + 1) 3) 0, k + 1 + 1⟩
def wCell (_ : Cell) : Nat := 3
theorem markCellS (l : List (Cell)) (k : Int) (h0 : 0 ≤ k) (hk : k + tot wCell l ≤ 2305843009213693952) (hl : l.length ≤ 1099511627776) : RunF C laws_markCellS [vCells l, vI k] (vI (k + tot wCell l)) [vCells (markG mkCell wCell l k)] := by
  refine (f_laws_markCellS _ _ _ ?_).run
  refine mark_loop (e := cellC) mkCell wCell (fun k i rows => LoopG C laws_markCellS pRLRB 4 0 (s_laws_markCellS_0 k i rows) _) 2305843009213693952 ?_ l [] k h0 hk (by simpa using hl) ?_
  · intro d a r k h0 hk hd hn
    have hw : wCell a = 3 := rfl
    rw [hw] at hk hn
    refine r_laws_markCellS_0 _ _ _ _ (brB_yes (by simp; omega) ?_)
    simp (disch := omega) only [addW_eq]
    simp only [ex_cell, sr_cell_g, sr_cell_u, sr_cell_n, sr_cell, getZ_mod, ex_some_map, getZ_mid, Option.some.injEq, exists_eq_left', exists_eq_left, mod_mod, eqI30, brB_f, brB_not]
    rw [mod_mid]
    rw [show (k + 1 + 1 + 1 : Int) = k + ((3 : Nat) : Int) by omega]
    exact hn
  · refine r_laws_markCellS_0 _ _ _ _ (brB_no (by simp [markG_len]) (a_laws_markCellS_1 _ _ _ _ _ ⟨rfl, by first | rfl | trivial⟩))
theorem heldCellS (l : List (Cell)) (k : Int) (h0 : 0 ≤ k) (hk : k + tot wCell l ≤ 2305843009213693952) (hl : l.length ≤ 1099511627776) : RunF C laws_heldCellS [vCells (markG mkCell wCell l k), vI k] (vI (k + tot wCell l)) [] := by
  refine (f_laws_heldCellS _ _ _ ?_).run
  refine held_loop (e := cellC) mkCell wCell (fun k i rows => LoopG C laws_heldCellS pRLRB 4 0 (s_laws_heldCellS_0 rows k i) _) 2305843009213693952 ?_ l [] k h0 hk (by simpa using hl) ?_
  · intro d a r k h0 hk hd hn
    have hw : wCell a = 3 := rfl
    rw [hw] at hk hn
    refine r_laws_heldCellS_0 _ _ _ _ (brB_yes (by simp; omega) ?_)
    simp (disch := omega) only [addW_eq]
    simp only [ex_cell, getZ_mod, ex_some_map, getZ_mid, Option.some.injEq, exists_eq_left', exists_eq_left, mod_mod, eqI30, brB_f, brB_not, mkCell, eqI_eq, eqS_eq, eqB_eq, brB_dec, if_true, decide_true, Bool.not_true]
    rw [show (k + 1 + 1 + 1 : Int) = k + ((3 : Nat) : Int) by omega]
    simpa [mkCell] using hn
  · refine r_laws_heldCellS_0 _ _ _ _ (brB_no (by simp [markG_len]) (a_laws_heldCellS_2 _ _ _ _ _ ⟨rfl, by first | rfl | trivial⟩))
def mkVol (_ : Vol) (k : Int) : Vol := ⟨mText (k), k + 1, k + 1 + 1, eqI (remI (k + 1 + 1 + 1) 3) 0⟩
def wVol (_ : Vol) : Nat := 4
theorem markVolS (l : List (Vol)) (k : Int) (h0 : 0 ≤ k) (hk : k + tot wVol l ≤ 2305843009213693952) (hl : l.length ≤ 1099511627776) : RunF C laws_markVolS [vVols l, vI k] (vI (k + tot wVol l)) [vVols (markG mkVol wVol l k)] := by
  refine (f_laws_markVolS _ _ _ ?_).run
  refine mark_loop (e := volC) mkVol wVol (fun k i rows => LoopG C laws_markVolS pRLRB 4 0 (s_laws_markVolS_0 k i rows) _) 2305843009213693952 ?_ l [] k h0 hk (by simpa using hl) ?_
  · intro d a r k h0 hk hd hn
    have hw : wVol a = 4 := rfl
    rw [hw] at hk hn
    refine r_laws_markVolS_0 _ _ _ _ (brB_yes (by simp; omega) ?_)
    simp (disch := omega) only [addW_eq]
    simp only [ex_vol, sr_vol_name, sr_vol_age, sr_vol_size, sr_vol_fx, sr_vol, c_markText (k) (by omega), getZ_mod, ex_some_map, getZ_mid, Option.some.injEq, exists_eq_left', exists_eq_left, mod_mod, eqI30, brB_f, brB_not]
    rw [mod_mid]
    rw [show (k + 1 + 1 + 1 + 1 : Int) = k + ((4 : Nat) : Int) by omega]
    exact hn
  · refine r_laws_markVolS_0 _ _ _ _ (brB_no (by simp [markG_len]) (a_laws_markVolS_1 _ _ _ _ _ ⟨rfl, by first | rfl | trivial⟩))
theorem heldVolS (l : List (Vol)) (k : Int) (h0 : 0 ≤ k) (hk : k + tot wVol l ≤ 2305843009213693952) (hl : l.length ≤ 1099511627776) : RunF C laws_heldVolS [vVols (markG mkVol wVol l k), vI k] (vI (k + tot wVol l)) [] := by
  refine (f_laws_heldVolS _ _ _ ?_).run
  refine held_loop (e := volC) mkVol wVol (fun k i rows => LoopG C laws_heldVolS pRLRB 4 0 (s_laws_heldVolS_0 rows k i) _) 2305843009213693952 ?_ l [] k h0 hk (by simpa using hl) ?_
  · intro d a r k h0 hk hd hn
    have hw : wVol a = 4 := rfl
    rw [hw] at hk hn
    refine r_laws_heldVolS_0 _ _ _ _ (brB_yes (by simp; omega) ?_)
    simp (disch := omega) only [addW_eq]
    simp only [ex_vol, c_markText (k) (by omega), getZ_mod, ex_some_map, getZ_mid, Option.some.injEq, exists_eq_left', exists_eq_left, mod_mod, eqI30, brB_f, brB_not, mkVol, eqI_eq, eqS_eq, eqB_eq, brB_dec, if_true, decide_true, Bool.not_true]
    rw [show (k + 1 + 1 + 1 + 1 : Int) = k + ((4 : Nat) : Int) by omega]
    simpa [mkVol] using hn
  · refine r_laws_heldVolS_0 _ _ _ _ (brB_no (by simp [markG_len]) (a_laws_heldVolS_2 _ _ _ _ _ ⟨rfl, by first | rfl | trivial⟩))
def mkKeyS (s : List Key) (k : Int) : List Key := markG mkKey wKey s k
def wKeyS (s : List Key) : Nat := tot wKey s
theorem markKeySS : ∀ (l : List (List Key)) (k : Int) (h0 : 0 ≤ k) (hk : k + tot wKeyS l ≤ 2305843009213693952) (hl : l.length ≤ 1099511627776) (hs : ∀ s ∈ l, s.length ≤ 1099511627776), RunF C laws_markKeySS [vSets l, vI k] (vI (k + tot wKeyS l)) [vSets (markG mkKeyS wKeyS l k)] := by
  intro l k h0 hk hl hs
  refine (f_laws_markKeySS _ _ _ ?_).run
  have key : ∀ (r d : List (List Key)) (k : Int), 0 ≤ k → k + tot wKeyS r ≤ 2305843009213693952 → d.length + r.length ≤ 1099511627776 → (∀ s ∈ r, s.length ≤ 1099511627776) → ∀ (R : TV) (F : List TV), vI (k + tot wKeyS r) = R → [vSets (d ++ markG mkKeyS wKeyS r k)] = F → LoopG C laws_markKeySS pRLRB 4 0 (s_laws_markKeySS_0 k (d.length : Int) ((d ++ r).map setC)) (fun u st => AftF C laws_markKeySS pRLRB u st fun r fs => r = R ∧ fs = F) := by
    intro r
    induction r with
    | nil =>
      intro d k h0 hk hl hs R F hR hF
      subst hR hF
      refine r_laws_markKeySS_0 _ _ _ _ (brB_no (by simp) (a_laws_markKeySS_1 _ _ _ _ _ ⟨by simp [tot], by simp [markG]⟩))
    | cons a r ih =>
      intro d k h0 hk hl hs R F hR hF
      simp only [tot, List.length_cons] at hk hl
      have hca := hs a (.head _)
      have hu : tot wKey a = wKeyS a := rfl
      refine r_laws_markKeySS_0 _ _ _ _ (brB_yes (by simp; omega) ?_)
      simp only [ex_set, getZ_mid, Option.some.injEq, exists_eq_left']
      refine ⟨_, _, markKeyS a k h0 (by omega) hca, ?_⟩
      simp only [sr_set]
      rw [mod_mid, addW_eq (by omega)]
      have := ih (d ++ [mkKeyS a k]) (k + wKeyS a) (by omega) (by omega) (by simp; omega) (fun s h => hs s (.tail _ h)) R F (by rw [← hR]; simp only [tot]; rw [show k + (wKeyS a : Int) + (tot wKeyS r : Int) = k + ((wKeyS a + tot wKeyS r : Nat) : Int) by omega]) (by rw [← hF]; simp [markG])
      rw [← hu] at this
      simpa [mkKeyS] using this
  exact key l [] k h0 hk (by simpa using hl) hs _ _ rfl (by simp)
theorem heldKeySS : ∀ (l : List (List Key)) (k : Int) (h0 : 0 ≤ k) (hk : k + tot wKeyS l ≤ 2305843009213693952) (hl : l.length ≤ 1099511627776) (hs : ∀ s ∈ l, s.length ≤ 1099511627776), RunF C laws_heldKeySS [vSets (markG mkKeyS wKeyS l k), vI k] (vI (k + tot wKeyS l)) [] := by
  intro l k h0 hk hl hs
  refine (f_laws_heldKeySS _ _ _ ?_).run
  have key : ∀ (r d : List (List Key)) (k : Int), 0 ≤ k → k + tot wKeyS r ≤ 2305843009213693952 → d.length + r.length ≤ 1099511627776 → (∀ s ∈ r, s.length ≤ 1099511627776) → ∀ (R : TV), vI (k + tot wKeyS r) = R → LoopG C laws_heldKeySS pRLRB 4 0 (s_laws_heldKeySS_0 ((d ++ markG mkKeyS wKeyS r k).map setC) k (d.length : Int)) (fun u st => AftF C laws_heldKeySS pRLRB u st fun r fs => r = R ∧ fs = []) := by
    intro r
    induction r with
    | nil =>
      intro d k h0 hk hl hs R hR
      subst hR
      refine r_laws_heldKeySS_0 _ _ _ _ (brB_no (by simp [markG]) (a_laws_heldKeySS_2 _ _ _ _ _ ⟨by simp [tot], rfl⟩))
    | cons a r ih =>
      intro d k h0 hk hl hs R hR
      simp only [tot, List.length_cons] at hk hl
      have hca := hs a (.head _)
      have hu : tot wKey a = wKeyS a := rfl
      simp only [markG]
      refine r_laws_heldKeySS_0 _ _ _ _ (brB_yes (by simp; omega) ?_)
      simp only [ex_set, getZ_mid, Option.some.injEq, exists_eq_left']
      refine ⟨_, heldKeyS a k h0 (by omega) hca, brB_no (by simp; omega) ?_⟩
      rw [addW_eq (by omega)]
      have := ih (d ++ [mkKeyS a k]) (k + wKeyS a) (by omega) (by omega) (by simp; omega) (fun s h => hs s (.tail _ h)) R (by rw [← hR]; simp only [tot]; rw [show k + (wKeyS a : Int) + (tot wKeyS r : Int) = k + ((wKeyS a + tot wKeyS r : Nat) : Int) by omega])
      rw [hu]
      simpa [mkKeyS] using this
  exact key l [] k h0 hk (by simpa using hl) hs _ rfl
def mkNode (s : List (List Key)) (k : Int) : List (List Key) := markG mkKeyS wKeyS s k
def wNode (s : List (List Key)) : Nat := tot wKeyS s
theorem markNodeS : ∀ (l : List (List (List Key))) (k : Int) (h0 : 0 ≤ k) (hk : k + tot wNode l ≤ 2305843009213693952) (hl : l.length ≤ 1099511627776) (hs : ∀ s ∈ l, NodeB s), RunF C laws_markNodeS [vNodes l, vI k] (vI (k + tot wNode l)) [vNodes (markG mkNode wNode l k)] := by
  intro l k h0 hk hl hs
  refine (f_laws_markNodeS _ _ _ ?_).run
  have key : ∀ (r d : List (List (List Key))) (k : Int), 0 ≤ k → k + tot wNode r ≤ 2305843009213693952 → d.length + r.length ≤ 1099511627776 → (∀ s ∈ r, NodeB s) → ∀ (R : TV) (F : List TV), vI (k + tot wNode r) = R → [vNodes (d ++ markG mkNode wNode r k)] = F → LoopG C laws_markNodeS pRLRB 4 0 (s_laws_markNodeS_0 k (d.length : Int) ((d ++ r).map nodeC)) (fun u st => AftF C laws_markNodeS pRLRB u st fun r fs => r = R ∧ fs = F) := by
    intro r
    induction r with
    | nil =>
      intro d k h0 hk hl hs R F hR hF
      subst hR hF
      refine r_laws_markNodeS_0 _ _ _ _ (brB_no (by simp) (a_laws_markNodeS_1 _ _ _ _ _ ⟨by simp [tot], by simp [markG]⟩))
    | cons a r ih =>
      intro d k h0 hk hl hs R F hR hF
      simp only [tot, List.length_cons] at hk hl
      have hca := hs a (.head _)
      have hu : tot wKeyS a = wNode a := rfl
      refine r_laws_markNodeS_0 _ _ _ _ (brB_yes (by simp; omega) ?_)
      simp only [ex_node, getZ_mid, Option.some.injEq, exists_eq_left']
      refine ⟨_, _, markKeySS a k h0 (by omega) hca.1 hca.2, ?_⟩
      simp only [sr_node]
      rw [mod_mid, addW_eq (by omega)]
      have := ih (d ++ [mkNode a k]) (k + wNode a) (by omega) (by omega) (by simp; omega) (fun s h => hs s (.tail _ h)) R F (by rw [← hR]; simp only [tot]; rw [show k + (wNode a : Int) + (tot wNode r : Int) = k + ((wNode a + tot wNode r : Nat) : Int) by omega]) (by rw [← hF]; simp [markG])
      rw [← hu] at this
      simpa [mkNode] using this
  exact key l [] k h0 hk (by simpa using hl) hs _ _ rfl (by simp)
theorem heldNodeS : ∀ (l : List (List (List Key))) (k : Int) (h0 : 0 ≤ k) (hk : k + tot wNode l ≤ 2305843009213693952) (hl : l.length ≤ 1099511627776) (hs : ∀ s ∈ l, NodeB s), RunF C laws_heldNodeS [vNodes (markG mkNode wNode l k), vI k] (vI (k + tot wNode l)) [] := by
  intro l k h0 hk hl hs
  refine (f_laws_heldNodeS _ _ _ ?_).run
  have key : ∀ (r d : List (List (List Key))) (k : Int), 0 ≤ k → k + tot wNode r ≤ 2305843009213693952 → d.length + r.length ≤ 1099511627776 → (∀ s ∈ r, NodeB s) → ∀ (R : TV), vI (k + tot wNode r) = R → LoopG C laws_heldNodeS pRLRB 4 0 (s_laws_heldNodeS_0 ((d ++ markG mkNode wNode r k).map nodeC) k (d.length : Int)) (fun u st => AftF C laws_heldNodeS pRLRB u st fun r fs => r = R ∧ fs = []) := by
    intro r
    induction r with
    | nil =>
      intro d k h0 hk hl hs R hR
      subst hR
      refine r_laws_heldNodeS_0 _ _ _ _ (brB_no (by simp [markG]) (a_laws_heldNodeS_2 _ _ _ _ _ ⟨by simp [tot], rfl⟩))
    | cons a r ih =>
      intro d k h0 hk hl hs R hR
      simp only [tot, List.length_cons] at hk hl
      have hca := hs a (.head _)
      have hu : tot wKeyS a = wNode a := rfl
      simp only [markG]
      refine r_laws_heldNodeS_0 _ _ _ _ (brB_yes (by simp; omega) ?_)
      simp only [ex_node, getZ_mid, Option.some.injEq, exists_eq_left']
      refine ⟨_, heldKeySS a k h0 (by omega) hca.1 hca.2, brB_no (by simp; omega) ?_⟩
      rw [addW_eq (by omega)]
      have := ih (d ++ [mkNode a k]) (k + wNode a) (by omega) (by omega) (by simp; omega) (fun s h => hs s (.tail _ h)) R (by rw [← hR]; simp only [tot]; rw [show k + (wNode a : Int) + (tot wNode r : Int) = k + ((wNode a + tot wNode r : Nat) : Int) by omega])
      rw [hu]
      simpa [mkNode] using this
  exact key l [] k h0 hk (by simpa using hl) hs _ rfl
def wTree (t : Tree) : Nat := tot wInt t.lows + tot wNode t.nodes
def mkTree (t : Tree) (k : Int) : Tree := ⟨markG mkInt wInt t.lows k, markG mkNode wNode t.nodes (k + tot wInt t.lows)⟩
theorem markTree (t : Tree) (k : Int) (h0 : 0 ≤ k) (hk : k + wTree t ≤ 2305843009213693952) (h : TreeB t) : RunF C laws_markTree [vTree t, vI k] (vI (k + wTree t)) [vTree (mkTree t k)] := by
  unfold wTree at *
  refine (f_laws_markTree _ _ _ _ ⟨_, _, markIntS t.lows k h0 (by omega) h.1, _, _, markNodeS t.nodes _ (by omega) (by omega) h.2.1 h.2.2, ?_⟩).run
  exact ⟨by congr 2; omega, rfl⟩
theorem heldTree (t : Tree) (k : Int) (h0 : 0 ≤ k) (hk : k + wTree t ≤ 2305843009213693952) (h : TreeB t) : RunF C laws_heldTree [vTree (mkTree t k), vI k] (vI (k + wTree t)) [] := by
  unfold wTree at *
  refine (f_laws_heldTree _ _ _ _ ⟨_, heldIntS t.lows k h0 (by omega) h.1, brB_no (by simp; omega) ⟨_, heldNodeS t.nodes _ (by omega) (by omega) h.2.1 h.2.2, brB_no (by simp; omega) ?_⟩⟩).run
  exact ⟨by congr 2; omega, rfl⟩
def wPool (p : Pool) : Nat := wTree p.t + tot wAge p.ages + tot wCell p.cells + tot wVol p.vols
def mkPool (p : Pool) (k : Int) : Pool := ⟨mkTree p.t k, markG mkAge wAge p.ages (k + wTree p.t), markG mkCell wCell p.cells (k + wTree p.t + tot wAge p.ages), markG mkVol wVol p.vols (k + wTree p.t + tot wAge p.ages + tot wCell p.cells), p.next⟩
theorem markPool (p : Pool) (k : Int) (h0 : 0 ≤ k) (hk : k + wPool p ≤ 2305843009213693952) (h : PoolB p) : RunF C laws_markPool [vPool p, vI k] (vI (k + wPool p)) [vPool (mkPool p k)] := by
  unfold wPool at *
  refine (f_laws_markPool _ _ _ _ _ _ _ _ ⟨_, _, _, markTree p.t k h0 (by omega) h.t, _, _, markAgeS p.ages _ (by omega) (by omega) h.ages, _, _, markCellS p.cells _ (by omega) (by omega) h.cells, _, _, markVolS p.vols _ (by omega) (by omega) h.vols, ?_⟩).run
  exact ⟨by congr 2; omega, rfl⟩
theorem heldPool (p : Pool) (k : Int) (h0 : 0 ≤ k) (hk : k + wPool p ≤ 2305843009213693952) (h : PoolB p) : RunF C laws_heldPool [vPool (mkPool p k), vI k] (vI (k + wPool p)) [] := by
  unfold wPool at *
  refine (f_laws_heldPool _ _ _ _ _ _ _ _ ⟨_, heldTree p.t k h0 (by omega) h.t, brB_no (by simp; omega) ⟨_, heldAgeS p.ages _ (by omega) (by omega) h.ages, brB_no (by simp; omega) ⟨_, heldCellS p.cells _ (by omega) (by omega) h.cells, brB_no (by simp; omega) ⟨_, heldVolS p.vols _ (by omega) (by omega) h.vols, brB_no (by simp; omega) ?_⟩⟩⟩⟩).run
  exact ⟨by congr 2; omega, rfl⟩
theorem len_of {n z : Nat} (h : n * z ≤ reachBytes) (hz : 1 ≤ z) : n ≤ 140737488355328 := by
  have : reachBytes ≤ 140737488355328 := by decide
  have h2 : n * 1 ≤ n * z := Nat.mul_le_mul_left n hz
  omega
theorem i64_hi {n : Int} (h : (Lit.int .i64 n).wf = true) : n ≤ 9223372036854775807 := by
  have := (i64_wf h).2
  omega
theorem int_in {r : List TC} (h : WfT C.tt t_int r) : ∃ n : Int, r = intC n ∧ True := by
  obtain ⟨n, rfl, _⟩ := h.int_inv (k := .i64) (by kernel_rfl)
  exact ⟨n, rfl, trivial⟩
theorem key_in {r : List TC} (h : WfT C.tt t_laws_Key r) : ∃ x : Key, r = keyC x ∧ True := by
  obtain ⟨q0, r0, rfl, h0, k0⟩ := (h.struct_inv (fs := [(0, 3), (1, 3), (2, 3), (3, 3), (4, 3)]) (by kernel_rfl)).cons_inv
  obtain ⟨q1, r1, rfl, h1, k1⟩ := k0.cons_inv
  obtain ⟨q2, r2, rfl, h2, k2⟩ := k1.cons_inv
  obtain ⟨q3, r3, rfl, h3, k3⟩ := k2.cons_inv
  obtain ⟨q4, r4, rfl, h4, k4⟩ := k3.cons_inv
  have e := k4.nil_inv
  subst e
  obtain ⟨v0, rfl, u0⟩ := h0.int_inv (k := .i64) (by kernel_rfl)
  obtain ⟨v1, rfl, u1⟩ := h1.int_inv (k := .i64) (by kernel_rfl)
  obtain ⟨v2, rfl, u2⟩ := h2.int_inv (k := .i64) (by kernel_rfl)
  obtain ⟨v3, rfl, u3⟩ := h3.int_inv (k := .i64) (by kernel_rfl)
  obtain ⟨v4, rfl, u4⟩ := h4.int_inv (k := .i64) (by kernel_rfl)
  exact ⟨⟨v0, v1, v2, v3, v4⟩, rfl, trivial⟩
theorem age_in {r : List TC} (h : WfT C.tt t_laws_Age r) : ∃ x : Age, r = ageC x ∧ True := by
  obtain ⟨q0, r0, rfl, h0, k0⟩ := (h.struct_inv (fs := [(0, 3), (1, 3)]) (by kernel_rfl)).cons_inv
  obtain ⟨q1, r1, rfl, h1, k1⟩ := k0.cons_inv
  have e := k1.nil_inv
  subst e
  obtain ⟨v0, rfl, u0⟩ := h0.int_inv (k := .i64) (by kernel_rfl)
  obtain ⟨v1, rfl, u1⟩ := h1.int_inv (k := .i64) (by kernel_rfl)
  exact ⟨⟨v0, v1⟩, rfl, trivial⟩
theorem cell_in {r : List TC} (h : WfT C.tt t_laws_Cell r) : ∃ x : Cell, r = cellC x ∧ True := by
  obtain ⟨q0, r0, rfl, h0, k0⟩ := (h.struct_inv (fs := [(0, 3), (1, 4), (2, 3)]) (by kernel_rfl)).cons_inv
  obtain ⟨q1, r1, rfl, h1, k1⟩ := k0.cons_inv
  obtain ⟨q2, r2, rfl, h2, k2⟩ := k1.cons_inv
  have e := k2.nil_inv
  subst e
  obtain ⟨v0, rfl, u0⟩ := h0.int_inv (k := .i64) (by kernel_rfl)
  obtain ⟨v1, rfl⟩ := h1.bool_inv (by kernel_rfl)
  obtain ⟨v2, rfl, u2⟩ := h2.int_inv (k := .i64) (by kernel_rfl)
  exact ⟨⟨v0, v1, v2⟩, rfl, trivial⟩
theorem vol_in {r : List TC} (h : WfT C.tt t_laws_Vol r) : ∃ x : Vol, r = volC x ∧ x.name.size ≤ 140737488355328 ∧ x.size ≤ 9223372036854775807 := by
  obtain ⟨q0, r0, rfl, h0, k0⟩ := (h.struct_inv (fs := [(0, 9), (1, 3), (2, 3), (3, 4)]) (by kernel_rfl)).cons_inv
  obtain ⟨q1, r1, rfl, h1, k1⟩ := k0.cons_inv
  obtain ⟨q2, r2, rfl, h2, k2⟩ := k1.cons_inv
  obtain ⟨q3, r3, rfl, h3, k3⟩ := k2.cons_inv
  have e := k3.nil_inv
  subst e
  obtain ⟨v0, rfl, z0⟩ := h0.str_inv (by kernel_rfl)
  obtain ⟨v1, rfl, u1⟩ := h1.int_inv (k := .i64) (by kernel_rfl)
  obtain ⟨v2, rfl, u2⟩ := h2.int_inv (k := .i64) (by kernel_rfl)
  obtain ⟨v3, rfl⟩ := h3.bool_inv (by kernel_rfl)
  exact ⟨⟨v0, v1, v2, v3⟩, rfl, ⟨Nat.le_trans z0 (by decide), i64_hi u2⟩⟩
theorem ints_rows {r : List TC} (h : WfT C.tt t_S_int r) : ∃ l : List (Int), r = [.sub 1 (l.map intC)] ∧ l.length ≤ 140737488355328 ∧ ∀ x ∈ l, True := by
  obtain ⟨w, rfl, y, z⟩ := h.slice_inv (e := t_int) (by kernel_rfl)
  obtain ⟨l, rfl, hl⟩ := rows_typed fun r hr => int_in (y r hr)
  rw [List.length_map] at z
  exact ⟨l, rfl, len_of z (by decide +kernel), hl⟩
theorem keys_rows {r : List TC} (h : WfT C.tt t_S_laws_Key r) : ∃ l : List (Key), r = [.sub 5 (l.map keyC)] ∧ l.length ≤ 140737488355328 ∧ ∀ x ∈ l, True := by
  obtain ⟨w, rfl, y, z⟩ := h.slice_inv (e := t_laws_Key) (by kernel_rfl)
  obtain ⟨l, rfl, hl⟩ := rows_typed fun r hr => key_in (y r hr)
  rw [List.length_map] at z
  exact ⟨l, rfl, len_of z (by decide +kernel), hl⟩
theorem ages_rows {r : List TC} (h : WfT C.tt t_S_laws_Age r) : ∃ l : List (Age), r = [.sub 2 (l.map ageC)] ∧ l.length ≤ 140737488355328 ∧ ∀ x ∈ l, True := by
  obtain ⟨w, rfl, y, z⟩ := h.slice_inv (e := t_laws_Age) (by kernel_rfl)
  obtain ⟨l, rfl, hl⟩ := rows_typed fun r hr => age_in (y r hr)
  rw [List.length_map] at z
  exact ⟨l, rfl, len_of z (by decide +kernel), hl⟩
theorem cells_rows {r : List TC} (h : WfT C.tt t_S_laws_Cell r) : ∃ l : List (Cell), r = [.sub 3 (l.map cellC)] ∧ l.length ≤ 140737488355328 ∧ ∀ x ∈ l, True := by
  obtain ⟨w, rfl, y, z⟩ := h.slice_inv (e := t_laws_Cell) (by kernel_rfl)
  obtain ⟨l, rfl, hl⟩ := rows_typed fun r hr => cell_in (y r hr)
  rw [List.length_map] at z
  exact ⟨l, rfl, len_of z (by decide +kernel), hl⟩
theorem vols_rows {r : List TC} (h : WfT C.tt t_S_laws_Vol r) : ∃ l : List (Vol), r = [.sub 4 (l.map volC)] ∧ l.length ≤ 140737488355328 ∧ ∀ x ∈ l, x.name.size ≤ 140737488355328 ∧ x.size ≤ 9223372036854775807 := by
  obtain ⟨w, rfl, y, z⟩ := h.slice_inv (e := t_laws_Vol) (by kernel_rfl)
  obtain ⟨l, rfl, hl⟩ := rows_typed fun r hr => vol_in (y r hr)
  rw [List.length_map] at z
  exact ⟨l, rfl, len_of z (by decide +kernel), hl⟩
theorem set_in {r : List TC} (h : WfT C.tt t_S_laws_Key r) : ∃ s : List Key, r = setC s ∧ s.length ≤ 140737488355328 := by
  obtain ⟨l, rfl, hl, _⟩ := keys_rows h
  exact ⟨l, rfl, hl⟩
theorem sets_rows {r : List TC} (h : WfT C.tt t_SS_laws_Key r) : ∃ l : List (List Key), r = [.sub 1 (l.map setC)] ∧ l.length ≤ 140737488355328 ∧ ∀ x ∈ l, x.length ≤ 140737488355328 := by
  obtain ⟨w, rfl, y, z⟩ := h.slice_inv (e := t_S_laws_Key) (by kernel_rfl)
  obtain ⟨l, rfl, hl⟩ := rows_typed fun r hr => set_in (y r hr)
  rw [List.length_map] at z
  exact ⟨l, rfl, len_of z (by decide +kernel), hl⟩
theorem node_in {r : List TC} (h : WfT C.tt t_laws_Node r) : ∃ n : List (List Key), r = nodeC n ∧ (n.length ≤ 140737488355328 ∧ ∀ s ∈ n, s.length ≤ 140737488355328) := by
  obtain ⟨q0, r0, rfl, h0, k0⟩ := (h.struct_inv (fs := [(0, 153)]) (by kernel_rfl)).cons_inv
  have e := k0.nil_inv
  subst e
  obtain ⟨l, rfl, hl, hs⟩ := sets_rows h0
  exact ⟨l, rfl, hl, hs⟩
theorem nodes_rows {r : List TC} (h : WfT C.tt t_S_laws_Node r) : ∃ l : List (List (List Key)), r = [.sub 1 (l.map nodeC)] ∧ l.length ≤ 140737488355328 ∧ ∀ x ∈ l, x.length ≤ 140737488355328 ∧ ∀ s ∈ x, s.length ≤ 140737488355328 := by
  obtain ⟨w, rfl, y, z⟩ := h.slice_inv (e := t_laws_Node) (by kernel_rfl)
  obtain ⟨l, rfl, hl⟩ := rows_typed fun r hr => node_in (y r hr)
  rw [List.length_map] at z
  exact ⟨l, rfl, len_of z (by decide +kernel), hl⟩
theorem tree_in {r : List TC} (h : WfT C.tt t_laws_Tree r) : ∃ t : Tree, r = treeC t ∧ TreeW t := by
  obtain ⟨q0, r0, rfl, h0, k0⟩ := (h.struct_inv (fs := [(0, 22), (1, 23)]) (by kernel_rfl)).cons_inv
  obtain ⟨q1, r1, rfl, h1, k1⟩ := k0.cons_inv
  have e := k1.nil_inv
  subst e
  obtain ⟨l, rfl, hl, _⟩ := ints_rows h0
  obtain ⟨n, rfl, hn, hs⟩ := nodes_rows h1
  exact ⟨⟨l, n⟩, rfl, ⟨hl, hn, hs⟩⟩
theorem pool_in {r : List TC} (h : WfT C.tt t_laws_Pool r) : ∃ p : Pool, r = poolC p ∧ PoolW p := by
  obtain ⟨q0, r0, rfl, h0, k0⟩ := (h.struct_inv (fs := [(0, 25), (2, 26), (3, 27), (4, 28), (5, 3)]) (by kernel_rfl)).cons_inv
  obtain ⟨q1, r1, rfl, h1, k1⟩ := k0.cons_inv
  obtain ⟨q2, r2, rfl, h2, k2⟩ := k1.cons_inv
  obtain ⟨q3, r3, rfl, h3, k3⟩ := k2.cons_inv
  obtain ⟨q4, r4, rfl, h4, k4⟩ := k3.cons_inv
  have e := k4.nil_inv
  subst e
  obtain ⟨t, rfl, ht⟩ := tree_in h0
  obtain ⟨a, rfl, ha, _⟩ := ages_rows h1
  obtain ⟨c, rfl, hc, _⟩ := cells_rows h2
  obtain ⟨v, rfl, hv, hw⟩ := vols_rows h3
  obtain ⟨n, rfl, _⟩ := int_in h4
  exact ⟨⟨t, a, c, v, n⟩, rfl, ⟨ht, ha, hc, hv, fun v h => (hw v h).1, fun v h => (hw v h).2⟩⟩
theorem v_bool {v : TV} (h : WfV C.tt t_bool v) : ∃ n : Bool, v = vB n := by
  have ht : (C.tt t_bool).ti = .bool := by kernel_rfl
  cases h with
  | c _ hw =>
    obtain ⟨n, h1⟩ := hw.bool_inv ht
    cases h1
    exact ⟨n, rfl⟩
  | ag h1 _ => rw [ht] at h1; cases h1
theorem v_string {v : TV} (h : WfV C.tt t_string v) : ∃ n : ByteArray, v = vS n ∧ n.size ≤ 140737488355328 := by
  have ht : (C.tt t_string).ti = .str := by kernel_rfl
  cases h with
  | c _ hw =>
    obtain ⟨n, h1, h2⟩ := hw.str_inv ht
    cases h1
    exact ⟨n, rfl, Nat.le_trans h2 (by decide)⟩
  | ag h1 _ => rw [ht] at h1; cases h1
theorem v_pool {v : TV} (h : WfV C.tt t_laws_Pool v) : ∃ x : Pool, v = vPool x ∧ PoolW x := by
  have ht : (C.tt t_laws_Pool).ti = .struct [(0, 25), (2, 26), (3, 27), (4, 28), (5, 3)] := by kernel_rfl
  cases h with
  | c hs hw => exact absurd ht (hs _)
  | ag _ hw =>
    obtain ⟨x, rfl, hx⟩ := pool_in hw
    exact ⟨x, rfl, hx⟩
theorem lft_ok {a : Int} {n : Nat} (h : ltI (lft a n) 0 = false) (h0 : 0 ≤ a ∧ a ≤ 1048576) : (n : Int) ≤ a ∧ (0 ≤ lft a n ∧ lft a n ≤ 1048576) ∧ lft a n = a - n := by
  rw [ltI_eq] at h
  have h : ¬ lft a n < 0 := of_decide_eq_false h
  unfold lft at *
  split at h <;> simp_all <;> omega
theorem ltI_no {a b : Int} (h : ltI a b = false) : b ≤ a := by
  rw [ltI_eq] at h
  have := of_decide_eq_false h
  omega
theorem treeB_of {t : Tree} (h : szTree t ≤ 4194304) : TreeB t := by
  unfold szTree szNodes at h
  refine ⟨by omega, by omega, fun n hn => ?_⟩
  have h1 := tot_mem (w := szNode) hn
  have e : szNode n = n.length + tot szSet n := rfl
  exact ⟨by omega, fun s hs => by
    have h2 := tot_mem (w := szSet) hs
    have e2 : szSet s = s.length := rfl
    omega⟩
theorem wKeys_le (l : List Key) : tot wKey l = 5 * l.length := tot_const 5 l
theorem wSets_le (n : List (List Key)) : tot wKeyS n ≤ 5 * tot szSet n := by
  induction n with
  | nil => simp [tot]
  | cons s r ih =>
    simp only [tot]
    have : wKeyS s = 5 * s.length := wKeys_le s
    have e : szSet s = s.length := rfl
    omega
theorem wNodes_le (l : List (List (List Key))) : tot wNode l ≤ 5 * tot szNode l := by
  induction l with
  | nil => simp [tot]
  | cons n r ih =>
    simp only [tot]
    have h1 := wSets_le n
    have h2 : szNode n = n.length + tot szSet n := rfl
    have h3 : wNode n = tot wKeyS n := rfl
    omega
theorem wTree_le (t : Tree) : wTree t ≤ 5 * szTree t := by
  have h1 := wNodes_le t.nodes
  have h2 : tot wInt t.lows = 1 * t.lows.length := tot_const 1 t.lows
  unfold wTree szTree szNodes
  omega
theorem poolB_of {p : Pool} (h : szPool p ≤ 4194304) : PoolB p := by
  unfold szPool szVols at h
  exact ⟨treeB_of (by omega), by omega, by omega, by omega⟩
theorem wPool_le (p : Pool) : wPool p ≤ 5 * szPool p := by
  have h1 := wTree_le p.t
  have h2 : tot wAge p.ages = 2 * p.ages.length := tot_const 2 p.ages
  have h3 : tot wCell p.cells = 3 * p.cells.length := tot_const 3 p.cells
  have h4 : tot wVol p.vols = 4 * p.vols.length := tot_const 4 p.vols
  unfold wPool szPool szVols
  omega
theorem law_Snap (p : Pool) (w_p : PoolW p) (s : ByteArray) (w_s : s.size ≤ 140737488355328) (to : ByteArray) (w_to : to.size ≤ 140737488355328) (fx : Bool) : RunF C laws_FnExactSnap [vPool p, vS s, vS to, vB fx] (vB true) [] := by
  refine (f_laws_FnExactSnap _ _ _ _ _ _ _ _ _ _ ?_).run
  refine brB_both (fun _ => ⟨rfl, by first | rfl | trivial⟩) fun hn0 => ?_
  have hn0 := ltI_no hn0
  refine brB_both (fun _ => ⟨rfl, by first | rfl | trivial⟩) fun hn1 => ?_
  have hn1 := ltI_no hn1
  refine ⟨_, szPool_run _ _ (by first | omega | assumption) (by assumption), ?_⟩
  refine brB_both (fun _ => ⟨rfl, by first | rfl | trivial⟩) fun hz2 => ?_
  obtain ⟨hz2a, hz2b, hz2c⟩ := lft_ok hz2 (by first | omega | assumption)
  have hB := poolB_of (p := p) (by omega)
  have hS : szPool p ≤ 4194304 := by omega
  have hP := poolS_of hS
  have hsl_s : Int.ofNat s.data.toList.length = (s.size : Int) := rfl
  have hsl_to : Int.ofNat to.data.toList.length = (to.size : Int) := rfl
  have hsz : szPool (snapP p s to fx).1 ≤ 4194304 := Nat.le_trans (snapP_sz p s to fx) (by omega)
  have hB2 := poolB_of (p := (snapP p s to fx).1) hsz
  have hw := wPool_le p
  have hw2 := wPool_le (snapP p s to fx).1
  refine ⟨_, _, _, _, _, _, toPool _ (by assumption), ?_⟩
  refine ⟨_, _, _, _, _, _, _, run_spec_Snap p s to fx (by omega) (by omega) (by omega), ?_⟩
  refine ⟨_, _, _, _, _, _, toPool _ (by assumption), ?_⟩
  refine ⟨_, _, _, _, _, _, _, run_impl_Snap p s to fx (by omega) (by omega) (by omega), ?_⟩
  refine ⟨_, eqPool _ (by assumption), ?_⟩
  refine brB_no (by first | rfl | (simp; done) | (simp; omega)) ?_
  refine brB_no (by first | rfl | (simp; done) | (simp; omega)) ?_
  refine ⟨_, _, _, _, _, _, toPool _ (by assumption), ?_⟩
  refine ⟨_, eqPool _ (by assumption), ?_⟩
  refine brB_no (by first | rfl | (simp; done) | (simp; omega)) ?_
  refine ⟨_, _, _, _, _, _, _, markPool _ 1 (by omega) (by omega) (by assumption), ?_⟩
  refine brB_no (by first | rfl | (simp; done) | (simp; omega)) ?_
  refine ⟨_, eqPool _ (by assumption), ?_⟩
  refine brB_no (by first | rfl | (simp; done) | (simp; omega)) ?_
  refine brB_no (by first | rfl | (simp; done) | (simp; omega)) ?_
  refine ⟨_, _, _, _, _, _, _, markPool _ 1 (by omega) (by omega) (by assumption), ?_⟩
  refine ⟨_, heldPool _ 1 (by omega) (by omega) (by assumption), ?_⟩
  refine brB_no (by first | rfl | (simp; done) | (simp; omega)) ?_
  refine brB_no (by first | rfl | (simp; done) | (simp; omega)) ?_
  refine ⟨_, _, _, _, _, _, toPool _ (by assumption), ?_⟩
  refine ⟨_, _, _, _, _, _, _, run_impl_Snap p s to fx (by omega) (by omega) (by omega), ?_⟩
  refine ⟨_, eqPool _ (by assumption), ?_⟩
  refine brB_no (by first | rfl | (simp; done) | (simp; omega)) ?_
  refine brB_no (by first | rfl | (simp; done) | (simp; omega)) ?_
  refine ⟨_, heldPool _ 1 (by omega) (by omega) (by assumption), ?_⟩
  refine brB_no (by first | rfl | (simp; done) | (simp; omega)) ?_
  refine brB_no (by first | rfl | (simp; done) | (simp; omega)) ?_
  exact ⟨rfl, by first | rfl | trivial⟩
theorem all_Snap (vs : List TV) (h : WfVs C.tt [t_laws_Pool, t_string, t_string, t_bool] vs) : ∃ k, callP C k laws_FnExactSnap vs (vB true) [] := by
  cases h with
  | cons h0 h => 
    cases h with
    | cons h1 h => 
      cases h with
      | cons h2 h => 
        cases h with
        | cons h3 h => 
          cases h
          obtain ⟨p, rfl, wp⟩ := v_pool h0
          obtain ⟨s, rfl, ws⟩ := v_string h1
          obtain ⟨to, rfl, wto⟩ := v_string h2
          obtain ⟨fx, rfl⟩ := v_bool h3
          exact law_Snap p wp s ws to wto fx
end Go.T.R
