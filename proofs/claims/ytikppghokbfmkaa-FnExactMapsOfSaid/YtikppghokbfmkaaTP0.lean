/- What the functions answer. -/
import Derived.Test.YtikppghokbfmkaaTR0
set_option linter.unusedVariables false
set_option linter.unusedSimpArgs false
set_option maxRecDepth 100000
namespace Go.T.R
open Go Go.T
theorem toKey (v0 : Int) (v1 : Int) (v2 : Int) (v3 : Int) (v4 : Int) : RunF C laws_toKey [.ag [iI v0, iI v1, iI v2, iI v3, iI v4]] (.ag [iI v0, iI v1, iI v2, iI v3, iI v4]) [] := (f_laws_toKey _ _ _ _ _ _ ⟨rfl, rfl⟩).run
theorem eqKey (v0 : Int) (v1 : Int) (v2 : Int) (v3 : Int) (v4 : Int) : RunF C laws_eqKey [.ag [iI v0, iI v1, iI v2, iI v3, iI v4], .ag [iI v0, iI v1, iI v2, iI v3, iI v4]] (vB true) [] := by
  refine (f_laws_eqKey _ _ _ _ _ _ _ _ _ _ _ ?_).run
  simp
theorem toKeyS (l : List (Key)) (hl : l.length ≤ 1099511627776) : RunF C laws_toKeyS [vKeys l] (vKeys l) [] := by
  refine (f_laws_toKeyS _ _ ?_).run
  simp only [List.length_map]
  refine brB_yes (by simp; omega) ?_
  simp only [ofNat_cast, numI_eq, Int.toNat_natCast]
  refine cp_loop (e := keyC) (z := [iI 0, iI 0, iI 0, iI 0, iI 0]) l (fun i rows => LoopG C laws_toKeyS pRRLRB 4 0 (s_laws_toKeyS_0 (l.map keyC) i rows) _) (fun a => rfl) ?_ ?_
  · exact r_laws_toKeyS_0 _ _ _ _ (brB_no (by simp) (a_laws_toKeyS_1 _ _ _ _ _ ⟨rfl, rfl⟩))
  · intro i rows a hi ha hr hn
    refine r_laws_toKeyS_0 _ _ _ _ (brB_yes (by simp; omega) ⟨_, _, _, _, _, rowAt_map ha, _, _, _, _, _, toKey _ _ _ _ _, _, _, _, _, _, hr, _, _, _, _, _, hr, ?_⟩)
    rw [addW_eq (by omega)]
    exact hn
theorem eqKeyS (l : List (Key)) (hl : l.length ≤ 1099511627776) : RunF C laws_eqKeyS [vKeys l, vKeys l] (vB true) [] := by
  refine (f_laws_eqKeyS _ _ _ ?_).run
  refine brB_no (by simp) ?_
  refine idx_walk l (fun i => LoopG C laws_eqKeyS pRRLRB 4 0 (s_laws_eqKeyS_0 (l.map keyC) (l.map keyC) i) _) ?_ ?_
  · exact r_laws_eqKeyS_0 _ _ _ _ (brB_no (by simp) (a_laws_eqKeyS_2 _ _ _ _ _ ⟨rfl, rfl⟩))
  · intro i a hi ha _ _ hn
    refine r_laws_eqKeyS_0 _ _ _ _ (brB_yes (by simp; omega) ⟨_, _, _, _, _, rowAt_map ha, _, _, _, _, _, rowAt_map ha, _, eqKey _ _ _ _ _, brB_no (by simp) ?_⟩)
    rw [addW_eq (by omega)]
    exact hn
theorem toAge (v0 : Int) (v1 : Int) : RunF C laws_toAge [.ag [iI v0, iI v1]] (.ag [iI v0, iI v1]) [] := (f_laws_toAge _ _ _ ⟨rfl, rfl⟩).run
theorem eqAge (v0 : Int) (v1 : Int) : RunF C laws_eqAge [.ag [iI v0, iI v1], .ag [iI v0, iI v1]] (vB true) [] := by
  refine (f_laws_eqAge _ _ _ _ _ ?_).run
  simp
theorem toAgeS (l : List (Age)) (hl : l.length ≤ 1099511627776) : RunF C laws_toAgeS [vAges l] (vAges l) [] := by
  refine (f_laws_toAgeS _ _ ?_).run
  simp only [List.length_map]
  refine brB_yes (by simp; omega) ?_
  simp only [ofNat_cast, numI_eq, Int.toNat_natCast]
  refine cp_loop (e := ageC) (z := [iI 0, iI 0]) l (fun i rows => LoopG C laws_toAgeS pRRLRB 4 0 (s_laws_toAgeS_0 (l.map ageC) i rows) _) (fun a => rfl) ?_ ?_
  · exact r_laws_toAgeS_0 _ _ _ _ (brB_no (by simp) (a_laws_toAgeS_1 _ _ _ _ _ ⟨rfl, rfl⟩))
  · intro i rows a hi ha hr hn
    refine r_laws_toAgeS_0 _ _ _ _ (brB_yes (by simp; omega) ⟨_, _, rowAt_map ha, _, _, toAge _ _, _, _, hr, _, _, hr, ?_⟩)
    rw [addW_eq (by omega)]
    exact hn
theorem eqAgeS (l : List (Age)) (hl : l.length ≤ 1099511627776) : RunF C laws_eqAgeS [vAges l, vAges l] (vB true) [] := by
  refine (f_laws_eqAgeS _ _ _ ?_).run
  refine brB_no (by simp) ?_
  refine idx_walk l (fun i => LoopG C laws_eqAgeS pRRLRB 4 0 (s_laws_eqAgeS_0 (l.map ageC) (l.map ageC) i) _) ?_ ?_
  · exact r_laws_eqAgeS_0 _ _ _ _ (brB_no (by simp) (a_laws_eqAgeS_2 _ _ _ _ _ ⟨rfl, rfl⟩))
  · intro i a hi ha _ _ hn
    refine r_laws_eqAgeS_0 _ _ _ _ (brB_yes (by simp; omega) ⟨_, _, rowAt_map ha, _, _, rowAt_map ha, _, eqAge _ _, brB_no (by simp) ?_⟩)
    rw [addW_eq (by omega)]
    exact hn
theorem toCell (v0 : Int) (v1 : Bool) (v2 : Int) : RunF C laws_toCell [.ag [iI v0, iB v1, iI v2]] (.ag [iI v0, iB v1, iI v2]) [] := (f_laws_toCell _ _ _ _ ⟨rfl, rfl⟩).run
theorem eqCell (v0 : Int) (v1 : Bool) (v2 : Int) : RunF C laws_eqCell [.ag [iI v0, iB v1, iI v2], .ag [iI v0, iB v1, iI v2]] (vB true) [] := by
  refine (f_laws_eqCell _ _ _ _ _ _ _ ?_).run
  simp
theorem toCellS (l : List (Cell)) (hl : l.length ≤ 1099511627776) : RunF C laws_toCellS [vCells l] (vCells l) [] := by
  refine (f_laws_toCellS _ _ ?_).run
  simp only [List.length_map]
  refine brB_yes (by simp; omega) ?_
  simp only [ofNat_cast, numI_eq, Int.toNat_natCast]
  refine cp_loop (e := cellC) (z := [iI 0, iB false, iI 0]) l (fun i rows => LoopG C laws_toCellS pRRLRB 4 0 (s_laws_toCellS_0 (l.map cellC) i rows) _) (fun a => rfl) ?_ ?_
  · exact r_laws_toCellS_0 _ _ _ _ (brB_no (by simp) (a_laws_toCellS_1 _ _ _ _ _ ⟨rfl, rfl⟩))
  · intro i rows a hi ha hr hn
    refine r_laws_toCellS_0 _ _ _ _ (brB_yes (by simp; omega) ⟨_, _, _, rowAt_map ha, _, _, _, toCell _ _ _, _, _, _, hr, _, _, _, hr, ?_⟩)
    rw [addW_eq (by omega)]
    exact hn
theorem eqCellS (l : List (Cell)) (hl : l.length ≤ 1099511627776) : RunF C laws_eqCellS [vCells l, vCells l] (vB true) [] := by
  refine (f_laws_eqCellS _ _ _ ?_).run
  refine brB_no (by simp) ?_
  refine idx_walk l (fun i => LoopG C laws_eqCellS pRRLRB 4 0 (s_laws_eqCellS_0 (l.map cellC) (l.map cellC) i) _) ?_ ?_
  · exact r_laws_eqCellS_0 _ _ _ _ (brB_no (by simp) (a_laws_eqCellS_2 _ _ _ _ _ ⟨rfl, rfl⟩))
  · intro i a hi ha _ _ hn
    refine r_laws_eqCellS_0 _ _ _ _ (brB_yes (by simp; omega) ⟨_, _, _, rowAt_map ha, _, _, _, rowAt_map ha, _, eqCell _ _ _, brB_no (by simp) ?_⟩)
    rw [addW_eq (by omega)]
    exact hn
theorem toVol (v0 : ByteArray) (v1 : Int) (v2 : Int) (v3 : Bool) : RunF C laws_toVol [.ag [iS v0, iI v1, iI v2, iB v3]] (.ag [iS v0, iI v1, iI v2, iB v3]) [] := (f_laws_toVol _ _ _ _ _ ⟨rfl, rfl⟩).run
theorem eqVol (v0 : ByteArray) (v1 : Int) (v2 : Int) (v3 : Bool) : RunF C laws_eqVol [.ag [iS v0, iI v1, iI v2, iB v3], .ag [iS v0, iI v1, iI v2, iB v3]] (vB true) [] := by
  refine (f_laws_eqVol _ _ _ _ _ _ _ _ _ ?_).run
  simp
theorem toVolS (l : List (Vol)) (hl : l.length ≤ 1099511627776) : RunF C laws_toVolS [vVols l] (vVols l) [] := by
  refine (f_laws_toVolS _ _ ?_).run
  simp only [List.length_map]
  refine brB_yes (by simp; omega) ?_
  simp only [ofNat_cast, numI_eq, Int.toNat_natCast]
  refine cp_loop (e := volC) (z := [iS bs0, iI 0, iI 0, iB false]) l (fun i rows => LoopG C laws_toVolS pRRLRB 4 0 (s_laws_toVolS_0 (l.map volC) i rows) _) (fun a => rfl) ?_ ?_
  · exact r_laws_toVolS_0 _ _ _ _ (brB_no (by simp) (a_laws_toVolS_1 _ _ _ _ _ ⟨rfl, rfl⟩))
  · intro i rows a hi ha hr hn
    refine r_laws_toVolS_0 _ _ _ _ (brB_yes (by simp; omega) ⟨_, _, _, _, rowAt_map ha, _, _, _, _, toVol _ _ _ _, _, _, _, _, hr, _, _, _, _, hr, ?_⟩)
    rw [addW_eq (by omega)]
    exact hn
theorem eqVolS (l : List (Vol)) (hl : l.length ≤ 1099511627776) : RunF C laws_eqVolS [vVols l, vVols l] (vB true) [] := by
  refine (f_laws_eqVolS _ _ _ ?_).run
  refine brB_no (by simp) ?_
  refine idx_walk l (fun i => LoopG C laws_eqVolS pRRLRB 4 0 (s_laws_eqVolS_0 (l.map volC) (l.map volC) i) _) ?_ ?_
  · exact r_laws_eqVolS_0 _ _ _ _ (brB_no (by simp) (a_laws_eqVolS_2 _ _ _ _ _ ⟨rfl, rfl⟩))
  · intro i a hi ha _ _ hn
    refine r_laws_eqVolS_0 _ _ _ _ (brB_yes (by simp; omega) ⟨_, _, _, _, rowAt_map ha, _, _, _, _, rowAt_map ha, _, eqVol _ _ _ _, brB_no (by simp) ?_⟩)
    rw [addW_eq (by omega)]
    exact hn
theorem toIntS (l : List (Int)) (hl : l.length ≤ 1099511627776) : RunF C laws_toIntS [vInts l] (vInts l) [] := by
  refine (f_laws_toIntS _ _ ?_).run
  simp only [List.length_map]
  refine brB_yes (by simp; omega) ?_
  simp only [ofNat_cast, numI_eq, Int.toNat_natCast]
  refine cp_loop (e := intC) (z := [iI 0]) l (fun i rows => LoopG C laws_toIntS pRRLRB 4 0 (s_laws_toIntS_0 (l.map intC) i rows) _) (fun a => rfl) ?_ ?_
  · exact r_laws_toIntS_0 _ _ _ _ (brB_no (by simp) (a_laws_toIntS_1 _ _ _ _ _ ⟨rfl, rfl⟩))
  · intro i rows a hi ha hr hn
    refine r_laws_toIntS_0 _ _ _ _ (brB_yes (by simp; omega) ⟨_, rowAt_map ha, _, hr, _, hr, ?_⟩)
    rw [addW_eq (by omega)]
    exact hn
theorem eqIntS (l : List (Int)) (hl : l.length ≤ 1099511627776) : RunF C laws_eqIntS [vInts l, vInts l] (vB true) [] := by
  refine (f_laws_eqIntS _ _ _ ?_).run
  refine brB_no (by simp) ?_
  refine idx_walk l (fun i => LoopG C laws_eqIntS pRRLRB 4 0 (s_laws_eqIntS_0 (l.map intC) (l.map intC) i) _) ?_ ?_
  · exact r_laws_eqIntS_0 _ _ _ _ (brB_no (by simp) (a_laws_eqIntS_2 _ _ _ _ _ ⟨rfl, rfl⟩))
  · intro i a hi ha _ _ hn
    refine r_laws_eqIntS_0 _ _ _ _ (brB_yes (by simp; omega) ⟨_, rowAt_map ha, _, rowAt_map ha, brB_no (by simp) ?_⟩)
    rw [addW_eq (by omega)]
    exact hn
theorem toKeySS (l : List (List Key)) (hl : l.length ≤ 1099511627776) (hs : ∀ s ∈ l, s.length ≤ 1099511627776) : RunF C laws_toKeySS [vSets l] (vSets l) [] := by
  refine (f_laws_toKeySS _ _ ?_).run
  simp only [List.length_map]
  refine brB_yes (by simp; omega) ?_
  simp only [ofNat_cast, numI_eq, Int.toNat_natCast]
  refine cp_loop (e := setC) (z := [TC.sub 5 []]) l (fun i rows => LoopG C laws_toKeySS pRRLRB 4 0 (s_laws_toKeySS_0 (l.map setC) i rows) _) (fun a => rfl) ?_ ?_
  · exact r_laws_toKeySS_0 _ _ _ _ (brB_no (by simp) (a_laws_toKeySS_1 _ _ _ _ _ ⟨rfl, rfl⟩))
  · intro i rows a hi ha hr hn
    refine r_laws_toKeySS_0 _ _ _ _ (brB_yes (by simp; omega) ⟨_, rowAt_map ha, _, toKeyS _ (hs _ (List.mem_of_getElem? ha)), _, hr, _, hr, ?_⟩)
    rw [addW_eq (by omega)]
    exact hn
def NodeB (n : List (List Key)) : Prop := n.length ≤ 1099511627776 ∧ ∀ s ∈ n, s.length ≤ 1099511627776
def NodesB (l : List (List (List Key))) : Prop := l.length ≤ 1099511627776 ∧ ∀ n ∈ l, NodeB n
def TreeB (t : Tree) : Prop := t.lows.length ≤ 1099511627776 ∧ NodesB t.nodes
theorem toNode (n : List (List Key)) (h : NodeB n) : RunF C laws_toNode [vNode n] (vNode n) [] := (f_laws_toNode _ _ ⟨_, toKeySS n h.1 h.2, rfl, rfl⟩).run
theorem toNodeS (l : List (List (List Key))) (hl : l.length ≤ 1099511627776) (hs : ∀ n ∈ l, NodeB n) : RunF C laws_toNodeS [vNodes l] (vNodes l) [] := by
  refine (f_laws_toNodeS _ _ ?_).run
  simp only [List.length_map]
  refine brB_yes (by simp; omega) ?_
  simp only [ofNat_cast, numI_eq, Int.toNat_natCast]
  refine cp_loop (e := nodeC) (z := [TC.sub 1 []]) l (fun i rows => LoopG C laws_toNodeS pRRLRB 4 0 (s_laws_toNodeS_0 (l.map nodeC) i rows) _) (fun a => rfl) ?_ ?_
  · exact r_laws_toNodeS_0 _ _ _ _ (brB_no (by simp) (a_laws_toNodeS_1 _ _ _ _ _ ⟨rfl, rfl⟩))
  · intro i rows a hi ha hr hn
    refine r_laws_toNodeS_0 _ _ _ _ (brB_yes (by simp; omega) ⟨_, rowAt_map ha, _, toNode _ (hs _ (List.mem_of_getElem? ha)), _, hr, _, hr, ?_⟩)
    rw [addW_eq (by omega)]
    exact hn
theorem toTree (t : Tree) (h : TreeB t) : RunF C laws_toTree [vTree t] (vTree t) [] := (f_laws_toTree _ _ _ ⟨_, toIntS _ h.1, _, toNodeS _ h.2.1 h.2.2, rfl, rfl⟩).run
theorem eqKeySS (l : List (List Key)) (hl : l.length ≤ 1099511627776) (hs : ∀ s ∈ l, s.length ≤ 1099511627776) : RunF C laws_eqKeySS [vSets l, vSets l] (vB true) [] := by
  refine (f_laws_eqKeySS _ _ _ ?_).run
  refine brB_no (by simp) ?_
  refine idx_walk l (fun i => LoopG C laws_eqKeySS pRRLRB 4 0 (s_laws_eqKeySS_0 (l.map setC) (l.map setC) i) _) ?_ ?_
  · exact r_laws_eqKeySS_0 _ _ _ _ (brB_no (by simp) (a_laws_eqKeySS_2 _ _ _ _ _ ⟨rfl, rfl⟩))
  · intro i a hi ha _ _ hn
    refine r_laws_eqKeySS_0 _ _ _ _ (brB_yes (by simp; omega) ⟨_, rowAt_map ha, _, rowAt_map ha, _, eqKeyS _ (hs _ (List.mem_of_getElem? ha)), brB_no (by simp) ?_⟩)
    rw [addW_eq (by omega)]
    exact hn
theorem eqNode (n : List (List Key)) (h : NodeB n) : RunF C laws_eqNode [vNode n, vNode n] (vB true) [] := (f_laws_eqNode _ _ _ ⟨_, eqKeySS n h.1 h.2, by simp⟩).run
theorem eqNodeS (l : List (List (List Key))) (hl : l.length ≤ 1099511627776) (hs : ∀ n ∈ l, NodeB n) : RunF C laws_eqNodeS [vNodes l, vNodes l] (vB true) [] := by
  refine (f_laws_eqNodeS _ _ _ ?_).run
  refine brB_no (by simp) ?_
  refine idx_walk l (fun i => LoopG C laws_eqNodeS pRRLRB 4 0 (s_laws_eqNodeS_0 (l.map nodeC) (l.map nodeC) i) _) ?_ ?_
  · exact r_laws_eqNodeS_0 _ _ _ _ (brB_no (by simp) (a_laws_eqNodeS_2 _ _ _ _ _ ⟨rfl, rfl⟩))
  · intro i a hi ha _ _ hn
    refine r_laws_eqNodeS_0 _ _ _ _ (brB_yes (by simp; omega) ⟨_, rowAt_map ha, _, rowAt_map ha, _, eqNode _ (hs _ (List.mem_of_getElem? ha)), brB_no (by simp) ?_⟩)
    rw [addW_eq (by omega)]
    exact hn
theorem eqTree (t : Tree) (h : TreeB t) : RunF C laws_eqTree [vTree t, vTree t] (vB true) [] := (f_laws_eqTree _ _ _ _ _ ⟨_, eqIntS _ h.1, brB_no rfl ⟨_, eqNodeS _ h.2.1 h.2.2, by simp⟩⟩).run
structure PoolB (p : Pool) : Prop where
  t : TreeB p.t
  ages : p.ages.length ≤ 1099511627776
  cells : p.cells.length ≤ 1099511627776
  vols : p.vols.length ≤ 1099511627776
theorem toPool (p : Pool) (h : PoolB p) : RunF C laws_toPool [vPool p] (vPool p) [] := (f_laws_toPool _ _ _ _ _ _ _ ⟨_, _, toTree p.t h.t, _, toAgeS _ h.ages, _, toCellS _ h.cells, _, toVolS _ h.vols, rfl, rfl⟩).run
theorem eqPool (p : Pool) (h : PoolB p) : RunF C laws_eqPool [vPool p, vPool p] (vB true) [] := (f_laws_eqPool _ _ _ _ _ _ _ _ _ _ _ _ _ ⟨_, eqTree p.t h.t, brB_no rfl ⟨_, eqAgeS _ h.ages, brB_no rfl ⟨_, eqCellS _ h.cells, brB_no rfl ⟨_, eqVolS _ h.vols, brB_no rfl (by simp)⟩⟩⟩⟩).run
theorem eqMap (s : ByteArray) (f : Bool) (l : List Int) (h : l.length ≤ 1099511627776) : RunF C laws_eqMap [.ag [iS s, iB f, .sub 1 (l.map intC)], .ag [iS s, iB f, .sub 1 (l.map intC)]] (vB true) [] := by
  refine (f_laws_eqMap _ _ _ _ _ _ _ ?_).run
  refine brB_no (by simp) (brB_no (by simp) ⟨_, eqIntS _ h, by simp⟩)
theorem eqMapS (l : List (Mp)) (hl : l.length ≤ 1099511627776) (hs : ∀ m ∈ l, m.l.length ≤ 1099511627776) : RunF C laws_eqMapS [vMaps l, vMaps l] (vB true) [] := by
  refine (f_laws_eqMapS _ _ _ ?_).run
  refine brB_no (by simp) ?_
  refine idx_walk l (fun i => LoopG C laws_eqMapS pRRLRB 4 0 (s_laws_eqMapS_0 (l.map mapC) (l.map mapC) i) _) ?_ ?_
  · exact r_laws_eqMapS_0 _ _ _ _ (brB_no (by simp) (a_laws_eqMapS_2 _ _ _ _ _ ⟨rfl, rfl⟩))
  · intro i a hi ha _ _ hn
    refine r_laws_eqMapS_0 _ _ _ _ (brB_yes (by simp; omega) ⟨_, _, _, rowAt_map ha, _, _, _, rowAt_map ha, _, eqMap _ _ _ (hs _ (List.mem_of_getElem? ha)), brB_no (by simp) ?_⟩)
    rw [addW_eq (by omega)]
    exact hn
theorem szIntS (l : List (Int)) (left : Int) (h0 : 0 ≤ left ∧ left ≤ 1048576) (hl : l.length ≤ 140737488355328) : RunF C laws_szIntS [vInts l, vI left] (vI (lft left l.length)) [] := by
  refine (f_laws_szIntS _ _ _ ?_).run
  simp only [List.length_map, ofNat_cast]
  rw [subW_eq (by omega)]
  unfold lft
  simp only [ltI_eq, brB_dec]
  by_cases h : left < (l.length : Int)
  · rw [if_pos (by omega), if_pos h]; exact ⟨rfl, by first | rfl | trivial⟩
  · rw [if_neg (by omega), if_neg h]; exact ⟨rfl, by first | rfl | trivial⟩
theorem szKeyS (l : List (Key)) (left : Int) (h0 : 0 ≤ left ∧ left ≤ 1048576) (hl : l.length ≤ 140737488355328) : RunF C laws_szKeyS [vKeys l, vI left] (vI (lft left l.length)) [] := by
  refine (f_laws_szKeyS _ _ _ ?_).run
  simp only [List.length_map, ofNat_cast]
  rw [subW_eq (by omega)]
  unfold lft
  simp only [ltI_eq, brB_dec]
  by_cases h : left < (l.length : Int)
  · rw [if_pos (by omega), if_pos h]; exact ⟨rfl, by first | rfl | trivial⟩
  · rw [if_neg (by omega), if_neg h]; exact ⟨rfl, by first | rfl | trivial⟩
theorem szAgeS (l : List (Age)) (left : Int) (h0 : 0 ≤ left ∧ left ≤ 1048576) (hl : l.length ≤ 140737488355328) : RunF C laws_szAgeS [vAges l, vI left] (vI (lft left l.length)) [] := by
  refine (f_laws_szAgeS _ _ _ ?_).run
  simp only [List.length_map, ofNat_cast]
  rw [subW_eq (by omega)]
  unfold lft
  simp only [ltI_eq, brB_dec]
  by_cases h : left < (l.length : Int)
  · rw [if_pos (by omega), if_pos h]; exact ⟨rfl, by first | rfl | trivial⟩
  · rw [if_neg (by omega), if_neg h]; exact ⟨rfl, by first | rfl | trivial⟩
theorem szCellS (l : List (Cell)) (left : Int) (h0 : 0 ≤ left ∧ left ≤ 1048576) (hl : l.length ≤ 140737488355328) : RunF C laws_szCellS [vCells l, vI left] (vI (lft left l.length)) [] := by
  refine (f_laws_szCellS _ _ _ ?_).run
  simp only [List.length_map, ofNat_cast]
  rw [subW_eq (by omega)]
  unfold lft
  simp only [ltI_eq, brB_dec]
  by_cases h : left < (l.length : Int)
  · rw [if_pos (by omega), if_pos h]; exact ⟨rfl, by first | rfl | trivial⟩
  · rw [if_neg (by omega), if_neg h]; exact ⟨rfl, by first | rfl | trivial⟩
theorem szKeySS (l : List (List Key)) (left : Int) (h0 : 0 ≤ left ∧ left ≤ 1048576) (hl : l.length ≤ 140737488355328) (hs : ∀ s ∈ l, s.length ≤ 140737488355328) : RunF C laws_szKeySS [vSets l, vI left] (vI (lft left (l.length + tot szSet l))) [] := by
  refine (f_laws_szKeySS _ _ _ ?_).run
  simp only [List.length_map, ofNat_cast]
  rw [subW_eq (by omega)]
  simp only [ltI_eq, brB_dec]
  by_cases h : left < (l.length : Int)
  · rw [if_pos (by omega)]
    refine ⟨?_, by first | rfl | trivial⟩
    unfold lft
    rw [if_pos (by omega)]
  · rw [if_neg (by omega)]
    have key : ∀ cur : Int, 0 ≤ cur ∧ cur ≤ 1048576 → lft cur (tot szSet (l.drop 0)) = lft left (l.length + tot szSet l) → LoopG C laws_szKeySS pRRRLRB 4 0 (s_laws_szKeySS_0 (l.map setC) cur ((0 : Nat) : Int)) (fun x st => AftF C laws_szKeySS pRRRLRB x st fun r fs => r = vI (lft left (l.length + tot szSet l)) ∧ fs = []) := by
      refine idx_walk l (fun i => ∀ cur : Int, 0 ≤ cur ∧ cur ≤ 1048576 → lft cur (tot szSet (l.drop i)) = lft left (l.length + tot szSet l) → LoopG C laws_szKeySS pRRRLRB 4 0 (s_laws_szKeySS_0 (l.map setC) cur i) _) ?_ ?_
      · intro cur hc he
        refine r_laws_szKeySS_0 _ _ _ _ (brB_no (by simp) (a_laws_szKeySS_2 _ _ _ _ _ ⟨?_, rfl⟩))
        rw [← he, List.drop_length]
        unfold lft tot
        rw [if_neg (by omega)]
        simp
      · intro i a hi ha hd _ hn cur hc he
        rw [hd] at he
        simp only [tot] at he
        refine r_laws_szKeySS_0 _ _ _ _ (brB_yes (by simp; omega) ⟨_, rowAt_map ha, _, szKeyS a cur hc (hs a (List.mem_of_getElem? ha)), ?_⟩)
        by_cases hw : cur < (szSet a : Int)
        · refine brB_yes (by simp [lft, szSet] at hw ⊢; omega) (a_laws_szKeySS_1 _ ⟨?_, rfl⟩)
          rw [← he]
          unfold lft
          rw [if_pos (by omega)]
        · have hl2 : lft cur (szSet a) = cur - szSet a := if_neg hw
          refine brB_no (by simp [lft, szSet] at hw ⊢; omega) ?_
          rw [addW_eq (by omega)]
          have := hn (cur - szSet a) (by omega) (by rw [← he]; unfold lft; split <;> split <;> omega)
          rw [← hl2] at this
          exact this
    refine key (left - l.length) (by omega) ?_
    simp only [List.drop_zero]
    unfold lft
    split <;> split <;> omega
theorem szNode_run (n : List (List Key)) (left : Int) (h0 : 0 ≤ left ∧ left ≤ 1048576) (hl : n.length ≤ 140737488355328) (hs : ∀ s ∈ n, s.length ≤ 140737488355328) : RunF C laws_szNode [vNode n, vI left] (vI (lft left (szNode n))) [] := by
  refine (f_laws_szNode _ _ _ ⟨_, szKeySS n left h0 hl hs, ?_⟩).run
  show brB _ _ _
  unfold szNode
  simp only [ltI_eq, brB_dec]
  split
  · refine ⟨?_, by first | rfl | trivial⟩
    unfold lft at *
    split <;> simp_all <;> omega
  · simp
theorem szNodeS (l : List (List (List Key))) (left : Int) (h0 : 0 ≤ left ∧ left ≤ 1048576) (hl : l.length ≤ 140737488355328) (hs : ∀ n ∈ l, n.length ≤ 140737488355328 ∧ ∀ s ∈ n, s.length ≤ 140737488355328) : RunF C laws_szNodeS [vNodes l, vI left] (vI (lft left (l.length + tot szNode l))) [] := by
  refine (f_laws_szNodeS _ _ _ ?_).run
  simp only [List.length_map, ofNat_cast]
  rw [subW_eq (by omega)]
  simp only [ltI_eq, brB_dec]
  by_cases h : left < (l.length : Int)
  · rw [if_pos (by omega)]
    refine ⟨?_, by first | rfl | trivial⟩
    unfold lft
    rw [if_pos (by omega)]
  · rw [if_neg (by omega)]
    have key : ∀ cur : Int, 0 ≤ cur ∧ cur ≤ 1048576 → lft cur (tot szNode (l.drop 0)) = lft left (l.length + tot szNode l) → LoopG C laws_szNodeS pRRRLRB 4 0 (s_laws_szNodeS_0 (l.map nodeC) cur ((0 : Nat) : Int)) (fun x st => AftF C laws_szNodeS pRRRLRB x st fun r fs => r = vI (lft left (l.length + tot szNode l)) ∧ fs = []) := by
      refine idx_walk l (fun i => ∀ cur : Int, 0 ≤ cur ∧ cur ≤ 1048576 → lft cur (tot szNode (l.drop i)) = lft left (l.length + tot szNode l) → LoopG C laws_szNodeS pRRRLRB 4 0 (s_laws_szNodeS_0 (l.map nodeC) cur i) _) ?_ ?_
      · intro cur hc he
        refine r_laws_szNodeS_0 _ _ _ _ (brB_no (by simp) (a_laws_szNodeS_2 _ _ _ _ _ ⟨?_, rfl⟩))
        rw [← he, List.drop_length]
        unfold lft tot
        rw [if_neg (by omega)]
        simp
      · intro i a hi ha hd _ hn cur hc he
        rw [hd] at he
        simp only [tot] at he
        refine r_laws_szNodeS_0 _ _ _ _ (brB_yes (by simp; omega) ⟨_, rowAt_map ha, _, szNode_run a cur hc (hs a (List.mem_of_getElem? ha)).1 (hs a (List.mem_of_getElem? ha)).2, ?_⟩)
        by_cases hw : cur < (szNode a : Int)
        · refine brB_yes (by simp [lft, szNode] at hw ⊢; omega) (a_laws_szNodeS_1 _ ⟨?_, rfl⟩)
          rw [← he]
          unfold lft
          rw [if_pos (by omega)]
        · have hl2 : lft cur (szNode a) = cur - szNode a := if_neg hw
          refine brB_no (by simp [lft, szNode] at hw ⊢; omega) ?_
          rw [addW_eq (by omega)]
          have := hn (cur - szNode a) (by omega) (by rw [← he]; unfold lft; split <;> split <;> omega)
          rw [← hl2] at this
          exact this
    refine key (left - l.length) (by omega) ?_
    simp only [List.drop_zero]
    unfold lft
    split <;> split <;> omega
theorem lft_lft {a : Int} {n m : Nat} (h : ¬ lft a n < 0) (h0 : 0 ≤ a) : lft (lft a n) m = lft a (n + m) := by unfold lft at *; split <;> split <;> split <;> simp_all <;> omega
theorem lft_in {a : Int} {n : Nat} (h : ¬ lft a n < 0) (h0 : 0 ≤ a ∧ a ≤ 1048576) : 0 ≤ lft a n ∧ lft a n ≤ 1048576 := by unfold lft at *; split <;> simp_all <;> omega
theorem lft_neg {a : Int} {n m : Nat} (h : lft a n < 0) (h0 : 0 ≤ a) : lft a (n + m) = -1 := by unfold lft at *; split <;> simp_all <;> omega
structure TreeW (t : Tree) : Prop where
  lows : t.lows.length ≤ 140737488355328
  nodes : t.nodes.length ≤ 140737488355328
  node : ∀ n ∈ t.nodes, n.length ≤ 140737488355328 ∧ ∀ s ∈ n, s.length ≤ 140737488355328
theorem szTree_run (t : Tree) (left : Int) (h0 : 0 ≤ left ∧ left ≤ 1048576) (h : TreeW t) : RunF C laws_szTree [vTree t, vI left] (vI (lft left (szTree t))) [] := by
  refine (f_laws_szTree _ _ _ _ ⟨_, szIntS _ left h0 h.lows, ?_⟩).run
  unfold szTree szNodes
  refine brB_both (fun hb => ?_) fun hb => ⟨_, szNodeS _ _ (lft_in (by simpa using hb) h0) h.nodes h.node, ?_⟩
  · rw [lft_neg (by simpa using hb) h0.1]; exact ⟨rfl, by first | rfl | trivial⟩
  · have hb : ¬ lft left t.lows.length < 0 := by simpa using hb
    rw [lft_lft hb h0.1]
    refine brB_both (fun hc => ?_) fun hc => ⟨rfl, rfl⟩
    refine ⟨?_, rfl⟩
    have hc : lft left (t.lows.length + (t.nodes.length + tot szNode t.nodes)) < 0 := by simpa using hc
    unfold lft at *
    split <;> simp_all <;> omega
theorem szVol_run (s : ByteArray) (a z : Int) (f : Bool) (left : Int) (h0 : 0 ≤ left ∧ left ≤ 1048576) (hl : s.size ≤ 140737488355328) : RunF C laws_szVol [.ag [iS s, iI a, iI z, iB f], vI left] (vI (lft left s.size)) [] := by
  refine (f_laws_szVol _ _ _ _ _ _ ?_).run
  simp only [strLen, ofNat_cast]
  rw [subW_eq (by omega)]
  unfold lft
  simp only [ltI_eq, brB_dec]
  by_cases h : left < (s.size : Int)
  · rw [if_pos (by omega), if_pos h]; exact ⟨rfl, by first | rfl | trivial⟩
  · rw [if_neg (by omega), if_neg h]; exact ⟨rfl, by first | rfl | trivial⟩
theorem szVolS (l : List (Vol)) (left : Int) (h0 : 0 ≤ left ∧ left ≤ 1048576) (hl : l.length ≤ 140737488355328) (hs : ∀ v ∈ l, v.name.size ≤ 140737488355328) : RunF C laws_szVolS [vVols l, vI left] (vI (lft left (l.length + tot szVol l))) [] := by
  refine (f_laws_szVolS _ _ _ ?_).run
  simp only [List.length_map, ofNat_cast]
  rw [subW_eq (by omega)]
  simp only [ltI_eq, brB_dec]
  by_cases h : left < (l.length : Int)
  · rw [if_pos (by omega)]
    refine ⟨?_, by first | rfl | trivial⟩
    unfold lft
    rw [if_pos (by omega)]
  · rw [if_neg (by omega)]
    have key : ∀ cur : Int, 0 ≤ cur ∧ cur ≤ 1048576 → lft cur (tot szVol (l.drop 0)) = lft left (l.length + tot szVol l) → LoopG C laws_szVolS pRRRLRB 4 0 (s_laws_szVolS_0 (l.map volC) cur ((0 : Nat) : Int)) (fun x st => AftF C laws_szVolS pRRRLRB x st fun r fs => r = vI (lft left (l.length + tot szVol l)) ∧ fs = []) := by
      refine idx_walk l (fun i => ∀ cur : Int, 0 ≤ cur ∧ cur ≤ 1048576 → lft cur (tot szVol (l.drop i)) = lft left (l.length + tot szVol l) → LoopG C laws_szVolS pRRRLRB 4 0 (s_laws_szVolS_0 (l.map volC) cur i) _) ?_ ?_
      · intro cur hc he
        refine r_laws_szVolS_0 _ _ _ _ (brB_no (by simp) (a_laws_szVolS_2 _ _ _ _ _ ⟨?_, rfl⟩))
        rw [← he, List.drop_length]
        unfold lft tot
        rw [if_neg (by omega)]
        simp
      · intro i a hi ha hd _ hn cur hc he
        rw [hd] at he
        simp only [tot] at he
        refine r_laws_szVolS_0 _ _ _ _ (brB_yes (by simp; omega) ⟨_, _, _, _, rowAt_map ha, _, szVol_run _ _ _ _ cur hc (hs a (List.mem_of_getElem? ha)), ?_⟩)
        by_cases hw : cur < (szVol a : Int)
        · refine brB_yes (by simp [lft, szVol] at hw ⊢; omega) (a_laws_szVolS_1 _ ⟨?_, rfl⟩)
          rw [← he]
          unfold lft
          rw [if_pos (by omega)]
        · have hl2 : lft cur (szVol a) = cur - szVol a := if_neg hw
          refine brB_no (by simp [lft, szVol] at hw ⊢; omega) ?_
          rw [addW_eq (by omega)]
          have := hn (cur - szVol a) (by omega) (by rw [← he]; unfold lft; split <;> split <;> omega)
          rw [← hl2] at this
          exact this
    refine key (left - l.length) (by omega) ?_
    simp only [List.drop_zero]
    unfold lft
    split <;> split <;> omega
structure PoolW (p : Pool) : Prop where
  t : TreeW p.t
  ages : p.ages.length ≤ 140737488355328
  cells : p.cells.length ≤ 140737488355328
  vols : p.vols.length ≤ 140737488355328
  vol : ∀ v ∈ p.vols, v.name.size ≤ 140737488355328
  siz : ∀ v ∈ p.vols, v.size ≤ 9223372036854775807
theorem szPool_run (p : Pool) (left : Int) (h0 : 0 ≤ left ∧ left ≤ 1048576) (h : PoolW p) : RunF C laws_szPool [vPool p, vI left] (vI (lft left (szPool p))) [] := by
  refine (f_laws_szPool _ _ _ _ _ _ _ _ ⟨_, szTree_run p.t left h0 h.t, ?_⟩).run
  unfold szPool szVols
  refine brB_both (fun hb => ?_) fun hb => ⟨_, szAgeS _ _ (lft_in (by simpa using hb) h0) h.ages, ?_⟩
  · rw [Nat.add_assoc, Nat.add_assoc, lft_neg (by simpa using hb) h0.1]; exact ⟨rfl, by first | rfl | trivial⟩
  rw [lft_lft (by simpa using hb) h0.1]
  refine brB_both (fun hb => ?_) fun hb => ⟨_, szCellS _ _ (lft_in (by simpa using hb) h0) h.cells, ?_⟩
  · rw [Nat.add_assoc, lft_neg (by simpa using hb) h0.1]; exact ⟨rfl, by first | rfl | trivial⟩
  rw [lft_lft (by simpa using hb) h0.1]
  refine brB_both (fun hb => ?_) fun hb => ⟨_, szVolS _ _ (lft_in (by simpa using hb) h0) h.vols h.vol, ?_⟩
  · rw [lft_neg (by simpa using hb) h0.1]; exact ⟨rfl, by first | rfl | trivial⟩
  rw [lft_lft (by simpa using hb) h0.1]
  refine brB_both (fun hc => ?_) fun hc => ⟨rfl, rfl⟩
  refine ⟨?_, rfl⟩
  have hc : lft left (szTree p.t + p.ages.length + p.cells.length + (p.vols.length + tot szVol p.vols)) < 0 := by simpa using hc
  unfold lft at *
  split <;> simp_all <;> omega
theorem run_within (a b c : Int) : RunF C impl_within [vI a, vI b, vI c] (vB (inB a b c)) [] := by
  refine (f_impl_within _ _ _ _ ?_).run
  simp only [leI_eq, brB_dec, inB]
  split <;> simp_all <;> omega
theorem run_l1In (a b c : Int) : RunF C spec_l1In [vI a, vI b, vI c] (vB (inB a b c)) [] := by
  refine (f_spec_l1In _ _ _ _ ?_).run
  simp only [leI_eq, brB_dec, inB]
  split <;> simp_all <;> omega
@[simp] theorem c_within (a b c : Int) (q : Bool) : RunF C impl_within [vI a, vI b, vI c] (vB q) [] ↔ q = inB a b c := iffB (run_within a b c)
@[simp] theorem c_l1In (a b c : Int) (q : Bool) : RunF C spec_l1In [vI a, vI b, vI c] (vB q) [] ↔ q = inB a b c := iffB (run_l1In a b c)
@[simp] theorem c_impl_LessKey (b a k c g b' a' k' c' g' : Int) (q : Bool) : RunF C impl_LessKey [.ag [iI b, iI a, iI k, iI c, iI g], .ag [iI b', iI a', iI k', iI c', iI g']] (vB q) [] ↔ q = lessKey ⟨b, a, k, c, g⟩ ⟨b', a', k', c', g'⟩ := iffB (by
  refine (f_impl_LessKey _ _ _ _ _ _ _ _ _ _ _ ?_).run
  simp only [ltI_eq, eqI_eq, brB_dec, lessKey]
  by_cases h1 : b < b' <;> by_cases h2 : b = b' <;> simp_all)
@[simp] theorem c_spec_LessKey (b a k c g b' a' k' c' g' : Int) (q : Bool) : RunF C spec_LessKey [.ag [iI b, iI a, iI k, iI c, iI g], .ag [iI b', iI a', iI k', iI c', iI g']] (vB q) [] ↔ q = lessKey ⟨b, a, k, c, g⟩ ⟨b', a', k', c', g'⟩ := iffB (by
  refine (f_spec_LessKey _ _ _ _ _ _ _ _ _ _ _ ?_).run
  simp only [ltI_eq, eqI_eq, brB_not, brB_dec, lessKey]
  by_cases h2 : b = b' <;> simp_all)
@[simp] theorem c_impl_SameSpot (b a k c g b' a' k' c' g' : Int) (q : Bool) : RunF C impl_SameSpot [.ag [iI b, iI a, iI k, iI c, iI g], .ag [iI b', iI a', iI k', iI c', iI g']] (vB q) [] ↔ q = sameSpot ⟨b, a, k, c, g⟩ ⟨b', a', k', c', g'⟩ := iffB (by
  refine (f_impl_SameSpot _ _ _ _ _ _ _ _ _ _ _ ?_).run
  simp only [ltI_eq, eqI_eq, brB_not, brB_dec, sameSpot]
  by_cases h2 : b = b' <;> simp_all)
@[simp] theorem c_spec_SameSpot (b a k c g b' a' k' c' g' : Int) (q : Bool) : RunF C spec_SameSpot [.ag [iI b, iI a, iI k, iI c, iI g], .ag [iI b', iI a', iI k', iI c', iI g']] (vB q) [] ↔ q = sameSpot ⟨b, a, k, c, g⟩ ⟨b', a', k', c', g'⟩ := iffB (by
  refine (f_spec_SameSpot _ _ _ _ _ _ _ _ _ _ _ ?_).run
  simp only [ltI_eq, eqI_eq, brB_not, brB_dec, sameSpot]
  by_cases h2 : b = b' <;> simp_all)
/-! sets that are put to -/
theorem run_spec_SetPut (l : List Key) (x : Key) (hl : l.length ≤ 1073741824) : RunF C spec_SetPut [vKeys l, vKey x] (vKeys (setPut l x)) [] := by
  refine (f_spec_SetPut _ _ _ _ _ _ _ ?_).run
  have key : ∀ (put : Bool) (acc : List Key), acc.length + (l.drop 0).length ≤ l.length + (if put then 1 else 0) → acc ++ setPutF x put (l.drop 0) = setPut l x → LoopG C spec_SetPut pRRRLRB 4 0 (s_spec_SetPut_0 (l.map keyC) put ((0 : Nat) : Int) x.b x.a x.k x.c x.g (acc.map keyC)) (fun u st => AftF C spec_SetPut pRRRLRB u st fun r fs => r = vKeys (setPut l x) ∧ fs = []) := by
    refine idx_walk l (fun i => ∀ (put : Bool) (acc : List Key), acc.length + (l.drop i).length ≤ l.length + (if put then 1 else 0) → acc ++ setPutF x put (l.drop i) = setPut l x → LoopG C spec_SetPut pRRRLRB 4 0 (s_spec_SetPut_0 (l.map keyC) put i x.b x.a x.k x.c x.g (acc.map keyC)) _) ?_ ?_
    · intro put acc hb he
      refine r_spec_SetPut_0 _ _ _ _ _ _ _ _ _ _ (brB_no (by simp) (a_spec_SetPut_1 _ _ _ _ _ _ _ _ _ _ _ ?_))
      simp only [app_key, key_eta, allSc_key1, Bool.true_and, brB_not, succ_len, List.length_map]
      have hb2 : acc.length ≤ l.length + 1 := by simp at hb; split at hb <;> omega
      rw [fitsT (by omega)]
      rw [List.drop_length] at he
      cases put <;> simp [setPutF] at he ⊢ <;> rw [← he] <;> simp
    · intro i a hi ha hd _ hn put acc hb he
      rw [hd] at hb he
      simp only [List.length_cons] at hb
      have hb' : acc.length + (List.drop (i + 1) l).length + 1 ≤ l.length + 1 := by split at hb <;> omega
      refine r_spec_SetPut_0 _ _ _ _ _ _ _ _ _ _ (brB_yes (by simp; omega) ?_)
      simp only [ex_key, getZ_nat, ha, Option.some.injEq, exists_eq_left', c_spec_LessKey, c_spec_SameSpot, exists_eq_left, brB_not, key_eta, app_key, allSc_key1, Bool.true_and, succ_len, List.length_map, List.length_append, List.length_singleton]
      simp (disch := omega) only [fitsT, addW_eq, brB_t]
      simp only [setPutF] at he
      cases put <;> cases hk : lessKey a x <;> cases hs : sameSpot a x <;> simp only [brB_t, brB_f] <;> simp [hk, hs] at he hb <;> exact hn _ _ (by simp at hb ⊢; omega) (by simpa using he)
  exact key false [] (by simp) rfl
@[simp] theorem c_spec_SetPut (l : List Key) (hl : l.length ≤ 1073741824) (b a k c g : Int) (q : RR) : RunF C spec_SetPut [.c (.sub 5 (l.map keyC)), .ag [iI b, iI a, iI k, iI c, iI g]] (.c (.sub 5 q)) [] ↔ q = (setPut l ⟨b, a, k, c, g⟩).map keyC := iffL (run_spec_SetPut l ⟨b, a, k, c, g⟩ hl)
theorem run_impl_SetPut (l : List Key) (x : Key) (hl : l.length ≤ 1073741824) : RunF C impl_SetPut [vKeys l, vKey x] (vKeys (setPut l x)) [] := by
  refine (f_impl_SetPut _ _ _ _ _ _ _ ?_).run
  have key : ∀ (put : Bool) (acc : List Key), acc.length + (l.drop 0).length ≤ l.length + (if put then 1 else 0) → acc ++ setPutF x put (l.drop 0) = setPut l x → LoopG C impl_SetPut pRRRLRB 4 0 (s_impl_SetPut_0 put (l.map keyC) ((0 : Nat) : Int) x.b x.a x.k x.c x.g (acc.map keyC)) (fun u st => AftF C impl_SetPut pRRRLRB u st fun r fs => r = vKeys (setPut l x) ∧ fs = []) := by
    refine idx_walk l (fun i => ∀ (put : Bool) (acc : List Key), acc.length + (l.drop i).length ≤ l.length + (if put then 1 else 0) → acc ++ setPutF x put (l.drop i) = setPut l x → LoopG C impl_SetPut pRRRLRB 4 0 (s_impl_SetPut_0 put (l.map keyC) i x.b x.a x.k x.c x.g (acc.map keyC)) _) ?_ ?_
    · intro put acc hb he
      refine r_impl_SetPut_0 _ _ _ _ _ _ _ _ _ _ (brB_no (by simp) (a_impl_SetPut_1 _ _ _ _ _ _ _ _ _ _ _ _ ?_))
      simp only [app_key, key_eta, allSc_key1, Bool.true_and, brB_not, succ_len, List.length_map]
      have hb2 : acc.length ≤ l.length + 1 := by simp at hb; split at hb <;> omega
      rw [fitsT (by omega)]
      rw [List.drop_length] at he
      cases put <;> simp [setPutF] at he ⊢ <;> rw [← he] <;> simp
    · intro i a hi ha hd _ hn put acc hb he
      rw [hd] at hb he
      simp only [List.length_cons] at hb
      have hb' : acc.length + (List.drop (i + 1) l).length + 1 ≤ l.length + 1 := by split at hb <;> omega
      refine r_impl_SetPut_0 _ _ _ _ _ _ _ _ _ _ (brB_yes (by simp; omega) ?_)
      simp only [ex_key, getZ_nat, ha, Option.some.injEq, exists_eq_left', c_impl_LessKey, c_impl_SameSpot, exists_eq_left, brB_not, key_eta, app_key, allSc_key1, Bool.true_and, succ_len, List.length_map, List.length_append, List.length_singleton]
      simp (disch := omega) only [fitsT, addW_eq, brB_t]
      simp only [setPutF] at he
      cases put <;> cases hk : lessKey a x <;> cases hs : sameSpot a x <;> simp only [brB_t, brB_f] <;> simp [hk, hs] at he hb <;> exact hn _ _ (by simp at hb ⊢; omega) (by simpa using he)
  exact key false [] (by simp) rfl
@[simp] theorem c_impl_SetPut (l : List Key) (hl : l.length ≤ 1073741824) (b a k c g : Int) (q : RR) : RunF C impl_SetPut [.c (.sub 5 (l.map keyC)), .ag [iI b, iI a, iI k, iI c, iI g]] (.c (.sub 5 q)) [] ↔ q = (setPut l ⟨b, a, k, c, g⟩).map keyC := iffL (run_impl_SetPut l ⟨b, a, k, c, g⟩ hl)
theorem run_spec_MergeSets (old new : List Key) (hl : old.length + new.length ≤ 1073741824) : RunF C spec_MergeSets [vKeys old, vKeys new] (vKeys (mergeSets old new)) [] := by
  refine (f_spec_MergeSets _ _ _ ?_).run
  rw [allSc_key, fitsT (by simp; omega)]
  refine brB_yes rfl ?_
  have key : ∀ (acc : List Key), acc.length + (new.drop 0).length ≤ old.length + new.length → mergeSets acc (new.drop 0) = mergeSets old new → LoopG C spec_MergeSets pRRLRB 4 0 (s_spec_MergeSets_0 (new.map keyC) ((0 : Nat) : Int) (acc.map keyC)) (fun u st => AftF C spec_MergeSets pRRLRB u st fun r fs => r = (vKeys (mergeSets old new)) ∧ fs = []) := by
    refine idx_walk new (fun i => ∀ (acc : List Key), acc.length + (new.drop i).length ≤ old.length + new.length → mergeSets acc (new.drop i) = mergeSets old new → LoopG C spec_MergeSets pRRLRB 4 0 (s_spec_MergeSets_0 (new.map keyC) i (acc.map keyC)) (fun u st => AftF C spec_MergeSets pRRLRB u st fun r fs => r = (vKeys (mergeSets old new)) ∧ fs = [])) ?_ ?_
    · intro acc h0 h1
      refine r_spec_MergeSets_0 _ _ _ _ (brB_no (by simp) (a_spec_MergeSets_1 _ _ _ _ _ ?_))
      rw [List.drop_length] at h1
      rw [← h1]
      exact ⟨rfl, by first | rfl | trivial⟩
    · intro i a hi ha hd ht hn acc h0 h1
      refine r_spec_MergeSets_0 _ _ _ _ (brB_yes (by simp; omega) ?_)
      rw [hd] at h0 h1
      simp only [List.length_cons] at h0
      simp only [ex_key, c_spec_SetPut acc (by omega), getZ_nat, ha, Option.some.injEq, exists_eq_left', exists_eq_left, brB_not, brB_and, brB_or, key_eta, age_eta, cell_eta, vol_eta, map_eta, op_eta, succ_len, natAdd, List.length_map, List.length_append, List.length_singleton, Bool.true_and, Bool.and_true]
      rw [addW_eq (by omega)]
      have h2 := setPut_len acc a
      exact hn _ (by omega) (by rw [← h1]; rfl)
  exact key old (by simp) rfl
theorem c_spec_MergeSets (old new : List Key) (hl : old.length + new.length ≤ 1073741824) (q : RR) : RunF C spec_MergeSets [vKeys old, vKeys new] (.c (.sub 5 q)) [] ↔ q = (mergeSets old new).map keyC := iffL (run_spec_MergeSets old new hl)
theorem run_spec_Drop (l : List Key) (hl : l.length ≤ 1073741824) : RunF C spec_Drop [vKeys l] (vKeys (dropN l)) [] := by
  refine (f_spec_Drop _ _ ?_).run
  have key : ∀ (acc : List Key), acc.length + (l.drop 0).length ≤ l.length → acc ++ dropN (l.drop 0) = dropN l → LoopG C spec_Drop pRRLRB 4 0 (s_spec_Drop_0 (l.map keyC) ((0 : Nat) : Int) (acc.map keyC)) (fun u st => AftF C spec_Drop pRRLRB u st fun r fs => r = (vKeys (dropN l)) ∧ fs = []) := by
    refine idx_walk l (fun i => ∀ (acc : List Key), acc.length + (l.drop i).length ≤ l.length → acc ++ dropN (l.drop i) = dropN l → LoopG C spec_Drop pRRLRB 4 0 (s_spec_Drop_0 (l.map keyC) i (acc.map keyC)) (fun u st => AftF C spec_Drop pRRLRB u st fun r fs => r = (vKeys (dropN l)) ∧ fs = [])) ?_ ?_
    · intro acc h0 h1
      refine r_spec_Drop_0 _ _ _ _ (brB_no (by simp) (a_spec_Drop_1 _ _ _ _ _ ?_))
      rw [List.drop_length] at h1
      simp [dropN] at h1
      simp [dropN, h1]
    · intro i a hi ha hd ht hn acc h0 h1
      refine r_spec_Drop_0 _ _ _ _ (brB_yes (by simp; omega) ?_)
      rw [hd] at h0 h1
      simp only [List.length_cons] at h0
      simp only [ex_key, app_key, allSc_key1, eqI_eq, brB_dec, getZ_nat, ha, Option.some.injEq, exists_eq_left', exists_eq_left, brB_not, brB_and, brB_or, key_eta, age_eta, cell_eta, vol_eta, map_eta, op_eta, succ_len, natAdd, List.length_map, List.length_append, List.length_singleton, Bool.true_and, Bool.and_true]
      simp (disch := omega) only [fitsT, addW_eq, brB_t]
      by_cases hk : a.k = 0
      · rw [if_pos hk]
        exact hn _ (by omega) (by rw [← h1]; simp [dropN, hk])
      · rw [if_neg hk]
        exact hn (acc ++ [a]) (by simp only [List.length_append, List.length_singleton]; omega) (by rw [← h1]; simp [dropN, hk])
  exact key [] (by simp) rfl
theorem run_spec_NodeKeys (n : List (List Key)) (hb : n.length ≤ 1073741824) (hl : tot szSet n ≤ 1073741824) : RunF C spec_NodeKeys [vNode n] (vKeys (nodeKeys n)) [] := by
  refine (f_spec_NodeKeys _ _ ?_).run
  have key : ∀ (acc : List Key), acc.length + tot szSet (n.drop 0) ≤ tot szSet n → (n.drop 0).foldl mergeSets acc = nodeKeys0 n → LoopG C spec_NodeKeys pRRLRB 4 0 (s_spec_NodeKeys_0 ((0 : Nat) : Int) (n.map setC) (acc.map keyC)) (fun u st => AftF C spec_NodeKeys pRRLRB u st fun r fs => r = (vKeys (nodeKeys n)) ∧ fs = []) := by
    refine idx_walk n (fun i => ∀ (acc : List Key), acc.length + tot szSet (n.drop i) ≤ tot szSet n → (n.drop i).foldl mergeSets acc = nodeKeys0 n → LoopG C spec_NodeKeys pRRLRB 4 0 (s_spec_NodeKeys_0 i (n.map setC) (acc.map keyC)) (fun u st => AftF C spec_NodeKeys pRRLRB u st fun r fs => r = (vKeys (nodeKeys n)) ∧ fs = [])) ?_ ?_
    · intro acc h0 h1
      refine r_spec_NodeKeys_0 _ _ _ _ (brB_no (by simp) (a_spec_NodeKeys_1 _ _ _ _ _ ?_))
      rw [List.drop_length] at h0 h1
      simp only [List.foldl_nil] at h1
      refine ⟨_, run_spec_Drop acc (by omega), ?_⟩
      rw [h1]
      exact ⟨rfl, by first | rfl | trivial⟩
    · intro i a hi ha hd ht hn acc h0 h1
      refine r_spec_NodeKeys_0 _ _ _ _ (brB_yes (by simp; omega) ?_)
      rw [hd] at h0 h1
      simp only [tot, szSet] at h0
      simp only [ex_set, c_spec_MergeSets acc a (by omega), getZ_nat, ha, Option.some.injEq, exists_eq_left', exists_eq_left, brB_not, brB_and, brB_or, key_eta, age_eta, cell_eta, vol_eta, map_eta, op_eta, succ_len, natAdd, List.length_map, List.length_append, List.length_singleton, Bool.true_and, Bool.and_true]
      rw [addW_eq (by omega)]
      have h2 := mergeSets_len a acc
      exact hn _ (by omega) (by rw [← h1]; rfl)
  exact key [] (by simp) rfl
theorem c_spec_NodeKeys (n : List (List Key)) (hb : n.length ≤ 1073741824) (hl : tot szSet n ≤ 1073741824) (q : RR) : RunF C spec_NodeKeys [.ag [.sub 1 (n.map setC)]] (.c (.sub 5 q)) [] ↔ q = (nodeKeys n).map keyC := iffL (run_spec_NodeKeys n hb hl)
theorem run_spec_TreeKeys (t : Tree) (hl : szTree t ≤ 1073741824) : RunF C spec_TreeKeys [vTree t] (vKeys (treeKeys t)) [] := by
  refine (f_spec_TreeKeys _ _ _ ?_).run
  have key : ∀ (acc : List Key), acc.length + tot szNode (t.nodes.drop 0) ≤ tot szNode t.nodes → acc ++ (t.nodes.drop 0).flatMap nodeKeys = treeKeys t → LoopG C spec_TreeKeys pRRLRB 4 0 (s_spec_TreeKeys_0 ((0 : Nat) : Int) (t.lows.map intC) (t.nodes.map nodeC) (acc.map keyC)) (fun u st => AftF C spec_TreeKeys pRRLRB u st fun r fs => r = (vKeys (treeKeys t)) ∧ fs = []) := by
    refine idx_walk t.nodes (fun i => ∀ (acc : List Key), acc.length + tot szNode (t.nodes.drop i) ≤ tot szNode t.nodes → acc ++ (t.nodes.drop i).flatMap nodeKeys = treeKeys t → LoopG C spec_TreeKeys pRRLRB 4 0 (s_spec_TreeKeys_0 i (t.lows.map intC) (t.nodes.map nodeC) (acc.map keyC)) (fun u st => AftF C spec_TreeKeys pRRLRB u st fun r fs => r = (vKeys (treeKeys t)) ∧ fs = [])) ?_ ?_
    · intro acc h0 h1
      refine r_spec_TreeKeys_0 _ _ _ _ _ (brB_no (by simp) (a_spec_TreeKeys_1 _ _ _ _ _ _ ?_))
      rw [List.drop_length] at h1
      simp at h1
      simp [h1]
    · intro i a hi ha hd ht hn acc h0 h1
      refine r_spec_TreeKeys_0 _ _ _ _ _ (brB_yes (by have := hi; unfold szTree szNodes at hl; simp; omega) ?_)
      have hz : a.length + tot szSet a ≤ tot szNode t.nodes := tot_get (w := szNode) ha
      rw [hd] at h0 h1
      simp only [tot, szNode] at h0
      unfold szTree szNodes at hl
      have h2 := nodeKeys_len a
      simp only [listApp, ex_node, c_spec_NodeKeys a (by omega) (by omega), allSc_key, getZ_nat, ha, Option.some.injEq, exists_eq_left', exists_eq_left, brB_not, brB_and, brB_or, key_eta, age_eta, cell_eta, vol_eta, map_eta, op_eta, succ_len, natAdd, List.length_map, List.length_append, List.length_singleton, Bool.true_and, Bool.and_true]
      rw [fitsT (by omega), addW_eq (by omega)]
      refine brB_yes rfl ?_
      rw [← List.map_append]
      exact hn _ (by simp; omega) (by rw [← h1]; simp)
  exact key [] (by simp) rfl
theorem run_spec_KeysOf (t : Tree) (b : Int) (hl : szTree t ≤ 1073741824) : RunF C spec_KeysOf [vTree t, vI b] (vKeys (keysOf t b)) [] := by
  refine (f_spec_KeysOf _ _ _ _ ?_).run
  refine ⟨_, run_spec_TreeKeys t hl, ?_⟩
  have key : ∀ (acc : List Key), acc.length + ((treeKeys t).drop 0).length ≤ (treeKeys t).length → acc ++ ((treeKeys t).drop 0).filter (fun k => decide (k.b = b)) = keysOf t b → LoopG C spec_KeysOf pRRRLRB 4 0 (s_spec_KeysOf_0 b ((0 : Nat) : Int) (acc.map keyC) ((treeKeys t).map keyC)) (fun u st => AftF C spec_KeysOf pRRRLRB u st fun r fs => r = (vKeys (keysOf t b)) ∧ fs = []) := by
    refine idx_walk (treeKeys t) (fun i => ∀ (acc : List Key), acc.length + ((treeKeys t).drop i).length ≤ (treeKeys t).length → acc ++ ((treeKeys t).drop i).filter (fun k => decide (k.b = b)) = keysOf t b → LoopG C spec_KeysOf pRRRLRB 4 0 (s_spec_KeysOf_0 b i (acc.map keyC) ((treeKeys t).map keyC)) (fun u st => AftF C spec_KeysOf pRRRLRB u st fun r fs => r = (vKeys (keysOf t b)) ∧ fs = [])) ?_ ?_
    · intro acc h0 h1
      refine r_spec_KeysOf_0 _ _ _ _ _ (brB_no (by simp) (a_spec_KeysOf_1 _ _ _ _ _ _ ?_))
      rw [List.drop_length] at h1
      simp at h1
      simp [h1]
    · intro i a hi ha hd ht hn acc h0 h1
      refine r_spec_KeysOf_0 _ _ _ _ _ (brB_yes (by simp; omega) ?_)
      rw [hd] at h0 h1
      simp only [List.length_cons] at h0
      have hz := treeKeys_len t
      simp only [ex_key, app_key, allSc_key1, eqI_eq, brB_dec, getZ_nat, ha, Option.some.injEq, exists_eq_left', exists_eq_left, brB_not, brB_and, brB_or, key_eta, age_eta, cell_eta, vol_eta, map_eta, op_eta, succ_len, natAdd, List.length_map, List.length_append, List.length_singleton, Bool.true_and, Bool.and_true]
      simp (disch := omega) only [fitsT, addW_eq, brB_t]
      by_cases hk : a.b = b
      · rw [if_pos hk]
        exact hn (acc ++ [a]) (by simp only [List.length_append, List.length_singleton]; omega) (by rw [← h1]; simp [hk])
      · rw [if_neg hk]
        exact hn _ (by omega) (by rw [← h1]; simp [hk])
  exact key [] (by simp) rfl
theorem run_impl_copyKeys (l : List Key) (hl : l.length ≤ 2147483648) : RunF C impl_copyKeys [vKeys l] (vKeys l) [] := by
  refine (f_impl_copyKeys _ _ ?_).run
  rw [allSc_key, fitsT (by simp; omega)]
  exact ⟨rfl, by first | rfl | trivial⟩
theorem run_impl_MergeSets (old new : List Key) (hl : old.length + new.length ≤ 1073741824) : RunF C impl_MergeSets [vKeys old, vKeys new] (vKeys (mergeSets old new)) [] := by
  refine (f_impl_MergeSets _ _ _ ?_).run
  refine ⟨_, run_impl_copyKeys old (by omega), ?_⟩
  have key : ∀ (acc : List Key), acc.length + (new.drop 0).length ≤ old.length + new.length → mergeSets acc (new.drop 0) = mergeSets old new → LoopG C impl_MergeSets pRRLRB 4 0 (s_impl_MergeSets_0 (new.map keyC) ((0 : Nat) : Int) (acc.map keyC)) (fun u st => AftF C impl_MergeSets pRRLRB u st fun r fs => r = (vKeys (mergeSets old new)) ∧ fs = []) := by
    refine idx_walk new (fun i => ∀ (acc : List Key), acc.length + (new.drop i).length ≤ old.length + new.length → mergeSets acc (new.drop i) = mergeSets old new → LoopG C impl_MergeSets pRRLRB 4 0 (s_impl_MergeSets_0 (new.map keyC) i (acc.map keyC)) (fun u st => AftF C impl_MergeSets pRRLRB u st fun r fs => r = (vKeys (mergeSets old new)) ∧ fs = [])) ?_ ?_
    · intro acc h0 h1
      refine r_impl_MergeSets_0 _ _ _ _ (brB_no (by simp) (a_impl_MergeSets_1 _ _ _ _ _ _ ?_))
      rw [List.drop_length] at h1
      rw [← h1]
      exact ⟨rfl, by first | rfl | trivial⟩
    · intro i a hi ha hd ht hn acc h0 h1
      refine r_impl_MergeSets_0 _ _ _ _ (brB_yes (by simp; omega) ?_)
      rw [hd] at h0 h1
      simp only [List.length_cons] at h0
      simp only [ex_key, c_impl_SetPut acc (by omega), getZ_nat, ha, Option.some.injEq, exists_eq_left', exists_eq_left, brB_not, brB_and, brB_or, key_eta, age_eta, cell_eta, vol_eta, map_eta, op_eta, succ_len, natAdd, List.length_map, List.length_append, List.length_singleton, Bool.true_and, Bool.and_true]
      rw [addW_eq (by omega)]
      have h2 := setPut_len acc a
      exact hn _ (by omega) (by rw [← h1]; rfl)
  exact key old (by simp) rfl
theorem c_impl_MergeSets (old new : List Key) (hl : old.length + new.length ≤ 1073741824) (q : RR) : RunF C impl_MergeSets [vKeys old, vKeys new] (.c (.sub 5 q)) [] ↔ q = (mergeSets old new).map keyC := iffL (run_impl_MergeSets old new hl)
theorem run_impl_Drop (l : List Key) (hl : l.length ≤ 1073741824) : RunF C impl_Drop [vKeys l] (vKeys (dropN l)) [] := by
  refine (f_impl_Drop _ _ ?_).run
  have key : ∀ (acc : List Key), acc.length + (l.drop 0).length ≤ l.length → acc ++ dropN (l.drop 0) = dropN l → LoopG C impl_Drop pRRLRB 4 0 (s_impl_Drop_0 (l.map keyC) ((0 : Nat) : Int) (acc.map keyC)) (fun u st => AftF C impl_Drop pRRLRB u st fun r fs => r = (vKeys (dropN l)) ∧ fs = []) := by
    refine idx_walk l (fun i => ∀ (acc : List Key), acc.length + (l.drop i).length ≤ l.length → acc ++ dropN (l.drop i) = dropN l → LoopG C impl_Drop pRRLRB 4 0 (s_impl_Drop_0 (l.map keyC) i (acc.map keyC)) (fun u st => AftF C impl_Drop pRRLRB u st fun r fs => r = (vKeys (dropN l)) ∧ fs = [])) ?_ ?_
    · intro acc h0 h1
      refine r_impl_Drop_0 _ _ _ _ (brB_no (by simp) (a_impl_Drop_1 _ _ _ _ _ _ ?_))
      rw [List.drop_length] at h1
      simp [dropN] at h1
      simp [dropN, h1]
    · intro i a hi ha hd ht hn acc h0 h1
      refine r_impl_Drop_0 _ _ _ _ (brB_yes (by simp; omega) ?_)
      rw [hd] at h0 h1
      simp only [List.length_cons] at h0
      simp only [ex_key, app_key, allSc_key1, eqI_eq, brB_dec, getZ_nat, ha, Option.some.injEq, exists_eq_left', exists_eq_left, brB_not, brB_and, brB_or, key_eta, age_eta, cell_eta, vol_eta, map_eta, op_eta, succ_len, natAdd, List.length_map, List.length_append, List.length_singleton, Bool.true_and, Bool.and_true]
      simp (disch := omega) only [fitsT, addW_eq, brB_t]
      by_cases hk : a.k = 0
      · rw [if_pos hk]
        exact hn _ (by omega) (by rw [← h1]; simp [dropN, hk])
      · rw [if_neg hk]
        exact hn (acc ++ [a]) (by simp only [List.length_append, List.length_singleton]; omega) (by rw [← h1]; simp [dropN, hk])
  exact key [] (by simp) rfl
theorem run_impl_NodeKeys (n : List (List Key)) (hb : n.length ≤ 1073741824) (hl : tot szSet n ≤ 1073741824) : RunF C impl_NodeKeys [vNode n] (vKeys (nodeKeys n)) [] := by
  refine (f_impl_NodeKeys _ _ ?_).run
  have key : ∀ (acc : List Key), acc.length + tot szSet (n.drop 0) ≤ tot szSet n → (n.drop 0).foldl mergeSets acc = nodeKeys0 n → LoopG C impl_NodeKeys pRRLRB 4 0 (s_impl_NodeKeys_0 (n.map setC) ((0 : Nat) : Int) (acc.map keyC)) (fun u st => AftF C impl_NodeKeys pRRLRB u st fun r fs => r = (vKeys (nodeKeys n)) ∧ fs = []) := by
    refine idx_walk n (fun i => ∀ (acc : List Key), acc.length + tot szSet (n.drop i) ≤ tot szSet n → (n.drop i).foldl mergeSets acc = nodeKeys0 n → LoopG C impl_NodeKeys pRRLRB 4 0 (s_impl_NodeKeys_0 (n.map setC) i (acc.map keyC)) (fun u st => AftF C impl_NodeKeys pRRLRB u st fun r fs => r = (vKeys (nodeKeys n)) ∧ fs = [])) ?_ ?_
    · intro acc h0 h1
      refine r_impl_NodeKeys_0 _ _ _ _ (brB_no (by simp) (a_impl_NodeKeys_1 _ _ _ _ _ _ ?_))
      rw [List.drop_length] at h0 h1
      simp only [List.foldl_nil] at h1
      refine ⟨_, run_impl_Drop acc (by omega), ?_⟩
      rw [h1]
      exact ⟨rfl, by first | rfl | trivial⟩
    · intro i a hi ha hd ht hn acc h0 h1
      refine r_impl_NodeKeys_0 _ _ _ _ (brB_yes (by simp; omega) ?_)
      rw [hd] at h0 h1
      simp only [tot, szSet] at h0
      simp only [ex_set, c_impl_MergeSets acc a (by omega), getZ_nat, ha, Option.some.injEq, exists_eq_left', exists_eq_left, brB_not, brB_and, brB_or, key_eta, age_eta, cell_eta, vol_eta, map_eta, op_eta, succ_len, natAdd, List.length_map, List.length_append, List.length_singleton, Bool.true_and, Bool.and_true]
      rw [addW_eq (by omega)]
      have h2 := mergeSets_len a acc
      exact hn _ (by omega) (by rw [← h1]; rfl)
  exact key [] (by simp) rfl
theorem c_impl_NodeKeys (n : List (List Key)) (hb : n.length ≤ 1073741824) (hl : tot szSet n ≤ 1073741824) (q : RR) : RunF C impl_NodeKeys [.ag [.sub 1 (n.map setC)]] (.c (.sub 5 q)) [] ↔ q = (nodeKeys n).map keyC := iffL (run_impl_NodeKeys n hb hl)
theorem run_impl_TreeKeys (t : Tree) (hl : szTree t ≤ 1073741824) : RunF C impl_TreeKeys [vTree t] (vKeys (treeKeys t)) [] := by
  refine (f_impl_TreeKeys _ _ _ ?_).run
  have key : ∀ (acc : List Key), acc.length + tot szNode (t.nodes.drop 0) ≤ tot szNode t.nodes → acc ++ (t.nodes.drop 0).flatMap nodeKeys = treeKeys t → LoopG C impl_TreeKeys pRRLRB 4 0 (s_impl_TreeKeys_0 (t.nodes.map nodeC) ((0 : Nat) : Int) (acc.map keyC)) (fun u st => AftF C impl_TreeKeys pRRLRB u st fun r fs => r = (vKeys (treeKeys t)) ∧ fs = []) := by
    refine idx_walk t.nodes (fun i => ∀ (acc : List Key), acc.length + tot szNode (t.nodes.drop i) ≤ tot szNode t.nodes → acc ++ (t.nodes.drop i).flatMap nodeKeys = treeKeys t → LoopG C impl_TreeKeys pRRLRB 4 0 (s_impl_TreeKeys_0 (t.nodes.map nodeC) i (acc.map keyC)) (fun u st => AftF C impl_TreeKeys pRRLRB u st fun r fs => r = (vKeys (treeKeys t)) ∧ fs = [])) ?_ ?_
    · intro acc h0 h1
      refine r_impl_TreeKeys_0 _ _ _ _ (brB_no (by simp) (a_impl_TreeKeys_1 _ _ _ _ _ _ ?_))
      rw [List.drop_length] at h1
      simp at h1
      simp [h1]
    · intro i a hi ha hd ht hn acc h0 h1
      refine r_impl_TreeKeys_0 _ _ _ _ (brB_yes (by have := hi; unfold szTree szNodes at hl; simp; omega) ?_)
      have hz : a.length + tot szSet a ≤ tot szNode t.nodes := tot_get (w := szNode) ha
      rw [hd] at h0 h1
      simp only [tot, szNode] at h0
      unfold szTree szNodes at hl
      have h2 := nodeKeys_len a
      simp only [listApp, ex_node, c_impl_NodeKeys a (by omega) (by omega), allSc_key, getZ_nat, ha, Option.some.injEq, exists_eq_left', exists_eq_left, brB_not, brB_and, brB_or, key_eta, age_eta, cell_eta, vol_eta, map_eta, op_eta, succ_len, natAdd, List.length_map, List.length_append, List.length_singleton, Bool.true_and, Bool.and_true]
      rw [fitsT (by omega), addW_eq (by omega)]
      refine brB_yes rfl ?_
      rw [← List.map_append]
      exact hn _ (by simp; omega) (by rw [← h1]; simp)
  exact key [] (by simp) rfl
theorem run_impl_KeysOf (t : Tree) (b : Int) (hl : szTree t ≤ 1073741824) : RunF C impl_KeysOf [vTree t, vI b] (vKeys (keysOf t b)) [] := by
  refine (f_impl_KeysOf _ _ _ _ ?_).run
  refine ⟨_, run_impl_TreeKeys t hl, ?_⟩
  have key : ∀ (acc : List Key), acc.length + ((treeKeys t).drop 0).length ≤ (treeKeys t).length → acc ++ ((treeKeys t).drop 0).filter (fun k => decide (k.b = b)) = keysOf t b → LoopG C impl_KeysOf pRRLRB 4 0 (s_impl_KeysOf_0 b ((treeKeys t).map keyC) ((0 : Nat) : Int) (acc.map keyC)) (fun u st => AftF C impl_KeysOf pRRLRB u st fun r fs => r = (vKeys (keysOf t b)) ∧ fs = []) := by
    refine idx_walk (treeKeys t) (fun i => ∀ (acc : List Key), acc.length + ((treeKeys t).drop i).length ≤ (treeKeys t).length → acc ++ ((treeKeys t).drop i).filter (fun k => decide (k.b = b)) = keysOf t b → LoopG C impl_KeysOf pRRLRB 4 0 (s_impl_KeysOf_0 b ((treeKeys t).map keyC) i (acc.map keyC)) (fun u st => AftF C impl_KeysOf pRRLRB u st fun r fs => r = (vKeys (keysOf t b)) ∧ fs = [])) ?_ ?_
    · intro acc h0 h1
      refine r_impl_KeysOf_0 _ _ _ _ _ (brB_no (by simp) (a_impl_KeysOf_1 _ _ _ _ _ _ _ ?_))
      rw [List.drop_length] at h1
      simp at h1
      simp [h1]
    · intro i a hi ha hd ht hn acc h0 h1
      refine r_impl_KeysOf_0 _ _ _ _ _ (brB_yes (by simp; omega) ?_)
      rw [hd] at h0 h1
      simp only [List.length_cons] at h0
      have hz := treeKeys_len t
      simp only [ex_key, app_key, allSc_key1, eqI_eq, brB_dec, getZ_nat, ha, Option.some.injEq, exists_eq_left', exists_eq_left, brB_not, brB_and, brB_or, key_eta, age_eta, cell_eta, vol_eta, map_eta, op_eta, succ_len, natAdd, List.length_map, List.length_append, List.length_singleton, Bool.true_and, Bool.and_true]
      simp (disch := omega) only [fitsT, addW_eq, brB_t]
      by_cases hk : a.b = b
      · rw [if_pos hk]
        exact hn (acc ++ [a]) (by simp only [List.length_append, List.length_singleton]; omega) (by rw [← h1]; simp [hk])
      · rw [if_neg hk]
        exact hn _ (by omega) (by rw [← h1]; simp [hk])
  exact key [] (by simp) rfl
theorem run_spec_AgeAt (l : List Age) (id : Int) (hl : l.length ≤ 1073741824) : RunF C spec_AgeAt [vAges l, vI id] (vI (ageAt l id)) [] := by
  refine (f_spec_AgeAt _ _ _ ?_).run
  have key : idxF (fun a : Age => decide (a.id = id)) (l.drop 0) ((0 : Nat) : Int) = idxF (fun a : Age => decide (a.id = id)) l 0 → LoopG C spec_AgeAt pRLRB 4 0 (s_spec_AgeAt_0 (l.map ageC) id ((0 : Nat) : Int)) (fun u st => AftF C spec_AgeAt pRLRB u st fun r fs => r = vI (ageAt l id) ∧ fs = []) := by
    refine idx_walk l (fun i => idxF (fun a : Age => decide (a.id = id)) (l.drop i) (i : Int) = idxF (fun a : Age => decide (a.id = id)) l 0 → LoopG C spec_AgeAt pRLRB 4 0 (s_spec_AgeAt_0 (l.map ageC) id i) _) ?_ ?_
    · intro h0
      refine r_spec_AgeAt_0 _ _ _ _ (brB_no (by simp) (a_spec_AgeAt_2 _ _ _ _ _ ?_))
      rw [List.drop_length] at h0
      simp only [idxF] at h0
      change _ = vI (idxF (fun a : Age => decide (a.id = id)) l 0) ∧ _
      rw [← h0]
      exact ⟨rfl, by first | rfl | trivial⟩
    · intro i a hi ha hd htk hn h0
      refine r_spec_AgeAt_0 _ _ _ _ (brB_yes (by simp; omega) ?_)
      rw [hd] at h0
      simp only [idxF] at h0
      simp only [ex_age, eqI_eq, brB_dec, getZ_nat, ha, Option.some.injEq, exists_eq_left', exists_eq_left, brB_not, brB_and, brB_or, key_eta, age_eta, cell_eta, vol_eta, map_eta, op_eta, succ_len, natAdd, List.length_map, List.length_append, List.length_singleton, Bool.true_and, Bool.and_true]
      rw [addW_eq (by omega)]
      split at h0
      · rename_i hp
        have hp := of_decide_eq_true hp
        first | rw [if_pos hp] | rw [if_pos hp.symm]
        refine a_spec_AgeAt_1 _ _ ?_
        rw [h0]
        exact ⟨rfl, by first | rfl | trivial⟩
      · rename_i hp
        have hp : ¬ _ := fun h => hp (decide_eq_true h)
        first | rw [if_neg hp] | rw [if_neg (fun h => hp h.symm)]
        exact hn h0
  exact key rfl
@[simp] theorem c_impl_AgeAt_1 (a b id : Int) (q : Bool) : RunF C impl_AgeAt_1 [.ag [iI a, iI b], .bx [iI id]] (vB q) [] ↔ q = decide (a = id) := iffB (by
  refine (f_impl_AgeAt_1 _ _ _ _ ?_).run
  simp)
theorem run_idx_AgeAt (l : List Age) (id : Int) (hl : l.length ≤ 1073741824) : RunF C slices_IndexFunc_Age [vAges l, .fn impl_AgeAt_1 [[iI id]]] (vI (ageAt l id)) [] := by
  refine (f_slices_IndexFunc_Age_impl_AgeAt_1 _ _ _ ?_).run
  have key : idxF (fun a : Age => decide (a.id = id)) (l.drop 0) ((0 : Nat) : Int) = idxF (fun a : Age => decide (a.id = id)) l 0 → LoopG C slices_IndexFunc_Age pRLRB 4 0 (s_slices_IndexFunc_Age_impl_AgeAt_1_0 (l.map ageC) ((0 : Nat) : Int) id) (fun u st => AftF C slices_IndexFunc_Age pRLRB u st fun r fs => r = vI (ageAt l id) ∧ fs = []) := by
    refine idx_walk l (fun i => idxF (fun a : Age => decide (a.id = id)) (l.drop i) (i : Int) = idxF (fun a : Age => decide (a.id = id)) l 0 → LoopG C slices_IndexFunc_Age pRLRB 4 0 (s_slices_IndexFunc_Age_impl_AgeAt_1_0 (l.map ageC) i id) _) ?_ ?_
    · intro h0
      refine r_slices_IndexFunc_Age_impl_AgeAt_1_0 _ _ _ _ (brB_no (by simp) (a_slices_IndexFunc_Age_impl_AgeAt_1_2 _ _ _ _ _ _ ?_))
      rw [List.drop_length] at h0
      simp only [idxF] at h0
      change _ = vI (idxF (fun a : Age => decide (a.id = id)) l 0) ∧ _
      rw [← h0]
      exact ⟨rfl, by first | rfl | trivial⟩
    · intro i a hi ha hd htk hn h0
      refine r_slices_IndexFunc_Age_impl_AgeAt_1_0 _ _ _ _ (brB_yes (by simp; omega) ?_)
      rw [hd] at h0
      simp only [idxF] at h0
      simp only [ex_age, eqI_eq, c_impl_AgeAt_1, brB_dec, getZ_nat, ha, Option.some.injEq, exists_eq_left', exists_eq_left, brB_not, brB_and, brB_or, key_eta, age_eta, cell_eta, vol_eta, map_eta, op_eta, succ_len, natAdd, List.length_map, List.length_append, List.length_singleton, Bool.true_and, Bool.and_true]
      rw [addW_eq (by omega)]
      split at h0
      · rename_i hp
        have hp := of_decide_eq_true hp
        first | rw [if_pos hp] | rw [if_pos hp.symm]
        refine a_slices_IndexFunc_Age_impl_AgeAt_1_1 _ _ _ ?_
        rw [h0]
        exact ⟨rfl, by first | rfl | trivial⟩
      · rename_i hp
        have hp : ¬ _ := fun h => hp (decide_eq_true h)
        first | rw [if_neg hp] | rw [if_neg (fun h => hp h.symm)]
        exact hn h0
  exact key rfl
theorem run_impl_AgeAt (l : List Age) (id : Int) (hl : l.length ≤ 1073741824) : RunF C impl_AgeAt [vAges l, vI id] (vI (ageAt l id)) [] := (f_impl_AgeAt _ _ _ ⟨_, run_idx_AgeAt l id hl, rfl, by first | rfl | trivial⟩).run
theorem run_spec_PathOf (l : List Age) (id : Int) (hl : l.length ≤ 1073741824) : RunF C spec_PathOf [vAges l, vI id] (vInts (pathOf l id)) [] := by
  refine (f_spec_PathOf _ _ _ ⟨_, run_spec_AgeAt l id hl, ?_⟩).run
  have key : ∀ (n : Nat) (id' : Int) (acc : List Int), acc.length + n = l.length + 1 → acc ++ pathF l n id' = pathOf l id → LoopG C spec_PathOf pRRRLB 4 0 (s_spec_PathOf_0 (l.map ageC) (ageAt l id') (acc.map intC)) (fun u st => AftF C spec_PathOf pRRRLB u st fun r fs => r = vInts (pathOf l id) ∧ fs = []) := by
    intro n
    induction n with
    | zero =>
      intro id' acc h0 h1
      simp only [pathF, List.append_nil] at h1
      refine r_spec_PathOf_0 _ _ _ _ (brB_both (fun _ => ?_) fun _ => a_spec_PathOf_2 _ _ _ _ (by rw [h1]; exact ⟨rfl, by first | rfl | trivial⟩))
      exact brB_no (by simp; omega) (a_spec_PathOf_1 _ _ _ _ _ (by rw [h1]; exact ⟨rfl, by first | rfl | trivial⟩))
    | succ n ih =>
      intro id' acc h0 h1
      simp only [pathF] at h1
      by_cases h : ageAt l id' < 0
      · rw [if_pos h, List.append_nil] at h1
        exact r_spec_PathOf_0 _ _ _ _ (brB_no (by simp; omega) (a_spec_PathOf_2 _ _ _ _ (by rw [h1]; exact ⟨rfl, by first | rfl | trivial⟩)))
      · rw [if_neg h] at h1
        obtain ⟨a, ha, he⟩ := ageAt_get l id' h
        rw [ha] at h1
        refine r_spec_PathOf_0 _ _ _ _ (brB_yes (by simp; omega) (brB_yes (by simp; omega) ?_))
        simp only [ex_age, ha, Option.some.injEq, exists_eq_left', allSc1, Bool.true_and, succ_len, List.length_map]
        rw [fitsT (by omega)]
        refine brB_yes rfl ⟨_, run_spec_AgeAt l a.fr hl, ?_⟩
        rw [app_int]
        exact ih a.fr (acc ++ [a.id]) (by simp; omega) (by rw [← h1, he]; simp)
  exact key (l.length + 1) id [] (by simp) rfl
theorem run_impl_PathOf (l : List Age) (id : Int) (hl : l.length ≤ 1073741824) : RunF C impl_PathOf [vAges l, vI id] (vInts (pathOf l id)) [] := by
  refine (f_impl_PathOf _ _ _ ?_).run
  have key : ∀ (n : Nat) (id' : Int) (acc : List Int) (k : Nat), k + n = l.length + 1 → acc.length = k → acc ++ pathF l n id' = pathOf l id → LoopG C impl_PathOf pRRLRB 4 0 (s_impl_PathOf_0 (l.map ageC) id' k (acc.map intC)) (fun u st => AftF C impl_PathOf pRRLRB u st fun r fs => r = vInts (pathOf l id) ∧ fs = []) := by
    intro n
    induction n with
    | zero =>
      intro id' acc k h0 h2 h1
      simp only [pathF, List.append_nil] at h1
      refine r_impl_PathOf_0 _ _ _ _ _ (brB_no ?_ (a_impl_PathOf_2 _ _ _ _ _ _ _ (by rw [h1]; exact ⟨rfl, by first | rfl | trivial⟩)))
      rw [addW_eq (by simp; omega)]; simp; omega
    | succ n ih =>
      intro id' acc k h0 h2 h1
      simp only [pathF] at h1
      refine r_impl_PathOf_0 _ _ _ _ _ (brB_yes (by rw [addW_eq (by simp; omega)]; simp; omega) ⟨_, run_impl_AgeAt l id' hl, ?_⟩)
      by_cases h : ageAt l id' < 0
      · rw [if_pos h, List.append_nil] at h1
        exact brB_yes (by simp; omega) (a_impl_PathOf_1 _ _ _ _ _ _ _ _ (by rw [h1]; exact ⟨rfl, by first | rfl | trivial⟩))
      · rw [if_neg h] at h1
        obtain ⟨a, ha, he⟩ := ageAt_get l id' h
        rw [ha] at h1
        refine brB_no (by simp; omega) ?_
        simp only [ex_age, ha, Option.some.injEq, exists_eq_left', allSc1, Bool.true_and, succ_len, List.length_map]
        rw [fitsT (by omega)]
        refine brB_yes rfl ?_
        rw [app_int, addW_eq (by omega)]
        exact ih a.fr (acc ++ [id']) (k + 1) (by omega) (by simp; omega) (by rw [← h1]; simp)
  exact key (l.length + 1) id [] 0 (by simp) rfl rfl
theorem run_spec_l7Has (l : List Int) (n : Int) (hl : l.length ≤ 1073741824) : RunF C spec_l7Has [vInts l, vI n] (vB (hasI l n)) [] := by
  refine (f_spec_l7Has _ _ _ ?_).run
  have key : (l.drop 0).any (fun a : Int => decide (a = n)) = l.any (fun a : Int => decide (a = n)) → LoopG C spec_l7Has pRLRB 4 0 (s_spec_l7Has_0 (l.map intC) n ((0 : Nat) : Int)) (fun u st => AftF C spec_l7Has pRLRB u st fun r fs => r = vB (hasI l n) ∧ fs = []) := by
    refine idx_walk l (fun i => (l.drop i).any (fun a : Int => decide (a = n)) = l.any (fun a : Int => decide (a = n)) → LoopG C spec_l7Has pRLRB 4 0 (s_spec_l7Has_0 (l.map intC) n i) _) ?_ ?_
    · intro h0
      refine r_spec_l7Has_0 _ _ _ _ (brB_no (by simp) (a_spec_l7Has_2 _ _ _ _ _ ?_))
      rw [List.drop_length] at h0
      simp only [List.any_nil] at h0
      show _ = vB (hasI l n) ∧ _
      first | unfold hasI | unfold idleB | skip
      rw [← h0]
      exact ⟨rfl, by first | rfl | trivial⟩
    · intro i a hi ha hd htk hn h0
      refine r_spec_l7Has_0 _ _ _ _ (brB_yes (by simp; omega) ?_)
      rw [hd] at h0
      simp only [List.any_cons] at h0
      simp only [ex_int, eqI_eq, brB_dec, getZ_nat, ha, Option.some.injEq, exists_eq_left', exists_eq_left, brB_not, brB_and, brB_or, key_eta, age_eta, cell_eta, vol_eta, map_eta, op_eta, succ_len, natAdd, List.length_map, List.length_append, List.length_singleton, Bool.true_and, Bool.and_true]
      rw [addW_eq (by omega)]
      split
      · rename_i hp
        refine a_spec_l7Has_1 _ ?_
        have e : l.any (fun a : Int => decide (a = n)) = true := by rw [← h0]; simp [hp]
        first | unfold hasI | unfold idleB | skip
        rw [e]
        exact ⟨rfl, by first | rfl | trivial⟩
      · rename_i hp
        exact hn (by simpa [hp] using h0)
  exact key rfl
theorem run_idx_int (l : List Int) (n : Int) (hl : l.length ≤ 1073741824) : RunF C slices_Index_int [vInts l, vI n] (vI (idxF (fun a : Int => decide (a = n)) l 0)) [] := by
  refine (f_slices_Index_int _ _ _ ?_).run
  have key : idxF (fun a : Int => decide (a = n)) (l.drop 0) ((0 : Nat) : Int) = idxF (fun a : Int => decide (a = n)) l 0 → LoopG C slices_Index_int pRLRB 4 0 (s_slices_Index_int_0 (l.map intC) n ((0 : Nat) : Int)) (fun u st => AftF C slices_Index_int pRLRB u st fun r fs => r = vI (idxF (fun a : Int => decide (a = n)) l 0) ∧ fs = []) := by
    refine idx_walk l (fun i => idxF (fun a : Int => decide (a = n)) (l.drop i) (i : Int) = idxF (fun a : Int => decide (a = n)) l 0 → LoopG C slices_Index_int pRLRB 4 0 (s_slices_Index_int_0 (l.map intC) n i) _) ?_ ?_
    · intro h0
      refine r_slices_Index_int_0 _ _ _ _ (brB_no (by simp) (a_slices_Index_int_2 _ _ _ _ _ _ ?_))
      rw [List.drop_length] at h0
      simp only [idxF] at h0
      change _ = vI (idxF (fun a : Int => decide (a = n)) l 0) ∧ _
      rw [← h0]
      exact ⟨rfl, by first | rfl | trivial⟩
    · intro i a hi ha hd htk hn h0
      refine r_slices_Index_int_0 _ _ _ _ (brB_yes (by simp; omega) ?_)
      rw [hd] at h0
      simp only [idxF] at h0
      simp only [ex_int, eqI_eq, brB_dec, getZ_nat, ha, Option.some.injEq, exists_eq_left', exists_eq_left, brB_not, brB_and, brB_or, key_eta, age_eta, cell_eta, vol_eta, map_eta, op_eta, succ_len, natAdd, List.length_map, List.length_append, List.length_singleton, Bool.true_and, Bool.and_true]
      rw [addW_eq (by omega)]
      split at h0
      · rename_i hp
        have hp := of_decide_eq_true hp
        first | rw [if_pos hp] | rw [if_pos hp.symm]
        refine a_slices_Index_int_1 _ _ ?_
        rw [h0]
        exact ⟨rfl, by first | rfl | trivial⟩
      · rename_i hp
        have hp : ¬ _ := fun h => hp (decide_eq_true h)
        first | rw [if_neg hp] | rw [if_neg (fun h => hp h.symm)]
        exact hn h0
  exact key rfl
theorem run_Contains (l : List Int) (n : Int) (hl : l.length ≤ 1073741824) : RunF C slices_Contains_int [vInts l, vI n] (vB (hasI l n)) [] := by
  refine (f_slices_Contains_int _ _ _ ⟨_, run_idx_int l n hl, ?_⟩).run
  rw [leI_eq, idxF_any _ _ _ (by omega)]
  exact ⟨rfl, by first | rfl | trivial⟩
theorem run_spec_l8Near (t : Tree) (b : Int) (path : List Int) (hl : szTree t ≤ 1073741824) (hp : path.length ≤ 1073741824) : RunF C spec_l8Near [vTree t, vI b, vInts path] (tKB (near (keysOf t b) path)) [] := by
  refine (f_spec_l8Near _ _ _ _ _ ?_).run
  refine ⟨_, run_spec_KeysOf t b hl, ?_⟩
  have key : ∀ (pr : Key × Bool), ((keysOf t b).drop 0).foldl (nearF path) pr = near (keysOf t b) path → LoopG C spec_l8Near pRRRRLRB 4 0 (s_spec_l8Near_0 (path.map intC) pr.2 ((0 : Nat) : Int) pr.1.b pr.1.a pr.1.k pr.1.c pr.1.g ((keysOf t b).map keyC)) (fun u st => AftF C spec_l8Near pRRRRLRB u st fun r fs => r = (tKB (near (keysOf t b) path)) ∧ fs = []) := by
    refine idx_walk (keysOf t b) (fun i => ∀ (pr : Key × Bool), ((keysOf t b).drop i).foldl (nearF path) pr = near (keysOf t b) path → LoopG C spec_l8Near pRRRRLRB 4 0 (s_spec_l8Near_0 (path.map intC) pr.2 i pr.1.b pr.1.a pr.1.k pr.1.c pr.1.g ((keysOf t b).map keyC)) (fun u st => AftF C spec_l8Near pRRRRLRB u st fun r fs => r = (tKB (near (keysOf t b) path)) ∧ fs = [])) ?_ ?_
    · intro pr h0
      refine r_spec_l8Near_0 _ _ _ _ _ _ _ _ _ _ (brB_no (by simp) (a_spec_l8Near_1 _ _ _ _ _ _ _ _ _ _ _ ?_))
      rw [List.drop_length] at h0
      simp only [List.foldl_nil] at h0
      rw [h0]
      exact ⟨rfl, by first | rfl | trivial⟩
    · intro i a hi ha hd ht hn pr h0
      have hk := keysOf_len t b
      have hz := treeKeys_len t
      refine r_spec_l8Near_0 _ _ _ _ _ _ _ _ _ _ (brB_yes (by simp; omega) ?_)
      rw [hd] at h0
      simp only [List.foldl_cons] at h0
      obtain ⟨bk, bf⟩ := pr
      have hh : ∀ q, RunF C spec_l7Has [vInts path, vI a.a] (vB q) [] ↔ q = hasI path a.a := fun q => iffB (run_spec_l7Has path a.a hp)
      simp only [ex_key, hh, ltI_eq, brB_dec, getZ_nat, ha, Option.some.injEq, exists_eq_left', exists_eq_left, brB_not, brB_and, brB_or, key_eta, age_eta, cell_eta, vol_eta, map_eta, op_eta, succ_len, natAdd, List.length_map, List.length_append, List.length_singleton, Bool.true_and, Bool.and_true]
      rw [addW_eq (by omega)]
      have e : nearF path (bk, bf) a = if hasI path a.a && (!bf || decide (bk.a < a.a)) then (a, true) else (bk, bf) := rfl
      rw [e] at h0
      cases h1 : hasI path a.a <;> cases bf <;> by_cases h2 : bk.a < a.a <;> simp [h1, h2] at h0 ⊢ <;> first | exact hn (a, true) h0 | exact hn (bk, false) h0 | exact hn (bk, true) h0
  exact key (zeroKey, false) rfl
theorem run_impl_seenOn (t : Tree) (b : Int) (path : List Int) (hl : szTree t ≤ 1073741824) (hp : path.length ≤ 1073741824) : RunF C impl_seenOn [vTree t, vI b, vInts path] (tKB (near (keysOf t b) path)) [] := by
  refine (f_impl_seenOn _ _ _ _ _ ?_).run
  refine ⟨_, run_impl_KeysOf t b hl, ?_⟩
  have key : ∀ (pr : Key × Bool), ((keysOf t b).drop 0).foldl (nearF path) pr = near (keysOf t b) path → LoopG C impl_seenOn pRRLRB 4 0 (s_impl_seenOn_0 (path.map intC) pr.2 ((keysOf t b).map keyC) ((0 : Nat) : Int) pr.1.b pr.1.a pr.1.k pr.1.c pr.1.g) (fun u st => AftF C impl_seenOn pRRLRB u st fun r fs => r = (tKB (near (keysOf t b) path)) ∧ fs = []) := by
    refine idx_walk (keysOf t b) (fun i => ∀ (pr : Key × Bool), ((keysOf t b).drop i).foldl (nearF path) pr = near (keysOf t b) path → LoopG C impl_seenOn pRRLRB 4 0 (s_impl_seenOn_0 (path.map intC) pr.2 ((keysOf t b).map keyC) i pr.1.b pr.1.a pr.1.k pr.1.c pr.1.g) (fun u st => AftF C impl_seenOn pRRLRB u st fun r fs => r = (tKB (near (keysOf t b) path)) ∧ fs = [])) ?_ ?_
    · intro pr h0
      refine r_impl_seenOn_0 _ _ _ _ _ _ _ _ _ _ (brB_no (by simp) (a_impl_seenOn_1 _ _ _ _ _ _ _ _ _ _ _ _ ?_))
      rw [List.drop_length] at h0
      simp only [List.foldl_nil] at h0
      rw [h0]
      exact ⟨rfl, by first | rfl | trivial⟩
    · intro i a hi ha hd ht hn pr h0
      have hk := keysOf_len t b
      have hz := treeKeys_len t
      refine r_impl_seenOn_0 _ _ _ _ _ _ _ _ _ _ (brB_yes (by simp; omega) ?_)
      rw [hd] at h0
      simp only [List.foldl_cons] at h0
      obtain ⟨bk, bf⟩ := pr
      have hh : ∀ q, RunF C slices_Contains_int [vInts path, vI a.a] (vB q) [] ↔ q = hasI path a.a := fun q => iffB (run_Contains path a.a hp)
      simp only [ex_key, hh, ltI_eq, brB_dec, getZ_nat, ha, Option.some.injEq, exists_eq_left', exists_eq_left, brB_not, brB_and, brB_or, key_eta, age_eta, cell_eta, vol_eta, map_eta, op_eta, succ_len, natAdd, List.length_map, List.length_append, List.length_singleton, Bool.true_and, Bool.and_true]
      rw [addW_eq (by omega)]
      have e : nearF path (bk, bf) a = if hasI path a.a && (!bf || decide (bk.a < a.a)) then (a, true) else (bk, bf) := rfl
      rw [e] at h0
      cases h1 : hasI path a.a <;> cases bf <;> by_cases h2 : bk.a < a.a <;> simp [h1, h2] at h0 ⊢ <;> first | exact hn (a, true) h0 | exact hn (bk, false) h0 | exact hn (bk, true) h0
  exact key (zeroKey, false) rfl
theorem run_spec_CellAt (l : List Cell) (i gen : Int) (hl : l.length ≤ 1073741824) : RunF C spec_CellAt [vCells l, vI i, vI gen] (tIB (cellAt l i gen)) [] := by
  refine (f_spec_CellAt _ _ _ _ ?_).run
  simp only [c_l1In, exists_eq_left, List.length_map, Int.ofNat_eq_natCast, brB_not, ex_cell]
  rw [subW_eq (by omega)]
  by_cases h : 0 ≤ i ∧ i < l.length
  · obtain ⟨a, ha⟩ := getZ_some h.1 h.2
    have e : inB i 0 ((l.length : Int) - 1) = true := decide_eq_true (by omega)
    simp only [e, brB_t, ha, Option.some.injEq, exists_eq_left', eqI_eq, brB_dec, cellAt]
    cases h1 : a.u <;> by_cases h2 : a.g = gen <;> simp [h1, h2]
  · have e : inB i 0 ((l.length : Int) - 1) = false := decide_eq_false (by omega)
    have hn : getZ l i = none := getZ_none h
    simp [e, cellAt, hn]
theorem run_impl_CellAt (l : List Cell) (i gen : Int) (hl : l.length ≤ 1073741824) : RunF C impl_CellAt [vCells l, vI i, vI gen] (tIB (cellAt l i gen)) [] := by
  refine (f_impl_CellAt _ _ _ _ ?_).run
  simp only [c_within, exists_eq_left, List.length_map, Int.ofNat_eq_natCast, brB_not, ex_cell]
  rw [subW_eq (by omega)]
  by_cases h : 0 ≤ i ∧ i < l.length
  · obtain ⟨a, ha⟩ := getZ_some h.1 h.2
    have e : inB i 0 ((l.length : Int) - 1) = true := decide_eq_true (by omega)
    simp only [e, brB_t, ha, Option.some.injEq, exists_eq_left', eqI_eq, brB_dec, cellAt]
    cases h1 : a.u <;> by_cases h2 : a.g = gen <;> simp [h1, h2]
  · have e : inB i 0 ((l.length : Int) - 1) = false := decide_eq_false (by omega)
    have hn : getZ l i = none := getZ_none h
    simp [e, cellAt, hn]
theorem run_spec_Seen (t : Tree) (l : List Age) (b id : Int) (hl : szTree t ≤ 1073741824) (ha : l.length ≤ 1073741823) : RunF C spec_Seen [vTree t, vAges l, vI b, vI id] (tKB (seenK t l b id)) [] := by
  refine (f_spec_Seen _ _ _ _ _ _ ?_).run
  refine ⟨_, run_spec_PathOf l id (by omega), _, _, _, _, _, _, run_spec_l8Near t b _ hl (by have := pathOf_len l id; omega), ?_⟩
  exact ⟨rfl, by first | rfl | trivial⟩
theorem run_impl_Seen (t : Tree) (l : List Age) (b id : Int) (hl : szTree t ≤ 1073741824) (ha : l.length ≤ 1073741823) : RunF C impl_Seen [vTree t, vAges l, vI b, vI id] (tKB (seenK t l b id)) [] := by
  refine (f_impl_Seen _ _ _ _ _ _ ?_).run
  refine ⟨_, run_impl_PathOf l id (by omega), _, _, _, _, _, _, run_impl_seenOn t b _ hl (by have := pathOf_len l id; omega), ?_⟩
  exact ⟨rfl, by first | rfl | trivial⟩
theorem run_spec_BlockOf (p : Pool) (hS : szPool p ≤ 1048576) (i b : Int) (v : Vol) (hv : getZ p.vols i = some v) (hb : 0 ≤ b ∧ b < v.size) (hm : v.size ≤ 9223372036854775807) : RunF C spec_BlockOf [vPool p, vI i, vI b] (vI (blockOf p i b)) [] := by
  have hP := poolS_of hS
  have hi : 0 ≤ i ∧ i < p.vols.length := by
    apply Classical.byContradiction
    intro hn
    rw [getZ_none hn] at hv
    cases hv
  have hq : blockOf p i b = if (seenK p.t p.ages b v.age).2 = true ∧ (seenK p.t p.ages b v.age).1.k = 1 then (cellAt p.cells (seenK p.t p.ages b v.age).1.c (seenK p.t p.ages b v.age).1.g).1 else 0 := by
    unfold blockOf; rw [hv]; exact if_pos hb
  have inT : inB i 0 (subW (Int.ofNat (p.vols.map volC).length) 1) = true := by
    rw [subW_eq (by simp; omega)]; simp [inB]; omega
  have inT2 : inB b 0 (subW v.size 1) = true := by
    rw [subW_eq (by omega)]; simp [inB]; omega
  refine (f_spec_BlockOf _ _ _ _ _ _ _ _ _ ?_).run
  refine ⟨_, run_l1In _ _ _, brB_no (by rw [inT]; rfl) (brB_no (by simp; omega) ?_)⟩
  simp only [ex_vol, hv, Option.some.injEq, exists_eq_left']
  refine brB_no (by simp; omega) ?_
  refine ⟨(vI (blockOf p i b), []), ?_, ?_, ⟨rfl, by first | rfl | trivial⟩⟩
  · refine ⟨_, _, _, _, _, _, run_spec_Seen p.t p.ages b v.age (by omega) (by omega), ?_⟩
    cases h1 : (seenK p.t p.ages b v.age).2 with
    | false => exact brB_yes rfl (by rw [hq]; simp [h1])
    | true =>
      refine brB_no rfl ?_
      by_cases h2 : (seenK p.t p.ages b v.age).1.k = 1
      · exact brB_no (by simp [h2]) ⟨_, _, run_spec_CellAt p.cells _ _ (by omega), by rw [hq, if_pos ⟨h1, h2⟩]⟩
      · exact brB_yes (by simp [h2]) (by rw [hq, if_neg (fun h => h2 h.2)])
  · refine ⟨_, _, _, _, _, _, run_spec_Seen p.t p.ages b v.age (by omega) (by omega), ?_⟩
    cases h1 : (seenK p.t p.ages b v.age).2 with
    | false => exact brB_yes rfl (by rw [hq]; simp [h1])
    | true =>
      refine brB_no rfl ?_
      by_cases h2 : (seenK p.t p.ages b v.age).1.k = 1
      · exact brB_no (by simp [h2]) ⟨_, _, run_spec_CellAt p.cells _ _ (by omega), by rw [hq, if_pos ⟨h1, h2⟩]⟩
      · exact brB_yes (by simp [h2]) (by rw [hq, if_neg (fun h => h2 h.2)])
theorem run_spec_MapsOf (p : Pool) (hS : szPool p ≤ 1048576) (hz : ∀ v ∈ p.vols, v.size ≤ 9223372036854775807) : RunF C spec_MapsOf [vPool p] (vMaps (mapsOf p)) [] := by
  have hP := poolS_of hS
  refine (f_spec_MapsOf _ _ _ _ _ _ _ ?_).run
  have key : ∀ acc : List Mp, acc ++ mapsFrom p 0 (p.vols.drop 0) = mapsOf p → LoopG C spec_MapsOf pRRLRB 4 0 (s_spec_MapsOf_0 ((0 : Nat) : Int) (p.t.lows.map intC) (p.t.nodes.map nodeC) (p.ages.map ageC) (p.cells.map cellC) (p.vols.map volC) p.next (acc.map mapC)) (fun u st => AftF C spec_MapsOf pRRLRB u st fun r fs => r = vMaps (mapsOf p) ∧ fs = []) := by
    refine idx_walk p.vols (fun i => ∀ acc : List Mp, acc ++ mapsFrom p i (p.vols.drop i) = mapsOf p → LoopG C spec_MapsOf pRRLRB 4 0 (s_spec_MapsOf_0 i (p.t.lows.map intC) (p.t.nodes.map nodeC) (p.ages.map ageC) (p.cells.map cellC) (p.vols.map volC) p.next (acc.map mapC)) (fun u st => AftF C spec_MapsOf pRRLRB u st fun r fs => r = vMaps (mapsOf p) ∧ fs = [])) ?_ ?_
    · intro acc h0
      rw [List.drop_length] at h0
      simp only [mapsFrom, List.append_nil] at h0
      subst h0
      exact r_spec_MapsOf_0 _ _ _ _ _ _ _ _ _ (brB_no (by simp) (a_spec_MapsOf_2 _ _ _ _ _ _ _ _ _ _ ⟨rfl, by first | rfl | trivial⟩))
    · intro i v hi hv hd htk hn acc h0
      rw [hd] at h0
      simp only [mapsFrom] at h0
      have hzv := hz v (List.mem_of_getElem? hv)
      have hal : acc.length + (mapsFrom p (i + 1) (p.vols.drop (i + 1))).length + 1 = p.vols.length := by
        have := congrArg List.length h0
        rw [mapsOf_len, List.length_append, List.length_cons] at this
        omega
      have hgo : LoopG C spec_MapsOf pRRLRB 4 0 (s_spec_MapsOf_0 ((i : Int) + 1) (p.t.lows.map intC) (p.t.nodes.map nodeC) (p.ages.map ageC) (p.cells.map cellC) (p.vols.map volC) p.next ((acc ++ [mapRow p i v]).map mapC)) (fun u st => AftF C spec_MapsOf pRRLRB u st fun r fs => r = vMaps (mapsOf p) ∧ fs = []) := hn (acc ++ [mapRow p i v]) (by rw [List.append_assoc]; exact h0)
      have hblk : ∀ k : Nat, (k : Int) < v.size → RunF C spec_BlockOf [vPool p, vI i, vI k] (vI (blockOf p i k)) [] := fun k hk => run_spec_BlockOf p hS i k v (by rw [getZ_nat]; exact hv) (by omega) hzv
      have hst : ∀ m k : Nat, k + m = min v.size.toNat 12 → 1 ≤ k → LoopG C spec_MapsOf pRRLRBBRLBRLRB 3 2 (s_spec_MapsOf_3 i k (p.t.lows.map intC) (p.t.nodes.map nodeC) (p.ages.map ageC) (p.cells.map cellC) (p.vols.map volC) p.next v.name v.fx (acc.map mapC) ((blocks p i k).map intC)) (fun u st => AftL C spec_MapsOf pRRLRB 4 0 pRLBRLRB u st (fun u st => AftF C spec_MapsOf pRRLRB u st fun r fs => r = vMaps (mapsOf p) ∧ fs = [])) := by
        intro m
        induction m with
        | zero =>
          intro k hk h1
          have e : mapRow p i v = ⟨v.name, v.fx, blocks p i k⟩ := by rw [Nat.add_zero] at hk; rw [hk]; rfl
          rw [e] at hgo
          refine r_spec_MapsOf_3 _ _ _ _ _ _ _ _ _ _ _ _ _ ?_
          simp only [ex_vol, getZ_nat, hv, Option.some.injEq, exists_eq_left']
          by_cases h2 : (k : Int) < v.size
          · refine brB_yes (by simp; omega) (brB_no (by simp; omega) (a_spec_MapsOf_6 _ _ _ _ _ _ _ _ _ _ _ _ _ (brB_yes (fitsT (by simp; omega)) ?_)))
            rw [addW_eq (by omega), app_map]
            exact hgo
          · refine brB_no (by simp; omega) (a_spec_MapsOf_7 _ _ _ _ _ _ _ _ _ _ _ _ _ (brB_yes (fitsT (by simp; omega)) ?_))
            rw [addW_eq (by omega), app_map]
            exact hgo
        | succ m ih =>
          intro k hk h1
          refine r_spec_MapsOf_3 _ _ _ _ _ _ _ _ _ _ _ _ _ ?_
          simp only [ex_vol, getZ_nat, hv, Option.some.injEq, exists_eq_left']
          refine brB_yes (by simp; omega) (brB_yes (by simp; omega) ⟨_, hblk k (by omega), brB_yes ?_ ?_⟩)
          · rw [fitsT (by simp [blocks_len]; omega), allSc1]; rfl
          · rw [addW_eq (by omega), app_int, ← blocks_succ]
            exact ih (k + 1) (by omega) (by omega)
      refine r_spec_MapsOf_0 _ _ _ _ _ _ _ _ _ (brB_yes (by simp; omega) ?_)
      simp only [ex_vol, getZ_nat, hv, Option.some.injEq, exists_eq_left']
      refine r_spec_MapsOf_1 _ _ _ _ _ _ _ _ _ _ _ ?_
      simp only [ex_vol, getZ_nat, hv, Option.some.injEq, exists_eq_left']
      by_cases h2 : 0 < v.size
      · refine brB_yes (by simp; omega) (brB_yes (by simp) ⟨_, hblk 0 (by omega), brB_yes ?_ ?_⟩)
        · rw [fitsT (by omega), allSc1]; rfl
        · have h3 := hst (min v.size.toNat 12 - 1) 1 (by omega) (by omega)
          rw [addW_eq (by omega)]
          exact h3
      · have e : mapRow p i v = ⟨v.name, v.fx, []⟩ := by
          have : min v.size.toNat 12 = 0 := by omega
          unfold mapRow; rw [this]; rfl
        rw [e] at hgo
        refine brB_no (by simp; omega) (a_spec_MapsOf_5 _ _ _ _ _ _ _ _ _ _ _ (brB_yes (fitsT (by simp; omega)) ?_))
        rw [addW_eq (by omega)]
        have e2 : List.append (acc.map mapC) [[iS v.name, iB v.fx, TC.sub 1 []]] = (acc ++ [(⟨v.name, v.fx, []⟩ : Mp)]).map mapC := app_map (r := [])
        rw [e2]
        exact hgo
  exact key [] rfl
theorem run_impl_BlockOf (p : Pool) (hS : szPool p ≤ 1048576) (i b : Int) (v : Vol) (hv : getZ p.vols i = some v) (hb : 0 ≤ b ∧ b < v.size) (hm : v.size ≤ 9223372036854775807) : RunF C impl_BlockOf [vPool p, vI i, vI b] (vI (blockOf p i b)) [] := by
  have hP := poolS_of hS
  have hi : 0 ≤ i ∧ i < p.vols.length := by
    apply Classical.byContradiction
    intro hn
    rw [getZ_none hn] at hv
    cases hv
  have hq : blockOf p i b = if (seenK p.t p.ages b v.age).2 = true ∧ (seenK p.t p.ages b v.age).1.k = 1 then (cellAt p.cells (seenK p.t p.ages b v.age).1.c (seenK p.t p.ages b v.age).1.g).1 else 0 := by
    unfold blockOf; rw [hv]; exact if_pos hb
  have inT : inB i 0 (subW (Int.ofNat (p.vols.map volC).length) 1) = true := by
    rw [subW_eq (by simp; omega)]; simp [inB]; omega
  have inT2 : inB b 0 (subW v.size 1) = true := by
    rw [subW_eq (by omega)]; simp [inB]; omega
  refine (f_impl_BlockOf _ _ _ _ _ _ _ _ _ ?_).run
  refine ⟨_, run_within _ _ _, brB_no (by rw [inT]; rfl) ?_⟩
  simp only [ex_vol, hv, Option.some.injEq, exists_eq_left']
  refine ⟨_, run_within _ _ _, brB_no (by rw [inT2]; rfl) ?_⟩
  refine ⟨(vI (blockOf p i b), []), ?_, ?_, ⟨rfl, by first | rfl | trivial⟩⟩
  · refine ⟨_, _, _, _, _, _, run_impl_Seen p.t p.ages b v.age (by omega) (by omega), ?_⟩
    cases h1 : (seenK p.t p.ages b v.age).2 with
    | false => exact brB_yes rfl (by rw [hq]; simp [h1])
    | true =>
      refine brB_no rfl ?_
      by_cases h2 : (seenK p.t p.ages b v.age).1.k = 1
      · exact brB_no (by simp [h2]) ⟨_, _, run_impl_CellAt p.cells _ _ (by omega), by rw [hq, if_pos ⟨h1, h2⟩]⟩
      · exact brB_yes (by simp [h2]) (by rw [hq, if_neg (fun h => h2 h.2)])
  · refine ⟨_, _, _, _, _, _, run_impl_Seen p.t p.ages b v.age (by omega) (by omega), ?_⟩
    cases h1 : (seenK p.t p.ages b v.age).2 with
    | false => exact brB_yes rfl (by rw [hq]; simp [h1])
    | true =>
      refine brB_no rfl ?_
      by_cases h2 : (seenK p.t p.ages b v.age).1.k = 1
      · exact brB_no (by simp [h2]) ⟨_, _, run_impl_CellAt p.cells _ _ (by omega), by rw [hq, if_pos ⟨h1, h2⟩]⟩
      · exact brB_yes (by simp [h2]) (by rw [hq, if_neg (fun h => h2 h.2)])
theorem run_impl_MapsOf (p : Pool) (hS : szPool p ≤ 1048576) (hz : ∀ v ∈ p.vols, v.size ≤ 9223372036854775807) : RunF C impl_MapsOf [vPool p] (vMaps (mapsOf p)) [] := by
  have hP := poolS_of hS
  refine (f_impl_MapsOf _ _ _ _ _ _ _ ?_).run
  have key : ∀ acc : List Mp, acc ++ mapsFrom p 0 (p.vols.drop 0) = mapsOf p → LoopG C impl_MapsOf pRRLRB 4 0 (s_impl_MapsOf_0 (p.vols.map volC) (Int.ofNat (p.vols.map volC).length) ((0 : Nat) : Int) (p.t.lows.map intC) (p.t.nodes.map nodeC) (p.ages.map ageC) (p.cells.map cellC) p.next (acc.map mapC)) (fun u st => AftF C impl_MapsOf pRRLRB u st fun r fs => r = vMaps (mapsOf p) ∧ fs = []) := by
    refine idx_walk p.vols (fun i => ∀ acc : List Mp, acc ++ mapsFrom p i (p.vols.drop i) = mapsOf p → LoopG C impl_MapsOf pRRLRB 4 0 (s_impl_MapsOf_0 (p.vols.map volC) (Int.ofNat (p.vols.map volC).length) i (p.t.lows.map intC) (p.t.nodes.map nodeC) (p.ages.map ageC) (p.cells.map cellC) p.next (acc.map mapC)) (fun u st => AftF C impl_MapsOf pRRLRB u st fun r fs => r = vMaps (mapsOf p) ∧ fs = [])) ?_ ?_
    · intro acc h0
      rw [List.drop_length] at h0
      simp only [mapsFrom, List.append_nil] at h0
      subst h0
      exact r_impl_MapsOf_0 _ _ _ _ _ _ _ _ _ _ (brB_no (by simp) (a_impl_MapsOf_2 _ _ _ _ _ _ _ _ _ _ _ ⟨rfl, by first | rfl | trivial⟩))
    · intro i v hi hv hd htk hn acc h0
      rw [hd] at h0
      simp only [mapsFrom] at h0
      have hzv := hz v (List.mem_of_getElem? hv)
      have hal : acc.length + (mapsFrom p (i + 1) (p.vols.drop (i + 1))).length + 1 = p.vols.length := by
        have := congrArg List.length h0
        rw [mapsOf_len, List.length_append, List.length_cons] at this
        omega
      have hgo : LoopG C impl_MapsOf pRRLRB 4 0 (s_impl_MapsOf_0 (p.vols.map volC) (Int.ofNat (p.vols.map volC).length) ((i : Int) + 1) (p.t.lows.map intC) (p.t.nodes.map nodeC) (p.ages.map ageC) (p.cells.map cellC) p.next ((acc ++ [mapRow p i v]).map mapC)) (fun u st => AftF C impl_MapsOf pRRLRB u st fun r fs => r = vMaps (mapsOf p) ∧ fs = []) := hn (acc ++ [mapRow p i v]) (by rw [List.append_assoc]; exact h0)
      have hblk : ∀ k : Nat, (k : Int) < v.size → RunF C impl_BlockOf [vPool p, vI i, vI k] (vI (blockOf p i k)) [] := fun k hk => run_impl_BlockOf p hS i k v (by rw [getZ_nat]; exact hv) (by omega) hzv
      have hst : ∀ m k : Nat, k + m = min v.size.toNat 12 → 1 ≤ k → LoopG C impl_MapsOf pRRLRBBRRLBRRLRB 3 2 (s_impl_MapsOf_3 i k (p.vols.map volC) (Int.ofNat (p.vols.map volC).length) (p.t.lows.map intC) (p.t.nodes.map nodeC) (p.ages.map ageC) (p.cells.map cellC) p.next v.name v.age v.size v.fx (acc.map mapC) ((blocks p i k).map intC)) (fun u st => AftL C impl_MapsOf pRRLRB 4 0 pRRLBRRLRB u st (fun u st => AftF C impl_MapsOf pRRLRB u st fun r fs => r = vMaps (mapsOf p) ∧ fs = [])) := by
        intro m
        induction m with
        | zero =>
          intro k hk h1
          have e : mapRow p i v = ⟨v.name, v.fx, blocks p i k⟩ := by rw [Nat.add_zero] at hk; rw [hk]; rfl
          rw [e] at hgo
          refine r_impl_MapsOf_3 _ _ _ _ _ _ _ _ _ _ _ _ _ _ _ _ ?_
          by_cases h2 : (k : Int) < v.size
          · refine brB_yes (by simp; omega) (brB_no (by simp; omega) (a_impl_MapsOf_6 _ _ _ _ _ _ _ _ _ _ _ _ _ _ _ _ (brB_yes (fitsT (by simp; omega)) ?_)))
            rw [addW_eq (by omega), app_map]
            exact hgo
          · refine brB_no (by simp; omega) (a_impl_MapsOf_7 _ _ _ _ _ _ _ _ _ _ _ _ _ _ _ _ (brB_yes (fitsT (by simp; omega)) ?_))
            rw [addW_eq (by omega), app_map]
            exact hgo
        | succ m ih =>
          intro k hk h1
          refine r_impl_MapsOf_3 _ _ _ _ _ _ _ _ _ _ _ _ _ _ _ _ ?_
          refine brB_yes (by simp; omega) (brB_yes (by simp; omega) ⟨_, hblk k (by omega), brB_yes ?_ ?_⟩)
          · rw [fitsT (by simp [blocks_len]; omega), allSc1]; rfl
          · rw [addW_eq (by omega), app_int, ← blocks_succ]
            exact ih (k + 1) (by omega) (by omega)
      refine r_impl_MapsOf_0 _ _ _ _ _ _ _ _ _ _ (brB_yes (by simp; omega) ?_)
      simp only [ex_vol, getZ_nat, hv, Option.some.injEq, exists_eq_left']
      refine r_impl_MapsOf_1 _ _ _ _ _ _ _ _ _ _ _ _ _ _ ?_
      by_cases h2 : 0 < v.size
      · refine brB_yes (by simp; omega) (brB_yes (by simp) ⟨_, hblk 0 (by omega), brB_yes ?_ ?_⟩)
        · rw [fitsT (by omega), allSc1]; rfl
        · have h3 := hst (min v.size.toNat 12 - 1) 1 (by omega) (by omega)
          rw [addW_eq (by omega)]
          exact h3
      · have e : mapRow p i v = ⟨v.name, v.fx, []⟩ := by
          have : min v.size.toNat 12 = 0 := by omega
          unfold mapRow; rw [this]; rfl
        rw [e] at hgo
        refine brB_no (by simp; omega) (a_impl_MapsOf_5 _ _ _ _ _ _ _ _ _ _ _ _ _ _ (brB_yes (fitsT (by simp; omega)) ?_))
        rw [addW_eq (by omega)]
        have e2 : List.append (acc.map mapC) [[iS v.name, iB v.fx, TC.sub 1 []]] = (acc ++ [(⟨v.name, v.fx, []⟩ : Mp)]).map mapC := app_map (r := [])
        rw [e2]
        exact hgo
  exact key [] rfl
theorem eqI30 : eqI 3 0 = false := by simp
theorem eqI100 : eqI 10 0 = false := by simp
def mTextF : Nat → Int → ByteArray → ByteArray
  | 0, _, out => out
  | n + 1, k, out => if k ≤ 0 then out else mTextF n (quoI .i64 k 10) (catS (strOf [wrapI .u8 (48 + remI k 10)]) out)
def mText (k : Int) : ByteArray := if k ≤ 0 then ⟨#[109, 48]⟩ else catS ⟨#[109]⟩ (mTextF 19 k bs0)
attribute [local semireducible] byteRows strOf catS in
theorem byteRows1 (n : Int) : byteRows [[TC.sc (.int .u8 n)]] = some [n] := rfl
attribute [local semireducible] strOf in
theorem strOf1 (n : Int) : (strOf [n]).size = 1 := rfl
attribute [local semireducible] catS in
theorem catS_size (a b : ByteArray) : (catS a b).size = a.size + b.size := by show (a ++ b).size = _; simp
attribute [local semireducible] quoI in
theorem quoI_eq {a b : Int} (h0 : 0 ≤ a) (h1 : a ≤ 9223372036854775807) : quoI .i64 a 10 = a / 10 := by
  show IntKind.i64.wrap (a.tdiv 10) = _
  rw [Int.tdiv_eq_ediv_of_nonneg h0]
  exact IntWalk.i64_in _ (by omega)
theorem mTextF_neg (n : Nat) (k : Int) (out : ByteArray) (h : k ≤ 0) : mTextF n k out = out := by cases n <;> simp [mTextF, h]
theorem run_markText (k : Int) (hk : k ≤ 2305843009213693952) : RunF C laws_markText [vI k] (vS (mText k)) [] := by
  refine (f_laws_markText _ _ ?_).run
  unfold mText
  simp only [leI_eq, brB_dec]
  by_cases h : k ≤ 0
  · rw [if_pos h, if_pos h]; exact ⟨rfl, by first | rfl | trivial⟩
  · rw [if_neg h, if_neg h]
    have key : ∀ (F : ByteArray) (n : Nat) (k' : Int) (out : ByteArray), k' < 10 ^ n → k' ≤ 2305843009213693952 → out.size + n ≤ 100 → mTextF n k' out = F → LoopG C laws_markText pRRRLB 4 0 (s_laws_markText_0 k' out) (fun u st => AftF C laws_markText pRRRLB u st fun r fs => r = vS (catS ⟨#[109]⟩ F) ∧ fs = []) := by
      intro F n
      induction n with
      | zero =>
        intro k' out h1 h2 h3 h4
        refine r_laws_markText_0 _ _ _ (brB_no (by simp at h1 ⊢; omega) (a_laws_markText_1 _ _ _ _ ?_))
        simp only [mTextF] at h4
        subst h4
        refine brB_yes (fitsT (by simp only [natAdd, strLen]; omega)) ⟨rfl, by first | rfl | trivial⟩
      | succ n ih =>
        intro k' out h1 h2 h3 h4
        by_cases h0 : k' ≤ 0
        · rw [mTextF_neg _ _ _ h0] at h4
          subst h4
          exact r_laws_markText_0 _ _ _ (brB_no (by simp; omega) (a_laws_markText_1 _ _ _ _ (brB_yes (fitsT (by simp only [natAdd, strLen]; omega)) ⟨rfl, by first | rfl | trivial⟩)))
        · simp only [mTextF, if_neg h0] at h4
          have hr : 0 ≤ remI k' 10 ∧ remI k' 10 ≤ 9 := by rw [remI_eq, Int.tmod_eq_emod_of_nonneg (by omega)]; omega
          refine r_laws_markText_0 _ _ _ (brB_yes (by simp; omega) (brB_no eqI100 ⟨_, byteRows1 _, brB_yes (fitsT (by simp only [natAdd, strLen, strOf1]; omega)) (brB_no eqI100 ?_)⟩))
          rw [addW_eq (by omega)]
          refine ih _ _ ?_ ?_ ?_ h4
          · rw [quoI_eq (b := 0) (by omega) (by omega)]
            have : (10 : Int) ^ (n + 1) = 10 ^ n * 10 := Int.pow_succ ..
            omega
          · rw [quoI_eq (b := 0) (by omega) (by omega)]; omega
          · rw [catS_size, strOf1]; omega
    exact key _ 19 k bs0 (by rw [show (10 : Int) ^ 19 = 10000000000000000000 from by decide]; omega) hk (by decide) rfl
theorem c_markText (k : Int) (hk : k ≤ 2305843009213693952) (q : ByteArray) : RunF C laws_markText [vI k] (vS q) [] ↔ q = mText k := iffS (run_markText k hk)
def mkInt (_ : Int) (k : Int) : Int := k
def wInt (_ : Int) : Nat := 1
theorem markIntS (l : List (Int)) (k : Int) (h0 : 0 ≤ k) (hk : k + tot wInt l ≤ 2305843009213693952) (hl : l.length ≤ 1099511627776) : RunF C laws_markIntS [vInts l, vI k] (vI (k + tot wInt l)) [vInts (markG mkInt wInt l k)] := by
  refine (f_laws_markIntS _ _ _ ?_).run
  refine mark_loop (e := intC) mkInt wInt (fun k i rows => LoopG C laws_markIntS pRLRB 4 0 (s_laws_markIntS_0 k i rows) _) 2305843009213693952 ?_ l [] k h0 hk (by simpa using hl) ?_
  · intro d a r k h0 hk hd hn
    have hw : wInt a = 1 := rfl
    rw [hw] at hk hn
    refine r_laws_markIntS_0 _ _ _ _ (brB_yes (by simp; omega) ?_)
    simp (disch := omega) only [addW_eq]
    simp only [ex_int, sr_int, getZ_mod, ex_some_map, getZ_mid, Option.some.injEq, exists_eq_left', exists_eq_left, mod_mod, eqI30, brB_f, brB_not]
    rw [mod_mid]
    rw [show (k + 1 : Int) = k + ((1 : Nat) : Int) by omega]
    exact hn
  · refine r_laws_markIntS_0 _ _ _ _ (brB_no (by simp [markG_len]) (a_laws_markIntS_1 _ _ _ _ _ ⟨rfl, by first | rfl | trivial⟩))
theorem heldIntS (l : List (Int)) (k : Int) (h0 : 0 ≤ k) (hk : k + tot wInt l ≤ 2305843009213693952) (hl : l.length ≤ 1099511627776) : RunF C laws_heldIntS [vInts (markG mkInt wInt l k), vI k] (vI (k + tot wInt l)) [] := by
  refine (f_laws_heldIntS _ _ _ ?_).run
  refine held_loop (e := intC) mkInt wInt (fun k i rows => LoopG C laws_heldIntS pRLRB 4 0 (s_laws_heldIntS_0 rows k i) _) 2305843009213693952 ?_ l [] k h0 hk (by simpa using hl) ?_
  · intro d a r k h0 hk hd hn
    have hw : wInt a = 1 := rfl
    rw [hw] at hk hn
    refine r_laws_heldIntS_0 _ _ _ _ (brB_yes (by simp; omega) ?_)
    simp (disch := omega) only [addW_eq]
    simp only [ex_int, getZ_mod, ex_some_map, getZ_mid, Option.some.injEq, exists_eq_left', exists_eq_left, mod_mod, eqI30, brB_f, brB_not, mkInt, eqI_eq, eqS_eq, eqB_eq, brB_dec, if_true, decide_true, Bool.not_true]
    rw [show (k + 1 : Int) = k + ((1 : Nat) : Int) by omega]
    exact hn
  · refine r_laws_heldIntS_0 _ _ _ _ (brB_no (by simp [markG_len]) (a_laws_heldIntS_2 _ _ _ _ _ ⟨rfl, by first | rfl | trivial⟩))
def mkKey (_ : Key) (k : Int) : Key := ⟨k, k + 1, k + 1 + 1, k + 1 + 1 + 1, k + 1 + 1 + 1 + 1⟩
def wKey (_ : Key) : Nat := 5
theorem markKeyS (l : List (Key)) (k : Int) (h0 : 0 ≤ k) (hk : k + tot wKey l ≤ 2305843009213693952) (hl : l.length ≤ 1099511627776) : RunF C laws_markKeyS [vKeys l, vI k] (vI (k + tot wKey l)) [vKeys (markG mkKey wKey l k)] := by
  refine (f_laws_markKeyS _ _ _ ?_).run
  refine mark_loop (e := keyC) mkKey wKey (fun k i rows => LoopG C laws_markKeyS pRLRB 4 0 (s_laws_markKeyS_0 k i rows) _) 2305843009213693952 ?_ l [] k h0 hk (by simpa using hl) ?_
  · intro d a r k h0 hk hd hn
    have hw : wKey a = 5 := rfl
    rw [hw] at hk hn
    refine r_laws_markKeyS_0 _ _ _ _ (brB_yes (by simp; omega) ?_)
    simp (disch := omega) only [addW_eq]
    simp only [ex_key, sr_key_b, sr_key_a, sr_key_k, sr_key_c, sr_key_g, sr_key, getZ_mod, ex_some_map, getZ_mid, Option.some.injEq, exists_eq_left', exists_eq_left, mod_mod, eqI30, brB_f, brB_not]
    rw [mod_mid]
    rw [show (k + 1 + 1 + 1 + 1 + 1 : Int) = k + ((5 : Nat) : Int) by omega]
    exact hn
  · refine r_laws_markKeyS_0 _ _ _ _ (brB_no (by simp [markG_len]) (a_laws_markKeyS_1 _ _ _ _ _ ⟨rfl, by first | rfl | trivial⟩))
def mkAge (_ : Age) (k : Int) : Age := ⟨k, k + 1⟩
def wAge (_ : Age) : Nat := 2
theorem markAgeS (l : List (Age)) (k : Int) (h0 : 0 ≤ k) (hk : k + tot wAge l ≤ 2305843009213693952) (hl : l.length ≤ 1099511627776) : RunF C laws_markAgeS [vAges l, vI k] (vI (k + tot wAge l)) [vAges (markG mkAge wAge l k)] := by
  refine (f_laws_markAgeS _ _ _ ?_).run
  refine mark_loop (e := ageC) mkAge wAge (fun k i rows => LoopG C laws_markAgeS pRLRB 4 0 (s_laws_markAgeS_0 k i rows) _) 2305843009213693952 ?_ l [] k h0 hk (by simpa using hl) ?_
  · intro d a r k h0 hk hd hn
    have hw : wAge a = 2 := rfl
    rw [hw] at hk hn
    refine r_laws_markAgeS_0 _ _ _ _ (brB_yes (by simp; omega) ?_)
    simp (disch := omega) only [addW_eq]
    simp only [ex_age, sr_age_id, sr_age_fr, sr_age, getZ_mod, ex_some_map, getZ_mid, Option.some.injEq, exists_eq_left', exists_eq_left, mod_mod, eqI30, brB_f, brB_not]
    rw [mod_mid]
    rw [show (k + 1 + 1 : Int) = k + ((2 : Nat) : Int) by omega]
    exact hn
  · refine r_laws_markAgeS_0 _ _ _ _ (brB_no (by simp [markG_len]) (a_laws_markAgeS_1 _ _ _ _ _ ⟨rfl, by first | rfl | trivial⟩))
def mkCell (_ : Cell) (k : Int) : Cell := ⟨k, eqI (remI (k + 1) 3) 0, k + 1 + 1⟩
def wCell (_ : Cell) : Nat := 3
theorem markCellS (l : List (Cell)) (k : Int) (h0 : 0 ≤ k) (hk : k + tot wCell l ≤ 2305843009213693952) (hl : l.length ≤ 1099511627776) : RunF C laws_markCellS [vCells l, vI k] (vI (k + tot wCell l)) [vCells (markG mkCell wCell l k)] := by
  refine (f_laws_markCellS _ _ _ ?_).run
  refine mark_loop (e := cellC) mkCell wCell (fun k i rows => LoopG C laws_markCellS pRLRB 4 0 (s_laws_markCellS_0 k i rows) _) 2305843009213693952 ?_ l [] k h0 hk (by simpa using hl) ?_
  · intro d a r k h0 hk hd hn
    have hw : wCell a = 3 := rfl
    rw [hw] at hk hn
    refine r_laws_markCellS_0 _ _ _ _ (brB_yes (by simp; omega) ?_)
    simp (disch := omega) only [addW_eq]
    simp only [ex_cell, sr_cell_g, sr_cell_u, sr_cell_n, sr_cell, getZ_mod, ex_some_map, getZ_mid, Option.some.injEq, exists_eq_left', exists_eq_left, mod_mod, eqI30, brB_f, brB_not]
    rw [mod_mid]
    rw [show (k + 1 + 1 + 1 : Int) = k + ((3 : Nat) : Int) by omega]
    exact hn
  · refine r_laws_markCellS_0 _ _ _ _ (brB_no (by simp [markG_len]) (a_laws_markCellS_1 _ _ _ _ _ ⟨rfl, by first | rfl | trivial⟩))
def mkVol (_ : Vol) (k : Int) : Vol := ⟨mText (k), k + 1, k + 1 + 1, eqI (remI (k + 1 + 1 + 1) 3) 0⟩
def wVol (_ : Vol) : Nat := 4
theorem markVolS (l : List (Vol)) (k : Int) (h0 : 0 ≤ k) (hk : k + tot wVol l ≤ 2305843009213693952) (hl : l.length ≤ 1099511627776) : RunF C laws_markVolS [vVols l, vI k] (vI (k + tot wVol l)) [vVols (markG mkVol wVol l k)] := by
  refine (f_laws_markVolS _ _ _ ?_).run
  refine mark_loop (e := volC) mkVol wVol (fun k i rows => LoopG C laws_markVolS pRLRB 4 0 (s_laws_markVolS_0 k i rows) _) 2305843009213693952 ?_ l [] k h0 hk (by simpa using hl) ?_
  · intro d a r k h0 hk hd hn
    have hw : wVol a = 4 := rfl
    rw [hw] at hk hn
    refine r_laws_markVolS_0 _ _ _ _ (brB_yes (by simp; omega) ?_)
    simp (disch := omega) only [addW_eq]
    simp only [ex_vol, sr_vol_name, sr_vol_age, sr_vol_size, sr_vol_fx, sr_vol, c_markText (k) (by omega), getZ_mod, ex_some_map, getZ_mid, Option.some.injEq, exists_eq_left', exists_eq_left, mod_mod, eqI30, brB_f, brB_not]
    rw [mod_mid]
    rw [show (k + 1 + 1 + 1 + 1 : Int) = k + ((4 : Nat) : Int) by omega]
    exact hn
  · refine r_laws_markVolS_0 _ _ _ _ (brB_no (by simp [markG_len]) (a_laws_markVolS_1 _ _ _ _ _ ⟨rfl, by first | rfl | trivial⟩))
def mkKeyS (s : List Key) (k : Int) : List Key := markG mkKey wKey s k
def wKeyS (s : List Key) : Nat := tot wKey s
theorem markKeySS : ∀ (l : List (List Key)) (k : Int) (h0 : 0 ≤ k) (hk : k + tot wKeyS l ≤ 2305843009213693952) (hl : l.length ≤ 1099511627776) (hs : ∀ s ∈ l, s.length ≤ 1099511627776), RunF C laws_markKeySS [vSets l, vI k] (vI (k + tot wKeyS l)) [vSets (markG mkKeyS wKeyS l k)] := by
  intro l k h0 hk hl hs
  refine (f_laws_markKeySS _ _ _ ?_).run
  have key : ∀ (r d : List (List Key)) (k : Int), 0 ≤ k → k + tot wKeyS r ≤ 2305843009213693952 → d.length + r.length ≤ 1099511627776 → (∀ s ∈ r, s.length ≤ 1099511627776) → ∀ (R : TV) (F : List TV), vI (k + tot wKeyS r) = R → [vSets (d ++ markG mkKeyS wKeyS r k)] = F → LoopG C laws_markKeySS pRLRB 4 0 (s_laws_markKeySS_0 k (d.length : Int) ((d ++ r).map setC)) (fun u st => AftF C laws_markKeySS pRLRB u st fun r fs => r = R ∧ fs = F) := by
    intro r
    induction r with
    | nil =>
      intro d k h0 hk hl hs R F hR hF
      subst hR hF
      refine r_laws_markKeySS_0 _ _ _ _ (brB_no (by simp) (a_laws_markKeySS_1 _ _ _ _ _ ⟨by simp [tot], by simp [markG]⟩))
    | cons a r ih =>
      intro d k h0 hk hl hs R F hR hF
      simp only [tot, List.length_cons] at hk hl
      have hca := hs a (.head _)
      have hu : tot wKey a = wKeyS a := rfl
      refine r_laws_markKeySS_0 _ _ _ _ (brB_yes (by simp; omega) ?_)
      simp only [ex_set, getZ_mid, Option.some.injEq, exists_eq_left']
      refine ⟨_, _, markKeyS a k h0 (by omega) hca, ?_⟩
      simp only [sr_set]
      rw [mod_mid, addW_eq (by omega)]
      have := ih (d ++ [mkKeyS a k]) (k + wKeyS a) (by omega) (by omega) (by simp; omega) (fun s h => hs s (.tail _ h)) R F (by rw [← hR]; simp only [tot]; rw [show k + (wKeyS a : Int) + (tot wKeyS r : Int) = k + ((wKeyS a + tot wKeyS r : Nat) : Int) by omega]) (by rw [← hF]; simp [markG])
      rw [← hu] at this
      simpa [mkKeyS] using this
  exact key l [] k h0 hk (by simpa using hl) hs _ _ rfl (by simp)
def mkNode (s : List (List Key)) (k : Int) : List (List Key) := markG mkKeyS wKeyS s k
def wNode (s : List (List Key)) : Nat := tot wKeyS s
theorem markNodeS : ∀ (l : List (List (List Key))) (k : Int) (h0 : 0 ≤ k) (hk : k + tot wNode l ≤ 2305843009213693952) (hl : l.length ≤ 1099511627776) (hs : ∀ s ∈ l, NodeB s), RunF C laws_markNodeS [vNodes l, vI k] (vI (k + tot wNode l)) [vNodes (markG mkNode wNode l k)] := by
  intro l k h0 hk hl hs
  refine (f_laws_markNodeS _ _ _ ?_).run
  have key : ∀ (r d : List (List (List Key))) (k : Int), 0 ≤ k → k + tot wNode r ≤ 2305843009213693952 → d.length + r.length ≤ 1099511627776 → (∀ s ∈ r, NodeB s) → ∀ (R : TV) (F : List TV), vI (k + tot wNode r) = R → [vNodes (d ++ markG mkNode wNode r k)] = F → LoopG C laws_markNodeS pRLRB 4 0 (s_laws_markNodeS_0 k (d.length : Int) ((d ++ r).map nodeC)) (fun u st => AftF C laws_markNodeS pRLRB u st fun r fs => r = R ∧ fs = F) := by
    intro r
    induction r with
    | nil =>
      intro d k h0 hk hl hs R F hR hF
      subst hR hF
      refine r_laws_markNodeS_0 _ _ _ _ (brB_no (by simp) (a_laws_markNodeS_1 _ _ _ _ _ ⟨by simp [tot], by simp [markG]⟩))
    | cons a r ih =>
      intro d k h0 hk hl hs R F hR hF
      simp only [tot, List.length_cons] at hk hl
      have hca := hs a (.head _)
      have hu : tot wKeyS a = wNode a := rfl
      refine r_laws_markNodeS_0 _ _ _ _ (brB_yes (by simp; omega) ?_)
      simp only [ex_node, getZ_mid, Option.some.injEq, exists_eq_left']
      refine ⟨_, _, markKeySS a k h0 (by omega) hca.1 hca.2, ?_⟩
      simp only [sr_node]
      rw [mod_mid, addW_eq (by omega)]
      have := ih (d ++ [mkNode a k]) (k + wNode a) (by omega) (by omega) (by simp; omega) (fun s h => hs s (.tail _ h)) R F (by rw [← hR]; simp only [tot]; rw [show k + (wNode a : Int) + (tot wNode r : Int) = k + ((wNode a + tot wNode r : Nat) : Int) by omega]) (by rw [← hF]; simp [markG])
      rw [← hu] at this
      simpa [mkNode] using this
  exact key l [] k h0 hk (by simpa using hl) hs _ _ rfl (by simp)
def wTree (t : Tree) : Nat := tot wInt t.lows + tot wNode t.nodes
def mkTree (t : Tree) (k : Int) : Tree := ⟨markG mkInt wInt t.lows k, markG mkNode wNode t.nodes (k + tot wInt t.lows)⟩
theorem markTree (t : Tree) (k : Int) (h0 : 0 ≤ k) (hk : k + wTree t ≤ 2305843009213693952) (h : TreeB t) : RunF C laws_markTree [vTree t, vI k] (vI (k + wTree t)) [vTree (mkTree t k)] := by
  unfold wTree at *
  refine (f_laws_markTree _ _ _ _ ⟨_, _, markIntS t.lows k h0 (by omega) h.1, _, _, markNodeS t.nodes _ (by omega) (by omega) h.2.1 h.2.2, ?_⟩).run
  exact ⟨by congr 2; omega, rfl⟩
def wPool (p : Pool) : Nat := wTree p.t + tot wAge p.ages + tot wCell p.cells + tot wVol p.vols
def mkPool (p : Pool) (k : Int) : Pool := ⟨mkTree p.t k, markG mkAge wAge p.ages (k + wTree p.t), markG mkCell wCell p.cells (k + wTree p.t + tot wAge p.ages), markG mkVol wVol p.vols (k + wTree p.t + tot wAge p.ages + tot wCell p.cells), p.next⟩
theorem markPool (p : Pool) (k : Int) (h0 : 0 ≤ k) (hk : k + wPool p ≤ 2305843009213693952) (h : PoolB p) : RunF C laws_markPool [vPool p, vI k] (vI (k + wPool p)) [vPool (mkPool p k)] := by
  unfold wPool at *
  refine (f_laws_markPool _ _ _ _ _ _ _ _ ⟨_, _, _, markTree p.t k h0 (by omega) h.t, _, _, markAgeS p.ages _ (by omega) (by omega) h.ages, _, _, markCellS p.cells _ (by omega) (by omega) h.cells, _, _, markVolS p.vols _ (by omega) (by omega) h.vols, ?_⟩).run
  exact ⟨by congr 2; omega, rfl⟩
def wMap (m : Mp) : Nat := 2 + tot wInt m.l
def mkMap (m : Mp) (k : Int) : Mp := ⟨mText k, eqI (remI (k + 1) 3) 0, markG mkInt wInt m.l (k + 1 + 1)⟩
theorem markMapS (l : List Mp) (k : Int) (h0 : 0 ≤ k) (hk : k + tot wMap l ≤ 2305843009213693952) (hl : l.length ≤ 1099511627776) (hs : ∀ s ∈ l, s.l.length ≤ 1099511627776) : RunF C laws_markMapS [vMaps l, vI k] (vI (k + tot wMap l)) [vMaps (markG mkMap wMap l k)] := by
  refine (f_laws_markMapS _ _ _ ?_).run
  have key : ∀ (r d : List Mp) (k : Int), 0 ≤ k → k + tot wMap r ≤ 2305843009213693952 → d.length + r.length ≤ 1099511627776 → (∀ s ∈ r, s.l.length ≤ 1099511627776) → ∀ (R : TV) (F : List TV), vI (k + tot wMap r) = R → [vMaps (d ++ markG mkMap wMap r k)] = F → LoopG C laws_markMapS pRLRB 4 0 (s_laws_markMapS_0 k (d.length : Int) ((d ++ r).map mapC)) (fun u st => AftF C laws_markMapS pRLRB u st fun r fs => r = R ∧ fs = F) := by
    intro r
    induction r with
    | nil =>
      intro d k h0 hk hl hs R F hR hF
      subst hR hF
      exact r_laws_markMapS_0 _ _ _ _ (brB_no (by simp) (a_laws_markMapS_1 _ _ _ _ _ ⟨by simp [tot], by simp [markG]⟩))
    | cons a r ih =>
      intro d k h0 hk hl hs R F hR hF
      simp only [tot, List.length_cons] at hk hl
      have hca := hs a (.head _)
      have hu : wMap a = 2 + tot wInt a.l := rfl
      refine r_laws_markMapS_0 _ _ _ _ (brB_yes (by simp; omega) ?_)
      simp (disch := omega) only [addW_eq]
      simp only [ex_map, sr_map_name, sr_map_fx, c_markText k (by omega), getZ_mod, ex_some_map, getZ_mid, Option.some.injEq, exists_eq_left', exists_eq_left, mod_mod, eqI30, brB_f, brB_not]
      refine ⟨_, _, markIntS a.l (k + 1 + 1) (by omega) (by omega) hca, ?_⟩
      simp only [sr_map_l, mod_mod]
      rw [mod_mid]
      have := ih (d ++ [mkMap a k]) (k + wMap a) (by omega) (by omega) (by simp; omega) (fun s h => hs s (.tail _ h)) R F (by rw [← hR]; simp only [tot]; rw [show k + (wMap a : Int) + (tot wMap r : Int) = k + ((wMap a + tot wMap r : Nat) : Int) by omega]) (by rw [← hF]; simp [markG])
      rw [show k + 1 + 1 + (tot wInt a.l : Int) = k + (wMap a : Int) by omega]
      simpa [mkMap] using this
  exact key l [] k h0 hk (by simpa using hl) hs _ _ rfl (by simp)
theorem heldMapS (l : List Mp) (k : Int) (h0 : 0 ≤ k) (hk : k + tot wMap l ≤ 2305843009213693952) (hl : l.length ≤ 1099511627776) (hs : ∀ s ∈ l, s.l.length ≤ 1099511627776) : RunF C laws_heldMapS [vMaps (markG mkMap wMap l k), vI k] (vI (k + tot wMap l)) [] := by
  refine (f_laws_heldMapS _ _ _ ?_).run
  have key : ∀ (r d : List Mp) (k : Int), 0 ≤ k → k + tot wMap r ≤ 2305843009213693952 → d.length + r.length ≤ 1099511627776 → (∀ s ∈ r, s.l.length ≤ 1099511627776) → ∀ (R : TV), vI (k + tot wMap r) = R → LoopG C laws_heldMapS pRLRB 4 0 (s_laws_heldMapS_0 ((d ++ markG mkMap wMap r k).map mapC) k (d.length : Int)) (fun u st => AftF C laws_heldMapS pRLRB u st fun r fs => r = R ∧ fs = []) := by
    intro r
    induction r with
    | nil =>
      intro d k h0 hk hl hs R hR
      subst hR
      exact r_laws_heldMapS_0 _ _ _ _ (brB_no (by simp [markG]) (a_laws_heldMapS_2 _ _ _ _ _ ⟨by simp [tot], rfl⟩))
    | cons a r ih =>
      intro d k h0 hk hl hs R hR
      simp only [tot, List.length_cons] at hk hl
      have hca := hs a (.head _)
      have hu : wMap a = 2 + tot wInt a.l := rfl
      simp only [markG]
      refine r_laws_heldMapS_0 _ _ _ _ (brB_yes (by simp; omega) ?_)
      simp (disch := omega) only [addW_eq]
      simp only [ex_map, getZ_mid, Option.some.injEq, exists_eq_left', c_markText k (by omega), exists_eq_left, eqI30, brB_f]
      refine brB_no (by simp [mkMap, eqS_eq]) (brB_no (by simp [mkMap, eqB_eq]) ⟨_, heldIntS a.l (k + 1 + 1) (by omega) (by omega) hca, brB_no (by simp; omega) ?_⟩)
      have := ih (d ++ [mkMap a k]) (k + wMap a) (by omega) (by omega) (by simp; omega) (fun s h => hs s (.tail _ h)) R (by rw [← hR]; simp only [tot]; rw [show k + (wMap a : Int) + (tot wMap r : Int) = k + ((wMap a + tot wMap r : Nat) : Int) by omega])
      rw [show k + 1 + 1 + (tot wInt a.l : Int) = k + (wMap a : Int) by omega]
      simpa using this
  exact key l [] k h0 hk (by simpa using hl) hs _ rfl
theorem len_of {n z : Nat} (h : n * z ≤ reachBytes) (hz : 1 ≤ z) : n ≤ 140737488355328 := by
  have : reachBytes ≤ 140737488355328 := by decide
  have h2 : n * 1 ≤ n * z := Nat.mul_le_mul_left n hz
  omega
theorem i64_hi {n : Int} (h : (Lit.int .i64 n).wf = true) : n ≤ 9223372036854775807 := by
  have := (i64_wf h).2
  omega
theorem int_in {r : List TC} (h : WfT C.tt t_int r) : ∃ n : Int, r = intC n ∧ True := by
  obtain ⟨n, rfl, _⟩ := h.int_inv (k := .i64) (by kernel_rfl)
  exact ⟨n, rfl, trivial⟩
theorem key_in {r : List TC} (h : WfT C.tt t_laws_Key r) : ∃ x : Key, r = keyC x ∧ True := by
  obtain ⟨q0, r0, rfl, h0, k0⟩ := (h.struct_inv (fs := [(0, 3), (1, 3), (2, 3), (3, 3), (4, 3)]) (by kernel_rfl)).cons_inv
  obtain ⟨q1, r1, rfl, h1, k1⟩ := k0.cons_inv
  obtain ⟨q2, r2, rfl, h2, k2⟩ := k1.cons_inv
  obtain ⟨q3, r3, rfl, h3, k3⟩ := k2.cons_inv
  obtain ⟨q4, r4, rfl, h4, k4⟩ := k3.cons_inv
  have e := k4.nil_inv
  subst e
  obtain ⟨v0, rfl, u0⟩ := h0.int_inv (k := .i64) (by kernel_rfl)
  obtain ⟨v1, rfl, u1⟩ := h1.int_inv (k := .i64) (by kernel_rfl)
  obtain ⟨v2, rfl, u2⟩ := h2.int_inv (k := .i64) (by kernel_rfl)
  obtain ⟨v3, rfl, u3⟩ := h3.int_inv (k := .i64) (by kernel_rfl)
  obtain ⟨v4, rfl, u4⟩ := h4.int_inv (k := .i64) (by kernel_rfl)
  exact ⟨⟨v0, v1, v2, v3, v4⟩, rfl, trivial⟩
theorem age_in {r : List TC} (h : WfT C.tt t_laws_Age r) : ∃ x : Age, r = ageC x ∧ True := by
  obtain ⟨q0, r0, rfl, h0, k0⟩ := (h.struct_inv (fs := [(0, 3), (1, 3)]) (by kernel_rfl)).cons_inv
  obtain ⟨q1, r1, rfl, h1, k1⟩ := k0.cons_inv
  have e := k1.nil_inv
  subst e
  obtain ⟨v0, rfl, u0⟩ := h0.int_inv (k := .i64) (by kernel_rfl)
  obtain ⟨v1, rfl, u1⟩ := h1.int_inv (k := .i64) (by kernel_rfl)
  exact ⟨⟨v0, v1⟩, rfl, trivial⟩
theorem cell_in {r : List TC} (h : WfT C.tt t_laws_Cell r) : ∃ x : Cell, r = cellC x ∧ True := by
  obtain ⟨q0, r0, rfl, h0, k0⟩ := (h.struct_inv (fs := [(0, 3), (1, 4), (2, 3)]) (by kernel_rfl)).cons_inv
  obtain ⟨q1, r1, rfl, h1, k1⟩ := k0.cons_inv
  obtain ⟨q2, r2, rfl, h2, k2⟩ := k1.cons_inv
  have e := k2.nil_inv
  subst e
  obtain ⟨v0, rfl, u0⟩ := h0.int_inv (k := .i64) (by kernel_rfl)
  obtain ⟨v1, rfl⟩ := h1.bool_inv (by kernel_rfl)
  obtain ⟨v2, rfl, u2⟩ := h2.int_inv (k := .i64) (by kernel_rfl)
  exact ⟨⟨v0, v1, v2⟩, rfl, trivial⟩
theorem vol_in {r : List TC} (h : WfT C.tt t_laws_Vol r) : ∃ x : Vol, r = volC x ∧ x.name.size ≤ 140737488355328 ∧ x.size ≤ 9223372036854775807 := by
  obtain ⟨q0, r0, rfl, h0, k0⟩ := (h.struct_inv (fs := [(0, 9), (1, 3), (2, 3), (3, 4)]) (by kernel_rfl)).cons_inv
  obtain ⟨q1, r1, rfl, h1, k1⟩ := k0.cons_inv
  obtain ⟨q2, r2, rfl, h2, k2⟩ := k1.cons_inv
  obtain ⟨q3, r3, rfl, h3, k3⟩ := k2.cons_inv
  have e := k3.nil_inv
  subst e
  obtain ⟨v0, rfl, z0⟩ := h0.str_inv (by kernel_rfl)
  obtain ⟨v1, rfl, u1⟩ := h1.int_inv (k := .i64) (by kernel_rfl)
  obtain ⟨v2, rfl, u2⟩ := h2.int_inv (k := .i64) (by kernel_rfl)
  obtain ⟨v3, rfl⟩ := h3.bool_inv (by kernel_rfl)
  exact ⟨⟨v0, v1, v2, v3⟩, rfl, ⟨Nat.le_trans z0 (by decide), i64_hi u2⟩⟩
theorem ints_rows {r : List TC} (h : WfT C.tt t_S_int r) : ∃ l : List (Int), r = [.sub 1 (l.map intC)] ∧ l.length ≤ 140737488355328 ∧ ∀ x ∈ l, True := by
  obtain ⟨w, rfl, y, z⟩ := h.slice_inv (e := t_int) (by kernel_rfl)
  obtain ⟨l, rfl, hl⟩ := rows_typed fun r hr => int_in (y r hr)
  rw [List.length_map] at z
  exact ⟨l, rfl, len_of z (by decide +kernel), hl⟩
theorem keys_rows {r : List TC} (h : WfT C.tt t_S_laws_Key r) : ∃ l : List (Key), r = [.sub 5 (l.map keyC)] ∧ l.length ≤ 140737488355328 ∧ ∀ x ∈ l, True := by
  obtain ⟨w, rfl, y, z⟩ := h.slice_inv (e := t_laws_Key) (by kernel_rfl)
  obtain ⟨l, rfl, hl⟩ := rows_typed fun r hr => key_in (y r hr)
  rw [List.length_map] at z
  exact ⟨l, rfl, len_of z (by decide +kernel), hl⟩
theorem ages_rows {r : List TC} (h : WfT C.tt t_S_laws_Age r) : ∃ l : List (Age), r = [.sub 2 (l.map ageC)] ∧ l.length ≤ 140737488355328 ∧ ∀ x ∈ l, True := by
  obtain ⟨w, rfl, y, z⟩ := h.slice_inv (e := t_laws_Age) (by kernel_rfl)
  obtain ⟨l, rfl, hl⟩ := rows_typed fun r hr => age_in (y r hr)
  rw [List.length_map] at z
  exact ⟨l, rfl, len_of z (by decide +kernel), hl⟩
theorem cells_rows {r : List TC} (h : WfT C.tt t_S_laws_Cell r) : ∃ l : List (Cell), r = [.sub 3 (l.map cellC)] ∧ l.length ≤ 140737488355328 ∧ ∀ x ∈ l, True := by
  obtain ⟨w, rfl, y, z⟩ := h.slice_inv (e := t_laws_Cell) (by kernel_rfl)
  obtain ⟨l, rfl, hl⟩ := rows_typed fun r hr => cell_in (y r hr)
  rw [List.length_map] at z
  exact ⟨l, rfl, len_of z (by decide +kernel), hl⟩
theorem vols_rows {r : List TC} (h : WfT C.tt t_S_laws_Vol r) : ∃ l : List (Vol), r = [.sub 4 (l.map volC)] ∧ l.length ≤ 140737488355328 ∧ ∀ x ∈ l, x.name.size ≤ 140737488355328 ∧ x.size ≤ 9223372036854775807 := by
  obtain ⟨w, rfl, y, z⟩ := h.slice_inv (e := t_laws_Vol) (by kernel_rfl)
  obtain ⟨l, rfl, hl⟩ := rows_typed fun r hr => vol_in (y r hr)
  rw [List.length_map] at z
  exact ⟨l, rfl, len_of z (by decide +kernel), hl⟩
theorem set_in {r : List TC} (h : WfT C.tt t_S_laws_Key r) : ∃ s : List Key, r = setC s ∧ s.length ≤ 140737488355328 := by
  obtain ⟨l, rfl, hl, _⟩ := keys_rows h
  exact ⟨l, rfl, hl⟩
theorem sets_rows {r : List TC} (h : WfT C.tt t_SS_laws_Key r) : ∃ l : List (List Key), r = [.sub 1 (l.map setC)] ∧ l.length ≤ 140737488355328 ∧ ∀ x ∈ l, x.length ≤ 140737488355328 := by
  obtain ⟨w, rfl, y, z⟩ := h.slice_inv (e := t_S_laws_Key) (by kernel_rfl)
  obtain ⟨l, rfl, hl⟩ := rows_typed fun r hr => set_in (y r hr)
  rw [List.length_map] at z
  exact ⟨l, rfl, len_of z (by decide +kernel), hl⟩
theorem node_in {r : List TC} (h : WfT C.tt t_laws_Node r) : ∃ n : List (List Key), r = nodeC n ∧ (n.length ≤ 140737488355328 ∧ ∀ s ∈ n, s.length ≤ 140737488355328) := by
  obtain ⟨q0, r0, rfl, h0, k0⟩ := (h.struct_inv (fs := [(0, 131)]) (by kernel_rfl)).cons_inv
  have e := k0.nil_inv
  subst e
  obtain ⟨l, rfl, hl, hs⟩ := sets_rows h0
  exact ⟨l, rfl, hl, hs⟩
theorem nodes_rows {r : List TC} (h : WfT C.tt t_S_laws_Node r) : ∃ l : List (List (List Key)), r = [.sub 1 (l.map nodeC)] ∧ l.length ≤ 140737488355328 ∧ ∀ x ∈ l, x.length ≤ 140737488355328 ∧ ∀ s ∈ x, s.length ≤ 140737488355328 := by
  obtain ⟨w, rfl, y, z⟩ := h.slice_inv (e := t_laws_Node) (by kernel_rfl)
  obtain ⟨l, rfl, hl⟩ := rows_typed fun r hr => node_in (y r hr)
  rw [List.length_map] at z
  exact ⟨l, rfl, len_of z (by decide +kernel), hl⟩
theorem tree_in {r : List TC} (h : WfT C.tt t_laws_Tree r) : ∃ t : Tree, r = treeC t ∧ TreeW t := by
  obtain ⟨q0, r0, rfl, h0, k0⟩ := (h.struct_inv (fs := [(0, 22), (1, 23)]) (by kernel_rfl)).cons_inv
  obtain ⟨q1, r1, rfl, h1, k1⟩ := k0.cons_inv
  have e := k1.nil_inv
  subst e
  obtain ⟨l, rfl, hl, _⟩ := ints_rows h0
  obtain ⟨n, rfl, hn, hs⟩ := nodes_rows h1
  exact ⟨⟨l, n⟩, rfl, ⟨hl, hn, hs⟩⟩
theorem pool_in {r : List TC} (h : WfT C.tt t_laws_Pool r) : ∃ p : Pool, r = poolC p ∧ PoolW p := by
  obtain ⟨q0, r0, rfl, h0, k0⟩ := (h.struct_inv (fs := [(0, 25), (2, 47), (3, 48), (4, 49), (5, 3)]) (by kernel_rfl)).cons_inv
  obtain ⟨q1, r1, rfl, h1, k1⟩ := k0.cons_inv
  obtain ⟨q2, r2, rfl, h2, k2⟩ := k1.cons_inv
  obtain ⟨q3, r3, rfl, h3, k3⟩ := k2.cons_inv
  obtain ⟨q4, r4, rfl, h4, k4⟩ := k3.cons_inv
  have e := k4.nil_inv
  subst e
  obtain ⟨t, rfl, ht⟩ := tree_in h0
  obtain ⟨a, rfl, ha, _⟩ := ages_rows h1
  obtain ⟨c, rfl, hc, _⟩ := cells_rows h2
  obtain ⟨v, rfl, hv, hw⟩ := vols_rows h3
  obtain ⟨n, rfl, _⟩ := int_in h4
  exact ⟨⟨t, a, c, v, n⟩, rfl, ⟨ht, ha, hc, hv, fun v h => (hw v h).1, fun v h => (hw v h).2⟩⟩
theorem v_pool {v : TV} (h : WfV C.tt t_laws_Pool v) : ∃ x : Pool, v = vPool x ∧ PoolW x := by
  have ht : (C.tt t_laws_Pool).ti = .struct [(0, 25), (2, 47), (3, 48), (4, 49), (5, 3)] := by kernel_rfl
  cases h with
  | c hs hw => exact absurd ht (hs _)
  | ag _ hw =>
    obtain ⟨x, rfl, hx⟩ := pool_in hw
    exact ⟨x, rfl, hx⟩
theorem lft_ok {a : Int} {n : Nat} (h : ltI (lft a n) 0 = false) (h0 : 0 ≤ a ∧ a ≤ 1048576) : (n : Int) ≤ a ∧ (0 ≤ lft a n ∧ lft a n ≤ 1048576) ∧ lft a n = a - n := by
  rw [ltI_eq] at h
  have h : ¬ lft a n < 0 := of_decide_eq_false h
  unfold lft at *
  split at h <;> simp_all <;> omega
theorem treeB_of {t : Tree} (h : szTree t ≤ 1048576) : TreeB t := by
  unfold szTree szNodes at h
  refine ⟨by omega, by omega, fun n hn => ?_⟩
  have h1 := tot_mem (w := szNode) hn
  have e : szNode n = n.length + tot szSet n := rfl
  exact ⟨by omega, fun s hs => by
    have h2 := tot_mem (w := szSet) hs
    have e2 : szSet s = s.length := rfl
    omega⟩
theorem wKeys_le (l : List Key) : tot wKey l = 5 * l.length := tot_const 5 l
theorem wSets_le (n : List (List Key)) : tot wKeyS n ≤ 5 * tot szSet n := by
  induction n with
  | nil => simp [tot]
  | cons s r ih =>
    simp only [tot]
    have : wKeyS s = 5 * s.length := wKeys_le s
    have e : szSet s = s.length := rfl
    omega
theorem wNodes_le (l : List (List (List Key))) : tot wNode l ≤ 5 * tot szNode l := by
  induction l with
  | nil => simp [tot]
  | cons n r ih =>
    simp only [tot]
    have h1 := wSets_le n
    have h2 : szNode n = n.length + tot szSet n := rfl
    have h3 : wNode n = tot wKeyS n := rfl
    omega
theorem wTree_le (t : Tree) : wTree t ≤ 5 * szTree t := by
  have h1 := wNodes_le t.nodes
  have h2 : tot wInt t.lows = 1 * t.lows.length := tot_const 1 t.lows
  unfold wTree szTree szNodes
  omega
theorem poolB_of {p : Pool} (h : szPool p ≤ 1048576) : PoolB p := by
  unfold szPool szVols at h
  exact ⟨treeB_of (by omega), by omega, by omega, by omega⟩
theorem wPool_le (p : Pool) : wPool p ≤ 5 * szPool p := by
  have h1 := wTree_le p.t
  have h2 : tot wAge p.ages = 2 * p.ages.length := tot_const 2 p.ages
  have h3 : tot wCell p.cells = 3 * p.cells.length := tot_const 3 p.cells
  have h4 : tot wVol p.vols = 4 * p.vols.length := tot_const 4 p.vols
  unfold wPool szPool szVols
  omega
theorem tot_le {α : Type} {w : α → Nat} {c : Nat} : ∀ {l : List α}, (∀ a ∈ l, w a ≤ c) → tot w l ≤ c * l.length
  | [], _ => Nat.zero_le _
  | a :: r, h => by
    have h1 := h a (.head _)
    have h2 := tot_le (l := r) fun b hb => h b (.tail _ hb)
    simp only [tot, List.length_cons, Nat.mul_add]
    omega
theorem law_MapsOf (p : Pool) (w_p : PoolW p) : RunF C laws_FnExactMapsOf [vPool p] (vB true) [] := by
  refine (f_laws_FnExactMapsOf _ _ _ _ _ _ _ ?_).run
  refine ⟨_, szPool_run _ _ (by first | omega | assumption) (by assumption), ?_⟩
  refine brB_both (fun _ => ⟨rfl, by first | rfl | trivial⟩) fun hz0 => ?_
  obtain ⟨hz0a, hz0b, hz0c⟩ := lft_ok hz0 (by first | omega | assumption)
  have hB := poolB_of (p := p) (by omega)
  have hS : szPool p ≤ 1048576 := by omega
  have hP := poolS_of hS
  have hm0 := mapsOf_len p
  have hm1 : (mapsOf p).length ≤ 1048576 := by omega
  have hm2 : ∀ m ∈ mapsOf p, m.l.length ≤ 1099511627776 := fun m h => by have := mapsOf_l p m h; omega
  have hw2 : tot wMap (mapsOf p) ≤ 14 * (mapsOf p).length := tot_le fun m h => by have := mapsOf_l p m h; have e : wMap m = 2 + tot wInt m.l := rfl; have e2 : tot wInt m.l = 1 * m.l.length := tot_const 1 m.l; omega
  have hw := wPool_le p
  refine ⟨_, _, _, _, _, _, toPool _ (by assumption), ?_⟩
  refine ⟨_, run_spec_MapsOf p hS w_p.siz, ?_⟩
  refine ⟨_, _, _, _, _, _, toPool _ (by assumption), ?_⟩
  refine ⟨_, run_impl_MapsOf p hS w_p.siz, ?_⟩
  refine ⟨_, eqMapS _ (by omega) (by assumption), ?_⟩
  refine brB_no (by first | rfl | (simp; done) | (simp; omega)) ?_
  refine ⟨_, _, _, _, _, _, toPool _ (by assumption), ?_⟩
  refine ⟨_, eqPool _ (by assumption), ?_⟩
  refine brB_no (by first | rfl | (simp; done) | (simp; omega)) ?_
  refine ⟨_, _, _, _, _, _, _, markPool _ 1 (by omega) (by omega) (by assumption), ?_⟩
  refine brB_no (by first | rfl | (simp; done) | (simp; omega)) ?_
  refine ⟨_, eqMapS _ (by omega) (by assumption), ?_⟩
  refine brB_no (by first | rfl | (simp; done) | (simp; omega)) ?_
  refine ⟨_, _, markMapS _ 1 (by omega) (by omega) (by omega) (by assumption), ?_⟩
  refine ⟨_, heldMapS _ 1 (by omega) (by omega) (by omega) (by assumption), ?_⟩
  refine brB_no (by first | rfl | (simp; done) | (simp; omega)) ?_
  refine brB_no (by first | rfl | (simp; done) | (simp; omega)) ?_
  refine ⟨_, _, _, _, _, _, toPool _ (by assumption), ?_⟩
  refine ⟨_, run_impl_MapsOf p hS w_p.siz, ?_⟩
  refine ⟨_, eqMapS _ (by omega) (by assumption), ?_⟩
  refine brB_no (by first | rfl | (simp; done) | (simp; omega)) ?_
  refine ⟨_, heldMapS _ 1 (by omega) (by omega) (by omega) (by assumption), ?_⟩
  refine brB_no (by first | rfl | (simp; done) | (simp; omega)) ?_
  refine brB_no (by first | rfl | (simp; done) | (simp; omega)) ?_
  exact ⟨rfl, by first | rfl | trivial⟩
theorem all_MapsOf (vs : List TV) (h : WfVs C.tt [t_laws_Pool] vs) : ∃ k, callP C k laws_FnExactMapsOf vs (vB true) [] := by
  cases h with
  | cons h0 h => 
    cases h
    obtain ⟨p, rfl, wp⟩ := v_pool h0
    exact law_MapsOf p wp
end Go.T.R
