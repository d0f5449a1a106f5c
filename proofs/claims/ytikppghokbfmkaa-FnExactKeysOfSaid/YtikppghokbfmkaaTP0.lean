/- What the functions answer. -/
import Derived.Test.YtikppghokbfmkaaTR0
set_option linter.unusedVariables false
set_option linter.unusedSimpArgs false
set_option maxRecDepth 100000
namespace Go.T.R
open Go Go.T
theorem toKey (v0 : Int) (v1 : Int) (v2 : Int) (v3 : Int) (v4 : Int) : RunF C laws_toKey [.ag [iI v0, iI v1, iI v2, iI v3, iI v4]] (.ag [iI v0, iI v1, iI v2, iI v3, iI v4]) [] := (f_laws_toKey _ _ _ _ _ _ ⟨rfl, rfl⟩).run
theorem eqKey (v0 : Int) (v1 : Int) (v2 : Int) (v3 : Int) (v4 : Int) : RunF C laws_eqKey [.ag [iI v0, iI v1, iI v2, iI v3, iI v4], .ag [iI v0, iI v1, iI v2, iI v3, iI v4]] (vB true) [] := by
  refine (f_laws_eqKey _ _ _ _ _ _ _ _ _ _ _ ?_).run
  simp
theorem toKeyS (l : List (Key)) (hl : l.length ≤ 1099511627776) : RunF C laws_toKeyS [vKeys l] (vKeys l) [] := by
  refine (f_laws_toKeyS _ _ ?_).run
  simp only [List.length_map]
  refine brB_yes (by simp; omega) ?_
  simp only [ofNat_cast, numI_eq, Int.toNat_natCast]
  refine cp_loop (e := keyC) (z := [iI 0, iI 0, iI 0, iI 0, iI 0]) l (fun i rows => LoopG C laws_toKeyS pRRLRB 4 0 (s_laws_toKeyS_0 (l.map keyC) i rows) _) (fun a => rfl) ?_ ?_
  · exact r_laws_toKeyS_0 _ _ _ _ (brB_no (by simp) (a_laws_toKeyS_1 _ _ _ _ _ ⟨rfl, rfl⟩))
  · intro i rows a hi ha hr hn
    refine r_laws_toKeyS_0 _ _ _ _ (brB_yes (by simp; omega) ⟨_, _, _, _, _, rowAt_map ha, _, _, _, _, _, toKey _ _ _ _ _, _, _, _, _, _, hr, _, _, _, _, _, hr, ?_⟩)
    rw [addW_eq (by omega)]
    exact hn
theorem eqKeyS (l : List (Key)) (hl : l.length ≤ 1099511627776) : RunF C laws_eqKeyS [vKeys l, vKeys l] (vB true) [] := by
  refine (f_laws_eqKeyS _ _ _ ?_).run
  refine brB_no (by simp) ?_
  refine idx_walk l (fun i => LoopG C laws_eqKeyS pRRLRB 4 0 (s_laws_eqKeyS_0 (l.map keyC) (l.map keyC) i) _) ?_ ?_
  · exact r_laws_eqKeyS_0 _ _ _ _ (brB_no (by simp) (a_laws_eqKeyS_2 _ _ _ _ _ ⟨rfl, rfl⟩))
  · intro i a hi ha _ _ hn
    refine r_laws_eqKeyS_0 _ _ _ _ (brB_yes (by simp; omega) ⟨_, _, _, _, _, rowAt_map ha, _, _, _, _, _, rowAt_map ha, _, eqKey _ _ _ _ _, brB_no (by simp) ?_⟩)
    rw [addW_eq (by omega)]
    exact hn
theorem toIntS (l : List (Int)) (hl : l.length ≤ 1099511627776) : RunF C laws_toIntS [vInts l] (vInts l) [] := by
  refine (f_laws_toIntS _ _ ?_).run
  simp only [List.length_map]
  refine brB_yes (by simp; omega) ?_
  simp only [ofNat_cast, numI_eq, Int.toNat_natCast]
  refine cp_loop (e := intC) (z := [iI 0]) l (fun i rows => LoopG C laws_toIntS pRRLRB 4 0 (s_laws_toIntS_0 (l.map intC) i rows) _) (fun a => rfl) ?_ ?_
  · exact r_laws_toIntS_0 _ _ _ _ (brB_no (by simp) (a_laws_toIntS_1 _ _ _ _ _ ⟨rfl, rfl⟩))
  · intro i rows a hi ha hr hn
    refine r_laws_toIntS_0 _ _ _ _ (brB_yes (by simp; omega) ⟨_, rowAt_map ha, _, hr, _, hr, ?_⟩)
    rw [addW_eq (by omega)]
    exact hn
theorem eqIntS (l : List (Int)) (hl : l.length ≤ 1099511627776) : RunF C laws_eqIntS [vInts l, vInts l] (vB true) [] := by
  refine (f_laws_eqIntS _ _ _ ?_).run
  refine brB_no (by simp) ?_
  refine idx_walk l (fun i => LoopG C laws_eqIntS pRRLRB 4 0 (s_laws_eqIntS_0 (l.map intC) (l.map intC) i) _) ?_ ?_
  · exact r_laws_eqIntS_0 _ _ _ _ (brB_no (by simp) (a_laws_eqIntS_2 _ _ _ _ _ ⟨rfl, rfl⟩))
  · intro i a hi ha _ _ hn
    refine r_laws_eqIntS_0 _ _ _ _ (brB_yes (by simp; omega) ⟨_, rowAt_map ha, _, rowAt_map ha, brB_no (by simp) ?_⟩)
    rw [addW_eq (by omega)]
    exact hn
theorem toKeySS (l : List (List Key)) (hl : l.length ≤ 1099511627776) (hs : ∀ s ∈ l, s.length ≤ 1099511627776) : RunF C laws_toKeySS [vSets l] (vSets l) [] := by
  refine (f_laws_toKeySS _ _ ?_).run
  simp only [List.length_map]
  refine brB_yes (by simp; omega) ?_
  simp only [ofNat_cast, numI_eq, Int.toNat_natCast]
  refine cp_loop (e := setC) (z := [TC.sub 5 []]) l (fun i rows => LoopG C laws_toKeySS pRRLRB 4 0 (s_laws_toKeySS_0 (l.map setC) i rows) _) (fun a => rfl) ?_ ?_
  · exact r_laws_toKeySS_0 _ _ _ _ (brB_no (by simp) (a_laws_toKeySS_1 _ _ _ _ _ ⟨rfl, rfl⟩))
  · intro i rows a hi ha hr hn
    refine r_laws_toKeySS_0 _ _ _ _ (brB_yes (by simp; omega) ⟨_, rowAt_map ha, _, toKeyS _ (hs _ (List.mem_of_getElem? ha)), _, hr, _, hr, ?_⟩)
    rw [addW_eq (by omega)]
    exact hn
def NodeB (n : List (List Key)) : Prop := n.length ≤ 1099511627776 ∧ ∀ s ∈ n, s.length ≤ 1099511627776
def NodesB (l : List (List (List Key))) : Prop := l.length ≤ 1099511627776 ∧ ∀ n ∈ l, NodeB n
def TreeB (t : Tree) : Prop := t.lows.length ≤ 1099511627776 ∧ NodesB t.nodes
theorem toNode (n : List (List Key)) (h : NodeB n) : RunF C laws_toNode [vNode n] (vNode n) [] := (f_laws_toNode _ _ ⟨_, toKeySS n h.1 h.2, rfl, rfl⟩).run
theorem toNodeS (l : List (List (List Key))) (hl : l.length ≤ 1099511627776) (hs : ∀ n ∈ l, NodeB n) : RunF C laws_toNodeS [vNodes l] (vNodes l) [] := by
  refine (f_laws_toNodeS _ _ ?_).run
  simp only [List.length_map]
  refine brB_yes (by simp; omega) ?_
  simp only [ofNat_cast, numI_eq, Int.toNat_natCast]
  refine cp_loop (e := nodeC) (z := [TC.sub 1 []]) l (fun i rows => LoopG C laws_toNodeS pRRLRB 4 0 (s_laws_toNodeS_0 (l.map nodeC) i rows) _) (fun a => rfl) ?_ ?_
  · exact r_laws_toNodeS_0 _ _ _ _ (brB_no (by simp) (a_laws_toNodeS_1 _ _ _ _ _ ⟨rfl, rfl⟩))
  · intro i rows a hi ha hr hn
    refine r_laws_toNodeS_0 _ _ _ _ (brB_yes (by simp; omega) ⟨_, rowAt_map ha, _, toNode _ (hs _ (List.mem_of_getElem? ha)), _, hr, _, hr, ?_⟩)
    rw [addW_eq (by omega)]
    exact hn
theorem toTree (t : Tree) (h : TreeB t) : RunF C laws_toTree [vTree t] (vTree t) [] := (f_laws_toTree _ _ _ ⟨_, toIntS _ h.1, _, toNodeS _ h.2.1 h.2.2, rfl, rfl⟩).run
theorem eqKeySS (l : List (List Key)) (hl : l.length ≤ 1099511627776) (hs : ∀ s ∈ l, s.length ≤ 1099511627776) : RunF C laws_eqKeySS [vSets l, vSets l] (vB true) [] := by
  refine (f_laws_eqKeySS _ _ _ ?_).run
  refine brB_no (by simp) ?_
  refine idx_walk l (fun i => LoopG C laws_eqKeySS pRRLRB 4 0 (s_laws_eqKeySS_0 (l.map setC) (l.map setC) i) _) ?_ ?_
  · exact r_laws_eqKeySS_0 _ _ _ _ (brB_no (by simp) (a_laws_eqKeySS_2 _ _ _ _ _ ⟨rfl, rfl⟩))
  · intro i a hi ha _ _ hn
    refine r_laws_eqKeySS_0 _ _ _ _ (brB_yes (by simp; omega) ⟨_, rowAt_map ha, _, rowAt_map ha, _, eqKeyS _ (hs _ (List.mem_of_getElem? ha)), brB_no (by simp) ?_⟩)
    rw [addW_eq (by omega)]
    exact hn
theorem eqNode (n : List (List Key)) (h : NodeB n) : RunF C laws_eqNode [vNode n, vNode n] (vB true) [] := (f_laws_eqNode _ _ _ ⟨_, eqKeySS n h.1 h.2, by simp⟩).run
theorem eqNodeS (l : List (List (List Key))) (hl : l.length ≤ 1099511627776) (hs : ∀ n ∈ l, NodeB n) : RunF C laws_eqNodeS [vNodes l, vNodes l] (vB true) [] := by
  refine (f_laws_eqNodeS _ _ _ ?_).run
  refine brB_no (by simp) ?_
  refine idx_walk l (fun i => LoopG C laws_eqNodeS pRRLRB 4 0 (s_laws_eqNodeS_0 (l.map nodeC) (l.map nodeC) i) _) ?_ ?_
  · exact r_laws_eqNodeS_0 _ _ _ _ (brB_no (by simp) (a_laws_eqNodeS_2 _ _ _ _ _ ⟨rfl, rfl⟩))
  · intro i a hi ha _ _ hn
    refine r_laws_eqNodeS_0 _ _ _ _ (brB_yes (by simp; omega) ⟨_, rowAt_map ha, _, rowAt_map ha, _, eqNode _ (hs _ (List.mem_of_getElem? ha)), brB_no (by simp) ?_⟩)
    rw [addW_eq (by omega)]
    exact hn
theorem eqTree (t : Tree) (h : TreeB t) : RunF C laws_eqTree [vTree t, vTree t] (vB true) [] := (f_laws_eqTree _ _ _ _ _ ⟨_, eqIntS _ h.1, brB_no rfl ⟨_, eqNodeS _ h.2.1 h.2.2, by simp⟩⟩).run
theorem szIntS (l : List (Int)) (left : Int) (h0 : 0 ≤ left ∧ left ≤ 1048576) (hl : l.length ≤ 140737488355328) : RunF C laws_szIntS [vInts l, vI left] (vI (lft left l.length)) [] := by
  refine (f_laws_szIntS _ _ _ ?_).run
  simp only [List.length_map, ofNat_cast]
  rw [subW_eq (by omega)]
  unfold lft
  simp only [ltI_eq, brB_dec]
  by_cases h : left < (l.length : Int)
  · rw [if_pos (by omega), if_pos h]; exact ⟨rfl, by first | rfl | trivial⟩
  · rw [if_neg (by omega), if_neg h]; exact ⟨rfl, by first | rfl | trivial⟩
theorem szKeyS (l : List (Key)) (left : Int) (h0 : 0 ≤ left ∧ left ≤ 1048576) (hl : l.length ≤ 140737488355328) : RunF C laws_szKeyS [vKeys l, vI left] (vI (lft left l.length)) [] := by
  refine (f_laws_szKeyS _ _ _ ?_).run
  simp only [List.length_map, ofNat_cast]
  rw [subW_eq (by omega)]
  unfold lft
  simp only [ltI_eq, brB_dec]
  by_cases h : left < (l.length : Int)
  · rw [if_pos (by omega), if_pos h]; exact ⟨rfl, by first | rfl | trivial⟩
  · rw [if_neg (by omega), if_neg h]; exact ⟨rfl, by first | rfl | trivial⟩
theorem szKeySS (l : List (List Key)) (left : Int) (h0 : 0 ≤ left ∧ left ≤ 1048576) (hl : l.length ≤ 140737488355328) (hs : ∀ s ∈ l, s.length ≤ 140737488355328) : RunF C laws_szKeySS [vSets l, vI left] (vI (lft left (l.length + tot szSet l))) [] := by
  refine (f_laws_szKeySS _ _ _ ?_).run
  simp only [List.length_map, ofNat_cast]
  rw [subW_eq (by omega)]
  simp only [ltI_eq, brB_dec]
  by_cases h : left < (l.length : Int)
  · rw [if_pos (by omega)]
    refine ⟨?_, by first | rfl | trivial⟩
    unfold lft
    rw [if_pos (by omega)]
  · rw [if_neg (by omega)]
    have key : ∀ cur : Int, 0 ≤ cur ∧ cur ≤ 1048576 → lft cur (tot szSet (l.drop 0)) = lft left (l.length + tot szSet l) → LoopG C laws_szKeySS pRRRLRB 4 0 (s_laws_szKeySS_0 (l.map setC) cur ((0 : Nat) : Int)) (fun x st => AftF C laws_szKeySS pRRRLRB x st fun r fs => r = vI (lft left (l.length + tot szSet l)) ∧ fs = []) := by
      refine idx_walk l (fun i => ∀ cur : Int, 0 ≤ cur ∧ cur ≤ 1048576 → lft cur (tot szSet (l.drop i)) = lft left (l.length + tot szSet l) → LoopG C laws_szKeySS pRRRLRB 4 0 (s_laws_szKeySS_0 (l.map setC) cur i) _) ?_ ?_
      · intro cur hc he
        refine r_laws_szKeySS_0 _ _ _ _ (brB_no (by simp) (a_laws_szKeySS_2 _ _ _ _ _ ⟨?_, rfl⟩))
        rw [← he, List.drop_length]
        unfold lft tot
        rw [if_neg (by omega)]
        simp
      · intro i a hi ha hd _ hn cur hc he
        rw [hd] at he
        simp only [tot] at he
        refine r_laws_szKeySS_0 _ _ _ _ (brB_yes (by simp; omega) ⟨_, rowAt_map ha, _, szKeyS a cur hc (hs a (List.mem_of_getElem? ha)), ?_⟩)
        by_cases hw : cur < (szSet a : Int)
        · refine brB_yes (by simp [lft, szSet] at hw ⊢; omega) (a_laws_szKeySS_1 _ ⟨?_, rfl⟩)
          rw [← he]
          unfold lft
          rw [if_pos (by omega)]
        · have hl2 : lft cur (szSet a) = cur - szSet a := if_neg hw
          refine brB_no (by simp [lft, szSet] at hw ⊢; omega) ?_
          rw [addW_eq (by omega)]
          have := hn (cur - szSet a) (by omega) (by rw [← he]; unfold lft; split <;> split <;> omega)
          rw [← hl2] at this
          exact this
    refine key (left - l.length) (by omega) ?_
    simp only [List.drop_zero]
    unfold lft
    split <;> split <;> omega
theorem szNode_run (n : List (List Key)) (left : Int) (h0 : 0 ≤ left ∧ left ≤ 1048576) (hl : n.length ≤ 140737488355328) (hs : ∀ s ∈ n, s.length ≤ 140737488355328) : RunF C laws_szNode [vNode n, vI left] (vI (lft left (szNode n))) [] := by
  refine (f_laws_szNode _ _ _ ⟨_, szKeySS n left h0 hl hs, ?_⟩).run
  show brB _ _ _
  unfold szNode
  simp only [ltI_eq, brB_dec]
  split
  · refine ⟨?_, by first | rfl | trivial⟩
    unfold lft at *
    split <;> simp_all <;> omega
  · simp
theorem szNodeS (l : List (List (List Key))) (left : Int) (h0 : 0 ≤ left ∧ left ≤ 1048576) (hl : l.length ≤ 140737488355328) (hs : ∀ n ∈ l, n.length ≤ 140737488355328 ∧ ∀ s ∈ n, s.length ≤ 140737488355328) : RunF C laws_szNodeS [vNodes l, vI left] (vI (lft left (l.length + tot szNode l))) [] := by
  refine (f_laws_szNodeS _ _ _ ?_).run
  simp only [List.length_map, ofNat_cast]
  rw [subW_eq (by omega)]
  simp only [ltI_eq, brB_dec]
  by_cases h : left < (l.length : Int)
  · rw [if_pos (by omega)]
    refine ⟨?_, by first | rfl | trivial⟩
    unfold lft
    rw [if_pos (by omega)]
  · rw [if_neg (by omega)]
    have key : ∀ cur : Int, 0 ≤ cur ∧ cur ≤ 1048576 → lft cur (tot szNode (l.drop 0)) = lft left (l.length + tot szNode l) → LoopG C laws_szNodeS pRRRLRB 4 0 (s_laws_szNodeS_0 (l.map nodeC) cur ((0 : Nat) : Int)) (fun x st => AftF C laws_szNodeS pRRRLRB x st fun r fs => r = vI (lft left (l.length + tot szNode l)) ∧ fs = []) := by
      refine idx_walk l (fun i => ∀ cur : Int, 0 ≤ cur ∧ cur ≤ 1048576 → lft cur (tot szNode (l.drop i)) = lft left (l.length + tot szNode l) → LoopG C laws_szNodeS pRRRLRB 4 0 (s_laws_szNodeS_0 (l.map nodeC) cur i) _) ?_ ?_
      · intro cur hc he
        refine r_laws_szNodeS_0 _ _ _ _ (brB_no (by simp) (a_laws_szNodeS_2 _ _ _ _ _ ⟨?_, rfl⟩))
        rw [← he, List.drop_length]
        unfold lft tot
        rw [if_neg (by omega)]
        simp
      · intro i a hi ha hd _ hn cur hc he
        rw [hd] at he
        simp only [tot] at he
        refine r_laws_szNodeS_0 _ _ _ _ (brB_yes (by simp; omega) ⟨_, rowAt_map ha, _, szNode_run a cur hc (hs a (List.mem_of_getElem? ha)).1 (hs a (List.mem_of_getElem? ha)).2, ?_⟩)
        by_cases hw : cur < (szNode a : Int)
        · refine brB_yes (by simp [lft, szNode] at hw ⊢; omega) (a_laws_szNodeS_1 _ ⟨?_, rfl⟩)
          rw [← he]
          unfold lft
          rw [if_pos (by omega)]
        · have hl2 : lft cur (szNode a) = cur - szNode a := if_neg hw
          refine brB_no (by simp [lft, szNode] at hw ⊢; omega) ?_
          rw [addW_eq (by omega)]
          have := hn (cur - szNode a) (by omega) (by rw [← he]; unfold lft; split <;> split <;> omega)
          rw [← hl2] at this
          exact this
    refine key (left - l.length) (by omega) ?_
    simp only [List.drop_zero]
    unfold lft
    split <;> split <;> omega
theorem lft_lft {a : Int} {n m : Nat} (h : ¬ lft a n < 0) (h0 : 0 ≤ a) : lft (lft a n) m = lft a (n + m) := by unfold lft at *; split <;> split <;> split <;> simp_all <;> omega
theorem lft_in {a : Int} {n : Nat} (h : ¬ lft a n < 0) (h0 : 0 ≤ a ∧ a ≤ 1048576) : 0 ≤ lft a n ∧ lft a n ≤ 1048576 := by unfold lft at *; split <;> simp_all <;> omega
theorem lft_neg {a : Int} {n m : Nat} (h : lft a n < 0) (h0 : 0 ≤ a) : lft a (n + m) = -1 := by unfold lft at *; split <;> simp_all <;> omega
structure TreeW (t : Tree) : Prop where
  lows : t.lows.length ≤ 140737488355328
  nodes : t.nodes.length ≤ 140737488355328
  node : ∀ n ∈ t.nodes, n.length ≤ 140737488355328 ∧ ∀ s ∈ n, s.length ≤ 140737488355328
theorem szTree_run (t : Tree) (left : Int) (h0 : 0 ≤ left ∧ left ≤ 1048576) (h : TreeW t) : RunF C laws_szTree [vTree t, vI left] (vI (lft left (szTree t))) [] := by
  refine (f_laws_szTree _ _ _ _ ⟨_, szIntS _ left h0 h.lows, ?_⟩).run
  unfold szTree szNodes
  refine brB_both (fun hb => ?_) fun hb => ⟨_, szNodeS _ _ (lft_in (by simpa using hb) h0) h.nodes h.node, ?_⟩
  · rw [lft_neg (by simpa using hb) h0.1]; exact ⟨rfl, by first | rfl | trivial⟩
  · have hb : ¬ lft left t.lows.length < 0 := by simpa using hb
    rw [lft_lft hb h0.1]
    refine brB_both (fun hc => ?_) fun hc => ⟨rfl, rfl⟩
    refine ⟨?_, rfl⟩
    have hc : lft left (t.lows.length + (t.nodes.length + tot szNode t.nodes)) < 0 := by simpa using hc
    unfold lft at *
    split <;> simp_all <;> omega
@[simp] theorem c_impl_LessKey (b a k c g b' a' k' c' g' : Int) (q : Bool) : RunF C impl_LessKey [.ag [iI b, iI a, iI k, iI c, iI g], .ag [iI b', iI a', iI k', iI c', iI g']] (vB q) [] ↔ q = lessKey ⟨b, a, k, c, g⟩ ⟨b', a', k', c', g'⟩ := iffB (by
  refine (f_impl_LessKey _ _ _ _ _ _ _ _ _ _ _ ?_).run
  simp only [ltI_eq, eqI_eq, brB_dec, lessKey]
  by_cases h1 : b < b' <;> by_cases h2 : b = b' <;> simp_all)
@[simp] theorem c_spec_LessKey (b a k c g b' a' k' c' g' : Int) (q : Bool) : RunF C spec_LessKey [.ag [iI b, iI a, iI k, iI c, iI g], .ag [iI b', iI a', iI k', iI c', iI g']] (vB q) [] ↔ q = lessKey ⟨b, a, k, c, g⟩ ⟨b', a', k', c', g'⟩ := iffB (by
  refine (f_spec_LessKey _ _ _ _ _ _ _ _ _ _ _ ?_).run
  simp only [ltI_eq, eqI_eq, brB_not, brB_dec, lessKey]
  by_cases h2 : b = b' <;> simp_all)
@[simp] theorem c_impl_SameSpot (b a k c g b' a' k' c' g' : Int) (q : Bool) : RunF C impl_SameSpot [.ag [iI b, iI a, iI k, iI c, iI g], .ag [iI b', iI a', iI k', iI c', iI g']] (vB q) [] ↔ q = sameSpot ⟨b, a, k, c, g⟩ ⟨b', a', k', c', g'⟩ := iffB (by
  refine (f_impl_SameSpot _ _ _ _ _ _ _ _ _ _ _ ?_).run
  simp only [ltI_eq, eqI_eq, brB_not, brB_dec, sameSpot]
  by_cases h2 : b = b' <;> simp_all)
@[simp] theorem c_spec_SameSpot (b a k c g b' a' k' c' g' : Int) (q : Bool) : RunF C spec_SameSpot [.ag [iI b, iI a, iI k, iI c, iI g], .ag [iI b', iI a', iI k', iI c', iI g']] (vB q) [] ↔ q = sameSpot ⟨b, a, k, c, g⟩ ⟨b', a', k', c', g'⟩ := iffB (by
  refine (f_spec_SameSpot _ _ _ _ _ _ _ _ _ _ _ ?_).run
  simp only [ltI_eq, eqI_eq, brB_not, brB_dec, sameSpot]
  by_cases h2 : b = b' <;> simp_all)
/-! sets that are put to -/
theorem run_spec_SetPut (l : List Key) (x : Key) (hl : l.length ≤ 1073741824) : RunF C spec_SetPut [vKeys l, vKey x] (vKeys (setPut l x)) [] := by
  refine (f_spec_SetPut _ _ _ _ _ _ _ ?_).run
  have key : ∀ (put : Bool) (acc : List Key), acc.length + (l.drop 0).length ≤ l.length + (if put then 1 else 0) → acc ++ setPutF x put (l.drop 0) = setPut l x → LoopG C spec_SetPut pRRRLRB 4 0 (s_spec_SetPut_0 (l.map keyC) put ((0 : Nat) : Int) x.b x.a x.k x.c x.g (acc.map keyC)) (fun u st => AftF C spec_SetPut pRRRLRB u st fun r fs => r = vKeys (setPut l x) ∧ fs = []) := by
    refine idx_walk l (fun i => ∀ (put : Bool) (acc : List Key), acc.length + (l.drop i).length ≤ l.length + (if put then 1 else 0) → acc ++ setPutF x put (l.drop i) = setPut l x → LoopG C spec_SetPut pRRRLRB 4 0 (s_spec_SetPut_0 (l.map keyC) put i x.b x.a x.k x.c x.g (acc.map keyC)) _) ?_ ?_
    · intro put acc hb he
      refine r_spec_SetPut_0 _ _ _ _ _ _ _ _ _ _ (brB_no (by simp) (a_spec_SetPut_1 _ _ _ _ _ _ _ _ _ _ _ ?_))
      simp only [app_key, key_eta, allSc_key1, Bool.true_and, brB_not, succ_len, List.length_map]
      have hb2 : acc.length ≤ l.length + 1 := by simp at hb; split at hb <;> omega
      rw [fitsT (by omega)]
      rw [List.drop_length] at he
      cases put <;> simp [setPutF] at he ⊢ <;> rw [← he] <;> simp
    · intro i a hi ha hd _ hn put acc hb he
      rw [hd] at hb he
      simp only [List.length_cons] at hb
      have hb' : acc.length + (List.drop (i + 1) l).length + 1 ≤ l.length + 1 := by split at hb <;> omega
      refine r_spec_SetPut_0 _ _ _ _ _ _ _ _ _ _ (brB_yes (by simp; omega) ?_)
      simp only [ex_key, getZ_nat, ha, Option.some.injEq, exists_eq_left', c_spec_LessKey, c_spec_SameSpot, exists_eq_left, brB_not, key_eta, app_key, allSc_key1, Bool.true_and, succ_len, List.length_map, List.length_append, List.length_singleton]
      simp (disch := omega) only [fitsT, addW_eq, brB_t]
      simp only [setPutF] at he
      cases put <;> cases hk : lessKey a x <;> cases hs : sameSpot a x <;> simp only [brB_t, brB_f] <;> simp [hk, hs] at he hb <;> exact hn _ _ (by simp at hb ⊢; omega) (by simpa using he)
  exact key false [] (by simp) rfl
@[simp] theorem c_spec_SetPut (l : List Key) (hl : l.length ≤ 1073741824) (b a k c g : Int) (q : RR) : RunF C spec_SetPut [.c (.sub 5 (l.map keyC)), .ag [iI b, iI a, iI k, iI c, iI g]] (.c (.sub 5 q)) [] ↔ q = (setPut l ⟨b, a, k, c, g⟩).map keyC := iffL (run_spec_SetPut l ⟨b, a, k, c, g⟩ hl)
theorem run_impl_SetPut (l : List Key) (x : Key) (hl : l.length ≤ 1073741824) : RunF C impl_SetPut [vKeys l, vKey x] (vKeys (setPut l x)) [] := by
  refine (f_impl_SetPut _ _ _ _ _ _ _ ?_).run
  have key : ∀ (put : Bool) (acc : List Key), acc.length + (l.drop 0).length ≤ l.length + (if put then 1 else 0) → acc ++ setPutF x put (l.drop 0) = setPut l x → LoopG C impl_SetPut pRRRLRB 4 0 (s_impl_SetPut_0 put (l.map keyC) ((0 : Nat) : Int) x.b x.a x.k x.c x.g (acc.map keyC)) (fun u st => AftF C impl_SetPut pRRRLRB u st fun r fs => r = vKeys (setPut l x) ∧ fs = []) := by
    refine idx_walk l (fun i => ∀ (put : Bool) (acc : List Key), acc.length + (l.drop i).length ≤ l.length + (if put then 1 else 0) → acc ++ setPutF x put (l.drop i) = setPut l x → LoopG C impl_SetPut pRRRLRB 4 0 (s_impl_SetPut_0 put (l.map keyC) i x.b x.a x.k x.c x.g (acc.map keyC)) _) ?_ ?_
    · intro put acc hb he
      refine r_impl_SetPut_0 _ _ _ _ _ _ _ _ _ _ (brB_no (by simp) (a_impl_SetPut_1 _ _ _ _ _ _ _ _ _ _ _ _ ?_))
      simp only [app_key, key_eta, allSc_key1, Bool.true_and, brB_not, succ_len, List.length_map]
      have hb2 : acc.length ≤ l.length + 1 := by simp at hb; split at hb <;> omega
      rw [fitsT (by omega)]
      rw [List.drop_length] at he
      cases put <;> simp [setPutF] at he ⊢ <;> rw [← he] <;> simp
    · intro i a hi ha hd _ hn put acc hb he
      rw [hd] at hb he
      simp only [List.length_cons] at hb
      have hb' : acc.length + (List.drop (i + 1) l).length + 1 ≤ l.length + 1 := by split at hb <;> omega
      refine r_impl_SetPut_0 _ _ _ _ _ _ _ _ _ _ (brB_yes (by simp; omega) ?_)
      simp only [ex_key, getZ_nat, ha, Option.some.injEq, exists_eq_left', c_impl_LessKey, c_impl_SameSpot, exists_eq_left, brB_not, key_eta, app_key, allSc_key1, Bool.true_and, succ_len, List.length_map, List.length_append, List.length_singleton]
      simp (disch := omega) only [fitsT, addW_eq, brB_t]
      simp only [setPutF] at he
      cases put <;> cases hk : lessKey a x <;> cases hs : sameSpot a x <;> simp only [brB_t, brB_f] <;> simp [hk, hs] at he hb <;> exact hn _ _ (by simp at hb ⊢; omega) (by simpa using he)
  exact key false [] (by simp) rfl
@[simp] theorem c_impl_SetPut (l : List Key) (hl : l.length ≤ 1073741824) (b a k c g : Int) (q : RR) : RunF C impl_SetPut [.c (.sub 5 (l.map keyC)), .ag [iI b, iI a, iI k, iI c, iI g]] (.c (.sub 5 q)) [] ↔ q = (setPut l ⟨b, a, k, c, g⟩).map keyC := iffL (run_impl_SetPut l ⟨b, a, k, c, g⟩ hl)
theorem run_spec_MergeSets (old new : List Key) (hl : old.length + new.length ≤ 1073741824) : RunF C spec_MergeSets [vKeys old, vKeys new] (vKeys (mergeSets old new)) [] := by
  refine (f_spec_MergeSets _ _ _ ?_).run
  rw [allSc_key, fitsT (by simp; omega)]
  refine brB_yes rfl ?_
  have key : ∀ (acc : List Key), acc.length + (new.drop 0).length ≤ old.length + new.length → mergeSets acc (new.drop 0) = mergeSets old new → LoopG C spec_MergeSets pRRLRB 4 0 (s_spec_MergeSets_0 (new.map keyC) ((0 : Nat) : Int) (acc.map keyC)) (fun u st => AftF C spec_MergeSets pRRLRB u st fun r fs => r = (vKeys (mergeSets old new)) ∧ fs = []) := by
    refine idx_walk new (fun i => ∀ (acc : List Key), acc.length + (new.drop i).length ≤ old.length + new.length → mergeSets acc (new.drop i) = mergeSets old new → LoopG C spec_MergeSets pRRLRB 4 0 (s_spec_MergeSets_0 (new.map keyC) i (acc.map keyC)) (fun u st => AftF C spec_MergeSets pRRLRB u st fun r fs => r = (vKeys (mergeSets old new)) ∧ fs = [])) ?_ ?_
    · intro acc h0 h1
      refine r_spec_MergeSets_0 _ _ _ _ (brB_no (by simp) (a_spec_MergeSets_1 _ _ _ _ _ ?_))
      rw [List.drop_length] at h1
      rw [← h1]
      exact ⟨rfl, rfl⟩
    · intro i a hi ha hd ht hn acc h0 h1
      refine r_spec_MergeSets_0 _ _ _ _ (brB_yes (by simp; omega) ?_)
      rw [hd] at h0 h1
      simp only [List.length_cons] at h0
      simp only [ex_key, c_spec_SetPut acc (by omega), getZ_nat, ha, Option.some.injEq, exists_eq_left', exists_eq_left, brB_not, brB_and, brB_or, key_eta, age_eta, cell_eta, vol_eta, map_eta, op_eta, succ_len, natAdd, List.length_map, List.length_append, List.length_singleton, Bool.true_and, Bool.and_true]
      rw [addW_eq (by omega)]
      have h2 := setPut_len acc a
      exact hn _ (by omega) (by rw [← h1]; rfl)
  exact key old (by simp) rfl
theorem c_spec_MergeSets (old new : List Key) (hl : old.length + new.length ≤ 1073741824) (q : RR) : RunF C spec_MergeSets [vKeys old, vKeys new] (.c (.sub 5 q)) [] ↔ q = (mergeSets old new).map keyC := iffL (run_spec_MergeSets old new hl)
theorem run_spec_Drop (l : List Key) (hl : l.length ≤ 1073741824) : RunF C spec_Drop [vKeys l] (vKeys (dropN l)) [] := by
  refine (f_spec_Drop _ _ ?_).run
  have key : ∀ (acc : List Key), acc.length + (l.drop 0).length ≤ l.length → acc ++ dropN (l.drop 0) = dropN l → LoopG C spec_Drop pRRLRB 4 0 (s_spec_Drop_0 (l.map keyC) ((0 : Nat) : Int) (acc.map keyC)) (fun u st => AftF C spec_Drop pRRLRB u st fun r fs => r = (vKeys (dropN l)) ∧ fs = []) := by
    refine idx_walk l (fun i => ∀ (acc : List Key), acc.length + (l.drop i).length ≤ l.length → acc ++ dropN (l.drop i) = dropN l → LoopG C spec_Drop pRRLRB 4 0 (s_spec_Drop_0 (l.map keyC) i (acc.map keyC)) (fun u st => AftF C spec_Drop pRRLRB u st fun r fs => r = (vKeys (dropN l)) ∧ fs = [])) ?_ ?_
    · intro acc h0 h1
      refine r_spec_Drop_0 _ _ _ _ (brB_no (by simp) (a_spec_Drop_1 _ _ _ _ _ ?_))
      rw [List.drop_length] at h1
      simp [dropN] at h1
      simp [dropN, h1]
    · intro i a hi ha hd ht hn acc h0 h1
      refine r_spec_Drop_0 _ _ _ _ (brB_yes (by simp; omega) ?_)
      rw [hd] at h0 h1
      simp only [List.length_cons] at h0
      simp only [ex_key, app_key, allSc_key1, eqI_eq, brB_dec, getZ_nat, ha, Option.some.injEq, exists_eq_left', exists_eq_left, brB_not, brB_and, brB_or, key_eta, age_eta, cell_eta, vol_eta, map_eta, op_eta, succ_len, natAdd, List.length_map, List.length_append, List.length_singleton, Bool.true_and, Bool.and_true]
      simp (disch := omega) only [fitsT, addW_eq, brB_t]
      by_cases hk : a.k = 0
      · rw [if_pos hk]
        exact hn _ (by omega) (by rw [← h1]; simp [dropN, hk])
      · rw [if_neg hk]
        exact hn (acc ++ [a]) (by simp only [List.length_append, List.length_singleton]; omega) (by rw [← h1]; simp [dropN, hk])
  exact key [] (by simp) rfl
theorem run_spec_NodeKeys (n : List (List Key)) (hb : n.length ≤ 1073741824) (hl : tot szSet n ≤ 1073741824) : RunF C spec_NodeKeys [vNode n] (vKeys (nodeKeys n)) [] := by
  refine (f_spec_NodeKeys _ _ ?_).run
  have key : ∀ (acc : List Key), acc.length + tot szSet (n.drop 0) ≤ tot szSet n → (n.drop 0).foldl mergeSets acc = nodeKeys0 n → LoopG C spec_NodeKeys pRRLRB 4 0 (s_spec_NodeKeys_0 ((0 : Nat) : Int) (n.map setC) (acc.map keyC)) (fun u st => AftF C spec_NodeKeys pRRLRB u st fun r fs => r = (vKeys (nodeKeys n)) ∧ fs = []) := by
    refine idx_walk n (fun i => ∀ (acc : List Key), acc.length + tot szSet (n.drop i) ≤ tot szSet n → (n.drop i).foldl mergeSets acc = nodeKeys0 n → LoopG C spec_NodeKeys pRRLRB 4 0 (s_spec_NodeKeys_0 i (n.map setC) (acc.map keyC)) (fun u st => AftF C spec_NodeKeys pRRLRB u st fun r fs => r = (vKeys (nodeKeys n)) ∧ fs = [])) ?_ ?_
    · intro acc h0 h1
      refine r_spec_NodeKeys_0 _ _ _ _ (brB_no (by simp) (a_spec_NodeKeys_1 _ _ _ _ _ ?_))
      rw [List.drop_length] at h0 h1
      simp only [List.foldl_nil] at h1
      refine ⟨_, run_spec_Drop acc (by omega), ?_⟩
      rw [h1]
      exact ⟨rfl, rfl⟩
    · intro i a hi ha hd ht hn acc h0 h1
      refine r_spec_NodeKeys_0 _ _ _ _ (brB_yes (by simp; omega) ?_)
      rw [hd] at h0 h1
      simp only [tot, szSet] at h0
      simp only [ex_set, c_spec_MergeSets acc a (by omega), getZ_nat, ha, Option.some.injEq, exists_eq_left', exists_eq_left, brB_not, brB_and, brB_or, key_eta, age_eta, cell_eta, vol_eta, map_eta, op_eta, succ_len, natAdd, List.length_map, List.length_append, List.length_singleton, Bool.true_and, Bool.and_true]
      rw [addW_eq (by omega)]
      have h2 := mergeSets_len a acc
      exact hn _ (by omega) (by rw [← h1]; rfl)
  exact key [] (by simp) rfl
theorem c_spec_NodeKeys (n : List (List Key)) (hb : n.length ≤ 1073741824) (hl : tot szSet n ≤ 1073741824) (q : RR) : RunF C spec_NodeKeys [.ag [.sub 1 (n.map setC)]] (.c (.sub 5 q)) [] ↔ q = (nodeKeys n).map keyC := iffL (run_spec_NodeKeys n hb hl)
theorem run_spec_TreeKeys (t : Tree) (hl : szTree t ≤ 1073741824) : RunF C spec_TreeKeys [vTree t] (vKeys (treeKeys t)) [] := by
  refine (f_spec_TreeKeys _ _ _ ?_).run
  have key : ∀ (acc : List Key), acc.length + tot szNode (t.nodes.drop 0) ≤ tot szNode t.nodes → acc ++ (t.nodes.drop 0).flatMap nodeKeys = treeKeys t → LoopG C spec_TreeKeys pRRLRB 4 0 (s_spec_TreeKeys_0 ((0 : Nat) : Int) (t.lows.map intC) (t.nodes.map nodeC) (acc.map keyC)) (fun u st => AftF C spec_TreeKeys pRRLRB u st fun r fs => r = (vKeys (treeKeys t)) ∧ fs = []) := by
    refine idx_walk t.nodes (fun i => ∀ (acc : List Key), acc.length + tot szNode (t.nodes.drop i) ≤ tot szNode t.nodes → acc ++ (t.nodes.drop i).flatMap nodeKeys = treeKeys t → LoopG C spec_TreeKeys pRRLRB 4 0 (s_spec_TreeKeys_0 i (t.lows.map intC) (t.nodes.map nodeC) (acc.map keyC)) (fun u st => AftF C spec_TreeKeys pRRLRB u st fun r fs => r = (vKeys (treeKeys t)) ∧ fs = [])) ?_ ?_
    · intro acc h0 h1
      refine r_spec_TreeKeys_0 _ _ _ _ _ (brB_no (by simp) (a_spec_TreeKeys_1 _ _ _ _ _ _ ?_))
      rw [List.drop_length] at h1
      simp at h1
      simp [h1]
    · intro i a hi ha hd ht hn acc h0 h1
      refine r_spec_TreeKeys_0 _ _ _ _ _ (brB_yes (by have := hi; unfold szTree szNodes at hl; simp; omega) ?_)
      have hz : a.length + tot szSet a ≤ tot szNode t.nodes := tot_get (w := szNode) ha
      rw [hd] at h0 h1
      simp only [tot, szNode] at h0
      unfold szTree szNodes at hl
      have h2 := nodeKeys_len a
      simp only [listApp, ex_node, c_spec_NodeKeys a (by omega) (by omega), allSc_key, getZ_nat, ha, Option.some.injEq, exists_eq_left', exists_eq_left, brB_not, brB_and, brB_or, key_eta, age_eta, cell_eta, vol_eta, map_eta, op_eta, succ_len, natAdd, List.length_map, List.length_append, List.length_singleton, Bool.true_and, Bool.and_true]
      rw [fitsT (by omega), addW_eq (by omega)]
      refine brB_yes rfl ?_
      rw [← List.map_append]
      exact hn _ (by simp; omega) (by rw [← h1]; simp)
  exact key [] (by simp) rfl
theorem run_spec_KeysOf (t : Tree) (b : Int) (hl : szTree t ≤ 1073741824) : RunF C spec_KeysOf [vTree t, vI b] (vKeys (keysOf t b)) [] := by
  refine (f_spec_KeysOf _ _ _ _ ?_).run
  refine ⟨_, run_spec_TreeKeys t hl, ?_⟩
  have key : ∀ (acc : List Key), acc.length + ((treeKeys t).drop 0).length ≤ (treeKeys t).length → acc ++ ((treeKeys t).drop 0).filter (fun k => decide (k.b = b)) = keysOf t b → LoopG C spec_KeysOf pRRRLRB 4 0 (s_spec_KeysOf_0 b ((0 : Nat) : Int) (acc.map keyC) ((treeKeys t).map keyC)) (fun u st => AftF C spec_KeysOf pRRRLRB u st fun r fs => r = (vKeys (keysOf t b)) ∧ fs = []) := by
    refine idx_walk (treeKeys t) (fun i => ∀ (acc : List Key), acc.length + ((treeKeys t).drop i).length ≤ (treeKeys t).length → acc ++ ((treeKeys t).drop i).filter (fun k => decide (k.b = b)) = keysOf t b → LoopG C spec_KeysOf pRRRLRB 4 0 (s_spec_KeysOf_0 b i (acc.map keyC) ((treeKeys t).map keyC)) (fun u st => AftF C spec_KeysOf pRRRLRB u st fun r fs => r = (vKeys (keysOf t b)) ∧ fs = [])) ?_ ?_
    · intro acc h0 h1
      refine r_spec_KeysOf_0 _ _ _ _ _ (brB_no (by simp) (a_spec_KeysOf_1 _ _ _ _ _ _ ?_))
      rw [List.drop_length] at h1
      simp at h1
      simp [h1]
    · intro i a hi ha hd ht hn acc h0 h1
      refine r_spec_KeysOf_0 _ _ _ _ _ (brB_yes (by simp; omega) ?_)
      rw [hd] at h0 h1
      simp only [List.length_cons] at h0
      have hz := treeKeys_len t
      simp only [ex_key, app_key, allSc_key1, eqI_eq, brB_dec, getZ_nat, ha, Option.some.injEq, exists_eq_left', exists_eq_left, brB_not, brB_and, brB_or, key_eta, age_eta, cell_eta, vol_eta, map_eta, op_eta, succ_len, natAdd, List.length_map, List.length_append, List.length_singleton, Bool.true_and, Bool.and_true]
      simp (disch := omega) only [fitsT, addW_eq, brB_t]
      by_cases hk : a.b = b
      · rw [if_pos hk]
        exact hn (acc ++ [a]) (by simp only [List.length_append, List.length_singleton]; omega) (by rw [← h1]; simp [hk])
      · rw [if_neg hk]
        exact hn _ (by omega) (by rw [← h1]; simp [hk])
  exact key [] (by simp) rfl
theorem run_impl_copyKeys (l : List Key) (hl : l.length ≤ 2147483648) : RunF C impl_copyKeys [vKeys l] (vKeys l) [] := by
  refine (f_impl_copyKeys _ _ ?_).run
  rw [allSc_key, fitsT (by simp; omega)]
  exact ⟨rfl, rfl⟩
theorem run_impl_MergeSets (old new : List Key) (hl : old.length + new.length ≤ 1073741824) : RunF C impl_MergeSets [vKeys old, vKeys new] (vKeys (mergeSets old new)) [] := by
  refine (f_impl_MergeSets _ _ _ ?_).run
  refine ⟨_, run_impl_copyKeys old (by omega), ?_⟩
  have key : ∀ (acc : List Key), acc.length + (new.drop 0).length ≤ old.length + new.length → mergeSets acc (new.drop 0) = mergeSets old new → LoopG C impl_MergeSets pRRLRB 4 0 (s_impl_MergeSets_0 (new.map keyC) ((0 : Nat) : Int) (acc.map keyC)) (fun u st => AftF C impl_MergeSets pRRLRB u st fun r fs => r = (vKeys (mergeSets old new)) ∧ fs = []) := by
    refine idx_walk new (fun i => ∀ (acc : List Key), acc.length + (new.drop i).length ≤ old.length + new.length → mergeSets acc (new.drop i) = mergeSets old new → LoopG C impl_MergeSets pRRLRB 4 0 (s_impl_MergeSets_0 (new.map keyC) i (acc.map keyC)) (fun u st => AftF C impl_MergeSets pRRLRB u st fun r fs => r = (vKeys (mergeSets old new)) ∧ fs = [])) ?_ ?_
    · intro acc h0 h1
      refine r_impl_MergeSets_0 _ _ _ _ (brB_no (by simp) (a_impl_MergeSets_1 _ _ _ _ _ _ ?_))
      rw [List.drop_length] at h1
      rw [← h1]
      exact ⟨rfl, rfl⟩
    · intro i a hi ha hd ht hn acc h0 h1
      refine r_impl_MergeSets_0 _ _ _ _ (brB_yes (by simp; omega) ?_)
      rw [hd] at h0 h1
      simp only [List.length_cons] at h0
      simp only [ex_key, c_impl_SetPut acc (by omega), getZ_nat, ha, Option.some.injEq, exists_eq_left', exists_eq_left, brB_not, brB_and, brB_or, key_eta, age_eta, cell_eta, vol_eta, map_eta, op_eta, succ_len, natAdd, List.length_map, List.length_append, List.length_singleton, Bool.true_and, Bool.and_true]
      rw [addW_eq (by omega)]
      have h2 := setPut_len acc a
      exact hn _ (by omega) (by rw [← h1]; rfl)
  exact key old (by simp) rfl
theorem c_impl_MergeSets (old new : List Key) (hl : old.length + new.length ≤ 1073741824) (q : RR) : RunF C impl_MergeSets [vKeys old, vKeys new] (.c (.sub 5 q)) [] ↔ q = (mergeSets old new).map keyC := iffL (run_impl_MergeSets old new hl)
theorem run_impl_Drop (l : List Key) (hl : l.length ≤ 1073741824) : RunF C impl_Drop [vKeys l] (vKeys (dropN l)) [] := by
  refine (f_impl_Drop _ _ ?_).run
  have key : ∀ (acc : List Key), acc.length + (l.drop 0).length ≤ l.length → acc ++ dropN (l.drop 0) = dropN l → LoopG C impl_Drop pRRLRB 4 0 (s_impl_Drop_0 (l.map keyC) ((0 : Nat) : Int) (acc.map keyC)) (fun u st => AftF C impl_Drop pRRLRB u st fun r fs => r = (vKeys (dropN l)) ∧ fs = []) := by
    refine idx_walk l (fun i => ∀ (acc : List Key), acc.length + (l.drop i).length ≤ l.length → acc ++ dropN (l.drop i) = dropN l → LoopG C impl_Drop pRRLRB 4 0 (s_impl_Drop_0 (l.map keyC) i (acc.map keyC)) (fun u st => AftF C impl_Drop pRRLRB u st fun r fs => r = (vKeys (dropN l)) ∧ fs = [])) ?_ ?_
    · intro acc h0 h1
      refine r_impl_Drop_0 _ _ _ _ (brB_no (by simp) (a_impl_Drop_1 _ _ _ _ _ _ ?_))
      rw [List.drop_length] at h1
      simp [dropN] at h1
      simp [dropN, h1]
    · intro i a hi ha hd ht hn acc h0 h1
      refine r_impl_Drop_0 _ _ _ _ (brB_yes (by simp; omega) ?_)
      rw [hd] at h0 h1
      simp only [List.length_cons] at h0
      simp only [ex_key, app_key, allSc_key1, eqI_eq, brB_dec, getZ_nat, ha, Option.some.injEq, exists_eq_left', exists_eq_left, brB_not, brB_and, brB_or, key_eta, age_eta, cell_eta, vol_eta, map_eta, op_eta, succ_len, natAdd, List.length_map, List.length_append, List.length_singleton, Bool.true_and, Bool.and_true]
      simp (disch := omega) only [fitsT, addW_eq, brB_t]
      by_cases hk : a.k = 0
      · rw [if_pos hk]
        exact hn _ (by omega) (by rw [← h1]; simp [dropN, hk])
      · rw [if_neg hk]
        exact hn (acc ++ [a]) (by simp only [List.length_append, List.length_singleton]; omega) (by rw [← h1]; simp [dropN, hk])
  exact key [] (by simp) rfl
theorem run_impl_NodeKeys (n : List (List Key)) (hb : n.length ≤ 1073741824) (hl : tot szSet n ≤ 1073741824) : RunF C impl_NodeKeys [vNode n] (vKeys (nodeKeys n)) [] := by
  refine (f_impl_NodeKeys _ _ ?_).run
  have key : ∀ (acc : List Key), acc.length + tot szSet (n.drop 0) ≤ tot szSet n → (n.drop 0).foldl mergeSets acc = nodeKeys0 n → LoopG C impl_NodeKeys pRRLRB 4 0 (s_impl_NodeKeys_0 (n.map setC) ((0 : Nat) : Int) (acc.map keyC)) (fun u st => AftF C impl_NodeKeys pRRLRB u st fun r fs => r = (vKeys (nodeKeys n)) ∧ fs = []) := by
    refine idx_walk n (fun i => ∀ (acc : List Key), acc.length + tot szSet (n.drop i) ≤ tot szSet n → (n.drop i).foldl mergeSets acc = nodeKeys0 n → LoopG C impl_NodeKeys pRRLRB 4 0 (s_impl_NodeKeys_0 (n.map setC) i (acc.map keyC)) (fun u st => AftF C impl_NodeKeys pRRLRB u st fun r fs => r = (vKeys (nodeKeys n)) ∧ fs = [])) ?_ ?_
    · intro acc h0 h1
      refine r_impl_NodeKeys_0 _ _ _ _ (brB_no (by simp) (a_impl_NodeKeys_1 _ _ _ _ _ _ ?_))
      rw [List.drop_length] at h0 h1
      simp only [List.foldl_nil] at h1
      refine ⟨_, run_impl_Drop acc (by omega), ?_⟩
      rw [h1]
      exact ⟨rfl, rfl⟩
    · intro i a hi ha hd ht hn acc h0 h1
      refine r_impl_NodeKeys_0 _ _ _ _ (brB_yes (by simp; omega) ?_)
      rw [hd] at h0 h1
      simp only [tot, szSet] at h0
      simp only [ex_set, c_impl_MergeSets acc a (by omega), getZ_nat, ha, Option.some.injEq, exists_eq_left', exists_eq_left, brB_not, brB_and, brB_or, key_eta, age_eta, cell_eta, vol_eta, map_eta, op_eta, succ_len, natAdd, List.length_map, List.length_append, List.length_singleton, Bool.true_and, Bool.and_true]
      rw [addW_eq (by omega)]
      have h2 := mergeSets_len a acc
      exact hn _ (by omega) (by rw [← h1]; rfl)
  exact key [] (by simp) rfl
theorem c_impl_NodeKeys (n : List (List Key)) (hb : n.length ≤ 1073741824) (hl : tot szSet n ≤ 1073741824) (q : RR) : RunF C impl_NodeKeys [.ag [.sub 1 (n.map setC)]] (.c (.sub 5 q)) [] ↔ q = (nodeKeys n).map keyC := iffL (run_impl_NodeKeys n hb hl)
theorem run_impl_TreeKeys (t : Tree) (hl : szTree t ≤ 1073741824) : RunF C impl_TreeKeys [vTree t] (vKeys (treeKeys t)) [] := by
  refine (f_impl_TreeKeys _ _ _ ?_).run
  have key : ∀ (acc : List Key), acc.length + tot szNode (t.nodes.drop 0) ≤ tot szNode t.nodes → acc ++ (t.nodes.drop 0).flatMap nodeKeys = treeKeys t → LoopG C impl_TreeKeys pRRLRB 4 0 (s_impl_TreeKeys_0 (t.nodes.map nodeC) ((0 : Nat) : Int) (acc.map keyC)) (fun u st => AftF C impl_TreeKeys pRRLRB u st fun r fs => r = (vKeys (treeKeys t)) ∧ fs = []) := by
    refine idx_walk t.nodes (fun i => ∀ (acc : List Key), acc.length + tot szNode (t.nodes.drop i) ≤ tot szNode t.nodes → acc ++ (t.nodes.drop i).flatMap nodeKeys = treeKeys t → LoopG C impl_TreeKeys pRRLRB 4 0 (s_impl_TreeKeys_0 (t.nodes.map nodeC) i (acc.map keyC)) (fun u st => AftF C impl_TreeKeys pRRLRB u st fun r fs => r = (vKeys (treeKeys t)) ∧ fs = [])) ?_ ?_
    · intro acc h0 h1
      refine r_impl_TreeKeys_0 _ _ _ _ (brB_no (by simp) (a_impl_TreeKeys_1 _ _ _ _ _ _ ?_))
      rw [List.drop_length] at h1
      simp at h1
      simp [h1]
    · intro i a hi ha hd ht hn acc h0 h1
      refine r_impl_TreeKeys_0 _ _ _ _ (brB_yes (by have := hi; unfold szTree szNodes at hl; simp; omega) ?_)
      have hz : a.length + tot szSet a ≤ tot szNode t.nodes := tot_get (w := szNode) ha
      rw [hd] at h0 h1
      simp only [tot, szNode] at h0
      unfold szTree szNodes at hl
      have h2 := nodeKeys_len a
      simp only [listApp, ex_node, c_impl_NodeKeys a (by omega) (by omega), allSc_key, getZ_nat, ha, Option.some.injEq, exists_eq_left', exists_eq_left, brB_not, brB_and, brB_or, key_eta, age_eta, cell_eta, vol_eta, map_eta, op_eta, succ_len, natAdd, List.length_map, List.length_append, List.length_singleton, Bool.true_and, Bool.and_true]
      rw [fitsT (by omega), addW_eq (by omega)]
      refine brB_yes rfl ?_
      rw [← List.map_append]
      exact hn _ (by simp; omega) (by rw [← h1]; simp)
  exact key [] (by simp) rfl
theorem run_impl_KeysOf (t : Tree) (b : Int) (hl : szTree t ≤ 1073741824) : RunF C impl_KeysOf [vTree t, vI b] (vKeys (keysOf t b)) [] := by
  refine (f_impl_KeysOf _ _ _ _ ?_).run
  refine ⟨_, run_impl_TreeKeys t hl, ?_⟩
  have key : ∀ (acc : List Key), acc.length + ((treeKeys t).drop 0).length ≤ (treeKeys t).length → acc ++ ((treeKeys t).drop 0).filter (fun k => decide (k.b = b)) = keysOf t b → LoopG C impl_KeysOf pRRLRB 4 0 (s_impl_KeysOf_0 b ((treeKeys t).map keyC) ((0 : Nat) : Int) (acc.map keyC)) (fun u st => AftF C impl_KeysOf pRRLRB u st fun r fs => r = (vKeys (keysOf t b)) ∧ fs = []) := by
    refine idx_walk (treeKeys t) (fun i => ∀ (acc : List Key), acc.length + ((treeKeys t).drop i).length ≤ (treeKeys t).length → acc ++ ((treeKeys t).drop i).filter (fun k => decide (k.b = b)) = keysOf t b → LoopG C impl_KeysOf pRRLRB 4 0 (s_impl_KeysOf_0 b ((treeKeys t).map keyC) i (acc.map keyC)) (fun u st => AftF C impl_KeysOf pRRLRB u st fun r fs => r = (vKeys (keysOf t b)) ∧ fs = [])) ?_ ?_
    · intro acc h0 h1
      refine r_impl_KeysOf_0 _ _ _ _ _ (brB_no (by simp) (a_impl_KeysOf_1 _ _ _ _ _ _ _ ?_))
      rw [List.drop_length] at h1
      simp at h1
      simp [h1]
    · intro i a hi ha hd ht hn acc h0 h1
      refine r_impl_KeysOf_0 _ _ _ _ _ (brB_yes (by simp; omega) ?_)
      rw [hd] at h0 h1
      simp only [List.length_cons] at h0
      have hz := treeKeys_len t
      simp only [ex_key, app_key, allSc_key1, eqI_eq, brB_dec, getZ_nat, ha, Option.some.injEq, exists_eq_left', exists_eq_left, brB_not, brB_and, brB_or, key_eta, age_eta, cell_eta, vol_eta, map_eta, op_eta, succ_len, natAdd, List.length_map, List.length_append, List.length_singleton, Bool.true_and, Bool.and_true]
      simp (disch := omega) only [fitsT, addW_eq, brB_t]
      by_cases hk : a.b = b
      · rw [if_pos hk]
        exact hn (acc ++ [a]) (by simp only [List.length_append, List.length_singleton]; omega) (by rw [← h1]; simp [hk])
      · rw [if_neg hk]
        exact hn _ (by omega) (by rw [← h1]; simp [hk])
  exact key [] (by simp) rfl
theorem eqI30 : eqI 3 0 = false := by simp
def mkInt (_ : Int) (k : Int) : Int := k
def wInt (_ : Int) : Nat := 1
theorem markIntS (l : List (Int)) (k : Int) (h0 : 0 ≤ k) (hk : k + tot wInt l ≤ 2305843009213693952) (hl : l.length ≤ 1099511627776) : RunF C laws_markIntS [vInts l, vI k] (vI (k + tot wInt l)) [vInts (markG mkInt wInt l k)] := by
  refine (f_laws_markIntS _ _ _ ?_).run
  refine mark_loop (e := intC) mkInt wInt (fun k i rows => LoopG C laws_markIntS pRLRB 4 0 (s_laws_markIntS_0 k i rows) _) 2305843009213693952 ?_ l [] k h0 hk (by simpa using hl) ?_
  · intro d a r k h0 hk hd hn
    have hw : wInt a = 1 := rfl
    rw [hw] at hk hn
    refine r_laws_markIntS_0 _ _ _ _ (brB_yes (by simp; omega) ?_)
    simp (disch := omega) only [addW_eq]
    simp only [ex_int, sr_int, getZ_mod, ex_some_map, getZ_mid, Option.some.injEq, exists_eq_left', exists_eq_left, mod_mod, eqI30, brB_f, brB_not]
    rw [mod_mid]
    rw [show (k + 1 : Int) = k + ((1 : Nat) : Int) by omega]
    exact hn
  · refine r_laws_markIntS_0 _ _ _ _ (brB_no (by simp [markG_len]) (a_laws_markIntS_1 _ _ _ _ _ ⟨rfl, by first | rfl | trivial⟩))
def mkKey (_ : Key) (k : Int) : Key := ⟨k, k + 1, k + 1 + 1, k + 1 + 1 + 1, k + 1 + 1 + 1 + 1⟩
def wKey (_ : Key) : Nat := 5
theorem markKeyS (l : List (Key)) (k : Int) (h0 : 0 ≤ k) (hk : k + tot wKey l ≤ 2305843009213693952) (hl : l.length ≤ 1099511627776) : RunF C laws_markKeyS [vKeys l, vI k] (vI (k + tot wKey l)) [vKeys (markG mkKey wKey l k)] := by
  refine (f_laws_markKeyS _ _ _ ?_).run
  refine mark_loop (e := keyC) mkKey wKey (fun k i rows => LoopG C laws_markKeyS pRLRB 4 0 (s_laws_markKeyS_0 k i rows) _) 2305843009213693952 ?_ l [] k h0 hk (by simpa using hl) ?_
  · intro d a r k h0 hk hd hn
    have hw : wKey a = 5 := rfl
    rw [hw] at hk hn
    refine r_laws_markKeyS_0 _ _ _ _ (brB_yes (by simp; omega) ?_)
    simp (disch := omega) only [addW_eq]
    simp only [ex_key, sr_key_b, sr_key_a, sr_key_k, sr_key_c, sr_key_g, sr_key, getZ_mod, ex_some_map, getZ_mid, Option.some.injEq, exists_eq_left', exists_eq_left, mod_mod, eqI30, brB_f, brB_not]
    rw [mod_mid]
    rw [show (k + 1 + 1 + 1 + 1 + 1 : Int) = k + ((5 : Nat) : Int) by omega]
    exact hn
  · refine r_laws_markKeyS_0 _ _ _ _ (brB_no (by simp [markG_len]) (a_laws_markKeyS_1 _ _ _ _ _ ⟨rfl, by first | rfl | trivial⟩))
theorem heldKeyS (l : List (Key)) (k : Int) (h0 : 0 ≤ k) (hk : k + tot wKey l ≤ 2305843009213693952) (hl : l.length ≤ 1099511627776) : RunF C laws_heldKeyS [vKeys (markG mkKey wKey l k), vI k] (vI (k + tot wKey l)) [] := by
  refine (f_laws_heldKeyS _ _ _ ?_).run
  refine held_loop (e := keyC) mkKey wKey (fun k i rows => LoopG C laws_heldKeyS pRLRB 4 0 (s_laws_heldKeyS_0 rows k i) _) 2305843009213693952 ?_ l [] k h0 hk (by simpa using hl) ?_
  · intro d a r k h0 hk hd hn
    have hw : wKey a = 5 := rfl
    rw [hw] at hk hn
    refine r_laws_heldKeyS_0 _ _ _ _ (brB_yes (by simp; omega) ?_)
    simp (disch := omega) only [addW_eq]
    simp only [ex_key, getZ_mod, ex_some_map, getZ_mid, Option.some.injEq, exists_eq_left', exists_eq_left, mod_mod, eqI30, brB_f, brB_not, mkKey, eqI_eq, eqS_eq, eqB_eq, brB_dec, if_true, decide_true, Bool.not_true]
    rw [show (k + 1 + 1 + 1 + 1 + 1 : Int) = k + ((5 : Nat) : Int) by omega]
    exact hn
  · refine r_laws_heldKeyS_0 _ _ _ _ (brB_no (by simp [markG_len]) (a_laws_heldKeyS_2 _ _ _ _ _ ⟨rfl, by first | rfl | trivial⟩))
def mkKeyS (s : List Key) (k : Int) : List Key := markG mkKey wKey s k
def wKeyS (s : List Key) : Nat := tot wKey s
theorem markKeySS : ∀ (l : List (List Key)) (k : Int) (h0 : 0 ≤ k) (hk : k + tot wKeyS l ≤ 2305843009213693952) (hl : l.length ≤ 1099511627776) (hs : ∀ s ∈ l, s.length ≤ 1099511627776), RunF C laws_markKeySS [vSets l, vI k] (vI (k + tot wKeyS l)) [vSets (markG mkKeyS wKeyS l k)] := by
  intro l k h0 hk hl hs
  refine (f_laws_markKeySS _ _ _ ?_).run
  have key : ∀ (r d : List (List Key)) (k : Int), 0 ≤ k → k + tot wKeyS r ≤ 2305843009213693952 → d.length + r.length ≤ 1099511627776 → (∀ s ∈ r, s.length ≤ 1099511627776) → ∀ (R : TV) (F : List TV), vI (k + tot wKeyS r) = R → [vSets (d ++ markG mkKeyS wKeyS r k)] = F → LoopG C laws_markKeySS pRLRB 4 0 (s_laws_markKeySS_0 k (d.length : Int) ((d ++ r).map setC)) (fun u st => AftF C laws_markKeySS pRLRB u st fun r fs => r = R ∧ fs = F) := by
    intro r
    induction r with
    | nil =>
      intro d k h0 hk hl hs R F hR hF
      subst hR hF
      refine r_laws_markKeySS_0 _ _ _ _ (brB_no (by simp) (a_laws_markKeySS_1 _ _ _ _ _ ⟨by simp [tot], by simp [markG]⟩))
    | cons a r ih =>
      intro d k h0 hk hl hs R F hR hF
      simp only [tot, List.length_cons] at hk hl
      have hca := hs a (.head _)
      have hu : tot wKey a = wKeyS a := rfl
      refine r_laws_markKeySS_0 _ _ _ _ (brB_yes (by simp; omega) ?_)
      simp only [ex_set, getZ_mid, Option.some.injEq, exists_eq_left']
      refine ⟨_, _, markKeyS a k h0 (by omega) hca, ?_⟩
      simp only [sr_set]
      rw [mod_mid, addW_eq (by omega)]
      have := ih (d ++ [mkKeyS a k]) (k + wKeyS a) (by omega) (by omega) (by simp; omega) (fun s h => hs s (.tail _ h)) R F (by rw [← hR]; simp only [tot]; rw [show k + (wKeyS a : Int) + (tot wKeyS r : Int) = k + ((wKeyS a + tot wKeyS r : Nat) : Int) by omega]) (by rw [← hF]; simp [markG])
      rw [← hu] at this
      simpa [mkKeyS] using this
  exact key l [] k h0 hk (by simpa using hl) hs _ _ rfl (by simp)
def mkNode (s : List (List Key)) (k : Int) : List (List Key) := markG mkKeyS wKeyS s k
def wNode (s : List (List Key)) : Nat := tot wKeyS s
theorem markNodeS : ∀ (l : List (List (List Key))) (k : Int) (h0 : 0 ≤ k) (hk : k + tot wNode l ≤ 2305843009213693952) (hl : l.length ≤ 1099511627776) (hs : ∀ s ∈ l, NodeB s), RunF C laws_markNodeS [vNodes l, vI k] (vI (k + tot wNode l)) [vNodes (markG mkNode wNode l k)] := by
  intro l k h0 hk hl hs
  refine (f_laws_markNodeS _ _ _ ?_).run
  have key : ∀ (r d : List (List (List Key))) (k : Int), 0 ≤ k → k + tot wNode r ≤ 2305843009213693952 → d.length + r.length ≤ 1099511627776 → (∀ s ∈ r, NodeB s) → ∀ (R : TV) (F : List TV), vI (k + tot wNode r) = R → [vNodes (d ++ markG mkNode wNode r k)] = F → LoopG C laws_markNodeS pRLRB 4 0 (s_laws_markNodeS_0 k (d.length : Int) ((d ++ r).map nodeC)) (fun u st => AftF C laws_markNodeS pRLRB u st fun r fs => r = R ∧ fs = F) := by
    intro r
    induction r with
    | nil =>
      intro d k h0 hk hl hs R F hR hF
      subst hR hF
      refine r_laws_markNodeS_0 _ _ _ _ (brB_no (by simp) (a_laws_markNodeS_1 _ _ _ _ _ ⟨by simp [tot], by simp [markG]⟩))
    | cons a r ih =>
      intro d k h0 hk hl hs R F hR hF
      simp only [tot, List.length_cons] at hk hl
      have hca := hs a (.head _)
      have hu : tot wKeyS a = wNode a := rfl
      refine r_laws_markNodeS_0 _ _ _ _ (brB_yes (by simp; omega) ?_)
      simp only [ex_node, getZ_mid, Option.some.injEq, exists_eq_left']
      refine ⟨_, _, markKeySS a k h0 (by omega) hca.1 hca.2, ?_⟩
      simp only [sr_node]
      rw [mod_mid, addW_eq (by omega)]
      have := ih (d ++ [mkNode a k]) (k + wNode a) (by omega) (by omega) (by simp; omega) (fun s h => hs s (.tail _ h)) R F (by rw [← hR]; simp only [tot]; rw [show k + (wNode a : Int) + (tot wNode r : Int) = k + ((wNode a + tot wNode r : Nat) : Int) by omega]) (by rw [← hF]; simp [markG])
      rw [← hu] at this
      simpa [mkNode] using this
  exact key l [] k h0 hk (by simpa using hl) hs _ _ rfl (by simp)
def wTree (t : Tree) : Nat := tot wInt t.lows + tot wNode t.nodes
def mkTree (t : Tree) (k : Int) : Tree := ⟨markG mkInt wInt t.lows k, markG mkNode wNode t.nodes (k + tot wInt t.lows)⟩
theorem markTree (t : Tree) (k : Int) (h0 : 0 ≤ k) (hk : k + wTree t ≤ 2305843009213693952) (h : TreeB t) : RunF C laws_markTree [vTree t, vI k] (vI (k + wTree t)) [vTree (mkTree t k)] := by
  unfold wTree at *
  refine (f_laws_markTree _ _ _ _ ⟨_, _, markIntS t.lows k h0 (by omega) h.1, _, _, markNodeS t.nodes _ (by omega) (by omega) h.2.1 h.2.2, ?_⟩).run
  exact ⟨by congr 2; omega, rfl⟩
theorem len_of {n z : Nat} (h : n * z ≤ reachBytes) (hz : 1 ≤ z) : n ≤ 140737488355328 := by
  have : reachBytes ≤ 140737488355328 := by decide
  have h2 : n * 1 ≤ n * z := Nat.mul_le_mul_left n hz
  omega
theorem int_in {r : List TC} (h : WfT C.tt t_int r) : ∃ n : Int, r = intC n ∧ True := by
  obtain ⟨n, rfl, _⟩ := h.int_inv (k := .i64) (by kernel_rfl)
  exact ⟨n, rfl, trivial⟩
theorem key_in {r : List TC} (h : WfT C.tt t_laws_Key r) : ∃ x : Key, r = keyC x ∧ True := by
  obtain ⟨q0, r0, rfl, h0, k0⟩ := (h.struct_inv (fs := [(0, 3), (1, 3), (2, 3), (3, 3), (4, 3)]) (by kernel_rfl)).cons_inv
  obtain ⟨q1, r1, rfl, h1, k1⟩ := k0.cons_inv
  obtain ⟨q2, r2, rfl, h2, k2⟩ := k1.cons_inv
  obtain ⟨q3, r3, rfl, h3, k3⟩ := k2.cons_inv
  obtain ⟨q4, r4, rfl, h4, k4⟩ := k3.cons_inv
  have e := k4.nil_inv
  subst e
  obtain ⟨v0, rfl, _⟩ := h0.int_inv (k := .i64) (by kernel_rfl)
  obtain ⟨v1, rfl, _⟩ := h1.int_inv (k := .i64) (by kernel_rfl)
  obtain ⟨v2, rfl, _⟩ := h2.int_inv (k := .i64) (by kernel_rfl)
  obtain ⟨v3, rfl, _⟩ := h3.int_inv (k := .i64) (by kernel_rfl)
  obtain ⟨v4, rfl, _⟩ := h4.int_inv (k := .i64) (by kernel_rfl)
  exact ⟨⟨v0, v1, v2, v3, v4⟩, rfl, trivial⟩
theorem ints_rows {r : List TC} (h : WfT C.tt t_S_int r) : ∃ l : List (Int), r = [.sub 1 (l.map intC)] ∧ l.length ≤ 140737488355328 ∧ ∀ x ∈ l, True := by
  obtain ⟨w, rfl, y, z⟩ := h.slice_inv (e := t_int) (by kernel_rfl)
  obtain ⟨l, rfl, hl⟩ := rows_typed fun r hr => int_in (y r hr)
  rw [List.length_map] at z
  exact ⟨l, rfl, len_of z (by decide +kernel), hl⟩
theorem keys_rows {r : List TC} (h : WfT C.tt t_S_laws_Key r) : ∃ l : List (Key), r = [.sub 5 (l.map keyC)] ∧ l.length ≤ 140737488355328 ∧ ∀ x ∈ l, True := by
  obtain ⟨w, rfl, y, z⟩ := h.slice_inv (e := t_laws_Key) (by kernel_rfl)
  obtain ⟨l, rfl, hl⟩ := rows_typed fun r hr => key_in (y r hr)
  rw [List.length_map] at z
  exact ⟨l, rfl, len_of z (by decide +kernel), hl⟩
theorem set_in {r : List TC} (h : WfT C.tt t_S_laws_Key r) : ∃ s : List Key, r = setC s ∧ s.length ≤ 140737488355328 := by
  obtain ⟨l, rfl, hl, _⟩ := keys_rows h
  exact ⟨l, rfl, hl⟩
theorem sets_rows {r : List TC} (h : WfT C.tt t_SS_laws_Key r) : ∃ l : List (List Key), r = [.sub 1 (l.map setC)] ∧ l.length ≤ 140737488355328 ∧ ∀ x ∈ l, x.length ≤ 140737488355328 := by
  obtain ⟨w, rfl, y, z⟩ := h.slice_inv (e := t_S_laws_Key) (by kernel_rfl)
  obtain ⟨l, rfl, hl⟩ := rows_typed fun r hr => set_in (y r hr)
  rw [List.length_map] at z
  exact ⟨l, rfl, len_of z (by decide +kernel), hl⟩
theorem node_in {r : List TC} (h : WfT C.tt t_laws_Node r) : ∃ n : List (List Key), r = nodeC n ∧ (n.length ≤ 140737488355328 ∧ ∀ s ∈ n, s.length ≤ 140737488355328) := by
  obtain ⟨q0, r0, rfl, h0, k0⟩ := (h.struct_inv (fs := [(0, 131)]) (by kernel_rfl)).cons_inv
  have e := k0.nil_inv
  subst e
  obtain ⟨l, rfl, hl, hs⟩ := sets_rows h0
  exact ⟨l, rfl, hl, hs⟩
theorem nodes_rows {r : List TC} (h : WfT C.tt t_S_laws_Node r) : ∃ l : List (List (List Key)), r = [.sub 1 (l.map nodeC)] ∧ l.length ≤ 140737488355328 ∧ ∀ x ∈ l, x.length ≤ 140737488355328 ∧ ∀ s ∈ x, s.length ≤ 140737488355328 := by
  obtain ⟨w, rfl, y, z⟩ := h.slice_inv (e := t_laws_Node) (by kernel_rfl)
  obtain ⟨l, rfl, hl⟩ := rows_typed fun r hr => node_in (y r hr)
  rw [List.length_map] at z
  exact ⟨l, rfl, len_of z (by decide +kernel), hl⟩
theorem tree_in {r : List TC} (h : WfT C.tt t_laws_Tree r) : ∃ t : Tree, r = treeC t ∧ TreeW t := by
  obtain ⟨q0, r0, rfl, h0, k0⟩ := (h.struct_inv (fs := [(0, 22), (1, 23)]) (by kernel_rfl)).cons_inv
  obtain ⟨q1, r1, rfl, h1, k1⟩ := k0.cons_inv
  have e := k1.nil_inv
  subst e
  obtain ⟨l, rfl, hl, _⟩ := ints_rows h0
  obtain ⟨n, rfl, hn, hs⟩ := nodes_rows h1
  exact ⟨⟨l, n⟩, rfl, ⟨hl, hn, hs⟩⟩
theorem v_int {v : TV} (h : WfV C.tt t_int v) : ∃ n : Int, v = vI n := by
  have ht : (C.tt t_int).ti = .int .i64 := by kernel_rfl
  cases h with
  | c _ hw =>
    obtain ⟨n, h1, _⟩ := int_in hw
    unfold intC at h1
    cases h1
    exact ⟨n, rfl⟩
  | ag h1 _ => rw [ht] at h1; cases h1
theorem v_tree {v : TV} (h : WfV C.tt t_laws_Tree v) : ∃ x : Tree, v = vTree x ∧ TreeW x := by
  have ht : (C.tt t_laws_Tree).ti = .struct [(0, 22), (1, 23)] := by kernel_rfl
  cases h with
  | c hs hw => exact absurd ht (hs _)
  | ag _ hw =>
    obtain ⟨x, rfl, hx⟩ := tree_in hw
    exact ⟨x, rfl, hx⟩
theorem lft_ok {a : Int} {n : Nat} (h : ltI (lft a n) 0 = false) (h0 : 0 ≤ a ∧ a ≤ 1048576) : (n : Int) ≤ a ∧ (0 ≤ lft a n ∧ lft a n ≤ 1048576) ∧ lft a n = a - n := by
  rw [ltI_eq] at h
  have h : ¬ lft a n < 0 := of_decide_eq_false h
  unfold lft at *
  split at h <;> simp_all <;> omega
theorem treeB_of {t : Tree} (h : szTree t ≤ 1048576) : TreeB t := by
  unfold szTree szNodes at h
  refine ⟨by omega, by omega, fun n hn => ?_⟩
  have h1 := tot_mem (w := szNode) hn
  have e : szNode n = n.length + tot szSet n := rfl
  exact ⟨by omega, fun s hs => by
    have h2 := tot_mem (w := szSet) hs
    have e2 : szSet s = s.length := rfl
    omega⟩
theorem wKeys_le (l : List Key) : tot wKey l = 5 * l.length := tot_const 5 l
theorem wSets_le (n : List (List Key)) : tot wKeyS n ≤ 5 * tot szSet n := by
  induction n with
  | nil => simp [tot]
  | cons s r ih =>
    simp only [tot]
    have : wKeyS s = 5 * s.length := wKeys_le s
    have e : szSet s = s.length := rfl
    omega
theorem wNodes_le (l : List (List (List Key))) : tot wNode l ≤ 5 * tot szNode l := by
  induction l with
  | nil => simp [tot]
  | cons n r ih =>
    simp only [tot]
    have h1 := wSets_le n
    have h2 : szNode n = n.length + tot szSet n := rfl
    have h3 : wNode n = tot wKeyS n := rfl
    omega
theorem wTree_le (t : Tree) : wTree t ≤ 5 * szTree t := by
  have h1 := wNodes_le t.nodes
  have h2 : tot wInt t.lows = 1 * t.lows.length := tot_const 1 t.lows
  unfold wTree szTree szNodes
  omega
theorem law_KeysOf (t : Tree) (w_t : TreeW t) (b : Int) : RunF C laws_FnExactKeysOf [vTree t, vI b] (vB true) [] := by
  refine (f_laws_FnExactKeysOf _ _ _ _ ?_).run
  refine ⟨_, szTree_run _ _ (by first | omega | assumption) (by assumption), ?_⟩
  refine brB_both (fun _ => ⟨rfl, by first | rfl | trivial⟩) fun hz0 => ?_
  obtain ⟨hz0a, hz0b, hz0c⟩ := lft_ok hz0 (by first | omega | assumption)
  have hB := treeB_of (t := t) (by omega)
  have hk := keysOf_len t b
  have hq := treeKeys_len t
  have hw := wTree_le t
  have hw2 := wKeys_le (keysOf t b)
  refine ⟨_, _, toTree _ (by assumption), ?_⟩
  refine ⟨_, run_spec_KeysOf t b (by omega), ?_⟩
  refine ⟨_, _, toTree _ (by assumption), ?_⟩
  refine ⟨_, run_impl_KeysOf t b (by omega), ?_⟩
  refine ⟨_, eqKeyS _ (by omega), ?_⟩
  refine brB_no (by first | rfl | (simp; done) | (simp; omega)) ?_
  refine ⟨_, _, toTree _ (by assumption), ?_⟩
  refine ⟨_, eqTree _ (by assumption), ?_⟩
  refine brB_no (by first | rfl | (simp; done) | (simp; omega)) ?_
  refine ⟨_, _, _, markTree _ 1 (by omega) (by omega) (by assumption), ?_⟩
  refine brB_no (by first | rfl | (simp; done) | (simp; omega)) ?_
  refine ⟨_, eqKeyS _ (by omega), ?_⟩
  refine brB_no (by first | rfl | (simp; done) | (simp; omega)) ?_
  refine ⟨_, _, markKeyS _ 1 (by omega) (by omega) (by omega), ?_⟩
  refine ⟨_, heldKeyS _ 1 (by omega) (by omega) (by omega), ?_⟩
  refine brB_no (by first | rfl | (simp; done) | (simp; omega)) ?_
  refine brB_no (by first | rfl | (simp; done) | (simp; omega)) ?_
  refine ⟨_, _, toTree _ (by assumption), ?_⟩
  refine ⟨_, run_impl_KeysOf t b (by omega), ?_⟩
  refine ⟨_, eqKeyS _ (by omega), ?_⟩
  refine brB_no (by first | rfl | (simp; done) | (simp; omega)) ?_
  refine ⟨_, heldKeyS _ 1 (by omega) (by omega) (by omega), ?_⟩
  refine brB_no (by first | rfl | (simp; done) | (simp; omega)) ?_
  refine brB_no (by first | rfl | (simp; done) | (simp; omega)) ?_
  exact ⟨rfl, by first | rfl | trivial⟩
theorem all_KeysOf (vs : List TV) (h : WfVs C.tt [t_laws_Tree, t_int] vs) : ∃ k, callP C k laws_FnExactKeysOf vs (vB true) [] := by
  cases h with
  | cons h0 h => 
    cases h with
    | cons h1 h => 
      cases h
      obtain ⟨t, rfl, wt⟩ := v_tree h0
      obtain ⟨b, rfl⟩ := v_int h1
      exact law_KeysOf t wt b
end Go.T.R
