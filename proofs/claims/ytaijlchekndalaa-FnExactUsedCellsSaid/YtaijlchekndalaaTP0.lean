/- What the functions answer. -/
import Derived.Test.YtaijlchekndalaaTR0
set_option linter.unusedVariables false
set_option linter.unusedSimpArgs false
set_option maxRecDepth 100000
namespace Go.T.R
open Go Go.T
theorem toCell (v0 : Int) (v1 : Bool) (v2 : Int) : RunF C laws_toCell [.ag [iI v0, iB v1, iI v2]] (.ag [iI v0, iB v1, iI v2]) [] := (f_laws_toCell _ _ _ _ ⟨rfl, by first | rfl | trivial⟩).run
theorem eqCell (v0 : Int) (v1 : Bool) (v2 : Int) : RunF C laws_eqCell [.ag [iI v0, iB v1, iI v2], .ag [iI v0, iB v1, iI v2]] (vB true) [] := by
  refine (f_laws_eqCell _ _ _ _ _ _ _ ?_).run
  simp
theorem toCellS (l : List (Cell)) (hl : l.length ≤ 1099511627776) : RunF C laws_toCellS [vCells l] (vCells l) [] := by
  refine (f_laws_toCellS _ _ ?_).run
  simp only [List.length_map]
  refine brB_yes (by simp; omega) ?_
  simp only [ofNat_cast, numI_eq, Int.toNat_natCast]
  refine cp_loop (e := cellC) (z := [iI 0, iB false, iI 0]) l (fun i rows => LoopG C laws_toCellS pRRLRB 4 0 (s_laws_toCellS_0 (l.map cellC) i rows) _) (fun a => rfl) ?_ ?_
  · exact r_laws_toCellS_0 _ _ _ _ (brB_no (by simp) (a_laws_toCellS_1 _ _ _ _ _ ⟨rfl, by first | rfl | trivial⟩))
  · intro i rows a hi ha hr hn
    refine r_laws_toCellS_0 _ _ _ _ (brB_yes (by simp; omega) ⟨_, _, _, rowAt_map ha, _, _, _, toCell _ _ _, _, _, _, hr, _, _, _, hr, ?_⟩)
    rw [addW_eq (by omega)]
    exact hn
theorem eqCellS (l : List (Cell)) (hl : l.length ≤ 1099511627776) : RunF C laws_eqCellS [vCells l, vCells l] (vB true) [] := by
  refine (f_laws_eqCellS _ _ _ ?_).run
  refine brB_no (by simp) ?_
  refine idx_walk l (fun i => LoopG C laws_eqCellS pRRLRB 4 0 (s_laws_eqCellS_0 (l.map cellC) (l.map cellC) i) _) ?_ ?_
  · exact r_laws_eqCellS_0 _ _ _ _ (brB_no (by simp) (a_laws_eqCellS_2 _ _ _ _ _ ⟨rfl, by first | rfl | trivial⟩))
  · intro i a hi ha _ _ hn
    refine r_laws_eqCellS_0 _ _ _ _ (brB_yes (by simp; omega) ⟨_, _, _, rowAt_map ha, _, _, _, rowAt_map ha, _, eqCell _ _ _, brB_no (by simp) ?_⟩)
    rw [addW_eq (by omega)]
    exact hn
theorem szCellS (l : List (Cell)) (left : Int) (h0 : 0 ≤ left ∧ left ≤ 1048576) (hl : l.length ≤ 140737488355328) : RunF C laws_szCellS [vCells l, vI left] (vI (lft left l.length)) [] := by
  refine (f_laws_szCellS _ _ _ ?_).run
  simp only [List.length_map, ofNat_cast]
  rw [subW_eq (by omega)]
  unfold lft
  simp only [ltI_eq, brB_dec]
  by_cases h : left < (l.length : Int)
  · rw [if_pos (by omega), if_pos h]; exact ⟨rfl, by first | rfl | trivial⟩
  · rw [if_neg (by omega), if_neg h]; exact ⟨rfl, by first | rfl | trivial⟩
theorem run_spec_UsedCells (l : List Cell) (hl : l.length ≤ 1073741824) : RunF C spec_UsedCells [vCells l] (vI (usedCells l)) [] := by
  refine (f_spec_UsedCells _ _ ?_).run
  have key : ∀ (n : Nat), n + (l.drop 0).length ≤ l.length → n + usedCells (l.drop 0) = usedCells l → LoopG C spec_UsedCells pRRLRB 4 0 (s_spec_UsedCells_0 (l.map cellC) n ((0 : Nat) : Int)) (fun u st => AftF C spec_UsedCells pRRLRB u st fun r fs => r = (vI (usedCells l)) ∧ fs = []) := by
    refine idx_walk l (fun i => ∀ (n : Nat), n + (l.drop i).length ≤ l.length → n + usedCells (l.drop i) = usedCells l → LoopG C spec_UsedCells pRRLRB 4 0 (s_spec_UsedCells_0 (l.map cellC) n i) (fun u st => AftF C spec_UsedCells pRRLRB u st fun r fs => r = (vI (usedCells l)) ∧ fs = [])) ?_ ?_
    · intro n h0 h1
      refine r_spec_UsedCells_0 _ _ _ _ (brB_no (by simp) (a_spec_UsedCells_1 _ _ _ _ _ ?_))
      rw [List.drop_length] at h1
      simp [usedCells] at h1
      simp [h1, usedCells]
    · intro i a hi ha hd ht hn n h0 h1
      refine r_spec_UsedCells_0 _ _ _ _ (brB_yes (by simp; omega) ?_)
      rw [hd] at h0 h1
      simp only [List.length_cons] at h0
      simp only [ex_cell, getZ_nat, ha, Option.some.injEq, exists_eq_left', exists_eq_left, brB_not, brB_and, brB_or, key_eta, age_eta, cell_eta, vol_eta, map_eta, op_eta, succ_len, natAdd, List.length_map, List.length_append, List.length_singleton, Bool.true_and, Bool.and_true]
      rw [addW_eq (by omega), addW_eq (by omega)]
      cases hu : a.u
      · exact hn n (by omega) (by rw [← h1]; simp [usedCells, hu])
      · exact hn (n + 1) (by omega) (by rw [← h1]; simp [usedCells, hu]; omega)
  exact key 0 (by simp) (by simp)
theorem run_impl_UsedCells (l : List Cell) (hl : l.length ≤ 1073741824) : RunF C impl_UsedCells [vCells l] (vI (usedCells l)) [] := by
  refine (f_impl_UsedCells _ _ ?_).run
  have key : ∀ (n : Nat), n + (l.drop 0).length ≤ l.length → n + usedCells (l.drop 0) = usedCells l → LoopG C impl_UsedCells pRRLRB 4 0 (s_impl_UsedCells_0 n (l.map cellC) ((0 : Nat) : Int)) (fun u st => AftF C impl_UsedCells pRRLRB u st fun r fs => r = (vI (usedCells l)) ∧ fs = []) := by
    refine idx_walk l (fun i => ∀ (n : Nat), n + (l.drop i).length ≤ l.length → n + usedCells (l.drop i) = usedCells l → LoopG C impl_UsedCells pRRLRB 4 0 (s_impl_UsedCells_0 n (l.map cellC) i) (fun u st => AftF C impl_UsedCells pRRLRB u st fun r fs => r = (vI (usedCells l)) ∧ fs = [])) ?_ ?_
    · intro n h0 h1
      refine r_impl_UsedCells_0 _ _ _ _ (brB_no (by simp) (a_impl_UsedCells_1 _ _ _ _ _ _ ?_))
      rw [List.drop_length] at h1
      simp [usedCells] at h1
      simp [h1, usedCells]
    · intro i a hi ha hd ht hn n h0 h1
      refine r_impl_UsedCells_0 _ _ _ _ (brB_yes (by simp; omega) ?_)
      rw [hd] at h0 h1
      simp only [List.length_cons] at h0
      simp only [ex_cell, getZ_nat, ha, Option.some.injEq, exists_eq_left', exists_eq_left, brB_not, brB_and, brB_or, key_eta, age_eta, cell_eta, vol_eta, map_eta, op_eta, succ_len, natAdd, List.length_map, List.length_append, List.length_singleton, Bool.true_and, Bool.and_true]
      rw [addW_eq (by omega), addW_eq (by omega)]
      cases hu : a.u
      · exact hn n (by omega) (by rw [← h1]; simp [usedCells, hu])
      · exact hn (n + 1) (by omega) (by rw [← h1]; simp [usedCells, hu]; omega)
  exact key 0 (by simp) (by simp)
theorem len_of {n z : Nat} (h : n * z ≤ reachBytes) (hz : 1 ≤ z) : n ≤ 140737488355328 := by
  have : reachBytes ≤ 140737488355328 := by decide
  have h2 : n * 1 ≤ n * z := Nat.mul_le_mul_left n hz
  omega
theorem cell_in {r : List TC} (h : WfT C.tt t_laws_Cell r) : ∃ x : Cell, r = cellC x ∧ True := by
  obtain ⟨q0, r0, rfl, h0, k0⟩ := (h.struct_inv (fs := [(0, 3), (1, 4), (2, 3)]) (by kernel_rfl)).cons_inv
  obtain ⟨q1, r1, rfl, h1, k1⟩ := k0.cons_inv
  obtain ⟨q2, r2, rfl, h2, k2⟩ := k1.cons_inv
  have e := k2.nil_inv
  subst e
  obtain ⟨v0, rfl, u0⟩ := h0.int_inv (k := .i64) (by kernel_rfl)
  obtain ⟨v1, rfl⟩ := h1.bool_inv (by kernel_rfl)
  obtain ⟨v2, rfl, u2⟩ := h2.int_inv (k := .i64) (by kernel_rfl)
  exact ⟨⟨v0, v1, v2⟩, rfl, trivial⟩
theorem cells_rows {r : List TC} (h : WfT C.tt t_S_laws_Cell r) : ∃ l : List (Cell), r = [.sub 3 (l.map cellC)] ∧ l.length ≤ 140737488355328 ∧ ∀ x ∈ l, True := by
  obtain ⟨w, rfl, y, z⟩ := h.slice_inv (e := t_laws_Cell) (by kernel_rfl)
  obtain ⟨l, rfl, hl⟩ := rows_typed fun r hr => cell_in (y r hr)
  rw [List.length_map] at z
  exact ⟨l, rfl, len_of z (by decide +kernel), hl⟩
theorem v_cells {v : TV} (h : WfV C.tt t_S_laws_Cell v) : ∃ l : List Cell, v = vCells l ∧ l.length ≤ 140737488355328 ∧ ∀ x ∈ l, True := by
  have ht : (C.tt t_S_laws_Cell).ti = .slice 52 := by kernel_rfl
  cases h with
  | c _ hw =>
    obtain ⟨l, h1, h2, h3⟩ := cells_rows hw
    cases h1
    exact ⟨l, rfl, h2, h3⟩
  | ag h1 _ => rw [ht] at h1; cases h1
theorem lft_ok {a : Int} {n : Nat} (h : ltI (lft a n) 0 = false) (h0 : 0 ≤ a ∧ a ≤ 1048576) : (n : Int) ≤ a ∧ (0 ≤ lft a n ∧ lft a n ≤ 1048576) ∧ lft a n = a - n := by
  rw [ltI_eq] at h
  have h : ¬ lft a n < 0 := of_decide_eq_false h
  unfold lft at *
  split at h <;> simp_all <;> omega
theorem law_UsedCells (l : List Cell) (w_l : l.length ≤ 140737488355328) : RunF C laws_FnExactUsedCells [vCells l] (vB true) [] := by
  refine (f_laws_FnExactUsedCells _ _ ?_).run
  refine ⟨_, szCellS _ _ (by first | omega | assumption) (by omega), ?_⟩
  refine brB_both (fun _ => ⟨rfl, by first | rfl | trivial⟩) fun hz0 => ?_
  obtain ⟨hz0a, hz0b, hz0c⟩ := lft_ok hz0 (by first | omega | assumption)
  refine ⟨_, toCellS _ (by omega), ?_⟩
  refine ⟨_, run_spec_UsedCells l (by omega), ?_⟩
  refine ⟨_, toCellS _ (by omega), ?_⟩
  refine ⟨_, run_impl_UsedCells l (by omega), ?_⟩
  refine brB_no (by first | rfl | (simp; done) | (simp; omega)) ?_
  refine ⟨_, toCellS _ (by omega), ?_⟩
  refine ⟨_, eqCellS _ (by omega), ?_⟩
  refine brB_no (by first | rfl | (simp; done) | (simp; omega)) ?_
  exact ⟨rfl, by first | rfl | trivial⟩
theorem all_UsedCells (vs : List TV) (h : WfVs C.tt [t_S_laws_Cell] vs) : ∃ k, callP C k laws_FnExactUsedCells vs (vB true) [] := by
  cases h with
  | cons h0 h => 
    cases h
    obtain ⟨l, rfl, wl, _⟩ := v_cells h0
    exact law_UsedCells l wl
end Go.T.R
