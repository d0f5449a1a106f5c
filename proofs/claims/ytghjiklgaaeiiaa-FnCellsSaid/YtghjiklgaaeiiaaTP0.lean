/- What the functions answer. -/
import Derived.Test.YtghjiklgaaeiiaaTR0
set_option linter.unusedVariables false
set_option linter.unusedSimpArgs false
set_option maxRecDepth 100000
namespace Go.T.R
open Go Go.T
theorem run_within (a b c : Int) : RunF C impl_within [vI a, vI b, vI c] (vB (inB a b c)) [] := by
  refine (f_impl_within _ _ _ _ ?_).run
  simp only [leI_eq, brB_dec, inB]
  split <;> simp_all <;> omega
theorem run_l1In (a b c : Int) : RunF C spec_l1In [vI a, vI b, vI c] (vB (inB a b c)) [] := by
  refine (f_spec_l1In _ _ _ _ ?_).run
  simp only [leI_eq, brB_dec, inB]
  split <;> simp_all <;> omega
@[simp] theorem c_within (a b c : Int) (q : Bool) : RunF C impl_within [vI a, vI b, vI c] (vB q) [] ↔ q = inB a b c := iffB (run_within a b c)
@[simp] theorem c_l1In (a b c : Int) (q : Bool) : RunF C spec_l1In [vI a, vI b, vI c] (vB q) [] ↔ q = inB a b c := iffB (run_l1In a b c)
@[simp] theorem c_spec_l1Word (a : Int) (q : Bool) : RunF C spec_l1Word [vI a] (vB q) [] ↔ q = isWordB a := iffB ((f_spec_l1Word _ _ ⟨_, run_l1In _ _ _, rfl, by first | rfl | trivial⟩).run)
theorem run_spec_CellsOk (l : List Cell) (hl : l.length ≤ 1073741824) : RunF C spec_CellsOk [vCells l] (vB ((l.all cellOk && decide (l.length = 24)))) [] := by
  refine (f_spec_CellsOk _ _ ?_).run
  have key : ((l.drop 0).all cellOk && decide (l.length = 24)) = (l.all cellOk && decide (l.length = 24)) → LoopG C spec_CellsOk pRLRB 4 0 (s_spec_CellsOk_0 (l.map cellC) ((0 : Nat) : Int)) (fun u st => AftF C spec_CellsOk pRLRB u st fun r fs => r = vB ((l.all cellOk && decide (l.length = 24))) ∧ fs = []) := by
    refine idx_walk l (fun i => ((l.drop i).all cellOk && decide (l.length = 24)) = (l.all cellOk && decide (l.length = 24)) → LoopG C spec_CellsOk pRLRB 4 0 (s_spec_CellsOk_0 (l.map cellC) i) (fun u st => AftF C spec_CellsOk pRLRB u st fun r fs => r = vB ((l.all cellOk && decide (l.length = 24))) ∧ fs = [])) ?_ ?_
    · intro h0
      refine r_spec_CellsOk_0 _ _ _ (brB_no (by simp) (a_spec_CellsOk_2 _ _ _ _ ?_))
      rw [List.drop_length] at h0
      simp only [List.all_nil, Bool.true_and] at h0
      rw [← h0]
      simp [eqI_eq]
      try omega
    · intro i a hi ha hd htk hn h0
      have gO : cellOk a = false → (l.all cellOk && decide (l.length = 24)) = false := fun e => by rw [← h0, hd]; simp [e]
      have gN : cellOk a = true → LoopG C spec_CellsOk pRLRB 4 0 (s_spec_CellsOk_0 (l.map cellC) ((i : Int) + 1)) (fun u st => AftF C spec_CellsOk pRLRB u st fun r fs => r = vB ((l.all cellOk && decide (l.length = 24))) ∧ fs = []) := fun e => hn (by rw [← h0, hd]; simp [e])
      refine r_spec_CellsOk_0 _ _ _ (brB_yes (by simp; omega) ?_)
      simp only [ex_cell, c_l1In, c_spec_l1Word, eqI_eq, getZ_nat, ha, Option.some.injEq, exists_eq_left', exists_eq_left, brB_not, brB_and, brB_or, key_eta, age_eta, cell_eta, vol_eta, map_eta, op_eta, succ_len, natAdd, List.length_map, List.length_append, List.length_singleton, Bool.true_and, Bool.and_true]
      rw [addW_eq (by omega)]
      cases h1 : inB a.g 0 999 <;> cases h2 : isWordB a.n <;> cases h3 : a.u <;> by_cases h4 : a.n = 0 <;> simp only [h1, h2, h3, h4, brB_t, brB_f, decide_true, decide_false, not_true_eq_false, not_false_eq_true, Bool.not_true, Bool.not_false] <;> first | exact gN (by unfold cellOk; rw [h1, h2, h3]; simp [h4]) | exact a_spec_CellsOk_1 _ (by rw [gO (by unfold cellOk; rw [h1, h2, h3]; simp [h4])]; exact ⟨rfl, by first | rfl | trivial⟩)
  exact key rfl
theorem c_spec_CellsOk (l : List Cell) (hl : l.length ≤ 1073741824) (q : Bool) : RunF C spec_CellsOk [vCells l] (vB q) [] ↔ q = cellsOk l := iffB (run_spec_CellsOk l hl)
@[simp] theorem c_impl_isWord (a : Int) (q : Bool) : RunF C impl_isWord [vI a] (vB q) [] ↔ q = isWordB a := iffB ((f_impl_isWord _ _ ⟨_, run_within _ _ _, rfl, by first | rfl | trivial⟩).run)
theorem run_impl_CellAt (l : List Cell) (i gen : Int) (hl : l.length ≤ 1073741824) : RunF C impl_CellAt [vCells l, vI i, vI gen] (tIB (cellAt l i gen)) [] := by
  refine (f_impl_CellAt _ _ _ _ ?_).run
  simp only [c_within, exists_eq_left, List.length_map, Int.ofNat_eq_natCast, brB_not, ex_cell]
  rw [subW_eq (by omega)]
  by_cases h : 0 ≤ i ∧ i < l.length
  · obtain ⟨a, ha⟩ := getZ_some h.1 h.2
    have e : inB i 0 ((l.length : Int) - 1) = true := decide_eq_true (by omega)
    simp only [e, brB_t, ha, Option.some.injEq, exists_eq_left', eqI_eq, brB_dec, cellAt]
    cases h1 : a.u <;> by_cases h2 : a.g = gen <;> simp [h1, h2]
  · have e : inB i 0 ((l.length : Int) - 1) = false := decide_eq_false (by omega)
    have hn : getZ l i = none := getZ_none h
    simp [e, cellAt, hn]
theorem run_impl_UsedCells (l : List Cell) (hl : l.length ≤ 1073741824) : RunF C impl_UsedCells [vCells l] (vI (usedCells l)) [] := by
  refine (f_impl_UsedCells _ _ ?_).run
  have key : ∀ (n : Nat), n + (l.drop 0).length ≤ l.length → n + usedCells (l.drop 0) = usedCells l → LoopG C impl_UsedCells pRRLRB 4 0 (s_impl_UsedCells_0 n (l.map cellC) ((0 : Nat) : Int)) (fun u st => AftF C impl_UsedCells pRRLRB u st fun r fs => r = (vI (usedCells l)) ∧ fs = []) := by
    refine idx_walk l (fun i => ∀ (n : Nat), n + (l.drop i).length ≤ l.length → n + usedCells (l.drop i) = usedCells l → LoopG C impl_UsedCells pRRLRB 4 0 (s_impl_UsedCells_0 n (l.map cellC) i) (fun u st => AftF C impl_UsedCells pRRLRB u st fun r fs => r = (vI (usedCells l)) ∧ fs = [])) ?_ ?_
    · intro n h0 h1
      refine r_impl_UsedCells_0 _ _ _ _ (brB_no (by simp) (a_impl_UsedCells_1 _ _ _ _ _ _ ?_))
      rw [List.drop_length] at h1
      simp [usedCells] at h1
      simp [h1, usedCells]
    · intro i a hi ha hd ht hn n h0 h1
      refine r_impl_UsedCells_0 _ _ _ _ (brB_yes (by simp; omega) ?_)
      rw [hd] at h0 h1
      simp only [List.length_cons] at h0
      simp only [ex_cell, getZ_nat, ha, Option.some.injEq, exists_eq_left', exists_eq_left, brB_not, brB_and, brB_or, key_eta, age_eta, cell_eta, vol_eta, map_eta, op_eta, succ_len, natAdd, List.length_map, List.length_append, List.length_singleton, Bool.true_and, Bool.and_true]
      rw [addW_eq (by omega), addW_eq (by omega)]
      cases hu : a.u
      · exact hn n (by omega) (by rw [← h1]; simp [usedCells, hu])
      · exact hn (n + 1) (by omega) (by rw [← h1]; simp [usedCells, hu]; omega)
  exact key 0 (by simp) (by simp)
theorem run_impl_CellsOk (l : List Cell) (hl : l.length ≤ 1073741824) : RunF C impl_CellsOk [vCells l] (vB ((l.all cellOk && decide (l.length = 24)))) [] := by
  refine (f_impl_CellsOk _ _ ?_).run
  have key : ((l.drop 0).all cellOk && decide (l.length = 24)) = (l.all cellOk && decide (l.length = 24)) → LoopG C impl_CellsOk pRLRB 4 0 (s_impl_CellsOk_0 (l.map cellC) ((0 : Nat) : Int)) (fun u st => AftF C impl_CellsOk pRLRB u st fun r fs => r = vB ((l.all cellOk && decide (l.length = 24))) ∧ fs = []) := by
    refine idx_walk l (fun i => ((l.drop i).all cellOk && decide (l.length = 24)) = (l.all cellOk && decide (l.length = 24)) → LoopG C impl_CellsOk pRLRB 4 0 (s_impl_CellsOk_0 (l.map cellC) i) (fun u st => AftF C impl_CellsOk pRLRB u st fun r fs => r = vB ((l.all cellOk && decide (l.length = 24))) ∧ fs = [])) ?_ ?_
    · intro h0
      refine r_impl_CellsOk_0 _ _ _ (brB_no (by simp) (a_impl_CellsOk_2 _ _ _ _ _ ?_))
      rw [List.drop_length] at h0
      simp only [List.all_nil, Bool.true_and] at h0
      rw [← h0]
      simp [eqI_eq]
      try omega
    · intro i a hi ha hd htk hn h0
      have gO : cellOk a = false → (l.all cellOk && decide (l.length = 24)) = false := fun e => by rw [← h0, hd]; simp [e]
      have gN : cellOk a = true → LoopG C impl_CellsOk pRLRB 4 0 (s_impl_CellsOk_0 (l.map cellC) ((i : Int) + 1)) (fun u st => AftF C impl_CellsOk pRLRB u st fun r fs => r = vB ((l.all cellOk && decide (l.length = 24))) ∧ fs = []) := fun e => hn (by rw [← h0, hd]; simp [e])
      refine r_impl_CellsOk_0 _ _ _ (brB_yes (by simp; omega) ?_)
      simp only [ex_cell, c_within, c_impl_isWord, eqI_eq, getZ_nat, ha, Option.some.injEq, exists_eq_left', exists_eq_left, brB_not, brB_and, brB_or, key_eta, age_eta, cell_eta, vol_eta, map_eta, op_eta, succ_len, natAdd, List.length_map, List.length_append, List.length_singleton, Bool.true_and, Bool.and_true]
      rw [addW_eq (by omega)]
      cases h1 : inB a.g 0 999 <;> cases h2 : isWordB a.n <;> cases h3 : a.u <;> by_cases h4 : a.n = 0 <;> simp only [h1, h2, h3, h4, brB_t, brB_f, decide_true, decide_false, not_true_eq_false, not_false_eq_true, Bool.not_true, Bool.not_false] <;> first | exact gN (by unfold cellOk; rw [h1, h2, h3]; simp [h4]) | exact a_impl_CellsOk_1 _ _ _ _ (by rw [gO (by unfold cellOk; rw [h1, h2, h3]; simp [h4])]; exact ⟨rfl, by first | rfl | trivial⟩)
  exact key rfl
theorem c_impl_CellsOk (l : List Cell) (hl : l.length ≤ 1073741824) (q : Bool) : RunF C impl_CellsOk [vCells l] (vB q) [] ↔ q = cellsOk l := iffB (run_impl_CellsOk l hl)
theorem run_spec_l9Copy (l : List Cell) (hl : l.length ≤ 1073741824) : RunF C spec_l9Copy [vCells l] (vCells l) [] := by
  refine (f_spec_l9Copy _ _ ?_).run
  rw [show allSc (l.map cellC) = true from by simp [allSc_cell], fitsT (by simp; omega)]
  exact ⟨rfl, by first | rfl | trivial⟩
theorem run_impl_copyCells (l : List Cell) (hl : l.length ≤ 1073741824) : RunF C impl_copyCells [vCells l] (vCells l) [] := by
  refine (f_impl_copyCells _ _ ?_).run
  rw [show allSc (l.map cellC) = true from by simp [allSc_cell], fitsT (by simp; omega)]
  exact ⟨rfl, by first | rfl | trivial⟩
theorem run_spec_FreeCell (l : List Cell) (i : Int) (hl : l.length ≤ 1073741824) : RunF C spec_FreeCell [vCells l, vI i] (vCells (freeCell l i)) [] := by
  refine (f_spec_FreeCell _ _ _ ⟨_, run_spec_l9Copy l hl, _, (c_spec_CellsOk l hl (cellsOk l)).2 rfl, ?_⟩).run
  cases h1 : cellsOk l with
  | false => exact brB_no rfl ⟨by rw [freeCell_bad h1], by first | rfl | trivial⟩
  | true =>
    refine brB_yes rfl ⟨_, run_l1In _ _ _, ?_⟩
    rw [List.length_map, show subW (Int.ofNat l.length) 1 = (l.length : Int) - 1 from subW_eq (by simp; omega)]
    by_cases h2 : 0 ≤ i ∧ i < l.length
    · obtain ⟨c, hc⟩ := getZ_some h2.1 h2.2
      refine brB_yes (by simp [inB]; omega) ?_
      simp only [ex_cell, hc, Option.some.injEq, exists_eq_left']
      cases h3 : c.u with
      | false => exact brB_no rfl ⟨by rw [freeCell_un hc h3], by first | rfl | trivial⟩
      | true =>
        refine brB_yes rfl (brB_no (by simp) ?_)
        simp only [ex_cell, hc, Option.some.injEq, exists_eq_left', sr_cell]
        exact ⟨by rw [freeCell_yes hc h1 h3], by first | rfl | trivial⟩
    · exact brB_no (by simp [inB]; omega) ⟨by rw [freeCell_none (getZ_none h2)], by first | rfl | trivial⟩
theorem run_impl_FreeCell (l : List Cell) (i : Int) (hl : l.length ≤ 1073741824) : RunF C impl_FreeCell [vCells l, vI i] (vCells (freeCell l i)) [] := by
  refine (f_impl_FreeCell _ _ _ ⟨_, run_impl_copyCells l hl, _, (c_impl_CellsOk l hl (cellsOk l)).2 rfl, ?_⟩).run
  cases h1 : cellsOk l with
  | false => exact brB_yes rfl ⟨by rw [freeCell_bad h1], by first | rfl | trivial⟩
  | true =>
    have h24 : l.length = 24 := by simp [cellsOk] at h1; omega
    refine brB_no rfl ⟨_, run_within _ _ _, ?_⟩
    by_cases h2 : 0 ≤ i ∧ i < l.length
    · obtain ⟨c, hc⟩ := getZ_some h2.1 h2.2
      refine brB_no (by simp [inB]; omega) ?_
      simp only [ex_cell, hc, Option.some.injEq, exists_eq_left']
      cases h3 : c.u with
      | false => exact brB_yes rfl ⟨by rw [freeCell_un hc h3], by first | rfl | trivial⟩
      | true =>
        refine brB_no rfl (brB_no (by simp) ?_)
        simp only [ex_cell, hc, Option.some.injEq, exists_eq_left', sr_cell]
        exact ⟨by rw [freeCell_yes hc h1 h3], by first | rfl | trivial⟩
    · exact brB_yes (by simp [inB]; omega) ⟨by rw [freeCell_none (getZ_none h2)], by first | rfl | trivial⟩
theorem run_impl_freeAt (l : List Cell) (hl : l.length ≤ 1073741824) : RunF C impl_freeAt [vCells l] (vI (freeAt l)) [] := by
  refine (f_impl_freeAt _ _ ?_).run
  have key : idxF isFree (l.drop 0) ((0 : Nat) : Int) = freeAt l → LoopG C impl_freeAt pRLRB 4 0 (s_impl_freeAt_0 (l.map cellC) ((0 : Nat) : Int)) (fun u st => AftF C impl_freeAt pRLRB u st fun r fs => r = vI (freeAt l) ∧ fs = []) := by
    refine idx_walk l (fun i => idxF isFree (l.drop i) (i : Int) = freeAt l → LoopG C impl_freeAt pRLRB 4 0 (s_impl_freeAt_0 (l.map cellC) i) (fun u st => AftF C impl_freeAt pRLRB u st fun r fs => r = vI (freeAt l) ∧ fs = [])) ?_ ?_
    · intro h0
      rw [List.drop_length] at h0
      simp only [idxF] at h0
      exact r_impl_freeAt_0 _ _ _ (brB_no (by simp) (a_impl_freeAt_2 _ _ _ _ _ (by rw [← h0]; exact ⟨rfl, by first | rfl | trivial⟩)))
    · intro i a hi ha hd htk hn h0
      rw [hd] at h0
      simp only [idxF] at h0
      refine r_impl_freeAt_0 _ _ _ (brB_yes (by simp; omega) ?_)
      simp only [ex_cell, getZ_nat, ha, Option.some.injEq, exists_eq_left']
      rw [addW_eq (by omega)]
      cases h1 : a.u with
      | false => rw [if_pos (by simp [isFree, h1])] at h0; exact brB_yes rfl (a_impl_freeAt_1 _ _ _ _ _ (by rw [← h0]; exact ⟨rfl, by first | rfl | trivial⟩))
      | true => rw [if_neg (by simp [isFree, h1])] at h0; exact brB_no rfl (hn h0)
  exact key rfl
theorem run_impl_TakeCell (l : List Cell) (n : Int) (hl : l.length ≤ 1073741824) : RunF C impl_TakeCell [vCells l, vI n] (tCIB (takeCell l n)) [] := by
  refine (f_impl_TakeCell _ _ _ ⟨_, run_impl_copyCells l hl, _, run_impl_freeAt l hl, ?_⟩).run
  by_cases h0 : freeAt l < 0
  · exact brB_yes (by simp [h0]) ⟨by rw [takeCell_no (fun h => by omega)], by first | rfl | trivial⟩
  · refine brB_no (by simp; omega) ⟨_, (c_impl_isWord n (isWordB n)).2 rfl, ?_⟩
    cases h1 : isWordB n with
    | false => exact brB_yes rfl ⟨by rw [takeCell_no (fun h => by rw [h1] at h; cases h.2.1)], by first | rfl | trivial⟩
    | true =>
      refine brB_no rfl ⟨_, (c_impl_CellsOk l hl (cellsOk l)).2 rfl, ?_⟩
      cases h2 : cellsOk l with
      | false => exact brB_yes rfl ⟨by rw [takeCell_no (fun h => by rw [h2] at h; cases h.1)], by first | rfl | trivial⟩
      | true =>
        obtain ⟨c, hc, hf⟩ := idxF_get isFree l h0
        change getZ l (freeAt l) = some c at hc
        refine brB_no rfl ?_
        simp only [ex_cell, sr_cell_u, sr_cell_n, hc, getZ_mod, ex_some_map, Option.some.injEq, exists_eq_left', mod_mod]
        exact ⟨by rw [takeCell_yes ⟨h2, h1, by omega⟩], by first | rfl | trivial⟩
theorem run_spec_TakeCell (l : List Cell) (n : Int) (hl : l.length ≤ 1073741824) : RunF C spec_TakeCell [vCells l, vI n] (tCIB (takeCell l n)) [] := by
  refine (f_spec_TakeCell _ _ _ ⟨_, run_spec_l9Copy l hl, ?_⟩).run
  have key : idxF isFree (l.drop 0) ((0 : Nat) : Int) = freeAt l → LoopG C spec_TakeCell pRRLRB 4 0 (s_spec_TakeCell_0 (l.map cellC) n ((0 : Nat) : Int) (l.map cellC)) (fun u st => AftF C spec_TakeCell pRRLRB u st fun r fs => r = tCIB (takeCell l n) ∧ fs = []) := by
    refine idx_walk l (fun i => idxF isFree (l.drop i) (i : Int) = freeAt l → LoopG C spec_TakeCell pRRLRB 4 0 (s_spec_TakeCell_0 (l.map cellC) n i (l.map cellC)) (fun u st => AftF C spec_TakeCell pRRLRB u st fun r fs => r = tCIB (takeCell l n) ∧ fs = [])) ?_ ?_
    · intro h0
      rw [List.drop_length] at h0
      simp only [idxF] at h0
      exact r_spec_TakeCell_0 _ _ _ _ _ (brB_no (by simp) (a_spec_TakeCell_3 _ _ _ _ _ ⟨by rw [takeCell_no (fun h => by omega)], by first | rfl | trivial⟩))
    · intro i a hi ha hd htk hn h0
      rw [hd] at h0
      simp only [idxF] at h0
      refine r_spec_TakeCell_0 _ _ _ _ _ (brB_yes (by simp; omega) ⟨_, (c_spec_CellsOk l hl (cellsOk l)).2 rfl, ?_⟩)
      cases h2 : cellsOk l with
      | false => exact brB_no rfl (a_spec_TakeCell_3 _ _ _ _ _ ⟨by rw [takeCell_no (fun h => by rw [h2] at h; cases h.1)], by first | rfl | trivial⟩)
      | true =>
        refine brB_yes rfl ⟨_, (c_spec_l1Word n (isWordB n)).2 rfl, ?_⟩
        cases h1 : isWordB n with
        | false => exact brB_no rfl (a_spec_TakeCell_2 _ _ _ _ _ _ ⟨by rw [takeCell_no (fun h => by rw [h1] at h; cases h.2.1)], by first | rfl | trivial⟩)
        | true =>
          refine brB_yes rfl ?_
          have hc : getZ l (i : Int) = some a := by rw [getZ_nat]; exact ha
          simp only [ex_cell, hc, Option.some.injEq, exists_eq_left']
          rw [addW_eq (by omega)]
          cases h3 : a.u with
          | false =>
            rw [if_pos (by simp [isFree, h3])] at h0
            refine brB_yes rfl ?_
            simp only [ex_cell, sr_cell_u, sr_cell_n, hc, getZ_mod, ex_some_map, Option.some.injEq, exists_eq_left', mod_mod]
            refine a_spec_TakeCell_1 _ _ _ ⟨?_, by first | rfl | trivial⟩
            rw [takeCell_yes ⟨h2, h1, by omega⟩, ← h0]
          | true => rw [if_neg (by simp [isFree, h3])] at h0; exact brB_no rfl (hn h0)
  exact key rfl
theorem d_l1New (b : List Int) (hb : b.length ≤ 1048576) : RunQ C spec_l1New [vBytes b] (fun r fs => fs = [] ∧ ∃ h, r = vCur b 0 h) := by
  refine f_spec_l1New _ _ ?_
  have key : ∀ (d i : Nat) (h : Int), i + d = 4000 → LoopG C spec_l1New pRRLRB 4 0 (s_spec_l1New_0 (b.map byteC) h (i : Int)) (fun x st => AftF C spec_l1New pRRLRB x st fun r fs => fs = [] ∧ ∃ h, r = vCur b 0 h) := by
    intro d
    induction d with
    | zero =>
      intro i h hd
      refine r_spec_l1New_0 _ _ _ _ ?_
      by_cases h1 : (i : Int) < (b.length : Int)
      · exact brB_yes (by simp <;> omega) (brB_no (by simp <;> omega) (a_spec_l1New_1 _ _ _ _ ⟨rfl, _, rfl⟩))
      · exact brB_no (by simp <;> omega) (a_spec_l1New_2 _ _ _ _ ⟨rfl, _, rfl⟩)
    | succ d ih =>
      intro i h hd
      refine r_spec_l1New_0 _ _ _ _ ?_
      by_cases h1 : (i : Int) < (b.length : Int)
      · refine brB_yes (by simp <;> omega) (brB_yes (by simp <;> omega) ⟨b[i]'(by omega), by rw [rowAt_mapZ, getZ_nat, List.getElem?_eq_getElem (by omega)]; rfl, ?_⟩)
        rw [addW_eq (a := (i : Int)) (by omega)]
        exact ih (i + 1) _ (by omega)
      · exact brB_no (by simp <;> omega) (a_spec_l1New_2 _ _ _ _ ⟨rfl, _, rfl⟩)
  exact key 4000 0 _ rfl
theorem d_l1Byte (b : List Int) (i h : Int) (hi : 0 ≤ i) (hb : b.length ≤ 1048576) : RunQ C spec_l1Byte [vCur b i h] (Dr b fun r => ∃ x, r = vI x ∧ 0 ≤ x ∧ x ≤ 255) := by
  refine f_spec_l1Byte _ _ _ _ ?_
  by_cases h1 : i < (b.length : Int)
  · obtain ⟨x, hx⟩ := getZ_some hi h1
    refine brB_yes (by simp <;> omega) ⟨x, by rw [rowAt_mapZ, hx]; rfl, addW i 1, _, ?_, rfl, _, rfl, and255 _⟩
    rw [addW_eq (by omega)]; omega
  · exact brB_no (by simp <;> omega) ⟨i, _, hi, rfl, _, rfl, and255 _⟩
theorem d_l1Below (b : List Int) (i h : Int) (hi : 0 ≤ i) (hb : b.length ≤ 1048576) (n : Int) (hn : n ≤ 16777216) : RunQ C spec_l1Below [vCur b i h, vI n] (Dr b fun r => ∃ x, r = vI x ∧ 0 ≤ x ∧ (0 < n → x < n)) := by
  refine f_spec_l1Below _ _ _ _ _ ?_
  by_cases h0 : n ≤ 0
  · exact brB_yes (by simp <;> omega) ⟨i, h, hi, rfl, 0, rfl, Int.le_refl _, fun h => by omega⟩
  refine brB_no (by simp <;> omega) ?_
  by_cases h1 : n ≤ 256
  · obtain ⟨_, _, hr, i1, h1', hi1, rfl, x, rfl, x0, x1⟩ := d_l1Byte b i h hi hb
    refine brB_yes (by simp <;> omega) ⟨x, _, i1, h1', hr, brB_no (by simp <;> omega) ⟨i1, h1', hi1, rfl, _, rfl, ?_⟩⟩
    rw [remI_eq]
    have := tmod_rng x0 (show 0 < n by omega)
    exact ⟨this.1, fun _ => this.2⟩
  · obtain ⟨_, _, hr, i1, h1', hi1, rfl, x, rfl, x0, x1⟩ := d_l1Byte b i h hi hb
    obtain ⟨_, _, hr2, i2, h2', hi2, rfl, y, rfl, y0, y1⟩ := d_l1Byte b i1 h1' hi1 hb
    obtain ⟨_, _, hr3, i3, h3', hi3, rfl, z, rfl, z0, z1⟩ := d_l1Byte b i2 h2' hi2 hb
    refine brB_no (by simp <;> omega) ⟨x, _, i1, h1', hr, y, _, i2, h2', hr2, z, _, i3, h3', hr3, brB_no (by simp <;> omega) ⟨i3, h3', hi3, rfl, _, rfl, ?_⟩⟩
    have e1 : mulW x 65536 = x * 65536 := mulI_eq (by omega)
    have e2 : mulW y 256 = y * 256 := mulI_eq (by omega)
    rw [remI_eq, e1, e2, addW_eq (a := x * 65536) (by omega), addW_eq (by omega)]
    have := tmod_rng (show 0 ≤ x * 65536 + y * 256 + z by omega) (show 0 < n by omega)
    exact ⟨this.1, fun _ => this.2⟩
theorem d_l1Once (b : List Int) (i h : Int) (hi : 0 ≤ i) (hb : b.length ≤ 1048576) (n : Int) (hn : n ≤ 16777216) : RunQ C spec_l1Once [vCur b i h, vI n] (Dr b fun r => ∃ x, r = vB x) := by
  obtain ⟨_, _, hr, i1, h1', hi1, rfl, x, rfl, x0, x1⟩ := d_l1Below b i h hi hb n hn
  exact f_spec_l1Once _ _ _ _ _ ⟨x, _, i1, h1', hr, i1, h1', hi1, rfl, _, rfl⟩
theorem d_l1Int (b : List Int) (i h : Int) (hi : 0 ≤ i) (hb : b.length ≤ 1048576) (l : List Int) (h0 : 0 < l.length) (hl : l.length ≤ 1000) : RunQ C spec_l1Int [vCur b i h, vInts l] (Dr b fun r => ∃ x, r = vI x ∧ x ∈ l) := by
  obtain ⟨_, _, hr, i1, h1', hi1, rfl, x, rfl, x0, x1⟩ := d_l1Below b i h hi hb (l.length : Int) (by omega)
  have := x1 (by omega)
  obtain ⟨y, hy⟩ := getZ_some x0 this
  refine f_spec_l1Int _ _ _ _ _ ⟨x, _, i1, h1', by rw [List.length_map]; exact hr, y, by rw [rowAt_mapZ, hy]; rfl, i1, h1', hi1, rfl, y, rfl, getZ_mem hy⟩
theorem run_spec_CellsNew' : RunF C spec_CellsNew [] (vCells (List.replicate 24 (⟨0, false, 0⟩ : Cell))) [] := by
  refine (f_spec_CellsNew _ ?_).run
  first
    | exact brB_yes (by simp) ⟨by simp [numI_eq]; rfl, rfl⟩
    | (simp; exact ⟨rfl, by first | rfl | trivial⟩)
    | (simp; rfl)
theorem d_l9Draw (b : List Int) (i h : Int) (hi : 0 ≤ i) (hb : b.length ≤ 1048576) : RunQ C spec_l9Draw [vCur b i h] (Dr b fun r => ∃ l, r = vCells l ∧ l.length = 24) := by
  obtain ⟨_, _, hr, i1, h1', hi1, rfl, x, rfl, x0, x1⟩ := d_l1Below b i h hi hb 30 (by omega)
  refine f_spec_l9Draw _ _ _ _ ⟨_, run_spec_CellsNew', x, _, i1, h1', hr, ?_⟩
  have key : ∀ (d : Nat) (i h : Int) (l : List Cell), 0 ≤ i → d ≤ 30 → l.length = 24 → LoopG C spec_l9Draw pRRLRB 4 0 (s_spec_l9Draw_0 (d : Int) (b.map byteC) i h (l.map cellC)) (fun x st => AftF C spec_l9Draw pRRLRB x st (Dr b fun r => ∃ l, r = vCells l ∧ l.length = 24)) := by
    intro d
    induction d with
    | zero =>
      intro i h l hi hd hl
      exact r_spec_l9Draw_0 _ _ _ _ _ _ (brB_no (by simp) (a_spec_l9Draw_1 _ _ _ _ _ _ _ ⟨i, h, hi, rfl, l, rfl, hl⟩))
    | succ d ih =>
      intro i h l hi hd hl
      obtain ⟨_, _, hr, i1, h1', hi1, rfl, x, rfl⟩ := d_l1Once b i h hi hb 3 (by omega)
      have e : subW ((d + 1 : Nat) : Int) 1 = (d : Int) := (subW_eq (by omega)).trans (by omega)
      refine r_spec_l9Draw_0 _ _ _ _ _ _ (brB_yes (by simp <;> omega) ⟨x, _, i1, h1', hr, ?_⟩)
      rw [e]
      cases x with
      | true =>
        obtain ⟨_, _, hr2, i2, h2', hi2, rfl, y, rfl, y0, y1⟩ := d_l1Below b i1 h1' hi1 hb 6 (by omega)
        exact brB_yes rfl ⟨y, _, i2, h2', hr2, _, run_spec_FreeCell l y (by omega), ih _ _ _ hi2 (by omega) (by rw [freeCell_len]; exact hl)⟩
      | false =>
        obtain ⟨_, _, hr2, i2, h2', hi2, rfl, y, rfl, hy⟩ := d_l1Int b i1 h1' hi1 hb [0, 5, 65535] (by simp) (by simp)
        exact brB_no rfl ⟨y, _, i2, h2', hr2, _, _, _, run_spec_TakeCell l y (by omega), ih _ _ _ hi2 (by omega) (by rw [takeCell_len]; exact hl)⟩
  have := x1 (by omega)
  obtain ⟨d, rfl⟩ : ∃ d : Nat, x = (d : Int) := ⟨x.toNat, by omega⟩
  exact key d _ _ _ hi1 (by omega) (by simp)
theorem d_l9Any (b : List Int) (i h : Int) (hi : 0 ≤ i) (hb : b.length ≤ 1048576) : RunQ C spec_l9Any [vCur b i h] (Dr b fun r => ∃ l, r = vCells l ∧ l.length ≤ 24) := by
  obtain ⟨_, _, hr, i1, h1', hi1, rfl, l, rfl, hl⟩ := d_l9Draw b i h hi hb
  obtain ⟨_, _, hr2, i2, h2', hi2, rfl, x, rfl, x0, x1⟩ := d_l1Below b i1 h1' hi1 hb 10 (by omega)
  obtain ⟨_, _, hr3, i3, h3', hi3, rfl, y, rfl, y0, y1⟩ := d_l1Below b i2 h2' hi2 hb (l.length : Int) (by omega)
  have hy := y1 (by omega)
  refine f_spec_l9Any _ _ _ _ ⟨_, _, i1, h1', hr, x, _, i2, h2', hr2, ?_⟩
  rw [List.length_map]
  refine brB_both (fun e0 => ?_) fun e0 => brB_both (fun e1 => ?_) fun e1 => brB_both (fun e2 => ?_) fun e2 => brB_both (fun e3 => ?_) fun e3 => ?_
  · refine brB_yes (by simp <;> omega) ⟨i2, h2', hi2, rfl, _, by rw [cutRows_map], by simp <;> omega⟩
  · obtain ⟨_, _, hr4, i4, h4', hi4, rfl, z, rfl, hz⟩ := d_l1Int b i3 h3' hi3 hb [-1, 999, 1000] (by simp) (by simp)
    obtain ⟨c, hc⟩ := getZ_some y0 hy
    refine ⟨y, _, i3, h3', hr3, z, _, i4, h4', hr4, ?_⟩
    simp only [ex_cell, hc, Option.some.injEq, exists_eq_left']
    refine ⟨i4, h4', hi4, rfl, setZ l y ⟨z, c.u, c.n⟩, ?_, by rw [length_setZ]; omega⟩
    rw [setRow_mapZ hc (a' := ⟨z, c.u, c.n⟩) rfl]
  · obtain ⟨_, _, hr4, i4, h4', hi4, rfl, z, rfl, hz⟩ := d_l1Int b i3 h3' hi3 hb [-1, 5, 65536] (by simp) (by simp)
    obtain ⟨c, hc⟩ := getZ_some y0 hy
    refine ⟨y, _, i3, h3', hr3, z, _, i4, h4', hr4, ?_⟩
    simp only [ex_cell, hc, Option.some.injEq, exists_eq_left']
    refine ⟨i4, h4', hi4, rfl, setZ l y ⟨c.g, c.u, z⟩, ?_, by rw [length_setZ]; omega⟩
    rw [setRow_mapZ hc (a' := ⟨c.g, c.u, z⟩) rfl]
  · obtain ⟨c, hc⟩ := getZ_some (l := l) (i := 0) (by omega) (by omega)
    simp only [ex_cell, hc, Option.some.injEq, exists_eq_left']
    refine ⟨i2, h2', hi2, rfl, setZ l 0 ⟨999, c.u, c.n⟩, ?_, by rw [length_setZ]; omega⟩
    rw [setRow_mapZ hc (a' := ⟨999, c.u, c.n⟩) rfl]
  · exact ⟨i2, h2', hi2, rfl, l, rfl, by omega⟩
theorem run_laws_sameCells (l : List Cell) (hl : l.length ≤ 1073741824) : RunF C laws_sameCells [vCells l, vCells l] (vB true) [] := by
  refine (f_laws_sameCells _ _ _ ?_).run
  refine brB_no (by simp) ?_
  refine idx_walk l (fun i => LoopG C laws_sameCells pRRLRB 4 0 (s_laws_sameCells_0 (l.map cellC) (l.map cellC) i) _) ?_ ?_
  · exact r_laws_sameCells_0 _ _ _ _ (brB_no (by simp) (a_laws_sameCells_2 _ _ _ _ _ ⟨rfl, by first | rfl | trivial⟩))
  · intro i a hi ha _ _ hn
    refine r_laws_sameCells_0 _ _ _ _ (brB_yes (by simp <;> omega) ?_)
    simp only [ex_cell, getZ_nat, ha, Option.some.injEq, exists_eq_left']
    refine brB_no (by simp) ?_
    rw [addW_eq (by omega)]
    exact hn
theorem d_DrawTakeCell (b : List Int) (hb : b.length ≤ 1048576) : RunQ C spec_DrawTakeCell [vBytes b] (fun r fs => fs = [] ∧ ∃ (l : List Cell) (n : Int), r = .tu [(0, [.sub 3 (l.map cellC)]), (0, [iI n])] ∧ l.length ≤ 24) := by
  obtain ⟨_, _, hn, rfl, h0, rfl⟩ := d_l1New b hb
  obtain ⟨_, _, hr, i1, h1, hi1, rfl, l, rfl, hl⟩ := d_l9Any b 0 h0 (by omega) hb
  obtain ⟨_, _, hr2, i2, h2, hi2, rfl, x, rfl⟩ := d_l1Once b i1 h1 hi1 hb 6 (by omega)
  obtain ⟨_, _, hr3, i3, h3, hi3, rfl, z, rfl, _⟩ := d_l1Int b i2 h2 hi2 hb [0, 7, 65535, 65536, -1] (by simp) (by simp)
  refine f_spec_DrawTakeCell _ _ ⟨_, _, _, hn, _, _, _, _, hr, x, _, _, _, hr2, ?_⟩
  cases x with
  | false => exact brB_no rfl ⟨z, _, _, _, hr3, rfl, l, z, rfl, hl⟩
  | true =>
    refine brB_yes rfl ?_
    have key : ∀ (d : Nat) (i : Nat) (l : List Cell), l.length ≤ 24 → i + d = l.length → LoopG C spec_DrawTakeCell pRRRLRLRB 4 0 (s_spec_DrawTakeCell_0 (i : Int) (b.map byteC) i2 h2 (l.map cellC)) (fun x st => AftF C spec_DrawTakeCell pRRRLRLRB x st fun r fs => fs = [] ∧ ∃ (l : List Cell) (n : Int), r = .tu [(0, [.sub 3 (l.map cellC)]), (0, [iI n])] ∧ l.length ≤ 24) := by
      intro d
      induction d with
      | zero =>
        intro i l hl hd
        exact r_spec_DrawTakeCell_0 _ _ _ _ _ _ (brB_no (by simp <;> omega) (a_spec_DrawTakeCell_1 _ _ _ _ _ _ _ ⟨z, _, _, _, hr3, rfl, l, z, rfl, hl⟩))
      | succ d ih =>
        intro i l hl hd
        obtain ⟨c, hc⟩ := getZ_some (l := l) (i := (i : Int)) (by omega) (by omega)
        refine r_spec_DrawTakeCell_0 _ _ _ _ _ _ (brB_yes (by simp <;> omega) ?_)
        simp only [ex_cell, hc, Option.some.injEq, exists_eq_left', sr_cell_u]
        rw [addW_eq (by omega)]
        exact ih (i + 1) _ (by simpa using hl) (by simp; omega)
    exact key l.length 0 l hl (by omega)
theorem run_big (b : List Int) : RunF C laws_big [vBytes b] (vB (decide (1048576 < b.length))) [] := by
  refine (f_laws_big _ _ ⟨?_, by first | rfl | trivial⟩).run
  simp <;> omega
theorem law_FnCells (b : List Int) : RunF C laws_FnCells [vBytes b] (vB true) [] := by
  refine (f_laws_FnCells _ _ ⟨_, run_big b, ?_⟩).run
  by_cases hb : 1048576 < b.length
  · exact brB_yes (by simp <;> omega) ⟨rfl, by first | rfl | trivial⟩
  have hb : b.length ≤ 1048576 := by omega
  obtain ⟨_, _, e1, rfl, l, n, rfl, hl⟩ := d_DrawTakeCell b hb
  refine brB_no (by simp <;> omega) ⟨_, _, e1, _, _, _, run_impl_TakeCell l n (by omega), _, _, _, run_spec_TakeCell l n (by omega), brB_no (by simp) (brB_no (by simp) ⟨_, run_laws_sameCells _ (by rw [takeCell_len]; omega), brB_no rfl ?_⟩)⟩
  by_cases h : cellsOk l = true ∧ isWordB n = true ∧ 0 ≤ freeAt l
  · rw [takeCell_yes h]
    have h24 := cellsOk_len h.1
    rcases idxF_at isFree l 0 with h0 | ⟨j, hj, hj1, hj2, hj3⟩
    · have := h.2.2; unfold freeAt at this; simp only [Int.natCast_zero] at h0; omega
    · have hj : freeAt l = (j : Int) := by unfold freeAt; simpa using hj
      rw [hj]
      simp only [Int.toNat_natCast]
      have hun : l[j].u = false := by simpa [isFree] using hj2
      have hall : ∀ c ∈ l, cellOk c = true := by have := h.1; unfold cellsOk at this; simp only [Bool.and_eq_true, List.all_eq_true] at this; exact this.1
      have hcj := hall _ (List.getElem_mem hj1)
      have hg : 0 ≤ l[j].g ∧ l[j].g ≤ 999 := by simp [cellOk, inB] at hcj; exact hcj.1
      have hw : 0 ≤ n ∧ n ≤ 65535 := by have := h.2.1; simp [isWordB, inB] at this; exact this
      have hx := cellsOk_mod (f := fun c => ⟨c.g, true, n⟩) (j := j) h.1 (fun _ => by simp [cellOk, inB, isWordB, hg, hw])
      have hgx : getZ (l.modify j fun c => ⟨c.g, true, n⟩) (j : Int) = some ⟨l[j].g, true, n⟩ := by
        rw [getZ_nat, List.getElem?_eq_getElem (by simpa using hj1), List.getElem_modify, if_pos rfl]
      have hfree : freeCell (l.modify j fun c => ⟨c.g, true, n⟩) (j : Int) = l.modify j fun c => ⟨remI (addW c.g 1) 1000, false, 0⟩ := by
        rw [freeCell_yes hgx hx rfl]
        simp only [Int.toNat_natCast]
        apply List.ext_getElem
        · simp
        · intro i h1 h2
          simp only [List.getElem_modify]
          split <;> simp_all
      have hrem : 0 ≤ Int.tmod (l[j].g + 1) 1000 ∧ Int.tmod (l[j].g + 1) 1000 < 1000 := tmod_rng (by omega) (by omega)
      have hf := cellsOk_mod (f := fun c => ⟨remI (addW c.g 1) 1000, false, 0⟩) (j := j) h.1 (fun _ => by
        rw [addW_eq (by omega), remI_eq]
        simp [cellOk, inB, isWordB]; omega)
      have hgf : getZ (l.modify j fun c => ⟨remI (addW c.g 1) 1000, false, 0⟩) (j : Int) = some ⟨remI (addW l[j].g 1) 1000, false, 0⟩ := by
        rw [getZ_nat, List.getElem?_eq_getElem (by simpa using hj1), List.getElem_modify, if_pos rfl]
      refine brB_no rfl ⟨_, run_impl_FreeCell _ _ (by simp; omega), ?_⟩
      rw [hfree]
      simp only [ex_cell, hgx, Option.some.injEq, exists_eq_left']
      refine ⟨_, _, run_impl_CellAt _ _ _ (by simp; omega), _, _, run_impl_CellAt _ _ _ (by simp; omega), _, _, run_impl_CellAt _ _ _ (by simp; omega), ?_⟩
      have c1 : cellAt (l.modify j fun c => ⟨c.g, true, n⟩) (j : Int) l[j].g = (n, true) := by unfold cellAt; rw [hgx]; simp
      have c2 : (cellAt (l.modify j fun c => ⟨remI (addW c.g 1) 1000, false, 0⟩) (j : Int) l[j].g).2 = false := by unfold cellAt; rw [hgf]; simp
      have c3 : (cellAt (l.modify j fun c => ⟨c.g, true, n⟩) (j : Int) (addW l[j].g 1)).2 = false := by
        unfold cellAt; rw [hgx, addW_eq (by omega)]; simp only []; rw [if_neg (by simp <;> omega)]
      rw [c1, c2, c3]
      have PT : ∀ i : Nat, i < l.length → i ≠ j → ∀ f : Cell → Cell, getZ (l.modify j f) (i : Int) = l[i]? := fun i hi hne f => by
        rw [getZ_nat, List.getElem?_modify]; cases l[i]? with | none => rfl | some a => simp [Ne.symm hne]
      refine idx_walk l (fun i => LoopG C laws_FnCells pRRRRRRRRRRLRB 4 0 (s_laws_FnCells_0 n (j : Int) n true false false (i : Int) (l.map cellC) ((l.modify j fun c => ⟨c.g, true, n⟩).map cellC) ((l.modify j fun c => ⟨remI (addW c.g 1) 1000, false, 0⟩).map cellC)) _) ?_ ?_
      · refine r_laws_FnCells_0 _ _ _ _ _ _ _ _ _ _ _ (brB_no (by simp) (a_laws_FnCells_2 _ _ _ _ _ _ _ _ _ _ _ _ (brB_yes rfl (brB_yes (by simp) (brB_yes rfl (brB_yes rfl ⟨_, (c_impl_CellsOk _ (by simp; omega) _).2 rfl, brB_yes hf ?_⟩))))))
        have hu : usedCells l ≤ l.length := List.length_filter_le _ _
        refine ⟨_, run_impl_UsedCells _ (by simp; omega), _, run_impl_UsedCells _ (by omega), brB_yes ?_ ⟨_, run_impl_UsedCells _ (by simp; omega), _, run_impl_UsedCells _ (by omega), ?_, rfl⟩⟩
        · rw [used_mod hj1 hun, addW_eq (by omega)]; simp
        · rw [used_mod hj1 hun]; simp
      · intro i a hi ha _ _ hn
        refine r_laws_FnCells_0 _ _ _ _ _ _ _ _ _ _ _ (brB_yes (by simp <;> omega) ?_)
        rw [addW_eq (by omega)]
        by_cases hij : i = j
        · subst hij
          exact brB_no (by simp) (brB_no (by simp) hn)
        · refine brB_yes (by simp <;> omega) ?_
          simp only [ex_cell, PT i hi hij, getZ_nat, ha, Option.some.injEq, exists_eq_left']
          refine brB_no (by simp) (brB_no (by simp) ?_)
          by_cases hlt : i < j
          · have hu := hj3 i hlt
            have : l[i] = a := by rw [List.getElem?_eq_getElem hi] at ha; exact Option.some.inj ha
            rw [this] at hu
            exact brB_yes (by simp <;> omega) (brB_no (by simpa [isFree] using hu) hn)
          · exact brB_no (by simp <;> omega) hn
  · rw [takeCell_no h]
    exact brB_yes rfl (brB_yes (by simp) ⟨_, run_laws_sameCells l (by omega), brB_yes rfl ⟨by simp, by first | rfl | trivial⟩⟩)
theorem len_of {n z : Nat} (h : n * z ≤ reachBytes) (hz : 1 ≤ z) : n ≤ 140737488355328 := by
  have : reachBytes ≤ 140737488355328 := by decide
  have h2 : n * 1 ≤ n * z := Nat.mul_le_mul_left n hz
  omega
theorem byte_in {r : List TC} (h : WfT C.tt t_uint8 r) : ∃ n : Int, r = byteC n ∧ (0 ≤ n ∧ n ≤ 255) := by
  obtain ⟨n, rfl, h1⟩ := h.int_inv (k := .u8) (by kernel_rfl)
  exact ⟨n, rfl, u8_wf h1⟩
theorem bytes_rows {r : List TC} (h : WfT C.tt t_S_uint8 r) : ∃ l : List (Int), r = [.sub 1 (l.map byteC)] ∧ l.length ≤ 140737488355328 ∧ ∀ x ∈ l, 0 ≤ x ∧ x ≤ 255 := by
  obtain ⟨w, rfl, y, z⟩ := h.slice_inv (e := t_uint8) (by kernel_rfl)
  obtain ⟨l, rfl, hl⟩ := rows_typed fun r hr => byte_in (y r hr)
  rw [List.length_map] at z
  exact ⟨l, rfl, len_of z (by decide +kernel), hl⟩
theorem v_bytes {v : TV} (h : WfV C.tt t_S_uint8 v) : ∃ l : List Int, v = vBytes l ∧ l.length ≤ 140737488355328 ∧ ∀ x ∈ l, 0 ≤ x ∧ x ≤ 255 := by
  have ht : (C.tt t_S_uint8).ti = .slice 5 := by kernel_rfl
  cases h with
  | c _ hw =>
    obtain ⟨l, h1, h2, h3⟩ := bytes_rows hw
    cases h1
    exact ⟨l, rfl, h2, h3⟩
  | ag h1 _ => rw [ht] at h1; cases h1
theorem all_FnCells (vs : List TV) (h : WfVs C.tt [t_S_uint8] vs) : ∃ k, callP C k laws_FnCells vs (vB true) [] := by
  cases h with
  | cons h0 h =>
    cases h
    obtain ⟨b, rfl, _⟩ := v_bytes h0
    exact law_FnCells b
end Go.T.R
