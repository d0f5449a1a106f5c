/- What the functions answer. -/
import Derived.Test.YtaijlchekndalaaTR0
set_option linter.unusedVariables false
set_option linter.unusedSimpArgs false
set_option maxRecDepth 100000
namespace Go.T.R
open Go Go.T
theorem toCell (v0 : Int) (v1 : Bool) (v2 : Int) : RunF C laws_toCell [.ag [iI v0, iB v1, iI v2]] (.ag [iI v0, iB v1, iI v2]) [] := (f_laws_toCell _ _ _ _ ⟨rfl, by first | rfl | trivial⟩).run
theorem eqCell (v0 : Int) (v1 : Bool) (v2 : Int) : RunF C laws_eqCell [.ag [iI v0, iB v1, iI v2], .ag [iI v0, iB v1, iI v2]] (vB true) [] := by
  refine (f_laws_eqCell _ _ _ _ _ _ _ ?_).run
  simp
theorem toCellS (l : List (Cell)) (hl : l.length ≤ 1099511627776) : RunF C laws_toCellS [vCells l] (vCells l) [] := by
  refine (f_laws_toCellS _ _ ?_).run
  simp only [List.length_map]
  refine brB_yes (by simp; omega) ?_
  simp only [ofNat_cast, numI_eq, Int.toNat_natCast]
  refine cp_loop (e := cellC) (z := [iI 0, iB false, iI 0]) l (fun i rows => LoopG C laws_toCellS pRRLRB 4 0 (s_laws_toCellS_0 (l.map cellC) i rows) _) (fun a => rfl) ?_ ?_
  · exact r_laws_toCellS_0 _ _ _ _ (brB_no (by simp) (a_laws_toCellS_1 _ _ _ _ _ ⟨rfl, by first | rfl | trivial⟩))
  · intro i rows a hi ha hr hn
    refine r_laws_toCellS_0 _ _ _ _ (brB_yes (by simp; omega) ⟨_, _, _, rowAt_map ha, _, _, _, toCell _ _ _, _, _, _, hr, _, _, _, hr, ?_⟩)
    rw [addW_eq (by omega)]
    exact hn
theorem eqCellS (l : List (Cell)) (hl : l.length ≤ 1099511627776) : RunF C laws_eqCellS [vCells l, vCells l] (vB true) [] := by
  refine (f_laws_eqCellS _ _ _ ?_).run
  refine brB_no (by simp) ?_
  refine idx_walk l (fun i => LoopG C laws_eqCellS pRRLRB 4 0 (s_laws_eqCellS_0 (l.map cellC) (l.map cellC) i) _) ?_ ?_
  · exact r_laws_eqCellS_0 _ _ _ _ (brB_no (by simp) (a_laws_eqCellS_2 _ _ _ _ _ ⟨rfl, by first | rfl | trivial⟩))
  · intro i a hi ha _ _ hn
    refine r_laws_eqCellS_0 _ _ _ _ (brB_yes (by simp; omega) ⟨_, _, _, rowAt_map ha, _, _, _, rowAt_map ha, _, eqCell _ _ _, brB_no (by simp) ?_⟩)
    rw [addW_eq (by omega)]
    exact hn
theorem szCellS (l : List (Cell)) (left : Int) (h0 : 0 ≤ left ∧ left ≤ 1048576) (hl : l.length ≤ 140737488355328) : RunF C laws_szCellS [vCells l, vI left] (vI (lft left l.length)) [] := by
  refine (f_laws_szCellS _ _ _ ?_).run
  simp only [List.length_map, ofNat_cast]
  rw [subW_eq (by omega)]
  unfold lft
  simp only [ltI_eq, brB_dec]
  by_cases h : left < (l.length : Int)
  · rw [if_pos (by omega), if_pos h]; exact ⟨rfl, by first | rfl | trivial⟩
  · rw [if_neg (by omega), if_neg h]; exact ⟨rfl, by first | rfl | trivial⟩
theorem run_within (a b c : Int) : RunF C impl_within [vI a, vI b, vI c] (vB (inB a b c)) [] := by
  refine (f_impl_within _ _ _ _ ?_).run
  simp only [leI_eq, brB_dec, inB]
  split <;> simp_all <;> omega
theorem run_l1In (a b c : Int) : RunF C spec_l1In [vI a, vI b, vI c] (vB (inB a b c)) [] := by
  refine (f_spec_l1In _ _ _ _ ?_).run
  simp only [leI_eq, brB_dec, inB]
  split <;> simp_all <;> omega
@[simp] theorem c_within (a b c : Int) (q : Bool) : RunF C impl_within [vI a, vI b, vI c] (vB q) [] ↔ q = inB a b c := iffB (run_within a b c)
@[simp] theorem c_l1In (a b c : Int) (q : Bool) : RunF C spec_l1In [vI a, vI b, vI c] (vB q) [] ↔ q = inB a b c := iffB (run_l1In a b c)
@[simp] theorem c_spec_l1Word (a : Int) (q : Bool) : RunF C spec_l1Word [vI a] (vB q) [] ↔ q = isWordB a := iffB ((f_spec_l1Word _ _ ⟨_, run_l1In _ _ _, rfl, by first | rfl | trivial⟩).run)
theorem run_spec_CellsOk (l : List Cell) (hl : l.length ≤ 1073741824) : RunF C spec_CellsOk [vCells l] (vB ((l.all cellOk && decide (l.length = 24)))) [] := by
  refine (f_spec_CellsOk _ _ ?_).run
  have key : ((l.drop 0).all cellOk && decide (l.length = 24)) = (l.all cellOk && decide (l.length = 24)) → LoopG C spec_CellsOk pRLRB 4 0 (s_spec_CellsOk_0 (l.map cellC) ((0 : Nat) : Int)) (fun u st => AftF C spec_CellsOk pRLRB u st fun r fs => r = vB ((l.all cellOk && decide (l.length = 24))) ∧ fs = []) := by
    refine idx_walk l (fun i => ((l.drop i).all cellOk && decide (l.length = 24)) = (l.all cellOk && decide (l.length = 24)) → LoopG C spec_CellsOk pRLRB 4 0 (s_spec_CellsOk_0 (l.map cellC) i) (fun u st => AftF C spec_CellsOk pRLRB u st fun r fs => r = vB ((l.all cellOk && decide (l.length = 24))) ∧ fs = [])) ?_ ?_
    · intro h0
      refine r_spec_CellsOk_0 _ _ _ (brB_no (by simp) (a_spec_CellsOk_2 _ _ _ _ ?_))
      rw [List.drop_length] at h0
      simp only [List.all_nil, Bool.true_and] at h0
      rw [← h0]
      simp [eqI_eq]
      try omega
    · intro i a hi ha hd htk hn h0
      have gO : cellOk a = false → (l.all cellOk && decide (l.length = 24)) = false := fun e => by rw [← h0, hd]; simp [e]
      have gN : cellOk a = true → LoopG C spec_CellsOk pRLRB 4 0 (s_spec_CellsOk_0 (l.map cellC) ((i : Int) + 1)) (fun u st => AftF C spec_CellsOk pRLRB u st fun r fs => r = vB ((l.all cellOk && decide (l.length = 24))) ∧ fs = []) := fun e => hn (by rw [← h0, hd]; simp [e])
      refine r_spec_CellsOk_0 _ _ _ (brB_yes (by simp; omega) ?_)
      simp only [ex_cell, c_l1In, c_spec_l1Word, eqI_eq, getZ_nat, ha, Option.some.injEq, exists_eq_left', exists_eq_left, brB_not, brB_and, brB_or, key_eta, age_eta, cell_eta, vol_eta, map_eta, op_eta, succ_len, natAdd, List.length_map, List.length_append, List.length_singleton, Bool.true_and, Bool.and_true]
      rw [addW_eq (by omega)]
      cases h1 : inB a.g 0 999 <;> cases h2 : isWordB a.n <;> cases h3 : a.u <;> by_cases h4 : a.n = 0 <;> simp only [h1, h2, h3, h4, brB_t, brB_f, decide_true, decide_false, not_true_eq_false, not_false_eq_true, Bool.not_true, Bool.not_false] <;> first | exact gN (by unfold cellOk; rw [h1, h2, h3]; simp [h4]) | exact a_spec_CellsOk_1 _ (by rw [gO (by unfold cellOk; rw [h1, h2, h3]; simp [h4])]; exact ⟨rfl, by first | rfl | trivial⟩)
  exact key rfl
theorem c_spec_CellsOk (l : List Cell) (hl : l.length ≤ 1073741824) (q : Bool) : RunF C spec_CellsOk [vCells l] (vB q) [] ↔ q = cellsOk l := iffB (run_spec_CellsOk l hl)
@[simp] theorem c_impl_isWord (a : Int) (q : Bool) : RunF C impl_isWord [vI a] (vB q) [] ↔ q = isWordB a := iffB ((f_impl_isWord _ _ ⟨_, run_within _ _ _, rfl, by first | rfl | trivial⟩).run)
theorem run_impl_CellsOk (l : List Cell) (hl : l.length ≤ 1073741824) : RunF C impl_CellsOk [vCells l] (vB ((l.all cellOk && decide (l.length = 24)))) [] := by
  refine (f_impl_CellsOk _ _ ?_).run
  have key : ((l.drop 0).all cellOk && decide (l.length = 24)) = (l.all cellOk && decide (l.length = 24)) → LoopG C impl_CellsOk pRLRB 4 0 (s_impl_CellsOk_0 (l.map cellC) ((0 : Nat) : Int)) (fun u st => AftF C impl_CellsOk pRLRB u st fun r fs => r = vB ((l.all cellOk && decide (l.length = 24))) ∧ fs = []) := by
    refine idx_walk l (fun i => ((l.drop i).all cellOk && decide (l.length = 24)) = (l.all cellOk && decide (l.length = 24)) → LoopG C impl_CellsOk pRLRB 4 0 (s_impl_CellsOk_0 (l.map cellC) i) (fun u st => AftF C impl_CellsOk pRLRB u st fun r fs => r = vB ((l.all cellOk && decide (l.length = 24))) ∧ fs = [])) ?_ ?_
    · intro h0
      refine r_impl_CellsOk_0 _ _ _ (brB_no (by simp) (a_impl_CellsOk_2 _ _ _ _ _ ?_))
      rw [List.drop_length] at h0
      simp only [List.all_nil, Bool.true_and] at h0
      rw [← h0]
      simp [eqI_eq]
      try omega
    · intro i a hi ha hd htk hn h0
      have gO : cellOk a = false → (l.all cellOk && decide (l.length = 24)) = false := fun e => by rw [← h0, hd]; simp [e]
      have gN : cellOk a = true → LoopG C impl_CellsOk pRLRB 4 0 (s_impl_CellsOk_0 (l.map cellC) ((i : Int) + 1)) (fun u st => AftF C impl_CellsOk pRLRB u st fun r fs => r = vB ((l.all cellOk && decide (l.length = 24))) ∧ fs = []) := fun e => hn (by rw [← h0, hd]; simp [e])
      refine r_impl_CellsOk_0 _ _ _ (brB_yes (by simp; omega) ?_)
      simp only [ex_cell, c_within, c_impl_isWord, eqI_eq, getZ_nat, ha, Option.some.injEq, exists_eq_left', exists_eq_left, brB_not, brB_and, brB_or, key_eta, age_eta, cell_eta, vol_eta, map_eta, op_eta, succ_len, natAdd, List.length_map, List.length_append, List.length_singleton, Bool.true_and, Bool.and_true]
      rw [addW_eq (by omega)]
      cases h1 : inB a.g 0 999 <;> cases h2 : isWordB a.n <;> cases h3 : a.u <;> by_cases h4 : a.n = 0 <;> simp only [h1, h2, h3, h4, brB_t, brB_f, decide_true, decide_false, not_true_eq_false, not_false_eq_true, Bool.not_true, Bool.not_false] <;> first | exact gN (by unfold cellOk; rw [h1, h2, h3]; simp [h4]) | exact a_impl_CellsOk_1 _ _ _ _ (by rw [gO (by unfold cellOk; rw [h1, h2, h3]; simp [h4])]; exact ⟨rfl, by first | rfl | trivial⟩)
  exact key rfl
theorem c_impl_CellsOk (l : List Cell) (hl : l.length ≤ 1073741824) (q : Bool) : RunF C impl_CellsOk [vCells l] (vB q) [] ↔ q = cellsOk l := iffB (run_impl_CellsOk l hl)
theorem run_spec_l9Copy (l : List Cell) (hl : l.length ≤ 1073741824) : RunF C spec_l9Copy [vCells l] (vCells l) [] := by
  refine (f_spec_l9Copy _ _ ?_).run
  rw [show allSc (l.map cellC) = true from by simp [allSc_cell], fitsT (by simp; omega)]
  exact ⟨rfl, by first | rfl | trivial⟩
theorem run_impl_copyCells (l : List Cell) (hl : l.length ≤ 1073741824) : RunF C impl_copyCells [vCells l] (vCells l) [] := by
  refine (f_impl_copyCells _ _ ?_).run
  rw [show allSc (l.map cellC) = true from by simp [allSc_cell], fitsT (by simp; omega)]
  exact ⟨rfl, by first | rfl | trivial⟩
theorem run_impl_freeAt (l : List Cell) (hl : l.length ≤ 1073741824) : RunF C impl_freeAt [vCells l] (vI (freeAt l)) [] := by
  refine (f_impl_freeAt _ _ ?_).run
  have key : idxF isFree (l.drop 0) ((0 : Nat) : Int) = freeAt l → LoopG C impl_freeAt pRLRB 4 0 (s_impl_freeAt_0 (l.map cellC) ((0 : Nat) : Int)) (fun u st => AftF C impl_freeAt pRLRB u st fun r fs => r = vI (freeAt l) ∧ fs = []) := by
    refine idx_walk l (fun i => idxF isFree (l.drop i) (i : Int) = freeAt l → LoopG C impl_freeAt pRLRB 4 0 (s_impl_freeAt_0 (l.map cellC) i) (fun u st => AftF C impl_freeAt pRLRB u st fun r fs => r = vI (freeAt l) ∧ fs = [])) ?_ ?_
    · intro h0
      rw [List.drop_length] at h0
      simp only [idxF] at h0
      exact r_impl_freeAt_0 _ _ _ (brB_no (by simp) (a_impl_freeAt_2 _ _ _ _ _ (by rw [← h0]; exact ⟨rfl, by first | rfl | trivial⟩)))
    · intro i a hi ha hd htk hn h0
      rw [hd] at h0
      simp only [idxF] at h0
      refine r_impl_freeAt_0 _ _ _ (brB_yes (by simp; omega) ?_)
      simp only [ex_cell, getZ_nat, ha, Option.some.injEq, exists_eq_left']
      rw [addW_eq (by omega)]
      cases h1 : a.u with
      | false => rw [if_pos (by simp [isFree, h1])] at h0; exact brB_yes rfl (a_impl_freeAt_1 _ _ _ _ _ (by rw [← h0]; exact ⟨rfl, by first | rfl | trivial⟩))
      | true => rw [if_neg (by simp [isFree, h1])] at h0; exact brB_no rfl (hn h0)
  exact key rfl
theorem run_impl_TakeCell (l : List Cell) (n : Int) (hl : l.length ≤ 1073741824) : RunF C impl_TakeCell [vCells l, vI n] (tCIB (takeCell l n)) [] := by
  refine (f_impl_TakeCell _ _ _ ⟨_, run_impl_copyCells l hl, _, run_impl_freeAt l hl, ?_⟩).run
  by_cases h0 : freeAt l < 0
  · exact brB_yes (by simp [h0]) ⟨by rw [takeCell_no (fun h => by omega)], by first | rfl | trivial⟩
  · refine brB_no (by simp; omega) ⟨_, (c_impl_isWord n (isWordB n)).2 rfl, ?_⟩
    cases h1 : isWordB n with
    | false => exact brB_yes rfl ⟨by rw [takeCell_no (fun h => by rw [h1] at h; cases h.2.1)], by first | rfl | trivial⟩
    | true =>
      refine brB_no rfl ⟨_, (c_impl_CellsOk l hl (cellsOk l)).2 rfl, ?_⟩
      cases h2 : cellsOk l with
      | false => exact brB_yes rfl ⟨by rw [takeCell_no (fun h => by rw [h2] at h; cases h.1)], by first | rfl | trivial⟩
      | true =>
        obtain ⟨c, hc, hf⟩ := idxF_get isFree l h0
        change getZ l (freeAt l) = some c at hc
        refine brB_no rfl ?_
        simp only [ex_cell, sr_cell_u, sr_cell_n, hc, getZ_mod, ex_some_map, Option.some.injEq, exists_eq_left', mod_mod]
        exact ⟨by rw [takeCell_yes ⟨h2, h1, by omega⟩], by first | rfl | trivial⟩
theorem run_spec_TakeCell (l : List Cell) (n : Int) (hl : l.length ≤ 1073741824) : RunF C spec_TakeCell [vCells l, vI n] (tCIB (takeCell l n)) [] := by
  refine (f_spec_TakeCell _ _ _ ⟨_, run_spec_l9Copy l hl, ?_⟩).run
  have key : idxF isFree (l.drop 0) ((0 : Nat) : Int) = freeAt l → LoopG C spec_TakeCell pRRLRB 4 0 (s_spec_TakeCell_0 (l.map cellC) n ((0 : Nat) : Int) (l.map cellC)) (fun u st => AftF C spec_TakeCell pRRLRB u st fun r fs => r = tCIB (takeCell l n) ∧ fs = []) := by
    refine idx_walk l (fun i => idxF isFree (l.drop i) (i : Int) = freeAt l → LoopG C spec_TakeCell pRRLRB 4 0 (s_spec_TakeCell_0 (l.map cellC) n i (l.map cellC)) (fun u st => AftF C spec_TakeCell pRRLRB u st fun r fs => r = tCIB (takeCell l n) ∧ fs = [])) ?_ ?_
    · intro h0
      rw [List.drop_length] at h0
      simp only [idxF] at h0
      exact r_spec_TakeCell_0 _ _ _ _ _ (brB_no (by simp) (a_spec_TakeCell_3 _ _ _ _ _ ⟨by rw [takeCell_no (fun h => by omega)], by first | rfl | trivial⟩))
    · intro i a hi ha hd htk hn h0
      rw [hd] at h0
      simp only [idxF] at h0
      refine r_spec_TakeCell_0 _ _ _ _ _ (brB_yes (by simp; omega) ⟨_, (c_spec_CellsOk l hl (cellsOk l)).2 rfl, ?_⟩)
      cases h2 : cellsOk l with
      | false => exact brB_no rfl (a_spec_TakeCell_3 _ _ _ _ _ ⟨by rw [takeCell_no (fun h => by rw [h2] at h; cases h.1)], by first | rfl | trivial⟩)
      | true =>
        refine brB_yes rfl ⟨_, (c_spec_l1Word n (isWordB n)).2 rfl, ?_⟩
        cases h1 : isWordB n with
        | false => exact brB_no rfl (a_spec_TakeCell_2 _ _ _ _ _ _ ⟨by rw [takeCell_no (fun h => by rw [h1] at h; cases h.2.1)], by first | rfl | trivial⟩)
        | true =>
          refine brB_yes rfl ?_
          have hc : getZ l (i : Int) = some a := by rw [getZ_nat]; exact ha
          simp only [ex_cell, hc, Option.some.injEq, exists_eq_left']
          rw [addW_eq (by omega)]
          cases h3 : a.u with
          | false =>
            rw [if_pos (by simp [isFree, h3])] at h0
            refine brB_yes rfl ?_
            simp only [ex_cell, sr_cell_u, sr_cell_n, hc, getZ_mod, ex_some_map, Option.some.injEq, exists_eq_left', mod_mod]
            refine a_spec_TakeCell_1 _ _ _ ⟨?_, by first | rfl | trivial⟩
            rw [takeCell_yes ⟨h2, h1, by omega⟩, ← h0]
          | true => rw [if_neg (by simp [isFree, h3])] at h0; exact brB_no rfl (hn h0)
  exact key rfl
theorem eqI30 : eqI 3 0 = false := by simp
def mkCell (_ : Cell) (k : Int) : Cell := ⟨k, eqI (remI (k + 1) 3) 0, k + 1 + 1⟩
def wCell (_ : Cell) : Nat := 3
theorem markCellS (l : List (Cell)) (k : Int) (h0 : 0 ≤ k) (hk : k + tot wCell l ≤ 2305843009213693952) (hl : l.length ≤ 1099511627776) : RunF C laws_markCellS [vCells l, vI k] (vI (k + tot wCell l)) [vCells (markG mkCell wCell l k)] := by
  refine (f_laws_markCellS _ _ _ ?_).run
  refine mark_loop (e := cellC) mkCell wCell (fun k i rows => LoopG C laws_markCellS pRLRB 4 0 (s_laws_markCellS_0 k i rows) _) 2305843009213693952 ?_ l [] k h0 hk (by simpa using hl) ?_
  · intro d a r k h0 hk hd hn
    have hw : wCell a = 3 := rfl
    rw [hw] at hk hn
    refine r_laws_markCellS_0 _ _ _ _ (brB_yes (by simp; omega) ?_)
    simp (disch := omega) only [addW_eq]
    simp only [ex_cell, sr_cell_g, sr_cell_u, sr_cell_n, sr_cell, getZ_mod, ex_some_map, getZ_mid, Option.some.injEq, exists_eq_left', exists_eq_left, mod_mod, eqI30, brB_f, brB_not]
    rw [mod_mid]
    rw [show (k + 1 + 1 + 1 : Int) = k + ((3 : Nat) : Int) by omega]
    exact hn
  · refine r_laws_markCellS_0 _ _ _ _ (brB_no (by simp [markG_len]) (a_laws_markCellS_1 _ _ _ _ _ ⟨rfl, by first | rfl | trivial⟩))
theorem heldCellS (l : List (Cell)) (k : Int) (h0 : 0 ≤ k) (hk : k + tot wCell l ≤ 2305843009213693952) (hl : l.length ≤ 1099511627776) : RunF C laws_heldCellS [vCells (markG mkCell wCell l k), vI k] (vI (k + tot wCell l)) [] := by
  refine (f_laws_heldCellS _ _ _ ?_).run
  refine held_loop (e := cellC) mkCell wCell (fun k i rows => LoopG C laws_heldCellS pRLRB 4 0 (s_laws_heldCellS_0 rows k i) _) 2305843009213693952 ?_ l [] k h0 hk (by simpa using hl) ?_
  · intro d a r k h0 hk hd hn
    have hw : wCell a = 3 := rfl
    rw [hw] at hk hn
    refine r_laws_heldCellS_0 _ _ _ _ (brB_yes (by simp; omega) ?_)
    simp (disch := omega) only [addW_eq]
    simp only [ex_cell, getZ_mod, ex_some_map, getZ_mid, Option.some.injEq, exists_eq_left', exists_eq_left, mod_mod, eqI30, brB_f, brB_not, mkCell, eqI_eq, eqS_eq, eqB_eq, brB_dec, if_true, decide_true, Bool.not_true]
    rw [show (k + 1 + 1 + 1 : Int) = k + ((3 : Nat) : Int) by omega]
    simpa [mkCell] using hn
  · refine r_laws_heldCellS_0 _ _ _ _ (brB_no (by simp [markG_len]) (a_laws_heldCellS_2 _ _ _ _ _ ⟨rfl, by first | rfl | trivial⟩))
theorem len_of {n z : Nat} (h : n * z ≤ reachBytes) (hz : 1 ≤ z) : n ≤ 140737488355328 := by
  have : reachBytes ≤ 140737488355328 := by decide
  have h2 : n * 1 ≤ n * z := Nat.mul_le_mul_left n hz
  omega
theorem int_in {r : List TC} (h : WfT C.tt t_int r) : ∃ n : Int, r = intC n ∧ True := by
  obtain ⟨n, rfl, _⟩ := h.int_inv (k := .i64) (by kernel_rfl)
  exact ⟨n, rfl, trivial⟩
theorem cell_in {r : List TC} (h : WfT C.tt t_laws_Cell r) : ∃ x : Cell, r = cellC x ∧ True := by
  obtain ⟨q0, r0, rfl, h0, k0⟩ := (h.struct_inv (fs := [(0, 3), (1, 4), (2, 3)]) (by kernel_rfl)).cons_inv
  obtain ⟨q1, r1, rfl, h1, k1⟩ := k0.cons_inv
  obtain ⟨q2, r2, rfl, h2, k2⟩ := k1.cons_inv
  have e := k2.nil_inv
  subst e
  obtain ⟨v0, rfl, u0⟩ := h0.int_inv (k := .i64) (by kernel_rfl)
  obtain ⟨v1, rfl⟩ := h1.bool_inv (by kernel_rfl)
  obtain ⟨v2, rfl, u2⟩ := h2.int_inv (k := .i64) (by kernel_rfl)
  exact ⟨⟨v0, v1, v2⟩, rfl, trivial⟩
theorem cells_rows {r : List TC} (h : WfT C.tt t_S_laws_Cell r) : ∃ l : List (Cell), r = [.sub 3 (l.map cellC)] ∧ l.length ≤ 140737488355328 ∧ ∀ x ∈ l, True := by
  obtain ⟨w, rfl, y, z⟩ := h.slice_inv (e := t_laws_Cell) (by kernel_rfl)
  obtain ⟨l, rfl, hl⟩ := rows_typed fun r hr => cell_in (y r hr)
  rw [List.length_map] at z
  exact ⟨l, rfl, len_of z (by decide +kernel), hl⟩
theorem v_int {v : TV} (h : WfV C.tt t_int v) : ∃ n : Int, v = vI n := by
  have ht : (C.tt t_int).ti = .int .i64 := by kernel_rfl
  cases h with
  | c _ hw =>
    obtain ⟨n, h1, _⟩ := int_in hw
    unfold intC at h1
    cases h1
    exact ⟨n, rfl⟩
  | ag h1 _ => rw [ht] at h1; cases h1
theorem v_cells {v : TV} (h : WfV C.tt t_S_laws_Cell v) : ∃ l : List Cell, v = vCells l ∧ l.length ≤ 140737488355328 ∧ ∀ x ∈ l, True := by
  have ht : (C.tt t_S_laws_Cell).ti = .slice 52 := by kernel_rfl
  cases h with
  | c _ hw =>
    obtain ⟨l, h1, h2, h3⟩ := cells_rows hw
    cases h1
    exact ⟨l, rfl, h2, h3⟩
  | ag h1 _ => rw [ht] at h1; cases h1
theorem lft_ok {a : Int} {n : Nat} (h : ltI (lft a n) 0 = false) (h0 : 0 ≤ a ∧ a ≤ 1048576) : (n : Int) ≤ a ∧ (0 ≤ lft a n ∧ lft a n ≤ 1048576) ∧ lft a n = a - n := by
  rw [ltI_eq] at h
  have h : ¬ lft a n < 0 := of_decide_eq_false h
  unfold lft at *
  split at h <;> simp_all <;> omega
theorem wCells_le (l : List Cell) : tot wCell l = 3 * l.length := tot_const 3 l
theorem law_TakeCell (l : List Cell) (w_l : l.length ≤ 140737488355328) (i : Int) : RunF C laws_FnExactTakeCell [vCells l, vI i] (vB true) [] := by
  refine (f_laws_FnExactTakeCell _ _ _ ?_).run
  refine ⟨_, szCellS _ _ (by first | omega | assumption) (by omega), ?_⟩
  refine brB_both (fun _ => ⟨rfl, by first | rfl | trivial⟩) fun hz0 => ?_
  obtain ⟨hz0a, hz0b, hz0c⟩ := lft_ok hz0 (by first | omega | assumption)
  have hr := takeCell_len l i
  have hw := wCells_le l
  have hw2 := wCells_le (takeCell l i).1
  refine ⟨_, toCellS _ (by omega), ?_⟩
  refine ⟨_, _, _, run_spec_TakeCell l i (by omega), ?_⟩
  refine ⟨_, toCellS _ (by omega), ?_⟩
  refine ⟨_, _, _, run_impl_TakeCell l i (by omega), ?_⟩
  refine ⟨_, eqCellS _ (by omega), ?_⟩
  refine brB_no (by first | rfl | (simp; done) | (simp; omega)) ?_
  refine brB_no (by first | rfl | (simp; done) | (simp; omega)) ?_
  refine brB_no (by first | rfl | (simp; done) | (simp; omega)) ?_
  refine ⟨_, toCellS _ (by omega), ?_⟩
  refine ⟨_, eqCellS _ (by omega), ?_⟩
  refine brB_no (by first | rfl | (simp; done) | (simp; omega)) ?_
  refine ⟨_, _, markCellS _ 1 (by omega) (by omega) (by omega), ?_⟩
  refine brB_no (by first | rfl | (simp; done) | (simp; omega)) ?_
  refine ⟨_, eqCellS _ (by omega), ?_⟩
  refine brB_no (by first | rfl | (simp; done) | (simp; omega)) ?_
  refine brB_no (by first | rfl | (simp; done) | (simp; omega)) ?_
  refine brB_no (by first | rfl | (simp; done) | (simp; omega)) ?_
  refine ⟨_, _, markCellS _ 1 (by omega) (by omega) (by omega), ?_⟩
  refine ⟨_, heldCellS _ 1 (by omega) (by omega) (by omega), ?_⟩
  refine brB_no (by first | rfl | (simp; done) | (simp; omega)) ?_
  refine brB_no (by first | rfl | (simp; done) | (simp; omega)) ?_
  refine ⟨_, toCellS _ (by omega), ?_⟩
  refine ⟨_, _, _, run_impl_TakeCell l i (by omega), ?_⟩
  refine ⟨_, eqCellS _ (by omega), ?_⟩
  refine brB_no (by first | rfl | (simp; done) | (simp; omega)) ?_
  refine brB_no (by first | rfl | (simp; done) | (simp; omega)) ?_
  refine brB_no (by first | rfl | (simp; done) | (simp; omega)) ?_
  refine ⟨_, heldCellS _ 1 (by omega) (by omega) (by omega), ?_⟩
  refine brB_no (by first | rfl | (simp; done) | (simp; omega)) ?_
  refine brB_no (by first | rfl | (simp; done) | (simp; omega)) ?_
  exact ⟨rfl, by first | rfl | trivial⟩
theorem all_TakeCell (vs : List TV) (h : WfVs C.tt [t_S_laws_Cell, t_int] vs) : ∃ k, callP C k laws_FnExactTakeCell vs (vB true) [] := by
  cases h with
  | cons h0 h => 
    cases h with
    | cons h1 h => 
      cases h
      obtain ⟨l, rfl, wl, _⟩ := v_cells h0
      obtain ⟨i, rfl⟩ := v_int h1
      exact law_TakeCell l wl i
end Go.T.R
