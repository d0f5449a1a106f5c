/- CellAt. -/
import Derived.Test.YtghjiklgaaeiiaaTL1
set_option linter.unusedVariables false
set_option linter.unusedSimpArgs false
namespace Go.T.R
open Go Go.T
theorem within (a b c : Int) : RunF C impl_within [vI a, vI b, vI c] (vB (decide (b ≤ a ∧ a ≤ c))) [] := by
  refine (f_impl_within _ _ _ _ ?_).run
  simp only [leI_eq, brB_dec]
  split <;> simp_all <;> omega
theorem l1In (a b c : Int) : RunF C spec_l1In [vI a, vI b, vI c] (vB (decide (b ≤ a ∧ a ≤ c))) [] := by
  refine (f_spec_l1In _ _ _ _ ?_).run
  simp only [leI_eq, brB_dec]
  split <;> simp_all <;> omega
def cellAt (l : List Cell) (i gen : Int) : Int × Bool := match (if 0 ≤ i then l[i.toNat]? else none) with
  | none => (0, false)
  | some c => if c.u = true ∧ c.g = gen then (c.n, true) else (0, false)
abbrev tIB (p : Int × Bool) : TV := .tu [(0, [.sc (.int .i64 p.1)]), (0, [.sc (.bool p.2)])]
theorem cellAt_spec (l : List Cell) (hl : l.length ≤ 140737488355328) (i gen : Int) : RunF C spec_CellAt [cellS l, vI i, vI gen] (tIB (cellAt l i gen)) [] := by
  refine (f_spec_CellAt _ _ _ _ ⟨_, l1In _ _ _, ?_⟩).run
  simp only [List.length_map]
  rw [subI_eq (by simp only [Int.ofNat_eq_natCast]; omega)]
  by_cases h : 0 ≤ i ∧ i ≤ Int.ofNat l.length - 1
  · obtain ⟨n, rfl⟩ : ∃ n : Nat, i = n := ⟨i.toNat, by omega⟩
    have hlt : n < l.length := by have := h.2; simp only [Int.ofNat_eq_natCast] at this; omega
    have h1 : l[n]? = some l[n] := List.getElem?_eq_getElem hlt
    refine brB_no (by simpa using h.2) ⟨_, _, _, rowAt_map h1, ?_⟩
    unfold cellAt
    simp only [Int.natCast_nonneg, if_true, Int.toNat_natCast, h1]
    refine brB_both (fun hb => by simp_all) fun hb => ⟨_, _, _, rowAt_map h1, brB_both (fun hg => by simp_all) fun hg => ⟨_, _, _, rowAt_map h1, by simp_all⟩⟩
  · refine brB_yes (by simp only [h]; rfl) ?_
    have : (if 0 ≤ i then l[i.toNat]? else none) = none := by
      split
      · exact List.getElem?_eq_none (by simp only [Int.ofNat_eq_natCast] at h; omega)
      · rfl
    unfold cellAt
    rw [this]
    simp
theorem cellAt_impl (l : List Cell) (hl : l.length ≤ 140737488355328) (i gen : Int) : RunF C impl_CellAt [cellS l, vI i, vI gen] (tIB (cellAt l i gen)) [] := by
  refine (f_impl_CellAt _ _ _ _ ⟨_, within _ _ _, ?_⟩).run
  simp only [List.length_map]
  rw [subI_eq (by simp only [Int.ofNat_eq_natCast]; omega)]
  by_cases h : 0 ≤ i ∧ i ≤ Int.ofNat l.length - 1
  · obtain ⟨n, rfl⟩ : ∃ n : Nat, i = n := ⟨i.toNat, by omega⟩
    have hlt : n < l.length := by have := h.2; simp only [Int.ofNat_eq_natCast] at this; omega
    have h1 : l[n]? = some l[n] := List.getElem?_eq_getElem hlt
    refine brB_no (by simpa using h.2) ⟨_, _, _, rowAt_map h1, ?_⟩
    unfold cellAt
    simp only [Int.natCast_nonneg, if_true, Int.toNat_natCast, h1]
    refine brB_both (fun hb => by simp_all) fun hb => ⟨_, _, _, rowAt_map h1, brB_both (fun hg => by simp_all) fun hg => ⟨_, _, _, rowAt_map h1, by simp_all⟩⟩
  · refine brB_yes (by simp only [h]; rfl) ?_
    have : (if 0 ≤ i then l[i.toNat]? else none) = none := by
      split
      · exact List.getElem?_eq_none (by simp only [Int.ofNat_eq_natCast] at h; omega)
      · rfl
    unfold cellAt
    rw [this]
    simp
theorem law_cellAt (l : List Cell) (hl : l.length * 24 ≤ 140737488355328) (i gen : Int) : RunF C laws_FnExactCellAt [cellS l, vI i, vI gen] (vB true) [] := by
  have h0 : l.length ≤ 140737488355328 := by omega
  refine (f_laws_FnExactCellAt _ _ _ _ ⟨_, szCellS l _ (by omega) h0, ?_⟩).run
  refine brB_both (fun _ => ⟨rfl, rfl⟩) fun _ => ⟨_, toCellS l hl, _, _, cellAt_spec l h0 i gen, _, toCellS l hl, _, _, cellAt_impl l h0 i gen, ?_⟩
  exact brB_no (by simp) (brB_no (by simp) ⟨_, toCellS l hl, _, eqCellS l h0, brB_no rfl ⟨rfl, rfl⟩⟩)
/-- what comes in -/
theorem cell_in {r : List TC} (h : WfT C.tt 72 r) : ∃ c, r = cellC c ∧ CellW c := by
  obtain ⟨a, r1, rfl, ha, h⟩ := (h.struct_inv (fs := [(0, 3), (1, 4), (2, 3)]) (by kernel_rfl)).cons_inv
  obtain ⟨b, r2, rfl, hb, h⟩ := h.cons_inv
  obtain ⟨c, r3, rfl, hc, h⟩ := h.cons_inv
  have := h.nil_inv
  subst this
  obtain ⟨g, rfl, hg⟩ := ha.int_inv (k := .i64) (by kernel_rfl)
  obtain ⟨u, rfl⟩ := hb.bool_inv (by kernel_rfl)
  obtain ⟨n, rfl, hn⟩ := hc.int_inv (k := .i64) (by kernel_rfl)
  exact ⟨⟨g, u, n⟩, rfl, i64_wf hg, i64_wf hn⟩
theorem cellS_in {v : TV} (h : WfV C.tt 27 v) : ∃ l : List Cell, v = cellS l ∧ (∀ c ∈ l, CellW c) ∧ l.length * 24 ≤ reachBytes := by
  have ht : (C.tt 27).ti = .slice 72 := by kernel_rfl
  cases h with
  | c _ hw =>
    obtain ⟨rows, h1, h2, h3⟩ := hw.slice_inv ht
    obtain ⟨l, rfl, hl⟩ := rows_typed fun r hr => cell_in (h2 r hr)
    refine ⟨l, ?_, hl, ?_⟩
    · cases h1; rfl
    · rw [List.length_map] at h3; exact h3
  | ag h1 _ => rw [ht] at h1; cases h1
theorem int_in {v : TV} (h : WfV C.tt 3 v) : ∃ n : Int, v = vI n ∧ -9223372036854775808 ≤ n ∧ n ≤ 9223372036854775807 := by
  have ht : (C.tt 3).ti = .int .i64 := by kernel_rfl
  cases h with
  | c _ hw =>
    obtain ⟨n, h1, h2⟩ := hw.int_inv ht
    cases h1
    exact ⟨n, rfl, i64_wf h2⟩
  | ag h1 _ => rw [ht] at h1; cases h1
theorem all_cellAt (vs : List TV) (h : WfVs C.tt [27, 3, 3] vs) : ∃ k, callP C k laws_FnExactCellAt vs (vB true) [] := by
  cases h with
  | cons h1 h => cases h with
    | cons h2 h => cases h with
      | cons h3 h =>
        cases h
        obtain ⟨l, rfl, _, hl⟩ := cellS_in h1
        obtain ⟨i, rfl, _⟩ := int_in h2
        obtain ⟨g, rfl, _⟩ := int_in h3
        exact law_cellAt l (Nat.le_trans hl (by decide)) i g
end Go.T.R
