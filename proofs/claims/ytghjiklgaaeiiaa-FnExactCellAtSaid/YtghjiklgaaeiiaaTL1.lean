/- Cells: the helpers of the laws. -/
import Derived.Test.YtghjiklgaaeiiaaTR
import Derived.Test.YtghjiklgaaeiiaaT5
set_option linter.unusedVariables false
set_option linter.unusedSimpArgs false
namespace Go.T.R
open Go Go.T
structure Cell where
  g : Int
  u : Bool
  n : Int
abbrev cellC (c : Cell) : List TC := [.sc (.int .i64 c.g), .sc (.bool c.u), .sc (.int .i64 c.n)]
def CellW (c : Cell) : Prop := (-9223372036854775808 ≤ c.g ∧ c.g ≤ 9223372036854775807) ∧ (-9223372036854775808 ≤ c.n ∧ c.n ≤ 9223372036854775807)
abbrev cellS (l : List Cell) : TV := .c (.sub 3 (l.map cellC))
abbrev vI (n : Int) : TV := .c (.sc (.int .i64 n))
abbrev vB (b : Bool) : TV := .c (.sc (.bool b))
theorem toCell (c : Cell) : RunF C laws_toCell [.ag (cellC c)] (.ag (cellC c)) [] := (f_laws_toCell _ _ _ _ ⟨rfl, rfl⟩).run
theorem toCellS_loop (l : List Cell) (hl : l.length ≤ 140737488355328) (Q : TX → TS → Prop) (hQ : ∀ b, Q (.ex 0) (t_laws_toCellS_1 (l.map cellC) l.length b (l.map cellC))) :
    ∀ (k i : Nat), i + k = l.length → LoopG C laws_toCellS [Dir.r, Dir.r, Dir.l, Dir.r, Dir.b] 4 0 (s_laws_toCellS_0 (l.map cellC) i ((l.take i).map cellC ++ List.replicate k [.sc (.int .i64 0), .sc (.bool false), .sc (.int .i64 0)])) Q
  | 0, i, hi => by
    have : i = l.length := by omega
    subst this
    refine r_laws_toCellS_0 _ _ _ _ (brB_no (by simp) ?_)
    simp only [List.replicate_zero, List.append_nil, List.take_length]
    exact hQ _
  | k + 1, i, hi => by
    have hlt : i < l.length := by omega
    have h1 : l[i]? = some l[i] := List.getElem?_eq_getElem hlt
    refine r_laws_toCellS_0 _ _ _ _ (brB_yes (by simp; omega) ⟨_, _, _, rowAt_map h1, _, _, _, toCell l[i], _, _, _, part_row (by omega), _, _, _, part_row (by omega), ?_⟩)
    rw [setRow_part (e := cellC) (z := [.sc (.int .i64 0), .sc (.bool false), .sc (.int .i64 0)]) (cs := cellC l[i]) h1 rfl rfl, addI_eq (by omega)]
    exact toCellS_loop l hl Q hQ k (i + 1) (by omega)
theorem toCellS (l : List Cell) (hl : l.length * 24 ≤ 140737488355328) : RunF C laws_toCellS [cellS l] (cellS l) [] := by
  refine (f_laws_toCellS _ _ ?_).run
  have h0 : l.length ≤ 140737488355328 := by omega
  simp only [List.length_map]
  refine brB_yes (by simp; omega) ?_
  have := toCellS_loop l h0 (fun x st => AftF C laws_toCellS [Dir.r, Dir.r, Dir.l, Dir.r, Dir.b] x st fun r fs => r = cellS l ∧ fs = []) (fun b => a_laws_toCellS_1 _ _ _ _ _ ⟨rfl, rfl⟩) l.length 0 (by omega)
  simpa using this
theorem szCellS (l : List Cell) (n : Int) (hn : -1000000000000000 ≤ n ∧ n ≤ 1000000000000000) (hl : l.length ≤ 140737488355328) : RunF C laws_szCellS [cellS l, vI n] (vI (if n - l.length < 0 then -1 else n - l.length)) [] := by
  refine (f_laws_szCellS _ _ _ ?_).run
  simp only [List.length_map]
  have h : subI .i64 n (Int.ofNat l.length) = n - l.length := subI_eq (by simp only [Int.ofNat_eq_natCast]; omega)
  rw [h]
  simp only [ltI_eq, brB_dec]
  split <;> simp_all
theorem eqCell (a b : Cell) : RunF C laws_eqCell [.ag (cellC a), .ag (cellC b)] (vB (decide (a.g = b.g ∧ a.u = b.u ∧ a.n = b.n))) [] := by
  refine (f_laws_eqCell _ _ _ _ _ _ _ ?_).run
  simp only [eqI_eq, eqB_eq, brB_not, brB_dec]
  by_cases h1 : a.g = b.g <;> by_cases h2 : a.u = b.u <;> by_cases h3 : a.n = b.n <;> simp [h1, h2, h3]
theorem eqCellS_loop (l : List Cell) (hl : l.length ≤ 140737488355328) (Q : TX → TS → Prop) (hQ : ∀ b, Q (.ex 0) (t_laws_eqCellS_2 (l.map cellC) (l.map cellC) l.length b)) :
    ∀ (k i : Nat), i + k = l.length → LoopG C laws_eqCellS [Dir.r, Dir.r, Dir.l, Dir.r, Dir.b] 4 0 (s_laws_eqCellS_0 (l.map cellC) (l.map cellC) i) Q
  | 0, i, hi => by
    have : i = l.length := by omega
    subst this
    refine r_laws_eqCellS_0 _ _ _ _ (brB_no (by simp) ?_)
    exact hQ _
  | k + 1, i, hi => by
    have hlt : i < l.length := by omega
    have h1 : l[i]? = some l[i] := List.getElem?_eq_getElem hlt
    refine r_laws_eqCellS_0 _ _ _ _ (brB_yes (by simp; omega) ⟨_, _, _, rowAt_map h1, _, _, _, rowAt_map h1, _, eqCell _ _, ?_⟩)
    refine brB_no (by simp) ?_
    rw [addI_eq (by omega)]
    exact eqCellS_loop l hl Q hQ k (i + 1) (by omega)
theorem eqCellS (l : List Cell) (hl : l.length ≤ 140737488355328) : RunF C laws_eqCellS [cellS l, cellS l] (vB true) [] := by
  refine (f_laws_eqCellS _ _ _ ?_).run
  refine brB_no (by simp) ?_
  exact eqCellS_loop l hl _ (fun b => a_laws_eqCellS_2 _ _ _ _ _ ⟨rfl, rfl⟩) l.length 0 (by omega)
end Go.T.R
