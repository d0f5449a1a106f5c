/- The seat's configuration (printed by gencfg.py). -/
import Derived.Test.YtaijlchekndalaaProg
import Derived.Test.YtaijlchekndalaaT5
import Derived.Test.YtaijlchekndalaaT1
import Derived.KernelRfl
namespace Go.T.R
open Go.T
set_option maxRecDepth 100000
def no : TInfo := ⟨.other, 0, 0, false, [], []⟩
def ttTab : List TInfo := [
  no,
  no,
  ⟨.int .i64, 1, 8, true, [.sc (.int .i64 0)], []⟩,
  ⟨.int .i64, 1, 8, true, [.sc (.int .i64 0)], []⟩,
  ⟨.bool, 1, 1, true, [.sc (.bool false)], []⟩,
  ⟨.int .u8, 1, 1, true, [.sc (.int .u8 0)], []⟩,
  no,
  no,
  no,
  ⟨.str, 1, 16, true, [.sc (.string ⟨#[]⟩)], []⟩,
  no,
  no,
  no,
  no,
  no,
  no,
  no,
  no,
  no,
  no,
  no,
  ⟨.int .i32, 1, 4, true, [.sc (.int .i32 0)], []⟩,
  ⟨.slice 52, 1, 24, false, [.sub 3 []], []⟩,
  no,
  no,
  ⟨.slice 50, 1, 24, false, [.sub 3 []], []⟩,
  no,
  no,
  no,
  no,
  ⟨.struct [(0, 3), (1, 9), (2, 9), (3, 3), (4, 3)], 5, 56, true, [.sc (.int .i64 0), .sc (.string ⟨#[]⟩), .sc (.string ⟨#[]⟩), .sc (.int .i64 0), .sc (.int .i64 0)], [1, 3, 3, 1, 1]⟩,
  ⟨.struct [(0, 3), (1, 9), (2, 9), (3, 3), (4, 3)], 5, 56, true, [.sc (.int .i64 0), .sc (.string ⟨#[]⟩), .sc (.string ⟨#[]⟩), .sc (.int .i64 0), .sc (.int .i64 0)], [1, 3, 3, 1, 1]⟩,
  no,
  no,
  ⟨.struct [(0, 3), (1, 9), (2, 9), (3, 3), (4, 3)], 5, 56, true, [.sc (.int .i64 0), .sc (.string ⟨#[]⟩), .sc (.string ⟨#[]⟩), .sc (.int .i64 0), .sc (.int .i64 0)], [1, 3, 3, 1, 1]⟩,
  no,
  no,
  ⟨.slice 60, 1, 24, false, [.sub 3 []], []⟩,
  no,
  no,
  ⟨.slice 61, 1, 24, false, [.sub 3 []], []⟩,
  no,
  no,
  no,
  no,
  no,
  no,
  no,
  no,
  ⟨.struct [(0, 3), (1, 4), (2, 3)], 3, 24, true, [.sc (.int .i64 0), .sc (.bool false), .sc (.int .i64 0)], [1, 2, 1]⟩,
  ⟨.struct [(0, 3), (1, 4), (2, 3)], 3, 24, true, [.sc (.int .i64 0), .sc (.bool false), .sc (.int .i64 0)], [1, 2, 1]⟩,
  no,
  ⟨.struct [(0, 3), (1, 4), (2, 3)], 3, 24, true, [.sc (.int .i64 0), .sc (.bool false), .sc (.int .i64 0)], [1, 2, 1]⟩,
  no,
  no,
  no,
  no,
  no,
  ⟨.slice 3, 1, 24, false, [.sub 1 []], []⟩,
  ⟨.struct [(0, 9), (1, 4), (2, 58)], 3, 48, false, [.sc (.string ⟨#[]⟩), .sc (.bool false), .sub 1 []], []⟩,
  ⟨.struct [(0, 9), (1, 4), (2, 58)], 3, 48, false, [.sc (.string ⟨#[]⟩), .sc (.bool false), .sub 1 []], []⟩,
  ⟨.struct [(0, 9), (1, 4), (2, 58)], 3, 48, false, [.sc (.string ⟨#[]⟩), .sc (.bool false), .sub 1 []], []⟩,
  no,
  no,
  no,
  no,
  no,
  no,
  no,
  no,
  no,
  no,
  no,
  no,
  no,
  no,
  no,
  ⟨.int .u32, 1, 4, true, [.sc (.int .u32 0)], []⟩,
  no,
  no,
  no,
  ⟨.ptr 5, 1, 8, true, [], []⟩]
def tt (t : TypeId) : TInfo := ttTab.getD t no
def lrTab : List (List (List Nat)) := [
  [],
  [],
  [[]],
  [[0], [0, 3], [0, 3], [0, 11], [2], [0, 4], [0, 4, 5], [0, 4, 5, 6], [0, 5, 21], [2], [26], [2], [2]],
  [[0], [0, 3], [0, 3], [0, 11], [2], [0, 4], [0, 4, 5], [0, 4, 5, 6], [0, 5, 21], [2], [26], [2], [2]],
  [[1], [1, 3], [1, 3], [1, 10], [2], [1, 4], [4, 5], [19], [2], [2]],
  [[0, 1], [0, 1, 11], [4], [0, 1, 5], [0, 1, 5], [0, 1, 16], [4], [0, 1, 6], [0, 1, 6, 7], [0, 6, 7, 8], [0, 7, 28], [4], [33], [4], [4]],
  [[0, 1], [0, 1, 5], [0, 1, 5], [0, 1, 17], [4], [0, 1, 6], [0, 1, 6, 7], [0, 1, 6, 7, 8], [0, 1, 6, 7, 8, 30], [4], [0, 1, 6, 7, 8, 35], [4], [0, 1, 6, 7, 8, 9], [0, 1, 6, 8, 9], [0, 1, 6, 8, 46], [4], [0, 1, 6, 8, 10], [0, 1, 6, 8, 10], [0, 1, 6, 8, 10, 11], [0, 1, 6, 8, 10, 11], [0, 1, 6, 8, 10, 11, 54], [4], [0, 1, 6, 8, 10, 57], [4], [6, 8, 10, 12], [8, 10, 65], [4], [8, 10, 11], [10, 11], [10, 11, 70], [4], [73], [4], [4]],
  [[0, 1], [0, 1, 5], [0, 1, 5], [0, 1, 23], [4], [0, 1, 6, 7, 8], [0, 1, 6, 7, 8, 9], [0, 1, 6, 7, 8, 9, 10, 11, 12], [0, 1, 6, 7, 8, 9, 10, 11, 12, 54], [4], [0, 1, 6, 7, 8, 9, 10, 11, 12, 59], [4], [0, 1, 6, 7, 8, 9, 10, 11, 12, 13], [0, 1, 6, 7, 8, 10, 11, 12, 13], [0, 1, 6, 7, 8, 10, 80], [4], [0, 1, 6, 7, 8, 10, 14], [0, 1, 6, 7, 8, 10, 14], [0, 1, 6, 7, 8, 10, 14, 15], [0, 1, 6, 7, 8, 10, 14, 15], [0, 1, 6, 7, 8, 10, 14, 15, 88], [4], [0, 1, 6, 7, 8, 10, 14, 91], [4], [6, 7, 8, 10, 14, 16, 17, 18], [10, 14, 113], [4], [10, 14, 15], [14, 15], [14, 15, 118], [4], [121], [4], [4]],
  [[0, 1], [1], [1, 10], [4], [4]],
  [[0], [0, 3], [0, 3, 4], [0, 3, 4, 8], [0, 3, 4], [0, 3, 4, 15], [0, 3, 4], [2]],
  [[0], [0, 3], [0, 3, 4], [0, 3, 4, 11], [0, 3, 4], [0, 3, 4], [2]],
  [[0], [0, 3], [3, 6, 7, 8], [3, 6, 7, 8, 9], [3, 5, 6, 7, 8], [3, 6, 7, 8, 13], [3, 6, 7, 8], [3, 6, 7, 8], [2]],
  [[0, 1], [0, 1, 10], [4], [0, 1, 5], [0, 1, 5, 14], [0, 1, 5], [0, 1, 5, 26], [4], [4]],
  [[0], [0, 3], [0, 3, 7], [0, 3], [0, 3, 41], [2], [2]],
  [[0], [0, 5, 6, 7], [0, 5, 6, 7, 8], [0, 4, 5, 6, 7], [0, 5, 6, 7, 30], [2], [0, 5, 6, 7], [2]],
  [[1, 2], [1, 2], [1, 2, 11], [4], [1], [1, 18], [4], [4]],
  [[1], [1, 3], [1, 3, 10], [1, 3], [1, 3, 4], [1, 3, 4, 19], [1, 3, 4], [2]],
  [[1, 2], [1, 2, 3], [1, 2, 3], [1, 2, 3], [1, 2, 3], [1, 2, 3], [2, 3], [2]],
  [[1], [1, 21], [2], [1, 3], [1, 3, 27], [1, 3], [1, 3, 4], [1, 3, 4, 36], [1, 3, 4], [1, 3, 4, 5], [1, 3, 4, 5, 44], [1, 3, 4, 5, 44, 45], [3, 4, 5], [1, 3, 4, 5, 44, 55], [1, 3, 4, 5, 44, 55], [3, 4, 5], [3, 4, 5, 66], [3, 4, 5], [2]],
  [[0, 1], [0, 1], [0, 1, 11], [4], [0, 1, 5], [0, 1, 5, 15], [0, 1, 5], [0, 1, 5], [0, 1, 5, 25], [4], [4]],
  [[0, 1], [0, 1, 5], [0, 1, 5, 9], [0, 1, 5], [0, 1, 5, 18], [4], [4]],
  [[0], [0, 3], [0, 3, 4], [0, 3, 4, 11], [0, 3, 4], [0, 3, 4], [2]],
  [[0, 3], [4]],
  [[0, 1], [0, 1, 10], [4], [0, 1, 5], [0, 1, 5, 14], [0, 1, 5], [0, 1, 5, 26], [4], [4]],
  [[0, 1], [0, 1, 5], [0, 1, 5, 23], [5], [4]],
  [[0, 1], [0, 1, 5], [0, 1, 5, 23], [4], [5], [4]],
  [[0, 1], [0, 1, 5], [0, 1, 5, 9], [0, 1, 5], [0, 1, 5], [0, 1, 5], [0, 1, 5], [0, 1, 5], [0, 1, 5], [0, 1, 5], [0, 4]],
  [[0, 1], [0, 1, 5], [0, 1, 5, 9], [0, 1, 5], [0, 1, 5, 18], [4], [0, 1, 5], [0, 1, 5, 29], [4], [0, 1, 5], [0, 1, 5, 38], [4], [0, 1, 5], [4]],
  [[0, 1], [0, 1, 7], [0, 1, 7, 8], [0, 1, 7, 8, 22], [0, 1, 7, 8], [0, 1, 7, 8, 30], [1, 7, 8], [7, 8], [4, 5, 6], [4, 5, 6]],
  [[0, 1], [0, 1, 7], [0, 1, 7, 8], [1, 7, 8, 24], [4, 5, 6], [7, 8], [4, 5, 6]],
  [[1, 2], [1, 2, 3], [1, 2, 3], [1, 2, 3], [2, 3], [2]],
  [[2, 3], [2, 3, 9], [4], [2, 3, 14], [4], [19], [4], [4]],
  [[0, 1, 2], [6]],
  [[0], [2]],
  [[0, 1, 2], [6]],
  [[0], [2]],
  [[0], [0, 3], [0, 3, 7], [0, 3], [0, 3, 23], [2], [2]],
  [[1], [1, 4], [1, 4, 5], [2], [1, 4, 15], [1, 4, 15], [2], [1, 26], [2], [2]],
  [[0], [0, 3], [0, 3, 7], [0, 3], [0, 3, 23], [2], [2]],
  [[1, 2], [1, 2], [1, 2, 11], [4], [1], [1, 17], [4], [4]],
  [[1, 2], [1, 2, 3], [1, 2, 3], [1, 2, 3], [2, 3], [2]],
  [[0, 1], [0, 1, 7, 8], [0, 1, 7, 8, 9], [0, 1, 5, 7, 8], [0, 1, 5, 7, 8, 16], [4], [0, 1, 7, 8], [4]],
  [[1, 2], [3]],
  [[2, 3], [2, 3, 9], [4], [2, 3, 14], [4], [20], [4], [4]],
  [[0], [2]],
  [[0], [2]],
  [[0], [5, 6, 7], [5, 6, 7, 8], [3, 4, 5, 6, 7], [3, 5, 6, 7, 14], [2], [5, 6, 7], [2]],
  [[0, 1], [1], [1, 10], [4], [4]],
  [[0], [0, 3], [0, 3, 4], [0, 3, 4, 11], [0, 3, 4], [0, 3, 4], [2]],
  [[0, 1], [0, 1, 10], [4], [0, 1, 5], [0, 1, 5, 14], [0, 1, 5], [0, 1, 5, 25], [4], [4]],
  [],
  [],
  [],
  [],
  [],
  [],
  [],
  [],
  [],
  [],
  [],
  [],
  [],
  [],
  [],
  []]
def lr (f i : Nat) : List Nat := (lrTab.getD f []).getD i []
def lbTab : List (List (List Nat)) := [
  [],
  [],
  [],
  [],
  [],
  [],
  [],
  [],
  [],
  [],
  [[0, 3, 4]],
  [[0, 3, 4]],
  [[3, 6, 7, 8]],
  [[0, 1, 5]],
  [[0, 3]],
  [[0, 5, 6, 7]],
  [],
  [],
  [],
  [],
  [[0, 1, 5]],
  [[0, 1, 5]],
  [[0, 3, 4]],
  [],
  [[0, 1, 5]],
  [],
  [],
  [[0, 1, 5]],
  [[0, 1, 5]],
  [[0, 1, 7, 8]],
  [],
  [],
  [],
  [],
  [],
  [],
  [],
  [[0, 3]],
  [],
  [[0, 3]],
  [],
  [],
  [[0, 1, 7, 8]],
  [],
  [],
  [],
  [],
  [[5, 6, 7]],
  [],
  [[0, 3, 4]],
  [[0, 1, 5]],
  [],
  [],
  [],
  [],
  [],
  [],
  [],
  [],
  [],
  [],
  [],
  [],
  [],
  [],
  [],
  []]
def lb (f i : Nat) : List Nat := (lbTab.getD f []).getD i []
def schTab : List (List (Option Sch)) := [
  [],
  [],
  [],
  [],
  [],
  [],
  [],
  [],
  [],
  [],
  [],
  [],
  [],
  [none, none, none, none, none, none, some (.op 0 [] (.op 1 [] (.op 2 [] (.op 3 [] (.op 4 [] (.op 5 [] (.op 6 [] (.op 7 [] (.op 8 [] (.op 9 [] (.nil)))))))))))],
  [],
  [],
  [],
  [],
  [],
  [],
  [],
  [],
  [],
  [],
  [none, none, none, none, none, none, some (.op 0 [] (.op 1 [] (.op 2 [] (.op 3 [] (.op 4 [] (.op 5 [] (.op 6 [] (.op 7 [] (.op 8 [] (.op 9 [] (.nil)))))))))))],
  [],
  [],
  [],
  [],
  [],
  [],
  [],
  [],
  [],
  [],
  [],
  [],
  [],
  [],
  [],
  [],
  [],
  [],
  [],
  [],
  [],
  [],
  [],
  [],
  [],
  [none, none, none, none, none, none, some (.op 0 [] (.op 1 [] (.op 2 [] (.op 3 [] (.op 4 [] (.op 5 [] (.op 6 [] (.op 7 [] (.op 8 [] (.nil))))))))))],
  [],
  [],
  [],
  [],
  [],
  [],
  [],
  [],
  [],
  [],
  [],
  [],
  [],
  [],
  [],
  []]
def sch (f i : Nat) : Option Sch := ((schTab.getD f []).getD i none)
def sig : FuncId → Sig
  | 0 => ⟨[], false, []⟩
  | 1 => ⟨[], false, []⟩
  | 2 => ⟨[], false, []⟩
  | 3 => ⟨[.borrow], false, [[.deep]]⟩
  | 4 => ⟨[.borrow], false, [[.deep]]⟩
  | 5 => ⟨[.borrow], false, [[.deep]]⟩
  | 6 => ⟨[.borrow, .borrow], false, [[.deep]]⟩
  | 7 => ⟨[.borrow, .borrow], false, [[.deep]]⟩
  | 8 => ⟨[.borrow, .borrow], false, [[.deep]]⟩
  | 9 => ⟨[.borrow, .borrow], false, [[.deep]]⟩
  | 10 => ⟨[.borrow], false, [[.deep]]⟩
  | 11 => ⟨[.borrow], false, [[.deep]]⟩
  | 12 => ⟨[.borrow], false, [[.deep]]⟩
  | 13 => ⟨[.borrow, .borrow], false, [[.deep]]⟩
  | 14 => ⟨[.borrow], false, [[.deep]]⟩
  | 15 => ⟨[.borrow], false, [[.deep]]⟩
  | 16 => ⟨[.borrow, .borrow], false, [[.deep]]⟩
  | 17 => ⟨[.borrow], false, [[.deep]]⟩
  | 18 => ⟨[.borrow], false, [[.deep, .deep, .deep, .deep, .deep]]⟩
  | 19 => ⟨[.borrow], false, [[.deep]]⟩
  | 20 => ⟨[.borrow, .borrow], false, [[.deep]]⟩
  | 21 => ⟨[.borrow, .borrow], false, [[.deep]]⟩
  | 22 => ⟨[.borrow], false, [[.deep]]⟩
  | 23 => ⟨[.borrow, .borrow], false, [[.deep]]⟩
  | 24 => ⟨[.borrow, .borrow], false, [[.deep]]⟩
  | 25 => ⟨[.borrow, .borrow], false, [[.deep]]⟩
  | 26 => ⟨[.borrow, .borrow], false, [[.deep]]⟩
  | 27 => ⟨[.inout, .borrow], false, [[.deep]]⟩
  | 28 => ⟨[.borrow, .borrow], false, [[.deep]]⟩
  | 29 => ⟨[.borrow, .borrow], false, [[.deep], [.deep], [.deep]]⟩
  | 30 => ⟨[.borrow, .borrow], false, [[.deep], [.deep], [.deep]]⟩
  | 31 => ⟨[.borrow], false, [[.deep, .deep, .deep]]⟩
  | 32 => ⟨[.borrow, .borrow], false, [[.deep]]⟩
  | 33 => ⟨[.borrow, .borrow, .borrow], false, [[.deep]]⟩
  | 34 => ⟨[.borrow], false, [[.deep]]⟩
  | 35 => ⟨[.borrow, .borrow, .borrow], false, [[.deep]]⟩
  | 36 => ⟨[.borrow], false, [[.deep]]⟩
  | 37 => ⟨[.borrow], false, [[.deep]]⟩
  | 38 => ⟨[.borrow], false, [[.deep]]⟩
  | 39 => ⟨[.borrow], false, [[.deep]]⟩
  | 40 => ⟨[.borrow, .borrow], false, [[.deep]]⟩
  | 41 => ⟨[.borrow], false, [[.deep, .deep, .deep]]⟩
  | 42 => ⟨[.borrow, .borrow], false, [[.deep]]⟩
  | 43 => ⟨[.borrow, .borrow], false, [[.deep]]⟩
  | 44 => ⟨[.borrow, .borrow], false, [[.deep]]⟩
  | 45 => ⟨[.borrow], false, [[.deep]]⟩
  | 46 => ⟨[.borrow], false, [[.deep]]⟩
  | 47 => ⟨[.borrow], false, [[.deep]]⟩
  | 48 => ⟨[.borrow, .borrow], false, [[.deep]]⟩
  | 49 => ⟨[.borrow], false, [[.deep]]⟩
  | 50 => ⟨[.borrow, .borrow], false, [[.deep]]⟩
  | 51 => ⟨[.borrow], false, [[.deep]]⟩
  | 52 => ⟨[.borrow], false, []⟩
  | 53 => ⟨[.borrow], false, [[.deep]]⟩
  | 54 => ⟨[.borrow], false, []⟩
  | 55 => ⟨[.borrow], false, [[.deep]]⟩
  | 56 => ⟨[.borrow], false, []⟩
  | 57 => ⟨[.borrow], false, [[.deep]]⟩
  | 58 => ⟨[.borrow], false, []⟩
  | 59 => ⟨[.borrow], false, [[.deep]]⟩
  | 60 => ⟨[.borrow], false, []⟩
  | 61 => ⟨[.borrow], false, [[.deep]]⟩
  | 62 => ⟨[.borrow], false, []⟩
  | 63 => ⟨[.borrow], false, [[.deep]]⟩
  | 64 => ⟨[.borrow], false, [[.deep]]⟩
  | 65 => ⟨[.borrow], false, []⟩
  | 66 => ⟨[.borrow], false, [[.deep]]⟩
  | _ => ⟨[], false, []⟩
noncomputable def C : Cfg := ⟨Go.Proofs.Try.prog, tt, sig, lr, lb, sch⟩
theorem tys : (List.range 85).all (tyOkB C.P C.tt) = true := by kernel_rfl
theorem tyOk : TyOk C := tyOk_of (n := 85) (fun t ht => by
  have : ttTab.length ≤ 85 := by decide
  have h1 : C.tt t = no := by
    show ttTab.getD t no = no
    rw [List.getD_eq_getElem?_getD, List.getElem?_eq_none (Nat.le_trans this ht)]; rfl
  rw [h1]; rfl) tys
abbrev main_main : FuncId := 0
abbrev gosem_cut : FuncId := 1
abbrev gosem_cut_init : FuncId := 2
abbrev laws_FnExactUsedCells : FuncId := 3
abbrev laws_FnExactCellsOk : FuncId := 4
abbrev laws_FnExactOpOk : FuncId := 5
abbrev laws_FnExactMapAt : FuncId := 6
abbrev laws_FnExactFreeCell : FuncId := 7
abbrev laws_FnExactTakeCell : FuncId := 8
abbrev laws_szCellS : FuncId := 9
abbrev spec_UsedCells : FuncId := 10
abbrev laws_toCellS : FuncId := 11
abbrev impl_UsedCells : FuncId := 12
abbrev laws_eqCellS : FuncId := 13
abbrev spec_CellsOk : FuncId := 14
abbrev impl_CellsOk : FuncId := 15
abbrev laws_szOp : FuncId := 16
abbrev spec_OpOk : FuncId := 17
abbrev laws_toOp : FuncId := 18
abbrev impl_OpOk : FuncId := 19
abbrev laws_szMapS : FuncId := 20
abbrev spec_MapAt : FuncId := 21
abbrev laws_toMapS : FuncId := 22
abbrev impl_MapAt : FuncId := 23
abbrev laws_eqMapS : FuncId := 24
abbrev spec_FreeCell : FuncId := 25
abbrev impl_FreeCell : FuncId := 26
abbrev laws_markCellS : FuncId := 27
abbrev laws_heldCellS : FuncId := 28
abbrev spec_TakeCell : FuncId := 29
abbrev impl_TakeCell : FuncId := 30
abbrev laws_toCell : FuncId := 31
abbrev laws_eqCell : FuncId := 32
abbrev spec_l1In : FuncId := 33
abbrev spec_l1Word : FuncId := 34
abbrev impl_within : FuncId := 35
abbrev impl_isWord : FuncId := 36
abbrev spec_NameOk : FuncId := 37
abbrev spec_l15Zero : FuncId := 38
abbrev impl_NameOk : FuncId := 39
abbrev laws_szMap : FuncId := 40
abbrev laws_toMap : FuncId := 41
abbrev slices_IndexFunc_Map : FuncId := 42
abbrev impl_MapAt_1 : FuncId := 43
abbrev laws_eqMap : FuncId := 44
abbrev spec_l9Copy : FuncId := 45
abbrev impl_copyCells : FuncId := 46
abbrev impl_freeAt : FuncId := 47
abbrev laws_szIntS : FuncId := 48
abbrev laws_toIntS : FuncId := 49
abbrev laws_eqIntS : FuncId := 50
abbrev _runtime_boundsError__Error : FuncId := 51
abbrev _runtime_boundsError__RuntimeError : FuncId := 52
abbrev _runtime_errorString__Error : FuncId := 53
abbrev _runtime_errorString__RuntimeError : FuncId := 54
abbrev _runtime_plainError__Error : FuncId := 55
abbrev _runtime_plainError__RuntimeError : FuncId := 56
abbrev _runtime_errorAddressString__Error : FuncId := 57
abbrev _runtime_errorAddressString__RuntimeError : FuncId := 58
abbrev __runtime_TypeAssertionError__Error : FuncId := 59
abbrev __runtime_TypeAssertionError__RuntimeError : FuncId := 60
abbrev __runtime_PanicNilError__Error : FuncId := 61
abbrev __runtime_PanicNilError__RuntimeError : FuncId := 62
abbrev abi_Type__Align : FuncId := 63
abbrev maps_unhashableTypeError__Error : FuncId := 64
abbrev maps_unhashableTypeError__RuntimeError : FuncId := 65
abbrev abi_Kind__String : FuncId := 66
abbrev t_P_abi_Type : TypeId := 17
abbrev t_P_runtime_PanicNilError : TypeId := 16
abbrev t_P_runtime_TypeAssertionError : TypeId := 15
abbrev t_P_uint8 : TypeId := 81
abbrev t_S_impl_Cell : TypeId := 25
abbrev t_S_impl_Map : TypeId := 40
abbrev t_S_int : TypeId := 58
abbrev t_S_laws_Cell : TypeId := 22
abbrev t_S_laws_Map : TypeId := 37
abbrev t_abi_BoundsErrorCode : TypeId := 6
abbrev t_abi_Kind : TypeId := 79
abbrev t_abi_NameOff : TypeId := 82
abbrev t_abi_TFlag : TypeId := 78
abbrev t_abi_Type : TypeId := 85
abbrev t_abi_TypeOff : TypeId := 83
abbrev t_bool : TypeId := 4
abbrev t_impl_Cell : TypeId := 50
abbrev t_impl_Map : TypeId := 61
abbrev t_impl_Op : TypeId := 34
abbrev t_int : TypeId := 3
abbrev t_int32 : TypeId := 21
abbrev t_int64 : TypeId := 2
abbrev t_laws_Cell : TypeId := 52
abbrev t_laws_Map : TypeId := 60
abbrev t_laws_Op : TypeId := 31
abbrev t_maps_unhashableTypeError : TypeId := 19
abbrev t_runtime_PanicNilError : TypeId := 75
abbrev t_runtime_TypeAssertionError : TypeId := 72
abbrev t_runtime_boundsError : TypeId := 8
abbrev t_runtime_errorAddressString : TypeId := 14
abbrev t_runtime_errorString : TypeId := 10
abbrev t_runtime_plainError : TypeId := 11
abbrev t_string : TypeId := 9
abbrev t_uint32 : TypeId := 77
abbrev t_uint8 : TypeId := 5
abbrev t_uintptr : TypeId := 12
abbrev t_unsafe_Pointer : TypeId := 86
theorem prs : prOkB C 0 C.P.funcs.toList = true := by kernel_rfl
theorem prOk : PrOk C := prOk_of tyOk prs (by kernel_rfl)
end Go.T.R
