/- The seat's configuration (printed by gencfg.py). -/
import Derived.Test.YtaijlchekndalabProg
import Derived.Test.YtaijlchekndalabT5
import Derived.Test.YtaijlchekndalabT1
import Derived.KernelRfl
namespace Go.T.R
open Go.T
set_option maxRecDepth 100000
def no : TInfo := ⟨.other, 0, 0, false, [], []⟩
def ttTab : List TInfo := [
  no,
  no,
  ⟨.int .i64, 1, 8, true, [.sc (.int .i64 0)], []⟩,
  ⟨.int .i64, 1, 8, true, [.sc (.int .i64 0)], []⟩,
  ⟨.bool, 1, 1, true, [.sc (.bool false)], []⟩,
  ⟨.int .u8, 1, 1, true, [.sc (.int .u8 0)], []⟩,
  no,
  no,
  no,
  ⟨.str, 1, 16, true, [.sc (.string ⟨#[]⟩)], []⟩,
  no,
  no,
  no,
  no,
  no,
  no,
  no,
  no,
  no,
  no,
  no,
  ⟨.int .i32, 1, 4, true, [.sc (.int .i32 0)], []⟩,
  ⟨.slice 44, 1, 24, false, [.sub 3 []], []⟩,
  no,
  no,
  ⟨.slice 45, 1, 24, false, [.sub 3 []], []⟩,
  no,
  no,
  no,
  no,
  no,
  no,
  ⟨.slice 5, 1, 24, false, [.sub 1 []], []⟩,
  ⟨.struct [(0, 3), (1, 9), (2, 9), (3, 3), (4, 3)], 5, 56, true, [.sc (.int .i64 0), .sc (.string ⟨#[]⟩), .sc (.string ⟨#[]⟩), .sc (.int .i64 0), .sc (.int .i64 0)], [1, 3, 3, 1, 1]⟩,
  ⟨.struct [(0, 3), (1, 9), (2, 9), (3, 3), (4, 3)], 5, 56, true, [.sc (.int .i64 0), .sc (.string ⟨#[]⟩), .sc (.string ⟨#[]⟩), .sc (.int .i64 0), .sc (.int .i64 0)], [1, 3, 3, 1, 1]⟩,
  no,
  no,
  no,
  no,
  no,
  no,
  no,
  ⟨.slice 3, 1, 24, false, [.sub 1 []], []⟩,
  ⟨.struct [(0, 9), (1, 4), (2, 42)], 3, 48, false, [.sc (.string ⟨#[]⟩), .sc (.bool false), .sub 1 []], []⟩,
  ⟨.struct [(0, 9), (1, 4), (2, 42)], 3, 48, false, [.sc (.string ⟨#[]⟩), .sc (.bool false), .sub 1 []], []⟩,
  ⟨.struct [(0, 9), (1, 4), (2, 42)], 3, 48, false, [.sc (.string ⟨#[]⟩), .sc (.bool false), .sub 1 []], []⟩,
  no,
  no,
  no,
  no,
  no,
  no,
  no,
  no,
  no,
  no,
  no,
  no,
  no,
  no,
  no,
  no,
  no,
  ⟨.ptr 65, 1, 8, true, [], []⟩,
  ⟨.struct [(0, 32), (1, 3), (2, 4)], 3, 40, false, [.sub 1 [], .sc (.int .i64 0), .sc (.bool false)], []⟩,
  ⟨.struct [(0, 32), (1, 3), (2, 4)], 3, 40, false, [.sub 1 [], .sc (.int .i64 0), .sc (.bool false)], []⟩,
  no,
  no,
  no,
  ⟨.int .u64, 1, 8, true, [.sc (.int .u64 0)], []⟩,
  no,
  no,
  no,
  no,
  no,
  no,
  no,
  no,
  no,
  ⟨.int .u32, 1, 4, true, [.sc (.int .u32 0)], []⟩,
  no,
  no,
  no,
  ⟨.ptr 5, 1, 8, true, [], []⟩]
def tt (t : TypeId) : TInfo := ttTab.getD t no
def lrTab : List (List (List Nat)) := [
  [],
  [],
  [[]],
  [[0, 1], [0, 1, 5], [0, 1, 5], [0, 1, 5, 14], [4], [0, 1, 5], [0, 1, 19], [4], [0, 1, 6], [0, 1, 6, 7], [0, 1, 6, 7, 8], [0, 1, 6, 7, 8, 9], [0, 1, 7, 8, 34], [4], [1, 8, 39], [4], [44], [4], [4]],
  [[0, 1, 2, 3], [0, 1, 2, 3, 22], [8], [0, 1, 2, 3, 9], [0, 1, 2, 3, 9], [0, 1, 2, 3, 27], [8], [0, 1, 2, 3, 10, 11], [0, 1, 2, 3, 10, 11, 12], [0, 1, 2, 3, 10, 11, 12, 13, 14], [0, 1, 2, 3, 10, 11, 12, 13, 14, 55], [8], [0, 1, 2, 3, 10, 11, 12, 13, 14, 60], [8], [0, 1, 2, 3, 10, 11, 12, 13, 14, 15], [0, 1, 2, 3, 10, 11, 13, 14, 15], [0, 1, 2, 3, 10, 11, 13, 76], [8], [0, 1, 2, 3, 10, 11, 13, 16], [0, 1, 2, 3, 10, 11, 13, 16], [0, 1, 2, 3, 10, 11, 13, 16, 17], [0, 1, 2, 3, 10, 11, 13, 16, 17], [0, 1, 2, 3, 10, 11, 13, 16, 17, 84], [8], [0, 1, 2, 3, 10, 11, 13, 16, 87], [8], [10, 11, 13, 16, 18, 19], [13, 16, 105], [8], [13, 16, 17], [16, 17], [16, 17, 110], [8], [113], [8], [8]],
  [[0, 1], [0, 1, 14], [4], [0, 1, 5, 6, 7], [0, 1, 5, 6, 7, 8], [0, 5, 6, 7, 8, 9, 10, 11], [0, 8, 45], [4], [50], [4], [4]],
  [[0, 1], [0, 1], [0, 1, 11], [4], [0, 1, 5], [0, 1, 5, 15], [0, 1, 5], [0, 1, 5], [0, 1, 5, 25], [4], [4]],
  [[0, 1], [0, 1, 10], [4], [0, 1, 5], [0, 1, 5, 14], [0, 1, 5], [0, 1, 5, 54], [4], [4]],
  [[0], [0, 3], [0, 3, 4], [0, 3, 4, 11], [0, 3, 4], [0, 3, 4], [2]],
  [[0, 1], [4]],
  [[0, 1], [0, 1, 10], [4], [0, 1, 5], [0, 1, 5, 14], [0, 1, 5], [0, 1, 5, 26], [4], [4]],
  [[0, 1, 2, 3], [0, 1, 2, 3, 10], [0, 1, 2, 3, 10, 11], [0, 2, 3, 10, 11, 12], [0, 2, 3, 10, 11, 12, 21], [8, 9], [0, 2, 3, 10, 12, 26], [8, 9], [2, 3, 10, 12, 33], [8, 9], [10], [8, 9]],
  [[0, 1, 2, 3], [0, 1, 2, 3, 10], [0, 2, 3, 10, 11, 12], [0, 2, 3, 10, 11, 12, 22], [8, 9], [2, 3, 10, 11, 39], [8, 9], [10], [8, 9]],
  [[0, 1], [0, 1, 5], [0, 1, 5, 9], [0, 1, 5], [0, 1, 5], [0, 1, 5], [0, 1, 5], [0, 1, 5], [0, 1, 5], [0, 4]],
  [[0, 1], [0, 1, 5], [0, 1, 5, 9], [0, 1, 5], [0, 1, 5, 19], [4], [0, 1, 5], [0, 1, 5, 30], [4], [0, 1, 5], [0, 1, 5], [0, 1, 5, 41], [4], [4]],
  [[0, 1, 4], [0, 1, 4, 25], [4, 5, 6], [0, 1, 4, 7], [0, 4, 7, 8, 9, 10], [0, 4, 7, 8, 10, 11, 12, 13], [0, 4, 7, 8, 10, 11, 13, 14, 15, 16], [4, 7, 8, 10, 11, 13, 14, 16, 17, 18, 19], [4, 7, 10, 11, 13, 14, 16, 17, 18, 19], [4, 7, 10, 13, 14, 16, 17, 18, 19], [4, 7, 10, 13, 16, 17, 18, 19], [4, 7, 10, 13, 16, 18, 19], [4, 7, 18, 88], [4, 5, 6], [4, 5, 6]],
  [[0], [0, 3], [0, 3, 4], [0, 3, 4, 11], [0, 3, 4], [0, 3, 4], [2]],
  [[0, 1, 4], [4, 7], [4, 7, 8], [4, 7, 8, 18], [4, 5, 6], [4, 5, 6]],
  [[2, 3], [2, 3, 9], [4], [2, 3, 14], [4], [2, 3, 19], [4], [2, 3, 24], [4], [29], [4], [4]],
  [[0, 1], [0, 1, 10], [4], [0, 1, 5], [0, 1, 5, 14], [0, 1, 5], [0, 1, 5, 25], [4], [4]],
  [[1, 2], [1, 2], [1, 2, 11], [4], [1], [1, 17], [4], [4]],
  [[0, 1], [0, 1, 10], [4], [0, 1, 5], [0, 1, 5, 14], [0, 1, 5], [0, 1, 5, 25], [4], [4]],
  [[1, 2], [1, 2, 3], [1, 2, 3], [1, 2, 3], [2, 3], [2]],
  [[0, 1, 2], [0, 1, 2, 14], [6], [1, 2, 15, 16, 17], [1, 2, 15, 16, 17, 18], [1, 2, 7, 8, 15, 16, 17], [1, 2, 8, 9, 15, 16, 17], [1, 2, 15, 16, 17, 30], [6], [1, 2, 15, 16, 17], [6]],
  [[2, 3], [4]],
  [[2, 3], [2, 3, 9], [4], [2, 3, 14], [4], [20], [4], [4]],
  [[0], [0, 3], [0, 3, 4], [0, 3, 4, 9], [0, 3, 4], [0, 3, 4], [2]],
  [[0, 1], [0, 1, 5], [4], [9], [4], [4]],
  [[0, 1], [0, 1, 5], [0, 1, 5, 9], [0, 1, 5], [0, 1, 5, 18], [4], [4]],
  [[0, 1, 2], [6]],
  [[0], [2]],
  [[0], [0, 3], [3, 7, 8, 9], [3, 7, 8, 9, 10], [3, 5, 7, 8, 9], [3, 5, 7, 8, 9], [3, 7, 8, 9], [3, 7, 8, 9], [2]],
  [[0, 1], [0, 1, 6], [0, 6, 10], [4, 5], [0, 6, 15], [4, 5], [6, 19], [4, 5], [4, 5]],
  [[0, 1, 2], [6]],
  [[0], [2]],
  [[0], [0, 5], [2], [0, 3], [0, 3, 7], [0, 3], [0, 3], [2]],
  [[0, 1], [0, 1, 5], [0, 1, 5, 9], [0, 1, 5], [0, 1, 5], [0, 1, 5], [0, 4]],
  [[0, 1], [0, 1, 5], [0, 1, 5, 9], [0, 1, 5], [0, 1, 5, 17], [4], [0, 1, 5], [4]],
  [[0, 1], [0, 7, 8, 9], [0, 7, 8, 30], [4, 5, 6], [4, 5, 6]],
  [[0, 1], [0, 1, 12], [4, 5, 6], [4, 5, 6]],
  [[1], [1, 3], [1, 3, 10], [1, 3], [1, 3, 4], [1, 3, 4, 19], [1, 3, 4], [2]],
  [[0, 2], [0, 2, 3], [0, 2, 3], [0, 2, 3], [0, 2, 3], [0, 2, 3], [0, 2, 3], [0, 2, 3, 28], [2], [2], [2]],
  [[0, 1], [1], [1, 10], [4], [4]],
  [[0], [0, 3], [0, 3, 4], [0, 3, 4, 11], [0, 3, 4], [0, 3, 4], [2]],
  [[0, 1], [0, 1, 10], [4], [0, 1, 12, 13], [0, 1, 12, 13, 14], [0, 1, 5, 12, 13], [0, 1, 12, 13, 24], [4], [0, 1, 12, 13], [4]],
  [[0, 1], [0, 1, 10], [4], [0, 1, 5], [0, 1, 5, 14], [0, 1, 5], [0, 1, 5, 25], [4], [4]],
  [[0], [0, 3], [0, 3, 7], [0, 3], [0, 3, 23], [2], [2]],
  [[0], [2]],
  [[0, 3], [4]],
  [[0], [0, 3], [0, 3, 7], [0, 3], [0, 3, 23], [2], [2]],
  [[1], [1, 4], [1, 4, 5], [2], [1, 4, 15], [1, 4, 15], [2], [1, 26], [2], [2]],
  [[0], [0, 25], [], [2], [0], [2]],
  [[0], [0, 3, 4, 5], [0, 3, 4, 26], [], [2], [3], [2]],
  [[0], [0, 3, 4, 5], [0, 3, 4, 26], [], [2], [3], [2]],
  [[1], [1, 21], [2], [1, 3], [1, 3, 27], [1, 3], [1, 3, 4], [1, 3, 4, 36], [1, 3, 4], [1, 3, 4, 5], [1, 3, 4, 5, 44], [1, 3, 4, 5, 44, 45], [3, 4, 5], [1, 3, 4, 5, 44, 55], [1, 3, 4, 5, 44, 55], [3, 4, 5], [3, 4, 5, 66], [3, 4, 5], [2]],
  [[0, 1], [0, 1, 7, 8], [0, 1, 7, 8, 9], [0, 1, 5, 7, 8], [0, 1, 5, 7, 8, 16], [4], [0, 1, 7, 8], [4]],
  [[1, 2], [3]],
  [[0, 1], [0, 7, 8, 9], [0, 7, 8, 30], [4, 5, 6], [4, 5, 6]],
  [[0, 1], [0, 1, 15], [4, 5, 6], [4, 5, 6]],
  [],
  [],
  [],
  [],
  [],
  [],
  [],
  [],
  [],
  [],
  [],
  [],
  [],
  [],
  [],
  [],
  []]
def lr (f i : Nat) : List Nat := (lrTab.getD f []).getD i []
def lbTab : List (List (List Nat)) := [
  [],
  [],
  [],
  [],
  [],
  [],
  [[0, 1, 5]],
  [[0, 1, 5]],
  [[0, 3, 4]],
  [],
  [[0, 1, 5]],
  [],
  [],
  [[0, 1, 5]],
  [[0, 1, 5]],
  [],
  [[0, 3, 4]],
  [],
  [],
  [[0, 1, 5]],
  [],
  [[0, 1, 5]],
  [],
  [[1, 2, 15, 16, 17]],
  [],
  [],
  [[0, 3, 4]],
  [],
  [[0, 1, 5]],
  [],
  [],
  [[3, 7, 8, 9]],
  [],
  [],
  [],
  [[0, 3]],
  [[0, 1, 5]],
  [[0, 1, 5]],
  [],
  [],
  [],
  [],
  [],
  [[0, 3, 4]],
  [[0, 1, 12, 13]],
  [[0, 1, 5]],
  [[0, 3]],
  [],
  [],
  [[0, 3]],
  [],
  [],
  [],
  [],
  [],
  [[0, 1, 7, 8]],
  [],
  [],
  [],
  [],
  [],
  [],
  [],
  [],
  [],
  [],
  [],
  [],
  [],
  [],
  [],
  [],
  [],
  [],
  [],
  []]
def lb (f i : Nat) : List Nat := (lbTab.getD f []).getD i []
def schTab : List (List (Option Sch)) := [
  [],
  [],
  [],
  [],
  [],
  [],
  [],
  [none, none, none, none, none, none, some (.op 0 [] (.op 1 [] (.op 2 [] (.op 3 [] (.op 4 [] (.op 5 [] (.op 6 [] (.op 7 [] (.op 8 [] (.op 9 [] (.op 10 [] (.op 11 [] (.op 12 [] (.op 13 [] (.op 14 [] (.op 15 [] (.op 16 [] (.op 17 [] (.op 18 [] (.op 19 [] (.op 20 [] (.op 21 [] (.op 22 [] (.op 23 [] (.op 24 [] (.op 25 [] (.op 26 [] (.op 27 [] (.op 28 [] (.op 29 [] (.op 30 [] (.op 31 [] (.op 32 [] (.op 33 [] (.op 34 [] (.op 35 [] (.op 36 [] (.op 37 [] (.nil)))))))))))))))))))))))))))))))))))))))],
  [],
  [],
  [none, none, none, none, none, none, some (.op 0 [] (.op 1 [] (.op 2 [] (.op 3 [] (.op 4 [] (.op 5 [] (.op 6 [] (.op 7 [] (.op 8 [] (.op 9 [] (.nil)))))))))))],
  [],
  [],
  [],
  [none, none, none, none, some (.op 0 [] (.op 1 [] (.op 2 [] (.op 3 [] (.op 4 [] (.op 5 [] (.op 6 [4] (.op 7 [] (.nil)))))))))],
  [],
  [],
  [none, none, none, none, none, some (.op 0 [] (.op 1 [] (.op 2 [] (.op 3 [] (.op 4 [] (.op 5 [4] (.op 6 [] (.op 7 [] (.nil)))))))))],
  [],
  [none, none, none, none, none, none, some (.op 0 [] (.op 1 [] (.op 2 [] (.op 3 [] (.op 4 [] (.op 5 [] (.op 6 [] (.op 7 [] (.op 8 [] (.nil))))))))))],
  [],
  [none, none, none, none, none, none, some (.op 0 [] (.op 1 [] (.op 2 [] (.op 3 [] (.op 4 [] (.op 5 [] (.op 6 [] (.op 7 [] (.op 8 [] (.nil))))))))))],
  [],
  [],
  [],
  [],
  [none, none, none, none, none, some (.op 0 [] (.op 1 [] (.op 2 [] (.op 3 [] (.op 4 [] (.op 5 [] (.op 6 [] (.op 7 [] (.op 8 [] (.op 9 [] (.op 10 [] (.op 12 [] (.op 13 [] (.op 14 [] (.op 15 [] (.op 16 [] (.op 11 [5, 10, 16] (.op 17 [5, 10] (.op 18 [] (.op 19 [] (.op 20 [] (.op 21 [] (.nil)))))))))))))))))))))))],
  [],
  [],
  [],
  [],
  [],
  [],
  [],
  [],
  [],
  [],
  [],
  [],
  [none, none, none, some (.op 0 [] (.op 1 [] (.op 2 [] (.op 3 [] (.op 4 [] (.op 5 [] (.op 6 [] (.op 7 [] (.op 8 [] (.op 9 [] (.op 10 [] (.op 11 [] (.op 12 [] (.op 13 [] (.op 14 [] (.op 15 [] (.op 16 [] (.op 17 [] (.nil)))))))))))))))))))],
  [],
  [],
  [],
  [],
  [none, none, none, none, none, none, some (.op 0 [] (.op 1 [] (.op 2 [] (.op 3 [] (.op 4 [] (.op 5 [] (.op 6 [] (.op 7 [] (.op 8 [] (.nil))))))))))],
  [none, none, none, none, none, none, some (.op 0 [] (.op 1 [] (.op 2 [] (.op 3 [] (.op 4 [] (.op 5 [] (.op 6 [] (.op 7 [] (.op 8 [] (.nil))))))))))],
  [],
  [],
  [],
  [],
  [],
  [none, some (.op 0 [] (.op 1 [] (.op 2 [] (.op 3 [] (.op 4 [] (.op 5 [] (.op 6 [] (.op 7 [] (.op 8 [] (.op 9 [] (.op 10 [] (.op 11 [] (.op 12 [] (.op 13 [] (.op 14 [] (.op 15 [] (.op 16 [] (.op 17 [] (.op 18 [] (.op 19 [] (.op 20 [] (.op 21 [] (.op 22 [] (.nil)))))))))))))))))))))))), none, none, none, some (.op 0 [] (.op 1 [] (.op 2 [] (.op 3 [] (.op 4 [] (.op 5 [] (.op 6 [] (.op 7 [] (.op 8 [] (.op 9 [] (.op 10 [] (.op 11 [] (.op 12 [] (.nil))))))))))))))],
  [none, some (.op 0 [] (.op 1 [] (.op 2 [] (.op 3 [] (.op 4 [] (.op 5 [] (.op 6 [] (.op 7 [] (.op 8 [] (.op 9 [] (.op 10 [] (.op 11 [] (.op 12 [] (.op 13 [] (.op 14 [] (.op 15 [] (.nil)))))))))))))))))],
  [none, some (.op 0 [] (.op 1 [] (.op 2 [] (.op 3 [] (.op 4 [] (.op 5 [] (.op 6 [] (.op 7 [] (.op 8 [] (.op 9 [] (.op 10 [] (.op 11 [] (.op 12 [] (.op 13 [] (.op 14 [] (.op 15 [] (.nil)))))))))))))))))],
  [],
  [],
  [],
  [],
  [none, none, none, some (.op 0 [] (.op 1 [] (.op 2 [] (.op 3 [] (.op 4 [] (.op 5 [] (.op 6 [] (.op 7 [] (.op 8 [] (.op 9 [] (.op 10 [] (.op 11 [] (.op 12 [] (.op 13 [] (.op 14 [] (.op 15 [] (.op 16 [] (.op 17 [] (.nil)))))))))))))))))))],
  [],
  [],
  [],
  [],
  [],
  [],
  [],
  [],
  [],
  [],
  [],
  [],
  [],
  [],
  [],
  [],
  []]
def sch (f i : Nat) : Option Sch := ((schTab.getD f []).getD i none)
def sig : FuncId → Sig
  | 0 => ⟨[], false, []⟩
  | 1 => ⟨[], false, []⟩
  | 2 => ⟨[], false, []⟩
  | 3 => ⟨[.borrow, .borrow], false, [[.deep]]⟩
  | 4 => ⟨[.borrow, .borrow, .borrow, .borrow], false, [[.deep]]⟩
  | 5 => ⟨[.borrow, .borrow], false, [[.deep]]⟩
  | 6 => ⟨[.borrow, .borrow], false, [[.deep]]⟩
  | 7 => ⟨[.borrow, .borrow], false, [[.deep]]⟩
  | 8 => ⟨[.borrow], false, [[.deep]]⟩
  | 9 => ⟨[.borrow, .borrow], false, [[.deep]]⟩
  | 10 => ⟨[.borrow, .borrow], false, [[.deep]]⟩
  | 11 => ⟨[.borrow, .borrow, .borrow, .borrow], false, [[.deep], [.deep]]⟩
  | 12 => ⟨[.borrow, .borrow, .borrow, .borrow], false, [[.deep], [.deep]]⟩
  | 13 => ⟨[.inout, .borrow], false, [[.deep]]⟩
  | 14 => ⟨[.borrow, .borrow], false, [[.deep]]⟩
  | 15 => ⟨[.borrow, .borrow], false, [[.deep, .deep, .deep, .deep, .deep], [.deep], [.deep]]⟩
  | 16 => ⟨[.borrow], false, [[.deep]]⟩
  | 17 => ⟨[.borrow, .borrow], false, [[.deep, .deep, .deep, .deep, .deep], [.deep], [.deep]]⟩
  | 18 => ⟨[.borrow, .borrow], false, [[.deep]]⟩
  | 19 => ⟨[.borrow, .borrow], false, [[.deep]]⟩
  | 20 => ⟨[.borrow, .borrow], false, [[.deep]]⟩
  | 21 => ⟨[.borrow, .borrow], false, [[.deep]]⟩
  | 22 => ⟨[.borrow], false, [[.deep, .deep, .deep]]⟩
  | 23 => ⟨[.borrow, .borrow, .borrow], false, [[.deep]]⟩
  | 24 => ⟨[.borrow, .borrow], false, [[.deep]]⟩
  | 25 => ⟨[.borrow, .borrow], false, [[.deep]]⟩
  | 26 => ⟨[.borrow], false, [[.deep]]⟩
  | 27 => ⟨[.borrow, .borrow], false, [[.deep]]⟩
  | 28 => ⟨[.borrow, .borrow], false, [[.deep]]⟩
  | 29 => ⟨[.borrow, .borrow, .borrow], false, [[.deep]]⟩
  | 30 => ⟨[.borrow], false, [[.deep]]⟩
  | 31 => ⟨[.borrow], false, [[.deep]]⟩
  | 32 => ⟨[.borrow, .borrow], false, [[.deep], [.deep]]⟩
  | 33 => ⟨[.borrow, .borrow, .borrow], false, [[.deep]]⟩
  | 34 => ⟨[.borrow], false, [[.deep]]⟩
  | 35 => ⟨[.borrow], false, [[.deep]]⟩
  | 36 => ⟨[.inout, .borrow], false, [[.deep]]⟩
  | 37 => ⟨[.borrow, .borrow], false, [[.deep]]⟩
  | 38 => ⟨[.borrow, .borrow], false, [[.deep], [.deep], [.deep]]⟩
  | 39 => ⟨[.borrow, .borrow], false, [[.deep], [.deep], [.deep]]⟩
  | 40 => ⟨[.borrow], false, [[.deep]]⟩
  | 41 => ⟨[.borrow], false, [[.deep, .deep, .deep, .deep, .deep]]⟩
  | 42 => ⟨[.borrow, .borrow], false, [[.deep]]⟩
  | 43 => ⟨[.borrow], false, [[.deep]]⟩
  | 44 => ⟨[.borrow, .borrow], false, [[.deep]]⟩
  | 45 => ⟨[.borrow, .borrow], false, [[.deep]]⟩
  | 46 => ⟨[.borrow], false, [[.deep]]⟩
  | 47 => ⟨[.borrow], false, [[.deep]]⟩
  | 48 => ⟨[.borrow, .borrow], false, [[.deep]]⟩
  | 49 => ⟨[.borrow], false, [[.deep]]⟩
  | 50 => ⟨[.borrow], false, [[.deep]]⟩
  | 51 => ⟨[.borrow], false, [[.deep]]⟩
  | 52 => ⟨[.borrow], false, [[.deep]]⟩
  | 53 => ⟨[.borrow], false, [[.deep]]⟩
  | 54 => ⟨[.borrow], false, [[.deep]]⟩
  | 55 => ⟨[.borrow, .borrow], false, [[.deep]]⟩
  | 56 => ⟨[.borrow, .borrow], false, [[.deep]]⟩
  | 57 => ⟨[.borrow, .borrow], false, [[.deep], [.deep], [.deep]]⟩
  | 58 => ⟨[.borrow, .borrow], false, [[.deep], [.deep], [.deep]]⟩
  | 59 => ⟨[.borrow], false, [[.deep]]⟩
  | 60 => ⟨[.borrow], false, []⟩
  | 61 => ⟨[.borrow], false, [[.deep]]⟩
  | 62 => ⟨[.borrow], false, []⟩
  | 63 => ⟨[.borrow], false, [[.deep]]⟩
  | 64 => ⟨[.borrow], false, []⟩
  | 65 => ⟨[.borrow], false, [[.deep]]⟩
  | 66 => ⟨[.borrow], false, []⟩
  | 67 => ⟨[.borrow], false, [[.deep]]⟩
  | 68 => ⟨[.borrow], false, []⟩
  | 69 => ⟨[.borrow], false, [[.deep]]⟩
  | 70 => ⟨[.borrow], false, []⟩
  | 71 => ⟨[.borrow], false, [[.deep]]⟩
  | 72 => ⟨[.borrow], false, [[.deep]]⟩
  | 73 => ⟨[.borrow], false, []⟩
  | 74 => ⟨[.borrow], false, [[.deep]]⟩
  | 75 => ⟨[.borrow], false, [[.deep]]⟩
  | _ => ⟨[], false, []⟩
noncomputable def C : Cfg := ⟨Go.Proofs.Try.prog, tt, sig, lr, lb, sch⟩
theorem tys : (List.range 87).all (tyOkB C.P C.tt) = true := by kernel_rfl
theorem tyOk : TyOk C := tyOk_of (n := 87) (fun t ht => by
  have : ttTab.length ≤ 87 := by decide
  have h1 : C.tt t = no := by
    show ttTab.getD t no = no
    rw [List.getD_eq_getElem?_getD, List.getElem?_eq_none (Nat.le_trans this ht)]; rfl
  rw [h1]; rfl) tys
abbrev main_main : FuncId := 0
abbrev gosem_cut : FuncId := 1
abbrev gosem_cut_init : FuncId := 2
abbrev laws_FnExactSameMaps : FuncId := 3
abbrev laws_FnExactMapWrite : FuncId := 4
abbrev laws_FnExactGetOp : FuncId := 5
abbrev laws_szMapS : FuncId := 6
abbrev spec_SameMaps : FuncId := 7
abbrev laws_toMapS : FuncId := 8
abbrev impl_SameMaps : FuncId := 9
abbrev laws_eqMapS : FuncId := 10
abbrev spec_MapWrite : FuncId := 11
abbrev impl_MapWrite : FuncId := 12
abbrev laws_markMapS : FuncId := 13
abbrev laws_heldMapS : FuncId := 14
abbrev spec_GetOp : FuncId := 15
abbrev laws_toByteS : FuncId := 16
abbrev impl_GetOp : FuncId := 17
abbrev laws_eqOp : FuncId := 18
abbrev laws_eqByteS : FuncId := 19
abbrev laws_szMap : FuncId := 20
abbrev spec_l12SameInts : FuncId := 21
abbrev laws_toMap : FuncId := 22
abbrev slices_EqualFunc_Map : FuncId := 23
abbrev impl_sameMap : FuncId := 24
abbrev laws_eqMap : FuncId := 25
abbrev spec_l12Copy : FuncId := 26
abbrev spec_l12Code : FuncId := 27
abbrev spec_MapAt : FuncId := 28
abbrev spec_l1In : FuncId := 29
abbrev spec_l1Word : FuncId := 30
abbrev impl_copyMaps : FuncId := 31
abbrev impl_changeCode : FuncId := 32
abbrev impl_within : FuncId := 33
abbrev impl_isWord : FuncId := 34
abbrev laws_markText : FuncId := 35
abbrev laws_markIntS : FuncId := 36
abbrev laws_heldIntS : FuncId := 37
abbrev spec_GetText : FuncId := 38
abbrev spec_GetW : FuncId := 39
abbrev spec_OpOk : FuncId := 40
abbrev impl_reader__op : FuncId := 41
abbrev laws_szIntS : FuncId := 42
abbrev laws_toIntS : FuncId := 43
abbrev slices_Equal_int : FuncId := 44
abbrev laws_eqIntS : FuncId := 45
abbrev spec_NameOk : FuncId := 46
abbrev impl_copyInts : FuncId := 47
abbrev impl_MapAt : FuncId := 48
abbrev impl_NameOk : FuncId := 49
abbrev spec_l15Zero : FuncId := 50
abbrev impl_reader__one : FuncId := 51
abbrev impl_reader__text : FuncId := 52
abbrev impl_reader__word : FuncId := 53
abbrev impl_OpOk : FuncId := 54
abbrev slices_IndexFunc_Map : FuncId := 55
abbrev impl_MapAt_1 : FuncId := 56
abbrev impl_GetText : FuncId := 57
abbrev impl_GetW : FuncId := 58
abbrev _runtime_boundsError__Error : FuncId := 59
abbrev _runtime_boundsError__RuntimeError : FuncId := 60
abbrev _runtime_errorString__Error : FuncId := 61
abbrev _runtime_errorString__RuntimeError : FuncId := 62
abbrev _runtime_plainError__Error : FuncId := 63
abbrev _runtime_plainError__RuntimeError : FuncId := 64
abbrev _runtime_errorAddressString__Error : FuncId := 65
abbrev _runtime_errorAddressString__RuntimeError : FuncId := 66
abbrev __runtime_TypeAssertionError__Error : FuncId := 67
abbrev __runtime_TypeAssertionError__RuntimeError : FuncId := 68
abbrev __runtime_PanicNilError__Error : FuncId := 69
abbrev __runtime_PanicNilError__RuntimeError : FuncId := 70
abbrev abi_Type__Align : FuncId := 71
abbrev maps_unhashableTypeError__Error : FuncId := 72
abbrev maps_unhashableTypeError__RuntimeError : FuncId := 73
abbrev impl_reader__done : FuncId := 74
abbrev abi_Kind__String : FuncId := 75
abbrev t_P_abi_Type : TypeId := 17
abbrev t_P_impl_reader : TypeId := 63
abbrev t_P_runtime_PanicNilError : TypeId := 16
abbrev t_P_runtime_TypeAssertionError : TypeId := 15
abbrev t_P_uint8 : TypeId := 83
abbrev t_S_impl_Map : TypeId := 25
abbrev t_S_int : TypeId := 42
abbrev t_S_laws_Map : TypeId := 22
abbrev t_S_uint8 : TypeId := 32
abbrev t_abi_BoundsErrorCode : TypeId := 6
abbrev t_abi_Kind : TypeId := 81
abbrev t_abi_NameOff : TypeId := 84
abbrev t_abi_TFlag : TypeId := 80
abbrev t_abi_Type : TypeId := 87
abbrev t_abi_TypeOff : TypeId := 85
abbrev t_bool : TypeId := 4
abbrev t_impl_Map : TypeId := 45
abbrev t_impl_Op : TypeId := 34
abbrev t_impl_reader : TypeId := 65
abbrev t_int : TypeId := 3
abbrev t_int32 : TypeId := 21
abbrev t_int64 : TypeId := 2
abbrev t_laws_Map : TypeId := 44
abbrev t_maps_unhashableTypeError : TypeId := 19
abbrev t_runtime_PanicNilError : TypeId := 78
abbrev t_runtime_TypeAssertionError : TypeId := 75
abbrev t_runtime_boundsError : TypeId := 8
abbrev t_runtime_errorAddressString : TypeId := 14
abbrev t_runtime_errorString : TypeId := 10
abbrev t_runtime_plainError : TypeId := 11
abbrev t_string : TypeId := 9
abbrev t_uint : TypeId := 69
abbrev t_uint32 : TypeId := 79
abbrev t_uint8 : TypeId := 5
abbrev t_uintptr : TypeId := 12
abbrev t_unsafe_Pointer : TypeId := 89
theorem prs : prOkB C 0 C.P.funcs.toList = true := by kernel_rfl
theorem prOk : PrOk C := prOk_of tyOk prs (by kernel_rfl)
end Go.T.R
