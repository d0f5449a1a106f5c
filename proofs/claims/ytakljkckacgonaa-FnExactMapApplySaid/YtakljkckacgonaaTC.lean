/- The seat's configuration (printed by gencfg.py). -/
import Derived.Test.YtakljkckacgonaaProg
import Derived.Test.YtakljkckacgonaaT5
import Derived.Test.YtakljkckacgonaaT1
import Derived.KernelRfl
import Derived.Test.YtakljkckacgonaaTI
namespace Go.T.R
open Go.T
set_option maxRecDepth 100000
def no : TInfo := ⟨.other, 0, 0, false, [], []⟩
def ttTab : List TInfo := [
  no,
  no,
  ⟨.int .i64, 1, 8, true, [.sc (.int .i64 0)], []⟩,
  ⟨.int .i64, 1, 8, true, [.sc (.int .i64 0)], []⟩,
  ⟨.bool, 1, 1, true, [.sc (.bool false)], []⟩,
  ⟨.int .u8, 1, 1, true, [.sc (.int .u8 0)], []⟩,
  no,
  no,
  no,
  ⟨.str, 1, 16, true, [.sc (.string ⟨#[]⟩)], []⟩,
  no,
  no,
  no,
  no,
  no,
  no,
  no,
  no,
  no,
  no,
  no,
  ⟨.int .i32, 1, 4, true, [.sc (.int .i32 0)], []⟩,
  ⟨.slice 45, 1, 24, false, [.sub 3 []], []⟩,
  no,
  ⟨.slice 51, 1, 24, false, [.sub 3 []], []⟩,
  no,
  no,
  no,
  no,
  no,
  no,
  no,
  no,
  no,
  no,
  ⟨.struct [(0, 3), (1, 9), (2, 9), (3, 3), (4, 3)], 5, 56, true, [.sc (.int .i64 0), .sc (.string ⟨#[]⟩), .sc (.string ⟨#[]⟩), .sc (.int .i64 0), .sc (.int .i64 0)], [1, 3, 3, 1, 1]⟩,
  ⟨.struct [(0, 3), (1, 9), (2, 9), (3, 3), (4, 3)], 5, 56, true, [.sc (.int .i64 0), .sc (.string ⟨#[]⟩), .sc (.string ⟨#[]⟩), .sc (.int .i64 0), .sc (.int .i64 0)], [1, 3, 3, 1, 1]⟩,
  no,
  no,
  ⟨.struct [(0, 3), (1, 9), (2, 9), (3, 3), (4, 3)], 5, 56, true, [.sc (.int .i64 0), .sc (.string ⟨#[]⟩), .sc (.string ⟨#[]⟩), .sc (.int .i64 0), .sc (.int .i64 0)], [1, 3, 3, 1, 1]⟩,
  no,
  no,
  no,
  ⟨.slice 3, 1, 24, false, [.sub 1 []], []⟩,
  ⟨.struct [(0, 9), (1, 4), (2, 43)], 3, 48, false, [.sc (.string ⟨#[]⟩), .sc (.bool false), .sub 1 []], []⟩,
  ⟨.struct [(0, 9), (1, 4), (2, 43)], 3, 48, false, [.sc (.string ⟨#[]⟩), .sc (.bool false), .sub 1 []], []⟩,
  no,
  no,
  no,
  no,
  no,
  ⟨.struct [(0, 9), (1, 4), (2, 43)], 3, 48, false, [.sc (.string ⟨#[]⟩), .sc (.bool false), .sub 1 []], []⟩,
  no,
  no,
  no,
  no,
  no,
  no,
  no,
  no,
  no,
  no,
  no,
  no,
  no,
  no,
  ⟨.slice 5, 1, 24, false, [.sub 1 []], []⟩,
  no,
  no,
  no,
  no,
  no,
  no,
  no,
  no,
  no,
  no,
  ⟨.int .u32, 1, 4, true, [.sc (.int .u32 0)], []⟩,
  no,
  no,
  no,
  ⟨.ptr 5, 1, 8, true, [], []⟩]
def tt (t : TypeId) : TInfo := ttTab.getD t no
def lrTab : List (List (List Nat)) := [
  [],
  [],
  [],
  [],
  [],
  [],
  [],
  [[0, 3], [0, 3, 5], [0, 3, 5], [0, 3, 5, 20], [4], [0, 3, 5], [0, 3, 25], [4], [0, 3, 6, 7], [0, 3, 6, 7, 8], [0, 3, 6, 7, 8, 9, 10], [0, 3, 6, 7, 8, 9, 10, 51], [4], [0, 3, 6, 7, 8, 9, 10, 56], [4], [0, 3, 6, 7, 8, 9, 10, 11], [0, 3, 6, 7, 9, 10, 11], [0, 3, 6, 7, 9, 72], [4], [0, 3, 6, 7, 9, 12], [0, 3, 6, 7, 9, 12], [0, 3, 6, 7, 9, 12, 13], [0, 3, 6, 7, 9, 12, 13], [0, 3, 6, 7, 9, 12, 13, 80], [4], [0, 3, 6, 7, 9, 12, 83], [4], [6, 7, 9, 12, 14, 15], [9, 12, 100], [4], [9, 12, 13], [12, 13], [12, 13, 105], [4], [108], [4], [4]],
  [[0, 1], [0, 1], [0, 1, 11], [4], [0, 1, 5], [0, 1, 5, 15], [0, 1, 5], [0, 1, 5], [0, 1, 5, 25], [4], [4]],
  [[0, 1, 2], [0, 1, 2, 8], [0, 1, 2, 8, 11], [6, 7], [0, 1, 2, 8, 16], [6, 7], [0, 1, 2, 8, 22], [6, 7], [0, 1, 2, 8, 27], [6, 7], [6, 7]],
  [[0], [0, 3], [0, 3, 4], [0, 3, 4, 11], [0, 3, 4], [0, 3, 4], [2]],
  [[0, 1, 2], [0, 1, 2, 8], [6, 7], [0, 1, 2, 14], [6, 7], [0, 1, 2, 21], [6, 7], [0, 1, 2, 27], [6, 7], [6, 7]],
  [[0, 1], [0, 1, 10], [4], [0, 1, 5], [0, 1, 5, 14], [0, 1, 5], [0, 1, 5, 26], [4], [4]],
  [[0, 1], [0, 1, 5], [0, 1, 5, 9], [0, 1, 5], [0, 1, 5], [0, 1, 5], [0, 1, 5], [0, 1, 5], [0, 1, 5], [0, 4]],
  [[0, 1], [0, 1, 5], [0, 1, 5, 9], [0, 1, 5], [0, 1, 5, 19], [4], [0, 1, 5], [0, 1, 5, 30], [4], [0, 1, 5], [0, 1, 5], [0, 1, 5, 41], [4], [4]],
  [[0, 1, 2, 3], [0, 1, 2, 3, 10], [0, 1, 2, 3, 10, 11], [0, 2, 3, 10, 11, 17], [8, 9], [0, 2, 3, 10, 11, 27], [8, 9], [0, 2, 3, 10, 11, 31], [8, 9], [0, 2, 3, 10, 11, 37], [8, 9], [8, 9]],
  [[0, 1, 2, 3], [0, 1, 2, 3, 10], [0, 2, 3, 10, 14], [8, 9], [0, 2, 3, 10, 25], [8, 9], [0, 2, 3, 10, 30], [8, 9], [0, 2, 3, 10, 37], [8, 9], [8, 9]],
  [[0, 1], [0, 1, 6], [0, 1, 6, 7], [0, 1, 6, 7, 15], [4, 5], [6, 8], [4, 5]],
  [[0, 1], [0, 1, 6], [0, 6, 10], [4, 5], [0, 6, 16], [4, 5], [4, 5]],
  [[0, 1, 2], [0, 1, 2, 8], [0, 1, 2, 8, 9], [0, 2, 8, 9, 10], [0, 2, 8, 9, 10, 22], [6, 7], [0, 2, 8, 10, 27], [6, 7], [0, 2, 8, 10, 34], [6, 7], [0, 2, 8, 10, 11], [0, 2, 8, 10, 11, 12], [0, 2, 8, 10, 11, 12, 42], [0, 2, 8, 10, 11, 12], [0, 2, 8, 10, 11, 12, 13], [0, 2, 8, 10, 11, 12, 13, 52], [0, 2, 8, 10, 11, 12, 13], [0, 2, 8, 10, 11, 12], [8], [6, 7]],
  [[0, 1, 2], [0, 1, 2, 8], [0, 2, 8, 9, 10], [0, 2, 8, 9, 10, 21], [6, 7], [0, 2, 8, 9, 26], [6, 7], [0, 8, 9, 11], [8, 9, 11], [8], [6, 7]],
  [[1, 2], [1, 2], [1, 2, 11], [4], [1], [1, 18], [4], [4]],
  [[0, 3], [0, 3, 8], [4, 5], [0, 3, 12], [0, 3, 12, 13], [4, 5], [0, 3, 12, 23], [4, 5], [0, 3, 12, 36], [4, 5], [0, 3, 12, 44], [4, 5], [0, 3, 12, 56], [4, 5], [0, 3, 66], [4, 5], [4, 5]],
  [[1, 2], [1, 2, 3], [1, 2, 3], [1, 2, 3], [1, 2, 3], [1, 2, 3], [2, 3], [2]],
  [[0, 3], [0, 3, 8], [4, 5], [0, 3, 12], [0, 3, 12, 13], [4, 5], [0, 3, 12, 23], [4, 5], [0, 3, 12, 36], [4, 5], [0, 3, 12, 44], [4, 5], [0, 3, 12, 56], [4, 5], [0, 3, 66], [4, 5], [4, 5]],
  [[1, 2], [1, 2], [1, 2, 11], [4], [1], [1, 17], [4], [4]],
  [[0], [0, 3], [0, 3, 4], [0, 3, 4, 9], [0, 3, 4], [0, 3, 4], [2]],
  [[0], [0, 3], [0, 3, 7], [0, 3], [0, 3, 23], [2], [2]],
  [[0, 1], [0, 1, 5], [0, 1, 5, 9], [0, 1, 5], [0, 1, 5, 18], [4], [4]],
  [[0, 1, 2], [6]],
  [[0, 3], [3, 5], [3, 5, 6], [3, 5, 6, 27], [3, 5, 6], [3, 5, 6], [5], [4]],
  [[1, 2], [1, 2, 3], [1, 2, 3], [1, 2, 3], [2, 3], [2]],
  [[0], [0, 3], [0, 3, 7], [0, 3], [0, 3, 23], [2], [2]],
  [[0], [0, 3], [3, 7, 8, 9], [3, 7, 8, 9, 10], [3, 5, 7, 8, 9], [3, 5, 7, 8, 9], [3, 7, 8, 9], [3, 7, 8, 9], [2]],
  [[0, 3], [4]],
  [[0, 1, 2], [6]],
  [[0, 3], [0, 3, 5], [0, 3, 5, 20], [0, 3, 5], [4]],
  [[2, 3], [2, 3, 9], [4], [2, 3, 14], [4], [20], [4], [4]],
  [[0], [0, 5], [2], [0, 3], [0, 3, 7], [0, 3], [0, 3], [2]],
  [[0, 1], [0, 1, 5], [0, 1, 5, 9], [0, 1, 5], [0, 1, 5], [0, 1, 5], [0, 4]],
  [[0, 1], [0, 1, 5], [0, 1, 5, 9], [0, 1, 5], [0, 1, 5, 17], [4], [0, 1, 5], [4]],
  [[0], [2]],
  [[0, 1], [0, 1, 5], [4], [9], [4], [4]],
  [[0, 1, 2], [0, 1, 2], [0, 1, 2, 16], [6], [0, 1, 2, 7], [0, 7], [0], [6]],
  [[0, 1], [0, 1, 6], [0, 6, 10], [4, 5], [0, 6, 15], [4, 5], [6, 19], [4, 5], [4, 5]],
  [[1], [1, 3], [1, 3, 10], [1, 3], [1, 3, 4], [1, 3, 4, 19], [1, 3, 4], [2]],
  [[0, 1, 2, 3], [0, 1, 2, 3, 10], [0, 1, 2, 3, 10, 11], [0, 2, 3, 10, 11, 12], [0, 2, 3, 10, 11, 12, 21], [8, 9], [0, 2, 3, 10, 12, 26], [8, 9], [2, 3, 10, 12, 33], [8, 9], [10], [8, 9]],
  [[1], [1, 21], [2], [1, 3], [1, 3, 27], [1, 3], [1, 3, 4], [1, 3, 4, 36], [1, 3, 4], [1, 3, 4, 5], [1, 3, 4, 5, 44], [1, 3, 4, 5, 44, 45], [3, 4, 5], [1, 3, 4, 5, 44, 55], [1, 3, 4, 5, 44, 55], [3, 4, 5], [3, 4, 5, 66], [3, 4, 5], [2]],
  [[0, 1, 2, 3], [0, 1, 2, 3, 10], [0, 2, 3, 10, 11, 12], [0, 2, 3, 10, 11, 12, 22], [8, 9], [2, 3, 10, 11, 39], [8, 9], [10], [8, 9]],
  [[0, 1], [1], [1, 10], [4], [4]],
  [[0], [0, 3], [0, 3, 4], [0, 3, 4, 11], [0, 3, 4], [0, 3, 4], [2]],
  [[0, 1], [0, 1, 7, 8], [0, 1, 7, 8, 9], [0, 1, 5, 7, 8], [0, 1, 5, 7, 8, 16], [4], [0, 1, 7, 8], [4]],
  [[1, 2], [3]],
  [[0, 1, 2], [0, 1, 2], [0, 1, 2, 7], [0, 1, 2, 7, 16], [6], [0, 1, 2, 7, 8], [0, 1, 2, 7, 8, 22], [6], [0, 1, 2, 7, 8, 31], [0, 1, 2, 7, 9], [0, 1, 7, 9], [9], [6], [0, 1, 2, 7, 8], [0, 1, 2, 7, 8, 68], [0, 1, 2], [0], [6], [0, 1, 7], [0], [6]],
  [[0, 1], [0, 1, 10], [4], [0, 1, 5], [0, 1, 5, 14], [0, 1, 5], [0, 1, 5, 25], [4], [4]],
  [[0], [2]],
  [[1], [1, 4], [1, 4, 5], [2], [1, 4, 15], [1, 4, 15], [2], [1, 26], [2], [2]],
  [[0], [2]],
  [],
  [],
  [],
  [],
  [],
  [],
  [],
  [],
  [],
  [],
  [],
  [],
  [],
  [],
  [],
  [],
  [],
  [],
  [],
  []]
def lr (f i : Nat) : List Nat := (lrTab.getD f []).getD i []
def lbTab : List (List (List Nat)) := [
  [],
  [],
  [],
  [],
  [],
  [],
  [],
  [],
  [[0, 1, 5]],
  [],
  [[0, 3, 4]],
  [],
  [[0, 1, 5]],
  [[0, 1, 5]],
  [[0, 1, 5]],
  [],
  [],
  [],
  [],
  [[], [0, 2, 8, 10, 11, 12]],
  [],
  [],
  [],
  [],
  [],
  [],
  [[0, 3, 4]],
  [[0, 3]],
  [[0, 1, 5]],
  [],
  [[3, 5, 6]],
  [],
  [[0, 3]],
  [[3, 7, 8, 9]],
  [],
  [],
  [[0, 3, 5]],
  [],
  [[0, 3]],
  [[0, 1, 5]],
  [[0, 1, 5]],
  [],
  [],
  [],
  [],
  [],
  [],
  [],
  [],
  [],
  [[0, 3, 4]],
  [[0, 1, 7, 8]],
  [],
  [],
  [[0, 1, 5]],
  [],
  [],
  [],
  [],
  [],
  [],
  [],
  [],
  [],
  [],
  [],
  [],
  [],
  [],
  [],
  [],
  [],
  [],
  [],
  [],
  [],
  [],
  []]
def lb (f i : Nat) : List Nat := (lbTab.getD f []).getD i []
def schTab : List (List (Option Sch)) := [
  [],
  [],
  [],
  [],
  [],
  [],
  [],
  [none, none, none, none, none, none, none, none, some (.op 0 [] (.op 2 [] (.op 1 [2] (.op 3 [] (.op 4 [] (.op 5 [] (.op 6 [] (.op 7 [] (.op 8 [] (.op 9 [] (.nil))))))))))), none, none, none, none, none, none, none, none, none, none, none, none, none, none, none, none, none, none, some (.op 0 [] (.op 2 [] (.op 1 [2] (.op 3 [] (.op 4 [] (.op 5 [] (.op 6 [] (.op 7 [] (.op 8 [] (.op 9 [] (.nil)))))))))))],
  [],
  [],
  [],
  [],
  [none, none, none, none, none, none, some (.op 0 [] (.op 1 [] (.op 2 [] (.op 3 [] (.op 4 [] (.op 5 [] (.op 6 [] (.op 7 [] (.op 8 [] (.op 9 [] (.nil)))))))))))],
  [],
  [none, none, none, none, some (.op 0 [] (.op 1 [] (.op 2 [] (.op 3 [] (.op 4 [] (.op 5 [] (.op 6 [4] (.op 7 [] (.nil)))))))))],
  [],
  [],
  [none, none, none, none, none, none, some (.op 1 [] (.op 2 [] (.op 3 [] (.op 5 [] (.op 6 [] (.op 7 [] (.op 8 [] (.op 0 [] (.op 4 [] (.op 9 [] (.op 10 [] (.op 11 [] (.nil)))))))))))))],
  [],
  [],
  [],
  [],
  [],
  [],
  [],
  [],
  [none, none, none, none, none, some (.op 0 [] (.op 1 [] (.op 2 [] (.op 3 [] (.op 4 [] (.op 5 [] (.op 6 [] (.op 7 [] (.op 8 [] (.op 9 [] (.op 10 [] (.op 12 [] (.op 13 [] (.op 14 [] (.op 15 [] (.op 16 [] (.op 11 [5, 10, 16] (.op 17 [5, 10] (.op 18 [] (.op 19 [] (.op 20 [] (.op 21 [] (.nil)))))))))))))))))))))))],
  [],
  [],
  [],
  [none, some (.op 0 [] (.op 2 [] (.alt (.op 1 [2] (.op 3 [] (.op 4 [] (.op 5 [] (.nil))))) (.op 3 [] (.op 1 [2] (.op 4 [] (.op 5 [] (.nil)))))))), none, some (.op 0 [] (.op 1 [] (.op 2 [] (.op 3 [] (.op 4 [] (.op 5 [] (.op 6 [] (.op 7 [] (.op 8 [] (.op 9 [] (.op 10 [] (.op 11 [] (.op 12 [] (.nil))))))))))))))],
  [],
  [],
  [],
  [],
  [],
  [none, none, some (.op 0 [] (.op 1 [] (.op 2 [] (.op 3 [] (.op 4 [] (.op 5 [] (.op 6 [] (.op 7 [] (.op 8 [] (.op 9 [] (.op 10 [] (.op 11 [] (.op 12 [] (.nil)))))))))))))), none, some (.op 0 [] (.op 2 [] (.op 3 [] (.alt (.op 1 [3] (.op 4 [] (.op 5 [] (.op 6 [] (.nil))))) (.op 4 [] (.op 1 [3] (.op 5 [] (.op 6 [] (.nil)))))))))],
  [],
  [],
  [],
  [],
  [],
  [],
  [none, none, none, none, none, some (.op 0 [] (.op 1 [] (.op 2 [] (.op 3 [] (.op 4 [] (.op 5 [] (.op 6 [] (.op 7 [] (.nil)))))))))],
  [],
  [],
  [],
  [],
  [],
  [],
  [],
  [],
  [],
  [none, none, none, none, none, none, none, none, none, none, none, some (.op 0 [] (.op 1 [] (.op 2 [] (.op 3 [] (.op 4 [] (.op 5 [] (.op 6 [] (.op 7 [] (.op 8 [] (.nil)))))))))), none, none, none, some (.op 0 [] (.op 1 [] (.op 2 [] (.op 3 [] (.op 4 [] (.op 5 [] (.op 6 [] (.op 7 [] (.op 8 [] (.nil))))))))))],
  [none, none, none, none, none, none, some (.op 0 [] (.op 1 [] (.op 2 [] (.op 3 [] (.op 4 [] (.op 5 [] (.op 6 [] (.op 7 [] (.op 8 [] (.nil))))))))))],
  [],
  [],
  [],
  [],
  [],
  [],
  [],
  [],
  [],
  [],
  [],
  [],
  [],
  [],
  [],
  [],
  [],
  [],
  [],
  [],
  [],
  [],
  []]
def sch (f i : Nat) : Option Sch := ((schTab.getD f []).getD i none)
def sig : FuncId → Sig
  | 0 => ⟨[], false, []⟩
  | 1 => ⟨[], false, []⟩
  | 2 => ⟨[], false, []⟩
  | 3 => ⟨[.borrow, .borrow, .borrow], false, [[.deep]]⟩
  | 4 => ⟨[.borrow, .borrow, .borrow, .borrow], false, [[.deep]]⟩
  | 5 => ⟨[.borrow, .borrow], false, [[.deep]]⟩
  | 6 => ⟨[.borrow, .borrow, .borrow], false, [[.deep]]⟩
  | 7 => ⟨[.borrow, .borrow], false, [[.deep]]⟩
  | 8 => ⟨[.borrow, .borrow], false, [[.deep]]⟩
  | 9 => ⟨[.borrow, .borrow, .borrow], true, [[.snap], [.deep]]⟩
  | 10 => ⟨[.borrow], false, [[.deep]]⟩
  | 11 => ⟨[.borrow, .borrow, .borrow], false, [[.deep], [.deep]]⟩
  | 12 => ⟨[.borrow, .borrow], false, [[.deep]]⟩
  | 13 => ⟨[.inout [], .borrow], false, [[.deep]]⟩
  | 14 => ⟨[.borrow, .borrow], false, [[.deep]]⟩
  | 15 => ⟨[.borrow, .borrow, .borrow, .borrow], true, [[.snap], [.deep]]⟩
  | 16 => ⟨[.borrow, .borrow, .borrow, .borrow], false, [[.deep], [.deep]]⟩
  | 17 => ⟨[.borrow, .borrow], false, [[.deep], [.deep]]⟩
  | 18 => ⟨[.borrow, .borrow], false, [[.deep], [.deep]]⟩
  | 19 => ⟨[.borrow, .borrow, .borrow], false, [[.deep], [.deep]]⟩
  | 20 => ⟨[.borrow, .borrow, .borrow], false, [[.deep], [.deep]]⟩
  | 21 => ⟨[.borrow, .borrow], false, [[.deep]]⟩
  | 22 => ⟨[.borrow, .borrow], true, [[.snap], [.deep]]⟩
  | 23 => ⟨[.borrow], false, [[.deep, .deep, .deep, .deep, .deep]]⟩
  | 24 => ⟨[.borrow, .borrow], false, [[.deep], [.deep]]⟩
  | 25 => ⟨[.borrow, .borrow], false, [[.deep]]⟩
  | 26 => ⟨[.borrow], false, [[.deep]]⟩
  | 27 => ⟨[.borrow], false, [[.deep]]⟩
  | 28 => ⟨[.borrow, .borrow], false, [[.deep]]⟩
  | 29 => ⟨[.borrow, .borrow, .borrow], false, [[.deep]]⟩
  | 30 => ⟨[.borrow, .borrow], true, [[.snap]]⟩
  | 31 => ⟨[.borrow], false, [[.deep, .deep, .deep]]⟩
  | 32 => ⟨[.borrow], false, [[.deep]]⟩
  | 33 => ⟨[.borrow], false, [[.deep]]⟩
  | 34 => ⟨[.borrow, .borrow], false, [[.deep]]⟩
  | 35 => ⟨[.borrow, .borrow, .borrow], false, [[.deep]]⟩
  | 36 => ⟨[.borrow, .consume], false, [[.deep]]⟩
  | 37 => ⟨[.borrow, .borrow], false, [[.deep]]⟩
  | 38 => ⟨[.borrow], false, [[.deep]]⟩
  | 39 => ⟨[.inout [], .borrow], false, [[.deep]]⟩
  | 40 => ⟨[.borrow, .borrow], false, [[.deep]]⟩
  | 41 => ⟨[.borrow], false, [[.deep]]⟩
  | 42 => ⟨[.borrow, .borrow], false, [[.deep]]⟩
  | 43 => ⟨[.consume, .borrow, .borrow], false, [[.deep]]⟩
  | 44 => ⟨[.borrow, .borrow], false, [[.deep], [.deep]]⟩
  | 45 => ⟨[.borrow], false, [[.deep]]⟩
  | 46 => ⟨[.borrow, .borrow, .borrow, .borrow], false, [[.deep], [.deep]]⟩
  | 47 => ⟨[.borrow], false, [[.deep]]⟩
  | 48 => ⟨[.borrow, .borrow, .borrow, .borrow], false, [[.deep], [.deep]]⟩
  | 49 => ⟨[.borrow, .borrow], false, [[.deep]]⟩
  | 50 => ⟨[.borrow], false, [[.deep]]⟩
  | 51 => ⟨[.borrow, .borrow], false, [[.deep]]⟩
  | 52 => ⟨[.borrow, .borrow], false, [[.deep]]⟩
  | 53 => ⟨[.consume, .borrow, .consume], false, [[.deep]]⟩
  | 54 => ⟨[.borrow, .borrow], false, [[.deep]]⟩
  | 55 => ⟨[.borrow], false, [[.deep]]⟩
  | 56 => ⟨[.borrow], false, [[.deep]]⟩
  | 57 => ⟨[.borrow], false, [[.deep]]⟩
  | 58 => ⟨[.borrow, .borrow], false, [[.deep]]⟩
  | 59 => ⟨[.borrow, .borrow], false, []⟩
  | 60 => ⟨[.borrow, .borrow], false, []⟩
  | 61 => ⟨[.borrow], false, []⟩
  | 62 => ⟨[.borrow], false, [[.deep]]⟩
  | 63 => ⟨[.borrow], false, []⟩
  | 64 => ⟨[.borrow], false, [[.deep]]⟩
  | 65 => ⟨[.borrow], false, []⟩
  | 66 => ⟨[.borrow], false, [[.deep]]⟩
  | 67 => ⟨[.borrow], false, []⟩
  | 68 => ⟨[.borrow], false, [[.deep]]⟩
  | 69 => ⟨[.borrow], false, []⟩
  | 70 => ⟨[.borrow], false, [[.deep]]⟩
  | 71 => ⟨[.borrow], false, []⟩
  | 72 => ⟨[.borrow], false, [[.deep]]⟩
  | 73 => ⟨[.borrow], false, []⟩
  | 74 => ⟨[.borrow], false, [[.deep]]⟩
  | 75 => ⟨[.borrow], false, [[.deep]]⟩
  | 76 => ⟨[.borrow], false, []⟩
  | 77 => ⟨[.borrow], false, [[.deep]]⟩
  | _ => ⟨[], false, []⟩
def ext : FuncId → Option (List TV → Option (TV × List TV))
  | 53 => some (insP 3 48)
  | 43 => some (delP 3)
  | _ => none
noncomputable def C : Cfg := ⟨Go.Proofs.Try.prog, tt, sig, lr, lb, sch, ext⟩
theorem tys : (List.range 85).all (tyOkB C.P C.tt) = true := by kernel_rfl
theorem tyOk : TyOk C := tyOk_of (n := 85) (fun t ht => by
  have : ttTab.length ≤ 85 := by decide
  have h1 : C.tt t = no := by
    show ttTab.getD t no = no
    rw [List.getD_eq_getElem?_getD, List.getElem?_eq_none (Nat.le_trans this ht)]; rfl
  rw [h1]; rfl) tys
abbrev laws_FnExactMapApply : FuncId := 7
abbrev laws_szMapS : FuncId := 8
abbrev spec_MapCreate : FuncId := 9
abbrev laws_toMapS : FuncId := 10
abbrev impl_MapCreate : FuncId := 11
abbrev laws_eqMapS : FuncId := 12
abbrev laws_markMapS : FuncId := 13
abbrev laws_heldMapS : FuncId := 14
abbrev spec_MapSnap : FuncId := 15
abbrev impl_MapSnap : FuncId := 16
abbrev spec_MapKill : FuncId := 17
abbrev impl_MapKill : FuncId := 18
abbrev spec_MapResize : FuncId := 19
abbrev impl_MapResize : FuncId := 20
abbrev laws_szOp : FuncId := 21
abbrev spec_MapApply : FuncId := 22
abbrev laws_toOp : FuncId := 23
abbrev impl_MapApply : FuncId := 24
abbrev laws_szMap : FuncId := 25
abbrev spec_l12Copy : FuncId := 26
abbrev spec_NameOk : FuncId := 27
abbrev spec_MapAt : FuncId := 28
abbrev spec_l1In : FuncId := 29
abbrev spec_l12Put : FuncId := 30
abbrev laws_toMap : FuncId := 31
abbrev impl_NameOk : FuncId := 32
abbrev impl_copyMaps : FuncId := 33
abbrev impl_MapAt : FuncId := 34
abbrev impl_within : FuncId := 35
abbrev impl_insertMap : FuncId := 36
abbrev laws_eqMap : FuncId := 37
abbrev laws_markText : FuncId := 38
abbrev laws_markIntS : FuncId := 39
abbrev laws_heldIntS : FuncId := 40
abbrev impl_copyInts : FuncId := 41
abbrev spec_l12Code : FuncId := 42
abbrev slices_Delete_Map : FuncId := 43
abbrev impl_changeCode : FuncId := 44
abbrev spec_OpOk : FuncId := 45
abbrev spec_MapWrite : FuncId := 46
abbrev impl_OpOk : FuncId := 47
abbrev impl_MapWrite : FuncId := 48
abbrev laws_szIntS : FuncId := 49
abbrev laws_toIntS : FuncId := 50
abbrev slices_IndexFunc_Map : FuncId := 51
abbrev impl_MapAt_1 : FuncId := 52
abbrev slices_Insert_Map : FuncId := 53
abbrev laws_eqIntS : FuncId := 54
abbrev spec_l1Word : FuncId := 55
abbrev spec_l15Zero : FuncId := 56
abbrev impl_isWord : FuncId := 57
abbrev t_S_laws_Map : TypeId := 22
abbrev t_bool : TypeId := 4
abbrev t_int : TypeId := 3
abbrev t_laws_Map : TypeId := 45
abbrev t_laws_Op : TypeId := 36
theorem prs : prOkB C 0 C.P.funcs.toList = true := by kernel_rfl
theorem extOk (f : FuncId) (p : List TV → Option (TV × List TV)) (vs : List TV) (r : TV) (fs : List TV) (h : C.ext f = some p) (hp : p vs = some (r, fs)) : CallOk C f vs r fs := by
  have h : ext f = some p := h
  unfold ext at h
  split at h
  · cases h; exact InsM.insW.call InsM.insB rfl hp
  · cases h; exact InsM.delW.dcall InsM.delB rfl hp
  · cases h
theorem prOk : PrOk C := prOk_of tyOk prs (by kernel_rfl) extOk
end Go.T.R
