/- The seat's configuration (printed by gencfg.py). -/
import Derived.Test.YtibkcmljaifbpaaProg
import Derived.Test.YtibkcmljaifbpaaT5
import Derived.Test.YtibkcmljaifbpaaT1
import Derived.KernelRfl
namespace Go.T.R
open Go.T
set_option maxRecDepth 100000
def no : TInfo := ⟨.other, 0, 0, false, [], []⟩
def ttTab : List TInfo := [
  no,
  no,
  ⟨.int .i64, 1, 8, true, [.sc (.int .i64 0)], []⟩,
  ⟨.int .i64, 1, 8, true, [.sc (.int .i64 0)], []⟩,
  ⟨.bool, 1, 1, true, [.sc (.bool false)], []⟩,
  ⟨.int .u8, 1, 1, true, [.sc (.int .u8 0)], []⟩,
  no,
  no,
  no,
  ⟨.str, 1, 16, true, [.sc (.string ⟨#[]⟩)], []⟩,
  no,
  no,
  no,
  no,
  no,
  no,
  no,
  no,
  no,
  no,
  no,
  ⟨.int .i32, 1, 4, true, [.sc (.int .i32 0)], []⟩,
  ⟨.slice 5, 1, 24, false, [.sub 1 []], []⟩,
  ⟨.struct [(0, 3), (1, 9), (2, 9), (3, 3), (4, 3)], 5, 56, true, [.sc (.int .i64 0), .sc (.string ⟨#[]⟩), .sc (.string ⟨#[]⟩), .sc (.int .i64 0), .sc (.int .i64 0)], [1, 3, 3, 1, 1]⟩,
  ⟨.struct [(0, 3), (1, 9), (2, 9), (3, 3), (4, 3)], 5, 56, true, [.sc (.int .i64 0), .sc (.string ⟨#[]⟩), .sc (.string ⟨#[]⟩), .sc (.int .i64 0), .sc (.int .i64 0)], [1, 3, 3, 1, 1]⟩,
  no,
  no,
  no,
  no,
  no,
  no,
  no,
  no,
  no,
  no,
  no,
  no,
  no,
  ⟨.slice 48, 1, 24, false, [.sub 1 []], []⟩,
  ⟨.struct [(0, 38)], 1, 24, false, [.sub 1 []], []⟩,
  ⟨.struct [(0, 38)], 1, 24, false, [.sub 1 []], []⟩,
  ⟨.struct [(0, 3), (1, 3), (2, 3), (3, 3), (4, 3)], 5, 40, true, [.sc (.int .i64 0), .sc (.int .i64 0), .sc (.int .i64 0), .sc (.int .i64 0), .sc (.int .i64 0)], [1, 1, 1, 1, 1]⟩,
  ⟨.struct [(0, 3), (1, 3), (2, 3), (3, 3), (4, 3)], 5, 40, true, [.sc (.int .i64 0), .sc (.int .i64 0), .sc (.int .i64 0), .sc (.int .i64 0), .sc (.int .i64 0)], [1, 1, 1, 1, 1]⟩,
  no,
  no,
  no,
  no,
  no,
  ⟨.slice 42, 1, 24, false, [.sub 5 []], []⟩,
  no,
  no,
  no,
  no,
  no,
  no,
  no,
  no,
  no,
  no,
  no,
  no,
  ⟨.slice 3, 1, 24, false, [.sub 1 []], []⟩,
  ⟨.slice 40, 1, 24, false, [.sub 1 []], []⟩,
  ⟨.struct [(0, 61), (1, 62)], 2, 48, false, [.sub 1 [], .sub 1 []], []⟩,
  ⟨.struct [(0, 61), (1, 62)], 2, 48, false, [.sub 1 [], .sub 1 []], []⟩,
  ⟨.slice 119, 1, 24, false, [.sub 2 []], []⟩,
  no,
  no,
  no,
  no,
  no,
  no,
  no,
  no,
  no,
  no,
  no,
  no,
  no,
  no,
  no,
  no,
  no,
  ⟨.ptr 85, 1, 8, true, [], []⟩,
  ⟨.struct [(0, 22), (1, 3), (2, 4)], 3, 40, false, [.sub 1 [], .sc (.int .i64 0), .sc (.bool false)], []⟩,
  ⟨.struct [(0, 22), (1, 3), (2, 4)], 3, 40, false, [.sub 1 [], .sc (.int .i64 0), .sc (.bool false)], []⟩,
  no,
  ⟨.ptr 125, 1, 8, true, [], []⟩,
  no,
  no,
  no,
  no,
  no,
  no,
  no,
  no,
  no,
  no,
  no,
  no,
  no,
  no,
  no,
  no,
  no,
  no,
  no,
  no,
  no,
  no,
  no,
  no,
  no,
  no,
  no,
  no,
  no,
  no,
  ⟨.struct [(0, 3), (1, 3)], 2, 16, true, [.sc (.int .i64 0), .sc (.int .i64 0)], [1, 1]⟩,
  ⟨.struct [(0, 3), (1, 3)], 2, 16, true, [.sc (.int .i64 0), .sc (.int .i64 0)], [1, 1]⟩,
  no,
  ⟨.int .u64, 1, 8, true, [.sc (.int .u64 0)], []⟩,
  no,
  no,
  ⟨.struct [(0, 22), (1, 3), (2, 3)], 3, 40, false, [.sub 1 [], .sc (.int .i64 0), .sc (.int .i64 0)], []⟩,
  ⟨.struct [(0, 22), (1, 3), (2, 3)], 3, 40, false, [.sub 1 [], .sc (.int .i64 0), .sc (.int .i64 0)], []⟩,
  no,
  no,
  no,
  ⟨.slice 22, 1, 24, false, [.sub 1 []], []⟩,
  no,
  ⟨.slice 9, 1, 24, false, [.sub 1 []], []⟩,
  no,
  no,
  no,
  no,
  no,
  no,
  no,
  no,
  no,
  no,
  no,
  no,
  no,
  no,
  no,
  no,
  no,
  no,
  no,
  no,
  no,
  ⟨.int .u32, 1, 4, true, [.sc (.int .u32 0)], []⟩,
  no,
  no,
  no,
  ⟨.ptr 5, 1, 8, true, [], []⟩]
def tt (t : TypeId) : TInfo := ttTab.getD t no
def lrTab : List (List (List Nat)) := [
  [],
  [],
  [],
  [[0, 1], [0, 1, 14], [4], [0, 1, 5, 6, 7], [0, 1, 5, 6, 7, 8], [0, 5, 6, 7, 8, 9, 10, 11], [0, 8, 45], [4], [50], [4], [4]],
  [],
  [],
  [],
  [],
  [],
  [[0, 1, 4], [0, 1, 4, 25], [4, 5, 6], [0, 1, 4, 7], [0, 4, 7, 8, 9, 10], [0, 4, 7, 8, 10, 11, 12, 13], [0, 4, 7, 8, 10, 11, 13, 14, 15, 16], [4, 7, 8, 10, 11, 13, 14, 16, 17, 18, 19], [4, 7, 10, 11, 13, 14, 16, 17, 18, 19], [4, 7, 10, 13, 14, 16, 17, 18, 19], [4, 7, 10, 13, 16, 17, 18, 19], [4, 7, 10, 13, 16, 18, 19], [4, 7, 18, 88], [4, 5, 6], [4, 5, 6]],
  [[0], [0, 3], [0, 3, 4], [0, 3, 4, 11], [0, 3, 4], [0, 3, 4], [2]],
  [[0, 1, 4], [4, 7], [4, 7, 8], [4, 7, 8, 18], [4, 5, 6], [4, 5, 6]],
  [[2, 3], [2, 3, 9], [4], [2, 3, 14], [4], [2, 3, 19], [4], [2, 3, 24], [4], [29], [4], [4]],
  [[0, 1], [0, 1, 10], [4], [0, 1, 5], [0, 1, 5, 14], [0, 1, 5], [0, 1, 5, 25], [4], [4]],
  [],
  [],
  [],
  [],
  [[1], [1, 21], [2], [1, 3], [1, 3, 27], [1, 3], [1, 3, 4], [1, 3, 4, 36], [1, 3, 4], [1, 3, 4, 5], [1, 3, 4, 5, 44], [1, 3, 4, 5, 44, 45], [3, 4, 5], [1, 3, 4, 5, 44, 55], [1, 3, 4, 5, 44, 55], [3, 4, 5], [3, 4, 5, 66], [3, 4, 5], [2]],
  [[1], [1, 3], [1, 3, 10], [1, 3], [1, 3, 4], [1, 3, 4, 19], [1, 3, 4], [2]],
  [],
  [],
  [],
  [],
  [],
  [],
  [],
  [],
  [],
  [],
  [],
  [],
  [],
  [],
  [],
  [],
  [],
  [],
  [],
  [],
  [],
  [],
  [],
  [],
  [],
  [],
  [],
  [],
  [],
  [],
  [],
  [],
  [],
  [],
  [],
  [],
  [],
  [[0, 1, 2], [6]],
  [[0, 1], [0, 7, 8, 9], [0, 7, 8, 30], [4, 5, 6], [4, 5, 6]],
  [[0, 1], [0, 1, 12], [4, 5, 6], [4, 5, 6]],
  [[0, 2], [0, 2, 3], [0, 2, 3], [0, 2, 3], [0, 2, 3], [0, 2, 3], [0, 2, 3], [0, 2, 3, 28], [0, 2], [0, 2], [0, 2]],
  [],
  [],
  [],
  [],
  [],
  [],
  [],
  [],
  [],
  [],
  [],
  [[0, 1, 2], [6]],
  [[0], [2]],
  [[0], [0, 3], [0, 3, 7], [0, 3], [0, 3, 23], [2], [2]],
  [[0], [0, 3], [0, 3, 7], [0, 3], [0, 3, 23], [2], [2]],
  [[0], [2]],
  [[1], [1, 4], [1, 4, 5], [2], [1, 4, 15], [1, 4, 15], [2], [1, 26], [2], [2]],
  [],
  [],
  [],
  [],
  [],
  [],
  [],
  [],
  [],
  [],
  [],
  [],
  [],
  [],
  [],
  [],
  [],
  [],
  [],
  [],
  [],
  [],
  [],
  [],
  [],
  [],
  [],
  [],
  [],
  [],
  [],
  [],
  [],
  [],
  [],
  [[0], [0, 25], [0], [0, 2], [0], [0, 2]],
  [[0], [0, 3, 4, 5], [0, 3, 4, 26], [0], [0, 2], [0, 3], [0, 2]],
  [[0], [0, 3, 4, 5], [0, 3, 4, 26], [0], [0, 2], [0, 3], [0, 2]],
  [],
  [],
  [],
  [],
  [],
  [],
  [],
  [],
  [],
  [],
  [],
  [],
  [],
  [],
  [],
  [],
  [],
  [],
  [],
  [],
  [],
  [],
  [],
  [],
  [],
  [],
  [[0, 1], [0, 7, 8, 9], [0, 7, 8, 30], [4, 5, 6], [4, 5, 6]],
  [[0, 1], [0, 1, 15], [4, 5, 6], [4, 5, 6]],
  [],
  [],
  [],
  [],
  [],
  [],
  [],
  [],
  [],
  [],
  [],
  [],
  [],
  [],
  [],
  [],
  [],
  [],
  [],
  [],
  [],
  [],
  [],
  [],
  [],
  [],
  []]
def lr (f i : Nat) : List Nat := (lrTab.getD f []).getD i []
def lbTab : List (List (List Nat)) := [
  [],
  [],
  [],
  [],
  [],
  [],
  [],
  [],
  [],
  [],
  [[0, 3, 4]],
  [],
  [],
  [[0, 1, 5]],
  [],
  [],
  [],
  [],
  [],
  [],
  [],
  [],
  [],
  [],
  [],
  [],
  [],
  [],
  [],
  [],
  [],
  [],
  [],
  [],
  [],
  [],
  [],
  [],
  [],
  [],
  [],
  [],
  [],
  [],
  [],
  [],
  [],
  [],
  [],
  [],
  [],
  [],
  [],
  [],
  [],
  [],
  [],
  [],
  [],
  [],
  [],
  [],
  [],
  [],
  [],
  [],
  [],
  [],
  [],
  [],
  [],
  [],
  [],
  [],
  [[0, 3]],
  [[0, 3]],
  [],
  [],
  [],
  [],
  [],
  [],
  [],
  [],
  [],
  [],
  [],
  [],
  [],
  [],
  [],
  [],
  [],
  [],
  [],
  [],
  [],
  [],
  [],
  [],
  [],
  [],
  [],
  [],
  [],
  [],
  [],
  [],
  [],
  [],
  [],
  [],
  [],
  [],
  [],
  [],
  [],
  [],
  [],
  [],
  [],
  [],
  [],
  [],
  [],
  [],
  [],
  [],
  [],
  [],
  [],
  [],
  [],
  [],
  [],
  [],
  [],
  [],
  [],
  [],
  [],
  [],
  [],
  [],
  [],
  [],
  [],
  [],
  [],
  [],
  [],
  [],
  [],
  [],
  [],
  [],
  [],
  [],
  [],
  [],
  [],
  [],
  [],
  [],
  [],
  [],
  [],
  [],
  [],
  [],
  []]
def lb (f i : Nat) : List Nat := (lbTab.getD f []).getD i []
def schTab : List (List (Option Sch)) := [
  [],
  [],
  [],
  [],
  [],
  [],
  [],
  [],
  [],
  [],
  [],
  [none, none, none, none, none, some (.op 0 [] (.op 1 [] (.op 2 [] (.op 3 [] (.op 4 [] (.op 5 [4] (.op 6 [] (.op 7 [] (.nil)))))))))],
  [],
  [none, none, none, none, none, none, some (.op 0 [] (.op 1 [] (.op 2 [] (.op 3 [] (.op 4 [] (.op 5 [] (.op 6 [] (.op 7 [] (.op 8 [] (.nil))))))))))],
  [],
  [],
  [],
  [],
  [],
  [],
  [],
  [],
  [],
  [],
  [],
  [],
  [],
  [],
  [],
  [],
  [],
  [],
  [],
  [],
  [],
  [],
  [],
  [],
  [],
  [],
  [],
  [],
  [],
  [],
  [],
  [],
  [],
  [],
  [],
  [],
  [],
  [],
  [],
  [],
  [],
  [],
  [],
  [],
  [],
  [none, none, none, some (.op 0 [] (.op 1 [] (.op 2 [] (.op 3 [] (.op 4 [] (.op 5 [] (.op 6 [] (.op 7 [] (.op 8 [] (.op 9 [] (.op 10 [] (.op 11 [] (.op 12 [] (.op 13 [] (.op 14 [] (.op 15 [] (.op 16 [] (.op 17 [] (.nil)))))))))))))))))))],
  [],
  [],
  [],
  [],
  [],
  [],
  [],
  [],
  [],
  [],
  [],
  [],
  [],
  [],
  [],
  [],
  [],
  [],
  [],
  [],
  [],
  [],
  [],
  [],
  [],
  [],
  [],
  [],
  [],
  [],
  [],
  [],
  [],
  [],
  [],
  [],
  [],
  [],
  [],
  [],
  [],
  [],
  [],
  [],
  [],
  [],
  [],
  [],
  [],
  [],
  [],
  [],
  [],
  [none, some (.op 0 [] (.op 1 [] (.op 2 [] (.op 3 [] (.op 4 [] (.op 5 [] (.op 6 [] (.op 7 [] (.op 8 [] (.op 9 [] (.op 10 [] (.op 11 [] (.op 12 [] (.op 13 [] (.op 14 [] (.op 15 [] (.op 16 [] (.op 17 [] (.op 18 [] (.op 19 [] (.op 20 [] (.op 21 [] (.op 22 [] (.nil)))))))))))))))))))))))), none, none, none, some (.op 0 [] (.op 1 [] (.op 2 [] (.op 3 [] (.op 4 [] (.op 5 [] (.op 6 [] (.op 7 [] (.op 8 [] (.op 9 [] (.op 10 [] (.op 11 [] (.op 12 [] (.nil))))))))))))))],
  [none, some (.op 0 [] (.op 1 [] (.op 2 [] (.op 3 [] (.op 4 [] (.op 5 [] (.op 6 [] (.op 7 [] (.op 8 [] (.op 9 [] (.op 10 [] (.op 11 [] (.op 12 [] (.op 13 [] (.op 14 [] (.op 15 [] (.nil)))))))))))))))))],
  [none, some (.op 0 [] (.op 1 [] (.op 2 [] (.op 3 [] (.op 4 [] (.op 5 [] (.op 6 [] (.op 7 [] (.op 8 [] (.op 9 [] (.op 10 [] (.op 11 [] (.op 12 [] (.op 13 [] (.op 14 [] (.op 15 [] (.nil)))))))))))))))))],
  [],
  [],
  [],
  [],
  [],
  [],
  [],
  [],
  [],
  [],
  [],
  [],
  [],
  [],
  [],
  [],
  [],
  [],
  [],
  [],
  [],
  [],
  [],
  [],
  [],
  [],
  [],
  [none, none, none, some (.op 0 [] (.op 1 [] (.op 2 [] (.op 3 [] (.op 4 [] (.op 5 [] (.op 6 [] (.op 7 [] (.op 8 [] (.op 9 [] (.op 10 [] (.op 11 [] (.op 12 [] (.op 13 [] (.op 14 [] (.op 15 [] (.op 16 [] (.op 17 [] (.nil)))))))))))))))))))],
  [],
  [],
  [],
  [],
  [],
  [],
  [],
  [],
  [],
  [],
  [],
  [],
  [],
  [],
  [],
  [],
  [],
  [],
  [],
  [],
  [],
  [],
  [],
  [],
  [],
  [],
  []]
def sch (f i : Nat) : Option Sch := ((schTab.getD f []).getD i none)
def sig : FuncId → Sig
  | 0 => ⟨[], false, []⟩
  | 1 => ⟨[], false, []⟩
  | 2 => ⟨[], false, []⟩
  | 3 => ⟨[.borrow, .borrow], false, [[.deep]]⟩
  | 4 => ⟨[.borrow], false, [[.deep]]⟩
  | 5 => ⟨[.borrow], false, [[.deep]]⟩
  | 6 => ⟨[.borrow], false, [[.deep]]⟩
  | 7 => ⟨[.borrow], false, [[.deep]]⟩
  | 8 => ⟨[.borrow], false, [[.deep]]⟩
  | 9 => ⟨[.borrow, .borrow], false, [[.deep, .deep, .deep, .deep, .deep], [.deep], [.deep]]⟩
  | 10 => ⟨[.borrow], false, [[.deep]]⟩
  | 11 => ⟨[.borrow, .borrow], false, [[.deep, .deep, .deep, .deep, .deep], [.deep], [.deep]]⟩
  | 12 => ⟨[.borrow, .borrow], false, [[.deep]]⟩
  | 13 => ⟨[.borrow, .borrow], false, [[.deep]]⟩
  | 14 => ⟨[.borrow], false, [[.deep]]⟩
  | 15 => ⟨[.borrow], false, [[.deep], [.deep, .deep, .deep, .deep, .deep]]⟩
  | 16 => ⟨[.borrow, .borrow], false, [[.deep]]⟩
  | 17 => ⟨[.borrow], false, [[.deep], [.deep]]⟩
  | 18 => ⟨[.borrow], false, [[.deep]]⟩
  | 19 => ⟨[.borrow], false, [[.deep]]⟩
  | 20 => ⟨[.borrow], false, [[.deep], [.deep, .deep, .deep, .deep, .deep]]⟩
  | 21 => ⟨[.borrow, .borrow], false, [[.deep], [.deep]]⟩
  | 22 => ⟨[.borrow, .borrow], false, [[.deep]]⟩
  | 23 => ⟨[.borrow], false, [[.deep]]⟩
  | 24 => ⟨[.borrow, .borrow, .borrow], false, [[.deep, .deep, .deep, .deep, .deep], [.deep]]⟩
  | 25 => ⟨[.borrow, .borrow], false, [[.deep]]⟩
  | 26 => ⟨[.borrow], false, [[.deep]]⟩
  | 27 => ⟨[.borrow], false, [[.deep]]⟩
  | 28 => ⟨[.borrow, .borrow], false, [[.deep]]⟩
  | 29 => ⟨[.borrow], false, [[.deep]]⟩
  | 30 => ⟨[.borrow], false, [[.deep], [.deep], [.deep]]⟩
  | 31 => ⟨[.borrow, .borrow, .borrow], false, [[.deep, .deep, .deep, .deep, .deep], [.deep]]⟩
  | 32 => ⟨[.borrow], false, [[.deep]]⟩
  | 33 => ⟨[.borrow], false, [[.deep], [.deep, .deep, .deep, .deep, .deep]]⟩
  | 34 => ⟨[.borrow, .borrow], false, [[.deep], [.deep]]⟩
  | 35 => ⟨[.borrow], false, [[.deep]]⟩
  | 36 => ⟨[.borrow], false, [[.deep]]⟩
  | 37 => ⟨[.borrow], false, [[.deep]]⟩
  | 38 => ⟨[.borrow], false, [[.deep]]⟩
  | 39 => ⟨[.borrow], false, [[.deep]]⟩
  | 40 => ⟨[.borrow], false, [[.deep]]⟩
  | 41 => ⟨[.borrow], false, [[.deep]]⟩
  | 42 => ⟨[.borrow], true, [[.deep, .top], [.deep], [.deep], [.deep]]⟩
  | 43 => ⟨[.borrow, .borrow, .borrow, .borrow], false, [[.deep, .deep, .deep, .deep, .deep], [.deep]]⟩
  | 44 => ⟨[.borrow, .borrow, .borrow, .borrow], false, [[.deep, .deep, .deep, .deep, .deep], [.deep]]⟩
  | 45 => ⟨[.borrow, .borrow, .borrow], false, [[.deep, .deep, .deep, .deep, .deep], [.deep]]⟩
  | 46 => ⟨[.borrow, .borrow], false, [[.deep]]⟩
  | 47 => ⟨[.borrow, .borrow, .borrow, .borrow], false, [[.deep, .deep, .deep, .deep, .deep], [.deep]]⟩
  | 48 => ⟨[.borrow, .borrow], false, [[.deep]]⟩
  | 49 => ⟨[.borrow, .borrow, .borrow], false, [[.deep]]⟩
  | 50 => ⟨[.borrow, .borrow, .borrow, .borrow], false, [[.deep]]⟩
  | 51 => ⟨[.borrow, .borrow], false, [[.deep]]⟩
  | 52 => ⟨[.borrow], true, [[.deep, .top], [.deep], [.deep], [.deep]]⟩
  | 53 => ⟨[.borrow, .borrow, .borrow, .borrow], false, [[.deep, .deep, .deep, .deep, .deep], [.deep]]⟩
  | 54 => ⟨[.borrow], true, [[.deep, .top], [.deep], [.deep, .deep, .deep, .deep, .deep], [.deep]]⟩
  | 55 => ⟨[.borrow], true, [[.deep, .top], [.deep]]⟩
  | 56 => ⟨[.borrow, .borrow, .borrow, .borrow], false, [[.deep]]⟩
  | 57 => ⟨[.borrow, .borrow, .borrow], false, [[.deep]]⟩
  | 58 => ⟨[.borrow, .borrow], false, [[.deep], [.deep], [.deep]]⟩
  | 59 => ⟨[.borrow, .borrow], false, [[.deep], [.deep], [.deep]]⟩
  | 60 => ⟨[.inout [.snap]], true, [[.deep, .deep, .deep, .deep, .deep]]⟩
  | 61 => ⟨[.borrow], true, [[.snap]]⟩
  | 62 => ⟨[.inout [.snap], .borrow], true, [[.deep]]⟩
  | 63 => ⟨[.inout [.snap], .borrow], true, [[.deep]]⟩
  | 64 => ⟨[.inout [.snap]], true, [[.deep, .deep, .deep, .deep, .deep]]⟩
  | 65 => ⟨[.borrow], false, [[.deep]]⟩
  | 66 => ⟨[.borrow, .borrow], false, [[.deep]]⟩
  | 67 => ⟨[.borrow, .borrow], false, [[.deep]]⟩
  | 68 => ⟨[.inout [.snap], .borrow], true, [[.deep]]⟩
  | 69 => ⟨[.borrow, .borrow], false, [[.deep]]⟩
  | 70 => ⟨[.inout [.snap]], true, [[.deep, .deep, .deep, .deep, .deep]]⟩
  | 71 => ⟨[.inout [.snap], .borrow], true, [[.deep]]⟩
  | 72 => ⟨[.borrow, .borrow, .borrow], false, [[.deep]]⟩
  | 73 => ⟨[.borrow], false, [[.deep]]⟩
  | 74 => ⟨[.borrow], false, [[.deep]]⟩
  | 75 => ⟨[.borrow], false, [[.deep]]⟩
  | 76 => ⟨[.borrow], false, [[.deep]]⟩
  | 77 => ⟨[.borrow], false, [[.deep]]⟩
  | 78 => ⟨[.inout [.snap]], true, [[.deep]]⟩
  | 79 => ⟨[.inout [.snap]], true, [[.deep, .deep, .deep, .deep, .deep]]⟩
  | 80 => ⟨[.borrow], false, [[.deep]]⟩
  | 81 => ⟨[.borrow, .borrow, .borrow], false, [[.deep, .deep, .deep, .deep, .deep], [.deep]]⟩
  | 82 => ⟨[.borrow, .borrow], false, [[.deep]]⟩
  | 83 => ⟨[.borrow, .borrow], false, [[.deep]]⟩
  | 84 => ⟨[.borrow, .borrow], false, [[.deep]]⟩
  | 85 => ⟨[.borrow], false, [[.deep]]⟩
  | 86 => ⟨[.borrow], false, [[.deep]]⟩
  | 87 => ⟨[.inout [.snap]], true, [[.deep]]⟩
  | 88 => ⟨[.borrow, .borrow, .borrow], false, [[.deep, .deep, .deep, .deep, .deep], [.deep]]⟩
  | 89 => ⟨[.inout [.snap]], true, [[.deep, .deep, .deep, .deep, .deep]]⟩
  | 90 => ⟨[.borrow], false, [[.deep]]⟩
  | 91 => ⟨[.borrow, .borrow], false, [[.deep]]⟩
  | 92 => ⟨[.borrow], false, [[.deep]]⟩
  | 93 => ⟨[.inout [.snap], .borrow], true, [[.deep]]⟩
  | 94 => ⟨[.borrow], false, [[.deep]]⟩
  | 95 => ⟨[.borrow], false, [[.deep]]⟩
  | 96 => ⟨[.borrow, .borrow], false, [[.deep]]⟩
  | 97 => ⟨[.borrow], false, [[.deep]]⟩
  | 98 => ⟨[.inout [.snap], .borrow], true, [[.deep, .top]]⟩
  | 99 => ⟨[.borrow, .borrow], false, [[.deep]]⟩
  | 100 => ⟨[.inout [.snap]], true, [[.deep]]⟩
  | 101 => ⟨[.borrow, .borrow, .borrow], false, [[.deep, .deep, .deep, .deep, .deep], [.deep]]⟩
  | 102 => ⟨[.borrow, .borrow], false, [[.deep]]⟩
  | 103 => ⟨[.borrow, .borrow, .borrow], false, [[.deep]]⟩
  | 104 => ⟨[.borrow], false, [[.deep]]⟩
  | 105 => ⟨[.borrow, .borrow, .borrow], false, [[.deep, .deep, .deep, .deep, .deep], [.deep]]⟩
  | 106 => ⟨[.borrow, .borrow], false, [[.deep]]⟩
  | 107 => ⟨[.borrow], false, [[.deep]]⟩
  | 108 => ⟨[.borrow, .borrow], false, [[.deep]]⟩
  | 109 => ⟨[.borrow, .borrow], false, [[.deep]]⟩
  | 110 => ⟨[.borrow, .borrow], false, [[.deep]]⟩
  | 111 => ⟨[.borrow], true, [[.deep, .top], [.deep], [.deep], [.deep]]⟩
  | 112 => ⟨[.inout [.snap]], true, [[.deep, .deep, .deep, .deep, .deep]]⟩
  | 113 => ⟨[.inout [.snap]], true, [[.deep]]⟩
  | 114 => ⟨[.inout [.snap]], true, [[.deep]]⟩
  | 115 => ⟨[.inout [.snap]], true, [[.deep]]⟩
  | 116 => ⟨[.inout [.snap]], true, [[.deep]]⟩
  | 117 => ⟨[.inout [.snap], .borrow], true, [[.deep]]⟩
  | 118 => ⟨[.inout [.snap]], true, [[.deep]]⟩
  | 119 => ⟨[.inout [.snap]], true, [[.deep]]⟩
  | 120 => ⟨[.borrow, .borrow], false, [[.deep]]⟩
  | 121 => ⟨[.borrow, .borrow], false, [[.deep]]⟩
  | 122 => ⟨[.inout [.snap], .borrow], true, [[.deep]]⟩
  | 123 => ⟨[.inout [.snap]], true, [[.deep]]⟩
  | 124 => ⟨[.inout [.snap]], true, [[.deep]]⟩
  | 125 => ⟨[.borrow, .borrow], false, [[.deep]]⟩
  | 126 => ⟨[.borrow], false, [[.deep]]⟩
  | 127 => ⟨[.borrow, .borrow], false, [[.deep]]⟩
  | 128 => ⟨[.borrow, .borrow], false, [[.deep]]⟩
  | 129 => ⟨[.inout [.snap], .borrow], true, [[.deep]]⟩
  | 130 => ⟨[.borrow], false, [[.deep]]⟩
  | 131 => ⟨[.borrow], false, [[.deep]]⟩
  | 132 => ⟨[], true, [[.deep, .top]]⟩
  | 133 => ⟨[.borrow, .borrow], true, [[.deep, .top], [.deep]]⟩
  | 134 => ⟨[.inout [.snap], .borrow], true, [[.deep]]⟩
  | 135 => ⟨[.borrow, .borrow, .borrow], false, [[.deep], [.deep]]⟩
  | 136 => ⟨[.borrow, .borrow], false, [[.deep]]⟩
  | 137 => ⟨[.borrow, .borrow], false, [[.deep]]⟩
  | 138 => ⟨[.borrow, .borrow], false, [[.deep]]⟩
  | 139 => ⟨[.borrow, .borrow], false, [[.deep]]⟩
  | 140 => ⟨[.inout [.snap], .borrow], true, [[.deep, .top]]⟩
  | 141 => ⟨[.inout [.snap]], true, [[.deep]]⟩
  | 142 => ⟨[.borrow, .borrow], false, [[.deep], [.deep], [.deep]]⟩
  | 143 => ⟨[.borrow, .borrow], false, [[.deep], [.deep], [.deep]]⟩
  | 144 => ⟨[.borrow], false, [[.deep, .deep]]⟩
  | 145 => ⟨[.borrow], false, [[.deep]]⟩
  | 146 => ⟨[.borrow, .borrow, .borrow], false, [[.deep]]⟩
  | 147 => ⟨[.borrow, .borrow, .borrow, .borrow], true, [[.deep, .top]]⟩
  | 148 => ⟨[.borrow], false, [[.deep]]⟩
  | 149 => ⟨[.borrow], true, [[.deep, .top]]⟩
  | 150 => ⟨[.borrow], false, [[.deep]]⟩
  | 151 => ⟨[.borrow, .borrow], false, [[.deep]]⟩
  | 152 => ⟨[.borrow, .borrow], false, [[.deep]]⟩
  | 153 => ⟨[.borrow], false, [[.deep]]⟩
  | 154 => ⟨[.borrow], false, [[.deep]]⟩
  | 155 => ⟨[.borrow], false, []⟩
  | 156 => ⟨[.borrow], false, [[.deep]]⟩
  | 157 => ⟨[.borrow], false, []⟩
  | 158 => ⟨[.borrow], false, [[.deep]]⟩
  | 159 => ⟨[.borrow], false, []⟩
  | 160 => ⟨[.borrow], false, [[.deep]]⟩
  | 161 => ⟨[.borrow], false, []⟩
  | 162 => ⟨[.borrow], false, [[.deep]]⟩
  | 163 => ⟨[.borrow], false, []⟩
  | 164 => ⟨[.borrow], false, [[.deep]]⟩
  | 165 => ⟨[.borrow], false, []⟩
  | 166 => ⟨[.borrow], false, [[.deep]]⟩
  | 167 => ⟨[.borrow], false, [[.deep]]⟩
  | 168 => ⟨[.borrow], false, []⟩
  | 169 => ⟨[.inout [.snap]], true, [[.deep]]⟩
  | 170 => ⟨[.borrow], false, [[.deep]]⟩
  | _ => ⟨[], false, []⟩
def ext : FuncId → Option (List TV → Option (TV × List TV)) := fun _ => none
noncomputable def C : Cfg := ⟨Go.Proofs.Try.prog, tt, sig, lr, lb, sch, ext⟩
theorem tys : (List.range 161).all (tyOkB C.P C.tt) = true := by kernel_rfl
theorem tyOk : TyOk C := tyOk_of (n := 161) (fun t ht => by
  have : ttTab.length ≤ 161 := by decide
  have h1 : C.tt t = no := by
    show ttTab.getD t no = no
    rw [List.getD_eq_getElem?_getD, List.getElem?_eq_none (Nat.le_trans this ht)]; rfl
  rw [h1]; rfl) tys
abbrev laws_FnExactGetOp : FuncId := 3
abbrev spec_GetOp : FuncId := 9
abbrev laws_toByteS : FuncId := 10
abbrev impl_GetOp : FuncId := 11
abbrev laws_eqOp : FuncId := 12
abbrev laws_eqByteS : FuncId := 13
abbrev impl_OpOk : FuncId := 18
abbrev spec_OpOk : FuncId := 19
abbrev spec_l1In : FuncId := 57
abbrev spec_GetText : FuncId := 58
abbrev spec_GetW : FuncId := 59
abbrev impl_reader__op : FuncId := 60
abbrev impl_within : FuncId := 72
abbrev impl_isWord : FuncId := 73
abbrev impl_NameOk : FuncId := 74
abbrev spec_NameOk : FuncId := 75
abbrev spec_l1Word : FuncId := 76
abbrev spec_l15Zero : FuncId := 77
abbrev impl_reader__one : FuncId := 113
abbrev impl_reader__text : FuncId := 114
abbrev impl_reader__word : FuncId := 115
abbrev impl_GetText : FuncId := 142
abbrev impl_GetW : FuncId := 143
abbrev t_S_uint8 : TypeId := 22
abbrev t_bool : TypeId := 4
abbrev t_int : TypeId := 3
abbrev t_uint8 : TypeId := 5
theorem prs : prOkB C 0 C.P.funcs.toList = true := by kernel_rfl
theorem extOk (f : FuncId) (p : List TV → Option (TV × List TV)) (vs : List TV) (r : TV) (fs : List TV) (h : C.ext f = some p) (_ : p vs = some (r, fs)) : CallOk C f vs r fs := by cases h
theorem prOk : PrOk C := prOk_of tyOk prs (by kernel_rfl) extOk
end Go.T.R
