/- The seat's configuration (printed by gencfg.py). -/
import Derived.Test.YtghjiklgaaeiiaaProg
import Derived.Test.YtghjiklgaaeiiaaT5
import Derived.Test.YtghjiklgaaeiiaaT1
import Derived.KernelRfl
namespace Go.T.R
open Go.T
set_option maxRecDepth 100000
def no : TInfo := ⟨.other, 0, 0, false, [], []⟩
def ttTab : List TInfo := [
  no,
  no,
  ⟨.int .i64, 1, 8, true, [.sc (.int .i64 0)], []⟩,
  ⟨.int .i64, 1, 8, true, [.sc (.int .i64 0)], []⟩,
  ⟨.bool, 1, 1, true, [.sc (.bool false)], []⟩,
  ⟨.int .u8, 1, 1, true, [.sc (.int .u8 0)], []⟩,
  no,
  no,
  no,
  ⟨.str, 1, 16, true, [.sc (.string ⟨#[]⟩)], []⟩,
  no,
  no,
  no,
  no,
  no,
  no,
  no,
  no,
  no,
  no,
  no,
  ⟨.int .i32, 1, 4, true, [.sc (.int .i32 0)], []⟩,
  ⟨.slice 65, 1, 24, false, [.sub 3 []], []⟩,
  no,
  no,
  no,
  no,
  ⟨.slice 72, 1, 24, false, [.sub 3 []], []⟩,
  no,
  no,
  no,
  no,
  no,
  no,
  no,
  no,
  ⟨.struct [(0, 3), (1, 9), (2, 9), (3, 3), (4, 3)], 5, 56, true, [.sc (.int .i64 0), .sc (.string ⟨#[]⟩), .sc (.string ⟨#[]⟩), .sc (.int .i64 0), .sc (.int .i64 0)], [1, 3, 3, 1, 1]⟩,
  ⟨.struct [(0, 3), (1, 9), (2, 9), (3, 3), (4, 3)], 5, 56, true, [.sc (.int .i64 0), .sc (.string ⟨#[]⟩), .sc (.string ⟨#[]⟩), .sc (.int .i64 0), .sc (.int .i64 0)], [1, 3, 3, 1, 1]⟩,
  no,
  no,
  ⟨.struct [(0, 3), (1, 9), (2, 9), (3, 3), (4, 3)], 5, 56, true, [.sc (.int .i64 0), .sc (.string ⟨#[]⟩), .sc (.string ⟨#[]⟩), .sc (.int .i64 0), .sc (.int .i64 0)], [1, 3, 3, 1, 1]⟩,
  no,
  no,
  ⟨.slice 78, 1, 24, false, [.sub 3 []], []⟩,
  no,
  no,
  ⟨.slice 79, 1, 24, false, [.sub 3 []], []⟩,
  no,
  no,
  no,
  no,
  no,
  no,
  no,
  no,
  ⟨.slice 5, 1, 24, false, [.sub 1 []], []⟩,
  no,
  no,
  no,
  no,
  no,
  no,
  no,
  no,
  ⟨.struct [(0, 3), (1, 4), (2, 3)], 3, 24, true, [.sc (.int .i64 0), .sc (.bool false), .sc (.int .i64 0)], [1, 2, 1]⟩,
  ⟨.struct [(0, 3), (1, 4), (2, 3)], 3, 24, true, [.sc (.int .i64 0), .sc (.bool false), .sc (.int .i64 0)], [1, 2, 1]⟩,
  no,
  no,
  no,
  no,
  no,
  no,
  ⟨.struct [(0, 3), (1, 4), (2, 3)], 3, 24, true, [.sc (.int .i64 0), .sc (.bool false), .sc (.int .i64 0)], [1, 2, 1]⟩,
  no,
  no,
  no,
  ⟨.slice 3, 1, 24, false, [.sub 1 []], []⟩,
  ⟨.struct [(0, 9), (1, 4), (2, 76)], 3, 48, false, [.sc (.string ⟨#[]⟩), .sc (.bool false), .sub 1 []], []⟩,
  ⟨.struct [(0, 9), (1, 4), (2, 76)], 3, 48, false, [.sc (.string ⟨#[]⟩), .sc (.bool false), .sub 1 []], []⟩,
  ⟨.struct [(0, 9), (1, 4), (2, 76)], 3, 48, false, [.sc (.string ⟨#[]⟩), .sc (.bool false), .sub 1 []], []⟩,
  no,
  no,
  no,
  no,
  no,
  no,
  no,
  no,
  no,
  no,
  ⟨.ptr 101, 1, 8, true, [], []⟩,
  no,
  no,
  no,
  no,
  no,
  no,
  no,
  ⟨.int .u64, 1, 8, true, [.sc (.int .u64 0)], []⟩,
  ⟨.slice 55, 1, 24, false, [.sub 1 []], []⟩,
  ⟨.struct [(0, 55), (1, 3), (2, 3)], 3, 40, false, [.sub 1 [], .sc (.int .i64 0), .sc (.int .i64 0)], []⟩,
  ⟨.struct [(0, 55), (1, 3), (2, 3)], 3, 40, false, [.sub 1 [], .sc (.int .i64 0), .sc (.int .i64 0)], []⟩,
  no,
  no,
  no,
  no,
  no,
  no,
  no,
  no,
  ⟨.int .u32, 1, 4, true, [.sc (.int .u32 0)], []⟩,
  no,
  no,
  no,
  ⟨.ptr 5, 1, 8, true, [], []⟩]
def tt (t : TypeId) : TInfo := ttTab.getD t no
def lrTab : List (List (List Nat)) := [
  [],
  [],
  [[]],
  [[], [1], [1, 2], [1, 2, 11], [0], [1, 2, 3], [1, 2, 3], [1, 2, 3, 4], [1, 2, 3, 4], [1, 2, 3, 4, 19], [0], [1, 2, 3, 22], [0], [1, 2, 3, 5], [2, 3, 27], [0], [2, 3, 4], [3, 4], [3, 4, 32], [0], [35], [0], [0]],
  [[0, 1, 2], [0, 1, 2, 7], [0, 1, 2, 7], [0, 1, 2, 17], [6], [0, 1, 2, 8, 9], [0, 1, 2, 8, 9, 10], [0, 8, 9, 10, 11, 12], [0, 10, 42], [6], [47], [6], [6]],
  [[0], [0, 3], [0, 3], [0, 11], [2], [0, 4], [0, 4, 5], [0, 4, 5, 6], [0, 5, 21], [2], [26], [2], [2]],
  [[0], [0, 3], [0, 3], [0, 11], [2], [0, 4], [0, 4, 5], [0, 4, 5, 6], [0, 5, 21], [2], [26], [2], [2]],
  [[1], [1, 3], [1, 3], [1, 10], [2], [1, 4], [4, 5], [19], [2], [2]],
  [[0, 1], [0, 1, 11], [4], [0, 1, 5], [0, 1, 5], [0, 1, 16], [4], [0, 1, 6], [0, 1, 6, 7], [0, 6, 7, 8], [0, 7, 28], [4], [33], [4], [4]],
  [[0, 1], [0, 1, 5], [0, 1, 5], [0, 1, 17], [4], [0, 1, 6], [0, 1, 6, 7], [0, 1, 6, 7, 8], [0, 1, 6, 7, 8, 30], [4], [0, 1, 6, 7, 8, 35], [4], [0, 1, 6, 7, 8, 9], [0, 1, 6, 8, 9], [0, 1, 6, 8, 46], [4], [0, 1, 6, 8, 10], [0, 1, 6, 8, 10], [0, 1, 6, 8, 10, 11], [0, 1, 6, 8, 10, 11], [0, 1, 6, 8, 10, 11, 54], [4], [0, 1, 6, 8, 10, 57], [4], [6, 8, 10, 12], [8, 10, 65], [4], [8, 10, 11], [10, 11], [10, 11, 70], [4], [73], [4], [4]],
  [[0, 1], [0, 1, 5], [0, 1, 5], [0, 1, 23], [4], [0, 1, 6, 7, 8], [0, 1, 6, 7, 8, 9], [0, 1, 6, 7, 8, 9, 10, 11, 12], [0, 1, 6, 7, 8, 9, 10, 11, 12, 54], [4], [0, 1, 6, 7, 8, 9, 10, 11, 12, 59], [4], [0, 1, 6, 7, 8, 9, 10, 11, 12, 13], [0, 1, 6, 7, 8, 10, 11, 12, 13], [0, 1, 6, 7, 8, 10, 80], [4], [0, 1, 6, 7, 8, 10, 14], [0, 1, 6, 7, 8, 10, 14], [0, 1, 6, 7, 8, 10, 14, 15], [0, 1, 6, 7, 8, 10, 14, 15], [0, 1, 6, 7, 8, 10, 14, 15, 88], [4], [0, 1, 6, 7, 8, 10, 14, 91], [4], [6, 7, 8, 10, 14, 16, 17, 18], [10, 14, 113], [4], [10, 14, 15], [14, 15], [14, 15, 118], [4], [121], [4], [4]],
  [[0, 1], [0, 1, 5], [0, 1, 5], [0, 1, 5, 14], [4], [0, 1, 5], [0, 1, 19], [4], [0, 1, 6], [0, 1, 6, 7], [0, 1, 6, 7, 8], [0, 1, 6, 7, 8, 9], [0, 1, 7, 8, 34], [4], [1, 8, 39], [4], [44], [4], [4]],
  [[0, 3], [0, 3, 15], [4], [0, 3, 5], [0, 3, 5], [0, 3, 20], [4], [0, 3, 6], [0, 3, 6, 7], [0, 3, 6, 7, 8], [0, 3, 6, 7, 8, 35], [4], [0, 3, 6, 7, 8, 40], [4], [0, 3, 6, 7, 8, 9], [0, 3, 6, 8, 9], [0, 3, 6, 8, 51], [4], [0, 3, 6, 8, 10], [0, 3, 6, 8, 10], [0, 3, 6, 8, 10, 11], [0, 3, 6, 8, 10, 11], [0, 3, 6, 8, 10, 11, 59], [4], [0, 3, 6, 8, 10, 62], [4], [6, 8, 10, 12], [8, 10, 71], [4], [8, 10, 11], [10, 11], [10, 11, 76], [4], [79], [4], [4]],
  [[0], [0, 20], [2], [3, 4], [3, 4, 5, 6, 7], [3, 4, 5, 6, 7, 8, 9, 10], [3, 4, 5, 6, 7, 10, 57], [2], [3, 4, 5, 6, 11], [3, 4, 5, 6, 11, 12, 13], [3, 4, 5, 6, 11, 12, 13, 15], [3, 4, 5, 6, 11, 12, 13, 15, 17], [3, 4, 5, 6, 11, 12, 13, 15, 17, 18], [3, 4, 5, 6, 11, 12, 13, 15, 17, 18, 110], [3, 4, 5, 6, 11, 12, 13, 15, 17, 18], [3, 4, 5, 6, 11, 12, 13, 15, 17, 18, 150], [2], [2]],
  [[0], [0, 15], [2], [0, 3], [0, 3, 4, 5], [0, 3, 4, 5, 6, 7, 8], [0, 3, 4, 5, 6, 7, 8, 9, 10], [0, 3, 4, 5, 9, 10, 11, 12], [3, 4, 5, 9, 10, 11, 12, 13], [2]],
  [[], [0]],
  [[], [0]],
  [[0, 1], [0, 1, 10], [4], [0, 1, 5], [0, 1, 5, 14], [0, 1, 5], [0, 1, 5, 26], [4], [4]],
  [[0, 1], [0, 1, 5], [0, 1, 5, 9], [0, 1, 5], [0, 1, 5], [0, 1, 5], [0, 1, 5], [0, 1, 5], [0, 1, 5], [0, 1, 5], [0, 4]],
  [[0, 1], [0, 1, 5], [0, 1, 5, 9], [0, 1, 5], [0, 1, 5, 18], [4], [0, 1, 5], [0, 1, 5, 29], [4], [0, 1, 5], [0, 1, 5, 38], [4], [0, 1, 5], [4]],
  [[0, 1], [1], [1, 10], [4], [4]],
  [[0, 1, 2], [0, 1, 30], [6, 7], [6, 7]],
  [[0], [0, 3], [0, 3, 4], [0, 3, 4, 11], [0, 3, 4], [0, 3, 4], [2]],
  [[0, 1, 2], [0, 1, 30], [6, 7], [6, 7]],
  [[0], [0, 3], [0, 3, 4], [0, 3, 4, 8], [0, 3, 4], [0, 3, 4, 15], [0, 3, 4], [2]],
  [[0], [0, 3], [3, 6, 7, 8], [3, 6, 7, 8, 9], [3, 5, 6, 7, 8], [3, 6, 7, 8, 13], [3, 6, 7, 8], [3, 6, 7, 8], [2]],
  [[0], [0, 3], [0, 3, 7], [0, 3], [0, 3, 41], [2], [2]],
  [[0], [0, 5, 6, 7], [0, 5, 6, 7, 8], [0, 4, 5, 6, 7], [0, 5, 6, 7, 30], [2], [0, 5, 6, 7], [2]],
  [[1, 2], [1, 2], [1, 2, 11], [4], [1], [1, 18], [4], [4]],
  [[1], [1, 3], [1, 3, 10], [1, 3], [1, 3, 4], [1, 3, 4, 19], [1, 3, 4], [2]],
  [[1, 2], [1, 2, 3], [1, 2, 3], [1, 2, 3], [1, 2, 3], [1, 2, 3], [2, 3], [2]],
  [[1], [1, 21], [2], [1, 3], [1, 3, 27], [1, 3], [1, 3, 4], [1, 3, 4, 36], [1, 3, 4], [1, 3, 4, 5], [1, 3, 4, 5, 44], [1, 3, 4, 5, 44, 45], [3, 4, 5], [1, 3, 4, 5, 44, 55], [1, 3, 4, 5, 44, 55], [3, 4, 5], [3, 4, 5, 66], [3, 4, 5], [2]],
  [[0, 1], [0, 1], [0, 1, 11], [4], [0, 1, 5], [0, 1, 5, 15], [0, 1, 5], [0, 1, 5], [0, 1, 5, 25], [4], [4]],
  [[0, 1], [0, 1, 5], [0, 1, 5, 9], [0, 1, 5], [0, 1, 5, 18], [4], [4]],
  [[0], [0, 3], [0, 3, 4], [0, 3, 4, 11], [0, 3, 4], [0, 3, 4], [2]],
  [[0, 3], [4]],
  [[0, 1], [0, 1, 10], [4], [0, 1, 5], [0, 1, 5, 14], [0, 1, 5], [0, 1, 5, 26], [4], [4]],
  [[0, 1], [0, 1, 5], [0, 1, 5, 23], [5], [4]],
  [[0, 1], [0, 1, 5], [0, 1, 5, 23], [4], [5], [4]],
  [[0, 1], [0, 1, 7], [0, 1, 7, 8], [0, 1, 7, 8, 22], [0, 1, 7, 8], [0, 1, 7, 8, 30], [1, 7, 8], [7, 8], [4, 5, 6], [4, 5, 6]],
  [[0, 1], [0, 1, 7], [0, 1, 7, 8], [1, 7, 8, 24], [4, 5, 6], [7, 8], [4, 5, 6]],
  [[0, 1], [0, 1, 10], [4], [0, 1, 5], [0, 1, 5, 14], [0, 1, 5], [0, 1, 5, 54], [4], [4]],
  [[0, 1], [4]],
  [[0, 3], [3, 5], [3, 5, 11], [4], [4]],
  [[0], [0, 3], [0, 3, 4], [0, 3, 4, 11], [0, 3, 4], [0, 3, 4], [2]],
  [[0, 3], [0, 3, 8], [4], [3, 5], [4]],
  [[0, 1], [0, 1, 10], [4], [0, 1, 5], [0, 1, 5, 14], [0, 1, 5], [0, 1, 5, 25], [4], [4]],
  [[0, 1], [0, 1, 5], [0, 1, 5, 9], [0, 1, 5], [0, 1, 5], [0, 1, 5], [0, 4]],
  [[0, 1], [0, 1, 5], [0, 1, 5, 9], [0, 1, 5], [0, 1, 5, 18], [4], [0, 1, 5], [4]],
  [[0], [2]],
  [[0], [4], [4, 5], [4, 5, 12], [4, 5, 6], [4, 5, 6, 16], [4, 5, 6], [4, 5, 6], [2, 3]],
  [[0, 1], [0, 1, 10], [4], [0, 1, 5], [0, 1, 5, 14], [0, 1, 5], [0, 1, 5, 25], [4], [4]],
  [[0], [3], [2]],
  [[0], [4], [2, 3]],
  [[0], [5], [5, 6], [5, 6, 7], [5, 6, 7, 23], [2, 3, 4], [2, 3, 4]],
  [[0], [3], [2]],
  [[2, 3], [2, 3, 9], [4], [2, 3, 14], [4], [19], [4], [4]],
  [[0, 1, 2], [6]],
  [[1, 2], [1, 2, 3], [1, 2, 3], [1, 2, 3], [2, 3], [2]],
  [[0, 1, 2], [6]],
  [[0], [2]],
  [[0], [2]],
  [[0], [0, 3], [0, 3, 7], [0, 3], [0, 3, 23], [2], [2]],
  [[1], [1, 4], [1, 4, 5], [2], [1, 4, 15], [1, 4, 15], [2], [1, 26], [2], [2]],
  [[0], [0, 3], [0, 3, 7], [0, 3], [0, 3, 23], [2], [2]],
  [[1, 2], [1, 2], [1, 2, 11], [4], [1], [1, 17], [4], [4]],
  [[1, 2], [1, 2, 3], [1, 2, 3], [1, 2, 3], [2, 3], [2]],
  [[0, 1], [0, 1, 7, 8], [0, 1, 7, 8, 9], [0, 1, 5, 7, 8], [0, 1, 5, 7, 8, 16], [4], [0, 1, 7, 8], [4]],
  [[1, 2], [3]],
  [[2, 3], [2, 3, 9], [4], [2, 3, 14], [4], [20], [4], [4]],
  [[0], [2]],
  [[0], [2]],
  [[0], [5, 6, 7], [5, 6, 7, 8], [3, 4, 5, 6, 7], [3, 5, 6, 7, 14], [2], [5, 6, 7], [2]],
  [[0, 1], [0, 1, 10], [4], [0, 1, 5], [0, 1, 5, 14], [0, 1, 5], [0, 1, 5, 25], [4], [4]],
  [[0, 1, 2], [0, 1, 2, 14], [6], [1, 2, 15, 16, 17], [1, 2, 15, 16, 17, 18], [1, 2, 7, 8, 15, 16, 17], [1, 2, 8, 9, 15, 16, 17], [1, 2, 15, 16, 17, 30], [6], [1, 2, 15, 16, 17], [6]],
  [[2, 3], [4]],
  [[0, 1], [1, 5], [4]],
  [[0, 1], [0, 1, 7], [4], [4]],
  [[0], [0, 3], [3, 7, 8, 9], [3, 7, 8, 9, 10], [3, 5, 7, 8, 9], [3, 7, 8, 9], [3, 7, 8, 9], [2]],
  [[0, 1], [0, 1, 7], [4], [4]],
  [[0, 1], [4]],
  [[0], [0, 3], [0, 3, 4], [0, 3, 4, 15], [0, 3, 4], [0, 3, 4], [2]],
  [[0], [0, 3], [0, 3, 7], [0, 3, 7, 8], [0, 3], [0, 3, 7, 12], [0, 3], [0, 3, 7, 24], [0, 3], [0, 3, 36], [0, 3], [0, 2]],
  [[0, 1], [0, 4]],
  [[0, 1], [0, 4]],
  [[0, 1], [0, 1, 9], [0, 4], [0, 1, 11], [0, 4], [0, 1, 5], [0, 1, 5, 6], [0, 1, 5, 6, 7], [0, 4]],
  [[0, 1], [1], [1, 10], [4], [4]],
  [[0], [0, 3], [0, 3, 4], [0, 3, 4, 11], [0, 3, 4], [0, 3, 4], [2]],
  [[0, 1], [0, 1, 10], [4], [0, 1, 5], [0, 1, 5, 14], [0, 1, 5], [0, 1, 5, 25], [4], [4]],
  [[0, 1], [0, 1, 10], [4], [0, 1, 12, 13], [0, 1, 12, 13, 14], [0, 1, 5, 12, 13], [0, 1, 12, 13, 24], [4], [0, 1, 12, 13], [4]],
  [[0], [0, 3], [0, 3, 4], [0, 3, 4, 9], [0, 3, 4], [0, 3, 4, 13], [0, 3, 4], [0, 3, 4], [0, 2]],
  [[0], [0], [0, 3], [0, 3, 34], [0, 3], [0, 3], [0, 2]],
  [],
  [],
  [],
  [],
  [],
  [],
  [],
  [],
  [],
  [],
  [],
  [],
  [],
  [],
  [],
  []]
def lr (f i : Nat) : List Nat := (lrTab.getD f []).getD i []
def lbTab : List (List (List Nat)) := [
  [],
  [],
  [],
  [],
  [],
  [],
  [],
  [],
  [],
  [],
  [],
  [],
  [],
  [[3, 4, 5, 6, 11, 12, 13, 15, 17, 18]],
  [],
  [],
  [],
  [[0, 1, 5]],
  [[0, 1, 5]],
  [[0, 1, 5]],
  [],
  [],
  [[0, 3, 4]],
  [],
  [[0, 3, 4]],
  [[3, 6, 7, 8]],
  [[0, 3]],
  [[0, 5, 6, 7]],
  [],
  [],
  [],
  [],
  [[0, 1, 5]],
  [[0, 1, 5]],
  [[0, 3, 4]],
  [],
  [[0, 1, 5]],
  [],
  [],
  [[0, 1, 7, 8]],
  [],
  [[0, 1, 5]],
  [],
  [],
  [[0, 3, 4]],
  [],
  [[0, 1, 5]],
  [[0, 1, 5]],
  [[0, 1, 5]],
  [],
  [[4, 5, 6]],
  [[0, 1, 5]],
  [],
  [],
  [],
  [],
  [],
  [],
  [],
  [],
  [],
  [],
  [[0, 3]],
  [],
  [[0, 3]],
  [],
  [],
  [[0, 1, 7, 8]],
  [],
  [],
  [],
  [],
  [[5, 6, 7]],
  [[0, 1, 5]],
  [[1, 2, 15, 16, 17]],
  [],
  [],
  [],
  [[3, 7, 8, 9]],
  [],
  [],
  [[0, 3, 4]],
  [],
  [],
  [],
  [],
  [],
  [[0, 3, 4]],
  [[0, 1, 5]],
  [[0, 1, 12, 13]],
  [[0, 3, 4]],
  [],
  [],
  [],
  [],
  [],
  [],
  [],
  [],
  [],
  [],
  [],
  [],
  [],
  [],
  [],
  [],
  []]
def lb (f i : Nat) : List Nat := (lbTab.getD f []).getD i []
def schTab : List (List (Option Sch)) := [
  [],
  [],
  [],
  [],
  [],
  [],
  [],
  [],
  [],
  [],
  [],
  [],
  [none, none, none, none, none, none, none, some (.op 0 [] (.op 2 [] (.op 1 [2] (.op 3 [] (.op 4 [] (.op 5 [] (.nil))))))), none, none, none, none, none, none, none, none, none, none, none, none, none, none, none, none, none, none, some (.op 0 [] (.op 2 [] (.op 1 [2] (.op 3 [] (.op 4 [] (.op 5 [] (.nil)))))))],
  [none, none, none, none, none, none, none, none, none, none, none, none, none, none, none, some (.op 0 [] (.op 1 [] (.op 2 [] (.op 3 [] (.op 4 [] (.op 5 [] (.op 6 [] (.op 7 [] (.op 8 [] (.op 9 [] (.op 10 [] (.op 11 [] (.op 12 [] (.op 13 [] (.op 14 [] (.op 15 [] (.op 16 [] (.op 17 [] (.op 18 [] (.op 19 [] (.op 20 [] (.op 21 [] (.op 22 [] (.op 23 [] (.op 24 [] (.op 25 [] (.op 26 [] (.op 27 [] (.op 28 [] (.op 29 [] (.op 30 [] (.op 31 [] (.op 32 [] (.op 33 [] (.op 34 [] (.op 35 [] (.op 36 [] (.op 37 [] (.nil)))))))))))))))))))))))))))))))))))))))],
  [],
  [],
  [],
  [none, none, none, none, none, none, some (.op 0 [] (.op 1 [] (.op 2 [] (.op 3 [] (.op 4 [] (.op 5 [] (.op 6 [] (.op 7 [] (.op 8 [] (.op 9 [] (.nil)))))))))))],
  [],
  [],
  [],
  [],
  [],
  [],
  [],
  [],
  [],
  [],
  [],
  [],
  [],
  [],
  [],
  [],
  [],
  [],
  [none, none, none, none, none, none, some (.op 0 [] (.op 1 [] (.op 2 [] (.op 3 [] (.op 4 [] (.op 5 [] (.op 6 [] (.op 7 [] (.op 8 [] (.op 9 [] (.nil)))))))))))],
  [],
  [],
  [],
  [],
  [none, none, none, none, none, none, some (.op 0 [] (.op 1 [] (.op 2 [] (.op 3 [] (.op 4 [] (.op 5 [] (.op 6 [] (.op 7 [] (.op 8 [] (.op 9 [] (.op 10 [] (.op 11 [] (.op 12 [] (.op 13 [] (.op 14 [] (.op 15 [] (.op 16 [] (.op 17 [] (.op 18 [] (.op 19 [] (.op 20 [] (.op 21 [] (.op 22 [] (.op 23 [] (.op 24 [] (.op 25 [] (.op 26 [] (.op 27 [] (.op 28 [] (.op 29 [] (.op 30 [] (.op 31 [] (.op 32 [] (.op 33 [] (.op 34 [] (.op 35 [] (.op 36 [] (.op 37 [] (.nil)))))))))))))))))))))))))))))))))))))))],
  [],
  [none, none, none, none, some (.op 0 [] (.op 1 [] (.op 2 [] (.op 3 [] (.op 6 [] (.op 7 [] (.op 9 [] (.op 10 [] (.op 12 [] (.op 13 [] (.op 15 [] (.op 16 [] (.op 4 [7, 10, 13, 16] (.op 5 [7, 10, 13, 16] (.op 8 [10, 13, 16] (.op 11 [13, 16] (.op 14 [16] (.op 17 [] (.op 18 [] (.nil))))))))))))))))))))],
  [],
  [none, none, none, some (.op 0 [] (.op 1 [] (.op 2 [] (.op 3 [] (.op 7 [] (.op 8 [] (.op 10 [] (.op 11 [] (.op 4 [8, 11] (.op 5 [8, 11] (.op 6 [8, 11] (.op 9 [11] (.op 12 [] (.op 13 [] (.nil))))))))))))))), some (.op 0 [] (.op 1 [] (.op 2 [] (.op 4 [] (.op 5 [] (.op 3 [5] (.op 6 [] (.op 7 [] (.nil)))))))))],
  [none, none, none, none, none, none, some (.op 0 [] (.op 1 [] (.op 2 [] (.op 3 [] (.op 4 [] (.op 5 [] (.op 6 [] (.op 7 [] (.op 8 [] (.nil))))))))))],
  [],
  [],
  [],
  [],
  [none, none, none, none, none, none, some (.op 0 [] (.op 1 [] (.op 2 [] (.op 3 [] (.op 4 [] (.op 5 [] (.op 6 [] (.op 7 [] (.op 8 [] (.nil))))))))))],
  [],
  [],
  [none, none, none, none, none, some (.op 0 [] (.op 1 [] (.op 2 [] (.op 3 [] (.op 4 [] (.op 5 [] (.op 6 [] (.op 7 [] (.op 8 [] (.op 9 [] (.nil)))))))))))],
  [],
  [],
  [],
  [],
  [],
  [],
  [],
  [],
  [],
  [],
  [],
  [],
  [],
  [],
  [],
  [],
  [],
  [],
  [none, none, none, none, none, none, some (.op 0 [] (.op 1 [] (.op 2 [] (.op 3 [] (.op 4 [] (.op 5 [] (.op 6 [] (.op 7 [] (.op 8 [] (.nil))))))))))],
  [],
  [],
  [],
  [],
  [],
  [],
  [],
  [],
  [],
  [],
  [],
  [],
  [],
  [],
  [none, none, none, none, none, none, some (.op 0 [] (.op 1 [] (.op 2 [] (.op 3 [] (.op 4 [] (.op 5 [] (.op 6 [] (.op 7 [] (.op 8 [] (.nil))))))))))],
  [none, none, none, none, none, none, some (.op 0 [] (.op 1 [] (.op 2 [] (.op 3 [] (.op 4 [] (.op 5 [] (.op 6 [] (.op 7 [] (.op 8 [] (.nil))))))))))],
  [],
  [none, none, some (.op 0 [] (.op 1 [] (.op 2 [] (.op 3 [] (.op 4 [] (.op 5 [] (.op 6 [] (.op 7 [] (.op 8 [] (.op 9 [] (.op 10 [] (.op 11 [] (.op 12 [] (.nil)))))))))))))), some (.op 0 [] (.op 1 [] (.op 2 [] (.op 3 [] (.op 4 [] (.op 5 [] (.op 6 [] (.op 7 [] (.op 8 [] (.op 9 [] (.nil))))))))))), some (.op 0 [] (.op 1 [] (.op 2 [] (.op 3 [] (.op 4 [] (.op 5 [] (.op 6 [] (.op 7 [] (.op 8 [] (.op 9 [] (.op 10 [] (.op 11 [] (.op 12 [] (.op 13 [] (.op 14 [] (.nil))))))))))))))))],
  [],
  [],
  [],
  [],
  [],
  [],
  [],
  [],
  [],
  [],
  [],
  [],
  [],
  [],
  [],
  []]
def sch (f i : Nat) : Option Sch := ((schTab.getD f []).getD i none)
def sig : FuncId → Sig
  | 0 => ⟨[], false, []⟩
  | 1 => ⟨[], false, []⟩
  | 2 => ⟨[], false, []⟩
  | 3 => ⟨[], false, [[.deep]]⟩
  | 4 => ⟨[.borrow, .borrow, .borrow], false, [[.deep]]⟩
  | 5 => ⟨[.borrow], false, [[.deep]]⟩
  | 6 => ⟨[.borrow], false, [[.deep]]⟩
  | 7 => ⟨[.borrow], false, [[.deep]]⟩
  | 8 => ⟨[.borrow, .borrow], false, [[.deep]]⟩
  | 9 => ⟨[.borrow, .borrow], false, [[.deep]]⟩
  | 10 => ⟨[.borrow, .borrow], false, [[.deep]]⟩
  | 11 => ⟨[.borrow, .borrow], false, [[.deep]]⟩
  | 12 => ⟨[.borrow, .borrow], false, [[.deep]]⟩
  | 13 => ⟨[.borrow], false, [[.deep]]⟩
  | 14 => ⟨[.borrow], false, [[.deep]]⟩
  | 15 => ⟨[], false, [[.deep]]⟩
  | 16 => ⟨[], false, [[.deep]]⟩
  | 17 => ⟨[.borrow, .borrow], false, [[.deep]]⟩
  | 18 => ⟨[.inout [], .borrow], false, [[.deep]]⟩
  | 19 => ⟨[.borrow, .borrow], false, [[.deep]]⟩
  | 20 => ⟨[.borrow, .borrow], false, [[.deep]]⟩
  | 21 => ⟨[.borrow, .borrow, .borrow], false, [[.deep], [.deep]]⟩
  | 22 => ⟨[.borrow], false, [[.deep]]⟩
  | 23 => ⟨[.borrow, .borrow, .borrow], false, [[.deep], [.deep]]⟩
  | 24 => ⟨[.borrow], false, [[.deep]]⟩
  | 25 => ⟨[.borrow], false, [[.deep]]⟩
  | 26 => ⟨[.borrow], false, [[.deep]]⟩
  | 27 => ⟨[.borrow], false, [[.deep]]⟩
  | 28 => ⟨[.borrow, .borrow], false, [[.deep]]⟩
  | 29 => ⟨[.borrow], false, [[.deep]]⟩
  | 30 => ⟨[.borrow], false, [[.deep, .deep, .deep, .deep, .deep]]⟩
  | 31 => ⟨[.borrow], false, [[.deep]]⟩
  | 32 => ⟨[.borrow, .borrow], false, [[.deep]]⟩
  | 33 => ⟨[.borrow, .borrow], false, [[.deep]]⟩
  | 34 => ⟨[.borrow], false, [[.deep]]⟩
  | 35 => ⟨[.borrow, .borrow], false, [[.deep]]⟩
  | 36 => ⟨[.borrow, .borrow], false, [[.deep]]⟩
  | 37 => ⟨[.borrow, .borrow], false, [[.deep]]⟩
  | 38 => ⟨[.borrow, .borrow], false, [[.deep]]⟩
  | 39 => ⟨[.borrow, .borrow], false, [[.deep], [.deep], [.deep]]⟩
  | 40 => ⟨[.borrow, .borrow], false, [[.deep], [.deep], [.deep]]⟩
  | 41 => ⟨[.borrow, .borrow], false, [[.deep]]⟩
  | 42 => ⟨[.borrow, .borrow], false, [[.deep]]⟩
  | 43 => ⟨[.borrow, .borrow], false, [[.deep]]⟩
  | 44 => ⟨[.borrow], false, [[.deep]]⟩
  | 45 => ⟨[.borrow, .borrow], false, [[.deep]]⟩
  | 46 => ⟨[.borrow, .borrow], false, [[.deep]]⟩
  | 47 => ⟨[.inout [], .borrow], false, [[.deep]]⟩
  | 48 => ⟨[.borrow, .borrow], false, [[.deep]]⟩
  | 49 => ⟨[.borrow], false, [[.deep]]⟩
  | 50 => ⟨[.borrow], false, [[.deep], [.deep]]⟩
  | 51 => ⟨[.borrow, .borrow], false, [[.deep]]⟩
  | 52 => ⟨[.borrow], false, [[.deep]]⟩
  | 53 => ⟨[.borrow], false, [[.deep], [.deep]]⟩
  | 54 => ⟨[.borrow], false, [[.deep], [.deep], [.deep]]⟩
  | 55 => ⟨[.borrow], false, [[.deep]]⟩
  | 56 => ⟨[.borrow, .borrow], false, [[.deep]]⟩
  | 57 => ⟨[.borrow, .borrow, .borrow], false, [[.deep]]⟩
  | 58 => ⟨[.borrow], false, [[.deep, .deep, .deep]]⟩
  | 59 => ⟨[.borrow, .borrow, .borrow], false, [[.deep]]⟩
  | 60 => ⟨[.borrow], false, [[.deep]]⟩
  | 61 => ⟨[.borrow], false, [[.deep]]⟩
  | 62 => ⟨[.borrow], false, [[.deep]]⟩
  | 63 => ⟨[.borrow], false, [[.deep]]⟩
  | 64 => ⟨[.borrow], false, [[.deep]]⟩
  | 65 => ⟨[.borrow, .borrow], false, [[.deep]]⟩
  | 66 => ⟨[.borrow], false, [[.deep, .deep, .deep]]⟩
  | 67 => ⟨[.borrow, .borrow], false, [[.deep]]⟩
  | 68 => ⟨[.borrow, .borrow], false, [[.deep]]⟩
  | 69 => ⟨[.borrow, .borrow], false, [[.deep]]⟩
  | 70 => ⟨[.borrow], false, [[.deep]]⟩
  | 71 => ⟨[.borrow], false, [[.deep]]⟩
  | 72 => ⟨[.borrow], false, [[.deep]]⟩
  | 73 => ⟨[.borrow, .borrow], false, [[.deep]]⟩
  | 74 => ⟨[.borrow, .borrow, .borrow], false, [[.deep]]⟩
  | 75 => ⟨[.borrow, .borrow], false, [[.deep]]⟩
  | 76 => ⟨[.borrow, .borrow], false, [[.deep]]⟩
  | 77 => ⟨[.borrow, .borrow], false, [[.deep]]⟩
  | 78 => ⟨[.borrow], false, [[.deep]]⟩
  | 79 => ⟨[.borrow, .borrow], false, [[.deep]]⟩
  | 80 => ⟨[.borrow, .borrow], false, [[.deep]]⟩
  | 81 => ⟨[.borrow], true, [[.snap]]⟩
  | 82 => ⟨[.inout [.snap]], true, [[.deep]]⟩
  | 83 => ⟨[.inout [.snap], .borrow], true, [[.deep]]⟩
  | 84 => ⟨[.inout [.snap], .borrow], true, [[.deep]]⟩
  | 85 => ⟨[.inout [.snap], .borrow], true, [[.deep]]⟩
  | 86 => ⟨[.borrow, .borrow], false, [[.deep]]⟩
  | 87 => ⟨[.borrow], false, [[.deep]]⟩
  | 88 => ⟨[.borrow, .borrow], false, [[.deep]]⟩
  | 89 => ⟨[.borrow, .borrow], false, [[.deep]]⟩
  | 90 => ⟨[.inout [.snap]], true, [[.deep]]⟩
  | 91 => ⟨[.inout [.snap]], true, [[.deep]]⟩
  | 92 => ⟨[.borrow], false, [[.deep]]⟩
  | 93 => ⟨[.borrow], false, []⟩
  | 94 => ⟨[.borrow], false, [[.deep]]⟩
  | 95 => ⟨[.borrow], false, []⟩
  | 96 => ⟨[.borrow], false, [[.deep]]⟩
  | 97 => ⟨[.borrow], false, []⟩
  | 98 => ⟨[.borrow], false, [[.deep]]⟩
  | 99 => ⟨[.borrow], false, []⟩
  | 100 => ⟨[.borrow], false, [[.deep]]⟩
  | 101 => ⟨[.borrow], false, []⟩
  | 102 => ⟨[.borrow], false, [[.deep]]⟩
  | 103 => ⟨[.borrow], false, []⟩
  | 104 => ⟨[.borrow], false, [[.deep]]⟩
  | 105 => ⟨[.borrow], false, [[.deep]]⟩
  | 106 => ⟨[.borrow], false, []⟩
  | 107 => ⟨[.borrow], false, [[.deep]]⟩
  | _ => ⟨[], false, []⟩
def ext : FuncId → Option (List TV → Option (TV × List TV)) := fun _ => none
noncomputable def C : Cfg := ⟨Go.Proofs.Try.prog, tt, sig, lr, lb, sch, ext⟩
theorem tys : (List.range 118).all (tyOkB C.P C.tt) = true := by kernel_rfl
theorem tyOk : TyOk C := tyOk_of (n := 118) (fun t ht => by
  have : ttTab.length ≤ 118 := by decide
  have h1 : C.tt t = no := by
    show ttTab.getD t no = no
    rw [List.getD_eq_getElem?_getD, List.getElem?_eq_none (Nat.le_trans this ht)]; rfl
  rw [h1]; rfl) tys
abbrev main_main : FuncId := 0
abbrev gosem_cut : FuncId := 1
abbrev gosem_cut_init : FuncId := 2
abbrev laws_FnExactCellsNew : FuncId := 3
abbrev laws_FnExactCellAt : FuncId := 4
abbrev laws_FnExactUsedCells : FuncId := 5
abbrev laws_FnExactCellsOk : FuncId := 6
abbrev laws_FnExactOpOk : FuncId := 7
abbrev laws_FnExactMapAt : FuncId := 8
abbrev laws_FnExactFreeCell : FuncId := 9
abbrev laws_FnExactTakeCell : FuncId := 10
abbrev laws_FnExactSameMaps : FuncId := 11
abbrev laws_FnExactPutOp : FuncId := 12
abbrev laws_FnCells : FuncId := 13
abbrev laws_FnCellsBent : FuncId := 14
abbrev spec_CellsNew : FuncId := 15
abbrev impl_CellsNew : FuncId := 16
abbrev laws_eqCellS : FuncId := 17
abbrev laws_markCellS : FuncId := 18
abbrev laws_heldCellS : FuncId := 19
abbrev laws_szCellS : FuncId := 20
abbrev spec_CellAt : FuncId := 21
abbrev laws_toCellS : FuncId := 22
abbrev impl_CellAt : FuncId := 23
abbrev spec_UsedCells : FuncId := 24
abbrev impl_UsedCells : FuncId := 25
abbrev spec_CellsOk : FuncId := 26
abbrev impl_CellsOk : FuncId := 27
abbrev laws_szOp : FuncId := 28
abbrev spec_OpOk : FuncId := 29
abbrev laws_toOp : FuncId := 30
abbrev impl_OpOk : FuncId := 31
abbrev laws_szMapS : FuncId := 32
abbrev spec_MapAt : FuncId := 33
abbrev laws_toMapS : FuncId := 34
abbrev impl_MapAt : FuncId := 35
abbrev laws_eqMapS : FuncId := 36
abbrev spec_FreeCell : FuncId := 37
abbrev impl_FreeCell : FuncId := 38
abbrev spec_TakeCell : FuncId := 39
abbrev impl_TakeCell : FuncId := 40
abbrev spec_SameMaps : FuncId := 41
abbrev impl_SameMaps : FuncId := 42
abbrev spec_PutOp : FuncId := 43
abbrev laws_toByteS : FuncId := 44
abbrev impl_PutOp : FuncId := 45
abbrev laws_eqByteS : FuncId := 46
abbrev laws_markByteS : FuncId := 47
abbrev laws_heldByteS : FuncId := 48
abbrev laws_big : FuncId := 49
abbrev spec_DrawTakeCell : FuncId := 50
abbrev laws_sameCells : FuncId := 51
abbrev spec_DrawCellsOk : FuncId := 52
abbrev spec_DrawFreeCell : FuncId := 53
abbrev spec_DrawCellAt : FuncId := 54
abbrev spec_DrawUsedCells : FuncId := 55
abbrev laws_eqCell : FuncId := 56
abbrev spec_l1In : FuncId := 57
abbrev laws_toCell : FuncId := 58
abbrev impl_within : FuncId := 59
abbrev spec_l1Word : FuncId := 60
abbrev impl_isWord : FuncId := 61
abbrev spec_NameOk : FuncId := 62
abbrev spec_l15Zero : FuncId := 63
abbrev impl_NameOk : FuncId := 64
abbrev laws_szMap : FuncId := 65
abbrev laws_toMap : FuncId := 66
abbrev slices_IndexFunc_Map : FuncId := 67
abbrev impl_MapAt_1 : FuncId := 68
abbrev laws_eqMap : FuncId := 69
abbrev spec_l9Copy : FuncId := 70
abbrev impl_copyCells : FuncId := 71
abbrev impl_freeAt : FuncId := 72
abbrev spec_l12SameInts : FuncId := 73
abbrev slices_EqualFunc_Map : FuncId := 74
abbrev impl_sameMap : FuncId := 75
abbrev spec_PutW : FuncId := 76
abbrev spec_PutText : FuncId := 77
abbrev impl_joined : FuncId := 78
abbrev impl_PutText : FuncId := 79
abbrev impl_PutW : FuncId := 80
abbrev spec_l1New : FuncId := 81
abbrev spec_l9Any : FuncId := 82
abbrev spec_l1Once : FuncId := 83
abbrev spec_l1Int : FuncId := 84
abbrev spec_l1Below : FuncId := 85
abbrev laws_szIntS : FuncId := 86
abbrev laws_toIntS : FuncId := 87
abbrev laws_eqIntS : FuncId := 88
abbrev slices_Equal_int : FuncId := 89
abbrev spec_l9Draw : FuncId := 90
abbrev spec_l1Byte : FuncId := 91
abbrev _runtime_boundsError__Error : FuncId := 92
abbrev _runtime_boundsError__RuntimeError : FuncId := 93
abbrev _runtime_errorString__Error : FuncId := 94
abbrev _runtime_errorString__RuntimeError : FuncId := 95
abbrev _runtime_plainError__Error : FuncId := 96
abbrev _runtime_plainError__RuntimeError : FuncId := 97
abbrev _runtime_errorAddressString__Error : FuncId := 98
abbrev _runtime_errorAddressString__RuntimeError : FuncId := 99
abbrev __runtime_TypeAssertionError__Error : FuncId := 100
abbrev __runtime_TypeAssertionError__RuntimeError : FuncId := 101
abbrev __runtime_PanicNilError__Error : FuncId := 102
abbrev __runtime_PanicNilError__RuntimeError : FuncId := 103
abbrev abi_Type__Align : FuncId := 104
abbrev maps_unhashableTypeError__Error : FuncId := 105
abbrev maps_unhashableTypeError__RuntimeError : FuncId := 106
abbrev abi_Kind__String : FuncId := 107
abbrev t_P_abi_Type : TypeId := 17
abbrev t_P_runtime_PanicNilError : TypeId := 16
abbrev t_P_runtime_TypeAssertionError : TypeId := 15
abbrev t_P_spec_l1Cur : TypeId := 90
abbrev t_P_uint8 : TypeId := 114
abbrev t_SS_uint8 : TypeId := 99
abbrev t_S_impl_Cell : TypeId := 22
abbrev t_S_impl_Map : TypeId := 46
abbrev t_S_int : TypeId := 76
abbrev t_S_laws_Cell : TypeId := 27
abbrev t_S_laws_Map : TypeId := 43
abbrev t_S_uint8 : TypeId := 55
abbrev t_abi_BoundsErrorCode : TypeId := 6
abbrev t_abi_Kind : TypeId := 112
abbrev t_abi_NameOff : TypeId := 115
abbrev t_abi_TFlag : TypeId := 111
abbrev t_abi_Type : TypeId := 118
abbrev t_abi_TypeOff : TypeId := 116
abbrev t_bool : TypeId := 4
abbrev t_impl_Cell : TypeId := 65
abbrev t_impl_Map : TypeId := 79
abbrev t_impl_Op : TypeId := 40
abbrev t_int : TypeId := 3
abbrev t_int32 : TypeId := 21
abbrev t_int64 : TypeId := 2
abbrev t_laws_Cell : TypeId := 72
abbrev t_laws_Map : TypeId := 78
abbrev t_laws_Op : TypeId := 37
abbrev t_maps_unhashableTypeError : TypeId := 19
abbrev t_runtime_PanicNilError : TypeId := 108
abbrev t_runtime_TypeAssertionError : TypeId := 105
abbrev t_runtime_boundsError : TypeId := 8
abbrev t_runtime_errorAddressString : TypeId := 14
abbrev t_runtime_errorString : TypeId := 10
abbrev t_runtime_plainError : TypeId := 11
abbrev t_spec_l1Cur : TypeId := 101
abbrev t_string : TypeId := 9
abbrev t_uint : TypeId := 98
abbrev t_uint32 : TypeId := 110
abbrev t_uint8 : TypeId := 5
abbrev t_uintptr : TypeId := 12
abbrev t_unsafe_Pointer : TypeId := 119
theorem prs : prOkB C 0 C.P.funcs.toList = true := by kernel_rfl
theorem extOk (f : FuncId) (p : List TV → Option (TV × List TV)) (vs : List TV) (r : TV) (fs : List TV) (h : C.ext f = some p) (_ : p vs = some (r, fs)) : CallOk C f vs r fs := by cases h
theorem prOk : PrOk C := prOk_of tyOk prs (by kernel_rfl) extOk
end Go.T.R
