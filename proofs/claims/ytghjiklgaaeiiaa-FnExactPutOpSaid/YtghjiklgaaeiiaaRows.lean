/-
  No cell of these rows narrows 'for every input' (looked for: loops, veiled, ifaces, maps, wideKeys, modest, calm, conditions, laid).
  DERIVED. THE GIVEN ROWS OF THIS SEAT. 12 by the template 'for every input the law returns true; each argument reads behind the call as it read before'; 0 by the template 'total and deterministic' (their statements: YtghjiklgaaeiiaaTotals.lean).
  GIVEN WITH THE SEED: the statements are not yours to turn. If you find one false, say at which input.
  Laid BY PROGRAM, IN A SANDBOX (cutbox-rows.mjs): the forced cells as the released guide's own fill.sh prints them over the translation a95cec02f61c18ba… (all of the seat's roots in one cut). By AI agents, Wed Nov 11 2026. No macro, syntax, notation, axiom, sorry.
-/
import Derived.Test.YtghjiklgaaeiiaaChecked
import GoSem.Claim
import GoSem.ClaimJoined
import GoSem.ClaimMapViews
import Derived.JoinedTies
import Derived.KernelRfl
namespace Go.Proofs.Ytghjiklgaaeiiaa
/- THE CELL 'sum', in the pinned program and in every row, IS THE sha256 OF THE DUMP (.gsa) THAT YtghjiklgaaeiiaaProg.lean LOADS. Nothing in Lean hashes anything: it is a label: what it is worth is what the hold of that sum in a sandbox is worth. -/
noncomputable def Try.pinned : Pinned := { name := "ytghjiklgaaeiiaa", sum := "a95cec02f61c18bae896f9f95d79386b6de571949a29095402cbc072c264370f", checked := Try.checked }
namespace Rows
def none {H : Type} : Left H := { results := [], args := [] }

/-- 'laws.FnExactCellsNew': WHATEVER THE INPUT: true; the input reads as it did. -/
def fnExactCellsNewSpec : ChangeSpec := { name := "fnExactCellsNew", fn := fun _ => fun
  | [] => { results := [.lit (.bool true)], args := [] }
  | _ => none }
def fnExactCellsNewRow : OpenClaim := { program := "ytghjiklgaaeiiaa", sum := "a95cec02f61c18bae896f9f95d79386b6de571949a29095402cbc072c264370f", func := "loop.example/g00467/laws.FnExactCellsNew", spec := "fnExactCellsNew", apart := false }
def FnExactCellsNewSaid : Prop := fnExactCellsNewRow.holds Try.pinned (OpenSpec.ofChange fnExactCellsNewSpec)

/-- ITS FALSE NEIGHBOUR: 'it returns false'. Refute it at one input. -/
def fnExactCellsNewWrong : ChangeSpec := { name := "fnExactCellsNew", fn := fun _ => fun
  | [] => { results := [.lit (.bool false)], args := [] }
  | _ => none }
def FnExactCellsNewWrongFalsely : Prop := fnExactCellsNewRow.holds Try.pinned (OpenSpec.ofChange fnExactCellsNewWrong)

/-- 'laws.FnExactCellAt': WHATEVER THE INPUT: true; the input reads as it did. -/
def fnExactCellAtSpec : ChangeSpec := { name := "fnExactCellAt", fn := fun _ => fun
  | [d1, d2, d3] => { results := [.lit (.bool true)], args := [d1, d2, d3] }
  | _ => none }
def fnExactCellAtRow : OpenClaim := { program := "ytghjiklgaaeiiaa", sum := "a95cec02f61c18bae896f9f95d79386b6de571949a29095402cbc072c264370f", func := "loop.example/g00467/laws.FnExactCellAt", spec := "fnExactCellAt", apart := false }
def FnExactCellAtSaid : Prop := fnExactCellAtRow.holds Try.pinned (OpenSpec.ofChange fnExactCellAtSpec)

/-- ITS FALSE NEIGHBOUR: 'it returns false'. Refute it at one input. -/
def fnExactCellAtWrong : ChangeSpec := { name := "fnExactCellAt", fn := fun _ => fun
  | [d1, d2, d3] => { results := [.lit (.bool false)], args := [d1, d2, d3] }
  | _ => none }
def FnExactCellAtWrongFalsely : Prop := fnExactCellAtRow.holds Try.pinned (OpenSpec.ofChange fnExactCellAtWrong)

/-- 'laws.FnExactUsedCells': WHATEVER THE INPUT: true; the input reads as it did. -/
def fnExactUsedCellsSpec : ChangeSpec := { name := "fnExactUsedCells", fn := fun _ => fun
  | [d] => { results := [.lit (.bool true)], args := [d] }
  | _ => none }
def fnExactUsedCellsRow : OpenClaim := { program := "ytghjiklgaaeiiaa", sum := "a95cec02f61c18bae896f9f95d79386b6de571949a29095402cbc072c264370f", func := "loop.example/g00467/laws.FnExactUsedCells", spec := "fnExactUsedCells", apart := false }
def FnExactUsedCellsSaid : Prop := fnExactUsedCellsRow.holds Try.pinned (OpenSpec.ofChange fnExactUsedCellsSpec)

/-- ITS FALSE NEIGHBOUR: 'it returns false'. Refute it at one input. -/
def fnExactUsedCellsWrong : ChangeSpec := { name := "fnExactUsedCells", fn := fun _ => fun
  | [d] => { results := [.lit (.bool false)], args := [d] }
  | _ => none }
def FnExactUsedCellsWrongFalsely : Prop := fnExactUsedCellsRow.holds Try.pinned (OpenSpec.ofChange fnExactUsedCellsWrong)

/-- 'laws.FnExactCellsOk': WHATEVER THE INPUT: true; the input reads as it did. -/
def fnExactCellsOkSpec : ChangeSpec := { name := "fnExactCellsOk", fn := fun _ => fun
  | [d] => { results := [.lit (.bool true)], args := [d] }
  | _ => none }
def fnExactCellsOkRow : OpenClaim := { program := "ytghjiklgaaeiiaa", sum := "a95cec02f61c18bae896f9f95d79386b6de571949a29095402cbc072c264370f", func := "loop.example/g00467/laws.FnExactCellsOk", spec := "fnExactCellsOk", apart := false }
def FnExactCellsOkSaid : Prop := fnExactCellsOkRow.holds Try.pinned (OpenSpec.ofChange fnExactCellsOkSpec)

/-- ITS FALSE NEIGHBOUR: 'it returns false'. Refute it at one input. -/
def fnExactCellsOkWrong : ChangeSpec := { name := "fnExactCellsOk", fn := fun _ => fun
  | [d] => { results := [.lit (.bool false)], args := [d] }
  | _ => none }
def FnExactCellsOkWrongFalsely : Prop := fnExactCellsOkRow.holds Try.pinned (OpenSpec.ofChange fnExactCellsOkWrong)

/-- 'laws.FnExactOpOk': WHATEVER THE INPUT: true; the input reads as it did. -/
def fnExactOpOkSpec : ChangeSpec := { name := "fnExactOpOk", fn := fun _ => fun
  | [d] => { results := [.lit (.bool true)], args := [d] }
  | _ => none }
def fnExactOpOkRow : OpenClaim := { program := "ytghjiklgaaeiiaa", sum := "a95cec02f61c18bae896f9f95d79386b6de571949a29095402cbc072c264370f", func := "loop.example/g00467/laws.FnExactOpOk", spec := "fnExactOpOk", apart := false }
def FnExactOpOkSaid : Prop := fnExactOpOkRow.holds Try.pinned (OpenSpec.ofChange fnExactOpOkSpec)

/-- ITS FALSE NEIGHBOUR: 'it returns false'. Refute it at one input. -/
def fnExactOpOkWrong : ChangeSpec := { name := "fnExactOpOk", fn := fun _ => fun
  | [d] => { results := [.lit (.bool false)], args := [d] }
  | _ => none }
def FnExactOpOkWrongFalsely : Prop := fnExactOpOkRow.holds Try.pinned (OpenSpec.ofChange fnExactOpOkWrong)

/-- 'laws.FnExactMapAt': WHATEVER THE INPUT: true; the input reads as it did. -/
def fnExactMapAtSpec : ChangeSpec := { name := "fnExactMapAt", fn := fun _ => fun
  | [d1, d2] => { results := [.lit (.bool true)], args := [d1, d2] }
  | _ => none }
def fnExactMapAtRow : OpenClaim := { program := "ytghjiklgaaeiiaa", sum := "a95cec02f61c18bae896f9f95d79386b6de571949a29095402cbc072c264370f", func := "loop.example/g00467/laws.FnExactMapAt", spec := "fnExactMapAt", unfollowed := true, recurses := true, apart := false }
def FnExactMapAtSaid : Prop := fnExactMapAtRow.holds Try.pinned (OpenSpec.ofChange fnExactMapAtSpec)

/-- ITS FALSE NEIGHBOUR: 'it returns false'. Refute it at one input. -/
def fnExactMapAtWrong : ChangeSpec := { name := "fnExactMapAt", fn := fun _ => fun
  | [d1, d2] => { results := [.lit (.bool false)], args := [d1, d2] }
  | _ => none }
def FnExactMapAtWrongFalsely : Prop := fnExactMapAtRow.holds Try.pinned (OpenSpec.ofChange fnExactMapAtWrong)

/-- 'laws.FnExactFreeCell': WHATEVER THE INPUT: true; the input reads as it did. -/
def fnExactFreeCellSpec : ChangeSpec := { name := "fnExactFreeCell", fn := fun _ => fun
  | [d1, d2] => { results := [.lit (.bool true)], args := [d1, d2] }
  | _ => none }
def fnExactFreeCellRow : OpenClaim := { program := "ytghjiklgaaeiiaa", sum := "a95cec02f61c18bae896f9f95d79386b6de571949a29095402cbc072c264370f", func := "loop.example/g00467/laws.FnExactFreeCell", spec := "fnExactFreeCell", apart := false }
def FnExactFreeCellSaid : Prop := fnExactFreeCellRow.holds Try.pinned (OpenSpec.ofChange fnExactFreeCellSpec)

/-- ITS FALSE NEIGHBOUR: 'it returns false'. Refute it at one input. -/
def fnExactFreeCellWrong : ChangeSpec := { name := "fnExactFreeCell", fn := fun _ => fun
  | [d1, d2] => { results := [.lit (.bool false)], args := [d1, d2] }
  | _ => none }
def FnExactFreeCellWrongFalsely : Prop := fnExactFreeCellRow.holds Try.pinned (OpenSpec.ofChange fnExactFreeCellWrong)

/-- 'laws.FnExactTakeCell': WHATEVER THE INPUT: true; the input reads as it did. -/
def fnExactTakeCellSpec : ChangeSpec := { name := "fnExactTakeCell", fn := fun _ => fun
  | [d1, d2] => { results := [.lit (.bool true)], args := [d1, d2] }
  | _ => none }
def fnExactTakeCellRow : OpenClaim := { program := "ytghjiklgaaeiiaa", sum := "a95cec02f61c18bae896f9f95d79386b6de571949a29095402cbc072c264370f", func := "loop.example/g00467/laws.FnExactTakeCell", spec := "fnExactTakeCell", apart := false }
def FnExactTakeCellSaid : Prop := fnExactTakeCellRow.holds Try.pinned (OpenSpec.ofChange fnExactTakeCellSpec)

/-- ITS FALSE NEIGHBOUR: 'it returns false'. Refute it at one input. -/
def fnExactTakeCellWrong : ChangeSpec := { name := "fnExactTakeCell", fn := fun _ => fun
  | [d1, d2] => { results := [.lit (.bool false)], args := [d1, d2] }
  | _ => none }
def FnExactTakeCellWrongFalsely : Prop := fnExactTakeCellRow.holds Try.pinned (OpenSpec.ofChange fnExactTakeCellWrong)

/-- 'laws.FnExactSameMaps': WHATEVER THE INPUT: true; the input reads as it did. -/
def fnExactSameMapsSpec : ChangeSpec := { name := "fnExactSameMaps", fn := fun _ => fun
  | [d1, d2] => { results := [.lit (.bool true)], args := [d1, d2] }
  | _ => none }
def fnExactSameMapsRow : OpenClaim := { program := "ytghjiklgaaeiiaa", sum := "a95cec02f61c18bae896f9f95d79386b6de571949a29095402cbc072c264370f", func := "loop.example/g00467/laws.FnExactSameMaps", spec := "fnExactSameMaps", unfollowed := true, recurses := true, apart := false }
def FnExactSameMapsSaid : Prop := fnExactSameMapsRow.holds Try.pinned (OpenSpec.ofChange fnExactSameMapsSpec)

/-- ITS FALSE NEIGHBOUR: 'it returns false'. Refute it at one input. -/
def fnExactSameMapsWrong : ChangeSpec := { name := "fnExactSameMaps", fn := fun _ => fun
  | [d1, d2] => { results := [.lit (.bool false)], args := [d1, d2] }
  | _ => none }
def FnExactSameMapsWrongFalsely : Prop := fnExactSameMapsRow.holds Try.pinned (OpenSpec.ofChange fnExactSameMapsWrong)

/-- 'laws.FnExactPutOp': WHATEVER THE INPUT: true; the input reads as it did. -/
def fnExactPutOpSpec : ChangeSpec := { name := "fnExactPutOp", fn := fun _ => fun
  | [d1, d2] => { results := [.lit (.bool true)], args := [d1, d2] }
  | _ => none }
def fnExactPutOpRow : OpenClaim := { program := "ytghjiklgaaeiiaa", sum := "a95cec02f61c18bae896f9f95d79386b6de571949a29095402cbc072c264370f", func := "loop.example/g00467/laws.FnExactPutOp", spec := "fnExactPutOp", apart := false }
def FnExactPutOpSaid : Prop := fnExactPutOpRow.holds Try.pinned (OpenSpec.ofChange fnExactPutOpSpec)

/-- ITS FALSE NEIGHBOUR: 'it returns false'. Refute it at one input. -/
def fnExactPutOpWrong : ChangeSpec := { name := "fnExactPutOp", fn := fun _ => fun
  | [d1, d2] => { results := [.lit (.bool false)], args := [d1, d2] }
  | _ => none }
def FnExactPutOpWrongFalsely : Prop := fnExactPutOpRow.holds Try.pinned (OpenSpec.ofChange fnExactPutOpWrong)

/-- 'laws.FnCells': WHATEVER THE INPUT: true; the input reads as it did. -/
def fnCellsSpec : ChangeSpec := { name := "fnCells", fn := fun _ => fun
  | [d] => { results := [.lit (.bool true)], args := [d] }
  | _ => none }
def fnCellsRow : OpenClaim := { program := "ytghjiklgaaeiiaa", sum := "a95cec02f61c18bae896f9f95d79386b6de571949a29095402cbc072c264370f", func := "loop.example/g00467/laws.FnCells", spec := "fnCells", apart := false }
def FnCellsSaid : Prop := fnCellsRow.holds Try.pinned (OpenSpec.ofChange fnCellsSpec)

/-- ITS FALSE NEIGHBOUR: 'it returns false'. Refute it at one input. -/
def fnCellsWrong : ChangeSpec := { name := "fnCells", fn := fun _ => fun
  | [d] => { results := [.lit (.bool false)], args := [d] }
  | _ => none }
def FnCellsWrongFalsely : Prop := fnCellsRow.holds Try.pinned (OpenSpec.ofChange fnCellsWrong)

/-- 'laws.FnCellsBent': WHATEVER THE INPUT: true; the input reads as it did. -/
def fnCellsBentSpec : ChangeSpec := { name := "fnCellsBent", fn := fun _ => fun
  | [d] => { results := [.lit (.bool true)], args := [d] }
  | _ => none }
def fnCellsBentRow : OpenClaim := { program := "ytghjiklgaaeiiaa", sum := "a95cec02f61c18bae896f9f95d79386b6de571949a29095402cbc072c264370f", func := "loop.example/g00467/laws.FnCellsBent", spec := "fnCellsBent", apart := false }
def FnCellsBentSaid : Prop := fnCellsBentRow.holds Try.pinned (OpenSpec.ofChange fnCellsBentSpec)

/-- ITS FALSE NEIGHBOUR: 'it returns false'. Refute it at one input. -/
def fnCellsBentWrong : ChangeSpec := { name := "fnCellsBent", fn := fun _ => fun
  | [d] => { results := [.lit (.bool false)], args := [d] }
  | _ => none }
def FnCellsBentWrongFalsely : Prop := fnCellsBentRow.holds Try.pinned (OpenSpec.ofChange fnCellsBentWrong)

/- THE SECOND FORM. 'bulk': how many values and letters a reading holds, each counted each time it is reached (what is shared counts as often as it is met; a slice's spare places count too). A statement '..UptoSaid' is the law's where the arguments, and the package variables that the reading takes, are together of bulk at most 1048576: NARROWER than '..Said'. Prove '..Said' where nothing that the law and all that it calls make is longer than what came in: it says more and counts as full. Else prove '..UptoSaid'. A law counts once. -/
mutual
def uptoBulk {H : Type} : DataW H → Nat
  | .lit (.string bytes) => bytes.length + 1
  | .lit _ => 1
  | .nil => 1
  | .ptr d => uptoBulk d + 1
  | .slice elems spare => uptoBulkAll elems + uptoBulkAll spare + 1
  | .agg parts => uptoBulkAll parts + 1
  | .iface _ d => uptoBulk d + 1
  | .map entries => uptoBulkEntries entries + 1
  | .held _ => 1
def uptoBulkAll {H : Type} : List (DataW H) → Nat
  | [] => 0
  | d :: r => uptoBulk d + uptoBulkAll r
def uptoBulkEntries {H : Type} : List (Lit × DataW H) → Nat
  | [] => 0
  | x :: r => uptoBulkEntry x + uptoBulkEntries r
def uptoBulkEntry {H : Type} : Lit × DataW H → Nat
  | (.string bytes, d) => bytes.length + uptoBulk d + 1
  | (_, d) => uptoBulk d + 1
 end
def uptoSmall : (H : Type) → List (DataW H) → Bool := fun _ ds => decide (uptoBulkAll ds ≤ 1048576)
def OpenSpec.upto (s : _root_.Go.ChangeSpec) : _root_.Go.OpenSpec := { _root_.Go.OpenSpec.ofChange s with cond := some uptoSmall }

/-- 'laws.FnExactCellsNew', WHERE WHAT IT READS IS OF BULK AT MOST 1048576: true; the input reads as it did. -/
def fnExactCellsNewUptoRow : OpenClaim := { program := "ytghjiklgaaeiiaa", sum := "a95cec02f61c18bae896f9f95d79386b6de571949a29095402cbc072c264370f", func := "loop.example/g00467/laws.FnExactCellsNew", spec := "fnExactCellsNew", apart := false, narrowed := true }
def FnExactCellsNewUptoSaid : Prop := fnExactCellsNewUptoRow.holds Try.pinned (OpenSpec.upto fnExactCellsNewSpec)

/-- 'laws.FnExactCellAt', WHERE WHAT IT READS IS OF BULK AT MOST 1048576: true; the input reads as it did. -/
def fnExactCellAtUptoRow : OpenClaim := { program := "ytghjiklgaaeiiaa", sum := "a95cec02f61c18bae896f9f95d79386b6de571949a29095402cbc072c264370f", func := "loop.example/g00467/laws.FnExactCellAt", spec := "fnExactCellAt", apart := false, narrowed := true }
def FnExactCellAtUptoSaid : Prop := fnExactCellAtUptoRow.holds Try.pinned (OpenSpec.upto fnExactCellAtSpec)

/-- 'laws.FnExactUsedCells', WHERE WHAT IT READS IS OF BULK AT MOST 1048576: true; the input reads as it did. -/
def fnExactUsedCellsUptoRow : OpenClaim := { program := "ytghjiklgaaeiiaa", sum := "a95cec02f61c18bae896f9f95d79386b6de571949a29095402cbc072c264370f", func := "loop.example/g00467/laws.FnExactUsedCells", spec := "fnExactUsedCells", apart := false, narrowed := true }
def FnExactUsedCellsUptoSaid : Prop := fnExactUsedCellsUptoRow.holds Try.pinned (OpenSpec.upto fnExactUsedCellsSpec)

/-- 'laws.FnExactCellsOk', WHERE WHAT IT READS IS OF BULK AT MOST 1048576: true; the input reads as it did. -/
def fnExactCellsOkUptoRow : OpenClaim := { program := "ytghjiklgaaeiiaa", sum := "a95cec02f61c18bae896f9f95d79386b6de571949a29095402cbc072c264370f", func := "loop.example/g00467/laws.FnExactCellsOk", spec := "fnExactCellsOk", apart := false, narrowed := true }
def FnExactCellsOkUptoSaid : Prop := fnExactCellsOkUptoRow.holds Try.pinned (OpenSpec.upto fnExactCellsOkSpec)

/-- 'laws.FnExactOpOk', WHERE WHAT IT READS IS OF BULK AT MOST 1048576: true; the input reads as it did. -/
def fnExactOpOkUptoRow : OpenClaim := { program := "ytghjiklgaaeiiaa", sum := "a95cec02f61c18bae896f9f95d79386b6de571949a29095402cbc072c264370f", func := "loop.example/g00467/laws.FnExactOpOk", spec := "fnExactOpOk", apart := false, narrowed := true }
def FnExactOpOkUptoSaid : Prop := fnExactOpOkUptoRow.holds Try.pinned (OpenSpec.upto fnExactOpOkSpec)

/-- 'laws.FnExactMapAt', WHERE WHAT IT READS IS OF BULK AT MOST 1048576: true; the input reads as it did. -/
def fnExactMapAtUptoRow : OpenClaim := { program := "ytghjiklgaaeiiaa", sum := "a95cec02f61c18bae896f9f95d79386b6de571949a29095402cbc072c264370f", func := "loop.example/g00467/laws.FnExactMapAt", spec := "fnExactMapAt", unfollowed := true, recurses := true, apart := false, narrowed := true }
def FnExactMapAtUptoSaid : Prop := fnExactMapAtUptoRow.holds Try.pinned (OpenSpec.upto fnExactMapAtSpec)

/-- 'laws.FnExactFreeCell', WHERE WHAT IT READS IS OF BULK AT MOST 1048576: true; the input reads as it did. -/
def fnExactFreeCellUptoRow : OpenClaim := { program := "ytghjiklgaaeiiaa", sum := "a95cec02f61c18bae896f9f95d79386b6de571949a29095402cbc072c264370f", func := "loop.example/g00467/laws.FnExactFreeCell", spec := "fnExactFreeCell", apart := false, narrowed := true }
def FnExactFreeCellUptoSaid : Prop := fnExactFreeCellUptoRow.holds Try.pinned (OpenSpec.upto fnExactFreeCellSpec)

/-- 'laws.FnExactTakeCell', WHERE WHAT IT READS IS OF BULK AT MOST 1048576: true; the input reads as it did. -/
def fnExactTakeCellUptoRow : OpenClaim := { program := "ytghjiklgaaeiiaa", sum := "a95cec02f61c18bae896f9f95d79386b6de571949a29095402cbc072c264370f", func := "loop.example/g00467/laws.FnExactTakeCell", spec := "fnExactTakeCell", apart := false, narrowed := true }
def FnExactTakeCellUptoSaid : Prop := fnExactTakeCellUptoRow.holds Try.pinned (OpenSpec.upto fnExactTakeCellSpec)

/-- 'laws.FnExactSameMaps', WHERE WHAT IT READS IS OF BULK AT MOST 1048576: true; the input reads as it did. -/
def fnExactSameMapsUptoRow : OpenClaim := { program := "ytghjiklgaaeiiaa", sum := "a95cec02f61c18bae896f9f95d79386b6de571949a29095402cbc072c264370f", func := "loop.example/g00467/laws.FnExactSameMaps", spec := "fnExactSameMaps", unfollowed := true, recurses := true, apart := false, narrowed := true }
def FnExactSameMapsUptoSaid : Prop := fnExactSameMapsUptoRow.holds Try.pinned (OpenSpec.upto fnExactSameMapsSpec)

/-- 'laws.FnExactPutOp', WHERE WHAT IT READS IS OF BULK AT MOST 1048576: true; the input reads as it did. -/
def fnExactPutOpUptoRow : OpenClaim := { program := "ytghjiklgaaeiiaa", sum := "a95cec02f61c18bae896f9f95d79386b6de571949a29095402cbc072c264370f", func := "loop.example/g00467/laws.FnExactPutOp", spec := "fnExactPutOp", apart := false, narrowed := true }
def FnExactPutOpUptoSaid : Prop := fnExactPutOpUptoRow.holds Try.pinned (OpenSpec.upto fnExactPutOpSpec)

/-- 'laws.FnCells', WHERE WHAT IT READS IS OF BULK AT MOST 1048576: true; the input reads as it did. -/
def fnCellsUptoRow : OpenClaim := { program := "ytghjiklgaaeiiaa", sum := "a95cec02f61c18bae896f9f95d79386b6de571949a29095402cbc072c264370f", func := "loop.example/g00467/laws.FnCells", spec := "fnCells", apart := false, narrowed := true }
def FnCellsUptoSaid : Prop := fnCellsUptoRow.holds Try.pinned (OpenSpec.upto fnCellsSpec)

/-- 'laws.FnCellsBent', WHERE WHAT IT READS IS OF BULK AT MOST 1048576: true; the input reads as it did. -/
def fnCellsBentUptoRow : OpenClaim := { program := "ytghjiklgaaeiiaa", sum := "a95cec02f61c18bae896f9f95d79386b6de571949a29095402cbc072c264370f", func := "loop.example/g00467/laws.FnCellsBent", spec := "fnCellsBent", apart := false, narrowed := true }
def FnCellsBentUptoSaid : Prop := fnCellsBentUptoRow.holds Try.pinned (OpenSpec.upto fnCellsBentSpec)

end Rows
end Go.Proofs.Ytghjiklgaaeiiaa
