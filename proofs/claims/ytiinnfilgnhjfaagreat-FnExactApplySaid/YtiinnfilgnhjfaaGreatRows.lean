/-
  No cell of these rows narrows 'for every input' (looked for: loops, veiled, ifaces, maps, wideKeys, modest, calm, conditions, laid).
  DERIVED. THE GIVEN ROWS OF THIS SEAT. 9 by the template 'for every input the law returns true; each argument reads behind the call as it read before'; 0 by the template 'total and deterministic' (their statements: YtiinnfilgnhjfaaGreatTotals.lean).
  GIVEN WITH THE SEED: the statements are not yours to turn. If you find one false, say at which input.
  Laid BY PROGRAM, IN A SANDBOX (cutbox-rows.mjs): the forced cells as the released guide's own fill.sh prints them over the translation 4b3a52c3130f1eff… (all of the seat's roots in one cut). By AI agents, Wed Nov 11 2026. No macro, syntax, notation, axiom, sorry.
-/
import Derived.Test.YtiinnfilgnhjfaaGreatChecked
import GoSem.Claim
import GoSem.ClaimJoined
import GoSem.ClaimMapViews
import Derived.JoinedTies
import Derived.KernelRfl
namespace Go.Proofs.YtiinnfilgnhjfaaGreat
/- THE CELL 'sum', in the pinned program and in every row, IS THE sha256 OF THE DUMP (.gsa) THAT YtiinnfilgnhjfaaGreatProg.lean LOADS. Nothing in Lean hashes anything: it is a label: what it is worth is what the hold of that sum in a sandbox is worth. -/
noncomputable def Tryz.pinned : Pinned := { name := "ytiinnfilgnhjfaagreat", sum := "4b3a52c3130f1eff9eede7d216c7bc49b69f7d6aca97e58f150fc7fadc682163", checked := Tryz.checked }
namespace Rows
def none {H : Type} : Left H := { results := [], args := [] }

/-- 'laws.FnExactPruneAll': WHATEVER THE INPUT: true; the input reads as it did. -/
def fnExactPruneAllSpec : ChangeSpec := { name := "fnExactPruneAll", fn := fun _ => fun
  | [d] => { results := [.lit (.bool true)], args := [d] }
  | _ => none }
def fnExactPruneAllRow : OpenClaim := { program := "ytiinnfilgnhjfaagreat", sum := "4b3a52c3130f1eff9eede7d216c7bc49b69f7d6aca97e58f150fc7fadc682163", func := "loop.example/g00467/laws.FnExactPruneAll", spec := "fnExactPruneAll", unfollowed := true, recurses := true, apart := false }
def FnExactPruneAllSaid : Prop := fnExactPruneAllRow.holds Tryz.pinned (OpenSpec.ofChange fnExactPruneAllSpec)

/-- ITS FALSE NEIGHBOUR: 'it returns false'. Refute it at one input. -/
def fnExactPruneAllWrong : ChangeSpec := { name := "fnExactPruneAll", fn := fun _ => fun
  | [d] => { results := [.lit (.bool false)], args := [d] }
  | _ => none }
def FnExactPruneAllWrongFalsely : Prop := fnExactPruneAllRow.holds Tryz.pinned (OpenSpec.ofChange fnExactPruneAllWrong)

/-- 'laws.FnExactApply': WHATEVER THE INPUT: true; the input reads as it did. -/
def fnExactApplySpec : ChangeSpec := { name := "fnExactApply", fn := fun _ => fun
  | [d1, d2] => { results := [.lit (.bool true)], args := [d1, d2] }
  | _ => none }
def fnExactApplyRow : OpenClaim := { program := "ytiinnfilgnhjfaagreat", sum := "4b3a52c3130f1eff9eede7d216c7bc49b69f7d6aca97e58f150fc7fadc682163", func := "loop.example/g00467/laws.FnExactApply", spec := "fnExactApply", inPlace := ["slices.overlaps[loop.example/g00467/impl.Age]"], unfollowed := true, recurses := true, apart := false }
def FnExactApplySaid : Prop := fnExactApplyRow.holds Tryz.pinned (OpenSpec.ofChange fnExactApplySpec)

/-- ITS FALSE NEIGHBOUR: 'it returns false'. Refute it at one input. -/
def fnExactApplyWrong : ChangeSpec := { name := "fnExactApply", fn := fun _ => fun
  | [d1, d2] => { results := [.lit (.bool false)], args := [d1, d2] }
  | _ => none }
def FnExactApplyWrongFalsely : Prop := fnExactApplyRow.holds Tryz.pinned (OpenSpec.ofChange fnExactApplyWrong)

/-- 'laws.FnExactApplyAll': WHATEVER THE INPUT: true; the input reads as it did. -/
def fnExactApplyAllSpec : ChangeSpec := { name := "fnExactApplyAll", fn := fun _ => fun
  | [d1, d2] => { results := [.lit (.bool true)], args := [d1, d2] }
  | _ => none }
def fnExactApplyAllRow : OpenClaim := { program := "ytiinnfilgnhjfaagreat", sum := "4b3a52c3130f1eff9eede7d216c7bc49b69f7d6aca97e58f150fc7fadc682163", func := "loop.example/g00467/laws.FnExactApplyAll", spec := "fnExactApplyAll", inPlace := ["slices.overlaps[loop.example/g00467/impl.Age]"], unfollowed := true, recurses := true, apart := false }
def FnExactApplyAllSaid : Prop := fnExactApplyAllRow.holds Tryz.pinned (OpenSpec.ofChange fnExactApplyAllSpec)

/-- ITS FALSE NEIGHBOUR: 'it returns false'. Refute it at one input. -/
def fnExactApplyAllWrong : ChangeSpec := { name := "fnExactApplyAll", fn := fun _ => fun
  | [d1, d2] => { results := [.lit (.bool false)], args := [d1, d2] }
  | _ => none }
def FnExactApplyAllWrongFalsely : Prop := fnExactApplyAllRow.holds Tryz.pinned (OpenSpec.ofChange fnExactApplyAllWrong)

/-- 'laws.FnExactMoveStep': WHATEVER THE INPUT: true; the input reads as it did. -/
def fnExactMoveStepSpec : ChangeSpec := { name := "fnExactMoveStep", fn := fun _ => fun
  | [d1, d2] => { results := [.lit (.bool true)], args := [d1, d2] }
  | _ => none }
def fnExactMoveStepRow : OpenClaim := { program := "ytiinnfilgnhjfaagreat", sum := "4b3a52c3130f1eff9eede7d216c7bc49b69f7d6aca97e58f150fc7fadc682163", func := "loop.example/g00467/laws.FnExactMoveStep", spec := "fnExactMoveStep", unfollowed := true, recurses := true, apart := false }
def FnExactMoveStepSaid : Prop := fnExactMoveStepRow.holds Tryz.pinned (OpenSpec.ofChange fnExactMoveStepSpec)

/-- ITS FALSE NEIGHBOUR: 'it returns false'. Refute it at one input. -/
def fnExactMoveStepWrong : ChangeSpec := { name := "fnExactMoveStep", fn := fun _ => fun
  | [d1, d2] => { results := [.lit (.bool false)], args := [d1, d2] }
  | _ => none }
def FnExactMoveStepWrongFalsely : Prop := fnExactMoveStepRow.holds Tryz.pinned (OpenSpec.ofChange fnExactMoveStepWrong)

/-- 'laws.FnExactMoveAll': WHATEVER THE INPUT: true; the input reads as it did. -/
def fnExactMoveAllSpec : ChangeSpec := { name := "fnExactMoveAll", fn := fun _ => fun
  | [d] => { results := [.lit (.bool true)], args := [d] }
  | _ => none }
def fnExactMoveAllRow : OpenClaim := { program := "ytiinnfilgnhjfaagreat", sum := "4b3a52c3130f1eff9eede7d216c7bc49b69f7d6aca97e58f150fc7fadc682163", func := "loop.example/g00467/laws.FnExactMoveAll", spec := "fnExactMoveAll", unfollowed := true, recurses := true, apart := false }
def FnExactMoveAllSaid : Prop := fnExactMoveAllRow.holds Tryz.pinned (OpenSpec.ofChange fnExactMoveAllSpec)

/-- ITS FALSE NEIGHBOUR: 'it returns false'. Refute it at one input. -/
def fnExactMoveAllWrong : ChangeSpec := { name := "fnExactMoveAll", fn := fun _ => fun
  | [d] => { results := [.lit (.bool false)], args := [d] }
  | _ => none }
def FnExactMoveAllWrongFalsely : Prop := fnExactMoveAllRow.holds Tryz.pinned (OpenSpec.ofChange fnExactMoveAllWrong)

/-- 'laws.FnExactWrite': WHATEVER THE INPUT: true; the input reads as it did. -/
def fnExactWriteSpec : ChangeSpec := { name := "fnExactWrite", fn := fun _ => fun
  | [d1, d2, d3, d4] => { results := [.lit (.bool true)], args := [d1, d2, d3, d4] }
  | _ => none }
def fnExactWriteRow : OpenClaim := { program := "ytiinnfilgnhjfaagreat", sum := "4b3a52c3130f1eff9eede7d216c7bc49b69f7d6aca97e58f150fc7fadc682163", func := "loop.example/g00467/laws.FnExactWrite", spec := "fnExactWrite", unfollowed := true, recurses := true, apart := false }
def FnExactWriteSaid : Prop := fnExactWriteRow.holds Tryz.pinned (OpenSpec.ofChange fnExactWriteSpec)

/-- ITS FALSE NEIGHBOUR: 'it returns false'. Refute it at one input. -/
def fnExactWriteWrong : ChangeSpec := { name := "fnExactWrite", fn := fun _ => fun
  | [d1, d2, d3, d4] => { results := [.lit (.bool false)], args := [d1, d2, d3, d4] }
  | _ => none }
def FnExactWriteWrongFalsely : Prop := fnExactWriteRow.holds Tryz.pinned (OpenSpec.ofChange fnExactWriteWrong)

/-- 'laws.FnExactDiscard': WHATEVER THE INPUT: true; the input reads as it did. -/
def fnExactDiscardSpec : ChangeSpec := { name := "fnExactDiscard", fn := fun _ => fun
  | [d1, d2, d3] => { results := [.lit (.bool true)], args := [d1, d2, d3] }
  | _ => none }
def fnExactDiscardRow : OpenClaim := { program := "ytiinnfilgnhjfaagreat", sum := "4b3a52c3130f1eff9eede7d216c7bc49b69f7d6aca97e58f150fc7fadc682163", func := "loop.example/g00467/laws.FnExactDiscard", spec := "fnExactDiscard", unfollowed := true, recurses := true, apart := false }
def FnExactDiscardSaid : Prop := fnExactDiscardRow.holds Tryz.pinned (OpenSpec.ofChange fnExactDiscardSpec)

/-- ITS FALSE NEIGHBOUR: 'it returns false'. Refute it at one input. -/
def fnExactDiscardWrong : ChangeSpec := { name := "fnExactDiscard", fn := fun _ => fun
  | [d1, d2, d3] => { results := [.lit (.bool false)], args := [d1, d2, d3] }
  | _ => none }
def FnExactDiscardWrongFalsely : Prop := fnExactDiscardRow.holds Tryz.pinned (OpenSpec.ofChange fnExactDiscardWrong)

/-- 'laws.FnExactResize': WHATEVER THE INPUT: true; the input reads as it did. -/
def fnExactResizeSpec : ChangeSpec := { name := "fnExactResize", fn := fun _ => fun
  | [d1, d2, d3] => { results := [.lit (.bool true)], args := [d1, d2, d3] }
  | _ => none }
def fnExactResizeRow : OpenClaim := { program := "ytiinnfilgnhjfaagreat", sum := "4b3a52c3130f1eff9eede7d216c7bc49b69f7d6aca97e58f150fc7fadc682163", func := "loop.example/g00467/laws.FnExactResize", spec := "fnExactResize", unfollowed := true, recurses := true, apart := false }
def FnExactResizeSaid : Prop := fnExactResizeRow.holds Tryz.pinned (OpenSpec.ofChange fnExactResizeSpec)

/-- ITS FALSE NEIGHBOUR: 'it returns false'. Refute it at one input. -/
def fnExactResizeWrong : ChangeSpec := { name := "fnExactResize", fn := fun _ => fun
  | [d1, d2, d3] => { results := [.lit (.bool false)], args := [d1, d2, d3] }
  | _ => none }
def FnExactResizeWrongFalsely : Prop := fnExactResizeRow.holds Tryz.pinned (OpenSpec.ofChange fnExactResizeWrong)

/-- 'laws.FnExactPruneStep': WHATEVER THE INPUT: true; the input reads as it did. -/
def fnExactPruneStepSpec : ChangeSpec := { name := "fnExactPruneStep", fn := fun _ => fun
  | [d] => { results := [.lit (.bool true)], args := [d] }
  | _ => none }
def fnExactPruneStepRow : OpenClaim := { program := "ytiinnfilgnhjfaagreat", sum := "4b3a52c3130f1eff9eede7d216c7bc49b69f7d6aca97e58f150fc7fadc682163", func := "loop.example/g00467/laws.FnExactPruneStep", spec := "fnExactPruneStep", unfollowed := true, recurses := true, apart := false }
def FnExactPruneStepSaid : Prop := fnExactPruneStepRow.holds Tryz.pinned (OpenSpec.ofChange fnExactPruneStepSpec)

/-- ITS FALSE NEIGHBOUR: 'it returns false'. Refute it at one input. -/
def fnExactPruneStepWrong : ChangeSpec := { name := "fnExactPruneStep", fn := fun _ => fun
  | [d] => { results := [.lit (.bool false)], args := [d] }
  | _ => none }
def FnExactPruneStepWrongFalsely : Prop := fnExactPruneStepRow.holds Tryz.pinned (OpenSpec.ofChange fnExactPruneStepWrong)

/- THE SECOND FORM. 'bulk': how many values and letters a reading holds, each counted each time it is reached (what is shared counts as often as it is met; a slice's spare places count too). A statement '..UptoSaid' is the law's where the arguments, and the package variables that the reading takes, are together of bulk at most 1048576: NARROWER than '..Said'. Prove '..Said' where nothing that the law and all that it calls make is longer than what came in: it says more and counts as full. Else prove '..UptoSaid'. A law counts once. -/
mutual
def uptoBulk {H : Type} : DataW H → Nat
  | .lit (.string bytes) => bytes.length + 1
  | .lit _ => 1
  | .nil => 1
  | .ptr d => uptoBulk d + 1
  | .slice elems spare => uptoBulkAll elems + uptoBulkAll spare + 1
  | .agg parts => uptoBulkAll parts + 1
  | .iface _ d => uptoBulk d + 1
  | .map entries => uptoBulkEntries entries + 1
  | .held _ => 1
def uptoBulkAll {H : Type} : List (DataW H) → Nat
  | [] => 0
  | d :: r => uptoBulk d + uptoBulkAll r
def uptoBulkEntries {H : Type} : List (Lit × DataW H) → Nat
  | [] => 0
  | x :: r => uptoBulkEntry x + uptoBulkEntries r
def uptoBulkEntry {H : Type} : Lit × DataW H → Nat
  | (.string bytes, d) => bytes.length + uptoBulk d + 1
  | (_, d) => uptoBulk d + 1
 end
def uptoSmall : (H : Type) → List (DataW H) → Bool := fun _ ds => decide (uptoBulkAll ds ≤ 1048576)
def OpenSpec.upto (s : _root_.Go.ChangeSpec) : _root_.Go.OpenSpec := { _root_.Go.OpenSpec.ofChange s with cond := some uptoSmall }

/-- 'laws.FnExactPruneAll', WHERE WHAT IT READS IS OF BULK AT MOST 1048576: true; the input reads as it did. -/
def fnExactPruneAllUptoRow : OpenClaim := { program := "ytiinnfilgnhjfaagreat", sum := "4b3a52c3130f1eff9eede7d216c7bc49b69f7d6aca97e58f150fc7fadc682163", func := "loop.example/g00467/laws.FnExactPruneAll", spec := "fnExactPruneAll", unfollowed := true, recurses := true, apart := false, narrowed := true }
def FnExactPruneAllUptoSaid : Prop := fnExactPruneAllUptoRow.holds Tryz.pinned (OpenSpec.upto fnExactPruneAllSpec)

/-- 'laws.FnExactApply', WHERE WHAT IT READS IS OF BULK AT MOST 1048576: true; the input reads as it did. -/
def fnExactApplyUptoRow : OpenClaim := { program := "ytiinnfilgnhjfaagreat", sum := "4b3a52c3130f1eff9eede7d216c7bc49b69f7d6aca97e58f150fc7fadc682163", func := "loop.example/g00467/laws.FnExactApply", spec := "fnExactApply", inPlace := ["slices.overlaps[loop.example/g00467/impl.Age]"], unfollowed := true, recurses := true, apart := false, narrowed := true }
def FnExactApplyUptoSaid : Prop := fnExactApplyUptoRow.holds Tryz.pinned (OpenSpec.upto fnExactApplySpec)

/-- 'laws.FnExactApplyAll', WHERE WHAT IT READS IS OF BULK AT MOST 1048576: true; the input reads as it did. -/
def fnExactApplyAllUptoRow : OpenClaim := { program := "ytiinnfilgnhjfaagreat", sum := "4b3a52c3130f1eff9eede7d216c7bc49b69f7d6aca97e58f150fc7fadc682163", func := "loop.example/g00467/laws.FnExactApplyAll", spec := "fnExactApplyAll", inPlace := ["slices.overlaps[loop.example/g00467/impl.Age]"], unfollowed := true, recurses := true, apart := false, narrowed := true }
def FnExactApplyAllUptoSaid : Prop := fnExactApplyAllUptoRow.holds Tryz.pinned (OpenSpec.upto fnExactApplyAllSpec)

/-- 'laws.FnExactMoveStep', WHERE WHAT IT READS IS OF BULK AT MOST 1048576: true; the input reads as it did. -/
def fnExactMoveStepUptoRow : OpenClaim := { program := "ytiinnfilgnhjfaagreat", sum := "4b3a52c3130f1eff9eede7d216c7bc49b69f7d6aca97e58f150fc7fadc682163", func := "loop.example/g00467/laws.FnExactMoveStep", spec := "fnExactMoveStep", unfollowed := true, recurses := true, apart := false, narrowed := true }
def FnExactMoveStepUptoSaid : Prop := fnExactMoveStepUptoRow.holds Tryz.pinned (OpenSpec.upto fnExactMoveStepSpec)

/-- 'laws.FnExactMoveAll', WHERE WHAT IT READS IS OF BULK AT MOST 1048576: true; the input reads as it did. -/
def fnExactMoveAllUptoRow : OpenClaim := { program := "ytiinnfilgnhjfaagreat", sum := "4b3a52c3130f1eff9eede7d216c7bc49b69f7d6aca97e58f150fc7fadc682163", func := "loop.example/g00467/laws.FnExactMoveAll", spec := "fnExactMoveAll", unfollowed := true, recurses := true, apart := false, narrowed := true }
def FnExactMoveAllUptoSaid : Prop := fnExactMoveAllUptoRow.holds Tryz.pinned (OpenSpec.upto fnExactMoveAllSpec)

/-- 'laws.FnExactWrite', WHERE WHAT IT READS IS OF BULK AT MOST 1048576: true; the input reads as it did. -/
def fnExactWriteUptoRow : OpenClaim := { program := "ytiinnfilgnhjfaagreat", sum := "4b3a52c3130f1eff9eede7d216c7bc49b69f7d6aca97e58f150fc7fadc682163", func := "loop.example/g00467/laws.FnExactWrite", spec := "fnExactWrite", unfollowed := true, recurses := true, apart := false, narrowed := true }
def FnExactWriteUptoSaid : Prop := fnExactWriteUptoRow.holds Tryz.pinned (OpenSpec.upto fnExactWriteSpec)

/-- 'laws.FnExactDiscard', WHERE WHAT IT READS IS OF BULK AT MOST 1048576: true; the input reads as it did. -/
def fnExactDiscardUptoRow : OpenClaim := { program := "ytiinnfilgnhjfaagreat", sum := "4b3a52c3130f1eff9eede7d216c7bc49b69f7d6aca97e58f150fc7fadc682163", func := "loop.example/g00467/laws.FnExactDiscard", spec := "fnExactDiscard", unfollowed := true, recurses := true, apart := false, narrowed := true }
def FnExactDiscardUptoSaid : Prop := fnExactDiscardUptoRow.holds Tryz.pinned (OpenSpec.upto fnExactDiscardSpec)

/-- 'laws.FnExactResize', WHERE WHAT IT READS IS OF BULK AT MOST 1048576: true; the input reads as it did. -/
def fnExactResizeUptoRow : OpenClaim := { program := "ytiinnfilgnhjfaagreat", sum := "4b3a52c3130f1eff9eede7d216c7bc49b69f7d6aca97e58f150fc7fadc682163", func := "loop.example/g00467/laws.FnExactResize", spec := "fnExactResize", unfollowed := true, recurses := true, apart := false, narrowed := true }
def FnExactResizeUptoSaid : Prop := fnExactResizeUptoRow.holds Tryz.pinned (OpenSpec.upto fnExactResizeSpec)

/-- 'laws.FnExactPruneStep', WHERE WHAT IT READS IS OF BULK AT MOST 1048576: true; the input reads as it did. -/
def fnExactPruneStepUptoRow : OpenClaim := { program := "ytiinnfilgnhjfaagreat", sum := "4b3a52c3130f1eff9eede7d216c7bc49b69f7d6aca97e58f150fc7fadc682163", func := "loop.example/g00467/laws.FnExactPruneStep", spec := "fnExactPruneStep", unfollowed := true, recurses := true, apart := false, narrowed := true }
def FnExactPruneStepUptoSaid : Prop := fnExactPruneStepUptoRow.holds Tryz.pinned (OpenSpec.upto fnExactPruneStepSpec)

end Rows
end Go.Proofs.YtiinnfilgnhjfaaGreat
