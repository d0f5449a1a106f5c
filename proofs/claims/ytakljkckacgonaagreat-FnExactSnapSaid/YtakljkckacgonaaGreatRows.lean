/-
  No cell of these rows narrows 'for every input' (looked for: loops, veiled, ifaces, maps, wideKeys, modest, calm, conditions, laid).
  DERIVED. THE GIVEN ROWS OF THIS SEAT. 7 by the template 'for every input the law returns true; each argument reads behind the call as it read before'; 0 by the template 'total and deterministic' (their statements: YtakljkckacgonaaGreatTotals.lean).
  GIVEN WITH THE SEED: the statements are not yours to turn. If you find one false, say at which input.
  Laid BY PROGRAM, IN A SANDBOX (cutbox-rows.mjs): the forced cells as the released guide's own fill.sh prints them over the translation 757e75c1c999c67e… (all of the seat's roots in one cut). By AI agents, Wed Nov 11 2026. No macro, syntax, notation, axiom, sorry.
-/
import Derived.Test.YtakljkckacgonaaGreatChecked
import GoSem.Claim
import GoSem.ClaimJoined
import GoSem.ClaimMapViews
import Derived.JoinedTies
import Derived.KernelRfl
namespace Go.Proofs.YtakljkckacgonaaGreat
/- THE CELL 'sum', in the pinned program and in every row, IS THE sha256 OF THE DUMP (.gsa) THAT YtakljkckacgonaaGreatProg.lean LOADS. Nothing in Lean hashes anything: it is a label: what it is worth is what the hold of that sum in a sandbox is worth. -/
noncomputable def Tryz.pinned : Pinned := { name := "ytakljkckacgonaagreat", sum := "757e75c1c999c67e41c3f8176fec0754a7df11c5014808d730d342b916ab868d", checked := Tryz.checked }
namespace Rows
def none {H : Type} : Left H := { results := [], args := [] }

/-- 'laws.FnExactCreate': WHATEVER THE INPUT: true; the input reads as it did. -/
def fnExactCreateSpec : ChangeSpec := { name := "fnExactCreate", fn := fun _ => fun
  | [d1, d2, d3] => { results := [.lit (.bool true)], args := [d1, d2, d3] }
  | _ => none }
def fnExactCreateRow : OpenClaim := { program := "ytakljkckacgonaagreat", sum := "757e75c1c999c67e41c3f8176fec0754a7df11c5014808d730d342b916ab868d", func := "loop.example/g00467/laws.FnExactCreate", spec := "fnExactCreate", inPlace := ["slices.overlaps[loop.example/g00467/impl.Age]"], unfollowed := true, recurses := true, apart := false }
def FnExactCreateSaid : Prop := fnExactCreateRow.holds Tryz.pinned (OpenSpec.ofChange fnExactCreateSpec)

/-- ITS FALSE NEIGHBOUR: 'it returns false'. Refute it at one input. -/
def fnExactCreateWrong : ChangeSpec := { name := "fnExactCreate", fn := fun _ => fun
  | [d1, d2, d3] => { results := [.lit (.bool false)], args := [d1, d2, d3] }
  | _ => none }
def FnExactCreateWrongFalsely : Prop := fnExactCreateRow.holds Tryz.pinned (OpenSpec.ofChange fnExactCreateWrong)

/-- 'laws.FnExactSnap': WHATEVER THE INPUT: true; the input reads as it did. -/
def fnExactSnapSpec : ChangeSpec := { name := "fnExactSnap", fn := fun _ => fun
  | [d1, d2, d3, d4] => { results := [.lit (.bool true)], args := [d1, d2, d3, d4] }
  | _ => none }
def fnExactSnapRow : OpenClaim := { program := "ytakljkckacgonaagreat", sum := "757e75c1c999c67e41c3f8176fec0754a7df11c5014808d730d342b916ab868d", func := "loop.example/g00467/laws.FnExactSnap", spec := "fnExactSnap", inPlace := ["slices.overlaps[loop.example/g00467/impl.Age]"], unfollowed := true, recurses := true, apart := false }
def FnExactSnapSaid : Prop := fnExactSnapRow.holds Tryz.pinned (OpenSpec.ofChange fnExactSnapSpec)

/-- ITS FALSE NEIGHBOUR: 'it returns false'. Refute it at one input. -/
def fnExactSnapWrong : ChangeSpec := { name := "fnExactSnap", fn := fun _ => fun
  | [d1, d2, d3, d4] => { results := [.lit (.bool false)], args := [d1, d2, d3, d4] }
  | _ => none }
def FnExactSnapWrongFalsely : Prop := fnExactSnapRow.holds Tryz.pinned (OpenSpec.ofChange fnExactSnapWrong)

/-- 'laws.FnExactWrite': WHATEVER THE INPUT: true; the input reads as it did. -/
def fnExactWriteSpec : ChangeSpec := { name := "fnExactWrite", fn := fun _ => fun
  | [d1, d2, d3, d4] => { results := [.lit (.bool true)], args := [d1, d2, d3, d4] }
  | _ => none }
def fnExactWriteRow : OpenClaim := { program := "ytakljkckacgonaagreat", sum := "757e75c1c999c67e41c3f8176fec0754a7df11c5014808d730d342b916ab868d", func := "loop.example/g00467/laws.FnExactWrite", spec := "fnExactWrite", unfollowed := true, recurses := true, apart := false }
def FnExactWriteSaid : Prop := fnExactWriteRow.holds Tryz.pinned (OpenSpec.ofChange fnExactWriteSpec)

/-- ITS FALSE NEIGHBOUR: 'it returns false'. Refute it at one input. -/
def fnExactWriteWrong : ChangeSpec := { name := "fnExactWrite", fn := fun _ => fun
  | [d1, d2, d3, d4] => { results := [.lit (.bool false)], args := [d1, d2, d3, d4] }
  | _ => none }
def FnExactWriteWrongFalsely : Prop := fnExactWriteRow.holds Tryz.pinned (OpenSpec.ofChange fnExactWriteWrong)

/-- 'laws.FnExactDiscard': WHATEVER THE INPUT: true; the input reads as it did. -/
def fnExactDiscardSpec : ChangeSpec := { name := "fnExactDiscard", fn := fun _ => fun
  | [d1, d2, d3] => { results := [.lit (.bool true)], args := [d1, d2, d3] }
  | _ => none }
def fnExactDiscardRow : OpenClaim := { program := "ytakljkckacgonaagreat", sum := "757e75c1c999c67e41c3f8176fec0754a7df11c5014808d730d342b916ab868d", func := "loop.example/g00467/laws.FnExactDiscard", spec := "fnExactDiscard", unfollowed := true, recurses := true, apart := false }
def FnExactDiscardSaid : Prop := fnExactDiscardRow.holds Tryz.pinned (OpenSpec.ofChange fnExactDiscardSpec)

/-- ITS FALSE NEIGHBOUR: 'it returns false'. Refute it at one input. -/
def fnExactDiscardWrong : ChangeSpec := { name := "fnExactDiscard", fn := fun _ => fun
  | [d1, d2, d3] => { results := [.lit (.bool false)], args := [d1, d2, d3] }
  | _ => none }
def FnExactDiscardWrongFalsely : Prop := fnExactDiscardRow.holds Tryz.pinned (OpenSpec.ofChange fnExactDiscardWrong)

/-- 'laws.FnExactResize': WHATEVER THE INPUT: true; the input reads as it did. -/
def fnExactResizeSpec : ChangeSpec := { name := "fnExactResize", fn := fun _ => fun
  | [d1, d2, d3] => { results := [.lit (.bool true)], args := [d1, d2, d3] }
  | _ => none }
def fnExactResizeRow : OpenClaim := { program := "ytakljkckacgonaagreat", sum := "757e75c1c999c67e41c3f8176fec0754a7df11c5014808d730d342b916ab868d", func := "loop.example/g00467/laws.FnExactResize", spec := "fnExactResize", unfollowed := true, recurses := true, apart := false }
def FnExactResizeSaid : Prop := fnExactResizeRow.holds Tryz.pinned (OpenSpec.ofChange fnExactResizeSpec)

/-- ITS FALSE NEIGHBOUR: 'it returns false'. Refute it at one input. -/
def fnExactResizeWrong : ChangeSpec := { name := "fnExactResize", fn := fun _ => fun
  | [d1, d2, d3] => { results := [.lit (.bool false)], args := [d1, d2, d3] }
  | _ => none }
def FnExactResizeWrongFalsely : Prop := fnExactResizeRow.holds Tryz.pinned (OpenSpec.ofChange fnExactResizeWrong)

/-- 'laws.FnExactMoveStep': WHATEVER THE INPUT: true; the input reads as it did. -/
def fnExactMoveStepSpec : ChangeSpec := { name := "fnExactMoveStep", fn := fun _ => fun
  | [d1, d2] => { results := [.lit (.bool true)], args := [d1, d2] }
  | _ => none }
def fnExactMoveStepRow : OpenClaim := { program := "ytakljkckacgonaagreat", sum := "757e75c1c999c67e41c3f8176fec0754a7df11c5014808d730d342b916ab868d", func := "loop.example/g00467/laws.FnExactMoveStep", spec := "fnExactMoveStep", unfollowed := true, recurses := true, apart := false }
def FnExactMoveStepSaid : Prop := fnExactMoveStepRow.holds Tryz.pinned (OpenSpec.ofChange fnExactMoveStepSpec)

/-- ITS FALSE NEIGHBOUR: 'it returns false'. Refute it at one input. -/
def fnExactMoveStepWrong : ChangeSpec := { name := "fnExactMoveStep", fn := fun _ => fun
  | [d1, d2] => { results := [.lit (.bool false)], args := [d1, d2] }
  | _ => none }
def FnExactMoveStepWrongFalsely : Prop := fnExactMoveStepRow.holds Tryz.pinned (OpenSpec.ofChange fnExactMoveStepWrong)

/-- 'laws.FnExactMoveAll': WHATEVER THE INPUT: true; the input reads as it did. -/
def fnExactMoveAllSpec : ChangeSpec := { name := "fnExactMoveAll", fn := fun _ => fun
  | [d] => { results := [.lit (.bool true)], args := [d] }
  | _ => none }
def fnExactMoveAllRow : OpenClaim := { program := "ytakljkckacgonaagreat", sum := "757e75c1c999c67e41c3f8176fec0754a7df11c5014808d730d342b916ab868d", func := "loop.example/g00467/laws.FnExactMoveAll", spec := "fnExactMoveAll", unfollowed := true, recurses := true, apart := false }
def FnExactMoveAllSaid : Prop := fnExactMoveAllRow.holds Tryz.pinned (OpenSpec.ofChange fnExactMoveAllSpec)

/-- ITS FALSE NEIGHBOUR: 'it returns false'. Refute it at one input. -/
def fnExactMoveAllWrong : ChangeSpec := { name := "fnExactMoveAll", fn := fun _ => fun
  | [d] => { results := [.lit (.bool false)], args := [d] }
  | _ => none }
def FnExactMoveAllWrongFalsely : Prop := fnExactMoveAllRow.holds Tryz.pinned (OpenSpec.ofChange fnExactMoveAllWrong)

/- THE SECOND FORM. 'bulk': how many values and letters a reading holds, each counted each time it is reached (what is shared counts as often as it is met; a slice's spare places count too). A statement '..UptoSaid' is the law's where the arguments, and the package variables that the reading takes, are together of bulk at most 1048576: NARROWER than '..Said'. Prove '..Said' where nothing that the law and all that it calls make is longer than what came in: it says more and counts as full. Else prove '..UptoSaid'. A law counts once. -/
mutual
def uptoBulk {H : Type} : DataW H → Nat
  | .lit (.string bytes) => bytes.length + 1
  | .lit _ => 1
  | .nil => 1
  | .ptr d => uptoBulk d + 1
  | .slice elems spare => uptoBulkAll elems + uptoBulkAll spare + 1
  | .agg parts => uptoBulkAll parts + 1
  | .iface _ d => uptoBulk d + 1
  | .map entries => uptoBulkEntries entries + 1
  | .held _ => 1
def uptoBulkAll {H : Type} : List (DataW H) → Nat
  | [] => 0
  | d :: r => uptoBulk d + uptoBulkAll r
def uptoBulkEntries {H : Type} : List (Lit × DataW H) → Nat
  | [] => 0
  | x :: r => uptoBulkEntry x + uptoBulkEntries r
def uptoBulkEntry {H : Type} : Lit × DataW H → Nat
  | (.string bytes, d) => bytes.length + uptoBulk d + 1
  | (_, d) => uptoBulk d + 1
 end
def uptoSmall : (H : Type) → List (DataW H) → Bool := fun _ ds => decide (uptoBulkAll ds ≤ 1048576)
def OpenSpec.upto (s : _root_.Go.ChangeSpec) : _root_.Go.OpenSpec := { _root_.Go.OpenSpec.ofChange s with cond := some uptoSmall }

/-- 'laws.FnExactCreate', WHERE WHAT IT READS IS OF BULK AT MOST 1048576: true; the input reads as it did. -/
def fnExactCreateUptoRow : OpenClaim := { program := "ytakljkckacgonaagreat", sum := "757e75c1c999c67e41c3f8176fec0754a7df11c5014808d730d342b916ab868d", func := "loop.example/g00467/laws.FnExactCreate", spec := "fnExactCreate", inPlace := ["slices.overlaps[loop.example/g00467/impl.Age]"], unfollowed := true, recurses := true, apart := false, narrowed := true }
def FnExactCreateUptoSaid : Prop := fnExactCreateUptoRow.holds Tryz.pinned (OpenSpec.upto fnExactCreateSpec)

/-- 'laws.FnExactSnap', WHERE WHAT IT READS IS OF BULK AT MOST 1048576: true; the input reads as it did. -/
def fnExactSnapUptoRow : OpenClaim := { program := "ytakljkckacgonaagreat", sum := "757e75c1c999c67e41c3f8176fec0754a7df11c5014808d730d342b916ab868d", func := "loop.example/g00467/laws.FnExactSnap", spec := "fnExactSnap", inPlace := ["slices.overlaps[loop.example/g00467/impl.Age]"], unfollowed := true, recurses := true, apart := false, narrowed := true }
def FnExactSnapUptoSaid : Prop := fnExactSnapUptoRow.holds Tryz.pinned (OpenSpec.upto fnExactSnapSpec)

/-- 'laws.FnExactWrite', WHERE WHAT IT READS IS OF BULK AT MOST 1048576: true; the input reads as it did. -/
def fnExactWriteUptoRow : OpenClaim := { program := "ytakljkckacgonaagreat", sum := "757e75c1c999c67e41c3f8176fec0754a7df11c5014808d730d342b916ab868d", func := "loop.example/g00467/laws.FnExactWrite", spec := "fnExactWrite", unfollowed := true, recurses := true, apart := false, narrowed := true }
def FnExactWriteUptoSaid : Prop := fnExactWriteUptoRow.holds Tryz.pinned (OpenSpec.upto fnExactWriteSpec)

/-- 'laws.FnExactDiscard', WHERE WHAT IT READS IS OF BULK AT MOST 1048576: true; the input reads as it did. -/
def fnExactDiscardUptoRow : OpenClaim := { program := "ytakljkckacgonaagreat", sum := "757e75c1c999c67e41c3f8176fec0754a7df11c5014808d730d342b916ab868d", func := "loop.example/g00467/laws.FnExactDiscard", spec := "fnExactDiscard", unfollowed := true, recurses := true, apart := false, narrowed := true }
def FnExactDiscardUptoSaid : Prop := fnExactDiscardUptoRow.holds Tryz.pinned (OpenSpec.upto fnExactDiscardSpec)

/-- 'laws.FnExactResize', WHERE WHAT IT READS IS OF BULK AT MOST 1048576: true; the input reads as it did. -/
def fnExactResizeUptoRow : OpenClaim := { program := "ytakljkckacgonaagreat", sum := "757e75c1c999c67e41c3f8176fec0754a7df11c5014808d730d342b916ab868d", func := "loop.example/g00467/laws.FnExactResize", spec := "fnExactResize", unfollowed := true, recurses := true, apart := false, narrowed := true }
def FnExactResizeUptoSaid : Prop := fnExactResizeUptoRow.holds Tryz.pinned (OpenSpec.upto fnExactResizeSpec)

/-- 'laws.FnExactMoveStep', WHERE WHAT IT READS IS OF BULK AT MOST 1048576: true; the input reads as it did. -/
def fnExactMoveStepUptoRow : OpenClaim := { program := "ytakljkckacgonaagreat", sum := "757e75c1c999c67e41c3f8176fec0754a7df11c5014808d730d342b916ab868d", func := "loop.example/g00467/laws.FnExactMoveStep", spec := "fnExactMoveStep", unfollowed := true, recurses := true, apart := false, narrowed := true }
def FnExactMoveStepUptoSaid : Prop := fnExactMoveStepUptoRow.holds Tryz.pinned (OpenSpec.upto fnExactMoveStepSpec)

/-- 'laws.FnExactMoveAll', WHERE WHAT IT READS IS OF BULK AT MOST 1048576: true; the input reads as it did. -/
def fnExactMoveAllUptoRow : OpenClaim := { program := "ytakljkckacgonaagreat", sum := "757e75c1c999c67e41c3f8176fec0754a7df11c5014808d730d342b916ab868d", func := "loop.example/g00467/laws.FnExactMoveAll", spec := "fnExactMoveAll", unfollowed := true, recurses := true, apart := false, narrowed := true }
def FnExactMoveAllUptoSaid : Prop := fnExactMoveAllUptoRow.holds Tryz.pinned (OpenSpec.upto fnExactMoveAllSpec)

end Rows
end Go.Proofs.YtakljkckacgonaaGreat
