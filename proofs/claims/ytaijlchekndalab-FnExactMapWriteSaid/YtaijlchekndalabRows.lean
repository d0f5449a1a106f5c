/-
  No cell of these rows narrows 'for every input' (looked for: loops, veiled, ifaces, maps, wideKeys, modest, calm, conditions, laid).
  DERIVED. THE GIVEN ROWS OF THIS SEAT. 3 by the template 'for every input the law returns true; each argument reads behind the call as it read before'; 0 by the template 'total and deterministic' (their statements: YtaijlchekndalabTotals.lean).
  GIVEN WITH THE SEED: the statements are not yours to turn. If you find one false, say at which input.
  Laid BY PROGRAM, IN A SANDBOX (cutbox-rows.mjs): the forced cells as the released guide's own fill.sh prints them over the translation 7eb49a7b672fd577… (all of the seat's roots in one cut). By AI agents, Wed Nov 11 2026. No macro, syntax, notation, axiom, sorry.
-/
import Derived.Test.YtaijlchekndalabChecked
import GoSem.Claim
import GoSem.ClaimJoined
import GoSem.ClaimMapViews
import Derived.JoinedTies
import Derived.KernelRfl
namespace Go.Proofs.Ytaijlchekndalab
/- THE CELL 'sum', in the pinned program and in every row, IS THE sha256 OF THE DUMP (.gsa) THAT YtaijlchekndalabProg.lean LOADS. Nothing in Lean hashes anything: it is a label: what it is worth is what the hold of that sum in a sandbox is worth. -/
noncomputable def Try.pinned : Pinned := { name := "ytaijlchekndalab", sum := "7eb49a7b672fd5774e98ae216de28d1589e6f152810f0a98e826fb3ca757422c", checked := Try.checked }
namespace Rows
def none {H : Type} : Left H := { results := [], args := [] }

/-- 'laws.FnExactSameMaps': WHATEVER THE INPUT: true; the input reads as it did. -/
def fnExactSameMapsSpec : ChangeSpec := { name := "fnExactSameMaps", fn := fun _ => fun
  | [d1, d2] => { results := [.lit (.bool true)], args := [d1, d2] }
  | _ => none }
def fnExactSameMapsRow : OpenClaim := { program := "ytaijlchekndalab", sum := "7eb49a7b672fd5774e98ae216de28d1589e6f152810f0a98e826fb3ca757422c", func := "loop.example/g00467/laws.FnExactSameMaps", spec := "fnExactSameMaps", unfollowed := true, recurses := true, apart := false }
def FnExactSameMapsSaid : Prop := fnExactSameMapsRow.holds Try.pinned (OpenSpec.ofChange fnExactSameMapsSpec)

/-- ITS FALSE NEIGHBOUR: 'it returns false'. Refute it at one input. -/
def fnExactSameMapsWrong : ChangeSpec := { name := "fnExactSameMaps", fn := fun _ => fun
  | [d1, d2] => { results := [.lit (.bool false)], args := [d1, d2] }
  | _ => none }
def FnExactSameMapsWrongFalsely : Prop := fnExactSameMapsRow.holds Try.pinned (OpenSpec.ofChange fnExactSameMapsWrong)

/-- 'laws.FnExactMapWrite': WHATEVER THE INPUT: true; the input reads as it did. -/
def fnExactMapWriteSpec : ChangeSpec := { name := "fnExactMapWrite", fn := fun _ => fun
  | [d1, d2, d3, d4] => { results := [.lit (.bool true)], args := [d1, d2, d3, d4] }
  | _ => none }
def fnExactMapWriteRow : OpenClaim := { program := "ytaijlchekndalab", sum := "7eb49a7b672fd5774e98ae216de28d1589e6f152810f0a98e826fb3ca757422c", func := "loop.example/g00467/laws.FnExactMapWrite", spec := "fnExactMapWrite", unfollowed := true, recurses := true, apart := false }
def FnExactMapWriteSaid : Prop := fnExactMapWriteRow.holds Try.pinned (OpenSpec.ofChange fnExactMapWriteSpec)

/-- ITS FALSE NEIGHBOUR: 'it returns false'. Refute it at one input. -/
def fnExactMapWriteWrong : ChangeSpec := { name := "fnExactMapWrite", fn := fun _ => fun
  | [d1, d2, d3, d4] => { results := [.lit (.bool false)], args := [d1, d2, d3, d4] }
  | _ => none }
def FnExactMapWriteWrongFalsely : Prop := fnExactMapWriteRow.holds Try.pinned (OpenSpec.ofChange fnExactMapWriteWrong)

/-- 'laws.FnExactGetOp': WHATEVER THE INPUT: true; the input reads as it did. -/
def fnExactGetOpSpec : ChangeSpec := { name := "fnExactGetOp", fn := fun _ => fun
  | [d1, d2] => { results := [.lit (.bool true)], args := [d1, d2] }
  | _ => none }
def fnExactGetOpRow : OpenClaim := { program := "ytaijlchekndalab", sum := "7eb49a7b672fd5774e98ae216de28d1589e6f152810f0a98e826fb3ca757422c", func := "loop.example/g00467/laws.FnExactGetOp", spec := "fnExactGetOp", apart := false }
def FnExactGetOpSaid : Prop := fnExactGetOpRow.holds Try.pinned (OpenSpec.ofChange fnExactGetOpSpec)

/-- ITS FALSE NEIGHBOUR: 'it returns false'. Refute it at one input. -/
def fnExactGetOpWrong : ChangeSpec := { name := "fnExactGetOp", fn := fun _ => fun
  | [d1, d2] => { results := [.lit (.bool false)], args := [d1, d2] }
  | _ => none }
def FnExactGetOpWrongFalsely : Prop := fnExactGetOpRow.holds Try.pinned (OpenSpec.ofChange fnExactGetOpWrong)

/- THE SECOND FORM. 'bulk': how many values and letters a reading holds, each counted each time it is reached (what is shared counts as often as it is met; a slice's spare places count too). A statement '..UptoSaid' is the law's where the arguments, and the package variables that the reading takes, are together of bulk at most 1048576: NARROWER than '..Said'. Prove '..Said' where nothing that the law and all that it calls make is longer than what came in: it says more and counts as full. Else prove '..UptoSaid'. A law counts once. -/
mutual
def uptoBulk {H : Type} : DataW H → Nat
  | .lit (.string bytes) => bytes.length + 1
  | .lit _ => 1
  | .nil => 1
  | .ptr d => uptoBulk d + 1
  | .slice elems spare => uptoBulkAll elems + uptoBulkAll spare + 1
  | .agg parts => uptoBulkAll parts + 1
  | .iface _ d => uptoBulk d + 1
  | .map entries => uptoBulkEntries entries + 1
  | .held _ => 1
def uptoBulkAll {H : Type} : List (DataW H) → Nat
  | [] => 0
  | d :: r => uptoBulk d + uptoBulkAll r
def uptoBulkEntries {H : Type} : List (Lit × DataW H) → Nat
  | [] => 0
  | x :: r => uptoBulkEntry x + uptoBulkEntries r
def uptoBulkEntry {H : Type} : Lit × DataW H → Nat
  | (.string bytes, d) => bytes.length + uptoBulk d + 1
  | (_, d) => uptoBulk d + 1
 end
def uptoSmall : (H : Type) → List (DataW H) → Bool := fun _ ds => decide (uptoBulkAll ds ≤ 1048576)
def OpenSpec.upto (s : _root_.Go.ChangeSpec) : _root_.Go.OpenSpec := { _root_.Go.OpenSpec.ofChange s with cond := some uptoSmall }

/-- 'laws.FnExactSameMaps', WHERE WHAT IT READS IS OF BULK AT MOST 1048576: true; the input reads as it did. -/
def fnExactSameMapsUptoRow : OpenClaim := { program := "ytaijlchekndalab", sum := "7eb49a7b672fd5774e98ae216de28d1589e6f152810f0a98e826fb3ca757422c", func := "loop.example/g00467/laws.FnExactSameMaps", spec := "fnExactSameMaps", unfollowed := true, recurses := true, apart := false, narrowed := true }
def FnExactSameMapsUptoSaid : Prop := fnExactSameMapsUptoRow.holds Try.pinned (OpenSpec.upto fnExactSameMapsSpec)

/-- 'laws.FnExactMapWrite', WHERE WHAT IT READS IS OF BULK AT MOST 1048576: true; the input reads as it did. -/
def fnExactMapWriteUptoRow : OpenClaim := { program := "ytaijlchekndalab", sum := "7eb49a7b672fd5774e98ae216de28d1589e6f152810f0a98e826fb3ca757422c", func := "loop.example/g00467/laws.FnExactMapWrite", spec := "fnExactMapWrite", unfollowed := true, recurses := true, apart := false, narrowed := true }
def FnExactMapWriteUptoSaid : Prop := fnExactMapWriteUptoRow.holds Try.pinned (OpenSpec.upto fnExactMapWriteSpec)

/-- 'laws.FnExactGetOp', WHERE WHAT IT READS IS OF BULK AT MOST 1048576: true; the input reads as it did. -/
def fnExactGetOpUptoRow : OpenClaim := { program := "ytaijlchekndalab", sum := "7eb49a7b672fd5774e98ae216de28d1589e6f152810f0a98e826fb3ca757422c", func := "loop.example/g00467/laws.FnExactGetOp", spec := "fnExactGetOp", apart := false, narrowed := true }
def FnExactGetOpUptoSaid : Prop := fnExactGetOpUptoRow.holds Try.pinned (OpenSpec.upto fnExactGetOpSpec)

end Rows
end Go.Proofs.Ytaijlchekndalab
