/-
  No cell of these rows narrows 'for every input' (looked for: loops, veiled, ifaces, maps, wideKeys, modest, calm, conditions, laid).
  DERIVED. THE GIVEN ROWS OF THIS SEAT. 5 by the template 'for every input the law returns true; each argument reads behind the call as it read before'; 0 by the template 'total and deterministic' (their statements: YtakljkckacgonaaTotals.lean).
  GIVEN WITH THE SEED: the statements are not yours to turn. If you find one false, say at which input.
  Laid BY PROGRAM, IN A SANDBOX (cutbox-rows.mjs): the forced cells as the released guide's own fill.sh prints them over the translation a3cbcef427febdf1… (all of the seat's roots in one cut). By AI agents, Wed Nov 11 2026. No macro, syntax, notation, axiom, sorry.
-/
import Derived.Test.YtakljkckacgonaaChecked
import GoSem.Claim
import GoSem.ClaimJoined
import GoSem.ClaimMapViews
import Derived.JoinedTies
import Derived.KernelRfl
namespace Go.Proofs.Ytakljkckacgonaa
/- THE CELL 'sum', in the pinned program and in every row, IS THE sha256 OF THE DUMP (.gsa) THAT YtakljkckacgonaaProg.lean LOADS. Nothing in Lean hashes anything: it is a label: what it is worth is what the hold of that sum in a sandbox is worth. -/
noncomputable def Try.pinned : Pinned := { name := "ytakljkckacgonaa", sum := "a3cbcef427febdf1bf4636a5580c3b5add703d6e37faaa0ecc2d3d13a9db38cd", checked := Try.checked }
namespace Rows
def none {H : Type} : Left H := { results := [], args := [] }

/-- 'laws.FnExactMapCreate': WHATEVER THE INPUT: true; the input reads as it did. -/
def fnExactMapCreateSpec : ChangeSpec := { name := "fnExactMapCreate", fn := fun _ => fun
  | [d1, d2, d3] => { results := [.lit (.bool true)], args := [d1, d2, d3] }
  | _ => none }
def fnExactMapCreateRow : OpenClaim := { program := "ytakljkckacgonaa", sum := "a3cbcef427febdf1bf4636a5580c3b5add703d6e37faaa0ecc2d3d13a9db38cd", func := "loop.example/g00467/laws.FnExactMapCreate", spec := "fnExactMapCreate", inPlace := ["slices.overlaps[loop.example/g00467/impl.Map]"], unfollowed := true, recurses := true, apart := false }
def FnExactMapCreateSaid : Prop := fnExactMapCreateRow.holds Try.pinned (OpenSpec.ofChange fnExactMapCreateSpec)

/-- ITS FALSE NEIGHBOUR: 'it returns false'. Refute it at one input. -/
def fnExactMapCreateWrong : ChangeSpec := { name := "fnExactMapCreate", fn := fun _ => fun
  | [d1, d2, d3] => { results := [.lit (.bool false)], args := [d1, d2, d3] }
  | _ => none }
def FnExactMapCreateWrongFalsely : Prop := fnExactMapCreateRow.holds Try.pinned (OpenSpec.ofChange fnExactMapCreateWrong)

/-- 'laws.FnExactMapSnap': WHATEVER THE INPUT: true; the input reads as it did. -/
def fnExactMapSnapSpec : ChangeSpec := { name := "fnExactMapSnap", fn := fun _ => fun
  | [d1, d2, d3, d4] => { results := [.lit (.bool true)], args := [d1, d2, d3, d4] }
  | _ => none }
def fnExactMapSnapRow : OpenClaim := { program := "ytakljkckacgonaa", sum := "a3cbcef427febdf1bf4636a5580c3b5add703d6e37faaa0ecc2d3d13a9db38cd", func := "loop.example/g00467/laws.FnExactMapSnap", spec := "fnExactMapSnap", inPlace := ["slices.overlaps[loop.example/g00467/impl.Map]"], unfollowed := true, recurses := true, apart := false }
def FnExactMapSnapSaid : Prop := fnExactMapSnapRow.holds Try.pinned (OpenSpec.ofChange fnExactMapSnapSpec)

/-- ITS FALSE NEIGHBOUR: 'it returns false'. Refute it at one input. -/
def fnExactMapSnapWrong : ChangeSpec := { name := "fnExactMapSnap", fn := fun _ => fun
  | [d1, d2, d3, d4] => { results := [.lit (.bool false)], args := [d1, d2, d3, d4] }
  | _ => none }
def FnExactMapSnapWrongFalsely : Prop := fnExactMapSnapRow.holds Try.pinned (OpenSpec.ofChange fnExactMapSnapWrong)

/-- 'laws.FnExactMapKill': WHATEVER THE INPUT: true; the input reads as it did. -/
def fnExactMapKillSpec : ChangeSpec := { name := "fnExactMapKill", fn := fun _ => fun
  | [d1, d2] => { results := [.lit (.bool true)], args := [d1, d2] }
  | _ => none }
def fnExactMapKillRow : OpenClaim := { program := "ytakljkckacgonaa", sum := "a3cbcef427febdf1bf4636a5580c3b5add703d6e37faaa0ecc2d3d13a9db38cd", func := "loop.example/g00467/laws.FnExactMapKill", spec := "fnExactMapKill", unfollowed := true, recurses := true, apart := false }
def FnExactMapKillSaid : Prop := fnExactMapKillRow.holds Try.pinned (OpenSpec.ofChange fnExactMapKillSpec)

/-- ITS FALSE NEIGHBOUR: 'it returns false'. Refute it at one input. -/
def fnExactMapKillWrong : ChangeSpec := { name := "fnExactMapKill", fn := fun _ => fun
  | [d1, d2] => { results := [.lit (.bool false)], args := [d1, d2] }
  | _ => none }
def FnExactMapKillWrongFalsely : Prop := fnExactMapKillRow.holds Try.pinned (OpenSpec.ofChange fnExactMapKillWrong)

/-- 'laws.FnExactMapResize': WHATEVER THE INPUT: true; the input reads as it did. -/
def fnExactMapResizeSpec : ChangeSpec := { name := "fnExactMapResize", fn := fun _ => fun
  | [d1, d2, d3] => { results := [.lit (.bool true)], args := [d1, d2, d3] }
  | _ => none }
def fnExactMapResizeRow : OpenClaim := { program := "ytakljkckacgonaa", sum := "a3cbcef427febdf1bf4636a5580c3b5add703d6e37faaa0ecc2d3d13a9db38cd", func := "loop.example/g00467/laws.FnExactMapResize", spec := "fnExactMapResize", unfollowed := true, recurses := true, apart := false }
def FnExactMapResizeSaid : Prop := fnExactMapResizeRow.holds Try.pinned (OpenSpec.ofChange fnExactMapResizeSpec)

/-- ITS FALSE NEIGHBOUR: 'it returns false'. Refute it at one input. -/
def fnExactMapResizeWrong : ChangeSpec := { name := "fnExactMapResize", fn := fun _ => fun
  | [d1, d2, d3] => { results := [.lit (.bool false)], args := [d1, d2, d3] }
  | _ => none }
def FnExactMapResizeWrongFalsely : Prop := fnExactMapResizeRow.holds Try.pinned (OpenSpec.ofChange fnExactMapResizeWrong)

/-- 'laws.FnExactMapApply': WHATEVER THE INPUT: true; the input reads as it did. -/
def fnExactMapApplySpec : ChangeSpec := { name := "fnExactMapApply", fn := fun _ => fun
  | [d1, d2] => { results := [.lit (.bool true)], args := [d1, d2] }
  | _ => none }
def fnExactMapApplyRow : OpenClaim := { program := "ytakljkckacgonaa", sum := "a3cbcef427febdf1bf4636a5580c3b5add703d6e37faaa0ecc2d3d13a9db38cd", func := "loop.example/g00467/laws.FnExactMapApply", spec := "fnExactMapApply", inPlace := ["slices.overlaps[loop.example/g00467/impl.Map]"], unfollowed := true, recurses := true, apart := false }
def FnExactMapApplySaid : Prop := fnExactMapApplyRow.holds Try.pinned (OpenSpec.ofChange fnExactMapApplySpec)

/-- ITS FALSE NEIGHBOUR: 'it returns false'. Refute it at one input. -/
def fnExactMapApplyWrong : ChangeSpec := { name := "fnExactMapApply", fn := fun _ => fun
  | [d1, d2] => { results := [.lit (.bool false)], args := [d1, d2] }
  | _ => none }
def FnExactMapApplyWrongFalsely : Prop := fnExactMapApplyRow.holds Try.pinned (OpenSpec.ofChange fnExactMapApplyWrong)

/- THE SECOND FORM. 'bulk': how many values and letters a reading holds, each counted each time it is reached (what is shared counts as often as it is met; a slice's spare places count too). A statement '..UptoSaid' is the law's where the arguments, and the package variables that the reading takes, are together of bulk at most 1048576: NARROWER than '..Said'. Prove '..Said' where nothing that the law and all that it calls make is longer than what came in: it says more and counts as full. Else prove '..UptoSaid'. A law counts once. -/
mutual
def uptoBulk {H : Type} : DataW H → Nat
  | .lit (.string bytes) => bytes.length + 1
  | .lit _ => 1
  | .nil => 1
  | .ptr d => uptoBulk d + 1
  | .slice elems spare => uptoBulkAll elems + uptoBulkAll spare + 1
  | .agg parts => uptoBulkAll parts + 1
  | .iface _ d => uptoBulk d + 1
  | .map entries => uptoBulkEntries entries + 1
  | .held _ => 1
def uptoBulkAll {H : Type} : List (DataW H) → Nat
  | [] => 0
  | d :: r => uptoBulk d + uptoBulkAll r
def uptoBulkEntries {H : Type} : List (Lit × DataW H) → Nat
  | [] => 0
  | x :: r => uptoBulkEntry x + uptoBulkEntries r
def uptoBulkEntry {H : Type} : Lit × DataW H → Nat
  | (.string bytes, d) => bytes.length + uptoBulk d + 1
  | (_, d) => uptoBulk d + 1
 end
def uptoSmall : (H : Type) → List (DataW H) → Bool := fun _ ds => decide (uptoBulkAll ds ≤ 1048576)
def OpenSpec.upto (s : _root_.Go.ChangeSpec) : _root_.Go.OpenSpec := { _root_.Go.OpenSpec.ofChange s with cond := some uptoSmall }

/-- 'laws.FnExactMapCreate', WHERE WHAT IT READS IS OF BULK AT MOST 1048576: true; the input reads as it did. -/
def fnExactMapCreateUptoRow : OpenClaim := { program := "ytakljkckacgonaa", sum := "a3cbcef427febdf1bf4636a5580c3b5add703d6e37faaa0ecc2d3d13a9db38cd", func := "loop.example/g00467/laws.FnExactMapCreate", spec := "fnExactMapCreate", inPlace := ["slices.overlaps[loop.example/g00467/impl.Map]"], unfollowed := true, recurses := true, apart := false, narrowed := true }
def FnExactMapCreateUptoSaid : Prop := fnExactMapCreateUptoRow.holds Try.pinned (OpenSpec.upto fnExactMapCreateSpec)

/-- 'laws.FnExactMapSnap', WHERE WHAT IT READS IS OF BULK AT MOST 1048576: true; the input reads as it did. -/
def fnExactMapSnapUptoRow : OpenClaim := { program := "ytakljkckacgonaa", sum := "a3cbcef427febdf1bf4636a5580c3b5add703d6e37faaa0ecc2d3d13a9db38cd", func := "loop.example/g00467/laws.FnExactMapSnap", spec := "fnExactMapSnap", inPlace := ["slices.overlaps[loop.example/g00467/impl.Map]"], unfollowed := true, recurses := true, apart := false, narrowed := true }
def FnExactMapSnapUptoSaid : Prop := fnExactMapSnapUptoRow.holds Try.pinned (OpenSpec.upto fnExactMapSnapSpec)

/-- 'laws.FnExactMapKill', WHERE WHAT IT READS IS OF BULK AT MOST 1048576: true; the input reads as it did. -/
def fnExactMapKillUptoRow : OpenClaim := { program := "ytakljkckacgonaa", sum := "a3cbcef427febdf1bf4636a5580c3b5add703d6e37faaa0ecc2d3d13a9db38cd", func := "loop.example/g00467/laws.FnExactMapKill", spec := "fnExactMapKill", unfollowed := true, recurses := true, apart := false, narrowed := true }
def FnExactMapKillUptoSaid : Prop := fnExactMapKillUptoRow.holds Try.pinned (OpenSpec.upto fnExactMapKillSpec)

/-- 'laws.FnExactMapResize', WHERE WHAT IT READS IS OF BULK AT MOST 1048576: true; the input reads as it did. -/
def fnExactMapResizeUptoRow : OpenClaim := { program := "ytakljkckacgonaa", sum := "a3cbcef427febdf1bf4636a5580c3b5add703d6e37faaa0ecc2d3d13a9db38cd", func := "loop.example/g00467/laws.FnExactMapResize", spec := "fnExactMapResize", unfollowed := true, recurses := true, apart := false, narrowed := true }
def FnExactMapResizeUptoSaid : Prop := fnExactMapResizeUptoRow.holds Try.pinned (OpenSpec.upto fnExactMapResizeSpec)

/-- 'laws.FnExactMapApply', WHERE WHAT IT READS IS OF BULK AT MOST 1048576: true; the input reads as it did. -/
def fnExactMapApplyUptoRow : OpenClaim := { program := "ytakljkckacgonaa", sum := "a3cbcef427febdf1bf4636a5580c3b5add703d6e37faaa0ecc2d3d13a9db38cd", func := "loop.example/g00467/laws.FnExactMapApply", spec := "fnExactMapApply", inPlace := ["slices.overlaps[loop.example/g00467/impl.Map]"], unfollowed := true, recurses := true, apart := false, narrowed := true }
def FnExactMapApplyUptoSaid : Prop := fnExactMapApplyUptoRow.holds Try.pinned (OpenSpec.upto fnExactMapApplySpec)

end Rows
end Go.Proofs.Ytakljkckacgonaa
