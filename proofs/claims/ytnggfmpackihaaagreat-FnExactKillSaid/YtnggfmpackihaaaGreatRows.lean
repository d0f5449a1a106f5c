/-
  No cell of these rows narrows 'for every input' (looked for: loops, veiled, ifaces, maps, wideKeys, modest, calm, conditions, laid).
  DERIVED. THE GIVEN ROWS OF THIS SEAT. 3 by the template 'for every input the law returns true; each argument reads behind the call as it read before'; 0 by the template 'total and deterministic' (their statements: YtnggfmpackihaaaGreatTotals.lean).
  GIVEN WITH THE SEED: the statements are not yours to turn. If you find one false, say at which input.
  Laid BY PROGRAM, IN A SANDBOX (cutbox-rows.mjs): the forced cells as the released guide's own fill.sh prints them over the translation 725ed2dfecffad1f… (all of the seat's roots in one cut). By AI agents, Wed Nov 11 2026. No macro, syntax, notation, axiom, sorry.
-/
import Derived.Test.YtnggfmpackihaaaGreatChecked
import GoSem.Claim
import GoSem.ClaimJoined
import GoSem.ClaimMapViews
import Derived.JoinedTies
import Derived.KernelRfl
namespace Go.Proofs.YtnggfmpackihaaaGreat
/- THE CELL 'sum', in the pinned program and in every row, IS THE sha256 OF THE DUMP (.gsa) THAT YtnggfmpackihaaaGreatProg.lean LOADS. Nothing in Lean hashes anything: it is a label: what it is worth is what the hold of that sum in a sandbox is worth. -/
noncomputable def Tryz.pinned : Pinned := { name := "ytnggfmpackihaaagreat", sum := "725ed2dfecffad1f23010cc7a5088fc9f24871442b4dbcd38d9ca7ed498ab8f1", checked := Tryz.checked }
namespace Rows
def none {H : Type} : Left H := { results := [], args := [] }

/-- 'laws.FnExactKill': WHATEVER THE INPUT: true; the input reads as it did. -/
def fnExactKillSpec : ChangeSpec := { name := "fnExactKill", fn := fun _ => fun
  | [d1, d2] => { results := [.lit (.bool true)], args := [d1, d2] }
  | _ => none }
def fnExactKillRow : OpenClaim := { program := "ytnggfmpackihaaagreat", sum := "725ed2dfecffad1f23010cc7a5088fc9f24871442b4dbcd38d9ca7ed498ab8f1", func := "loop.example/g00467/laws.FnExactKill", spec := "fnExactKill", unfollowed := true, recurses := true, apart := false }
def FnExactKillSaid : Prop := fnExactKillRow.holds Tryz.pinned (OpenSpec.ofChange fnExactKillSpec)

/-- ITS FALSE NEIGHBOUR: 'it returns false'. Refute it at one input. -/
def fnExactKillWrong : ChangeSpec := { name := "fnExactKill", fn := fun _ => fun
  | [d1, d2] => { results := [.lit (.bool false)], args := [d1, d2] }
  | _ => none }
def FnExactKillWrongFalsely : Prop := fnExactKillRow.holds Tryz.pinned (OpenSpec.ofChange fnExactKillWrong)

/-- 'laws.FnExactCreate': WHATEVER THE INPUT: true; the input reads as it did. -/
def fnExactCreateSpec : ChangeSpec := { name := "fnExactCreate", fn := fun _ => fun
  | [d1, d2, d3] => { results := [.lit (.bool true)], args := [d1, d2, d3] }
  | _ => none }
def fnExactCreateRow : OpenClaim := { program := "ytnggfmpackihaaagreat", sum := "725ed2dfecffad1f23010cc7a5088fc9f24871442b4dbcd38d9ca7ed498ab8f1", func := "loop.example/g00467/laws.FnExactCreate", spec := "fnExactCreate", inPlace := ["slices.overlaps[loop.example/g00467/impl.Age]"], unfollowed := true, recurses := true, apart := false }
def FnExactCreateSaid : Prop := fnExactCreateRow.holds Tryz.pinned (OpenSpec.ofChange fnExactCreateSpec)

/-- ITS FALSE NEIGHBOUR: 'it returns false'. Refute it at one input. -/
def fnExactCreateWrong : ChangeSpec := { name := "fnExactCreate", fn := fun _ => fun
  | [d1, d2, d3] => { results := [.lit (.bool false)], args := [d1, d2, d3] }
  | _ => none }
def FnExactCreateWrongFalsely : Prop := fnExactCreateRow.holds Tryz.pinned (OpenSpec.ofChange fnExactCreateWrong)

/-- 'laws.FnExactSnap': WHATEVER THE INPUT: true; the input reads as it did. -/
def fnExactSnapSpec : ChangeSpec := { name := "fnExactSnap", fn := fun _ => fun
  | [d1, d2, d3, d4] => { results := [.lit (.bool true)], args := [d1, d2, d3, d4] }
  | _ => none }
def fnExactSnapRow : OpenClaim := { program := "ytnggfmpackihaaagreat", sum := "725ed2dfecffad1f23010cc7a5088fc9f24871442b4dbcd38d9ca7ed498ab8f1", func := "loop.example/g00467/laws.FnExactSnap", spec := "fnExactSnap", inPlace := ["slices.overlaps[loop.example/g00467/impl.Age]"], unfollowed := true, recurses := true, apart := false }
def FnExactSnapSaid : Prop := fnExactSnapRow.holds Tryz.pinned (OpenSpec.ofChange fnExactSnapSpec)

/-- ITS FALSE NEIGHBOUR: 'it returns false'. Refute it at one input. -/
def fnExactSnapWrong : ChangeSpec := { name := "fnExactSnap", fn := fun _ => fun
  | [d1, d2, d3, d4] => { results := [.lit (.bool false)], args := [d1, d2, d3, d4] }
  | _ => none }
def FnExactSnapWrongFalsely : Prop := fnExactSnapRow.holds Tryz.pinned (OpenSpec.ofChange fnExactSnapWrong)

/- THE SECOND FORM. 'bulk': how many values and letters a reading holds, each counted each time it is reached (what is shared counts as often as it is met; a slice's spare places count too). A statement '..UptoSaid' is the law's where the arguments, and the package variables that the reading takes, are together of bulk at most 1048576: NARROWER than '..Said'. Prove '..Said' where nothing that the law and all that it calls make is longer than what came in: it says more and counts as full. Else prove '..UptoSaid'. A law counts once. -/
mutual
def uptoBulk {H : Type} : DataW H → Nat
  | .lit (.string bytes) => bytes.length + 1
  | .lit _ => 1
  | .nil => 1
  | .ptr d => uptoBulk d + 1
  | .slice elems spare => uptoBulkAll elems + uptoBulkAll spare + 1
  | .agg parts => uptoBulkAll parts + 1
  | .iface _ d => uptoBulk d + 1
  | .map entries => uptoBulkEntries entries + 1
  | .held _ => 1
def uptoBulkAll {H : Type} : List (DataW H) → Nat
  | [] => 0
  | d :: r => uptoBulk d + uptoBulkAll r
def uptoBulkEntries {H : Type} : List (Lit × DataW H) → Nat
  | [] => 0
  | x :: r => uptoBulkEntry x + uptoBulkEntries r
def uptoBulkEntry {H : Type} : Lit × DataW H → Nat
  | (.string bytes, d) => bytes.length + uptoBulk d + 1
  | (_, d) => uptoBulk d + 1
 end
def uptoSmall : (H : Type) → List (DataW H) → Bool := fun _ ds => decide (uptoBulkAll ds ≤ 1048576)
def OpenSpec.upto (s : _root_.Go.ChangeSpec) : _root_.Go.OpenSpec := { _root_.Go.OpenSpec.ofChange s with cond := some uptoSmall }

/-- 'laws.FnExactKill', WHERE WHAT IT READS IS OF BULK AT MOST 1048576: true; the input reads as it did. -/
def fnExactKillUptoRow : OpenClaim := { program := "ytnggfmpackihaaagreat", sum := "725ed2dfecffad1f23010cc7a5088fc9f24871442b4dbcd38d9ca7ed498ab8f1", func := "loop.example/g00467/laws.FnExactKill", spec := "fnExactKill", unfollowed := true, recurses := true, apart := false, narrowed := true }
def FnExactKillUptoSaid : Prop := fnExactKillUptoRow.holds Tryz.pinned (OpenSpec.upto fnExactKillSpec)

/-- 'laws.FnExactCreate', WHERE WHAT IT READS IS OF BULK AT MOST 1048576: true; the input reads as it did. -/
def fnExactCreateUptoRow : OpenClaim := { program := "ytnggfmpackihaaagreat", sum := "725ed2dfecffad1f23010cc7a5088fc9f24871442b4dbcd38d9ca7ed498ab8f1", func := "loop.example/g00467/laws.FnExactCreate", spec := "fnExactCreate", inPlace := ["slices.overlaps[loop.example/g00467/impl.Age]"], unfollowed := true, recurses := true, apart := false, narrowed := true }
def FnExactCreateUptoSaid : Prop := fnExactCreateUptoRow.holds Tryz.pinned (OpenSpec.upto fnExactCreateSpec)

/-- 'laws.FnExactSnap', WHERE WHAT IT READS IS OF BULK AT MOST 1048576: true; the input reads as it did. -/
def fnExactSnapUptoRow : OpenClaim := { program := "ytnggfmpackihaaagreat", sum := "725ed2dfecffad1f23010cc7a5088fc9f24871442b4dbcd38d9ca7ed498ab8f1", func := "loop.example/g00467/laws.FnExactSnap", spec := "fnExactSnap", inPlace := ["slices.overlaps[loop.example/g00467/impl.Age]"], unfollowed := true, recurses := true, apart := false, narrowed := true }
def FnExactSnapUptoSaid : Prop := fnExactSnapUptoRow.holds Tryz.pinned (OpenSpec.upto fnExactSnapSpec)

end Rows
end Go.Proofs.YtnggfmpackihaaaGreat
