/-
  No cell of these rows narrows 'for every input' (looked for: loops, veiled, ifaces, maps, wideKeys, modest, calm, conditions, laid).
  DERIVED. THE GIVEN ROWS OF THIS SEAT. 12 by the template 'for every input the law returns true; each argument reads behind the call as it read before'; 0 by the template 'total and deterministic' (their statements: YtikppghokbfmkaaTotals.lean).
  GIVEN WITH THE SEED: the statements are not yours to turn. If you find one false, say at which input.
  Laid BY PROGRAM, IN A SANDBOX (cutbox-rows.mjs): the forced cells as the released guide's own fill.sh prints them over the translation 06a56e714ef90ae5… (all of the seat's roots in one cut). By AI agents, Wed Nov 11 2026. No macro, syntax, notation, axiom, sorry.
-/
import Derived.Test.YtikppghokbfmkaaChecked
import GoSem.Claim
import GoSem.ClaimJoined
import GoSem.ClaimMapViews
import Derived.JoinedTies
import Derived.KernelRfl
namespace Go.Proofs.Ytikppghokbfmkaa
/- THE CELL 'sum', in the pinned program and in every row, IS THE sha256 OF THE DUMP (.gsa) THAT YtikppghokbfmkaaProg.lean LOADS. Nothing in Lean hashes anything: it is a label: what it is worth is what the hold of that sum in a sandbox is worth. -/
noncomputable def Try.pinned : Pinned := { name := "ytikppghokbfmkaa", sum := "06a56e714ef90ae5b0c5ceab7c12035100255a130df610b3642a6fc5e0327fee", checked := Try.checked }
namespace Rows
def none {H : Type} : Left H := { results := [], args := [] }

/-- 'laws.FnExactKeysOf': WHATEVER THE INPUT: true; the input reads as it did. -/
def fnExactKeysOfSpec : ChangeSpec := { name := "fnExactKeysOf", fn := fun _ => fun
  | [d1, d2] => { results := [.lit (.bool true)], args := [d1, d2] }
  | _ => none }
def fnExactKeysOfRow : OpenClaim := { program := "ytikppghokbfmkaa", sum := "06a56e714ef90ae5b0c5ceab7c12035100255a130df610b3642a6fc5e0327fee", func := "loop.example/g00467/laws.FnExactKeysOf", spec := "fnExactKeysOf", apart := false }
def FnExactKeysOfSaid : Prop := fnExactKeysOfRow.holds Try.pinned (OpenSpec.ofChange fnExactKeysOfSpec)

/-- ITS FALSE NEIGHBOUR: 'it returns false'. Refute it at one input. -/
def fnExactKeysOfWrong : ChangeSpec := { name := "fnExactKeysOf", fn := fun _ => fun
  | [d1, d2] => { results := [.lit (.bool false)], args := [d1, d2] }
  | _ => none }
def FnExactKeysOfWrongFalsely : Prop := fnExactKeysOfRow.holds Try.pinned (OpenSpec.ofChange fnExactKeysOfWrong)

/-- 'laws.FnExactPoolNew': WHATEVER THE INPUT: true; the input reads as it did. -/
def fnExactPoolNewSpec : ChangeSpec := { name := "fnExactPoolNew", fn := fun _ => fun
  | [] => { results := [.lit (.bool true)], args := [] }
  | _ => none }
def fnExactPoolNewRow : OpenClaim := { program := "ytikppghokbfmkaa", sum := "06a56e714ef90ae5b0c5ceab7c12035100255a130df610b3642a6fc5e0327fee", func := "loop.example/g00467/laws.FnExactPoolNew", spec := "fnExactPoolNew", apart := false }
def FnExactPoolNewSaid : Prop := fnExactPoolNewRow.holds Try.pinned (OpenSpec.ofChange fnExactPoolNewSpec)

/-- ITS FALSE NEIGHBOUR: 'it returns false'. Refute it at one input. -/
def fnExactPoolNewWrong : ChangeSpec := { name := "fnExactPoolNew", fn := fun _ => fun
  | [] => { results := [.lit (.bool false)], args := [] }
  | _ => none }
def FnExactPoolNewWrongFalsely : Prop := fnExactPoolNewRow.holds Try.pinned (OpenSpec.ofChange fnExactPoolNewWrong)

/-- 'laws.FnExactVolAt': WHATEVER THE INPUT: true; the input reads as it did. -/
def fnExactVolAtSpec : ChangeSpec := { name := "fnExactVolAt", fn := fun _ => fun
  | [d1, d2] => { results := [.lit (.bool true)], args := [d1, d2] }
  | _ => none }
def fnExactVolAtRow : OpenClaim := { program := "ytikppghokbfmkaa", sum := "06a56e714ef90ae5b0c5ceab7c12035100255a130df610b3642a6fc5e0327fee", func := "loop.example/g00467/laws.FnExactVolAt", spec := "fnExactVolAt", unfollowed := true, recurses := true, apart := false }
def FnExactVolAtSaid : Prop := fnExactVolAtRow.holds Try.pinned (OpenSpec.ofChange fnExactVolAtSpec)

/-- ITS FALSE NEIGHBOUR: 'it returns false'. Refute it at one input. -/
def fnExactVolAtWrong : ChangeSpec := { name := "fnExactVolAt", fn := fun _ => fun
  | [d1, d2] => { results := [.lit (.bool false)], args := [d1, d2] }
  | _ => none }
def FnExactVolAtWrongFalsely : Prop := fnExactVolAtRow.holds Try.pinned (OpenSpec.ofChange fnExactVolAtWrong)

/-- 'laws.FnExactIdle': WHATEVER THE INPUT: true; the input reads as it did. -/
def fnExactIdleSpec : ChangeSpec := { name := "fnExactIdle", fn := fun _ => fun
  | [d1, d2] => { results := [.lit (.bool true)], args := [d1, d2] }
  | _ => none }
def fnExactIdleRow : OpenClaim := { program := "ytikppghokbfmkaa", sum := "06a56e714ef90ae5b0c5ceab7c12035100255a130df610b3642a6fc5e0327fee", func := "loop.example/g00467/laws.FnExactIdle", spec := "fnExactIdle", unfollowed := true, recurses := true, apart := false }
def FnExactIdleSaid : Prop := fnExactIdleRow.holds Try.pinned (OpenSpec.ofChange fnExactIdleSpec)

/-- ITS FALSE NEIGHBOUR: 'it returns false'. Refute it at one input. -/
def fnExactIdleWrong : ChangeSpec := { name := "fnExactIdle", fn := fun _ => fun
  | [d1, d2] => { results := [.lit (.bool false)], args := [d1, d2] }
  | _ => none }
def FnExactIdleWrongFalsely : Prop := fnExactIdleRow.holds Try.pinned (OpenSpec.ofChange fnExactIdleWrong)

/-- 'laws.FnExactSeen': WHATEVER THE INPUT: true; the input reads as it did. -/
def fnExactSeenSpec : ChangeSpec := { name := "fnExactSeen", fn := fun _ => fun
  | [d1, d2, d3, d4] => { results := [.lit (.bool true)], args := [d1, d2, d3, d4] }
  | _ => none }
def fnExactSeenRow : OpenClaim := { program := "ytikppghokbfmkaa", sum := "06a56e714ef90ae5b0c5ceab7c12035100255a130df610b3642a6fc5e0327fee", func := "loop.example/g00467/laws.FnExactSeen", spec := "fnExactSeen", unfollowed := true, recurses := true, apart := false }
def FnExactSeenSaid : Prop := fnExactSeenRow.holds Try.pinned (OpenSpec.ofChange fnExactSeenSpec)

/-- ITS FALSE NEIGHBOUR: 'it returns false'. Refute it at one input. -/
def fnExactSeenWrong : ChangeSpec := { name := "fnExactSeen", fn := fun _ => fun
  | [d1, d2, d3, d4] => { results := [.lit (.bool false)], args := [d1, d2, d3, d4] }
  | _ => none }
def FnExactSeenWrongFalsely : Prop := fnExactSeenRow.holds Try.pinned (OpenSpec.ofChange fnExactSeenWrong)

/-- 'laws.FnExactSeenAbove': WHATEVER THE INPUT: true; the input reads as it did. -/
def fnExactSeenAboveSpec : ChangeSpec := { name := "fnExactSeenAbove", fn := fun _ => fun
  | [d1, d2, d3, d4] => { results := [.lit (.bool true)], args := [d1, d2, d3, d4] }
  | _ => none }
def fnExactSeenAboveRow : OpenClaim := { program := "ytikppghokbfmkaa", sum := "06a56e714ef90ae5b0c5ceab7c12035100255a130df610b3642a6fc5e0327fee", func := "loop.example/g00467/laws.FnExactSeenAbove", spec := "fnExactSeenAbove", unfollowed := true, recurses := true, apart := false }
def FnExactSeenAboveSaid : Prop := fnExactSeenAboveRow.holds Try.pinned (OpenSpec.ofChange fnExactSeenAboveSpec)

/-- ITS FALSE NEIGHBOUR: 'it returns false'. Refute it at one input. -/
def fnExactSeenAboveWrong : ChangeSpec := { name := "fnExactSeenAbove", fn := fun _ => fun
  | [d1, d2, d3, d4] => { results := [.lit (.bool false)], args := [d1, d2, d3, d4] }
  | _ => none }
def FnExactSeenAboveWrongFalsely : Prop := fnExactSeenAboveRow.holds Try.pinned (OpenSpec.ofChange fnExactSeenAboveWrong)

/-- 'laws.FnExactSees': WHATEVER THE INPUT: true; the input reads as it did. -/
def fnExactSeesSpec : ChangeSpec := { name := "fnExactSees", fn := fun _ => fun
  | [d1, d2, d3, d4] => { results := [.lit (.bool true)], args := [d1, d2, d3, d4] }
  | _ => none }
def fnExactSeesRow : OpenClaim := { program := "ytikppghokbfmkaa", sum := "06a56e714ef90ae5b0c5ceab7c12035100255a130df610b3642a6fc5e0327fee", func := "loop.example/g00467/laws.FnExactSees", spec := "fnExactSees", unfollowed := true, recurses := true, apart := false }
def FnExactSeesSaid : Prop := fnExactSeesRow.holds Try.pinned (OpenSpec.ofChange fnExactSeesSpec)

/-- ITS FALSE NEIGHBOUR: 'it returns false'. Refute it at one input. -/
def fnExactSeesWrong : ChangeSpec := { name := "fnExactSees", fn := fun _ => fun
  | [d1, d2, d3, d4] => { results := [.lit (.bool false)], args := [d1, d2, d3, d4] }
  | _ => none }
def FnExactSeesWrongFalsely : Prop := fnExactSeesRow.holds Try.pinned (OpenSpec.ofChange fnExactSeesWrong)

/-- 'laws.FnExactSamePool': WHATEVER THE INPUT: true; the input reads as it did. -/
def fnExactSamePoolSpec : ChangeSpec := { name := "fnExactSamePool", fn := fun _ => fun
  | [d1, d2] => { results := [.lit (.bool true)], args := [d1, d2] }
  | _ => none }
def fnExactSamePoolRow : OpenClaim := { program := "ytikppghokbfmkaa", sum := "06a56e714ef90ae5b0c5ceab7c12035100255a130df610b3642a6fc5e0327fee", func := "loop.example/g00467/laws.FnExactSamePool", spec := "fnExactSamePool", unfollowed := true, recurses := true, apart := false }
def FnExactSamePoolSaid : Prop := fnExactSamePoolRow.holds Try.pinned (OpenSpec.ofChange fnExactSamePoolSpec)

/-- ITS FALSE NEIGHBOUR: 'it returns false'. Refute it at one input. -/
def fnExactSamePoolWrong : ChangeSpec := { name := "fnExactSamePool", fn := fun _ => fun
  | [d1, d2] => { results := [.lit (.bool false)], args := [d1, d2] }
  | _ => none }
def FnExactSamePoolWrongFalsely : Prop := fnExactSamePoolRow.holds Try.pinned (OpenSpec.ofChange fnExactSamePoolWrong)

/-- 'laws.FnExactSeenByAny': WHATEVER THE INPUT: true; the input reads as it did. -/
def fnExactSeenByAnySpec : ChangeSpec := { name := "fnExactSeenByAny", fn := fun _ => fun
  | [d1, d2] => { results := [.lit (.bool true)], args := [d1, d2] }
  | _ => none }
def fnExactSeenByAnyRow : OpenClaim := { program := "ytikppghokbfmkaa", sum := "06a56e714ef90ae5b0c5ceab7c12035100255a130df610b3642a6fc5e0327fee", func := "loop.example/g00467/laws.FnExactSeenByAny", spec := "fnExactSeenByAny", unfollowed := true, recurses := true, apart := false }
def FnExactSeenByAnySaid : Prop := fnExactSeenByAnyRow.holds Try.pinned (OpenSpec.ofChange fnExactSeenByAnySpec)

/-- ITS FALSE NEIGHBOUR: 'it returns false'. Refute it at one input. -/
def fnExactSeenByAnyWrong : ChangeSpec := { name := "fnExactSeenByAny", fn := fun _ => fun
  | [d1, d2] => { results := [.lit (.bool false)], args := [d1, d2] }
  | _ => none }
def FnExactSeenByAnyWrongFalsely : Prop := fnExactSeenByAnyRow.holds Try.pinned (OpenSpec.ofChange fnExactSeenByAnyWrong)

/-- 'laws.FnExactBlockOf': WHATEVER THE INPUT: true; the input reads as it did. -/
def fnExactBlockOfSpec : ChangeSpec := { name := "fnExactBlockOf", fn := fun _ => fun
  | [d1, d2, d3] => { results := [.lit (.bool true)], args := [d1, d2, d3] }
  | _ => none }
def fnExactBlockOfRow : OpenClaim := { program := "ytikppghokbfmkaa", sum := "06a56e714ef90ae5b0c5ceab7c12035100255a130df610b3642a6fc5e0327fee", func := "loop.example/g00467/laws.FnExactBlockOf", spec := "fnExactBlockOf", unfollowed := true, recurses := true, apart := false }
def FnExactBlockOfSaid : Prop := fnExactBlockOfRow.holds Try.pinned (OpenSpec.ofChange fnExactBlockOfSpec)

/-- ITS FALSE NEIGHBOUR: 'it returns false'. Refute it at one input. -/
def fnExactBlockOfWrong : ChangeSpec := { name := "fnExactBlockOf", fn := fun _ => fun
  | [d1, d2, d3] => { results := [.lit (.bool false)], args := [d1, d2, d3] }
  | _ => none }
def FnExactBlockOfWrongFalsely : Prop := fnExactBlockOfRow.holds Try.pinned (OpenSpec.ofChange fnExactBlockOfWrong)

/-- 'laws.FnExactMapsOf': WHATEVER THE INPUT: true; the input reads as it did. -/
def fnExactMapsOfSpec : ChangeSpec := { name := "fnExactMapsOf", fn := fun _ => fun
  | [d] => { results := [.lit (.bool true)], args := [d] }
  | _ => none }
def fnExactMapsOfRow : OpenClaim := { program := "ytikppghokbfmkaa", sum := "06a56e714ef90ae5b0c5ceab7c12035100255a130df610b3642a6fc5e0327fee", func := "loop.example/g00467/laws.FnExactMapsOf", spec := "fnExactMapsOf", unfollowed := true, recurses := true, apart := false }
def FnExactMapsOfSaid : Prop := fnExactMapsOfRow.holds Try.pinned (OpenSpec.ofChange fnExactMapsOfSpec)

/-- ITS FALSE NEIGHBOUR: 'it returns false'. Refute it at one input. -/
def fnExactMapsOfWrong : ChangeSpec := { name := "fnExactMapsOf", fn := fun _ => fun
  | [d] => { results := [.lit (.bool false)], args := [d] }
  | _ => none }
def FnExactMapsOfWrongFalsely : Prop := fnExactMapsOfRow.holds Try.pinned (OpenSpec.ofChange fnExactMapsOfWrong)

/-- 'laws.FnExactPoolOk': WHATEVER THE INPUT: true; the input reads as it did. -/
def fnExactPoolOkSpec : ChangeSpec := { name := "fnExactPoolOk", fn := fun _ => fun
  | [d] => { results := [.lit (.bool true)], args := [d] }
  | _ => none }
def fnExactPoolOkRow : OpenClaim := { program := "ytikppghokbfmkaa", sum := "06a56e714ef90ae5b0c5ceab7c12035100255a130df610b3642a6fc5e0327fee", func := "loop.example/g00467/laws.FnExactPoolOk", spec := "fnExactPoolOk", unfollowed := true, recurses := true, apart := false }
def FnExactPoolOkSaid : Prop := fnExactPoolOkRow.holds Try.pinned (OpenSpec.ofChange fnExactPoolOkSpec)

/-- ITS FALSE NEIGHBOUR: 'it returns false'. Refute it at one input. -/
def fnExactPoolOkWrong : ChangeSpec := { name := "fnExactPoolOk", fn := fun _ => fun
  | [d] => { results := [.lit (.bool false)], args := [d] }
  | _ => none }
def FnExactPoolOkWrongFalsely : Prop := fnExactPoolOkRow.holds Try.pinned (OpenSpec.ofChange fnExactPoolOkWrong)

/- THE SECOND FORM. 'bulk': how many values and letters a reading holds, each counted each time it is reached (what is shared counts as often as it is met; a slice's spare places count too). A statement '..UptoSaid' is the law's where the arguments, and the package variables that the reading takes, are together of bulk at most 1048576: NARROWER than '..Said'. Prove '..Said' where nothing that the law and all that it calls make is longer than what came in: it says more and counts as full. Else prove '..UptoSaid'. A law counts once. -/
mutual
def uptoBulk {H : Type} : DataW H → Nat
  | .lit (.string bytes) => bytes.length + 1
  | .lit _ => 1
  | .nil => 1
  | .ptr d => uptoBulk d + 1
  | .slice elems spare => uptoBulkAll elems + uptoBulkAll spare + 1
  | .agg parts => uptoBulkAll parts + 1
  | .iface _ d => uptoBulk d + 1
  | .map entries => uptoBulkEntries entries + 1
  | .held _ => 1
def uptoBulkAll {H : Type} : List (DataW H) → Nat
  | [] => 0
  | d :: r => uptoBulk d + uptoBulkAll r
def uptoBulkEntries {H : Type} : List (Lit × DataW H) → Nat
  | [] => 0
  | x :: r => uptoBulkEntry x + uptoBulkEntries r
def uptoBulkEntry {H : Type} : Lit × DataW H → Nat
  | (.string bytes, d) => bytes.length + uptoBulk d + 1
  | (_, d) => uptoBulk d + 1
 end
def uptoSmall : (H : Type) → List (DataW H) → Bool := fun _ ds => decide (uptoBulkAll ds ≤ 1048576)
def OpenSpec.upto (s : _root_.Go.ChangeSpec) : _root_.Go.OpenSpec := { _root_.Go.OpenSpec.ofChange s with cond := some uptoSmall }

/-- 'laws.FnExactKeysOf', WHERE WHAT IT READS IS OF BULK AT MOST 1048576: true; the input reads as it did. -/
def fnExactKeysOfUptoRow : OpenClaim := { program := "ytikppghokbfmkaa", sum := "06a56e714ef90ae5b0c5ceab7c12035100255a130df610b3642a6fc5e0327fee", func := "loop.example/g00467/laws.FnExactKeysOf", spec := "fnExactKeysOf", apart := false, narrowed := true }
def FnExactKeysOfUptoSaid : Prop := fnExactKeysOfUptoRow.holds Try.pinned (OpenSpec.upto fnExactKeysOfSpec)

/-- 'laws.FnExactPoolNew', WHERE WHAT IT READS IS OF BULK AT MOST 1048576: true; the input reads as it did. -/
def fnExactPoolNewUptoRow : OpenClaim := { program := "ytikppghokbfmkaa", sum := "06a56e714ef90ae5b0c5ceab7c12035100255a130df610b3642a6fc5e0327fee", func := "loop.example/g00467/laws.FnExactPoolNew", spec := "fnExactPoolNew", apart := false, narrowed := true }
def FnExactPoolNewUptoSaid : Prop := fnExactPoolNewUptoRow.holds Try.pinned (OpenSpec.upto fnExactPoolNewSpec)

/-- 'laws.FnExactVolAt', WHERE WHAT IT READS IS OF BULK AT MOST 1048576: true; the input reads as it did. -/
def fnExactVolAtUptoRow : OpenClaim := { program := "ytikppghokbfmkaa", sum := "06a56e714ef90ae5b0c5ceab7c12035100255a130df610b3642a6fc5e0327fee", func := "loop.example/g00467/laws.FnExactVolAt", spec := "fnExactVolAt", unfollowed := true, recurses := true, apart := false, narrowed := true }
def FnExactVolAtUptoSaid : Prop := fnExactVolAtUptoRow.holds Try.pinned (OpenSpec.upto fnExactVolAtSpec)

/-- 'laws.FnExactIdle', WHERE WHAT IT READS IS OF BULK AT MOST 1048576: true; the input reads as it did. -/
def fnExactIdleUptoRow : OpenClaim := { program := "ytikppghokbfmkaa", sum := "06a56e714ef90ae5b0c5ceab7c12035100255a130df610b3642a6fc5e0327fee", func := "loop.example/g00467/laws.FnExactIdle", spec := "fnExactIdle", unfollowed := true, recurses := true, apart := false, narrowed := true }
def FnExactIdleUptoSaid : Prop := fnExactIdleUptoRow.holds Try.pinned (OpenSpec.upto fnExactIdleSpec)

/-- 'laws.FnExactSeen', WHERE WHAT IT READS IS OF BULK AT MOST 1048576: true; the input reads as it did. -/
def fnExactSeenUptoRow : OpenClaim := { program := "ytikppghokbfmkaa", sum := "06a56e714ef90ae5b0c5ceab7c12035100255a130df610b3642a6fc5e0327fee", func := "loop.example/g00467/laws.FnExactSeen", spec := "fnExactSeen", unfollowed := true, recurses := true, apart := false, narrowed := true }
def FnExactSeenUptoSaid : Prop := fnExactSeenUptoRow.holds Try.pinned (OpenSpec.upto fnExactSeenSpec)

/-- 'laws.FnExactSeenAbove', WHERE WHAT IT READS IS OF BULK AT MOST 1048576: true; the input reads as it did. -/
def fnExactSeenAboveUptoRow : OpenClaim := { program := "ytikppghokbfmkaa", sum := "06a56e714ef90ae5b0c5ceab7c12035100255a130df610b3642a6fc5e0327fee", func := "loop.example/g00467/laws.FnExactSeenAbove", spec := "fnExactSeenAbove", unfollowed := true, recurses := true, apart := false, narrowed := true }
def FnExactSeenAboveUptoSaid : Prop := fnExactSeenAboveUptoRow.holds Try.pinned (OpenSpec.upto fnExactSeenAboveSpec)

/-- 'laws.FnExactSees', WHERE WHAT IT READS IS OF BULK AT MOST 1048576: true; the input reads as it did. -/
def fnExactSeesUptoRow : OpenClaim := { program := "ytikppghokbfmkaa", sum := "06a56e714ef90ae5b0c5ceab7c12035100255a130df610b3642a6fc5e0327fee", func := "loop.example/g00467/laws.FnExactSees", spec := "fnExactSees", unfollowed := true, recurses := true, apart := false, narrowed := true }
def FnExactSeesUptoSaid : Prop := fnExactSeesUptoRow.holds Try.pinned (OpenSpec.upto fnExactSeesSpec)

/-- 'laws.FnExactSamePool', WHERE WHAT IT READS IS OF BULK AT MOST 1048576: true; the input reads as it did. -/
def fnExactSamePoolUptoRow : OpenClaim := { program := "ytikppghokbfmkaa", sum := "06a56e714ef90ae5b0c5ceab7c12035100255a130df610b3642a6fc5e0327fee", func := "loop.example/g00467/laws.FnExactSamePool", spec := "fnExactSamePool", unfollowed := true, recurses := true, apart := false, narrowed := true }
def FnExactSamePoolUptoSaid : Prop := fnExactSamePoolUptoRow.holds Try.pinned (OpenSpec.upto fnExactSamePoolSpec)

/-- 'laws.FnExactSeenByAny', WHERE WHAT IT READS IS OF BULK AT MOST 1048576: true; the input reads as it did. -/
def fnExactSeenByAnyUptoRow : OpenClaim := { program := "ytikppghokbfmkaa", sum := "06a56e714ef90ae5b0c5ceab7c12035100255a130df610b3642a6fc5e0327fee", func := "loop.example/g00467/laws.FnExactSeenByAny", spec := "fnExactSeenByAny", unfollowed := true, recurses := true, apart := false, narrowed := true }
def FnExactSeenByAnyUptoSaid : Prop := fnExactSeenByAnyUptoRow.holds Try.pinned (OpenSpec.upto fnExactSeenByAnySpec)

/-- 'laws.FnExactBlockOf', WHERE WHAT IT READS IS OF BULK AT MOST 1048576: true; the input reads as it did. -/
def fnExactBlockOfUptoRow : OpenClaim := { program := "ytikppghokbfmkaa", sum := "06a56e714ef90ae5b0c5ceab7c12035100255a130df610b3642a6fc5e0327fee", func := "loop.example/g00467/laws.FnExactBlockOf", spec := "fnExactBlockOf", unfollowed := true, recurses := true, apart := false, narrowed := true }
def FnExactBlockOfUptoSaid : Prop := fnExactBlockOfUptoRow.holds Try.pinned (OpenSpec.upto fnExactBlockOfSpec)

/-- 'laws.FnExactMapsOf', WHERE WHAT IT READS IS OF BULK AT MOST 1048576: true; the input reads as it did. -/
def fnExactMapsOfUptoRow : OpenClaim := { program := "ytikppghokbfmkaa", sum := "06a56e714ef90ae5b0c5ceab7c12035100255a130df610b3642a6fc5e0327fee", func := "loop.example/g00467/laws.FnExactMapsOf", spec := "fnExactMapsOf", unfollowed := true, recurses := true, apart := false, narrowed := true }
def FnExactMapsOfUptoSaid : Prop := fnExactMapsOfUptoRow.holds Try.pinned (OpenSpec.upto fnExactMapsOfSpec)

/-- 'laws.FnExactPoolOk', WHERE WHAT IT READS IS OF BULK AT MOST 1048576: true; the input reads as it did. -/
def fnExactPoolOkUptoRow : OpenClaim := { program := "ytikppghokbfmkaa", sum := "06a56e714ef90ae5b0c5ceab7c12035100255a130df610b3642a6fc5e0327fee", func := "loop.example/g00467/laws.FnExactPoolOk", spec := "fnExactPoolOk", unfollowed := true, recurses := true, apart := false, narrowed := true }
def FnExactPoolOkUptoSaid : Prop := fnExactPoolOkUptoRow.holds Try.pinned (OpenSpec.upto fnExactPoolOkSpec)

end Rows
end Go.Proofs.Ytikppghokbfmkaa
