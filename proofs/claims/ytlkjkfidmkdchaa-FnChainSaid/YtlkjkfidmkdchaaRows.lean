/-
  No cell of these rows narrows 'for every input' (looked for: loops, veiled, ifaces, maps, wideKeys, modest, calm, conditions, laid).
  DERIVED. THE GIVEN ROWS OF THIS SEAT. 8 by the template 'for every input the law returns true; each argument reads behind the call as it read before'; 0 by the template 'total and deterministic' (their statements: YtlkjkfidmkdchaaTotals.lean).
  GIVEN WITH THE SEED: the statements are not yours to turn. If you find one false, say at which input.
  Laid BY PROGRAM, IN A SANDBOX (cutbox-rows.mjs): the forced cells as the released guide's own fill.sh prints them over the translation 60a0243f5666a518… (all of the seat's roots in one cut). By AI agents, Wed Nov 11 2026. No macro, syntax, notation, axiom, sorry.
-/
import Derived.Test.YtlkjkfidmkdchaaChecked
import GoSem.Claim
import GoSem.ClaimJoined
import GoSem.ClaimMapViews
import Derived.JoinedTies
import Derived.KernelRfl
namespace Go.Proofs.Ytlkjkfidmkdchaa
/- THE CELL 'sum', in the pinned program and in every row, IS THE sha256 OF THE DUMP (.gsa) THAT YtlkjkfidmkdchaaProg.lean LOADS. Nothing in Lean hashes anything: it is a label: what it is worth is what the hold of that sum in a sandbox is worth. -/
noncomputable def Try.pinned : Pinned := { name := "ytlkjkfidmkdchaa", sum := "60a0243f5666a5184b7552385bfd6ae3e39193e69f68782276d71307610bc5c3", checked := Try.checked }
namespace Rows
def none {H : Type} : Left H := { results := [], args := [] }

/-- 'laws.FnOps': WHATEVER THE INPUT: true; the input reads as it did. -/
def fnOpsSpec : ChangeSpec := { name := "fnOps", fn := fun _ => fun
  | [d] => { results := [.lit (.bool true)], args := [d] }
  | _ => none }
def fnOpsRow : OpenClaim := { program := "ytlkjkfidmkdchaa", sum := "60a0243f5666a5184b7552385bfd6ae3e39193e69f68782276d71307610bc5c3", func := "loop.example/g00467/laws.FnOps", spec := "fnOps", apart := false }
def FnOpsSaid : Prop := fnOpsRow.holds Try.pinned (OpenSpec.ofChange fnOpsSpec)

/-- ITS FALSE NEIGHBOUR: 'it returns false'. Refute it at one input. -/
def fnOpsWrong : ChangeSpec := { name := "fnOps", fn := fun _ => fun
  | [d] => { results := [.lit (.bool false)], args := [d] }
  | _ => none }
def FnOpsWrongFalsely : Prop := fnOpsRow.holds Try.pinned (OpenSpec.ofChange fnOpsWrong)

/-- 'laws.FnNodes': WHATEVER THE INPUT: true; the input reads as it did. -/
def fnNodesSpec : ChangeSpec := { name := "fnNodes", fn := fun _ => fun
  | [d] => { results := [.lit (.bool true)], args := [d] }
  | _ => none }
def fnNodesRow : OpenClaim := { program := "ytlkjkfidmkdchaa", sum := "60a0243f5666a5184b7552385bfd6ae3e39193e69f68782276d71307610bc5c3", func := "loop.example/g00467/laws.FnNodes", spec := "fnNodes", apart := false }
def FnNodesSaid : Prop := fnNodesRow.holds Try.pinned (OpenSpec.ofChange fnNodesSpec)

/-- ITS FALSE NEIGHBOUR: 'it returns false'. Refute it at one input. -/
def fnNodesWrong : ChangeSpec := { name := "fnNodes", fn := fun _ => fun
  | [d] => { results := [.lit (.bool false)], args := [d] }
  | _ => none }
def FnNodesWrongFalsely : Prop := fnNodesRow.holds Try.pinned (OpenSpec.ofChange fnNodesWrong)

/-- 'laws.FnNodesBent': WHATEVER THE INPUT: true; the input reads as it did. -/
def fnNodesBentSpec : ChangeSpec := { name := "fnNodesBent", fn := fun _ => fun
  | [d] => { results := [.lit (.bool true)], args := [d] }
  | _ => none }
def fnNodesBentRow : OpenClaim := { program := "ytlkjkfidmkdchaa", sum := "60a0243f5666a5184b7552385bfd6ae3e39193e69f68782276d71307610bc5c3", func := "loop.example/g00467/laws.FnNodesBent", spec := "fnNodesBent", apart := false }
def FnNodesBentSaid : Prop := fnNodesBentRow.holds Try.pinned (OpenSpec.ofChange fnNodesBentSpec)

/-- ITS FALSE NEIGHBOUR: 'it returns false'. Refute it at one input. -/
def fnNodesBentWrong : ChangeSpec := { name := "fnNodesBent", fn := fun _ => fun
  | [d] => { results := [.lit (.bool false)], args := [d] }
  | _ => none }
def FnNodesBentWrongFalsely : Prop := fnNodesBentRow.holds Try.pinned (OpenSpec.ofChange fnNodesBentWrong)

/-- 'laws.FnSights': WHATEVER THE INPUT: true; the input reads as it did. -/
def fnSightsSpec : ChangeSpec := { name := "fnSights", fn := fun _ => fun
  | [d] => { results := [.lit (.bool true)], args := [d] }
  | _ => none }
def fnSightsRow : OpenClaim := { program := "ytlkjkfidmkdchaa", sum := "60a0243f5666a5184b7552385bfd6ae3e39193e69f68782276d71307610bc5c3", func := "loop.example/g00467/laws.FnSights", spec := "fnSights", unfollowed := true, recurses := true, apart := false }
def FnSightsSaid : Prop := fnSightsRow.holds Try.pinned (OpenSpec.ofChange fnSightsSpec)

/-- ITS FALSE NEIGHBOUR: 'it returns false'. Refute it at one input. -/
def fnSightsWrong : ChangeSpec := { name := "fnSights", fn := fun _ => fun
  | [d] => { results := [.lit (.bool false)], args := [d] }
  | _ => none }
def FnSightsWrongFalsely : Prop := fnSightsRow.holds Try.pinned (OpenSpec.ofChange fnSightsWrong)

/-- 'laws.FnTrees': WHATEVER THE INPUT: true; the input reads as it did. -/
def fnTreesSpec : ChangeSpec := { name := "fnTrees", fn := fun _ => fun
  | [d] => { results := [.lit (.bool true)], args := [d] }
  | _ => none }
def fnTreesRow : OpenClaim := { program := "ytlkjkfidmkdchaa", sum := "60a0243f5666a5184b7552385bfd6ae3e39193e69f68782276d71307610bc5c3", func := "loop.example/g00467/laws.FnTrees", spec := "fnTrees", apart := false }
def FnTreesSaid : Prop := fnTreesRow.holds Try.pinned (OpenSpec.ofChange fnTreesSpec)

/-- ITS FALSE NEIGHBOUR: 'it returns false'. Refute it at one input. -/
def fnTreesWrong : ChangeSpec := { name := "fnTrees", fn := fun _ => fun
  | [d] => { results := [.lit (.bool false)], args := [d] }
  | _ => none }
def FnTreesWrongFalsely : Prop := fnTreesRow.holds Try.pinned (OpenSpec.ofChange fnTreesWrong)

/-- 'laws.FnSightsBent': WHATEVER THE INPUT: true; the input reads as it did. -/
def fnSightsBentSpec : ChangeSpec := { name := "fnSightsBent", fn := fun _ => fun
  | [d] => { results := [.lit (.bool true)], args := [d] }
  | _ => none }
def fnSightsBentRow : OpenClaim := { program := "ytlkjkfidmkdchaa", sum := "60a0243f5666a5184b7552385bfd6ae3e39193e69f68782276d71307610bc5c3", func := "loop.example/g00467/laws.FnSightsBent", spec := "fnSightsBent", unfollowed := true, recurses := true, apart := false }
def FnSightsBentSaid : Prop := fnSightsBentRow.holds Try.pinned (OpenSpec.ofChange fnSightsBentSpec)

/-- ITS FALSE NEIGHBOUR: 'it returns false'. Refute it at one input. -/
def fnSightsBentWrong : ChangeSpec := { name := "fnSightsBent", fn := fun _ => fun
  | [d] => { results := [.lit (.bool false)], args := [d] }
  | _ => none }
def FnSightsBentWrongFalsely : Prop := fnSightsBentRow.holds Try.pinned (OpenSpec.ofChange fnSightsBentWrong)

/-- 'laws.FnTreesBent': WHATEVER THE INPUT: true; the input reads as it did. -/
def fnTreesBentSpec : ChangeSpec := { name := "fnTreesBent", fn := fun _ => fun
  | [d] => { results := [.lit (.bool true)], args := [d] }
  | _ => none }
def fnTreesBentRow : OpenClaim := { program := "ytlkjkfidmkdchaa", sum := "60a0243f5666a5184b7552385bfd6ae3e39193e69f68782276d71307610bc5c3", func := "loop.example/g00467/laws.FnTreesBent", spec := "fnTreesBent", apart := false }
def FnTreesBentSaid : Prop := fnTreesBentRow.holds Try.pinned (OpenSpec.ofChange fnTreesBentSpec)

/-- ITS FALSE NEIGHBOUR: 'it returns false'. Refute it at one input. -/
def fnTreesBentWrong : ChangeSpec := { name := "fnTreesBent", fn := fun _ => fun
  | [d] => { results := [.lit (.bool false)], args := [d] }
  | _ => none }
def FnTreesBentWrongFalsely : Prop := fnTreesBentRow.holds Try.pinned (OpenSpec.ofChange fnTreesBentWrong)

/-- 'laws.FnChain': WHATEVER THE INPUT: true; the input reads as it did. -/
def fnChainSpec : ChangeSpec := { name := "fnChain", fn := fun _ => fun
  | [d] => { results := [.lit (.bool true)], args := [d] }
  | _ => none }
def fnChainRow : OpenClaim := { program := "ytlkjkfidmkdchaa", sum := "60a0243f5666a5184b7552385bfd6ae3e39193e69f68782276d71307610bc5c3", func := "loop.example/g00467/laws.FnChain", spec := "fnChain", inPlace := ["slices.overlaps[loop.example/g00467/impl.Age]"], unfollowed := true, recurses := true, apart := false }
def FnChainSaid : Prop := fnChainRow.holds Try.pinned (OpenSpec.ofChange fnChainSpec)

/-- ITS FALSE NEIGHBOUR: 'it returns false'. Refute it at one input. -/
def fnChainWrong : ChangeSpec := { name := "fnChain", fn := fun _ => fun
  | [d] => { results := [.lit (.bool false)], args := [d] }
  | _ => none }
def FnChainWrongFalsely : Prop := fnChainRow.holds Try.pinned (OpenSpec.ofChange fnChainWrong)

/- THE SECOND FORM. 'bulk': how many values and letters a reading holds, each counted each time it is reached (what is shared counts as often as it is met; a slice's spare places count too). A statement '..UptoSaid' is the law's where the arguments, and the package variables that the reading takes, are together of bulk at most 1048576: NARROWER than '..Said'. Prove '..Said' where nothing that the law and all that it calls make is longer than what came in: it says more and counts as full. Else prove '..UptoSaid'. A law counts once. -/
mutual
def uptoBulk {H : Type} : DataW H → Nat
  | .lit (.string bytes) => bytes.length + 1
  | .lit _ => 1
  | .nil => 1
  | .ptr d => uptoBulk d + 1
  | .slice elems spare => uptoBulkAll elems + uptoBulkAll spare + 1
  | .agg parts => uptoBulkAll parts + 1
  | .iface _ d => uptoBulk d + 1
  | .map entries => uptoBulkEntries entries + 1
  | .held _ => 1
def uptoBulkAll {H : Type} : List (DataW H) → Nat
  | [] => 0
  | d :: r => uptoBulk d + uptoBulkAll r
def uptoBulkEntries {H : Type} : List (Lit × DataW H) → Nat
  | [] => 0
  | x :: r => uptoBulkEntry x + uptoBulkEntries r
def uptoBulkEntry {H : Type} : Lit × DataW H → Nat
  | (.string bytes, d) => bytes.length + uptoBulk d + 1
  | (_, d) => uptoBulk d + 1
 end
def uptoSmall : (H : Type) → List (DataW H) → Bool := fun _ ds => decide (uptoBulkAll ds ≤ 1048576)
def OpenSpec.upto (s : _root_.Go.ChangeSpec) : _root_.Go.OpenSpec := { _root_.Go.OpenSpec.ofChange s with cond := some uptoSmall }

/-- 'laws.FnOps', WHERE WHAT IT READS IS OF BULK AT MOST 1048576: true; the input reads as it did. -/
def fnOpsUptoRow : OpenClaim := { program := "ytlkjkfidmkdchaa", sum := "60a0243f5666a5184b7552385bfd6ae3e39193e69f68782276d71307610bc5c3", func := "loop.example/g00467/laws.FnOps", spec := "fnOps", apart := false, narrowed := true }
def FnOpsUptoSaid : Prop := fnOpsUptoRow.holds Try.pinned (OpenSpec.upto fnOpsSpec)

/-- 'laws.FnNodes', WHERE WHAT IT READS IS OF BULK AT MOST 1048576: true; the input reads as it did. -/
def fnNodesUptoRow : OpenClaim := { program := "ytlkjkfidmkdchaa", sum := "60a0243f5666a5184b7552385bfd6ae3e39193e69f68782276d71307610bc5c3", func := "loop.example/g00467/laws.FnNodes", spec := "fnNodes", apart := false, narrowed := true }
def FnNodesUptoSaid : Prop := fnNodesUptoRow.holds Try.pinned (OpenSpec.upto fnNodesSpec)

/-- 'laws.FnNodesBent', WHERE WHAT IT READS IS OF BULK AT MOST 1048576: true; the input reads as it did. -/
def fnNodesBentUptoRow : OpenClaim := { program := "ytlkjkfidmkdchaa", sum := "60a0243f5666a5184b7552385bfd6ae3e39193e69f68782276d71307610bc5c3", func := "loop.example/g00467/laws.FnNodesBent", spec := "fnNodesBent", apart := false, narrowed := true }
def FnNodesBentUptoSaid : Prop := fnNodesBentUptoRow.holds Try.pinned (OpenSpec.upto fnNodesBentSpec)

/-- 'laws.FnSights', WHERE WHAT IT READS IS OF BULK AT MOST 1048576: true; the input reads as it did. -/
def fnSightsUptoRow : OpenClaim := { program := "ytlkjkfidmkdchaa", sum := "60a0243f5666a5184b7552385bfd6ae3e39193e69f68782276d71307610bc5c3", func := "loop.example/g00467/laws.FnSights", spec := "fnSights", unfollowed := true, recurses := true, apart := false, narrowed := true }
def FnSightsUptoSaid : Prop := fnSightsUptoRow.holds Try.pinned (OpenSpec.upto fnSightsSpec)

/-- 'laws.FnTrees', WHERE WHAT IT READS IS OF BULK AT MOST 1048576: true; the input reads as it did. -/
def fnTreesUptoRow : OpenClaim := { program := "ytlkjkfidmkdchaa", sum := "60a0243f5666a5184b7552385bfd6ae3e39193e69f68782276d71307610bc5c3", func := "loop.example/g00467/laws.FnTrees", spec := "fnTrees", apart := false, narrowed := true }
def FnTreesUptoSaid : Prop := fnTreesUptoRow.holds Try.pinned (OpenSpec.upto fnTreesSpec)

/-- 'laws.FnSightsBent', WHERE WHAT IT READS IS OF BULK AT MOST 1048576: true; the input reads as it did. -/
def fnSightsBentUptoRow : OpenClaim := { program := "ytlkjkfidmkdchaa", sum := "60a0243f5666a5184b7552385bfd6ae3e39193e69f68782276d71307610bc5c3", func := "loop.example/g00467/laws.FnSightsBent", spec := "fnSightsBent", unfollowed := true, recurses := true, apart := false, narrowed := true }
def FnSightsBentUptoSaid : Prop := fnSightsBentUptoRow.holds Try.pinned (OpenSpec.upto fnSightsBentSpec)

/-- 'laws.FnTreesBent', WHERE WHAT IT READS IS OF BULK AT MOST 1048576: true; the input reads as it did. -/
def fnTreesBentUptoRow : OpenClaim := { program := "ytlkjkfidmkdchaa", sum := "60a0243f5666a5184b7552385bfd6ae3e39193e69f68782276d71307610bc5c3", func := "loop.example/g00467/laws.FnTreesBent", spec := "fnTreesBent", apart := false, narrowed := true }
def FnTreesBentUptoSaid : Prop := fnTreesBentUptoRow.holds Try.pinned (OpenSpec.upto fnTreesBentSpec)

/-- 'laws.FnChain', WHERE WHAT IT READS IS OF BULK AT MOST 1048576: true; the input reads as it did. -/
def fnChainUptoRow : OpenClaim := { program := "ytlkjkfidmkdchaa", sum := "60a0243f5666a5184b7552385bfd6ae3e39193e69f68782276d71307610bc5c3", func := "loop.example/g00467/laws.FnChain", spec := "fnChain", inPlace := ["slices.overlaps[loop.example/g00467/impl.Age]"], unfollowed := true, recurses := true, apart := false, narrowed := true }
def FnChainUptoSaid : Prop := fnChainUptoRow.holds Try.pinned (OpenSpec.upto fnChainSpec)

end Rows
end Go.Proofs.Ytlkjkfidmkdchaa
