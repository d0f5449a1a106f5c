/- The program's MapAt answers what the reference's MapAt answers, for all arguments that fit into memory, and changes none of them. -/
import Derived.Test.YtaijlchekndalaaRows
import Derived.Test.YtaijlchekndalaaTP0
import Derived.Test.YtaijlchekndalaaT5
import Derived.ProofKit
set_option linter.unusedVariables false
namespace Go.Proofs.Ytaijlchekndalaa.fnExactMapAt
open Go.T Go.T.R Go.RowKit
set_option maxRecDepth 100000
theorem own : ownKnob Try.prog.godebug = none := by kernel_rfl
theorem laidOut : laidOutB Try.prog = true := by kernel_rfl
theorem lifted (os : Os) (started : os.Started) (H : Type) (enc : TypeId × Value → H) :
    ReturnsInHanded {} Try.checked os 6 .any (Rows.fnExactMapAtSpec.pre6 enc Try.prog Try.f6 Rows.fnExactMapAtRow.domain false) (Rows.fnExactMapAtSpec.post enc Try.prog Try.f6 false true false false) := by
  refine returnsInHanded_of_change_sized (C := Try.checked) own started (by kernel_rfl) Try.func6
    (ChangeSpec.witness6 (enc := enc) (C := Try.checked) false ⟨#[], #[.slice none 0 0, .string ⟨#[]⟩], []⟩ 8 (by kernel_rfl) (by kernel_rfl) (by kernel_rfl) (by kernel_rfl)) ?_
  intro W base args ds gs before hval hW hcnd hsz _
  exact law_post (C := Go.T.R.C) prOk (ts := [t_S_laws_Map, t_string]) (tb := t_bool) (m := 9) (base := base) laidOut rfl rfl (by kernel_rfl) rfl (by kernel_rfl) (by kernel_rfl) (by kernel_rfl) (by decide) (fun ds hds => match ds, hds with | [_, _], _ => ⟨rfl, rfl, rfl⟩) all_MapAt hval hW hsz
theorem over : Rows.fnExactMapAtRow.holds Try.pinned (OpenSpec.ofChange Rows.fnExactMapAtSpec) :=
  OpenClaim.holds_of_wide 6 Try.f6 rfl rfl rfl rfl rfl rfl rfl ⟨rfl, rfl, rfl, rfl, rfl⟩ rfl rfl rfl rfl rfl (by kernel_rfl) Try.func6 (by kernel_rfl)
    (of_decide_eq_true (by kernel_rfl)) (by unfold Func.isWrapper; first | (rw [if_pos (by decide +kernel)]; kernel_rfl) | (rw [if_neg (by decide +kernel)]; exact ⟨rfl, rfl⟩))
    (fun os started H enc _ => lifted os started H enc)
end Go.Proofs.Ytaijlchekndalaa.fnExactMapAt
namespace Go.Proofs.Ytaijlchekndalaa
/-- The row, under a short name, for the claim. -/
theorem fnExactMapAt_holds : Rows.FnExactMapAtSaid := fnExactMapAt.over
end Go.Proofs.Ytaijlchekndalaa
