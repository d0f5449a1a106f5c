/- The program's PackStep answers what the reference's PackStep answers, for all arguments that fit into memory, and changes none of them. -/
import Derived.Test.YtaijlchekndalabGreatRows
import Derived.Test.YtaijlchekndalabGreatTP0
import Derived.Test.YtaijlchekndalabGreatT5
import Derived.ProofKit
set_option linter.unusedVariables false
namespace Go.Proofs.YtaijlchekndalabGreat.fnExactPackStep
open Go.T Go.T.R Go.RowKit
set_option maxRecDepth 100000
theorem own : ownKnob Tryz.prog.godebug = none := by kernel_rfl
theorem laidOut : laidOutB Tryz.prog = true := by kernel_rfl
theorem lifted (os : Os) (started : os.Started) (H : Type) (enc : TypeId × Value → H) :
    ReturnsInHanded {} Tryz.checked os 5 .any (Rows.fnExactPackStepSpec.pre6 enc Tryz.prog Tryz.f5 Rows.fnExactPackStepRow.domain false) (Rows.fnExactPackStepSpec.post enc Tryz.prog Tryz.f5 false true false false) := by
  refine returnsInHanded_of_change_sized (C := Tryz.checked) own started (by kernel_rfl) Tryz.func5
    (ChangeSpec.witness6 (enc := enc) (C := Tryz.checked) false ⟨#[], #[.agg #[.slice none 0 0, .slice none 0 0, .slice none 0 0, .slice none 0 0, .slice none 0 0, .int .i64 0], .int .i64 0], []⟩ 8 (by kernel_rfl) (by kernel_rfl) (by kernel_rfl) (by kernel_rfl)) ?_
  intro W base args ds gs before hval hW hcnd hsz _
  exact law_post (C := Go.T.R.C) prOk (ts := [t_laws_Pool, t_int]) (tb := t_bool) (m := 9) (base := base) laidOut rfl rfl (by kernel_rfl) rfl (by kernel_rfl) (by kernel_rfl) (by kernel_rfl) (by decide) (fun ds hds => match ds, hds with | [_, _], _ => ⟨rfl, rfl, rfl⟩) all_PackStep hval hW hsz
theorem over : Rows.fnExactPackStepRow.holds Tryz.pinned (OpenSpec.ofChange Rows.fnExactPackStepSpec) :=
  OpenClaim.holds_of_wide 5 Tryz.f5 rfl rfl rfl rfl rfl rfl rfl ⟨rfl, rfl, rfl, rfl, rfl⟩ rfl rfl rfl rfl rfl (by kernel_rfl) Tryz.func5 (by kernel_rfl)
    (of_decide_eq_true (by kernel_rfl)) (by unfold Func.isWrapper; first | (rw [if_pos (by decide +kernel)]; kernel_rfl) | (rw [if_neg (by decide +kernel)]; exact ⟨rfl, rfl⟩))
    (fun os started H enc _ => lifted os started H enc)
end Go.Proofs.YtaijlchekndalabGreat.fnExactPackStep
namespace Go.Proofs.YtaijlchekndalabGreat
/-- The row, under a short name, for the claim. -/
theorem fnExactPackStep_holds : Rows.FnExactPackStepSaid := fnExactPackStep.over
end Go.Proofs.YtaijlchekndalabGreat
