/- The program's Kill answers what the reference's Kill answers, for all arguments that fit into memory, and changes none of them. -/
import Derived.Test.YtnggfmpackihaaaGreatRows
import Derived.Test.YtnggfmpackihaaaGreatTP0
import Derived.Test.YtnggfmpackihaaaGreatT5
import Derived.ProofKit
set_option linter.unusedVariables false
namespace Go.Proofs.YtnggfmpackihaaaGreat.fnExactKill
open Go.T Go.T.R Go.RowKit
set_option maxRecDepth 100000
theorem own : ownKnob Tryz.prog.godebug = none := by kernel_rfl
theorem laidOut : laidOutB Tryz.prog = true := by kernel_rfl
theorem lifted (os : Os) (started : os.Started) (H : Type) (enc : TypeId × Value → H) :
    ReturnsInHanded {} Tryz.checked os 3 .any (Rows.fnExactKillSpec.pre6 enc Tryz.prog Tryz.f3 Rows.fnExactKillRow.domain false) (Rows.fnExactKillSpec.post enc Tryz.prog Tryz.f3 false true false false) := by
  refine returnsInHanded_of_change_sized (C := Tryz.checked) own started (by kernel_rfl) Tryz.func3
    (ChangeSpec.witness6 (enc := enc) (C := Tryz.checked) false ⟨#[], #[.agg #[.slice none 0 0, .slice none 0 0, .slice none 0 0, .slice none 0 0, .slice none 0 0, .int .i64 0], .string ⟨#[]⟩], []⟩ 8 (by kernel_rfl) (by kernel_rfl) (by kernel_rfl) (by kernel_rfl)) ?_
  intro W base args ds gs before hval hW hcnd hsz _
  exact law_post (C := Go.T.R.C) prOk (ts := [t_laws_Pool, t_string]) (tb := t_bool) (m := 9) (base := base) laidOut rfl rfl (by kernel_rfl) rfl (by kernel_rfl) (by kernel_rfl) (by kernel_rfl) (by decide) (fun ds hds => match ds, hds with | [_, _], _ => ⟨rfl, rfl, rfl⟩) all_Kill hval hW hsz
theorem over : Rows.fnExactKillRow.holds Tryz.pinned (OpenSpec.ofChange Rows.fnExactKillSpec) :=
  OpenClaim.holds_of_wide 3 Tryz.f3 rfl rfl rfl rfl rfl rfl rfl ⟨rfl, rfl, rfl, rfl, rfl⟩ rfl rfl rfl rfl rfl (by kernel_rfl) Tryz.func3 (by kernel_rfl)
    (of_decide_eq_true (by kernel_rfl)) (by unfold Func.isWrapper; first | (rw [if_pos (by decide +kernel)]; kernel_rfl) | (rw [if_neg (by decide +kernel)]; exact ⟨rfl, rfl⟩))
    (fun os started H enc _ => lifted os started H enc)
end Go.Proofs.YtnggfmpackihaaaGreat.fnExactKill
namespace Go.Proofs.YtnggfmpackihaaaGreat
/-- The row, under a short name, for the claim. -/
theorem fnExactKill_holds : Rows.FnExactKillSaid := fnExactKill.over
end Go.Proofs.YtnggfmpackihaaaGreat
