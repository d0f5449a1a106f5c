/- The program's GetOp answers what the reference's GetOp answers, for all arguments that fit into memory, and changes none of them. -/
import Derived.Test.YtibkcmljaifbpaaRows
import Derived.Test.YtibkcmljaifbpaaTP0
import Derived.Test.YtibkcmljaifbpaaT5
import Derived.ProofKit
set_option linter.unusedVariables false
namespace Go.Proofs.Ytibkcmljaifbpaa.fnExactGetOp
open Go.T Go.T.R Go.RowKit
set_option maxRecDepth 100000
theorem own : ownKnob Try.prog.godebug = none := by kernel_rfl
theorem laidOut : laidOutB Try.prog = true := by kernel_rfl
theorem lifted (os : Os) (started : os.Started) (H : Type) (enc : TypeId × Value → H) :
    ReturnsInHanded {} Try.checked os 3 .any (Rows.fnExactGetOpSpec.pre6 enc Try.prog Try.f3 Rows.fnExactGetOpRow.domain false) (Rows.fnExactGetOpSpec.post enc Try.prog Try.f3 false true false false) := by
  refine returnsInHanded_of_change_sized (C := Try.checked) own started (by kernel_rfl) Try.func3
    (ChangeSpec.witness6 (enc := enc) (C := Try.checked) false ⟨#[], #[.slice none 0 0, .int .i64 0], []⟩ 8 (by kernel_rfl) (by kernel_rfl) (by kernel_rfl) (by kernel_rfl)) ?_
  intro W base args ds gs before hval hW hcnd hsz _
  exact law_post (C := Go.T.R.C) prOk (ts := [t_S_uint8, t_int]) (tb := t_bool) (m := 9) (base := base) laidOut rfl rfl (by kernel_rfl) rfl (by kernel_rfl) (by kernel_rfl) (by kernel_rfl) (by decide) (fun ds hds => match ds, hds with | [_, _], _ => ⟨rfl, rfl, rfl⟩) all_GetOp hval hW hsz
theorem over : Rows.fnExactGetOpRow.holds Try.pinned (OpenSpec.ofChange Rows.fnExactGetOpSpec) :=
  OpenClaim.holds_of_wide 3 Try.f3 rfl rfl rfl rfl rfl rfl rfl ⟨rfl, rfl, rfl, rfl, rfl⟩ rfl rfl rfl rfl rfl (by kernel_rfl) Try.func3 (by kernel_rfl)
    (of_decide_eq_true (by kernel_rfl)) (by unfold Func.isWrapper; first | (rw [if_pos (by decide +kernel)]; kernel_rfl) | (rw [if_neg (by decide +kernel)]; exact ⟨rfl, rfl⟩))
    (fun os started H enc _ => lifted os started H enc)
end Go.Proofs.Ytibkcmljaifbpaa.fnExactGetOp
namespace Go.Proofs.Ytibkcmljaifbpaa
theorem fnExactGetOp_holds : Rows.FnExactGetOpSaid := fnExactGetOp.over
end Go.Proofs.Ytibkcmljaifbpaa
