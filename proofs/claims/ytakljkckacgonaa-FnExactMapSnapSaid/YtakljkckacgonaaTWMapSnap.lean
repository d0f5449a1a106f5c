/- The program's MapSnap answers what the reference's MapSnap answers, for all arguments that fit into memory, and changes none of them. -/
import Derived.Test.YtakljkckacgonaaRows
import Derived.Test.YtakljkckacgonaaTP0
import Derived.Test.YtakljkckacgonaaT5
import Derived.ProofKit
set_option linter.unusedVariables false
namespace Go.Proofs.Ytakljkckacgonaa.fnExactMapSnap
open Go.T Go.T.R Go.RowKit
set_option maxRecDepth 100000
theorem own : ownKnob Try.prog.godebug = none := by kernel_rfl
theorem laidOut : laidOutB Try.prog = true := by kernel_rfl
theorem lifted (os : Os) (started : os.Started) (H : Type) (enc : TypeId × Value → H) :
    ReturnsInHanded {} Try.checked os 4 .any (Rows.fnExactMapSnapSpec.pre6 enc Try.prog Try.f4 Rows.fnExactMapSnapRow.domain false) (Rows.fnExactMapSnapSpec.post enc Try.prog Try.f4 false true false false) := by
  refine returnsInHanded_of_change_sized (C := Try.checked) own started (by kernel_rfl) Try.func4
    (ChangeSpec.witness6 (enc := enc) (C := Try.checked) false ⟨#[], #[.slice none 0 0, .string ⟨#[]⟩, .string ⟨#[]⟩, .bool false], []⟩ 8 (by kernel_rfl) (by kernel_rfl) (by kernel_rfl) (by kernel_rfl)) ?_
  intro W base args ds gs before hval hW hcnd hsz _
  exact law_post (C := Go.T.R.C) prOk (ts := [t_S_laws_Map, t_string, t_string, t_bool]) (tb := t_bool) (m := 9) (base := base) laidOut rfl rfl (by kernel_rfl) rfl (by kernel_rfl) (by kernel_rfl) (by kernel_rfl) (by decide) (fun ds hds => match ds, hds with | [_, _, _, _], _ => ⟨rfl, rfl, rfl⟩) all_MapSnap hval hW hsz
theorem over : Rows.fnExactMapSnapRow.holds Try.pinned (OpenSpec.ofChange Rows.fnExactMapSnapSpec) :=
  OpenClaim.holds_of_wide 4 Try.f4 rfl rfl rfl rfl rfl rfl rfl ⟨rfl, rfl, rfl, rfl, rfl⟩ rfl rfl rfl rfl rfl (by kernel_rfl) Try.func4 (by kernel_rfl)
    (of_decide_eq_true (by kernel_rfl)) (by unfold Func.isWrapper; first | (rw [if_pos (by decide +kernel)]; kernel_rfl) | (rw [if_neg (by decide +kernel)]; exact ⟨rfl, rfl⟩))
    (fun os started H enc _ => lifted os started H enc)
end Go.Proofs.Ytakljkckacgonaa.fnExactMapSnap
namespace Go.Proofs.Ytakljkckacgonaa
theorem fnExactMapSnap_holds : Rows.FnExactMapSnapSaid := fnExactMapSnap.over
end Go.Proofs.Ytakljkckacgonaa
