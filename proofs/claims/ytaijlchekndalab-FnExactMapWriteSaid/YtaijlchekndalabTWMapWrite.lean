/- The program's MapWrite answers what the reference's MapWrite answers, for all arguments that fit into memory, and changes none of them. -/
import Derived.Test.YtaijlchekndalabRows
import Derived.Test.YtaijlchekndalabTP0
import Derived.Test.YtaijlchekndalabT5
import Derived.ProofKit
set_option linter.unusedVariables false
namespace Go.Proofs.Ytaijlchekndalab.fnExactMapWrite
open Go.T Go.T.R Go.RowKit
set_option maxRecDepth 100000
theorem own : ownKnob Try.prog.godebug = none := by kernel_rfl
theorem laidOut : laidOutB Try.prog = true := by kernel_rfl
theorem lifted (os : Os) (started : os.Started) (H : Type) (enc : TypeId × Value → H) :
    ReturnsInHanded {} Try.checked os 4 .any (Rows.fnExactMapWriteSpec.pre6 enc Try.prog Try.f4 Rows.fnExactMapWriteRow.domain false) (Rows.fnExactMapWriteSpec.post enc Try.prog Try.f4 false true false false) := by
  refine returnsInHanded_of_change_sized (C := Try.checked) own started (by kernel_rfl) Try.func4
    (ChangeSpec.witness6 (enc := enc) (C := Try.checked) false ⟨#[], #[.slice none 0 0, .string ⟨#[]⟩, .int .i64 0, .int .i64 0], []⟩ 8 (by kernel_rfl) (by kernel_rfl) (by kernel_rfl) (by kernel_rfl)) ?_
  intro W base args ds gs before hval hW hcnd hsz _
  exact law_post (C := Go.T.R.C) prOk (ts := [t_S_laws_Map, t_string, t_int, t_int]) (tb := t_bool) (m := 9) (base := base) laidOut rfl rfl (by kernel_rfl) rfl (by kernel_rfl) (by kernel_rfl) (by kernel_rfl) (by decide) (fun ds hds => match ds, hds with | [_, _, _, _], _ => ⟨rfl, rfl, rfl⟩) all_MapWrite hval hW hsz
theorem over : Rows.fnExactMapWriteRow.holds Try.pinned (OpenSpec.ofChange Rows.fnExactMapWriteSpec) :=
  OpenClaim.holds_of_wide 4 Try.f4 rfl rfl rfl rfl rfl rfl rfl ⟨rfl, rfl, rfl, rfl, rfl⟩ rfl rfl rfl rfl rfl (by kernel_rfl) Try.func4 (by kernel_rfl)
    (of_decide_eq_true (by kernel_rfl)) (by unfold Func.isWrapper; first | (rw [if_pos (by decide +kernel)]; kernel_rfl) | (rw [if_neg (by decide +kernel)]; exact ⟨rfl, rfl⟩))
    (fun os started H enc _ => lifted os started H enc)
end Go.Proofs.Ytaijlchekndalab.fnExactMapWrite
namespace Go.Proofs.Ytaijlchekndalab
/-- The row, under a short name, for the claim. -/
theorem fnExactMapWrite_holds : Rows.FnExactMapWriteSaid := fnExactMapWrite.over
end Go.Proofs.Ytaijlchekndalab
