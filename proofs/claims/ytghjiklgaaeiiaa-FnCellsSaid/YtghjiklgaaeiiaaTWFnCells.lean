/- The law FnCells answers true for every row of bytes that fits into memory, and changes none of them. -/
import Derived.Test.YtghjiklgaaeiiaaRows
import Derived.Test.YtghjiklgaaeiiaaTP0
import Derived.Test.YtghjiklgaaeiiaaT5
import Derived.ProofKit
set_option linter.unusedVariables false
namespace Go.Proofs.Ytghjiklgaaeiiaa.fnCells
open Go.T Go.T.R Go.RowKit
set_option maxRecDepth 100000
theorem own : ownKnob Try.prog.godebug = none := by kernel_rfl
theorem laidOut : laidOutB Try.prog = true := by kernel_rfl
theorem lifted (os : Os) (started : os.Started) (H : Type) (enc : TypeId × Value → H) :
    ReturnsInHanded {} Try.checked os 13 .any (Rows.fnCellsSpec.pre6 enc Try.prog Try.f13 Rows.fnCellsRow.domain false) (Rows.fnCellsSpec.post enc Try.prog Try.f13 false true false false) := by
  refine returnsInHanded_of_change_sized (C := Try.checked) own started (by kernel_rfl) Try.func13
    (ChangeSpec.witness6 (enc := enc) (C := Try.checked) false ⟨#[], #[.slice none 0 0], []⟩ 8 (by kernel_rfl) (by kernel_rfl) (by kernel_rfl) (by kernel_rfl)) ?_
  intro W base args ds gs before hval hW hcnd hsz _
  exact law_post (C := Go.T.R.C) prOk (ts := [t_S_uint8]) (tb := t_bool) (m := 9) (base := base) laidOut rfl rfl (by kernel_rfl) rfl (by kernel_rfl) (by kernel_rfl) (by kernel_rfl) (by decide) (fun ds hds => match ds, hds with | [_], _ => ⟨rfl, rfl, rfl⟩) all_FnCells hval hW hsz
theorem over : Rows.fnCellsRow.holds Try.pinned (OpenSpec.ofChange Rows.fnCellsSpec) :=
  OpenClaim.holds_of_wide 13 Try.f13 rfl rfl rfl rfl rfl rfl rfl ⟨rfl, rfl, rfl, rfl, rfl⟩ rfl rfl rfl rfl rfl (by kernel_rfl) Try.func13 (by kernel_rfl)
    (of_decide_eq_true (by kernel_rfl)) (by unfold Func.isWrapper; first | (rw [if_pos (by decide +kernel)]; kernel_rfl) | (rw [if_neg (by decide +kernel)]; exact ⟨rfl, rfl⟩))
    (fun os started H enc _ => lifted os started H enc)
end Go.Proofs.Ytghjiklgaaeiiaa.fnCells
namespace Go.Proofs.Ytghjiklgaaeiiaa
/-- The row, under a short name, for the claim. -/
theorem fnCells_holds : Rows.FnCellsSaid := fnCells.over
end Go.Proofs.Ytghjiklgaaeiiaa
