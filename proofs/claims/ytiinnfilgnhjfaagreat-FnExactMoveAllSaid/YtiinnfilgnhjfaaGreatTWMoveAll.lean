/- The program's MoveAll answers what the reference's MoveAll answers, for all arguments that fit into memory, and changes none of them. -/
import Derived.Test.YtiinnfilgnhjfaaGreatRows
import Derived.Test.YtiinnfilgnhjfaaGreatTP1
import Derived.Test.YtiinnfilgnhjfaaGreatT5
import Derived.ProofKit
set_option linter.unusedVariables false
namespace Go.Proofs.YtiinnfilgnhjfaaGreat.fnExactMoveAll
open Go.T Go.T.R Go.RowKit
set_option maxRecDepth 100000
theorem own:ownKnob Tryz.prog.godebug=none:=by kernel_rfl
theorem laidOut:laidOutB Tryz.prog=true:=by kernel_rfl
theorem lifted (os:Os) (started:os.Started) (H:Type) (enc:TypeId×Value→H):
 ReturnsInHanded {} Tryz.checked os 7 .any (Rows.fnExactMoveAllSpec.pre6 enc Tryz.prog Tryz.f7 Rows.fnExactMoveAllRow.domain false) (Rows.fnExactMoveAllSpec.post enc Tryz.prog Tryz.f7 false true false false):=by
 refine returnsInHanded_of_change_sized (C:=Tryz.checked) own started (by kernel_rfl) Tryz.func7
  (ChangeSpec.witness6 (enc:=enc) (C:=Tryz.checked) false ⟨#[],#[.agg #[.slice none 0 0,.slice none 0 0,.slice none 0 0,.slice none 0 0,.slice none 0 0,.int .i64 0]],[]⟩ 8 (by kernel_rfl) (by kernel_rfl) (by kernel_rfl) (by kernel_rfl)) ?_
 intro W base args ds gs before hval hW hcnd hsz _
 exact Us (C:=Go.T.R.C) Zf (ts:=[qK]) (tb:=Xz) (m:=9) (base:=base) laidOut rfl rfl (by kernel_rfl) rfl (by kernel_rfl) (by kernel_rfl) (by kernel_rfl) (by decide) (fun ds hds=>match ds,hds with|[_],_=>⟨rfl,rfl,rfl⟩) PS hval hW hsz
theorem Zk:Rows.fnExactMoveAllRow.holds Tryz.pinned (OpenSpec.ofChange Rows.fnExactMoveAllSpec):=
 OpenClaim.holds_of_wide 7 Tryz.f7 rfl rfl rfl rfl rfl rfl rfl ⟨rfl,rfl,rfl,rfl,rfl⟩ rfl rfl rfl rfl rfl (by kernel_rfl) Tryz.func7 (by kernel_rfl)
  (of_decide_eq_true (by kernel_rfl)) (by unfold Func.isWrapper;first|(rw[if_pos (by decide+kernel)];kernel_rfl)|(rw[if_neg (by decide+kernel)];exact⟨rfl,rfl⟩))
  (fun os started H enc _=>lifted os started H enc)
end Go.Proofs.YtiinnfilgnhjfaaGreat.fnExactMoveAll
namespace Go.Proofs.YtiinnfilgnhjfaaGreat
theorem fnExactMoveAll_holds:Rows.FnExactMoveAllSaid:=fnExactMoveAll.Zk
end Go.Proofs.YtiinnfilgnhjfaaGreat
