/- The program's ApplyAll answers what the reference's ApplyAll answers, for all arguments that fit into memory, and changes none of them. -/
import Derived.Test.YtiinnfilgnhjfaaGreatRows
import Derived.Test.YtiinnfilgnhjfaaGreatTP1
import Derived.Test.YtiinnfilgnhjfaaGreatT5
import Derived.ProofKit
set_option linter.unusedVariables false
namespace Go.Proofs.YtiinnfilgnhjfaaGreat.fnExactApplyAll
open Go.T Go.T.R Go.RowKit
set_option maxRecDepth 100000
theorem own:ownKnob Tryz.prog.godebug=none:=by kernel_rfl
theorem laidOut:laidOutB Tryz.prog=true:=by kernel_rfl
theorem lifted (os:Os) (started:os.Started) (H:Type) (enc:TypeId×Value→H):
 ReturnsInHanded {} Tryz.checked os 5 .any (Rows.fnExactApplyAllSpec.pre6 enc Tryz.prog Tryz.f5 Rows.fnExactApplyAllRow.domain false) (Rows.fnExactApplyAllSpec.post enc Tryz.prog Tryz.f5 false true false false):=by
 refine returnsInHanded_of_change_sized (C:=Tryz.checked) own started AG Tryz.func5
  (ChangeSpec.witness6 (enc:=enc) (C:=Tryz.checked) false ⟨#[],#[.agg #[.slice none 0 0,.slice none 0 0,.slice none 0 0,.slice none 0 0,.slice none 0 0,.int .i64 0],.slice none 0 0],[]⟩ 8 AG AG AG AG) ?_
 intro W base args ds gs before hval hW au4 hsz _;exact aj7 (C:=Go.T.R.C) ar5 (ts:=[yI,yH]) (tb:=aoV) (m:=9) (base:=base) laidOut rfl rfl AG rfl AG AG AG (by decide) (fun ds hds=>match ds,hds with|[_,_],_=>⟨rfl,rfl,rfl⟩) acz hval hW hsz
set_option maxHeartbeats 4000000
theorem joined:joinedFacts Tryz.checked.prog 5 Tryz.f5 Rows.fnExactApplyAllSpec Rows.fnExactApplyAllRow=true:=by
 unfold joinedFacts;simp only[eX]
 repeat' apply And.intro
 all_goals (as_aux_lemma=>kernel_rfl)
theorem ase:Rows.fnExactApplyAllRow.holds Tryz.pinned (OpenSpec.ofChange Rows.fnExactApplyAllSpec):=
 OpenClaim.holds_of_wide 5 Tryz.f5 rfl rfl rfl rfl rfl rfl rfl ⟨rfl,rfl,rfl,rfl,rfl⟩ rfl rfl rfl rfl rfl AG Tryz.func5 joined
  (yp AG) (by unfold Func.isWrapper;first|(rw[aI (by decide+kernel)];kernel_rfl)|(rw[aF (by decide+kernel)];exact⟨rfl,rfl⟩))
  (fun os started H enc _=>lifted os started H enc)
end Go.Proofs.YtiinnfilgnhjfaaGreat.fnExactApplyAll
namespace Go.Proofs.YtiinnfilgnhjfaaGreat
theorem fnExactApplyAll_holds:Rows.FnExactApplyAllSaid:=fnExactApplyAll.ase
end Go.Proofs.YtiinnfilgnhjfaaGreat
