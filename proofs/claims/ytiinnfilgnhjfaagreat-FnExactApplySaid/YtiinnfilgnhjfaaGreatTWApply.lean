/- The program's Apply answers what the reference's Apply answers, for all arguments that fit into memory, and changes none of them. -/
import Derived.Test.YtiinnfilgnhjfaaGreatRows
import Derived.Test.YtiinnfilgnhjfaaGreatTP1
import Derived.Test.YtiinnfilgnhjfaaGreatT5
import Derived.ProofKit
set_option linter.all false
namespace Go.Proofs.YtiinnfilgnhjfaaGreat.fnExactApply
open Go.T Go.T.R Go.RowKit
set_option maxRecDepth 100000
theorem own:ownKnob Tryz.prog.godebug=none:=by kernel_rfl
theorem laidOut:laidOutB Tryz.prog=true:=by kernel_rfl
theorem lifted (os:Os) (started:os.Started) (H:Type) (enc:TypeId×Value→H):
 ReturnsInHanded {} Tryz.checked os 4 .any (Rows.fnExactApplySpec.pre6 enc Tryz.prog Tryz.f4 Rows.fnExactApplyRow.domain false) (Rows.fnExactApplySpec.post enc Tryz.prog Tryz.f4 false true false false):=by
 refine returnsInHanded_of_change_sized (C:=Tryz.checked) own started Bo Tryz.func4
  (ChangeSpec.witness6 (enc:=enc) (C:=Tryz.checked) false ⟨#[],#[.agg #[.slice none 0 0,.slice none 0 0,.slice none 0 0,.slice none 0 0,.slice none 0 0,.int .i64 0],.agg #[.int .i64 0,.string ⟨#[]⟩,.string ⟨#[]⟩,.int .i64 0,.int .i64 0]],[]⟩ 8 Bo Bo Bo Bo) ?_
 intro W base args ds gs before hval hW atS hsz _;exact ajd (C:=Go.T.R.C) aqT (ts:=[yD,D7]) (tb:=anS) (m:=9) (base:=base) laidOut rfl rfl Bo rfl Bo Bo Bo (by decide) (fun ds hds=>match ds,hds with|[_,_],_=>⟨rfl,rfl,rfl⟩) ahF hval hW hsz
set_option maxHeartbeats 4000000
theorem joined:joinedFacts Tryz.checked.prog 4 Tryz.f4 Rows.fnExactApplySpec Rows.fnExactApplyRow=true:=by
 unfold joinedFacts;simp only[fk]
 repeat' apply And.intro
 all_goals (as_aux_lemma=>kernel_rfl)
theorem aq2:Rows.fnExactApplyRow.holds Tryz.pinned (OpenSpec.ofChange Rows.fnExactApplySpec):=
 OpenClaim.holds_of_wide 4 Tryz.f4 rfl rfl rfl rfl rfl rfl rfl ⟨rfl,rfl,rfl,rfl,rfl⟩ rfl rfl rfl rfl rfl Bo Tryz.func4 joined
  (yh Bo) (by unfold Func.isWrapper;first|(rw[aJ (by decide+kernel)];kernel_rfl)|(rw[aF (by decide+kernel)];exact⟨rfl,rfl⟩))
  (fun os started H enc _=>lifted os started H enc)
end Go.Proofs.YtiinnfilgnhjfaaGreat.fnExactApply
namespace Go.Proofs.YtiinnfilgnhjfaaGreat
theorem fnExactApply_holds:Rows.FnExactApplySaid:=fnExactApply.aq2
end Go.Proofs.YtiinnfilgnhjfaaGreat
