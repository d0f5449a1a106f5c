/- The program's PruneAll answers what the reference's PruneAll answers, for all arguments that fit into memory, and changes none of them. -/
import Derived.Test.YtiinnfilgnhjfaaGreatRows
import Derived.Test.YtiinnfilgnhjfaaGreatTP1
import Derived.Test.YtiinnfilgnhjfaaGreatT5
import Derived.ProofKit
set_option linter.unusedVariables false
namespace Go.Proofs.YtiinnfilgnhjfaaGreat.fnExactPruneAll
open Go.T Go.T.R Go.RowKit
set_option maxRecDepth 100000
theorem own:ownKnob Tryz.prog.godebug=none:=by kernel_rfl
theorem laidOut:laidOutB Tryz.prog=true:=by kernel_rfl
theorem lifted (os:Os) (started:os.Started) (H:Type) (enc:TypeId×Value→H):
 ReturnsInHanded {} Tryz.checked os 3 .any (Rows.fnExactPruneAllSpec.pre6 enc Tryz.prog Tryz.f3 Rows.fnExactPruneAllRow.domain false) (Rows.fnExactPruneAllSpec.post enc Tryz.prog Tryz.f3 false true false false):=by
 refine returnsInHanded_of_change_sized (C:=Tryz.checked) own started (by kernel_rfl) Tryz.func3
  (ChangeSpec.witness6 (enc:=enc) (C:=Tryz.checked) false ⟨#[],#[.agg #[.slice none 0 0,.slice none 0 0,.slice none 0 0,.slice none 0 0,.slice none 0 0,.int .i64 0]],[]⟩ 8 (by kernel_rfl) (by kernel_rfl) (by kernel_rfl) (by kernel_rfl)) ?_
 intro W base args ds gs before hval hW hcnd hsz _
 exact Y8 (C:=Go.T.R.C) adY (ts:=[sZ]) (tb:=acn) (m:=9) (base:=base) laidOut rfl rfl (by kernel_rfl) rfl (by kernel_rfl) (by kernel_rfl) (by kernel_rfl) (by decide) (fun ds hds=>match ds,hds with|[_],_=>⟨rfl,rfl,rfl⟩) SP hval hW hsz
set_option maxHeartbeats 4000000
theorem joined:joinedFacts Tryz.checked.prog 3 Tryz.f3 Rows.fnExactPruneAllSpec Rows.fnExactPruneAllRow=true:=by
 unfold joinedFacts
 simp only[Bool.and_eq_true]
 repeat' apply And.intro
 all_goals (as_aux_lemma=>kernel_rfl)
theorem ad9:Rows.fnExactPruneAllRow.holds Tryz.pinned (OpenSpec.ofChange Rows.fnExactPruneAllSpec):=
 OpenClaim.holds_of_wide 3 Tryz.f3 rfl rfl rfl rfl rfl rfl rfl ⟨rfl,rfl,rfl,rfl,rfl⟩ rfl rfl rfl rfl rfl (by kernel_rfl) Tryz.func3 joined
  (of_decide_eq_true (by kernel_rfl)) (by unfold Func.isWrapper;first|(rw[if_pos (by decide+kernel)];kernel_rfl)|(rw[if_neg (by decide+kernel)];exact⟨rfl,rfl⟩))
  (fun os started H enc _=>lifted os started H enc)
end Go.Proofs.YtiinnfilgnhjfaaGreat.fnExactPruneAll
namespace Go.Proofs.YtiinnfilgnhjfaaGreat
theorem fnExactPruneAll_holds:Rows.FnExactPruneAllSaid:=fnExactPruneAll.ad9
end Go.Proofs.YtiinnfilgnhjfaaGreat
