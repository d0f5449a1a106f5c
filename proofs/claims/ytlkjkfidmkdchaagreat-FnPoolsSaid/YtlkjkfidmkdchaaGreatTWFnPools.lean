/- The law FnPools answers true for every row of bytes that fits into memory, and changes none of them. -/
import Derived.Test.YtlkjkfidmkdchaaGreatRows
import Derived.Test.YtlkjkfidmkdchaaGreatTP9
import Derived.Test.YtlkjkfidmkdchaaGreatT5
import Derived.ProofKit
set_option linter.all false
namespace Go.Proofs.YtlkjkfidmkdchaaGreat.fnPools
open Go.T Go.T.R Go.RowKit
set_option maxRecDepth 100000
theorem own:ownKnob Tryz.prog.godebug=none:=by kernel_rfl
theorem laidOut:laidOutB Tryz.prog=true:=by kernel_rfl
theorem lifted (os:Os) (started:os.Started) (H:Type) (enc:TypeId×Value→H):
 ReturnsInHanded {} Tryz.checked os 3 .any (Rows.fnPoolsSpec.pre6 enc Tryz.prog Tryz.f3 Rows.fnPoolsRow.domain false) (Rows.fnPoolsSpec.post enc Tryz.prog Tryz.f3 false true false false):=by
 refine returnsInHanded_of_change_sized (C:=Tryz.checked) own started zYk Tryz.func3
  (ChangeSpec.witness6 (enc:=enc) (C:=Tryz.checked) false ⟨#[],#[.slice none 0 0],[]⟩ 8 zYk zYk zYk zYk) ?_
 intro W base args ds gs before hval hW aoF hsz _;exact adG (C:=Go.T.R.CD) prOkD (ts:=[AQ]) (tb:=ah6) (m:=9) (base:=base) laidOut rfl rfl zYk rfl zYk zYk zYk (by decide) (fun ds hds=>match ds,hds with|[_],_=>⟨rfl,rfl,rfl⟩) Yf hval hW hsz
set_option maxHeartbeats 4000000
theorem joined:joinedFacts Tryz.checked.prog 3 Tryz.f3 Rows.fnPoolsSpec Rows.fnPoolsRow=true:=by
 unfold joinedFacts;simp only[dW]
 repeat' apply And.intro
 all_goals (as_aux_lemma=>kernel_rfl)
theorem ak8:Rows.fnPoolsRow.holds Tryz.pinned (OpenSpec.ofChange Rows.fnPoolsSpec):=
 OpenClaim.holds_of_wide 3 Tryz.f3 rfl rfl rfl rfl rfl rfl rfl ⟨rfl,rfl,rfl,rfl,rfl⟩ rfl rfl rfl rfl rfl zYk Tryz.func3 joined
  (qM zYk) (by unfold Func.isWrapper;first|(rw[aT (by decide+kernel)];kernel_rfl)|(rw[aK (by decide+kernel)];exact⟨rfl,rfl⟩))
  (fun os started H enc _=>lifted os started H enc)
end Go.Proofs.YtlkjkfidmkdchaaGreat.fnPools
namespace Go.Proofs.YtlkjkfidmkdchaaGreat
theorem fnPools_holds:Rows.FnPoolsSaid:=fnPools.ak8
end Go.Proofs.YtlkjkfidmkdchaaGreat
