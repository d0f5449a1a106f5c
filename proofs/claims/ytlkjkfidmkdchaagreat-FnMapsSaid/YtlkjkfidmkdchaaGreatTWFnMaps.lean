/- The law FnMaps answers true for every row of bytes that fits into memory, and changes none of them. -/
import Derived.Test.YtlkjkfidmkdchaaGreatRows
import Derived.Test.YtlkjkfidmkdchaaGreatTP9
import Derived.Test.YtlkjkfidmkdchaaGreatT5
import Derived.ProofKit
set_option linter.all false
namespace Go.Proofs.YtlkjkfidmkdchaaGreat.fnMaps
open Go.T Go.T.R Go.RowKit
set_option maxRecDepth 100000
theorem own:ownKnob Tryz.prog.godebug=none:=by kernel_rfl
theorem laidOut:laidOutB Tryz.prog=true:=by kernel_rfl
theorem lifted (os:Os) (started:os.Started) (H:Type) (enc:TypeId×Value→H):
 ReturnsInHanded {} Tryz.checked os 4 .any (Rows.fnMapsSpec.pre6 enc Tryz.prog Tryz.f4 Rows.fnMapsRow.domain false) (Rows.fnMapsSpec.post enc Tryz.prog Tryz.f4 false true false false):=by
 refine returnsInHanded_of_change_sized (C:=Tryz.checked) own started zYk Tryz.func4
  (ChangeSpec.witness6 (enc:=enc) (C:=Tryz.checked) false ⟨#[],#[.slice none 0 0],[]⟩ 8 zYk zYk zYk zYk) ?_
 intro W base args ds gs before hval hW aq2 hsz _;exact afE (C:=Go.T.R.CD) prOkD (ts:=[BK]) (tb:=aj6) (m:=9) (base:=base) laidOut rfl rfl zYk rfl zYk zYk zYk (by decide) (fun ds hds=>match ds,hds with|[_],_=>⟨rfl,rfl,rfl⟩) abR hval hW hsz
set_option maxHeartbeats 4000000
theorem joined:joinedFacts Tryz.checked.prog 4 Tryz.f4 Rows.fnMapsSpec Rows.fnMapsRow=true:=by
 unfold joinedFacts;simp only[dY]
 repeat' apply And.intro
 all_goals (as_aux_lemma=>kernel_rfl)
theorem anj:Rows.fnMapsRow.holds Tryz.pinned (OpenSpec.ofChange Rows.fnMapsSpec):=
 OpenClaim.holds_of_wide 4 Tryz.f4 rfl rfl rfl rfl rfl rfl rfl ⟨rfl,rfl,rfl,rfl,rfl⟩ rfl rfl rfl rfl rfl zYk Tryz.func4 joined
  (th zYk) (by unfold Func.isWrapper;first|(rw[aR (by decide+kernel)];kernel_rfl)|(rw[aJ (by decide+kernel)];exact⟨rfl,rfl⟩))
  (fun os started H enc _=>lifted os started H enc)
end Go.Proofs.YtlkjkfidmkdchaaGreat.fnMaps
namespace Go.Proofs.YtlkjkfidmkdchaaGreat
theorem fnMaps_holds:Rows.FnMapsSaid:=fnMaps.anj
end Go.Proofs.YtlkjkfidmkdchaaGreat
