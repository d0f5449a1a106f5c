/- The law FnSightsBent answers true for every row of bytes that fits into memory, and changes none of them. -/
import Derived.Test.YtlkjkfidmkdchaaRows
import Derived.Test.YtlkjkfidmkdchaaTP0
import Derived.Test.YtlkjkfidmkdchaaT5
import Derived.ProofKit
set_option linter.all false
namespace Go.Proofs.Ytlkjkfidmkdchaa.fnSightsBent
open Go.T Go.T.R Go.RowKit
set_option maxRecDepth 100000
theorem own:ownKnob Try.prog.godebug=none:=by kernel_rfl
theorem laidOut:laidOutB Try.prog=true:=by kernel_rfl
theorem lifted (os:Os) (started:os.Started) (H:Type) (enc:TypeId×Value→H):
 ReturnsInHanded {} Try.checked os 8 .any (Rows.fnSightsBentSpec.pre6 enc Try.prog Try.f8 Rows.fnSightsBentRow.domain false) (Rows.fnSightsBentSpec.post enc Try.prog Try.f8 false true false false):=by
 refine returnsInHanded_of_change_sized (C:=Try.checked) own started Lb Try.func8
  (ChangeSpec.witness6 (enc:=enc) (C:=Try.checked) false ⟨#[],#[.slice none 0 0],[]⟩ 8 Lb Lb Lb Lb) ?_
 intro W base args ds gs before hval hW Xu hsz _;exact NH (C:=Go.T.R.C) UW (ts:=[rA]) (tb:=RT) (m:=9) (base:=base) laidOut rfl rfl Lb rfl Lb Lb Lb (by decide) (fun ds hds=>match ds,hds with|[_],_=>⟨rfl,rfl,rfl⟩) AE hval hW hsz
theorem U0:Rows.fnSightsBentRow.holds Try.pinned (OpenSpec.ofChange Rows.fnSightsBentSpec):=
 OpenClaim.holds_of_wide 8 Try.f8 rfl rfl rfl rfl rfl rfl rfl ⟨rfl,rfl,rfl,rfl,rfl⟩ rfl rfl rfl rfl rfl Lb Try.func8 Lb
  (oI Lb) (by unfold Func.isWrapper;first|(rw[aY (by decide+kernel)];kernel_rfl)|(rw[aO (by decide+kernel)];exact⟨rfl,rfl⟩))
  (fun os started H enc _=>lifted os started H enc)
end Go.Proofs.Ytlkjkfidmkdchaa.fnSightsBent
namespace Go.Proofs.Ytlkjkfidmkdchaa
theorem fnSightsBent_holds:Rows.FnSightsBentSaid:=fnSightsBent.U0
end Go.Proofs.Ytlkjkfidmkdchaa
