/- The law FnSights answers true for every row of bytes that fits into memory, and changes none of them. -/
import Derived.Test.YtlkjkfidmkdchaaRows
import Derived.Test.YtlkjkfidmkdchaaTP0
import Derived.Test.YtlkjkfidmkdchaaT5
import Derived.ProofKit
set_option linter.all false
namespace Go.Proofs.Ytlkjkfidmkdchaa.fnSights
open Go.T Go.T.R Go.RowKit
set_option maxRecDepth 100000
theorem own:ownKnob Try.prog.godebug=none:=by kernel_rfl
theorem laidOut:laidOutB Try.prog=true:=by kernel_rfl
theorem lifted (os:Os) (started:os.Started) (H:Type) (enc:TypeId×Value→H):
 ReturnsInHanded {} Try.checked os 6 .any (Rows.fnSightsSpec.pre6 enc Try.prog Try.f6 Rows.fnSightsRow.domain false) (Rows.fnSightsSpec.post enc Try.prog Try.f6 false true false false):=by
 refine returnsInHanded_of_change_sized (C:=Try.checked) own started Lk Try.func6
  (ChangeSpec.witness6 (enc:=enc) (C:=Try.checked) false ⟨#[],#[.slice none 0 0],[]⟩ 8 Lk Lk Lk Lk) ?_
 intro W base args ds gs before hval hW XA hsz _;exact NP (C:=Go.T.R.C) U1 (ts:=[rK]) (tb:=RX) (m:=9) (base:=base) laidOut rfl rfl Lk rfl Lk Lk Lk (by decide) (fun ds hds=>match ds,hds with|[_],_=>⟨rfl,rfl,rfl⟩) G0 hval hW hsz
theorem U5:Rows.fnSightsRow.holds Try.pinned (OpenSpec.ofChange Rows.fnSightsSpec):=
 OpenClaim.holds_of_wide 6 Try.f6 rfl rfl rfl rfl rfl rfl rfl ⟨rfl,rfl,rfl,rfl,rfl⟩ rfl rfl rfl rfl rfl Lk Try.func6 Lk
  (oL Lk) (by unfold Func.isWrapper;first|(rw[aT (by decide+kernel)];kernel_rfl)|(rw[aL (by decide+kernel)];exact⟨rfl,rfl⟩))
  (fun os started H enc _=>lifted os started H enc)
end Go.Proofs.Ytlkjkfidmkdchaa.fnSights
namespace Go.Proofs.Ytlkjkfidmkdchaa
theorem fnSights_holds:Rows.FnSightsSaid:=fnSights.U5
end Go.Proofs.Ytlkjkfidmkdchaa
