/- The law FnNodesBent answers true for every row of bytes that fits into memory, and changes none of them. -/
import Derived.Test.YtlkjkfidmkdchaaRows
import Derived.Test.YtlkjkfidmkdchaaTP0
import Derived.Test.YtlkjkfidmkdchaaT5
import Derived.ProofKit
set_option linter.all false
namespace Go.Proofs.Ytlkjkfidmkdchaa.fnNodesBent
open Go.T Go.T.R Go.RowKit
set_option maxRecDepth 100000
theorem own:ownKnob Try.prog.godebug=none:=by kernel_rfl
theorem laidOut:laidOutB Try.prog=true:=by kernel_rfl
theorem lifted (os:Os) (started:os.Started) (H:Type) (enc:TypeId×Value→H):
 ReturnsInHanded {} Try.checked os 5 .any (Rows.fnNodesBentSpec.pre6 enc Try.prog Try.f5 Rows.fnNodesBentRow.domain false) (Rows.fnNodesBentSpec.post enc Try.prog Try.f5 false true false false):=by
 refine returnsInHanded_of_change_sized (C:=Try.checked) own started Gg Try.func5
  (ChangeSpec.witness6 (enc:=enc) (C:=Try.checked) false ⟨#[],#[.slice none 0 0],[]⟩ 8 Gg Gg Gg Gg) ?_
 intro W base args ds gs before hval hW Si hsz _;exact IS (C:=Go.T.R.C) PF (ts:=[nZ]) (tb:=Md) (m:=9) (base:=base) laidOut rfl rfl Gg rfl Gg Gg Gg (by decide) (fun ds hds=>match ds,hds with|[_],_=>⟨rfl,rfl,rfl⟩) xx hval hW hsz
theorem PG:Rows.fnNodesBentRow.holds Try.pinned (OpenSpec.ofChange Rows.fnNodesBentSpec):=
 OpenClaim.holds_of_wide 5 Try.f5 rfl rfl rfl rfl rfl rfl rfl ⟨rfl,rfl,rfl,rfl,rfl⟩ rfl rfl rfl rfl rfl Gg Try.func5 Gg
  (tX Gg) (by unfold Func.isWrapper;first|(rw[aY (by decide+kernel)];kernel_rfl)|(rw[aH (by decide+kernel)];exact⟨rfl,rfl⟩))
  (fun os started H enc _=>lifted os started H enc)
end Go.Proofs.Ytlkjkfidmkdchaa.fnNodesBent
namespace Go.Proofs.Ytlkjkfidmkdchaa
theorem fnNodesBent_holds:Rows.FnNodesBentSaid:=fnNodesBent.PG
end Go.Proofs.Ytlkjkfidmkdchaa
