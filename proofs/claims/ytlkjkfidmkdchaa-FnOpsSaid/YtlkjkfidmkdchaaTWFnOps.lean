/- The law FnOps answers true for every row of bytes that fits into memory, and changes none of them. -/
import Derived.Test.YtlkjkfidmkdchaaRows
import Derived.Test.YtlkjkfidmkdchaaTP0
import Derived.Test.YtlkjkfidmkdchaaT5
import Derived.ProofKit
set_option linter.all false
namespace Go.Proofs.Ytlkjkfidmkdchaa.fnOps
open Go.T Go.T.R Go.RowKit
set_option maxRecDepth 100000
theorem own:ownKnob Try.prog.godebug=none:=by kernel_rfl
theorem laidOut:laidOutB Try.prog=true:=by kernel_rfl
theorem lifted (os:Os) (started:os.Started) (H:Type) (enc:TypeId×Value→H):
 ReturnsInHanded {} Try.checked os 3 .any (Rows.fnOpsSpec.pre6 enc Try.prog Try.f3 Rows.fnOpsRow.domain false) (Rows.fnOpsSpec.post enc Try.prog Try.f3 false true false false):=by
 refine returnsInHanded_of_change_sized (C:=Try.checked) own started DH Try.func3
  (ChangeSpec.witness6 (enc:=enc) (C:=Try.checked) false ⟨#[],#[.slice none 0 0],[]⟩ 8 DH DH DH DH) ?_
 intro W base args ds gs before hval hW Rf hsz _;exact Gc (C:=Go.T.R.C) Nt (ts:=[mH]) (tb:=JV) (m:=9) (base:=base) laidOut rfl rfl DH rfl DH DH DH (by decide) (fun ds hds=>match ds,hds with|[_],_=>⟨rfl,rfl,rfl⟩) ED hval hW hsz
theorem Nv:Rows.fnOpsRow.holds Try.pinned (OpenSpec.ofChange Rows.fnOpsSpec):=
 OpenClaim.holds_of_wide 3 Try.f3 rfl rfl rfl rfl rfl rfl rfl ⟨rfl,rfl,rfl,rfl,rfl⟩ rfl rfl rfl rfl rfl DH Try.func3 DH
  (pP DH) (by unfold Func.isWrapper;first|(rw[aT (by decide+kernel)];kernel_rfl)|(rw[aH (by decide+kernel)];exact⟨rfl,rfl⟩))
  (fun os started H enc _=>lifted os started H enc)
end Go.Proofs.Ytlkjkfidmkdchaa.fnOps
namespace Go.Proofs.Ytlkjkfidmkdchaa
theorem fnOps_holds:Rows.FnOpsSaid:=fnOps.Nv
end Go.Proofs.Ytlkjkfidmkdchaa
