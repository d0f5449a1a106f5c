/- The law FnChain answers true for every row of bytes that fits into memory, and changes none of them. -/
import Derived.Test.YtlkjkfidmkdchaaRows
import Derived.Test.YtlkjkfidmkdchaaTP0
import Derived.Test.YtlkjkfidmkdchaaT5
import Derived.ProofKit
set_option linter.all false
namespace Go.Proofs.Ytlkjkfidmkdchaa.fnChain
open Go.T Go.T.R Go.RowKit
set_option maxRecDepth 100000
theorem own:ownKnob Try.prog.godebug=none:=by kernel_rfl
theorem laidOut:laidOutB Try.prog=true:=by kernel_rfl
theorem lifted (os:Os) (started:os.Started) (H:Type) (enc:TypeId×Value→H):
 ReturnsInHanded {} Try.checked os 10 .any (Rows.fnChainSpec.pre6 enc Try.prog Try.f10 Rows.fnChainRow.domain false) (Rows.fnChainSpec.post enc Try.prog Try.f10 false true false false):=by
 refine returnsInHanded_of_change_sized (C:=Try.checked) own started Qf Try.func10
  (ChangeSpec.witness6 (enc:=enc) (C:=Try.checked) false ⟨#[],#[.slice none 0 0],[]⟩ 8 Qf Qf Qf Qf) ?_
 intro W base args ds gs before hval hW adR hsz _;exact S0 (C:=Go.T.R.C) aaM (ts:=[vC]) (tb:=Xo) (m:=9) (base:=base) laidOut rfl rfl Qf rfl Qf Qf Qf (by decide) (fun ds hds=>match ds,hds with|[_],_=>⟨rfl,rfl,rfl⟩) ND hval hW hsz
theorem aaW:Rows.fnChainRow.holds Try.pinned (OpenSpec.ofChange Rows.fnChainSpec):=
 OpenClaim.holds_of_wide 10 Try.f10 rfl rfl rfl rfl rfl rfl rfl ⟨rfl,rfl,rfl,rfl,rfl⟩ rfl rfl rfl rfl rfl Qf Try.func10 Qf
  (ry Qf) (by unfold Func.isWrapper;first|(rw[aP (by decide+kernel)];kernel_rfl)|(rw[aF (by decide+kernel)];exact⟨rfl,rfl⟩))
  (fun os started H enc _=>lifted os started H enc)
end Go.Proofs.Ytlkjkfidmkdchaa.fnChain
namespace Go.Proofs.Ytlkjkfidmkdchaa
theorem fnChain_holds:Rows.FnChainSaid:=fnChain.aaW
end Go.Proofs.Ytlkjkfidmkdchaa
