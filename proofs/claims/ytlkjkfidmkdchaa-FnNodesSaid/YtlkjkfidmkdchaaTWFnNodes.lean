/- The law FnNodes answers true for every row of bytes that fits into memory, and changes none of them. -/
import Derived.Test.YtlkjkfidmkdchaaRows
import Derived.Test.YtlkjkfidmkdchaaTP0
import Derived.Test.YtlkjkfidmkdchaaT5
import Derived.ProofKit
set_option linter.all false
namespace Go.Proofs.Ytlkjkfidmkdchaa.fnNodes
open Go.T Go.T.R Go.RowKit
set_option maxRecDepth 100000
theorem own:ownKnob Try.prog.godebug=none:=by kernel_rfl
theorem laidOut:laidOutB Try.prog=true:=by kernel_rfl
theorem lifted (os:Os) (started:os.Started) (H:Type) (enc:TypeId×Value→H):
 ReturnsInHanded {} Try.checked os 4 .any (Rows.fnNodesSpec.pre6 enc Try.prog Try.f4 Rows.fnNodesRow.domain false) (Rows.fnNodesSpec.post enc Try.prog Try.f4 false true false false):=by
 refine returnsInHanded_of_change_sized (C:=Try.checked) own started Fx Try.func4
  (ChangeSpec.witness6 (enc:=enc) (C:=Try.checked) false ⟨#[],#[.slice none 0 0],[]⟩ 8 Fx Fx Fx Fx) ?_
 intro W base args ds gs before hval hW RD hsz _;exact HX (C:=Go.T.R.C) OW (ts:=[nI]) (tb:=Lx) (m:=9) (base:=base) laidOut rfl rfl Fx rfl Fx Fx Fx (by decide) (fun ds hds=>match ds,hds with|[_],_=>⟨rfl,rfl,rfl⟩) Dp hval hW hsz
theorem OX:Rows.fnNodesRow.holds Try.pinned (OpenSpec.ofChange Rows.fnNodesSpec):=
 OpenClaim.holds_of_wide 4 Try.f4 rfl rfl rfl rfl rfl rfl rfl ⟨rfl,rfl,rfl,rfl,rfl⟩ rfl rfl rfl rfl rfl Fx Try.func4 Fx
  (sW Fx) (by unfold Func.isWrapper;first|(rw[aO (by decide+kernel)];kernel_rfl)|(rw[aD (by decide+kernel)];exact⟨rfl,rfl⟩))
  (fun os started H enc _=>lifted os started H enc)
end Go.Proofs.Ytlkjkfidmkdchaa.fnNodes
namespace Go.Proofs.Ytlkjkfidmkdchaa
theorem fnNodes_holds:Rows.FnNodesSaid:=fnNodes.OX
end Go.Proofs.Ytlkjkfidmkdchaa
