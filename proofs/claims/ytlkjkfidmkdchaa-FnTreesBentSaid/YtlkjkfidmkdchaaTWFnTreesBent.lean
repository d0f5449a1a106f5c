/- The law FnTreesBent answers true for every row of bytes that fits into memory, and changes none of them. -/
import Derived.Test.YtlkjkfidmkdchaaRows
import Derived.Test.YtlkjkfidmkdchaaTP0
import Derived.Test.YtlkjkfidmkdchaaT5
import Derived.ProofKit
set_option linter.all false
namespace Go.Proofs.Ytlkjkfidmkdchaa.fnTreesBent
open Go.T Go.T.R Go.RowKit
set_option maxRecDepth 100000
theorem own:ownKnob Try.prog.godebug=none:=by kernel_rfl
theorem laidOut:laidOutB Try.prog=true:=by kernel_rfl
theorem lifted (os:Os) (started:os.Started) (H:Type) (enc:TypeId×Value→H):
 ReturnsInHanded {} Try.checked os 9 .any (Rows.fnTreesBentSpec.pre6 enc Try.prog Try.f9 Rows.fnTreesBentRow.domain false) (Rows.fnTreesBentSpec.post enc Try.prog Try.f9 false true false false):=by
 refine returnsInHanded_of_change_sized (C:=Try.checked) own started Ma Try.func9
  (ChangeSpec.witness6 (enc:=enc) (C:=Try.checked) false ⟨#[],#[.slice none 0 0],[]⟩ 8 Ma Ma Ma Ma) ?_
 intro W base args ds gs before hval hW Yj hsz _;exact OG (C:=Go.T.R.C) VH (ts:=[sG]) (tb:=Sv) (m:=9) (base:=base) laidOut rfl rfl Ma rfl Ma Ma Ma (by decide) (fun ds hds=>match ds,hds with|[_],_=>⟨rfl,rfl,rfl⟩) CC hval hW hsz
theorem VK:Rows.fnTreesBentRow.holds Try.pinned (OpenSpec.ofChange Rows.fnTreesBentSpec):=
 OpenClaim.holds_of_wide 9 Try.f9 rfl rfl rfl rfl rfl rfl rfl ⟨rfl,rfl,rfl,rfl,rfl⟩ rfl rfl rfl rfl rfl Ma Try.func9 Ma
  (uc Ma) (by unfold Func.isWrapper;first|(rw[bg (by decide+kernel)];kernel_rfl)|(rw[aR (by decide+kernel)];exact⟨rfl,rfl⟩))
  (fun os started H enc _=>lifted os started H enc)
end Go.Proofs.Ytlkjkfidmkdchaa.fnTreesBent
namespace Go.Proofs.Ytlkjkfidmkdchaa
theorem fnTreesBent_holds:Rows.FnTreesBentSaid:=fnTreesBent.VK
end Go.Proofs.Ytlkjkfidmkdchaa
