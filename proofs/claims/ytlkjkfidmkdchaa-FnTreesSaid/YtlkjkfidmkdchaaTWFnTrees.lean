/- The law FnTrees answers true for every row of bytes that fits into memory, and changes none of them. -/
import Derived.Test.YtlkjkfidmkdchaaRows
import Derived.Test.YtlkjkfidmkdchaaTP0
import Derived.Test.YtlkjkfidmkdchaaT5
import Derived.ProofKit
set_option linter.all false
namespace Go.Proofs.Ytlkjkfidmkdchaa.fnTrees
open Go.T Go.T.R Go.RowKit
set_option maxRecDepth 100000
theorem own:ownKnob Try.prog.godebug=none:=by kernel_rfl
theorem laidOut:laidOutB Try.prog=true:=by kernel_rfl
theorem lifted (os:Os) (started:os.Started) (H:Type) (enc:TypeId×Value→H):
 ReturnsInHanded {} Try.checked os 7 .any (Rows.fnTreesSpec.pre6 enc Try.prog Try.f7 Rows.fnTreesRow.domain false) (Rows.fnTreesSpec.post enc Try.prog Try.f7 false true false false):=by
 refine returnsInHanded_of_change_sized (C:=Try.checked) own started K2 Try.func7
  (ChangeSpec.witness6 (enc:=enc) (C:=Try.checked) false ⟨#[],#[.slice none 0 0],[]⟩ 8 K2 K2 K2 K2) ?_
 intro W base args ds gs before hval hW W8 hsz _;exact Nu (C:=Go.T.R.C) UB (ts:=[r7]) (tb:=Rm) (m:=9) (base:=base) laidOut rfl rfl K2 rfl K2 K2 K2 (by decide) (fun ds hds=>match ds,hds with|[_],_=>⟨rfl,rfl,rfl⟩) IP hval hW hsz
theorem UE:Rows.fnTreesRow.holds Try.pinned (OpenSpec.ofChange Rows.fnTreesSpec):=
 OpenClaim.holds_of_wide 7 Try.f7 rfl rfl rfl rfl rfl rfl rfl ⟨rfl,rfl,rfl,rfl,rfl⟩ rfl rfl rfl rfl rfl K2 Try.func7 K2
  (tV K2) (by unfold Func.isWrapper;first|(rw[aZ (by decide+kernel)];kernel_rfl)|(rw[aR (by decide+kernel)];exact⟨rfl,rfl⟩))
  (fun os started H enc _=>lifted os started H enc)
end Go.Proofs.Ytlkjkfidmkdchaa.fnTrees
namespace Go.Proofs.Ytlkjkfidmkdchaa
theorem fnTrees_holds:Rows.FnTreesSaid:=fnTrees.UE
end Go.Proofs.Ytlkjkfidmkdchaa
