/- The program's CellsNew answers what the reference's answers, for all arguments: the plain part, computed. -/
import Derived.Test.YtghjiklgaaeiiaaPFnExactCellsNewx2
namespace Go.Proofs.Ytghjiklgaaeiiaa.Pure
open Go.RowKit Go.Proofs.Ytghjiklgaaeiiaa.PFnExactCellsNew Go.Proofs.YtghjiklgaaeiiaaW.PrintWords Go.Proofs.YtghjiklgaaeiiaaW.PrintLast

/-- The law's function answers true at enough rounds. -/
theorem FnExactCellsNew : laws_FnExactCellsNew.Pure := by
  refine ⟨40, ?_⟩
  decide +kernel

end Go.Proofs.Ytghjiklgaaeiiaa.Pure
