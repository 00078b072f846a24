/- law28: LedgerFits as the row takes it. -/
import Derived.Test.YtkgbimkjpllakaaLdFitsL
set_option linter.unusedVariables false
set_option linter.unusedSimpArgs false
namespace Go.Proofs.Ytkgbimkjpllakaa.Ld
open Go.RowKit Go.Proofs.YtkgbimkjpllakaaW.PrintWords Go.Proofs.Ytkgbimkjpllakaa.B Go.Proofs.Ytkgbimkjpllakaa.O Go.Proofs.Ytkgbimkjpllakaa.Sc
theorem ledgerfits_row (cs : Array Value) (x : As) (cs' : Array Value) (x' : As) (w : World) (hK : kAs.K w x cs.toList) (hK' : kAs.K w x' cs'.toList) :
    Calls Try.prog 10 #[.agg cs, .agg cs'] w (Kept (.bool true) w) := by
  rw [as_of hK, as_of hK']
  exact ledgerfits_any _ _ _ _ _ _ _ _ w (bd_of _) (bd_of _) (bd_of _) (bd_of _) (bd_of _) (bd_of _) (bd_of _) (bd_of _)
end Go.Proofs.Ytkgbimkjpllakaa.Ld
