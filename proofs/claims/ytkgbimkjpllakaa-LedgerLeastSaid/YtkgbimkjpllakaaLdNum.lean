/- ledger: the shares of 'lives'. -/
import Derived.Test.YtkgbimkjpllakaaLdClone
set_option linter.unusedVariables false
set_option linter.unusedSimpArgs false
namespace Go.Proofs.Ytkgbimkjpllakaa.Ld
open Go.RowKit Go.Proofs.YtkgbimkjpllakaaW.PrintWords Go.Proofs.Ytkgbimkjpllakaa.B Go.Proofs.Ytkgbimkjpllakaa.O Go.Proofs.Ytkgbimkjpllakaa.Sc
theorem below_no : belowB (floatOfInt .f64 40) (floatOfInt .f64 50) 4602678819172646912 = false := by decide +kernel
theorem below_yes : belowB (floatOfInt .f64 10) (floatOfInt .f64 100) 4602678819172646912 = true := by decide +kernel
end Go.Proofs.Ytkgbimkjpllakaa.Ld
