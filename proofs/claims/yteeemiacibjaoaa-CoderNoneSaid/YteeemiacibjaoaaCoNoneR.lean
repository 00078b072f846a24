/- law23: CoderNone, of any part. -/
import Derived.Test.YteeemiacibjaoaaCoNone
import Derived.Test.YteeemiacibjaoaaCoPt
set_option linter.unusedVariables false
set_option linter.unusedSimpArgs false
namespace Go.Proofs.Yteeemiacibjaoaa.Co
open Go.RowKit Go.Proofs.YteeemiacibjaoaaW.PrintWords Go.Proofs.Yteeemiacibjaoaa.B Go.Proofs.Yteeemiacibjaoaa.O

theorem none_row (cs : Array Value) (x : Pt) (w : World) (h : kPt.K w x cs.toList) : Calls Try.prog 12 #[.agg cs] w (Kept (.bool true) w) := by
  obtain ⟨h1, h2⟩ := kPt_cells h
  exact none_any x.1.toInt x.2.1.toInt x.2.2.1.toNat x.2.2.2.1 (x.2.2.2.2.map encB) (by simp [h1]) cs (by rw [← Array.toArray_toList (xs := cs), h2, prtP_list]) w
end Go.Proofs.Yteeemiacibjaoaa.Co
