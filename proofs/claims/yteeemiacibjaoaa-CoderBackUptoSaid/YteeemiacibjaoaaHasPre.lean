/- strings.HasPrefix. -/
import Derived.Test.YteeemiacibjaoaaBase
import Derived.Lib.Strings
set_option linter.unusedVariables false
set_option linter.unusedSimpArgs false
namespace Go.Proofs.Yteeemiacibjaoaa.Hp
open Go.RowKit Go.Proofs.YteeemiacibjaoaaW.PrintWords Go.Proofs.Yteeemiacibjaoaa.B

set_option maxRecDepth 100000 in
set_option maxHeartbeats 1000000 in
theorem lite_any (s p : ByteArray) (w : World) : Calls Try.prog 89 #[.string s, .string p] w (Still (.bool (Lib.hasPrefix s.data.toList p.data.toList)) w) := by
  rw [← Lib.hasPrefix_of_take, ← Lib.size_eq, ← Lib.size_eq]
  go_enter Try.func89, Try.ntmps89
  go_wp2
  · rename_i h
    go_ret
    refine ⟨?_, rfl⟩
    show Ending.returned (Value.bool ((s.extract 0 p.size).toList == p.toList)) = _
    rw [Lib.extract_toList, Lib.toList_data]
    simp [h]
  · rename_i h
    go_ret
    refine ⟨?_, rfl⟩
    show Ending.returned (Value.bool false) = _
    simp [h]
set_option maxRecDepth 100000 in
set_option maxHeartbeats 1000000 in
theorem pre_any (s p : ByteArray) (w : World) : Calls Try.prog 71 #[.string s, .string p] w (Still (.bool (Lib.hasPrefix s.data.toList p.data.toList)) w) := by
  have H := Lib.hid (lite_any s p w)
  generalize Lib.hasPrefix s.data.toList p.data.toList = q at *
  go_enter Try.func71, Try.ntmps71
  go_wp2_with fail
  refine H.out.mono ?_
  rintro e w1 ⟨rfl, rfl⟩
  go_wp2_with fail
  go_ret
  exact ⟨rfl, rfl⟩
end Go.Proofs.Yteeemiacibjaoaa.Hp
