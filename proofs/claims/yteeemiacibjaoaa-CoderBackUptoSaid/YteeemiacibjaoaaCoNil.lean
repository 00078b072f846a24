/- coder: a nil writer and a nil reader. -/
import Derived.Test.YteeemiacibjaoaaCoLives
set_option linter.unusedVariables false
set_option linter.unusedSimpArgs false
namespace Go.Proofs.Yteeemiacibjaoaa.Co
open Go.RowKit Go.Proofs.YteeemiacibjaoaaW.PrintWords Go.Proofs.Yteeemiacibjaoaa.B Go.Proofs.Yteeemiacibjaoaa.Fx Go.Proofs.Yteeemiacibjaoaa.Fr

set_option maxRecDepth 100000 in
theorem wnum_nil (n : Int) (w : World) : Calls Try.prog 43 #[.pointer none, .int .i64 n] w (Still (.tuple #[]) w) := by
  go_enter Try.func43, Try.ntmps43
  go_wp2
  refine bodyPost_ret (results_none rfl _ _ _) rfl ?_
  exact ⟨rfl, rfl⟩
set_option maxRecDepth 100000 in
theorem wseq_nil (n : Int) (w : World) : Calls Try.prog 44 #[.pointer none, .int .u64 n] w (Still (.tuple #[]) w) := by
  go_enter Try.func44, Try.ntmps44
  go_wp2
  go_end0
  exact ⟨rfl, rfl⟩
set_option maxRecDepth 100000 in
theorem wtext_nil (s : ByteArray) (w : World) : Calls Try.prog 45 #[.pointer none, .string s] w (Still (.tuple #[]) w) := by
  go_enter Try.func45, Try.ntmps45
  go_wp2
  refine bodyPost_ret (results_none rfl _ _ _) rfl ?_
  exact ⟨rfl, rfl⟩
set_option maxRecDepth 100000 in
theorem wdigest_nil (cs : Array Value) (w : World) : Calls Try.prog 46 #[.pointer none, .agg cs] w (Kept (.tuple #[]) w) := by
  go_enter Try.func46, Try.ntmps46
  go_wp2
  go_end0
  exact ⟨rfl, below_alloc (Below.refl _ _) _⟩
set_option maxRecDepth 100000 in
theorem wbytes_nil (w : World) : Calls Try.prog 47 #[.pointer none] w (Still (.tuple #[.slice none 0 0, .int .i64 1]) w) := by
  go_enter Try.func47, Try.ntmps47
  go_wp2
  go_ret2
  exact ⟨rfl, rfl⟩
set_option maxRecDepth 100000 in
set_option maxHeartbeats 400000 in
theorem rnum_nil (n : Int) (w : World) : Calls Try.prog 68 #[.pointer none, .int .i64 n] w (Kept (.int .i64 0) w) := by
  go_enter Try.func68, Try.ntmps68
  go_wp2_with fail
  refine (part_nil _ _ _).mono ?_
  rintro e w1 ⟨rfl, rfl⟩
  go_wp2_with fail
  go_ret
  exact ⟨rfl, below_alloc (below_alloc (below_alloc (Below.refl _ _) _) _) _⟩
set_option maxRecDepth 100000 in
set_option maxHeartbeats 400000 in
theorem rseq_nil (w : World) : Calls Try.prog 74 #[.pointer none] w (Kept (.int .u64 0) w) := by
  go_enter Try.func74, Try.ntmps74
  go_wp2_with fail
  refine (part_nil _ _ _).mono ?_
  rintro e w1 ⟨rfl, rfl⟩
  go_wp2_with fail
  go_ret
  exact ⟨rfl, below_alloc (below_alloc (Below.refl _ _) _) _⟩
set_option maxRecDepth 100000 in
set_option maxHeartbeats 400000 in
theorem rtext_nil (w : World) : Calls Try.prog 75 #[.pointer none] w (Kept (.string ⟨#[]⟩) w) := by
  go_enter Try.func75, Try.ntmps75
  go_wp2_with fail
  refine (part_nil _ _ _).mono ?_
  rintro e w1 ⟨rfl, rfl⟩
  go_wp2_with fail
  go_ret
  exact ⟨rfl, below_alloc (below_alloc (Below.refl _ _) _) _⟩
set_option maxRecDepth 100000 in
set_option maxHeartbeats 800000 in
theorem rdig_nil (w : World) : Calls Try.prog 76 #[.pointer none] w (Kept (.agg zero32) w) := by
  obtain ⟨w2, hw2⟩ : ∃ w2, (((w.alloc (.cells #[.pointer none] 65)).alloc (.cells zero32 52)).alloc (.cells zero32 52)) = w2 := ⟨_, rfl⟩
  have HB := Lib.hid (show Below w.heap.size w w2 from hw2 ▸ below_alloc (below_alloc (below_alloc (Below.refl _ _) _) _) _)
  have h3 : w2.heap[w.heap.size + 1]? = some (.cells zero32 52 (0, 0)) := by
    have := blk_new (w.alloc (.cells #[.pointer none] 65)) (.cells zero32 52)
    have := blk_alloc this (.cells zero32 52)
    rw [hw2] at this; simpa using this
  have h2 : w2.heap[w.heap.size + 1 + 1]? = some (.cells zero32 52 (0, 0)) := by
    have := blk_new ((w.alloc (.cells #[.pointer none] 65)).alloc (.cells zero32 52)) (.cells zero32 52)
    rw [hw2] at this; simpa using this
  have HT := Lib.hid h3
  have HO := Lib.hid h2
  clear h2 h3
  have HONE := Lib.hid (show zero32.all (·.oneCell') = true by unfold zero32; simp [Value.oneCell'])
  unfold zero32 at hw2
  have HW := Lib.hid hw2
  clear hw2
  go_enter Try.func76, Try.ntmps76
  go_wp2_with fail
  rw [HW.out]
  refine (part_nil _ _ _).mono ?_
  rintro e w3 ⟨rfl, rfl⟩
  clear HW
  simp only []
  iterate 6 go_step
  refine wpList_load_mid rfl 52 (.tmp 3) rfl _ _ rfl zero32.toList _ (fun j v hv => by rw [Nat.zero_add, blk_cell HO.out]; simpa using hv) Try.underlying52 rfl (by kernel_rfl) ?_
  refine wpList_plain rfl fun _ hK => wp_store_row 52 (.tmp 2) (.tmp 7) rfl (w.heap.size + 1) zero32 rfl rfl _ zero32 HT.out (by kernel_rfl) rfl HONE.out (hK _ _ ?_)
  have HZ := Lib.hid (setRow_heap w3 (w.heap.size + 1) zero32 zero32 _ _ HT.out)
  have HBZ := Lib.hid (Below.trans HB.out (below_setRow (Below.refl w.heap.size w3) (show w.heap.size ≤ w.heap.size + 1 by omega) zero32))
  generalize w3.setRow (w.heap.size + 1) zero32 = w4 at *
  clear HB HT HO
  go_wp2_with fail
  refine bodyPost_ret_by (results_cell_row rfl _ _ (w.heap.size + 1) _ zero32 (0, 0) _ rfl HZ.out Try.underlying52 rfl (by kernel_rfl)) rfl ?_
  exact ⟨rfl, HBZ.out⟩
end Go.Proofs.Yteeemiacibjaoaa.Co
