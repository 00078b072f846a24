/- law23: take of a number of 64 bits, of a text. -/
import Derived.Test.YteeemiacibjaoaaCoTake
set_option linter.unusedVariables false
set_option linter.unusedSimpArgs false
namespace Go.Proofs.Yteeemiacibjaoaa.Co
open Go.RowKit Go.Proofs.YteeemiacibjaoaaW.PrintWords Go.Proofs.Yteeemiacibjaoaa.B Go.Proofs.Yteeemiacibjaoaa.Fx Go.Proofs.Yteeemiacibjaoaa.Fr

set_option maxRecDepth 100000 in
set_option maxHeartbeats 1600000 in
theorem take1 (rv : Value) (k n : Int) (hk : k = 1) (cs : Array Value) (hcs : cs.size = 36) (h0 : cs[0]? = some (.int .i64 k)) (h1 : cs[1]? = some (.int .i64 n)) (w : World) (ex : Nat → Prop) (hex : ∀ b, w.heap.size ≤ b → ¬ ex b) (T : World → Prop) (hT : Firm w.heap.size T) (out : Nat)
    (hcall : ∀ W, Below w.heap.size w W → Calls Try.prog 74 #[rv] W (TkR W ex (.int .u64 (out : Nat)) T)) :
    Calls Try.prog 41 #[rv, .agg cs] w (fun x w' => x = .returned (.agg #[.int .i64 k, .int .i64 0, .int .u64 (out : Nat), .string ⟨#[]⟩, .int .u8 0, .int .u8 0, .int .u8 0, .int .u8 0, .int .u8 0, .int .u8 0, .int .u8 0, .int .u8 0, .int .u8 0, .int .u8 0, .int .u8 0, .int .u8 0, .int .u8 0, .int .u8 0, .int .u8 0, .int .u8 0, .int .u8 0, .int .u8 0, .int .u8 0, .int .u8 0, .int .u8 0, .int .u8 0, .int .u8 0, .int .u8 0, .int .u8 0, .int .u8 0, .int .u8 0, .int .u8 0, .int .u8 0, .int .u8 0, .int .u8 0, .int .u8 0]) ∧ T w') := by
  have q0 : (k == 0) = false := by rw [hk]; rfl
  have q1 : (k == 1) = true := by rw [hk]; rfl
  have HC := Lib.hid hcall
  have HX := Lib.hid hex
  have HT := Lib.hid hT
  clear hcall hex hT hk
  obtain ⟨w1, hw1⟩ : ∃ w1, w.alloc (.cells cs 73) = w1 := ⟨_, rfl⟩
  obtain ⟨w2, hw2⟩ : ∃ w2, w1.alloc (.cells #[.int .i64 0, .int .i64 0, .int .u64 0, .string ⟨#[]⟩, .int .u8 0, .int .u8 0, .int .u8 0, .int .u8 0, .int .u8 0, .int .u8 0, .int .u8 0, .int .u8 0, .int .u8 0, .int .u8 0, .int .u8 0, .int .u8 0, .int .u8 0, .int .u8 0, .int .u8 0, .int .u8 0, .int .u8 0, .int .u8 0, .int .u8 0, .int .u8 0, .int .u8 0, .int .u8 0, .int .u8 0, .int .u8 0, .int .u8 0, .int .u8 0, .int .u8 0, .int .u8 0, .int .u8 0, .int .u8 0, .int .u8 0, .int .u8 0] 73) = w2 := ⟨_, rfl⟩
  obtain ⟨w3, hw3⟩ : ∃ w3, w2.alloc (.cells #[.int .i64 0, .int .i64 0, .int .u64 0, .string ⟨#[]⟩, .int .u8 0, .int .u8 0, .int .u8 0, .int .u8 0, .int .u8 0, .int .u8 0, .int .u8 0, .int .u8 0, .int .u8 0, .int .u8 0, .int .u8 0, .int .u8 0, .int .u8 0, .int .u8 0, .int .u8 0, .int .u8 0, .int .u8 0, .int .u8 0, .int .u8 0, .int .u8 0, .int .u8 0, .int .u8 0, .int .u8 0, .int .u8 0, .int .u8 0, .int .u8 0, .int .u8 0, .int .u8 0, .int .u8 0, .int .u8 0, .int .u8 0, .int .u8 0] 73) = w3 := ⟨_, rfl⟩
  have hn1 : w1.heap[w.heap.size]? = some (.cells cs 73 (0, 0)) := hw1 ▸ blk_new w _
  have hn2 : w2.heap[w.heap.size]? = some (.cells cs 73 (0, 0)) := hw2 ▸ blk_alloc hn1 _
  have hs1 : w1.heap.size = w.heap.size + 1 := by rw [← hw1]; simp
  have hs2 : w2.heap.size = w1.heap.size + 1 := by rw [← hw2]; simp
  have HN2 := Lib.hid hn2
  have HN3 := Lib.hid (show w3.heap[w.heap.size]? = some (.cells cs 73 (0, 0)) from hw3 ▸ blk_alloc hn2 _)
  have HB3 := Lib.hid (show w3.heap[w2.heap.size]? = some (.cells #[.int .i64 0, .int .i64 0, .int .u64 0, .string ⟨#[]⟩, .int .u8 0, .int .u8 0, .int .u8 0, .int .u8 0, .int .u8 0, .int .u8 0, .int .u8 0, .int .u8 0, .int .u8 0, .int .u8 0, .int .u8 0, .int .u8 0, .int .u8 0, .int .u8 0, .int .u8 0, .int .u8 0, .int .u8 0, .int .u8 0, .int .u8 0, .int .u8 0, .int .u8 0, .int .u8 0, .int .u8 0, .int .u8 0, .int .u8 0, .int .u8 0, .int .u8 0, .int .u8 0, .int .u8 0, .int .u8 0, .int .u8 0, .int .u8 0] 73 (0, 0)) from hw3 ▸ blk_new w2 _)
  have hr2 : w2.heap[w1.heap.size]? = some (.cells zeroP 73 (0, 0)) := hw2 ▸ blk_new w1 _
  have HR3 := Lib.hid (show w3.heap[w1.heap.size]? = some (.cells zeroP 73 (0, 0)) from hw3 ▸ blk_alloc hr2 _)
  have hb1 : Below w.heap.size w w1 := hw1 ▸ below_alloc (Below.refl _ _) _
  have hb2 : Below w.heap.size w w2 := hw2 ▸ below_alloc hb1 _
  have HW3 := Lib.hid (show Below w.heap.size w w3 from hw3 ▸ below_alloc hb2 _)
  have c0 : w2.cell? ⟨w.heap.size, 0, none⟩ = some (.int .i64 k) := (blk_cell hn2 0).trans h0
  have hz := blk_lt hn2
  have HS1 := Lib.hid hs1
  have HS2 := Lib.hid hs2
  clear hn1 hn2 hb1 hb2 hr2 hs1 hs2
  go_enter Try.func41, Try.ntmps41
  iterate 26 go_step
  refine wpList_plain rfl fun _ hK => wp_store_row 73 (.tmp 5) (.tmp 8) rfl w2.heap.size #[.int .i64 k, .int .i64 0, .int .u64 0, .string ⟨#[]⟩, .int .u8 0, .int .u8 0, .int .u8 0, .int .u8 0, .int .u8 0, .int .u8 0, .int .u8 0, .int .u8 0, .int .u8 0, .int .u8 0, .int .u8 0, .int .u8 0, .int .u8 0, .int .u8 0, .int .u8 0, .int .u8 0, .int .u8 0, .int .u8 0, .int .u8 0, .int .u8 0, .int .u8 0, .int .u8 0, .int .u8 0, .int .u8 0, .int .u8 0, .int .u8 0, .int .u8 0, .int .u8 0, .int .u8 0, .int .u8 0, .int .u8 0, .int .u8 0] rfl rfl _ _ HB3.out (by kernel_rfl) rfl (by simp [Value.oneCell']) (hK _ _ ?_)
  have HB4 := Lib.hid (setRow_heap w3 w2.heap.size _ (KP k) _ _ HB3.out)
  have hne : w2.heap.size ≠ w.heap.size := by have := HS1.out; have := HS2.out; omega
  have HN4 := Lib.hid ((setRow_other w3 w2.heap.size w.heap.size (KP k) hne.symm).trans HN3.out)
  have HR4 := Lib.hid ((setRow_other w3 w2.heap.size w1.heap.size (KP k) (by have := HS2.out; omega)).trans HR3.out)
  have HW4 := Lib.hid (below_setRow HW3.out (show w.heap.size ≤ w2.heap.size by have := HS1.out; have := HS2.out; omega) (KP k))
  obtain ⟨w4, hw4⟩ : ∃ w4, w3.setRow w2.heap.size (KP k) = w4 := ⟨_, rfl⟩
  rw [hw4] at HB4 HN4 HR4 HW4
  unfold KP at hw4
  rw [hw4]
  have d0 : w4.cell? ⟨w.heap.size, 0, none⟩ = some (.int .i64 k) := (blk_cell HN4.out 0).trans h0
  have d1 : w4.cell? ⟨w.heap.size, 1, none⟩ = some (.int .i64 n) := (blk_cell HN4.out 1).trans h1
  have hz4 := blk_lt HN4.out
  have H0 := Lib.hid h0
  have H1 := Lib.hid h1
  have HNE := Lib.hid hne
  clear h0 h1 c0 hz hw1 hw2 hw3 hw4 HN2 HN3 HB3 HR3 HW3 hne
  go_wp2_with fail
  refine (HC.out w4 HW4.out).mono ?_
  rintro x w5 ⟨rfl, ht5, hsz5, hk5⟩
  have HB5 := Lib.hid ((hk5 w2.heap.size (HX.out _ (by have := HS1.out; have := HS2.out; omega)) (blk_lt HB4.out)).trans HB4.out)
  have HR5 := Lib.hid ((hk5 w1.heap.size (HX.out _ (by have := HS1.out; omega)) (blk_lt HR4.out)).trans HR4.out)
  have HT5 := Lib.hid ht5
  have e1 : w5.cell? ⟨w2.heap.size, 2, none⟩ = some (.int .u64 0) := blk_cell HB5.out 2
  have f1 : w5.frozen? ⟨w2.heap.size, 2, none⟩ = false := blk_frozen HB5.out 2
  have hz5 := blk_lt HB5.out
  clear ht5 hsz5 hk5 d0 d1 hz4 HB4 HR4 HN4 HW4
  simp only []
  iterate 12 go_step
  obtain ⟨w6, hw6⟩ : ∃ w6, w5.setCell ⟨w2.heap.size, 2, none⟩ (.int .u64 (out : Nat)) = w6 := ⟨_, rfl⟩
  have HB6 := Lib.hid (show w6.heap[w2.heap.size]? = some (.cells ((KP k).setIfInBounds 2 (.int .u64 (out : Nat))) 73 (0, 0)) from hw6 ▸ blk_set HB5.out 2 _)
  have hne12 : w1.heap.size ≠ w2.heap.size := by have := HS2.out; omega
  have HR6 := Lib.hid (show w6.heap[w1.heap.size]? = some (.cells zeroP 73 (0, 0)) from hw6 ▸ blk_far HR5.out hne12 _)
  have HT6 := Lib.hid (show T w6 from hw6 ▸ (HT.out w5 w2.heap.size _ (by have := HS1.out; have := HS2.out; omega) HT5.out HB5.out).1 2 (.int .u64 (out : Nat)))
  have HT7 := Lib.hid ((HT.out w6 w1.heap.size _ (by have := HS1.out; omega) HT6.out HR6.out).2 ((KP k).setIfInBounds 2 (.int .u64 (out : Nat))))
  have HZ := Lib.hid (setRow_heap w6 w1.heap.size zeroP ((KP k).setIfInBounds 2 (.int .u64 (out : Nat))) _ _ HR6.out)
  obtain ⟨u, hu⟩ : ∃ u, (KP k).setIfInBounds 2 (.int .u64 (out : Nat)) = u := ⟨_, rfl⟩
  have HUS := Lib.hid (show u.size = 36 by rw [← hu]; rfl)
  have HONE := Lib.hid (show u.all (·.oneCell') = true by rw [← hu]; exact KO_one k 0 out ⟨#[]⟩)
  have HU := Lib.hid (show u = _ from hu.symm)
  rw [hu] at HB6 HT7 HZ
  rw [hw6]
  clear hu hw6 e1 f1 hz5 HB5 HR5 HT5 HT6
  refine wpList_load_mid rfl 73 (.tmp 5) rfl _ _ rfl u.toList _ (fun j v hv => by rw [Nat.zero_add, blk_cell HB6.out]; simpa using hv) Try.underlying73 rfl (by rw [Array.length_toList, HUS.out]; kernel_rfl) ?_
  refine wpList_plain rfl fun _ hK => wp_store_row 73 (.tmp 4) (.tmp 31) rfl w1.heap.size u rfl rfl _ zeroP HR6.out (by rw [HUS.out]; kernel_rfl) (by rw [HUS.out]; rfl) HONE.out (hK _ _ ?_)
  generalize w6.setRow w1.heap.size u = w7 at *
  clear HB6 HR6
  go_wp2_with fail
  refine bodyPost_ret_by (results_cell_row rfl _ _ w1.heap.size _ u (0, 0) _ rfl HZ.out Try.underlying73 rfl (by rw [HUS.out]; kernel_rfl)) rfl ?_
  exact ⟨by rw [HU.out]; rfl, HT7.out⟩
set_option maxRecDepth 100000 in
set_option maxHeartbeats 1600000 in
theorem take2 (rv : Value) (k n : Int) (hk : k = 2) (cs : Array Value) (hcs : cs.size = 36) (h0 : cs[0]? = some (.int .i64 k)) (h1 : cs[1]? = some (.int .i64 n)) (w : World) (ex : Nat → Prop) (hex : ∀ b, w.heap.size ≤ b → ¬ ex b) (T : World → Prop) (hT : Firm w.heap.size T) (out : ByteArray)
    (hcall : ∀ W, Below w.heap.size w W → Calls Try.prog 75 #[rv] W (TkR W ex (.string out) T)) :
    Calls Try.prog 41 #[rv, .agg cs] w (fun x w' => x = .returned (.agg #[.int .i64 k, .int .i64 0, .int .u64 0, .string out, .int .u8 0, .int .u8 0, .int .u8 0, .int .u8 0, .int .u8 0, .int .u8 0, .int .u8 0, .int .u8 0, .int .u8 0, .int .u8 0, .int .u8 0, .int .u8 0, .int .u8 0, .int .u8 0, .int .u8 0, .int .u8 0, .int .u8 0, .int .u8 0, .int .u8 0, .int .u8 0, .int .u8 0, .int .u8 0, .int .u8 0, .int .u8 0, .int .u8 0, .int .u8 0, .int .u8 0, .int .u8 0, .int .u8 0, .int .u8 0, .int .u8 0, .int .u8 0]) ∧ T w') := by
  have q0 : (k == 0) = false := by rw [hk]; rfl
  have q1 : (k == 1) = false := by rw [hk]; rfl
  have q2 : (k == 2) = true := by rw [hk]; rfl
  have HC := Lib.hid hcall
  have HX := Lib.hid hex
  have HT := Lib.hid hT
  clear hcall hex hT hk
  obtain ⟨w1, hw1⟩ : ∃ w1, w.alloc (.cells cs 73) = w1 := ⟨_, rfl⟩
  obtain ⟨w2, hw2⟩ : ∃ w2, w1.alloc (.cells #[.int .i64 0, .int .i64 0, .int .u64 0, .string ⟨#[]⟩, .int .u8 0, .int .u8 0, .int .u8 0, .int .u8 0, .int .u8 0, .int .u8 0, .int .u8 0, .int .u8 0, .int .u8 0, .int .u8 0, .int .u8 0, .int .u8 0, .int .u8 0, .int .u8 0, .int .u8 0, .int .u8 0, .int .u8 0, .int .u8 0, .int .u8 0, .int .u8 0, .int .u8 0, .int .u8 0, .int .u8 0, .int .u8 0, .int .u8 0, .int .u8 0, .int .u8 0, .int .u8 0, .int .u8 0, .int .u8 0, .int .u8 0, .int .u8 0] 73) = w2 := ⟨_, rfl⟩
  obtain ⟨w3, hw3⟩ : ∃ w3, w2.alloc (.cells #[.int .i64 0, .int .i64 0, .int .u64 0, .string ⟨#[]⟩, .int .u8 0, .int .u8 0, .int .u8 0, .int .u8 0, .int .u8 0, .int .u8 0, .int .u8 0, .int .u8 0, .int .u8 0, .int .u8 0, .int .u8 0, .int .u8 0, .int .u8 0, .int .u8 0, .int .u8 0, .int .u8 0, .int .u8 0, .int .u8 0, .int .u8 0, .int .u8 0, .int .u8 0, .int .u8 0, .int .u8 0, .int .u8 0, .int .u8 0, .int .u8 0, .int .u8 0, .int .u8 0, .int .u8 0, .int .u8 0, .int .u8 0, .int .u8 0] 73) = w3 := ⟨_, rfl⟩
  have hn1 : w1.heap[w.heap.size]? = some (.cells cs 73 (0, 0)) := hw1 ▸ blk_new w _
  have hn2 : w2.heap[w.heap.size]? = some (.cells cs 73 (0, 0)) := hw2 ▸ blk_alloc hn1 _
  have hs1 : w1.heap.size = w.heap.size + 1 := by rw [← hw1]; simp
  have hs2 : w2.heap.size = w1.heap.size + 1 := by rw [← hw2]; simp
  have HN2 := Lib.hid hn2
  have HN3 := Lib.hid (show w3.heap[w.heap.size]? = some (.cells cs 73 (0, 0)) from hw3 ▸ blk_alloc hn2 _)
  have HB3 := Lib.hid (show w3.heap[w2.heap.size]? = some (.cells #[.int .i64 0, .int .i64 0, .int .u64 0, .string ⟨#[]⟩, .int .u8 0, .int .u8 0, .int .u8 0, .int .u8 0, .int .u8 0, .int .u8 0, .int .u8 0, .int .u8 0, .int .u8 0, .int .u8 0, .int .u8 0, .int .u8 0, .int .u8 0, .int .u8 0, .int .u8 0, .int .u8 0, .int .u8 0, .int .u8 0, .int .u8 0, .int .u8 0, .int .u8 0, .int .u8 0, .int .u8 0, .int .u8 0, .int .u8 0, .int .u8 0, .int .u8 0, .int .u8 0, .int .u8 0, .int .u8 0, .int .u8 0, .int .u8 0] 73 (0, 0)) from hw3 ▸ blk_new w2 _)
  have hr2 : w2.heap[w1.heap.size]? = some (.cells zeroP 73 (0, 0)) := hw2 ▸ blk_new w1 _
  have HR3 := Lib.hid (show w3.heap[w1.heap.size]? = some (.cells zeroP 73 (0, 0)) from hw3 ▸ blk_alloc hr2 _)
  have hb1 : Below w.heap.size w w1 := hw1 ▸ below_alloc (Below.refl _ _) _
  have hb2 : Below w.heap.size w w2 := hw2 ▸ below_alloc hb1 _
  have HW3 := Lib.hid (show Below w.heap.size w w3 from hw3 ▸ below_alloc hb2 _)
  have c0 : w2.cell? ⟨w.heap.size, 0, none⟩ = some (.int .i64 k) := (blk_cell hn2 0).trans h0
  have hz := blk_lt hn2
  have HS1 := Lib.hid hs1
  have HS2 := Lib.hid hs2
  clear hn1 hn2 hb1 hb2 hr2 hs1 hs2
  go_enter Try.func41, Try.ntmps41
  iterate 26 go_step
  refine wpList_plain rfl fun _ hK => wp_store_row 73 (.tmp 5) (.tmp 8) rfl w2.heap.size #[.int .i64 k, .int .i64 0, .int .u64 0, .string ⟨#[]⟩, .int .u8 0, .int .u8 0, .int .u8 0, .int .u8 0, .int .u8 0, .int .u8 0, .int .u8 0, .int .u8 0, .int .u8 0, .int .u8 0, .int .u8 0, .int .u8 0, .int .u8 0, .int .u8 0, .int .u8 0, .int .u8 0, .int .u8 0, .int .u8 0, .int .u8 0, .int .u8 0, .int .u8 0, .int .u8 0, .int .u8 0, .int .u8 0, .int .u8 0, .int .u8 0, .int .u8 0, .int .u8 0, .int .u8 0, .int .u8 0, .int .u8 0, .int .u8 0] rfl rfl _ _ HB3.out (by kernel_rfl) rfl (by simp [Value.oneCell']) (hK _ _ ?_)
  have HB4 := Lib.hid (setRow_heap w3 w2.heap.size _ (KP k) _ _ HB3.out)
  have hne : w2.heap.size ≠ w.heap.size := by have := HS1.out; have := HS2.out; omega
  have HN4 := Lib.hid ((setRow_other w3 w2.heap.size w.heap.size (KP k) hne.symm).trans HN3.out)
  have HR4 := Lib.hid ((setRow_other w3 w2.heap.size w1.heap.size (KP k) (by have := HS2.out; omega)).trans HR3.out)
  have HW4 := Lib.hid (below_setRow HW3.out (show w.heap.size ≤ w2.heap.size by have := HS1.out; have := HS2.out; omega) (KP k))
  obtain ⟨w4, hw4⟩ : ∃ w4, w3.setRow w2.heap.size (KP k) = w4 := ⟨_, rfl⟩
  rw [hw4] at HB4 HN4 HR4 HW4
  unfold KP at hw4
  rw [hw4]
  have d0 : w4.cell? ⟨w.heap.size, 0, none⟩ = some (.int .i64 k) := (blk_cell HN4.out 0).trans h0
  have d1 : w4.cell? ⟨w.heap.size, 1, none⟩ = some (.int .i64 n) := (blk_cell HN4.out 1).trans h1
  have hz4 := blk_lt HN4.out
  have H0 := Lib.hid h0
  have H1 := Lib.hid h1
  have HNE := Lib.hid hne
  clear h0 h1 c0 hz hw1 hw2 hw3 hw4 HN2 HN3 HB3 HR3 HW3 hne
  go_wp2_with fail
  refine (HC.out w4 HW4.out).mono ?_
  rintro x w5 ⟨rfl, ht5, hsz5, hk5⟩
  have HB5 := Lib.hid ((hk5 w2.heap.size (HX.out _ (by have := HS1.out; have := HS2.out; omega)) (blk_lt HB4.out)).trans HB4.out)
  have HR5 := Lib.hid ((hk5 w1.heap.size (HX.out _ (by have := HS1.out; omega)) (blk_lt HR4.out)).trans HR4.out)
  have HT5 := Lib.hid ht5
  have e1 : w5.cell? ⟨w2.heap.size, 3, none⟩ = some (.string ⟨#[]⟩) := blk_cell HB5.out 3
  have f1 : w5.frozen? ⟨w2.heap.size, 3, none⟩ = false := blk_frozen HB5.out 3
  have hz5 := blk_lt HB5.out
  clear ht5 hsz5 hk5 d0 d1 hz4 HB4 HR4 HN4 HW4
  simp only []
  iterate 12 go_step
  obtain ⟨w6, hw6⟩ : ∃ w6, w5.setCell ⟨w2.heap.size, 3, none⟩ (.string out) = w6 := ⟨_, rfl⟩
  have HB6 := Lib.hid (show w6.heap[w2.heap.size]? = some (.cells ((KP k).setIfInBounds 3 (.string out)) 73 (0, 0)) from hw6 ▸ blk_set HB5.out 3 _)
  have hne12 : w1.heap.size ≠ w2.heap.size := by have := HS2.out; omega
  have HR6 := Lib.hid (show w6.heap[w1.heap.size]? = some (.cells zeroP 73 (0, 0)) from hw6 ▸ blk_far HR5.out hne12 _)
  have HT6 := Lib.hid (show T w6 from hw6 ▸ (HT.out w5 w2.heap.size _ (by have := HS1.out; have := HS2.out; omega) HT5.out HB5.out).1 3 (.string out))
  have HT7 := Lib.hid ((HT.out w6 w1.heap.size _ (by have := HS1.out; omega) HT6.out HR6.out).2 ((KP k).setIfInBounds 3 (.string out)))
  have HZ := Lib.hid (setRow_heap w6 w1.heap.size zeroP ((KP k).setIfInBounds 3 (.string out)) _ _ HR6.out)
  obtain ⟨u, hu⟩ : ∃ u, (KP k).setIfInBounds 3 (.string out) = u := ⟨_, rfl⟩
  have HUS := Lib.hid (show u.size = 36 by rw [← hu]; rfl)
  have HONE := Lib.hid (show u.all (·.oneCell') = true by rw [← hu]; exact KO_one k 0 0 out)
  have HU := Lib.hid (show u = _ from hu.symm)
  rw [hu] at HB6 HT7 HZ
  rw [hw6]
  clear hu hw6 e1 f1 hz5 HB5 HR5 HT5 HT6
  refine wpList_load_mid rfl 73 (.tmp 5) rfl _ _ rfl u.toList _ (fun j v hv => by rw [Nat.zero_add, blk_cell HB6.out]; simpa using hv) Try.underlying73 rfl (by rw [Array.length_toList, HUS.out]; kernel_rfl) ?_
  refine wpList_plain rfl fun _ hK => wp_store_row 73 (.tmp 4) (.tmp 31) rfl w1.heap.size u rfl rfl _ zeroP HR6.out (by rw [HUS.out]; kernel_rfl) (by rw [HUS.out]; rfl) HONE.out (hK _ _ ?_)
  generalize w6.setRow w1.heap.size u = w7 at *
  clear HB6 HR6
  go_wp2_with fail
  refine bodyPost_ret_by (results_cell_row rfl _ _ w1.heap.size _ u (0, 0) _ rfl HZ.out Try.underlying73 rfl (by rw [HUS.out]; kernel_rfl)) rfl ?_
  exact ⟨by rw [HU.out]; rfl, HT7.out⟩
end Go.Proofs.Yteeemiacibjaoaa.Co
