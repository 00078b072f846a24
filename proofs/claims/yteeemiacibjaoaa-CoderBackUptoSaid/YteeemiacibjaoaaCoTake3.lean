/- law23: take of a digest. -/
import Derived.Test.YteeemiacibjaoaaCoTake2
set_option linter.unusedVariables false
set_option linter.unusedSimpArgs false
namespace Go.Proofs.Yteeemiacibjaoaa.Co
open Go.RowKit Go.Proofs.YteeemiacibjaoaaW.PrintWords Go.Proofs.Yteeemiacibjaoaa.B Go.Proofs.Yteeemiacibjaoaa.Fx Go.Proofs.Yteeemiacibjaoaa.Fr

theorem setCells_other {g k : Nat} : ∀ (vs : List Value) (o : Nat) (w : World), k ≠ g → (w.setCells g o vs).heap[k]? = w.heap[k]?
  | [], _, _, _ => rfl
  | v :: r, o, w, h => (setCells_other r (o + 1) (w.setCell ⟨g, o, none⟩ v) h).trans (Below.heap_setCell w ⟨g, o, none⟩ v k h)
theorem firm_cells {B b : Nat} {T : World → Prop} (hT : Firm B T) (hb : B ≤ b) : ∀ (vs : List Value) (o : Nat) (W : World) (cs : Array Value), T W → W.heap[b]? = some (.cells cs 73 (0, 0)) → T (W.setCells b o vs)
  | [], _, _, _, h, _ => h
  | v :: r, o, W, cs, h, hc => firm_cells hT hb r (o + 1) (W.setCell ⟨b, o, none⟩ v) _ ((hT W b cs hb h hc).1 o v) (blk_set hc o v)
set_option maxRecDepth 100000 in
set_option maxHeartbeats 1600000 in
theorem take3 (rv : Value) (k n : Int) (k0 : k ≠ 0) (k1 : k ≠ 1) (k2 : k ≠ 2) (cs : Array Value) (hcs : cs.size = 36) (h0 : cs[0]? = some (.int .i64 k)) (h1 : cs[1]? = some (.int .i64 n)) (w : World) (ex : Nat → Prop) (hex : ∀ b, w.heap.size ≤ b → ¬ ex b) (T : World → Prop) (hT : Firm w.heap.size T) (out : Array Value) (hos : out.size = 32) (hon : out.all (·.oneCell') = true)
    (hcall : ∀ W, Below w.heap.size w W → Calls Try.prog 76 #[rv] W (TkR W ex (.agg out) T)) :
    Calls Try.prog 41 #[rv, .agg cs] w (fun x w' => x = .returned (.agg (#[.int .i64 k, .int .i64 0, .int .u64 0, .string ⟨#[]⟩] ++ out)) ∧ T w') := by
  have q0 : (k == 0) = false := by rw [beq_eq_false_iff_ne]; exact k0
  have q1 : (k == 1) = false := by rw [beq_eq_false_iff_ne]; exact k1
  have q2 : (k == 2) = false := by rw [beq_eq_false_iff_ne]; exact k2
  have HC := Lib.hid hcall
  have HOS := Lib.hid hos
  have HON := Lib.hid hon
  clear hos hon
  have HX := Lib.hid hex
  have HT := Lib.hid hT
  clear hcall hex hT k0 k1 k2
  obtain ⟨w1, hw1⟩ : ∃ w1, w.alloc (.cells cs 73) = w1 := ⟨_, rfl⟩
  obtain ⟨w2, hw2⟩ : ∃ w2, w1.alloc (.cells #[.int .i64 0, .int .i64 0, .int .u64 0, .string ⟨#[]⟩, .int .u8 0, .int .u8 0, .int .u8 0, .int .u8 0, .int .u8 0, .int .u8 0, .int .u8 0, .int .u8 0, .int .u8 0, .int .u8 0, .int .u8 0, .int .u8 0, .int .u8 0, .int .u8 0, .int .u8 0, .int .u8 0, .int .u8 0, .int .u8 0, .int .u8 0, .int .u8 0, .int .u8 0, .int .u8 0, .int .u8 0, .int .u8 0, .int .u8 0, .int .u8 0, .int .u8 0, .int .u8 0, .int .u8 0, .int .u8 0, .int .u8 0, .int .u8 0] 73) = w2 := ⟨_, rfl⟩
  obtain ⟨w3, hw3⟩ : ∃ w3, w2.alloc (.cells #[.int .i64 0, .int .i64 0, .int .u64 0, .string ⟨#[]⟩, .int .u8 0, .int .u8 0, .int .u8 0, .int .u8 0, .int .u8 0, .int .u8 0, .int .u8 0, .int .u8 0, .int .u8 0, .int .u8 0, .int .u8 0, .int .u8 0, .int .u8 0, .int .u8 0, .int .u8 0, .int .u8 0, .int .u8 0, .int .u8 0, .int .u8 0, .int .u8 0, .int .u8 0, .int .u8 0, .int .u8 0, .int .u8 0, .int .u8 0, .int .u8 0, .int .u8 0, .int .u8 0, .int .u8 0, .int .u8 0, .int .u8 0, .int .u8 0] 73) = w3 := ⟨_, rfl⟩
  have hn1 : w1.heap[w.heap.size]? = some (.cells cs 73 (0, 0)) := hw1 ▸ blk_new w _
  have hn2 : w2.heap[w.heap.size]? = some (.cells cs 73 (0, 0)) := hw2 ▸ blk_alloc hn1 _
  have hs1 : w1.heap.size = w.heap.size + 1 := by rw [← hw1]; simp
  have hs2 : w2.heap.size = w1.heap.size + 1 := by rw [← hw2]; simp
  have HN2 := Lib.hid hn2
  have HN3 := Lib.hid (show w3.heap[w.heap.size]? = some (.cells cs 73 (0, 0)) from hw3 ▸ blk_alloc hn2 _)
  have HB3 := Lib.hid (show w3.heap[w2.heap.size]? = some (.cells #[.int .i64 0, .int .i64 0, .int .u64 0, .string ⟨#[]⟩, .int .u8 0, .int .u8 0, .int .u8 0, .int .u8 0, .int .u8 0, .int .u8 0, .int .u8 0, .int .u8 0, .int .u8 0, .int .u8 0, .int .u8 0, .int .u8 0, .int .u8 0, .int .u8 0, .int .u8 0, .int .u8 0, .int .u8 0, .int .u8 0, .int .u8 0, .int .u8 0, .int .u8 0, .int .u8 0, .int .u8 0, .int .u8 0, .int .u8 0, .int .u8 0, .int .u8 0, .int .u8 0, .int .u8 0, .int .u8 0, .int .u8 0, .int .u8 0] 73 (0, 0)) from hw3 ▸ blk_new w2 _)
  have hr2 : w2.heap[w1.heap.size]? = some (.cells zeroP 73 (0, 0)) := hw2 ▸ blk_new w1 _
  have HR3 := Lib.hid (show w3.heap[w1.heap.size]? = some (.cells zeroP 73 (0, 0)) from hw3 ▸ blk_alloc hr2 _)
  have hb1 : Below w.heap.size w w1 := hw1 ▸ below_alloc (Below.refl _ _) _
  have hb2 : Below w.heap.size w w2 := hw2 ▸ below_alloc hb1 _
  have HW3 := Lib.hid (show Below w.heap.size w w3 from hw3 ▸ below_alloc hb2 _)
  have c0 : w2.cell? ⟨w.heap.size, 0, none⟩ = some (.int .i64 k) := (blk_cell hn2 0).trans h0
  have hz := blk_lt hn2
  have HS1 := Lib.hid hs1
  have HS2 := Lib.hid hs2
  clear hn1 hn2 hb1 hb2 hr2 hs1 hs2
  go_enter Try.func41, Try.ntmps41
  iterate 26 go_step
  refine wpList_plain rfl fun _ hK => wp_store_row 73 (.tmp 5) (.tmp 8) rfl w2.heap.size #[.int .i64 k, .int .i64 0, .int .u64 0, .string ⟨#[]⟩, .int .u8 0, .int .u8 0, .int .u8 0, .int .u8 0, .int .u8 0, .int .u8 0, .int .u8 0, .int .u8 0, .int .u8 0, .int .u8 0, .int .u8 0, .int .u8 0, .int .u8 0, .int .u8 0, .int .u8 0, .int .u8 0, .int .u8 0, .int .u8 0, .int .u8 0, .int .u8 0, .int .u8 0, .int .u8 0, .int .u8 0, .int .u8 0, .int .u8 0, .int .u8 0, .int .u8 0, .int .u8 0, .int .u8 0, .int .u8 0, .int .u8 0, .int .u8 0] rfl rfl _ _ HB3.out (by kernel_rfl) rfl (by simp [Value.oneCell']) (hK _ _ ?_)
  have HB4 := Lib.hid (setRow_heap w3 w2.heap.size _ (KP k) _ _ HB3.out)
  have hne : w2.heap.size ≠ w.heap.size := by have := HS1.out; have := HS2.out; omega
  have HN4 := Lib.hid ((setRow_other w3 w2.heap.size w.heap.size (KP k) hne.symm).trans HN3.out)
  have HR4 := Lib.hid ((setRow_other w3 w2.heap.size w1.heap.size (KP k) (by have := HS2.out; omega)).trans HR3.out)
  have HW4 := Lib.hid (below_setRow HW3.out (show w.heap.size ≤ w2.heap.size by have := HS1.out; have := HS2.out; omega) (KP k))
  obtain ⟨w4, hw4⟩ : ∃ w4, w3.setRow w2.heap.size (KP k) = w4 := ⟨_, rfl⟩
  rw [hw4] at HB4 HN4 HR4 HW4
  unfold KP at hw4
  rw [hw4]
  have d0 : w4.cell? ⟨w.heap.size, 0, none⟩ = some (.int .i64 k) := (blk_cell HN4.out 0).trans h0
  have d1 : w4.cell? ⟨w.heap.size, 1, none⟩ = some (.int .i64 n) := (blk_cell HN4.out 1).trans h1
  have hz4 := blk_lt HN4.out
  have H0 := Lib.hid h0
  have H1 := Lib.hid h1
  have HNE := Lib.hid hne
  clear h0 h1 c0 hz hw1 hw2 hw3 hw4 HN2 HN3 HB3 HR3 HW3 hne
  go_wp2_with fail
  refine (HC.out w4 HW4.out).mono ?_
  rintro x w5 ⟨rfl, ht5, hsz5, hk5⟩
  have HB5 := Lib.hid ((hk5 w2.heap.size (HX.out _ (by have := HS1.out; have := HS2.out; omega)) (blk_lt HB4.out)).trans HB4.out)
  have HR5 := Lib.hid ((hk5 w1.heap.size (HX.out _ (by have := HS1.out; omega)) (blk_lt HR4.out)).trans HR4.out)
  have HT5 := Lib.hid ht5
  have hz5 := blk_lt HB5.out
  clear ht5 hsz5 hk5 d0 d1 hz4 HB4 HR4 HN4 HW4
  simp only []
  iterate 4 go_step
  obtain ⟨cur', h6, h6s, h6l⟩ := setCells_mark (g := w2.heap.size) out.toList 4 w5 (KP k) HB5.out (by rw [Array.length_toList, HOS.out]; exact Nat.le_refl 36)
  have hcu : cur' = #[.int .i64 k, .int .i64 0, .int .u64 0, .string ⟨#[]⟩] ++ out := by
    apply Array.toList_inj.1
    rw [h6l, Array.length_toList, HOS.out, Array.toList_append]
    show _ ++ _ ++ [] = _
    rw [List.append_nil]
    rfl
  have HT6 := Lib.hid (firm_cells (HT.out) (show w.heap.size ≤ w2.heap.size by have := HS1.out; have := HS2.out; omega) out.toList 4 w5 _ HT5.out HB5.out)
  have hfr : ∀ j, (KP k).size = 36 ∧ w5.frozen? ⟨w2.heap.size, j, none⟩ = false := fun j => ⟨rfl, blk_frozen HB5.out j⟩
  refine wpList_store_mid rfl 52 (.tmp 13) (.tmp 12) rfl w2.heap.size 4 out rfl rfl (fun j hj => ⟨by rw [blk_cell HB5.out]; rw [Array.getElem?_eq_getElem (by rw [(hfr 0).1]; rw [HOS.out] at hj; omega)]; rfl, (hfr _).2⟩) (by rw [HOS.out]; kernel_rfl) HON.out ?_
  have hR6 := (setCells_other out.toList 4 w5 (show w1.heap.size ≠ w2.heap.size by have := HS2.out; omega)).trans HR5.out
  obtain ⟨w6, hw6⟩ : ∃ w6, w5.setCells w2.heap.size 4 out.toList = w6 := ⟨_, rfl⟩
  rw [hw6] at h6 HT6 hR6 ⊢
  rw [hcu] at h6
  have HB6 := Lib.hid h6
  have HR6 := Lib.hid hR6
  clear h6 h6s h6l hcu hR6 hw6 hz5 hfr
  iterate 5 go_step
  have HT7 := Lib.hid ((HT.out w6 w1.heap.size _ (by have := HS1.out; omega) HT6.out HR6.out).2 (#[.int .i64 k, .int .i64 0, .int .u64 0, .string ⟨#[]⟩] ++ out))
  have HZ := Lib.hid (setRow_heap w6 w1.heap.size zeroP (#[.int .i64 k, .int .i64 0, .int .u64 0, .string ⟨#[]⟩] ++ out) _ _ HR6.out)
  obtain ⟨u, hu⟩ : ∃ u, #[.int .i64 k, .int .i64 0, .int .u64 0, .string ⟨#[]⟩] ++ out = u := ⟨_, rfl⟩
  have HUS := Lib.hid (show u.size = 36 by rw [← hu, Array.size_append, HOS.out]; rfl)
  have HONE := Lib.hid (show u.all (·.oneCell') = true by rw [← hu, Array.all_append, HON.out]; simp [Value.oneCell'])
  have HU := Lib.hid (show u = _ from hu.symm)
  rw [hu] at HB6 HT7 HZ
  clear hu HB5 HR5 HT5 HT6
  refine wpList_load_mid rfl 73 (.tmp 5) rfl _ _ rfl u.toList _ (fun j v hv => by rw [Nat.zero_add, blk_cell HB6.out]; simpa using hv) Try.underlying73 rfl (by rw [Array.length_toList, HUS.out]; kernel_rfl) ?_
  refine wpList_plain rfl fun _ hK => wp_store_row 73 (.tmp 4) (.tmp 31) rfl w1.heap.size u rfl rfl _ zeroP HR6.out (by rw [HUS.out]; kernel_rfl) (by rw [HUS.out]; rfl) HONE.out (hK _ _ ?_)
  generalize w6.setRow w1.heap.size u = w7 at *
  clear HB6 HR6
  go_wp2_with fail
  refine bodyPost_ret_by (results_cell_row rfl _ _ w1.heap.size _ u (0, 0) _ rfl HZ.out Try.underlying73 rfl (by rw [HUS.out]; kernel_rfl)) rfl ?_
  exact ⟨by rw [HU.out], HT7.out⟩
end Go.Proofs.Yteeemiacibjaoaa.Co
