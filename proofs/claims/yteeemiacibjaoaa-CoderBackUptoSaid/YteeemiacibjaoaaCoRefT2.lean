/- stillageref23.Take, what is taken. -/
import Derived.Test.YteeemiacibjaoaaCoRefT
import Derived.Test.YteeemiacibjaoaaCoRefW
import Derived.Test.YteeemiacibjaoaaRefText
import Derived.Deep.RegionHeld3
set_option linter.unusedVariables false
set_option linter.unusedSimpArgs false
namespace Go.Proofs.Yteeemiacibjaoaa.Co
open Go.RowKit Go.Proofs.YteeemiacibjaoaaW.PrintWords Go.Proofs.Yteeemiacibjaoaa.B Go.Proofs.Yteeemiacibjaoaa.Fx Go.Proofs.Yteeemiacibjaoaa.Fr Go.Proofs.Yteeemiacibjaoaa.O

set_option maxRecDepth 100000 in
set_option maxHeartbeats 1600000 in
theorem rtk0_ok (A : Option Addr) (c : Nat) (x : List UInt8) (k most : Int) (w : World) (hk : k = 0) (he : V.tErr x 0 = 0) (hm : 0 ≤ most ∧ most ≤ 9223372036854775807 ∧ (V.tNum x 0 : Int) ≤ most) (hl : x.length ≤ 16000000) (hc : x.length ≤ c) (hr : Rd w A x) :
    Calls Try.prog 40 #[.agg #[.slice A x.length c, .int .i64 0], .int .i64 k, .int .i64 most] w (TkO A x (prt k (V.tNum x 0 : Nat) 0 ⟨#[]⟩ (List.replicate 32 0)) (x.drop (V.tEnd x 0).toNat) (0) w) := by
  have HR := Lib.hid hr
  obtain ⟨w1, hw1⟩ : ∃ w1, w.alloc (.cells #[.slice A x.length c, .int .i64 0] 70) = w1 := ⟨_, rfl⟩
  obtain ⟨w2, hw2⟩ : ∃ w2, w1.alloc (.cells zeroP 73) = w2 := ⟨_, rfl⟩
  obtain ⟨w3, hw3⟩ : ∃ w3, w2.alloc (.cells #[.slice none 0 0, .int .i64 0] 70) = w3 := ⟨_, rfl⟩
  obtain ⟨w4, hw4⟩ : ∃ w4, w3.alloc (.cells (KP k) 73) = w4 := ⟨_, rfl⟩
  have s1 : w1.heap.size = w.heap.size + 1 := by rw [← hw1]; simp
  have s2 : w2.heap.size = w1.heap.size + 1 := by rw [← hw2]; simp
  have s3 : w3.heap.size = w2.heap.size + 1 := by rw [← hw3]; simp
  have G3 : w4.heap[w.heap.size]? = some (.cells (rdC A x.length c 0) 70 (0, 0)) := hw4 ▸ blk_alloc (hw3 ▸ blk_alloc (hw2 ▸ blk_alloc (hw1 ▸ blk_new w _) _) _) _
  have G6 : w4.heap[w1.heap.size]? = some (.cells zeroP 73 (0, 0)) := hw4 ▸ blk_alloc (hw3 ▸ blk_alloc (hw2 ▸ blk_new w1 _) _) _
  have G7 : w4.heap[w2.heap.size]? = some (.cells #[.slice none 0 0, .int .i64 0] 70 (0, 0)) := hw4 ▸ blk_alloc (hw3 ▸ blk_new w2 _) _
  have G8 : w4.heap[w3.heap.size]? = some (.cells (KP k) 73 (0, 0)) := hw4 ▸ blk_new w3 _
  have B4 : Below w.heap.size w w4 := hw4 ▸ below_alloc (hw3 ▸ below_alloc (hw2 ▸ below_alloc (hw1 ▸ below_alloc (Below.refl _ _) _) _) _) _
  have N67 := Lib.hid (show w1.heap.size ≠ w2.heap.size by omega)
  have N36 := Lib.hid (show w.heap.size ≠ w1.heap.size by omega)
  have N37 := Lib.hid (show w.heap.size ≠ w2.heap.size by omega)
  have N38 := Lib.hid (show w.heap.size ≠ w3.heap.size by omega)
  have N86 := Lib.hid (show w3.heap.size ≠ w1.heap.size by omega)
  have N87 := Lib.hid (show w3.heap.size ≠ w2.heap.size by omega)
  have L6 := Lib.hid (show w.heap.size ≤ w1.heap.size by omega)
  have L7 := Lib.hid (show w.heap.size ≤ w2.heap.size by omega)
  have L8 := Lib.hid (show w.heap.size ≤ w3.heap.size by omega)
  have c30 : w4.cell? ⟨w.heap.size, 0, none⟩ = some (.slice A x.length c) := blk_cell G3 0
  have c31 : w4.cell? ⟨w.heap.size, 1, none⟩ = some (.int .i64 0) := blk_cell G3 1
  have z4 := blk_lt G8
  have z43 := blk_lt G3
  have HG3 := Lib.hid G3
  have HG6 := Lib.hid G6
  have HG7 := Lib.hid G7
  have HG8 := Lib.hid G8
  have HB4 := Lib.hid B4
  have HRX := Lib.hid (hr.below B4)
  clear hr s1 s2 s3 G3 G6 G7 G8 B4
  unfold zeroP at hw2
  have f8 : w4.frozen? ⟨w3.heap.size, 1, none⟩ = false := blk_frozen HG8.out 1
  have c8 : w4.cell? ⟨w3.heap.size, 1, none⟩ = some (.int .i64 0) := blk_cell HG8.out 1
  have HT := Lib.hid (show ∀ W, Rd W A x → Calls Try.prog 72 #[.slice A x.length c, .int .i64 0] W (Still (.tuple #[.int .u64 (V.tNum x 0), .int .i64 (V.tEnd x 0), .int .i64 (V.tErr x 0)]) W) from fun W h => Vr.rtake_any A c x 0 W (by omega) h)
  rw [he] at HT
  obtain ⟨en, hen, henl⟩ := num_end he
  rw [hen] at HT
  have HEN := Lib.hid hen
  have htl := num_lt x
  obtain ⟨Z, z, cz, hz, hcutz, hrdz, hzc, -⟩ := cutF (A := A) (l := x) (c := c) ((en : Int)) (by omega) (by omega) hc
  have HZ := Lib.hid hz.out
  have HRZ := Lib.hid hrdz
  clear hz hrdz
  rw [Int.toNat_natCast] at HZ
  obtain ⟨mm, rfl⟩ := Int.eq_ofNat_of_zero_le hm.1
  have hw : IntKind.u64.wrap (mm : Int) = (mm : Int) := IntWalk.u64_in _ (by omega)
  have hgt : ¬ (mm : Int) < (V.tNum x 0 : Int) := by omega
  have hq : decide ((mm : Int) < 0) = false := by simp
  have hw2 : IntKind.i64.wrap (V.tNum x 0 : Int) = (V.tNum x 0 : Int) := IntWalk.i64_in _ (by omega)
  clear hm
  have HTN := Lib.hid (show (V.tEnd x 0).toNat = en by rw [hen]; rfl)
  rw [show (V.tEnd x 0).toNat = en from HTN.out]
  clear hen HTN HEN he
  generalize V.tNum x 0 = tn at *
  have q0 : (k == 0) = true := by simp [hk]
  clear hk
  go_enter Try.func40, Try.ntmps40
  go_wp2_with (first | (refine wpList_box rfl rfl 73 _ _ rfl rfl (KP k) zeroP zeroPt rfl rfl rfl (infoP36 rfl) (KP_one k) ?_))
  refine (HT.out _ HRX.out).mono ?_
  rintro e w9 ⟨rfl, h9⟩
  rw [h9]
  clear h9
  go_wp2_with fail
  obtain ⟨w5, hw5⟩ : ∃ w5, w4.setCell ⟨w3.heap.size, 1, none⟩ (.int .i64 tn) = w5 := ⟨_, rfl⟩
  rw [hw5]
  have K8 := Lib.hid (show w5.heap[w3.heap.size]? = some (.cells (prt k (tn : Nat) 0 ⟨#[]⟩ (List.replicate 32 0)) 73 (0, 0)) by have h := blk_set HG8.out 1 (.int .i64 tn); rw [ko_1, hw5] at h; exact h)
  have K3 := Lib.hid (show w5.heap[w.heap.size]? = some (.cells (rdC A x.length c 0) 70 (0, 0)) by have h := blk_far HG3.out (p := ⟨w3.heap.size, 1, none⟩) N38.out (.int .i64 tn); rw [hw5] at h; exact h)
  have K6 := Lib.hid (show w5.heap[w1.heap.size]? = some (.cells zeroP 73 (0, 0)) by have h := blk_far HG6.out (p := ⟨w3.heap.size, 1, none⟩) N86.out.symm (.int .i64 tn); rw [hw5] at h; exact h)
  have K7 := Lib.hid (show w5.heap[w2.heap.size]? = some (.cells #[.slice none 0 0, .int .i64 0] 70 (0, 0)) by have h := blk_far HG7.out (p := ⟨w3.heap.size, 1, none⟩) N87.out.symm (.int .i64 tn); rw [hw5] at h; exact h)
  have KB := Lib.hid (show Below w.heap.size w w5 by rw [← hw5]; exact below_set' HB4.out L8.out)
  clear hw5 HG3 HG6 HG7 HG8 HB4 c8 f8 c30 c31
  have HXS := Lib.hid (show (prt k (tn : Nat) 0 ⟨#[]⟩ (List.replicate 32 0)).size = 36 from prt_size k _ _ _ _ (by simp))
  have HX1 := Lib.hid (show (prt k (tn : Nat) 0 ⟨#[]⟩ (List.replicate 32 0)).all (·.oneCell') = true from prt_one k _ _ _ _)
  obtain ⟨X, hX⟩ : ∃ X, prt k (tn : Nat) 0 ⟨#[]⟩ (List.replicate 32 0) = X := ⟨_, rfl⟩
  rw [hX] at K8 HXS HX1
  have HXX := Lib.hid hX
  clear hX
  refine wp_region_held_drew (S := fun W => W.heap[w3.heap.size]? = some (.cells (X) 73 (0, 0)) ∧ W.heap[w.heap.size]? = some (.cells (rdC A x.length c 0) 70 (0, 0))) (by kernel_rfl) ⟨K8.out, K3.out⟩ (fun hHeld => ?_)
  refine wpAnyH_take (i := 0) (v := .agg (X).toList.toArray) rfl (by kernel_rfl) (by kernel_rfl) (by kernel_rfl) (fun _ _ _ h => h) (yieldsIf_load_mid (by kernel_rfl) 73 _ rfl w3.heap.size 0 rfl (X).toList _ (fun W h => range_row h.1) Try.underlying73 rfl (by rw [Array.length_toList]; exact (infoP36 (HXS.out)))) hHeld ?_
  simp only [List.getElem_toArray, List.getElem_cons_succ, List.getElem_cons_zero, Act.put, List.setIfInBounds_toArray, List.set_cons_zero, List.set_cons_succ]
  refine wpAnyH_take (i := 1) (v := _) rfl (by kernel_rfl) (by kernel_rfl) (by kernel_rfl) (fun _ _ _ h => h) (Or.inl ⟨by kernel_rfl, fun w _ => by go_simp <;> with_reducible rfl⟩) hHeld ?_
  simp only [List.getElem_toArray, List.getElem_cons_succ, List.getElem_cons_zero, Act.put, List.setIfInBounds_toArray, List.set_cons_zero, List.set_cons_succ]
  refine wpAnyH_take (i := 2) (v := .slice A x.length c) rfl (by kernel_rfl) (by kernel_rfl) (by kernel_rfl) (fun _ _ _ h => h) (Or.inl ⟨by kernel_rfl, fun W h => by have c0 : W.cell? ⟨w.heap.size, 0, none⟩ = some (.slice A x.length c) := blk_cell h.2 0; go_simp <;> with_reducible rfl⟩) hHeld ?_
  simp only [List.getElem_toArray, List.getElem_cons_succ, List.getElem_cons_zero, Act.put, List.setIfInBounds_toArray, List.set_cons_zero, List.set_cons_succ]
  refine wpAnyH_take (i := 3) (v := _) rfl (by kernel_rfl) (by kernel_rfl) (by kernel_rfl) (fun _ _ _ h => h) (Or.inl ⟨by kernel_rfl, fun w _ => by go_simp <;> with_reducible rfl⟩) hHeld ?_
  simp only [List.getElem_toArray, List.getElem_cons_succ, List.getElem_cons_zero, Act.put, List.setIfInBounds_toArray, List.set_cons_zero, List.set_cons_succ]
  refine wpAnyH_take (i := 4) (v := _) rfl (by kernel_rfl) (by kernel_rfl) (by kernel_rfl) (fun _ _ _ h => h) (Or.inl ⟨by kernel_rfl, fun w _ => by go_simp <;> with_reducible rfl⟩) hHeld ?_
  simp only [List.getElem_toArray, List.getElem_cons_succ, List.getElem_cons_zero, Act.put, List.setIfInBounds_toArray, List.set_cons_zero, List.set_cons_succ]
  refine wpAnyH_take (i := 5) (v := _) rfl (by kernel_rfl) (by kernel_rfl) (by kernel_rfl) (fun _ _ _ h => h) (Or.inl ⟨by kernel_rfl, fun w _ => by go_simp <;> with_reducible rfl⟩) hHeld ?_
  simp only [List.getElem_toArray, List.getElem_cons_succ, List.getElem_cons_zero, Act.put, List.setIfInBounds_toArray, List.set_cons_zero, List.set_cons_succ]
  refine wpAnyH_ready (rs := [6]) (by kernel_rfl) (by simp) ?_
  refine AllReadyH.cons rfl (fun K hK => ?_) AllReadyH.nil
  rw [if_pos (by rfl)]
  refine wp_store_row 73 _ _ rfl w1.heap.size (X).toList.toArray rfl rfl 73 _ K6.out (infoP36 (HXS.out)) (by rw [Array.toArray_toList, HXS.out]; rfl) HX1.out ?_
  refine hK.out _ _ (⟨(setRow_other _ _ _ _ N86.out).trans hHeld.1, (setRow_other _ _ _ _ N36.out).trans hHeld.2⟩) (fun hHeld => ?_)
  clear hK K
  try simp only [List.getElem_toArray, List.getElem_cons_succ, List.getElem_cons_zero, Act.put, List.setIfInBounds_toArray, List.set_cons_zero, List.set_cons_succ]
  refine wpAnyH_ready (rs := [7]) (by kernel_rfl) (by simp) ?_
  refine AllReadyH.cons rfl (fun K hK => ?_) AllReadyH.nil
  rw [if_pos (by rfl)]
  refine wp_store_row 70 _ _ rfl w2.heap.size (rdC Z z.length cz 0) rfl rfl 70 _ ((setRow_other _ _ _ _ N67.out.symm).trans K7.out) infoRd rfl (rdC_one _ _ _ _) ?_
  refine hK.out _ _ (⟨(setRow_other _ _ _ _ N87.out).trans hHeld.1, (setRow_other _ _ _ _ N37.out).trans hHeld.2⟩) (fun hHeld => ?_)
  clear hK K
  try simp only [List.getElem_toArray, List.getElem_cons_succ, List.getElem_cons_zero, Act.put, List.setIfInBounds_toArray, List.set_cons_zero, List.set_cons_succ]
  refine wpAnyH_done (by kernel_rfl) ?_ _
  obtain ⟨G6F, G7F, BF⟩ := two_rows (W := w5.drew) (X).toList.toArray (rdC Z z.length cz 0) (blk_drew K6.out) (blk_drew K7.out) N67.out (below_drew KB.out) L6.out L7.out
  go_wp2_with fail
  refine bodyPost_ret_by (results_cc rfl _ _ w1.heap.size w2.heap.size 73 70 X _ (0, 0) (0, 0) _ _ rfl G6F Try.underlying73 rfl (infoP36 (HXS.out)) rfl G7F Try.underlying70 rfl infoRd) rfl ?_
  refine ⟨Z, cz, ?_, ?_, ?_, BF⟩
  · rw [← HZ.out, HXX.out]; rfl
  · rw [← HZ.out]; exact hzc
  · rw [← HZ.out]; exact HRZ.out
set_option maxRecDepth 100000 in
set_option maxHeartbeats 1600000 in
theorem rtk1_ok (A : Option Addr) (c : Nat) (x : List UInt8) (k most : Int) (w : World) (hk : k = 1) (he : V.tErr x 0 = 0) (hl : x.length ≤ 16000000) (hc : x.length ≤ c) (hr : Rd w A x) :
    Calls Try.prog 40 #[.agg #[.slice A x.length c, .int .i64 0], .int .i64 k, .int .i64 most] w (TkO A x (prt k 0 (V.tNum x 0) ⟨#[]⟩ (List.replicate 32 0)) (x.drop (V.tEnd x 0).toNat) (0) w) := by
  have HR := Lib.hid hr
  obtain ⟨w1, hw1⟩ : ∃ w1, w.alloc (.cells #[.slice A x.length c, .int .i64 0] 70) = w1 := ⟨_, rfl⟩
  obtain ⟨w2, hw2⟩ : ∃ w2, w1.alloc (.cells zeroP 73) = w2 := ⟨_, rfl⟩
  obtain ⟨w3, hw3⟩ : ∃ w3, w2.alloc (.cells #[.slice none 0 0, .int .i64 0] 70) = w3 := ⟨_, rfl⟩
  obtain ⟨w4, hw4⟩ : ∃ w4, w3.alloc (.cells (KP k) 73) = w4 := ⟨_, rfl⟩
  have s1 : w1.heap.size = w.heap.size + 1 := by rw [← hw1]; simp
  have s2 : w2.heap.size = w1.heap.size + 1 := by rw [← hw2]; simp
  have s3 : w3.heap.size = w2.heap.size + 1 := by rw [← hw3]; simp
  have G3 : w4.heap[w.heap.size]? = some (.cells (rdC A x.length c 0) 70 (0, 0)) := hw4 ▸ blk_alloc (hw3 ▸ blk_alloc (hw2 ▸ blk_alloc (hw1 ▸ blk_new w _) _) _) _
  have G6 : w4.heap[w1.heap.size]? = some (.cells zeroP 73 (0, 0)) := hw4 ▸ blk_alloc (hw3 ▸ blk_alloc (hw2 ▸ blk_new w1 _) _) _
  have G7 : w4.heap[w2.heap.size]? = some (.cells #[.slice none 0 0, .int .i64 0] 70 (0, 0)) := hw4 ▸ blk_alloc (hw3 ▸ blk_new w2 _) _
  have G8 : w4.heap[w3.heap.size]? = some (.cells (KP k) 73 (0, 0)) := hw4 ▸ blk_new w3 _
  have B4 : Below w.heap.size w w4 := hw4 ▸ below_alloc (hw3 ▸ below_alloc (hw2 ▸ below_alloc (hw1 ▸ below_alloc (Below.refl _ _) _) _) _) _
  have N67 := Lib.hid (show w1.heap.size ≠ w2.heap.size by omega)
  have N36 := Lib.hid (show w.heap.size ≠ w1.heap.size by omega)
  have N37 := Lib.hid (show w.heap.size ≠ w2.heap.size by omega)
  have N38 := Lib.hid (show w.heap.size ≠ w3.heap.size by omega)
  have N86 := Lib.hid (show w3.heap.size ≠ w1.heap.size by omega)
  have N87 := Lib.hid (show w3.heap.size ≠ w2.heap.size by omega)
  have L6 := Lib.hid (show w.heap.size ≤ w1.heap.size by omega)
  have L7 := Lib.hid (show w.heap.size ≤ w2.heap.size by omega)
  have L8 := Lib.hid (show w.heap.size ≤ w3.heap.size by omega)
  have c30 : w4.cell? ⟨w.heap.size, 0, none⟩ = some (.slice A x.length c) := blk_cell G3 0
  have c31 : w4.cell? ⟨w.heap.size, 1, none⟩ = some (.int .i64 0) := blk_cell G3 1
  have z4 := blk_lt G8
  have z43 := blk_lt G3
  have HG3 := Lib.hid G3
  have HG6 := Lib.hid G6
  have HG7 := Lib.hid G7
  have HG8 := Lib.hid G8
  have HB4 := Lib.hid B4
  have HRX := Lib.hid (hr.below B4)
  clear hr s1 s2 s3 G3 G6 G7 G8 B4
  unfold zeroP at hw2
  have f8 : w4.frozen? ⟨w3.heap.size, 2, none⟩ = false := blk_frozen HG8.out 2
  have c8 : w4.cell? ⟨w3.heap.size, 2, none⟩ = some (.int .u64 0) := blk_cell HG8.out 2
  have HT := Lib.hid (show ∀ W, Rd W A x → Calls Try.prog 72 #[.slice A x.length c, .int .i64 0] W (Still (.tuple #[.int .u64 (V.tNum x 0), .int .i64 (V.tEnd x 0), .int .i64 (V.tErr x 0)]) W) from fun W h => Vr.rtake_any A c x 0 W (by omega) h)
  rw [he] at HT
  obtain ⟨en, hen, henl⟩ := num_end he
  rw [hen] at HT
  have HEN := Lib.hid hen
  have htl := num_lt x
  obtain ⟨Z, z, cz, hz, hcutz, hrdz, hzc, -⟩ := cutF (A := A) (l := x) (c := c) ((en : Int)) (by omega) (by omega) hc
  have HZ := Lib.hid hz.out
  have HRZ := Lib.hid hrdz
  clear hz hrdz
  rw [Int.toNat_natCast] at HZ
  have HTN := Lib.hid (show (V.tEnd x 0).toNat = en by rw [hen]; rfl)
  rw [show (V.tEnd x 0).toNat = en from HTN.out]
  clear hen HTN HEN he
  generalize V.tNum x 0 = tn at *
  have q0 : (k == 0) = false := by simp [hk]
  have q1 : (k == 1) = true := by simp [hk]
  clear hk
  go_enter Try.func40, Try.ntmps40
  go_wp2_with (first | (refine wpList_box rfl rfl 73 _ _ rfl rfl (KP k) zeroP zeroPt rfl rfl rfl (infoP36 rfl) (KP_one k) ?_))
  refine (HT.out _ HRX.out).mono ?_
  rintro e w9 ⟨rfl, h9⟩
  rw [h9]
  clear h9
  go_wp2_with fail
  obtain ⟨w5, hw5⟩ : ∃ w5, w4.setCell ⟨w3.heap.size, 2, none⟩ (.int .u64 tn) = w5 := ⟨_, rfl⟩
  rw [hw5]
  have K8 := Lib.hid (show w5.heap[w3.heap.size]? = some (.cells (prt k 0 (tn) ⟨#[]⟩ (List.replicate 32 0)) 73 (0, 0)) by have h := blk_set HG8.out 2 (.int .u64 tn); rw [ko_2, hw5] at h; exact h)
  have K3 := Lib.hid (show w5.heap[w.heap.size]? = some (.cells (rdC A x.length c 0) 70 (0, 0)) by have h := blk_far HG3.out (p := ⟨w3.heap.size, 2, none⟩) N38.out (.int .u64 tn); rw [hw5] at h; exact h)
  have K6 := Lib.hid (show w5.heap[w1.heap.size]? = some (.cells zeroP 73 (0, 0)) by have h := blk_far HG6.out (p := ⟨w3.heap.size, 2, none⟩) N86.out.symm (.int .u64 tn); rw [hw5] at h; exact h)
  have K7 := Lib.hid (show w5.heap[w2.heap.size]? = some (.cells #[.slice none 0 0, .int .i64 0] 70 (0, 0)) by have h := blk_far HG7.out (p := ⟨w3.heap.size, 2, none⟩) N87.out.symm (.int .u64 tn); rw [hw5] at h; exact h)
  have KB := Lib.hid (show Below w.heap.size w w5 by rw [← hw5]; exact below_set' HB4.out L8.out)
  clear hw5 HG3 HG6 HG7 HG8 HB4 c8 f8 c30 c31
  have HXS := Lib.hid (show (prt k 0 (tn) ⟨#[]⟩ (List.replicate 32 0)).size = 36 from prt_size k _ _ _ _ (by simp))
  have HX1 := Lib.hid (show (prt k 0 (tn) ⟨#[]⟩ (List.replicate 32 0)).all (·.oneCell') = true from prt_one k _ _ _ _)
  obtain ⟨X, hX⟩ : ∃ X, prt k 0 (tn) ⟨#[]⟩ (List.replicate 32 0) = X := ⟨_, rfl⟩
  rw [hX] at K8 HXS HX1
  have HXX := Lib.hid hX
  clear hX
  refine wp_region_held_drew (S := fun W => W.heap[w3.heap.size]? = some (.cells (X) 73 (0, 0)) ∧ W.heap[w.heap.size]? = some (.cells (rdC A x.length c 0) 70 (0, 0))) (by kernel_rfl) ⟨K8.out, K3.out⟩ (fun hHeld => ?_)
  refine wpAnyH_take (i := 0) (v := .agg (X).toList.toArray) rfl (by kernel_rfl) (by kernel_rfl) (by kernel_rfl) (fun _ _ _ h => h) (yieldsIf_load_mid (by kernel_rfl) 73 _ rfl w3.heap.size 0 rfl (X).toList _ (fun W h => range_row h.1) Try.underlying73 rfl (by rw [Array.length_toList]; exact (infoP36 (HXS.out)))) hHeld ?_
  simp only [List.getElem_toArray, List.getElem_cons_succ, List.getElem_cons_zero, Act.put, List.setIfInBounds_toArray, List.set_cons_zero, List.set_cons_succ]
  refine wpAnyH_take (i := 1) (v := _) rfl (by kernel_rfl) (by kernel_rfl) (by kernel_rfl) (fun _ _ _ h => h) (Or.inl ⟨by kernel_rfl, fun w _ => by go_simp <;> with_reducible rfl⟩) hHeld ?_
  simp only [List.getElem_toArray, List.getElem_cons_succ, List.getElem_cons_zero, Act.put, List.setIfInBounds_toArray, List.set_cons_zero, List.set_cons_succ]
  refine wpAnyH_take (i := 2) (v := .slice A x.length c) rfl (by kernel_rfl) (by kernel_rfl) (by kernel_rfl) (fun _ _ _ h => h) (Or.inl ⟨by kernel_rfl, fun W h => by have c0 : W.cell? ⟨w.heap.size, 0, none⟩ = some (.slice A x.length c) := blk_cell h.2 0; go_simp <;> with_reducible rfl⟩) hHeld ?_
  simp only [List.getElem_toArray, List.getElem_cons_succ, List.getElem_cons_zero, Act.put, List.setIfInBounds_toArray, List.set_cons_zero, List.set_cons_succ]
  refine wpAnyH_take (i := 3) (v := _) rfl (by kernel_rfl) (by kernel_rfl) (by kernel_rfl) (fun _ _ _ h => h) (Or.inl ⟨by kernel_rfl, fun w _ => by go_simp <;> with_reducible rfl⟩) hHeld ?_
  simp only [List.getElem_toArray, List.getElem_cons_succ, List.getElem_cons_zero, Act.put, List.setIfInBounds_toArray, List.set_cons_zero, List.set_cons_succ]
  refine wpAnyH_take (i := 4) (v := _) rfl (by kernel_rfl) (by kernel_rfl) (by kernel_rfl) (fun _ _ _ h => h) (Or.inl ⟨by kernel_rfl, fun w _ => by go_simp <;> with_reducible rfl⟩) hHeld ?_
  simp only [List.getElem_toArray, List.getElem_cons_succ, List.getElem_cons_zero, Act.put, List.setIfInBounds_toArray, List.set_cons_zero, List.set_cons_succ]
  refine wpAnyH_take (i := 5) (v := _) rfl (by kernel_rfl) (by kernel_rfl) (by kernel_rfl) (fun _ _ _ h => h) (Or.inl ⟨by kernel_rfl, fun w _ => by go_simp <;> with_reducible rfl⟩) hHeld ?_
  simp only [List.getElem_toArray, List.getElem_cons_succ, List.getElem_cons_zero, Act.put, List.setIfInBounds_toArray, List.set_cons_zero, List.set_cons_succ]
  refine wpAnyH_ready (rs := [6]) (by kernel_rfl) (by simp) ?_
  refine AllReadyH.cons rfl (fun K hK => ?_) AllReadyH.nil
  rw [if_pos (by rfl)]
  refine wp_store_row 73 _ _ rfl w1.heap.size (X).toList.toArray rfl rfl 73 _ K6.out (infoP36 (HXS.out)) (by rw [Array.toArray_toList, HXS.out]; rfl) HX1.out ?_
  refine hK.out _ _ (⟨(setRow_other _ _ _ _ N86.out).trans hHeld.1, (setRow_other _ _ _ _ N36.out).trans hHeld.2⟩) (fun hHeld => ?_)
  clear hK K
  try simp only [List.getElem_toArray, List.getElem_cons_succ, List.getElem_cons_zero, Act.put, List.setIfInBounds_toArray, List.set_cons_zero, List.set_cons_succ]
  refine wpAnyH_ready (rs := [7]) (by kernel_rfl) (by simp) ?_
  refine AllReadyH.cons rfl (fun K hK => ?_) AllReadyH.nil
  rw [if_pos (by rfl)]
  refine wp_store_row 70 _ _ rfl w2.heap.size (rdC Z z.length cz 0) rfl rfl 70 _ ((setRow_other _ _ _ _ N67.out.symm).trans K7.out) infoRd rfl (rdC_one _ _ _ _) ?_
  refine hK.out _ _ (⟨(setRow_other _ _ _ _ N87.out).trans hHeld.1, (setRow_other _ _ _ _ N37.out).trans hHeld.2⟩) (fun hHeld => ?_)
  clear hK K
  try simp only [List.getElem_toArray, List.getElem_cons_succ, List.getElem_cons_zero, Act.put, List.setIfInBounds_toArray, List.set_cons_zero, List.set_cons_succ]
  refine wpAnyH_done (by kernel_rfl) ?_ _
  obtain ⟨G6F, G7F, BF⟩ := two_rows (W := w5.drew) (X).toList.toArray (rdC Z z.length cz 0) (blk_drew K6.out) (blk_drew K7.out) N67.out (below_drew KB.out) L6.out L7.out
  go_wp2_with fail
  refine bodyPost_ret_by (results_cc rfl _ _ w1.heap.size w2.heap.size 73 70 X _ (0, 0) (0, 0) _ _ rfl G6F Try.underlying73 rfl (infoP36 (HXS.out)) rfl G7F Try.underlying70 rfl infoRd) rfl ?_
  refine ⟨Z, cz, ?_, ?_, ?_, BF⟩
  · rw [← HZ.out, HXX.out]; rfl
  · rw [← HZ.out]; exact hzc
  · rw [← HZ.out]; exact HRZ.out
set_option maxRecDepth 100000 in
set_option maxHeartbeats 1600000 in
theorem rtk2_ok (A : Option Addr) (c : Nat) (x : List UInt8) (k most : Int) (w : World) (hk : k = 2) (he : textOk x 0 = true) (hl : x.length ≤ 16000000) (hc : x.length ≤ c) (hr : Rd w A x) :
    Calls Try.prog 40 #[.agg #[.slice A x.length c, .int .i64 0], .int .i64 k, .int .i64 most] w (TkO A x (prt k 0 0 (textS x 0) (List.replicate 32 0)) (x.drop (textEnd x 0).toNat) (0) w) := by
  have HR := Lib.hid hr
  obtain ⟨w1, hw1⟩ : ∃ w1, w.alloc (.cells #[.slice A x.length c, .int .i64 0] 70) = w1 := ⟨_, rfl⟩
  obtain ⟨w2, hw2⟩ : ∃ w2, w1.alloc (.cells zeroP 73) = w2 := ⟨_, rfl⟩
  obtain ⟨w3, hw3⟩ : ∃ w3, w2.alloc (.cells #[.slice none 0 0, .int .i64 0] 70) = w3 := ⟨_, rfl⟩
  obtain ⟨w4, hw4⟩ : ∃ w4, w3.alloc (.cells (KP k) 73) = w4 := ⟨_, rfl⟩
  have s1 : w1.heap.size = w.heap.size + 1 := by rw [← hw1]; simp
  have s2 : w2.heap.size = w1.heap.size + 1 := by rw [← hw2]; simp
  have s3 : w3.heap.size = w2.heap.size + 1 := by rw [← hw3]; simp
  have G3 : w4.heap[w.heap.size]? = some (.cells (rdC A x.length c 0) 70 (0, 0)) := hw4 ▸ blk_alloc (hw3 ▸ blk_alloc (hw2 ▸ blk_alloc (hw1 ▸ blk_new w _) _) _) _
  have G6 : w4.heap[w1.heap.size]? = some (.cells zeroP 73 (0, 0)) := hw4 ▸ blk_alloc (hw3 ▸ blk_alloc (hw2 ▸ blk_new w1 _) _) _
  have G7 : w4.heap[w2.heap.size]? = some (.cells #[.slice none 0 0, .int .i64 0] 70 (0, 0)) := hw4 ▸ blk_alloc (hw3 ▸ blk_new w2 _) _
  have G8 : w4.heap[w3.heap.size]? = some (.cells (KP k) 73 (0, 0)) := hw4 ▸ blk_new w3 _
  have B4 : Below w.heap.size w w4 := hw4 ▸ below_alloc (hw3 ▸ below_alloc (hw2 ▸ below_alloc (hw1 ▸ below_alloc (Below.refl _ _) _) _) _) _
  have N67 := Lib.hid (show w1.heap.size ≠ w2.heap.size by omega)
  have N36 := Lib.hid (show w.heap.size ≠ w1.heap.size by omega)
  have N37 := Lib.hid (show w.heap.size ≠ w2.heap.size by omega)
  have N38 := Lib.hid (show w.heap.size ≠ w3.heap.size by omega)
  have N86 := Lib.hid (show w3.heap.size ≠ w1.heap.size by omega)
  have N87 := Lib.hid (show w3.heap.size ≠ w2.heap.size by omega)
  have L6 := Lib.hid (show w.heap.size ≤ w1.heap.size by omega)
  have L7 := Lib.hid (show w.heap.size ≤ w2.heap.size by omega)
  have L8 := Lib.hid (show w.heap.size ≤ w3.heap.size by omega)
  have c30 : w4.cell? ⟨w.heap.size, 0, none⟩ = some (.slice A x.length c) := blk_cell G3 0
  have c31 : w4.cell? ⟨w.heap.size, 1, none⟩ = some (.int .i64 0) := blk_cell G3 1
  have z4 := blk_lt G8
  have z43 := blk_lt G3
  have HG3 := Lib.hid G3
  have HG6 := Lib.hid G6
  have HG7 := Lib.hid G7
  have HG8 := Lib.hid G8
  have HB4 := Lib.hid B4
  have HRX := Lib.hid (hr.below B4)
  clear hr s1 s2 s3 G3 G6 G7 G8 B4
  unfold zeroP at hw2
  have f8 : w4.frozen? ⟨w3.heap.size, 3, none⟩ = false := blk_frozen HG8.out 3
  have c8 : w4.cell? ⟨w3.heap.size, 3, none⟩ = some (.string ⟨#[]⟩) := blk_cell HG8.out 3
  have HT := Lib.hid (show ∀ W, Rd W A x → Calls Try.prog 73 #[.slice A x.length c, .int .i64 0] W (Still (.tuple #[.string (textS x 0), .int .i64 (textEnd x 0), .bool (textOk x 0)]) W) from fun W h => R01.takeText_any A c x 0 W (by omega) hc h)
  obtain ⟨en, hen, henl⟩ := text_end he
  rw [he, hen] at HT
  obtain ⟨Z, z, cz, hz, hcutz, hrdz, hzc, -⟩ := cutF (A := A) (l := x) (c := c) ((en : Int)) (by omega) (by omega) hc
  have HZ := Lib.hid hz.out
  have HRZ := Lib.hid hrdz
  clear hz hrdz
  rw [Int.toNat_natCast] at HZ
  have HTN := Lib.hid (show (textEnd x 0).toNat = en by rw [hen]; rfl)
  rw [show (textEnd x 0).toNat = en from HTN.out]
  clear hen HTN he
  generalize textS x 0 = ts at *
  have q0 : (k == 0) = false := by simp [hk]
  have q1 : (k == 1) = false := by simp [hk]
  have q2 : (k == 2) = true := by simp [hk]
  clear hk
  go_enter Try.func40, Try.ntmps40
  go_wp2_with (first | (refine wpList_box rfl rfl 73 _ _ rfl rfl (KP k) zeroP zeroPt rfl rfl rfl (infoP36 rfl) (KP_one k) ?_))
  refine (HT.out _ HRX.out).mono ?_
  rintro e w9 ⟨rfl, h9⟩
  rw [h9]
  clear h9
  go_wp2_with fail
  obtain ⟨w5, hw5⟩ : ∃ w5, w4.setCell ⟨w3.heap.size, 3, none⟩ (.string ts) = w5 := ⟨_, rfl⟩
  rw [hw5]
  have K8 := Lib.hid (show w5.heap[w3.heap.size]? = some (.cells (prt k 0 0 (ts) (List.replicate 32 0)) 73 (0, 0)) by have h := blk_set HG8.out 3 (.string ts); rw [ko_3, hw5] at h; exact h)
  have K3 := Lib.hid (show w5.heap[w.heap.size]? = some (.cells (rdC A x.length c 0) 70 (0, 0)) by have h := blk_far HG3.out (p := ⟨w3.heap.size, 3, none⟩) N38.out (.string ts); rw [hw5] at h; exact h)
  have K6 := Lib.hid (show w5.heap[w1.heap.size]? = some (.cells zeroP 73 (0, 0)) by have h := blk_far HG6.out (p := ⟨w3.heap.size, 3, none⟩) N86.out.symm (.string ts); rw [hw5] at h; exact h)
  have K7 := Lib.hid (show w5.heap[w2.heap.size]? = some (.cells #[.slice none 0 0, .int .i64 0] 70 (0, 0)) by have h := blk_far HG7.out (p := ⟨w3.heap.size, 3, none⟩) N87.out.symm (.string ts); rw [hw5] at h; exact h)
  have KB := Lib.hid (show Below w.heap.size w w5 by rw [← hw5]; exact below_set' HB4.out L8.out)
  clear hw5 HG3 HG6 HG7 HG8 HB4 c8 f8 c30 c31
  have HXS := Lib.hid (show (prt k 0 0 (ts) (List.replicate 32 0)).size = 36 from prt_size k _ _ _ _ (by simp))
  have HX1 := Lib.hid (show (prt k 0 0 (ts) (List.replicate 32 0)).all (·.oneCell') = true from prt_one k _ _ _ _)
  obtain ⟨X, hX⟩ : ∃ X, prt k 0 0 (ts) (List.replicate 32 0) = X := ⟨_, rfl⟩
  rw [hX] at K8 HXS HX1
  have HXX := Lib.hid hX
  clear hX
  refine wp_region_held_drew (S := fun W => W.heap[w3.heap.size]? = some (.cells (X) 73 (0, 0)) ∧ W.heap[w.heap.size]? = some (.cells (rdC A x.length c 0) 70 (0, 0))) (by kernel_rfl) ⟨K8.out, K3.out⟩ (fun hHeld => ?_)
  refine wpAnyH_take (i := 0) (v := .agg (X).toList.toArray) rfl (by kernel_rfl) (by kernel_rfl) (by kernel_rfl) (fun _ _ _ h => h) (yieldsIf_load_mid (by kernel_rfl) 73 _ rfl w3.heap.size 0 rfl (X).toList _ (fun W h => range_row h.1) Try.underlying73 rfl (by rw [Array.length_toList]; exact (infoP36 (HXS.out)))) hHeld ?_
  simp only [List.getElem_toArray, List.getElem_cons_succ, List.getElem_cons_zero, Act.put, List.setIfInBounds_toArray, List.set_cons_zero, List.set_cons_succ]
  refine wpAnyH_take (i := 1) (v := _) rfl (by kernel_rfl) (by kernel_rfl) (by kernel_rfl) (fun _ _ _ h => h) (Or.inl ⟨by kernel_rfl, fun w _ => by go_simp <;> with_reducible rfl⟩) hHeld ?_
  simp only [List.getElem_toArray, List.getElem_cons_succ, List.getElem_cons_zero, Act.put, List.setIfInBounds_toArray, List.set_cons_zero, List.set_cons_succ]
  refine wpAnyH_take (i := 2) (v := .slice A x.length c) rfl (by kernel_rfl) (by kernel_rfl) (by kernel_rfl) (fun _ _ _ h => h) (Or.inl ⟨by kernel_rfl, fun W h => by have c0 : W.cell? ⟨w.heap.size, 0, none⟩ = some (.slice A x.length c) := blk_cell h.2 0; go_simp <;> with_reducible rfl⟩) hHeld ?_
  simp only [List.getElem_toArray, List.getElem_cons_succ, List.getElem_cons_zero, Act.put, List.setIfInBounds_toArray, List.set_cons_zero, List.set_cons_succ]
  refine wpAnyH_take (i := 3) (v := _) rfl (by kernel_rfl) (by kernel_rfl) (by kernel_rfl) (fun _ _ _ h => h) (Or.inl ⟨by kernel_rfl, fun w _ => by go_simp <;> with_reducible rfl⟩) hHeld ?_
  simp only [List.getElem_toArray, List.getElem_cons_succ, List.getElem_cons_zero, Act.put, List.setIfInBounds_toArray, List.set_cons_zero, List.set_cons_succ]
  refine wpAnyH_take (i := 4) (v := _) rfl (by kernel_rfl) (by kernel_rfl) (by kernel_rfl) (fun _ _ _ h => h) (Or.inl ⟨by kernel_rfl, fun w _ => by go_simp <;> with_reducible rfl⟩) hHeld ?_
  simp only [List.getElem_toArray, List.getElem_cons_succ, List.getElem_cons_zero, Act.put, List.setIfInBounds_toArray, List.set_cons_zero, List.set_cons_succ]
  refine wpAnyH_take (i := 5) (v := _) rfl (by kernel_rfl) (by kernel_rfl) (by kernel_rfl) (fun _ _ _ h => h) (Or.inl ⟨by kernel_rfl, fun w _ => by go_simp <;> with_reducible rfl⟩) hHeld ?_
  simp only [List.getElem_toArray, List.getElem_cons_succ, List.getElem_cons_zero, Act.put, List.setIfInBounds_toArray, List.set_cons_zero, List.set_cons_succ]
  refine wpAnyH_ready (rs := [6]) (by kernel_rfl) (by simp) ?_
  refine AllReadyH.cons rfl (fun K hK => ?_) AllReadyH.nil
  rw [if_pos (by rfl)]
  refine wp_store_row 73 _ _ rfl w1.heap.size (X).toList.toArray rfl rfl 73 _ K6.out (infoP36 (HXS.out)) (by rw [Array.toArray_toList, HXS.out]; rfl) HX1.out ?_
  refine hK.out _ _ (⟨(setRow_other _ _ _ _ N86.out).trans hHeld.1, (setRow_other _ _ _ _ N36.out).trans hHeld.2⟩) (fun hHeld => ?_)
  clear hK K
  try simp only [List.getElem_toArray, List.getElem_cons_succ, List.getElem_cons_zero, Act.put, List.setIfInBounds_toArray, List.set_cons_zero, List.set_cons_succ]
  refine wpAnyH_ready (rs := [7]) (by kernel_rfl) (by simp) ?_
  refine AllReadyH.cons rfl (fun K hK => ?_) AllReadyH.nil
  rw [if_pos (by rfl)]
  refine wp_store_row 70 _ _ rfl w2.heap.size (rdC Z z.length cz 0) rfl rfl 70 _ ((setRow_other _ _ _ _ N67.out.symm).trans K7.out) infoRd rfl (rdC_one _ _ _ _) ?_
  refine hK.out _ _ (⟨(setRow_other _ _ _ _ N87.out).trans hHeld.1, (setRow_other _ _ _ _ N37.out).trans hHeld.2⟩) (fun hHeld => ?_)
  clear hK K
  try simp only [List.getElem_toArray, List.getElem_cons_succ, List.getElem_cons_zero, Act.put, List.setIfInBounds_toArray, List.set_cons_zero, List.set_cons_succ]
  refine wpAnyH_done (by kernel_rfl) ?_ _
  obtain ⟨G6F, G7F, BF⟩ := two_rows (W := w5.drew) (X).toList.toArray (rdC Z z.length cz 0) (blk_drew K6.out) (blk_drew K7.out) N67.out (below_drew KB.out) L6.out L7.out
  go_wp2_with fail
  refine bodyPost_ret_by (results_cc rfl _ _ w1.heap.size w2.heap.size 73 70 X _ (0, 0) (0, 0) _ _ rfl G6F Try.underlying73 rfl (infoP36 (HXS.out)) rfl G7F Try.underlying70 rfl infoRd) rfl ?_
  refine ⟨Z, cz, ?_, ?_, ?_, BF⟩
  · rw [← HZ.out, HXX.out]; rfl
  · rw [← HZ.out]; exact hzc
  · rw [← HZ.out]; exact HRZ.out
set_option maxRecDepth 100000 in
set_option maxHeartbeats 1600000 in
theorem rtk3_ok (A : Option Addr) (c : Nat) (x : List UInt8) (k most : Int) (w : World) (hk : k ≠ 0 ∧ k ≠ 1 ∧ k ≠ 2) (he : ¬ x.length < 32) (hl : x.length ≤ 16000000) (hc : x.length ≤ c) (hr : Rd w A x) :
    Calls Try.prog 40 #[.agg #[.slice A x.length c, .int .i64 0], .int .i64 k, .int .i64 most] w (TkO A x (prt k 0 0 ⟨#[]⟩ (x.take 32)) (x.drop 32) (0) w) := by
  have HR := Lib.hid hr
  obtain ⟨w1, hw1⟩ : ∃ w1, w.alloc (.cells #[.slice A x.length c, .int .i64 0] 70) = w1 := ⟨_, rfl⟩
  obtain ⟨w2, hw2⟩ : ∃ w2, w1.alloc (.cells zeroP 73) = w2 := ⟨_, rfl⟩
  obtain ⟨w3, hw3⟩ : ∃ w3, w2.alloc (.cells #[.slice none 0 0, .int .i64 0] 70) = w3 := ⟨_, rfl⟩
  obtain ⟨w4, hw4⟩ : ∃ w4, w3.alloc (.cells (KP k) 73) = w4 := ⟨_, rfl⟩
  have s1 : w1.heap.size = w.heap.size + 1 := by rw [← hw1]; simp
  have s2 : w2.heap.size = w1.heap.size + 1 := by rw [← hw2]; simp
  have s3 : w3.heap.size = w2.heap.size + 1 := by rw [← hw3]; simp
  have G3 : w4.heap[w.heap.size]? = some (.cells (rdC A x.length c 0) 70 (0, 0)) := hw4 ▸ blk_alloc (hw3 ▸ blk_alloc (hw2 ▸ blk_alloc (hw1 ▸ blk_new w _) _) _) _
  have G6 : w4.heap[w1.heap.size]? = some (.cells zeroP 73 (0, 0)) := hw4 ▸ blk_alloc (hw3 ▸ blk_alloc (hw2 ▸ blk_new w1 _) _) _
  have G7 : w4.heap[w2.heap.size]? = some (.cells #[.slice none 0 0, .int .i64 0] 70 (0, 0)) := hw4 ▸ blk_alloc (hw3 ▸ blk_new w2 _) _
  have G8 : w4.heap[w3.heap.size]? = some (.cells (KP k) 73 (0, 0)) := hw4 ▸ blk_new w3 _
  have B4 : Below w.heap.size w w4 := hw4 ▸ below_alloc (hw3 ▸ below_alloc (hw2 ▸ below_alloc (hw1 ▸ below_alloc (Below.refl _ _) _) _) _) _
  have N67 := Lib.hid (show w1.heap.size ≠ w2.heap.size by omega)
  have N36 := Lib.hid (show w.heap.size ≠ w1.heap.size by omega)
  have N37 := Lib.hid (show w.heap.size ≠ w2.heap.size by omega)
  have N38 := Lib.hid (show w.heap.size ≠ w3.heap.size by omega)
  have N86 := Lib.hid (show w3.heap.size ≠ w1.heap.size by omega)
  have N87 := Lib.hid (show w3.heap.size ≠ w2.heap.size by omega)
  have L6 := Lib.hid (show w.heap.size ≤ w1.heap.size by omega)
  have L7 := Lib.hid (show w.heap.size ≤ w2.heap.size by omega)
  have L8 := Lib.hid (show w.heap.size ≤ w3.heap.size by omega)
  have c30 : w4.cell? ⟨w.heap.size, 0, none⟩ = some (.slice A x.length c) := blk_cell G3 0
  have c31 : w4.cell? ⟨w.heap.size, 1, none⟩ = some (.int .i64 0) := blk_cell G3 1
  have z4 := blk_lt G8
  have z43 := blk_lt G3
  have HG3 := Lib.hid G3
  have HG6 := Lib.hid G6
  have HG7 := Lib.hid G7
  have HG8 := Lib.hid G8
  have HB4 := Lib.hid B4
  have HRX := Lib.hid (hr.below B4)
  clear hr s1 s2 s3 G3 G6 G7 G8 B4
  unfold zeroP at hw2
  have K8 := Lib.hid (show w4.heap[w3.heap.size]? = some (.cells (dgC k x 0) 73 (0, 0)) by rw [dgC_zero]; exact HG8.out)
  have HD32 := Lib.hid (show (x.take 32).length = 32 by rw [List.length_take]; omega)
  have h32 : 32 ≤ x.length := by omega
  clear he
  obtain ⟨Z, z, cz, hz, hcutz, hrdz, hzc, -⟩ := cutF (A := A) (l := x) (c := c) ((32 : Int)) (by omega) (by omega) hc
  have HZ := Lib.hid hz.out
  have HRZ := Lib.hid hrdz
  clear hz hrdz
  rw [show Int.toNat 32 = 32 from rfl] at HZ
  have hlx : x.length ≤ 9223372036854775807 := by omega
  have q0 : (k == 0) = false := by simp [hk.1]
  have q1 : (k == 1) = false := by simp [hk.2.1]
  have q2 : (k == 2) = false := by simp [hk.2.2]
  clear hk
  go_enter Try.func40, Try.ntmps40
  go_wp2_with (first | (refine wpList_box rfl rfl 73 _ _ rfl rfl (KP k) zeroP zeroPt rfl rfl rfl (infoP36 rfl) (KP_one k) ?_))
  go_loopw [15] (fun i wr => ∃ j : Nat, j ≤ 32 ∧ i = .int .i64 j ∧ Hid (wr.heap[w3.heap.size]? = some (.cells (dgC k x j) 73 (0, 0))) ∧ Hid (wr.heap[w.heap.size]? = some (.cells (rdC A x.length c 0) 70 (0, 0))) ∧ Hid (wr.heap[w1.heap.size]? = some (.cells zeroP 73 (0, 0))) ∧ Hid (wr.heap[w2.heap.size]? = some (.cells #[.slice none 0 0, .int .i64 0] 70 (0, 0))) ∧ Hid (Below w.heap.size w wr)) (fun i _ => 32 - (intOf i).toNat)
  case atStart => exact ⟨0, by omega, rfl, K8, HG3, HG6, HG7, HB4⟩
  case round =>
    obtain ⟨j, hj, rfl, K8, K3, K6, K7, KB⟩ := hrel
    clear c30 c31 HG3 HG6 HG7 HG8 HB4 HRX
    have d30 : wr.cell? ⟨w.heap.size, 0, none⟩ = some (.slice A x.length c) := blk_cell K3.out 0
    have z3 := blk_lt K3.out
    have z8 := blk_lt K8.out
    by_cases hlt : j < 32
    · obtain ⟨ad, rfl, hcell⟩ := (HR.out.below KB.out).at_ j (by omega)
      obtain ⟨v, hv⟩ := dgC_get k x j hlt h32
      have c8 : wr.cell? ⟨w3.heap.size, 4 + j, none⟩ = some v := (blk_cell K8.out (4 + j)).trans hv
      have f8 : wr.frozen? ⟨w3.heap.size, 4 + j, none⟩ = false := blk_frozen K8.out (4 + j)
      have hjx : (j : Int) < x.length := by omega
      have HNX := Lib.hid (dgC_next k x j hlt h32)
      clear hv
      go_wp2_with fail
      go_roundw
      case rel => exact ⟨j + 1, by omega, by go_num, Lib.hid (by rw [← HNX.out]; exact blk_set K8.out (4 + j) _), Lib.hid (blk_far K3.out (p := ⟨w3.heap.size, 4 + j, none⟩) N38.out _), Lib.hid (blk_far K6.out (p := ⟨w3.heap.size, 4 + j, none⟩) N86.out.symm _), Lib.hid (blk_far K7.out (p := ⟨w3.heap.size, 4 + j, none⟩) N87.out.symm _), Lib.hid (below_set' KB.out L8.out)⟩
      case measure => simp [intOf]; omega
    · obtain rfl : j = 32 := by omega
      have KX := Lib.hid (show wr.heap[w3.heap.size]? = some (.cells (prt k 0 0 ⟨#[]⟩ (x.take 32)) 73 (0, 0)) by have h := K8.out; rwa [dgC_end] at h)
      clear K8
      have K8 := KX
      clear KX
      go_wp2_with fail
      have HXS := Lib.hid (show (prt k 0 0 ⟨#[]⟩ (x.take 32)).size = 36 from prt_size k _ _ _ _ HD32.out)
      have HX1 := Lib.hid (show (prt k 0 0 ⟨#[]⟩ (x.take 32)).all (·.oneCell') = true from prt_one k _ _ _ _)
      obtain ⟨X, hX⟩ : ∃ X, prt k 0 0 ⟨#[]⟩ (x.take 32) = X := ⟨_, rfl⟩
      rw [hX] at K8 HXS HX1
      have HXX := Lib.hid hX
      clear hX
      refine wp_region_held_drew (S := fun W => W.heap[w3.heap.size]? = some (.cells (X) 73 (0, 0)) ∧ W.heap[w.heap.size]? = some (.cells (rdC A x.length c 0) 70 (0, 0))) (by kernel_rfl) ⟨K8.out, K3.out⟩ (fun hHeld => ?_)
      refine wpAnyH_take (i := 0) (v := .agg (X).toList.toArray) rfl (by kernel_rfl) (by kernel_rfl) (by kernel_rfl) (fun _ _ _ h => h) (yieldsIf_load_mid (by kernel_rfl) 73 _ rfl w3.heap.size 0 rfl (X).toList _ (fun W h => range_row h.1) Try.underlying73 rfl (by rw [Array.length_toList]; exact (infoP36 (HXS.out)))) hHeld ?_
      simp only [List.getElem_toArray, List.getElem_cons_succ, List.getElem_cons_zero, Act.put, List.setIfInBounds_toArray, List.set_cons_zero, List.set_cons_succ]
      refine wpAnyH_take (i := 1) (v := _) rfl (by kernel_rfl) (by kernel_rfl) (by kernel_rfl) (fun _ _ _ h => h) (Or.inl ⟨by kernel_rfl, fun w _ => by go_simp <;> with_reducible rfl⟩) hHeld ?_
      simp only [List.getElem_toArray, List.getElem_cons_succ, List.getElem_cons_zero, Act.put, List.setIfInBounds_toArray, List.set_cons_zero, List.set_cons_succ]
      refine wpAnyH_take (i := 2) (v := .slice A x.length c) rfl (by kernel_rfl) (by kernel_rfl) (by kernel_rfl) (fun _ _ _ h => h) (Or.inl ⟨by kernel_rfl, fun W h => by have c0 : W.cell? ⟨w.heap.size, 0, none⟩ = some (.slice A x.length c) := blk_cell h.2 0; go_simp <;> with_reducible rfl⟩) hHeld ?_
      simp only [List.getElem_toArray, List.getElem_cons_succ, List.getElem_cons_zero, Act.put, List.setIfInBounds_toArray, List.set_cons_zero, List.set_cons_succ]
      refine wpAnyH_take (i := 3) (v := _) rfl (by kernel_rfl) (by kernel_rfl) (by kernel_rfl) (fun _ _ _ h => h) (Or.inl ⟨by kernel_rfl, fun w _ => by go_simp <;> with_reducible rfl⟩) hHeld ?_
      simp only [List.getElem_toArray, List.getElem_cons_succ, List.getElem_cons_zero, Act.put, List.setIfInBounds_toArray, List.set_cons_zero, List.set_cons_succ]
      refine wpAnyH_take (i := 4) (v := _) rfl (by kernel_rfl) (by kernel_rfl) (by kernel_rfl) (fun _ _ _ h => h) (Or.inl ⟨by kernel_rfl, fun w _ => by go_simp <;> with_reducible rfl⟩) hHeld ?_
      simp only [List.getElem_toArray, List.getElem_cons_succ, List.getElem_cons_zero, Act.put, List.setIfInBounds_toArray, List.set_cons_zero, List.set_cons_succ]
      refine wpAnyH_ready (rs := [5]) (by kernel_rfl) (by simp) ?_
      refine AllReadyH.cons rfl (fun K hK => ?_) AllReadyH.nil
      rw [if_pos (by rfl)]
      refine wp_store_row 73 _ _ rfl w1.heap.size (X).toList.toArray rfl rfl 73 _ K6.out (infoP36 (HXS.out)) (by rw [Array.toArray_toList, HXS.out]; rfl) HX1.out ?_
      refine hK.out _ _ (⟨(setRow_other _ _ _ _ N86.out).trans hHeld.1, (setRow_other _ _ _ _ N36.out).trans hHeld.2⟩) (fun hHeld => ?_)
      clear hK K
      try simp only [List.getElem_toArray, List.getElem_cons_succ, List.getElem_cons_zero, Act.put, List.setIfInBounds_toArray, List.set_cons_zero, List.set_cons_succ]
      refine wpAnyH_ready (rs := [6]) (by kernel_rfl) (by simp) ?_
      refine AllReadyH.cons rfl (fun K hK => ?_) AllReadyH.nil
      rw [if_pos (by rfl)]
      refine wp_store_row 70 _ _ rfl w2.heap.size (rdC Z z.length cz 0) rfl rfl 70 _ ((setRow_other _ _ _ _ N67.out.symm).trans K7.out) infoRd rfl (rdC_one _ _ _ _) ?_
      refine hK.out _ _ (⟨(setRow_other _ _ _ _ N87.out).trans hHeld.1, (setRow_other _ _ _ _ N37.out).trans hHeld.2⟩) (fun hHeld => ?_)
      clear hK K
      try simp only [List.getElem_toArray, List.getElem_cons_succ, List.getElem_cons_zero, Act.put, List.setIfInBounds_toArray, List.set_cons_zero, List.set_cons_succ]
      refine wpAnyH_done (by kernel_rfl) ?_ _
      obtain ⟨G6F, G7F, BF⟩ := two_rows (W := wr.drew) (X).toList.toArray (rdC Z z.length cz 0) (blk_drew K6.out) (blk_drew K7.out) N67.out (below_drew KB.out) L6.out L7.out
      go_wp2_with fail
      refine bodyPost_ret_by (results_cc rfl _ _ w1.heap.size w2.heap.size 73 70 X _ (0, 0) (0, 0) _ _ rfl G6F Try.underlying73 rfl (infoP36 (HXS.out)) rfl G7F Try.underlying70 rfl infoRd) rfl ?_
      refine ⟨Z, cz, ?_, ?_, ?_, BF⟩
      · rw [← HZ.out, HXX.out]; rfl
      · rw [← HZ.out]; exact hzc
      · rw [← HZ.out]; exact HRZ.out
end Go.Proofs.Yteeemiacibjaoaa.Co
