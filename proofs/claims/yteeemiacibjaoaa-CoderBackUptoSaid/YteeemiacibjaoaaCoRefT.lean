/- stillageref23.Take, case by case. -/
import Derived.Test.YteeemiacibjaoaaCoRefR
import Derived.Test.YteeemiacibjaoaaCoRefW
import Derived.Test.YteeemiacibjaoaaRefText
import Derived.Deep.RegionHeld3
set_option linter.unusedVariables false
set_option linter.unusedSimpArgs false
namespace Go.Proofs.Yteeemiacibjaoaa.Co
open Go.RowKit Go.Proofs.YteeemiacibjaoaaW.PrintWords Go.Proofs.Yteeemiacibjaoaa.B Go.Proofs.Yteeemiacibjaoaa.Fx Go.Proofs.Yteeemiacibjaoaa.Fr Go.Proofs.Yteeemiacibjaoaa.O

/-- the end of ref Take: a part, what is left, what is wrong -/
def TkO (A0 : Option Addr) (x0 : List UInt8) (P : Array Value) (y : List UInt8) (er : Nat) (w : World) (r : Ending) (w' : World) : Prop := ∃ A c, r = .returned (.tuple #[.agg P, .agg #[.slice A y.length c, .int .i64 er]]) ∧ y.length ≤ c ∧ (∀ W, Rd W A0 x0 → Rd W A y) ∧ Below w.heap.size w w'
def rdC (A : Option Addr) (n c : Nat) (e : Int) : Array Value := #[.slice A n c, .int .i64 e]
theorem rdC_one (A : Option Addr) (n c : Nat) (e : Int) : (rdC A n c e).all (·.oneCell') = true := by simp [rdC, Value.oneCell']
theorem infoP36 {cs : Array Value} (h : cs.size = 36) : (Try.prog.info? 73).map (·.size) = some cs.size := by rw [h]; kernel_rfl
theorem KP_size (k : Int) : (KP k).size = 36 := rfl
theorem KP_one (k : Int) : (KP k).all (·.oneCell') = true := by rw [← prt_kp]; exact onePt (Int64.ofInt 0, 0, 0, ⟨#[]⟩, []) |> fun _ => by unfold prt; simp [Value.oneCell', encB]
theorem text_end {x : List UInt8} (h : textOk x 0 = true) : ∃ en : Nat, textEnd x 0 = (en : Int) ∧ en ≤ x.length := by
  have hb := B.bt_bd x (0 : Int).toNat
  refine ⟨(textEnd x 0).toNat, ?_, ?_⟩
  · unfold textEnd; rw [if_pos h]; omega
  · have h2 := h
    unfold textOk at h2
    rw [decide_eq_true_iff] at h2
    unfold textEnd; rw [if_pos h]; omega
def dgC (k : Int) (x : List UInt8) (j : Nat) : Array Value := prt k 0 0 ⟨#[]⟩ (x.take j ++ List.replicate (32 - j) 0)
theorem dgC_zero (k : Int) (x : List UInt8) : dgC k x 0 = KP k := by unfold dgC; rw [← prt_kp]; simp
theorem dgC_end (k : Int) (x : List UInt8) : dgC k x 32 = prt k 0 0 ⟨#[]⟩ (x.take 32) := by unfold dgC; simp
theorem prt_list (k n : Int) (s : Nat) (t : ByteArray) (d : List UInt8) : (prt k n s t d).toList = .int .i64 k :: .int .i64 n :: .int .u64 s :: .string t :: d.map encB := by simp [prt]
theorem dgC_get (k : Int) (x : List UInt8) (j : Nat) (h : j < 32) (hx : 32 ≤ x.length) : ∃ v, (dgC k x j)[4 + j]? = some v := by
  have hs : 4 + j < (dgC k x j).size := by rw [← Array.length_toList]; unfold dgC; rw [prt_list]; simp; omega
  exact ⟨_, Array.getElem?_eq_getElem hs⟩
theorem dgC_next (k : Int) (x : List UInt8) (j : Nat) (h : j < 32) (hx : 32 ≤ x.length) : (dgC k x j).setIfInBounds (4 + j) (.int .u8 (B.bt x j)) = dgC k x (j + 1) := by
  apply Array.toList_inj.1
  rw [Array.toList_setIfInBounds]
  unfold dgC
  rw [prt_list, prt_list, show 4 + j = j + 1 + 1 + 1 + 1 by omega]
  simp only [List.set_cons_succ]
  congr 4
  have hj : j < x.length := by omega
  rw [show (Value.int .u8 (B.bt x j)) = encB x[j] by simp [encB, B.bt, hj]]
  rw [← List.map_set]
  congr 1
  rw [List.set_append_right _ _ (by rw [List.length_take]; omega), List.length_take, Nat.min_eq_left (by omega), Nat.sub_self, List.take_succ_eq_append_getElem hj, List.append_assoc]
  congr 1
  obtain ⟨m, hm⟩ : ∃ m, 32 - j = m + 1 := ⟨31 - j, by omega⟩
  rw [hm, List.replicate_succ, show 32 - (j + 1) = m by omega]
  rfl
theorem ko_1 (k : Int) (n : Int) : (KP k).setIfInBounds 1 (.int .i64 n) = prt k n 0 ⟨#[]⟩ (List.replicate 32 0) := by rw [← prt_kp]; apply Array.toList_inj.1; simp [prt]
theorem ko_2 (k : Int) (n : Nat) : (KP k).setIfInBounds 2 (.int .u64 n) = prt k 0 n ⟨#[]⟩ (List.replicate 32 0) := by rw [← prt_kp]; apply Array.toList_inj.1; simp [prt]
theorem ko_3 (k : Int) (t : ByteArray) : (KP k).setIfInBounds 3 (.string t) = prt k 0 0 t (List.replicate 32 0) := by rw [← prt_kp]; apply Array.toList_inj.1; simp [prt]
theorem prt_size (k n : Int) (s : Nat) (t : ByteArray) (d : List UInt8) (h : d.length = 32) : (prt k n s t d).size = 36 := by unfold prt; simp [h]
theorem prt_one (k n : Int) (s : Nat) (t : ByteArray) (d : List UInt8) : (prt k n s t d).all (·.oneCell') = true := by
  rw [Array.all_eq_true_iff_forall_mem]
  intro v hv
  have hv : v ∈ (prt k n s t d).toList := by simpa using hv
  simp only [prt, Array.toList_append, List.mem_append, List.mem_cons, List.mem_map, List.not_mem_nil, or_false] at hv
  rcases hv with (rfl | rfl | rfl | rfl) | ⟨b, -, rfl⟩ <;> rfl
theorem num_end {x : List UInt8} (h : V.tErr x 0 = 0) : ∃ en : Nat, V.tEnd x 0 = (en : Int) ∧ en ≤ x.length := by
  refine ⟨V.vLen x, ?_, ?_⟩
  · unfold V.tEnd; rw [if_pos h]; simp
  · unfold V.tErr at h
    rw [if_neg (by omega)] at h
    have h : V.vErr x = 0 := by simpa using h
    exact (V.v7_ok h).2.2.1
theorem num_lt (x : List UInt8) : V.tNum x 0 < 18446744073709551616 := by
  unfold V.tNum V.vNum
  split
  · split
    · rename_i h; exact (V.v7_ok h).2.1
    · decide
  · decide
set_option maxRecDepth 100000 in
set_option maxHeartbeats 800000 in
theorem rtk_err (A : Option Addr) (c : Nat) (x : List UInt8) (e : Nat) (k most : Int) (w : World) (he : e ≠ 0) (hc : x.length ≤ c) (hr : Rd w A x) :
    Calls Try.prog 40 #[.agg #[.slice A x.length c, .int .i64 e], .int .i64 k, .int .i64 most] w (TkO A x (KP k) x e w) := by
  have HR := Lib.hid hr
  obtain ⟨w1, hw1⟩ : ∃ w1, w.alloc (.cells #[.slice A x.length c, .int .i64 e] 70) = w1 := ⟨_, rfl⟩
  obtain ⟨w2, hw2⟩ : ∃ w2, w1.alloc (.cells zeroP 73) = w2 := ⟨_, rfl⟩
  obtain ⟨w3, hw3⟩ : ∃ w3, w2.alloc (.cells #[.slice none 0 0, .int .i64 0] 70) = w3 := ⟨_, rfl⟩
  obtain ⟨w4, hw4⟩ : ∃ w4, w3.alloc (.cells (KP k) 73) = w4 := ⟨_, rfl⟩
  have s1 : w1.heap.size = w.heap.size + 1 := by rw [← hw1]; simp
  have s2 : w2.heap.size = w1.heap.size + 1 := by rw [← hw2]; simp
  have s3 : w3.heap.size = w2.heap.size + 1 := by rw [← hw3]; simp
  have G3 : w4.heap[w.heap.size]? = some (.cells (rdC A x.length c e) 70 (0, 0)) := hw4 ▸ blk_alloc (hw3 ▸ blk_alloc (hw2 ▸ blk_alloc (hw1 ▸ blk_new w _) _) _) _
  have G6 : w4.heap[w1.heap.size]? = some (.cells zeroP 73 (0, 0)) := hw4 ▸ blk_alloc (hw3 ▸ blk_alloc (hw2 ▸ blk_new w1 _) _) _
  have G7 : w4.heap[w2.heap.size]? = some (.cells #[.slice none 0 0, .int .i64 0] 70 (0, 0)) := hw4 ▸ blk_alloc (hw3 ▸ blk_new w2 _) _
  have G8 : w4.heap[w3.heap.size]? = some (.cells (KP k) 73 (0, 0)) := hw4 ▸ blk_new w3 _
  have B4 : Below w.heap.size w w4 := hw4 ▸ below_alloc (hw3 ▸ below_alloc (hw2 ▸ below_alloc (hw1 ▸ below_alloc (Below.refl _ _) _) _) _) _
  have N67 := Lib.hid (show w1.heap.size ≠ w2.heap.size by omega)
  have N36 := Lib.hid (show w.heap.size ≠ w1.heap.size by omega)
  have N37 := Lib.hid (show w.heap.size ≠ w2.heap.size by omega)
  have N38 := Lib.hid (show w.heap.size ≠ w3.heap.size by omega)
  have N86 := Lib.hid (show w3.heap.size ≠ w1.heap.size by omega)
  have N87 := Lib.hid (show w3.heap.size ≠ w2.heap.size by omega)
  have L6 := Lib.hid (show w.heap.size ≤ w1.heap.size by omega)
  have L7 := Lib.hid (show w.heap.size ≤ w2.heap.size by omega)
  have L8 := Lib.hid (show w.heap.size ≤ w3.heap.size by omega)
  have c30 : w4.cell? ⟨w.heap.size, 0, none⟩ = some (.slice A x.length c) := blk_cell G3 0
  have c31 : w4.cell? ⟨w.heap.size, 1, none⟩ = some (.int .i64 e) := blk_cell G3 1
  have z4 := blk_lt G8
  have z43 := blk_lt G3
  have HG3 := Lib.hid G3
  have HG6 := Lib.hid G6
  have HG7 := Lib.hid G7
  have HG8 := Lib.hid G8
  have HB4 := Lib.hid B4
  have HRX := Lib.hid (hr.below B4)
  clear hr s1 s2 s3 G3 G6 G7 G8 B4
  unfold zeroP at hw2
  have hq : ((e : Int) == 0) = false := by simpa using he
  clear he
  go_enter Try.func40, Try.ntmps40
  go_wp2_with (first | (refine wpList_box rfl rfl 73 _ _ rfl rfl (KP k) zeroP zeroPt rfl rfl rfl (infoP36 rfl) (KP_one k) ?_))
  refine wp_region_held_drew (S := fun W => W.heap[w3.heap.size]? = some (.cells (KP k) 73 (0, 0)) ∧ W.heap[w.heap.size]? = some (.cells (rdC A x.length c e) 70 (0, 0))) (by kernel_rfl) ⟨HG8.out, HG3.out⟩ (fun hHeld => ?_)
  refine wpAnyH_take (i := 0) (v := .agg (KP k).toList.toArray) rfl (by kernel_rfl) (by kernel_rfl) (by kernel_rfl) (fun _ _ _ h => h) (yieldsIf_load_mid (by kernel_rfl) 73 _ rfl w3.heap.size 0 rfl (KP k).toList _ (fun W h => range_row h.1) Try.underlying73 rfl (by rw [Array.length_toList]; exact (infoP36 rfl))) hHeld ?_
  simp only [List.getElem_toArray, List.getElem_cons_succ, List.getElem_cons_zero, Act.put, List.setIfInBounds_toArray, List.set_cons_zero, List.set_cons_succ]
  refine wpAnyH_take (i := 1) (v := .agg (rdC A x.length c e).toList.toArray) rfl (by kernel_rfl) (by kernel_rfl) (by kernel_rfl) (fun _ _ _ h => h) (yieldsIf_load_mid (by kernel_rfl) 70 _ rfl w.heap.size 0 rfl (rdC A x.length c e).toList _ (fun W h => range_row h.2) Try.underlying70 rfl (by rw [Array.length_toList]; exact infoRd)) hHeld ?_
  simp only [List.getElem_toArray, List.getElem_cons_succ, List.getElem_cons_zero, Act.put, List.setIfInBounds_toArray, List.set_cons_zero, List.set_cons_succ]
  refine wpAnyH_ready (rs := [2]) (by kernel_rfl) (by simp) ?_
  refine AllReadyH.cons rfl (fun K hK => ?_) AllReadyH.nil
  rw [if_pos (by rfl)]
  refine wp_store_row 73 _ _ rfl w1.heap.size (KP k).toList.toArray rfl rfl 73 _ HG6.out (infoP36 (rfl)) (rfl) (KP_one k) ?_
  refine hK.out _ _ (⟨(setRow_other _ _ _ _ N86.out).trans hHeld.1, (setRow_other _ _ _ _ N36.out).trans hHeld.2⟩) (fun hHeld => ?_)
  clear hK K
  try simp only [List.getElem_toArray, List.getElem_cons_succ, List.getElem_cons_zero, Act.put, List.setIfInBounds_toArray, List.set_cons_zero, List.set_cons_succ]
  refine wpAnyH_ready (rs := [3]) (by kernel_rfl) (by simp) ?_
  refine AllReadyH.cons rfl (fun K hK => ?_) AllReadyH.nil
  rw [if_pos (by rfl)]
  refine wp_store_row 70 _ _ rfl w2.heap.size (rdC A x.length c e).toList.toArray rfl rfl 70 _ ((setRow_other _ _ _ _ N67.out.symm).trans HG7.out) infoRd rfl (rdC_one _ _ _ _) ?_
  refine hK.out _ _ (⟨(setRow_other _ _ _ _ N87.out).trans hHeld.1, (setRow_other _ _ _ _ N37.out).trans hHeld.2⟩) (fun hHeld => ?_)
  clear hK K
  try simp only [List.getElem_toArray, List.getElem_cons_succ, List.getElem_cons_zero, Act.put, List.setIfInBounds_toArray, List.set_cons_zero, List.set_cons_succ]
  refine wpAnyH_done (by kernel_rfl) ?_ _
  obtain ⟨G6F, G7F, BF⟩ := two_rows (W := w4.drew) (KP k).toList.toArray (rdC A x.length c e).toList.toArray (blk_drew HG6.out) (blk_drew HG7.out) N67.out (below_drew HB4.out) L6.out L7.out
  go_wp2_with fail
  refine bodyPost_ret_by (results_cc rfl _ _ w1.heap.size w2.heap.size 73 70 _ _ (0, 0) (0, 0) _ _ rfl G6F Try.underlying73 rfl (infoP36 (rfl)) rfl G7F Try.underlying70 rfl infoRd) rfl ?_
  exact ⟨A, c, rfl, hc, fun _ h => h, BF⟩
set_option maxRecDepth 100000 in
set_option maxHeartbeats 1600000 in
theorem rtk0_err (A : Option Addr) (c : Nat) (x : List UInt8) (k most : Int) (w : World) (hk : k = 0) (he : V.tErr x 0 ≠ 0) (hl : x.length ≤ 16000000) (hc : x.length ≤ c) (hr : Rd w A x) :
    Calls Try.prog 40 #[.agg #[.slice A x.length c, .int .i64 0], .int .i64 k, .int .i64 most] w (TkO A x (KP k) ([]) (V.tErr x 0) w) := by
  have HR := Lib.hid hr
  obtain ⟨w1, hw1⟩ : ∃ w1, w.alloc (.cells #[.slice A x.length c, .int .i64 0] 70) = w1 := ⟨_, rfl⟩
  obtain ⟨w2, hw2⟩ : ∃ w2, w1.alloc (.cells zeroP 73) = w2 := ⟨_, rfl⟩
  obtain ⟨w3, hw3⟩ : ∃ w3, w2.alloc (.cells #[.slice none 0 0, .int .i64 0] 70) = w3 := ⟨_, rfl⟩
  obtain ⟨w4, hw4⟩ : ∃ w4, w3.alloc (.cells (KP k) 73) = w4 := ⟨_, rfl⟩
  have s1 : w1.heap.size = w.heap.size + 1 := by rw [← hw1]; simp
  have s2 : w2.heap.size = w1.heap.size + 1 := by rw [← hw2]; simp
  have s3 : w3.heap.size = w2.heap.size + 1 := by rw [← hw3]; simp
  have G3 : w4.heap[w.heap.size]? = some (.cells (rdC A x.length c 0) 70 (0, 0)) := hw4 ▸ blk_alloc (hw3 ▸ blk_alloc (hw2 ▸ blk_alloc (hw1 ▸ blk_new w _) _) _) _
  have G6 : w4.heap[w1.heap.size]? = some (.cells zeroP 73 (0, 0)) := hw4 ▸ blk_alloc (hw3 ▸ blk_alloc (hw2 ▸ blk_new w1 _) _) _
  have G7 : w4.heap[w2.heap.size]? = some (.cells #[.slice none 0 0, .int .i64 0] 70 (0, 0)) := hw4 ▸ blk_alloc (hw3 ▸ blk_new w2 _) _
  have G8 : w4.heap[w3.heap.size]? = some (.cells (KP k) 73 (0, 0)) := hw4 ▸ blk_new w3 _
  have B4 : Below w.heap.size w w4 := hw4 ▸ below_alloc (hw3 ▸ below_alloc (hw2 ▸ below_alloc (hw1 ▸ below_alloc (Below.refl _ _) _) _) _) _
  have N67 := Lib.hid (show w1.heap.size ≠ w2.heap.size by omega)
  have N36 := Lib.hid (show w.heap.size ≠ w1.heap.size by omega)
  have N37 := Lib.hid (show w.heap.size ≠ w2.heap.size by omega)
  have N38 := Lib.hid (show w.heap.size ≠ w3.heap.size by omega)
  have N86 := Lib.hid (show w3.heap.size ≠ w1.heap.size by omega)
  have N87 := Lib.hid (show w3.heap.size ≠ w2.heap.size by omega)
  have L6 := Lib.hid (show w.heap.size ≤ w1.heap.size by omega)
  have L7 := Lib.hid (show w.heap.size ≤ w2.heap.size by omega)
  have L8 := Lib.hid (show w.heap.size ≤ w3.heap.size by omega)
  have c30 : w4.cell? ⟨w.heap.size, 0, none⟩ = some (.slice A x.length c) := blk_cell G3 0
  have c31 : w4.cell? ⟨w.heap.size, 1, none⟩ = some (.int .i64 0) := blk_cell G3 1
  have z4 := blk_lt G8
  have z43 := blk_lt G3
  have HG3 := Lib.hid G3
  have HG6 := Lib.hid G6
  have HG7 := Lib.hid G7
  have HG8 := Lib.hid G8
  have HB4 := Lib.hid B4
  have HRX := Lib.hid (hr.below B4)
  clear hr s1 s2 s3 G3 G6 G7 G8 B4
  unfold zeroP at hw2
  have HT := Lib.hid (show ∀ W, Rd W A x → Calls Try.prog 72 #[.slice A x.length c, .int .i64 0] W (Still (.tuple #[.int .u64 (V.tNum x 0), .int .i64 (V.tEnd x 0), .int .i64 (V.tErr x 0)]) W) from fun W h => Vr.rtake_any A c x 0 W (by omega) h)
  generalize V.tNum x 0 = tn at *
  generalize V.tEnd x 0 = te at *
  generalize V.tErr x 0 = te0 at *
  have hq : ((te0 : Int) == 0) = false := by simpa using he
  clear he
  have q0 : (k == 0) = true := by simp [hk]
  clear hk
  go_enter Try.func40, Try.ntmps40
  go_wp2_with (first | (refine wpList_box rfl rfl 73 _ _ rfl rfl (KP k) zeroP zeroPt rfl rfl rfl (infoP36 rfl) (KP_one k) ?_))
  refine (HT.out _ HRX.out).mono ?_
  rintro e w9 ⟨rfl, h9⟩
  rw [h9]
  clear h9
  go_wp2_with (first | (refine wpList_load_row rfl 73 _ rfl w3.heap.size rfl 73 (KP k) (0, 0) _ HG8.out Try.underlying73 rfl (infoP36 (rfl)) ?_) | (refine wpList_store_row rfl 73 _ _ rfl w1.heap.size (KP k) rfl rfl 73 zeroP HG6.out (infoP36 (rfl)) (by rw [show (KP k).size = 36 from rfl]; rfl) (KP_one k) ?_) | (refine wpList_store_row rfl 70 _ _ rfl w2.heap.size (rdC none 0 0 ((te0 : Nat))) rfl rfl 70 _ ((setRow_other _ _ _ _ N67.out.symm).trans HG7.out) infoRd rfl (rdC_one _ _ _ _) ?_))
  obtain ⟨G6F, G7F, BF⟩ := two_rows (W := w4) (KP k) (rdC none 0 0 ((te0 : Nat))) HG6.out HG7.out N67.out HB4.out L6.out L7.out
  refine bodyPost_ret_by (results_cc rfl _ _ w1.heap.size w2.heap.size 73 70 _ _ (0, 0) (0, 0) _ _ rfl G6F Try.underlying73 rfl (infoP36 (rfl)) rfl G7F Try.underlying70 rfl infoRd) rfl ?_
  exact ⟨none, 0, rfl, Nat.le_refl _, fun _ _ => Rd.nil _, BF⟩
set_option maxRecDepth 100000 in
set_option maxHeartbeats 1600000 in
theorem rtk1_err (A : Option Addr) (c : Nat) (x : List UInt8) (k most : Int) (w : World) (hk : k = 1) (he : V.tErr x 0 ≠ 0) (hl : x.length ≤ 16000000) (hc : x.length ≤ c) (hr : Rd w A x) :
    Calls Try.prog 40 #[.agg #[.slice A x.length c, .int .i64 0], .int .i64 k, .int .i64 most] w (TkO A x (KP k) ([]) (V.tErr x 0) w) := by
  have HR := Lib.hid hr
  obtain ⟨w1, hw1⟩ : ∃ w1, w.alloc (.cells #[.slice A x.length c, .int .i64 0] 70) = w1 := ⟨_, rfl⟩
  obtain ⟨w2, hw2⟩ : ∃ w2, w1.alloc (.cells zeroP 73) = w2 := ⟨_, rfl⟩
  obtain ⟨w3, hw3⟩ : ∃ w3, w2.alloc (.cells #[.slice none 0 0, .int .i64 0] 70) = w3 := ⟨_, rfl⟩
  obtain ⟨w4, hw4⟩ : ∃ w4, w3.alloc (.cells (KP k) 73) = w4 := ⟨_, rfl⟩
  have s1 : w1.heap.size = w.heap.size + 1 := by rw [← hw1]; simp
  have s2 : w2.heap.size = w1.heap.size + 1 := by rw [← hw2]; simp
  have s3 : w3.heap.size = w2.heap.size + 1 := by rw [← hw3]; simp
  have G3 : w4.heap[w.heap.size]? = some (.cells (rdC A x.length c 0) 70 (0, 0)) := hw4 ▸ blk_alloc (hw3 ▸ blk_alloc (hw2 ▸ blk_alloc (hw1 ▸ blk_new w _) _) _) _
  have G6 : w4.heap[w1.heap.size]? = some (.cells zeroP 73 (0, 0)) := hw4 ▸ blk_alloc (hw3 ▸ blk_alloc (hw2 ▸ blk_new w1 _) _) _
  have G7 : w4.heap[w2.heap.size]? = some (.cells #[.slice none 0 0, .int .i64 0] 70 (0, 0)) := hw4 ▸ blk_alloc (hw3 ▸ blk_new w2 _) _
  have G8 : w4.heap[w3.heap.size]? = some (.cells (KP k) 73 (0, 0)) := hw4 ▸ blk_new w3 _
  have B4 : Below w.heap.size w w4 := hw4 ▸ below_alloc (hw3 ▸ below_alloc (hw2 ▸ below_alloc (hw1 ▸ below_alloc (Below.refl _ _) _) _) _) _
  have N67 := Lib.hid (show w1.heap.size ≠ w2.heap.size by omega)
  have N36 := Lib.hid (show w.heap.size ≠ w1.heap.size by omega)
  have N37 := Lib.hid (show w.heap.size ≠ w2.heap.size by omega)
  have N38 := Lib.hid (show w.heap.size ≠ w3.heap.size by omega)
  have N86 := Lib.hid (show w3.heap.size ≠ w1.heap.size by omega)
  have N87 := Lib.hid (show w3.heap.size ≠ w2.heap.size by omega)
  have L6 := Lib.hid (show w.heap.size ≤ w1.heap.size by omega)
  have L7 := Lib.hid (show w.heap.size ≤ w2.heap.size by omega)
  have L8 := Lib.hid (show w.heap.size ≤ w3.heap.size by omega)
  have c30 : w4.cell? ⟨w.heap.size, 0, none⟩ = some (.slice A x.length c) := blk_cell G3 0
  have c31 : w4.cell? ⟨w.heap.size, 1, none⟩ = some (.int .i64 0) := blk_cell G3 1
  have z4 := blk_lt G8
  have z43 := blk_lt G3
  have HG3 := Lib.hid G3
  have HG6 := Lib.hid G6
  have HG7 := Lib.hid G7
  have HG8 := Lib.hid G8
  have HB4 := Lib.hid B4
  have HRX := Lib.hid (hr.below B4)
  clear hr s1 s2 s3 G3 G6 G7 G8 B4
  unfold zeroP at hw2
  have HT := Lib.hid (show ∀ W, Rd W A x → Calls Try.prog 72 #[.slice A x.length c, .int .i64 0] W (Still (.tuple #[.int .u64 (V.tNum x 0), .int .i64 (V.tEnd x 0), .int .i64 (V.tErr x 0)]) W) from fun W h => Vr.rtake_any A c x 0 W (by omega) h)
  generalize V.tNum x 0 = tn at *
  generalize V.tEnd x 0 = te at *
  generalize V.tErr x 0 = te0 at *
  have hq : ((te0 : Int) == 0) = false := by simpa using he
  clear he
  have q0 : (k == 0) = false := by simp [hk]
  have q1 : (k == 1) = true := by simp [hk]
  clear hk
  go_enter Try.func40, Try.ntmps40
  go_wp2_with (first | (refine wpList_box rfl rfl 73 _ _ rfl rfl (KP k) zeroP zeroPt rfl rfl rfl (infoP36 rfl) (KP_one k) ?_))
  refine (HT.out _ HRX.out).mono ?_
  rintro e w9 ⟨rfl, h9⟩
  rw [h9]
  clear h9
  go_wp2_with (first | (refine wpList_load_row rfl 73 _ rfl w3.heap.size rfl 73 (KP k) (0, 0) _ HG8.out Try.underlying73 rfl (infoP36 (rfl)) ?_) | (refine wpList_store_row rfl 73 _ _ rfl w1.heap.size (KP k) rfl rfl 73 zeroP HG6.out (infoP36 (rfl)) (by rw [show (KP k).size = 36 from rfl]; rfl) (KP_one k) ?_) | (refine wpList_store_row rfl 70 _ _ rfl w2.heap.size (rdC none 0 0 ((te0 : Nat))) rfl rfl 70 _ ((setRow_other _ _ _ _ N67.out.symm).trans HG7.out) infoRd rfl (rdC_one _ _ _ _) ?_))
  obtain ⟨G6F, G7F, BF⟩ := two_rows (W := w4) (KP k) (rdC none 0 0 ((te0 : Nat))) HG6.out HG7.out N67.out HB4.out L6.out L7.out
  refine bodyPost_ret_by (results_cc rfl _ _ w1.heap.size w2.heap.size 73 70 _ _ (0, 0) (0, 0) _ _ rfl G6F Try.underlying73 rfl (infoP36 (rfl)) rfl G7F Try.underlying70 rfl infoRd) rfl ?_
  exact ⟨none, 0, rfl, Nat.le_refl _, fun _ _ => Rd.nil _, BF⟩
set_option maxRecDepth 100000 in
set_option maxHeartbeats 1600000 in
theorem rtk0_neg (A : Option Addr) (c : Nat) (x : List UInt8) (k most : Int) (w : World) (hk : k = 0) (he : V.tErr x 0 = 0) (hm : most < 0) (hl : x.length ≤ 16000000) (hc : x.length ≤ c) (hr : Rd w A x) :
    Calls Try.prog 40 #[.agg #[.slice A x.length c, .int .i64 0], .int .i64 k, .int .i64 most] w (TkO A x (KP k) ([]) (20) w) := by
  have HR := Lib.hid hr
  obtain ⟨w1, hw1⟩ : ∃ w1, w.alloc (.cells #[.slice A x.length c, .int .i64 0] 70) = w1 := ⟨_, rfl⟩
  obtain ⟨w2, hw2⟩ : ∃ w2, w1.alloc (.cells zeroP 73) = w2 := ⟨_, rfl⟩
  obtain ⟨w3, hw3⟩ : ∃ w3, w2.alloc (.cells #[.slice none 0 0, .int .i64 0] 70) = w3 := ⟨_, rfl⟩
  obtain ⟨w4, hw4⟩ : ∃ w4, w3.alloc (.cells (KP k) 73) = w4 := ⟨_, rfl⟩
  have s1 : w1.heap.size = w.heap.size + 1 := by rw [← hw1]; simp
  have s2 : w2.heap.size = w1.heap.size + 1 := by rw [← hw2]; simp
  have s3 : w3.heap.size = w2.heap.size + 1 := by rw [← hw3]; simp
  have G3 : w4.heap[w.heap.size]? = some (.cells (rdC A x.length c 0) 70 (0, 0)) := hw4 ▸ blk_alloc (hw3 ▸ blk_alloc (hw2 ▸ blk_alloc (hw1 ▸ blk_new w _) _) _) _
  have G6 : w4.heap[w1.heap.size]? = some (.cells zeroP 73 (0, 0)) := hw4 ▸ blk_alloc (hw3 ▸ blk_alloc (hw2 ▸ blk_new w1 _) _) _
  have G7 : w4.heap[w2.heap.size]? = some (.cells #[.slice none 0 0, .int .i64 0] 70 (0, 0)) := hw4 ▸ blk_alloc (hw3 ▸ blk_new w2 _) _
  have G8 : w4.heap[w3.heap.size]? = some (.cells (KP k) 73 (0, 0)) := hw4 ▸ blk_new w3 _
  have B4 : Below w.heap.size w w4 := hw4 ▸ below_alloc (hw3 ▸ below_alloc (hw2 ▸ below_alloc (hw1 ▸ below_alloc (Below.refl _ _) _) _) _) _
  have N67 := Lib.hid (show w1.heap.size ≠ w2.heap.size by omega)
  have N36 := Lib.hid (show w.heap.size ≠ w1.heap.size by omega)
  have N37 := Lib.hid (show w.heap.size ≠ w2.heap.size by omega)
  have N38 := Lib.hid (show w.heap.size ≠ w3.heap.size by omega)
  have N86 := Lib.hid (show w3.heap.size ≠ w1.heap.size by omega)
  have N87 := Lib.hid (show w3.heap.size ≠ w2.heap.size by omega)
  have L6 := Lib.hid (show w.heap.size ≤ w1.heap.size by omega)
  have L7 := Lib.hid (show w.heap.size ≤ w2.heap.size by omega)
  have L8 := Lib.hid (show w.heap.size ≤ w3.heap.size by omega)
  have c30 : w4.cell? ⟨w.heap.size, 0, none⟩ = some (.slice A x.length c) := blk_cell G3 0
  have c31 : w4.cell? ⟨w.heap.size, 1, none⟩ = some (.int .i64 0) := blk_cell G3 1
  have z4 := blk_lt G8
  have z43 := blk_lt G3
  have HG3 := Lib.hid G3
  have HG6 := Lib.hid G6
  have HG7 := Lib.hid G7
  have HG8 := Lib.hid G8
  have HB4 := Lib.hid B4
  have HRX := Lib.hid (hr.below B4)
  clear hr s1 s2 s3 G3 G6 G7 G8 B4
  unfold zeroP at hw2
  have HT := Lib.hid (show ∀ W, Rd W A x → Calls Try.prog 72 #[.slice A x.length c, .int .i64 0] W (Still (.tuple #[.int .u64 (V.tNum x 0), .int .i64 (V.tEnd x 0), .int .i64 (V.tErr x 0)]) W) from fun W h => Vr.rtake_any A c x 0 W (by omega) h)
  rw [he] at HT
  have HE0 := Lib.hid he
  clear he
  have hq : decide (most < 0) = true := by simpa using hm
  generalize V.tNum x 0 = tn at *
  generalize V.tEnd x 0 = te at *
  have q0 : (k == 0) = true := by simp [hk]
  clear hk
  go_enter Try.func40, Try.ntmps40
  go_wp2_with (first | (refine wpList_box rfl rfl 73 _ _ rfl rfl (KP k) zeroP zeroPt rfl rfl rfl (infoP36 rfl) (KP_one k) ?_))
  refine (HT.out _ HRX.out).mono ?_
  rintro e w9 ⟨rfl, h9⟩
  rw [h9]
  clear h9
  go_wp2_with (first | (refine wpList_load_row rfl 73 _ rfl w3.heap.size rfl 73 (KP k) (0, 0) _ HG8.out Try.underlying73 rfl (infoP36 (rfl)) ?_) | (refine wpList_store_row rfl 73 _ _ rfl w1.heap.size (KP k) rfl rfl 73 zeroP HG6.out (infoP36 (rfl)) (by rw [show (KP k).size = 36 from rfl]; rfl) (KP_one k) ?_) | (refine wpList_store_row rfl 70 _ _ rfl w2.heap.size (rdC none 0 0 (20)) rfl rfl 70 _ ((setRow_other _ _ _ _ N67.out.symm).trans HG7.out) infoRd rfl (rdC_one _ _ _ _) ?_))
  obtain ⟨G6F, G7F, BF⟩ := two_rows (W := w4) (KP k) (rdC none 0 0 (20)) HG6.out HG7.out N67.out HB4.out L6.out L7.out
  refine bodyPost_ret_by (results_cc rfl _ _ w1.heap.size w2.heap.size 73 70 _ _ (0, 0) (0, 0) _ _ rfl G6F Try.underlying73 rfl (infoP36 (rfl)) rfl G7F Try.underlying70 rfl infoRd) rfl ?_
  exact ⟨none, 0, rfl, Nat.le_refl _, fun _ _ => Rd.nil _, BF⟩
set_option maxRecDepth 100000 in
set_option maxHeartbeats 1600000 in
theorem rtk0_big (A : Option Addr) (c : Nat) (x : List UInt8) (k most : Int) (w : World) (hk : k = 0) (he : V.tErr x 0 = 0) (hm : 0 ≤ most ∧ most ≤ 9223372036854775807 ∧ most < (V.tNum x 0 : Int)) (hl : x.length ≤ 16000000) (hc : x.length ≤ c) (hr : Rd w A x) :
    Calls Try.prog 40 #[.agg #[.slice A x.length c, .int .i64 0], .int .i64 k, .int .i64 most] w (TkO A x (KP k) ([]) (20) w) := by
  have HR := Lib.hid hr
  obtain ⟨w1, hw1⟩ : ∃ w1, w.alloc (.cells #[.slice A x.length c, .int .i64 0] 70) = w1 := ⟨_, rfl⟩
  obtain ⟨w2, hw2⟩ : ∃ w2, w1.alloc (.cells zeroP 73) = w2 := ⟨_, rfl⟩
  obtain ⟨w3, hw3⟩ : ∃ w3, w2.alloc (.cells #[.slice none 0 0, .int .i64 0] 70) = w3 := ⟨_, rfl⟩
  obtain ⟨w4, hw4⟩ : ∃ w4, w3.alloc (.cells (KP k) 73) = w4 := ⟨_, rfl⟩
  have s1 : w1.heap.size = w.heap.size + 1 := by rw [← hw1]; simp
  have s2 : w2.heap.size = w1.heap.size + 1 := by rw [← hw2]; simp
  have s3 : w3.heap.size = w2.heap.size + 1 := by rw [← hw3]; simp
  have G3 : w4.heap[w.heap.size]? = some (.cells (rdC A x.length c 0) 70 (0, 0)) := hw4 ▸ blk_alloc (hw3 ▸ blk_alloc (hw2 ▸ blk_alloc (hw1 ▸ blk_new w _) _) _) _
  have G6 : w4.heap[w1.heap.size]? = some (.cells zeroP 73 (0, 0)) := hw4 ▸ blk_alloc (hw3 ▸ blk_alloc (hw2 ▸ blk_new w1 _) _) _
  have G7 : w4.heap[w2.heap.size]? = some (.cells #[.slice none 0 0, .int .i64 0] 70 (0, 0)) := hw4 ▸ blk_alloc (hw3 ▸ blk_new w2 _) _
  have G8 : w4.heap[w3.heap.size]? = some (.cells (KP k) 73 (0, 0)) := hw4 ▸ blk_new w3 _
  have B4 : Below w.heap.size w w4 := hw4 ▸ below_alloc (hw3 ▸ below_alloc (hw2 ▸ below_alloc (hw1 ▸ below_alloc (Below.refl _ _) _) _) _) _
  have N67 := Lib.hid (show w1.heap.size ≠ w2.heap.size by omega)
  have N36 := Lib.hid (show w.heap.size ≠ w1.heap.size by omega)
  have N37 := Lib.hid (show w.heap.size ≠ w2.heap.size by omega)
  have N38 := Lib.hid (show w.heap.size ≠ w3.heap.size by omega)
  have N86 := Lib.hid (show w3.heap.size ≠ w1.heap.size by omega)
  have N87 := Lib.hid (show w3.heap.size ≠ w2.heap.size by omega)
  have L6 := Lib.hid (show w.heap.size ≤ w1.heap.size by omega)
  have L7 := Lib.hid (show w.heap.size ≤ w2.heap.size by omega)
  have L8 := Lib.hid (show w.heap.size ≤ w3.heap.size by omega)
  have c30 : w4.cell? ⟨w.heap.size, 0, none⟩ = some (.slice A x.length c) := blk_cell G3 0
  have c31 : w4.cell? ⟨w.heap.size, 1, none⟩ = some (.int .i64 0) := blk_cell G3 1
  have z4 := blk_lt G8
  have z43 := blk_lt G3
  have HG3 := Lib.hid G3
  have HG6 := Lib.hid G6
  have HG7 := Lib.hid G7
  have HG8 := Lib.hid G8
  have HB4 := Lib.hid B4
  have HRX := Lib.hid (hr.below B4)
  clear hr s1 s2 s3 G3 G6 G7 G8 B4
  unfold zeroP at hw2
  have HT := Lib.hid (show ∀ W, Rd W A x → Calls Try.prog 72 #[.slice A x.length c, .int .i64 0] W (Still (.tuple #[.int .u64 (V.tNum x 0), .int .i64 (V.tEnd x 0), .int .i64 (V.tErr x 0)]) W) from fun W h => Vr.rtake_any A c x 0 W (by omega) h)
  rw [he] at HT
  have HE0 := Lib.hid he
  clear he
  obtain ⟨mm, rfl⟩ := Int.eq_ofNat_of_zero_le hm.1
  have hw : IntKind.u64.wrap (mm : Int) = (mm : Int) := IntWalk.u64_in _ (by omega)
  have hgt : (mm : Int) < (V.tNum x 0 : Int) := hm.2.2
  have hq : decide ((mm : Int) < 0) = false := by simp
  clear hm
  generalize V.tNum x 0 = tn at *
  generalize V.tEnd x 0 = te at *
  have q0 : (k == 0) = true := by simp [hk]
  clear hk
  go_enter Try.func40, Try.ntmps40
  go_wp2_with (first | (refine wpList_box rfl rfl 73 _ _ rfl rfl (KP k) zeroP zeroPt rfl rfl rfl (infoP36 rfl) (KP_one k) ?_))
  refine (HT.out _ HRX.out).mono ?_
  rintro e w9 ⟨rfl, h9⟩
  rw [h9]
  clear h9
  go_wp2_with (first | (refine wpList_load_row rfl 73 _ rfl w3.heap.size rfl 73 (KP k) (0, 0) _ HG8.out Try.underlying73 rfl (infoP36 (rfl)) ?_) | (refine wpList_store_row rfl 73 _ _ rfl w1.heap.size (KP k) rfl rfl 73 zeroP HG6.out (infoP36 (rfl)) (by rw [show (KP k).size = 36 from rfl]; rfl) (KP_one k) ?_) | (refine wpList_store_row rfl 70 _ _ rfl w2.heap.size (rdC none 0 0 (20)) rfl rfl 70 _ ((setRow_other _ _ _ _ N67.out.symm).trans HG7.out) infoRd rfl (rdC_one _ _ _ _) ?_))
  obtain ⟨G6F, G7F, BF⟩ := two_rows (W := w4) (KP k) (rdC none 0 0 (20)) HG6.out HG7.out N67.out HB4.out L6.out L7.out
  refine bodyPost_ret_by (results_cc rfl _ _ w1.heap.size w2.heap.size 73 70 _ _ (0, 0) (0, 0) _ _ rfl G6F Try.underlying73 rfl (infoP36 (rfl)) rfl G7F Try.underlying70 rfl infoRd) rfl ?_
  exact ⟨none, 0, rfl, Nat.le_refl _, fun _ _ => Rd.nil _, BF⟩
set_option maxRecDepth 100000 in
set_option maxHeartbeats 1600000 in
theorem rtk2_no (A : Option Addr) (c : Nat) (x : List UInt8) (k most : Int) (w : World) (hk : k = 2) (he : textOk x 0 = false) (hl : x.length ≤ 16000000) (hc : x.length ≤ c) (hr : Rd w A x) :
    Calls Try.prog 40 #[.agg #[.slice A x.length c, .int .i64 0], .int .i64 k, .int .i64 most] w (TkO A x (KP k) ([]) (4) w) := by
  have HR := Lib.hid hr
  obtain ⟨w1, hw1⟩ : ∃ w1, w.alloc (.cells #[.slice A x.length c, .int .i64 0] 70) = w1 := ⟨_, rfl⟩
  obtain ⟨w2, hw2⟩ : ∃ w2, w1.alloc (.cells zeroP 73) = w2 := ⟨_, rfl⟩
  obtain ⟨w3, hw3⟩ : ∃ w3, w2.alloc (.cells #[.slice none 0 0, .int .i64 0] 70) = w3 := ⟨_, rfl⟩
  obtain ⟨w4, hw4⟩ : ∃ w4, w3.alloc (.cells (KP k) 73) = w4 := ⟨_, rfl⟩
  have s1 : w1.heap.size = w.heap.size + 1 := by rw [← hw1]; simp
  have s2 : w2.heap.size = w1.heap.size + 1 := by rw [← hw2]; simp
  have s3 : w3.heap.size = w2.heap.size + 1 := by rw [← hw3]; simp
  have G3 : w4.heap[w.heap.size]? = some (.cells (rdC A x.length c 0) 70 (0, 0)) := hw4 ▸ blk_alloc (hw3 ▸ blk_alloc (hw2 ▸ blk_alloc (hw1 ▸ blk_new w _) _) _) _
  have G6 : w4.heap[w1.heap.size]? = some (.cells zeroP 73 (0, 0)) := hw4 ▸ blk_alloc (hw3 ▸ blk_alloc (hw2 ▸ blk_new w1 _) _) _
  have G7 : w4.heap[w2.heap.size]? = some (.cells #[.slice none 0 0, .int .i64 0] 70 (0, 0)) := hw4 ▸ blk_alloc (hw3 ▸ blk_new w2 _) _
  have G8 : w4.heap[w3.heap.size]? = some (.cells (KP k) 73 (0, 0)) := hw4 ▸ blk_new w3 _
  have B4 : Below w.heap.size w w4 := hw4 ▸ below_alloc (hw3 ▸ below_alloc (hw2 ▸ below_alloc (hw1 ▸ below_alloc (Below.refl _ _) _) _) _) _
  have N67 := Lib.hid (show w1.heap.size ≠ w2.heap.size by omega)
  have N36 := Lib.hid (show w.heap.size ≠ w1.heap.size by omega)
  have N37 := Lib.hid (show w.heap.size ≠ w2.heap.size by omega)
  have N38 := Lib.hid (show w.heap.size ≠ w3.heap.size by omega)
  have N86 := Lib.hid (show w3.heap.size ≠ w1.heap.size by omega)
  have N87 := Lib.hid (show w3.heap.size ≠ w2.heap.size by omega)
  have L6 := Lib.hid (show w.heap.size ≤ w1.heap.size by omega)
  have L7 := Lib.hid (show w.heap.size ≤ w2.heap.size by omega)
  have L8 := Lib.hid (show w.heap.size ≤ w3.heap.size by omega)
  have c30 : w4.cell? ⟨w.heap.size, 0, none⟩ = some (.slice A x.length c) := blk_cell G3 0
  have c31 : w4.cell? ⟨w.heap.size, 1, none⟩ = some (.int .i64 0) := blk_cell G3 1
  have z4 := blk_lt G8
  have z43 := blk_lt G3
  have HG3 := Lib.hid G3
  have HG6 := Lib.hid G6
  have HG7 := Lib.hid G7
  have HG8 := Lib.hid G8
  have HB4 := Lib.hid B4
  have HRX := Lib.hid (hr.below B4)
  clear hr s1 s2 s3 G3 G6 G7 G8 B4
  unfold zeroP at hw2
  have HT := Lib.hid (show ∀ W, Rd W A x → Calls Try.prog 73 #[.slice A x.length c, .int .i64 0] W (Still (.tuple #[.string (textS x 0), .int .i64 (textEnd x 0), .bool (textOk x 0)]) W) from fun W h => R01.takeText_any A c x 0 W (by omega) hc h)
  rw [he] at HT
  clear he
  generalize textS x 0 = ts at *
  generalize textEnd x 0 = te at *
  have q0 : (k == 0) = false := by simp [hk]
  have q1 : (k == 1) = false := by simp [hk]
  have q2 : (k == 2) = true := by simp [hk]
  clear hk
  go_enter Try.func40, Try.ntmps40
  go_wp2_with (first | (refine wpList_box rfl rfl 73 _ _ rfl rfl (KP k) zeroP zeroPt rfl rfl rfl (infoP36 rfl) (KP_one k) ?_))
  refine (HT.out _ HRX.out).mono ?_
  rintro e w9 ⟨rfl, h9⟩
  rw [h9]
  clear h9
  go_wp2_with (first | (refine wpList_load_row rfl 73 _ rfl w3.heap.size rfl 73 (KP k) (0, 0) _ HG8.out Try.underlying73 rfl (infoP36 (rfl)) ?_) | (refine wpList_store_row rfl 73 _ _ rfl w1.heap.size (KP k) rfl rfl 73 zeroP HG6.out (infoP36 (rfl)) (by rw [show (KP k).size = 36 from rfl]; rfl) (KP_one k) ?_) | (refine wpList_store_row rfl 70 _ _ rfl w2.heap.size (rdC none 0 0 (4)) rfl rfl 70 _ ((setRow_other _ _ _ _ N67.out.symm).trans HG7.out) infoRd rfl (rdC_one _ _ _ _) ?_))
  obtain ⟨G6F, G7F, BF⟩ := two_rows (W := w4) (KP k) (rdC none 0 0 (4)) HG6.out HG7.out N67.out HB4.out L6.out L7.out
  refine bodyPost_ret_by (results_cc rfl _ _ w1.heap.size w2.heap.size 73 70 _ _ (0, 0) (0, 0) _ _ rfl G6F Try.underlying73 rfl (infoP36 (rfl)) rfl G7F Try.underlying70 rfl infoRd) rfl ?_
  exact ⟨none, 0, rfl, Nat.le_refl _, fun _ _ => Rd.nil _, BF⟩
set_option maxRecDepth 100000 in
set_option maxHeartbeats 1600000 in
theorem rtk3_no (A : Option Addr) (c : Nat) (x : List UInt8) (k most : Int) (w : World) (hk : k ≠ 0 ∧ k ≠ 1 ∧ k ≠ 2) (he : x.length < 32) (hl : x.length ≤ 16000000) (hc : x.length ≤ c) (hr : Rd w A x) :
    Calls Try.prog 40 #[.agg #[.slice A x.length c, .int .i64 0], .int .i64 k, .int .i64 most] w (TkO A x (KP k) ([]) (4) w) := by
  have HR := Lib.hid hr
  obtain ⟨w1, hw1⟩ : ∃ w1, w.alloc (.cells #[.slice A x.length c, .int .i64 0] 70) = w1 := ⟨_, rfl⟩
  obtain ⟨w2, hw2⟩ : ∃ w2, w1.alloc (.cells zeroP 73) = w2 := ⟨_, rfl⟩
  obtain ⟨w3, hw3⟩ : ∃ w3, w2.alloc (.cells #[.slice none 0 0, .int .i64 0] 70) = w3 := ⟨_, rfl⟩
  obtain ⟨w4, hw4⟩ : ∃ w4, w3.alloc (.cells (KP k) 73) = w4 := ⟨_, rfl⟩
  have s1 : w1.heap.size = w.heap.size + 1 := by rw [← hw1]; simp
  have s2 : w2.heap.size = w1.heap.size + 1 := by rw [← hw2]; simp
  have s3 : w3.heap.size = w2.heap.size + 1 := by rw [← hw3]; simp
  have G3 : w4.heap[w.heap.size]? = some (.cells (rdC A x.length c 0) 70 (0, 0)) := hw4 ▸ blk_alloc (hw3 ▸ blk_alloc (hw2 ▸ blk_alloc (hw1 ▸ blk_new w _) _) _) _
  have G6 : w4.heap[w1.heap.size]? = some (.cells zeroP 73 (0, 0)) := hw4 ▸ blk_alloc (hw3 ▸ blk_alloc (hw2 ▸ blk_new w1 _) _) _
  have G7 : w4.heap[w2.heap.size]? = some (.cells #[.slice none 0 0, .int .i64 0] 70 (0, 0)) := hw4 ▸ blk_alloc (hw3 ▸ blk_new w2 _) _
  have G8 : w4.heap[w3.heap.size]? = some (.cells (KP k) 73 (0, 0)) := hw4 ▸ blk_new w3 _
  have B4 : Below w.heap.size w w4 := hw4 ▸ below_alloc (hw3 ▸ below_alloc (hw2 ▸ below_alloc (hw1 ▸ below_alloc (Below.refl _ _) _) _) _) _
  have N67 := Lib.hid (show w1.heap.size ≠ w2.heap.size by omega)
  have N36 := Lib.hid (show w.heap.size ≠ w1.heap.size by omega)
  have N37 := Lib.hid (show w.heap.size ≠ w2.heap.size by omega)
  have N38 := Lib.hid (show w.heap.size ≠ w3.heap.size by omega)
  have N86 := Lib.hid (show w3.heap.size ≠ w1.heap.size by omega)
  have N87 := Lib.hid (show w3.heap.size ≠ w2.heap.size by omega)
  have L6 := Lib.hid (show w.heap.size ≤ w1.heap.size by omega)
  have L7 := Lib.hid (show w.heap.size ≤ w2.heap.size by omega)
  have L8 := Lib.hid (show w.heap.size ≤ w3.heap.size by omega)
  have c30 : w4.cell? ⟨w.heap.size, 0, none⟩ = some (.slice A x.length c) := blk_cell G3 0
  have c31 : w4.cell? ⟨w.heap.size, 1, none⟩ = some (.int .i64 0) := blk_cell G3 1
  have z4 := blk_lt G8
  have z43 := blk_lt G3
  have HG3 := Lib.hid G3
  have HG6 := Lib.hid G6
  have HG7 := Lib.hid G7
  have HG8 := Lib.hid G8
  have HB4 := Lib.hid B4
  have HRX := Lib.hid (hr.below B4)
  clear hr s1 s2 s3 G3 G6 G7 G8 B4
  unfold zeroP at hw2
  have q0 : (k == 0) = false := by simp [hk.1]
  have q1 : (k == 1) = false := by simp [hk.2.1]
  have q2 : (k == 2) = false := by simp [hk.2.2]
  clear hk
  go_enter Try.func40, Try.ntmps40
  go_wp2_with (first | (refine wpList_box rfl rfl 73 _ _ rfl rfl (KP k) zeroP zeroPt rfl rfl rfl (infoP36 rfl) (KP_one k) ?_) | (refine wpList_load_row rfl 73 _ rfl w3.heap.size rfl 73 (KP k) (0, 0) _ HG8.out Try.underlying73 rfl (infoP36 (rfl)) ?_) | (refine wpList_store_row rfl 73 _ _ rfl w1.heap.size (KP k) rfl rfl 73 zeroP HG6.out (infoP36 (rfl)) (by rw [show (KP k).size = 36 from rfl]; rfl) (KP_one k) ?_) | (refine wpList_store_row rfl 70 _ _ rfl w2.heap.size (rdC none 0 0 (4)) rfl rfl 70 _ ((setRow_other _ _ _ _ N67.out.symm).trans HG7.out) infoRd rfl (rdC_one _ _ _ _) ?_))
  obtain ⟨G6F, G7F, BF⟩ := two_rows (W := w4) (KP k) (rdC none 0 0 (4)) HG6.out HG7.out N67.out HB4.out L6.out L7.out
  refine bodyPost_ret_by (results_cc rfl _ _ w1.heap.size w2.heap.size 73 70 _ _ (0, 0) (0, 0) _ _ rfl G6F Try.underlying73 rfl (infoP36 (rfl)) rfl G7F Try.underlying70 rfl infoRd) rfl ?_
  exact ⟨none, 0, rfl, Nat.le_refl _, fun _ _ => Rd.nil _, BF⟩
end Go.Proofs.Yteeemiacibjaoaa.Co
