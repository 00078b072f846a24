/- law27: lives, ConfigRight. -/
import Derived.Test.YtdkadeihhgjiaaaCfg
set_option linter.unusedVariables false
set_option linter.unusedSimpArgs false
namespace Go.Proofs.Ytdkadeihhgjiaaa.Cf
open Go.RowKit Go.Proofs.YtdkadeihhgjiaaaW.PrintWords Go.Proofs.Ytdkadeihhgjiaaa.B Go.Proofs.Ytdkadeihhgjiaaa.Fx Go.Proofs.Ytdkadeihhgjiaaa.Fr Go.Proofs.Ytdkadeihhgjiaaa.O Go.Proofs.Ytdkadeihhgjiaaa.Rc Go.Proofs.Ytdkadeihhgjiaaa.Bt
theorem zeroCfg : ∀ w, (zeroValue 24).run Try.prog w = .ok (.agg #[.int .i64 0, .int .i64 0, .int .i64 0, .int .i64 0, .int .i64 0, .float .f64 0]) w := fun w => by kernel_rfl
theorem live_r : rightB 1024 1 1 17 0 4602678819172646912 = true := by decide +kernel
set_option maxRecDepth 100000 in
set_option maxHeartbeats 1600000 in
theorem lives_any (w : World) : Calls Try.prog 14 #[] w (Kept (.bool true) w) := by
  have HR := Lib.hid (fun W => right_any 1024 1 1 17 0 4602678819172646912 W)
  rw [live_r] at HR
  have HRM := Lib.hid (fun W => room_any 1024 1 1 17 0 4602678819172646912 W (by decide))
  have HDL := Lib.hid (fun W => deletes_any 1024 1 1 17 0 4602678819172646912 W (by decide))
  have HLG := Lib.hid (fun W => large_any 1024 1 1 17 0 4602678819172646912 W (by decide))
  obtain ⟨w1, hw1⟩ : ∃ w1, w.alloc (.cells #[.int .i64 1024, .int .i64 1, .int .i64 1, .int .i64 17, .int .i64 0, .float .f64 4602678819172646912] 24) = w1 := ⟨_, rfl⟩
  have HG := Lib.hid (show w1.heap[w.heap.size]? = some (.cells #[.int .i64 1024, .int .i64 1, .int .i64 1, .int .i64 17, .int .i64 0, .float .f64 4602678819172646912] 24 (0, 0)) from hw1 ▸ blk_new w _)
  have hb1 : Below w.heap.size w w1 := hw1 ▸ below_alloc (Below.refl _ _) _
  have HB1 := Lib.hid hb1
  clear hb1
  have hcc := fun i => blk_cell HG.out i
  go_enter Try.func14, Try.ntmps14
  go_wp2_with (refine wpList_box rfl rfl 24 _ _ rfl rfl #[.int .i64 1024, .int .i64 1, .int .i64 1, .int .i64 17, .int .i64 0, .float .f64 4602678819172646912] #[.int .i64 0, .int .i64 0, .int .i64 0, .int .i64 0, .int .i64 0, .float .f64 0] zeroCfg rfl rfl rfl (by kernel_rfl) (by kernel_rfl) ?_; rw [hw1])
  refine (HR.out w1).mono ?_
  rintro e w2 ⟨rfl, hb⟩
  have HB2 := Lib.hid (below_step' HB1.out hb)
  have HG2 := Lib.hid (blk_below HG.out hb)
  clear hb hcc hw1
  have hcc := fun i => blk_cell HG2.out i
  go_wp2_with fail
  refine (HRM.out w2).mono ?_
  rintro e w3 ⟨rfl, hb⟩
  have HB3 := Lib.hid (below_step' HB2.out hb)
  have HG3 := Lib.hid (blk_below HG2.out hb)
  clear hb hcc
  have hcc := fun i => blk_cell HG3.out i
  go_wp2_with fail
  refine (HDL.out w3).mono ?_
  rintro e w4 ⟨rfl, hb⟩
  have HB4 := Lib.hid (below_step' HB3.out hb)
  have HG4 := Lib.hid (blk_below HG3.out hb)
  clear hb hcc
  have hcc := fun i => blk_cell HG4.out i
  go_wp2_with fail
  refine (HLG.out w4).mono ?_
  rintro e w5 ⟨rfl, hb⟩
  have HB5 := Lib.hid (below_step' HB4.out hb)
  clear hb hcc
  go_wp2_with fail
  go_ret
  exact ⟨rfl, HB5.out⟩
set_option maxRecDepth 100000 in
set_option maxHeartbeats 3200000 in
theorem cright_any (sg ba st co bt : Int) (th : Nat) (w : World) (hsg : -9223372036854775808 ≤ sg ∧ sg ≤ 9223372036854775807) :
    Calls Try.prog 3 #[.agg #[.int .i64 sg, .int .i64 ba, .int .i64 st, .int .i64 co, .int .i64 bt, .float .f64 th]] w (Kept (.bool true) w) := by
  obtain ⟨w1, hw1⟩ : ∃ w1, w.alloc (.cells #[.int .i64 sg, .int .i64 ba, .int .i64 st, .int .i64 co, .int .i64 bt, .float .f64 th] 24) = w1 := ⟨_, rfl⟩
  have HG := Lib.hid (show w1.heap[w.heap.size]? = some (.cells #[.int .i64 sg, .int .i64 ba, .int .i64 st, .int .i64 co, .int .i64 bt, .float .f64 th] 24 (0, 0)) from hw1 ▸ blk_new w _)
  have hb1 : Below w.heap.size w w1 := hw1 ▸ below_alloc (Below.refl _ _) _
  have HB1 := Lib.hid hb1
  clear hb1
  have hx0 : Below w1.heap.size w1 w1.drew := below_drew (Below.refl _ _)
  have hcc := fun i => blk_cell HG.out i
  have HR := Lib.hid (fun W => right_any sg ba st co bt th W)
  have HRR := Lib.hid (fun W => refright_any sg ba st co bt th W)
  have HLV := Lib.hid (fun W => lives_any W)
  generalize rightB sg ba st co bt th = rb at *
  by_cases hlo : sg < -1099511627776
  · go_enter Try.func3, Try.ntmps3
    go_wp2_with fail
    try rw [hw1]
    clear hcc hw1
    refine wp_region_held_drew (S := fun W => Below w1.heap.size w1 W) (by kernel_rfl) hx0 (fun hHeld => ?_)
    refine wpAnyH_take (i := 0) (v := .agg [.int .i64 sg, .int .i64 ba, .int .i64 st, .int .i64 co, .int .i64 bt, .float .f64 th].toArray) rfl (by kernel_rfl) (by kernel_rfl) (by kernel_rfl) (fun _ _ _ h => h) (yieldsIf_load_mid (by kernel_rfl) 24 _ rfl _ 0 rfl [.int .i64 sg, .int .i64 ba, .int .i64 st, .int .i64 co, .int .i64 bt, .float .f64 th] _ (fun W h => range_row (blk_below HG.out h)) Try.underlying24 rfl (by kernel_rfl)) hHeld ?_
    simp only [List.getElem_toArray, List.getElem_cons_succ, List.getElem_cons_zero, Act.put, List.setIfInBounds_toArray, List.set_cons_zero, List.set_cons_succ]
    refine wpAnyH_take (i := 2) (v := .agg [.int .i64 sg, .int .i64 ba, .int .i64 st, .int .i64 co, .int .i64 bt, .float .f64 th].toArray) rfl (by kernel_rfl) (by kernel_rfl) (by kernel_rfl) (fun _ _ _ h => h) (yieldsIf_load_mid (by kernel_rfl) 24 _ rfl _ 0 rfl [.int .i64 sg, .int .i64 ba, .int .i64 st, .int .i64 co, .int .i64 bt, .float .f64 th] _ (fun W h => range_row (blk_below HG.out h)) Try.underlying24 rfl (by kernel_rfl)) hHeld ?_
    simp only [List.getElem_toArray, List.getElem_cons_succ, List.getElem_cons_zero, Act.put, List.setIfInBounds_toArray, List.set_cons_zero, List.set_cons_succ]
    refine wpAnyH_ready (rs := [1]) (by kernel_rfl) (by simp) ?_
    refine AllReadyH.cons rfl (fun K hK => ?_) ?_
    case refine_2 => exact AllReadyH.nil
    go_simp
    refine (HR.out _).mono ?_
    rintro e x1 ⟨rfl, hb⟩
    refine hK.out _ _ (below_step' hHeld hb) (fun hHeld => ?_)
    clear hK K
    try simp only [List.getElem_toArray, List.getElem_cons_succ, List.getElem_cons_zero, Act.put, List.setIfInBounds_toArray, List.set_cons_zero, List.set_cons_succ]
    clear hb
    refine wpAnyH_ready (rs := [3]) (by kernel_rfl) (by simp) ?_
    refine AllReadyH.cons rfl (fun K hK => ?_) ?_
    case refine_2 => exact AllReadyH.nil
    go_simp
    refine (HRR.out _).mono ?_
    rintro e x3 ⟨rfl, hb⟩
    refine hK.out _ _ (below_step' hHeld hb) (fun hHeld => ?_)
    clear hK K
    try simp only [List.getElem_toArray, List.getElem_cons_succ, List.getElem_cons_zero, Act.put, List.setIfInBounds_toArray, List.set_cons_zero, List.set_cons_succ]
    clear hb
    refine wpAnyH_take (i := 4) (v := .bool true) rfl (by kernel_rfl) (by kernel_rfl) (by kernel_rfl) (fun _ _ _ h => h) (Or.inl ⟨by kernel_rfl, fun W h => by skip; go_simp <;> with_reducible rfl⟩) hHeld ?_
    simp only [List.getElem_toArray, List.getElem_cons_succ, List.getElem_cons_zero, Act.put, List.setIfInBounds_toArray, List.set_cons_zero, List.set_cons_succ]
    refine wpAnyH_take (i := 5) (v := _) rfl (by kernel_rfl) (by kernel_rfl) (by kernel_rfl) (fun _ _ _ h => h) (Or.inl ⟨by kernel_rfl, fun w _ => by go_simp <;> with_reducible rfl⟩) hHeld ?_
    simp only [List.getElem_toArray, List.getElem_cons_succ, List.getElem_cons_zero, Act.put, List.setIfInBounds_toArray, List.set_cons_zero, List.set_cons_succ]
    refine wpAnyH_ready (rs := [6]) (by kernel_rfl) (by simp) ?_
    refine AllReadyH.cons rfl (fun K hK => ?_) ?_
    case refine_2 => exact AllReadyH.nil
    go_simp
    refine (HLV.out _).mono ?_
    rintro e x6 ⟨rfl, hb⟩
    refine hK.out _ _ (below_step' hHeld hb) (fun hHeld => ?_)
    clear hK K
    try simp only [List.getElem_toArray, List.getElem_cons_succ, List.getElem_cons_zero, Act.put, List.setIfInBounds_toArray, List.set_cons_zero, List.set_cons_succ]
    clear hb
    refine wpAnyH_take (i := 7) (v := _) rfl (by kernel_rfl) (by kernel_rfl) (by kernel_rfl) (fun _ _ _ h => h) (Or.inl ⟨by kernel_rfl, fun w _ => by go_simp <;> with_reducible rfl⟩) hHeld ?_
    simp only [List.getElem_toArray, List.getElem_cons_succ, List.getElem_cons_zero, Act.put, List.setIfInBounds_toArray, List.set_cons_zero, List.set_cons_succ]
    refine wpAnyH_take (i := 8) (v := _) rfl (by kernel_rfl) (by kernel_rfl) (by kernel_rfl) (fun _ _ _ h => h) (Or.inl ⟨by kernel_rfl, fun w _ => by go_simp <;> with_reducible rfl⟩) hHeld ?_
    simp only [List.getElem_toArray, List.getElem_cons_succ, List.getElem_cons_zero, Act.put, List.setIfInBounds_toArray, List.set_cons_zero, List.set_cons_succ]
    refine wpAnyH_done (by kernel_rfl) ?_ _
    have HB9 := Lib.hid (below_step' HB1.out hHeld)
    go_wp2_with fail
    go_ret
    exact ⟨rfl, HB9.out⟩
  · have HRM := Lib.hid (fun W => room_any sg ba st co bt th W (by omega))
    have HDL := Lib.hid (fun W => deletes_any sg ba st co bt th W (by omega))
    have HLG := Lib.hid (fun W => large_any sg ba st co bt th W (by omega))
    have HRM2 := Lib.hid (fun W => refroom_any sg ba st co bt th W (by omega))
    have HDL2 := Lib.hid (fun W => refdeletes_any sg ba st co bt th W (by omega))
    have HLG2 := Lib.hid (fun W => reflarge_any sg ba st co bt th W (by omega))
    generalize (sg - 95) / 53 = v2 at *
    generalize (sg - 95) / 2 - 53 = v3 at *
    go_enter Try.func3, Try.ntmps3
    go_wp2_with fail
    try rw [hw1]
    clear hcc hw1
    refine wp_region_held_drew (S := fun W => Below w1.heap.size w1 W) (by kernel_rfl) hx0 (fun hHeld => ?_)
    refine wpAnyH_take (i := 0) (v := .agg [.int .i64 sg, .int .i64 ba, .int .i64 st, .int .i64 co, .int .i64 bt, .float .f64 th].toArray) rfl (by kernel_rfl) (by kernel_rfl) (by kernel_rfl) (fun _ _ _ h => h) (yieldsIf_load_mid (by kernel_rfl) 24 _ rfl _ 0 rfl [.int .i64 sg, .int .i64 ba, .int .i64 st, .int .i64 co, .int .i64 bt, .float .f64 th] _ (fun W h => range_row (blk_below HG.out h)) Try.underlying24 rfl (by kernel_rfl)) hHeld ?_
    simp only [List.getElem_toArray, List.getElem_cons_succ, List.getElem_cons_zero, Act.put, List.setIfInBounds_toArray, List.set_cons_zero, List.set_cons_succ]
    refine wpAnyH_take (i := 2) (v := .agg [.int .i64 sg, .int .i64 ba, .int .i64 st, .int .i64 co, .int .i64 bt, .float .f64 th].toArray) rfl (by kernel_rfl) (by kernel_rfl) (by kernel_rfl) (fun _ _ _ h => h) (yieldsIf_load_mid (by kernel_rfl) 24 _ rfl _ 0 rfl [.int .i64 sg, .int .i64 ba, .int .i64 st, .int .i64 co, .int .i64 bt, .float .f64 th] _ (fun W h => range_row (blk_below HG.out h)) Try.underlying24 rfl (by kernel_rfl)) hHeld ?_
    simp only [List.getElem_toArray, List.getElem_cons_succ, List.getElem_cons_zero, Act.put, List.setIfInBounds_toArray, List.set_cons_zero, List.set_cons_succ]
    refine wpAnyH_ready (rs := [1]) (by kernel_rfl) (by simp) ?_
    refine AllReadyH.cons rfl (fun K hK => ?_) ?_
    case refine_2 => exact AllReadyH.nil
    go_simp
    refine (HR.out _).mono ?_
    rintro e x1 ⟨rfl, hb⟩
    refine hK.out _ _ (below_step' hHeld hb) (fun hHeld => ?_)
    clear hK K
    try simp only [List.getElem_toArray, List.getElem_cons_succ, List.getElem_cons_zero, Act.put, List.setIfInBounds_toArray, List.set_cons_zero, List.set_cons_succ]
    clear hb
    refine wpAnyH_ready (rs := [3]) (by kernel_rfl) (by simp) ?_
    refine AllReadyH.cons rfl (fun K hK => ?_) ?_
    case refine_2 => exact AllReadyH.nil
    go_simp
    refine (HRR.out _).mono ?_
    rintro e x3 ⟨rfl, hb⟩
    refine hK.out _ _ (below_step' hHeld hb) (fun hHeld => ?_)
    clear hK K
    try simp only [List.getElem_toArray, List.getElem_cons_succ, List.getElem_cons_zero, Act.put, List.setIfInBounds_toArray, List.set_cons_zero, List.set_cons_succ]
    clear hb
    refine wpAnyH_take (i := 4) (v := .bool true) rfl (by kernel_rfl) (by kernel_rfl) (by kernel_rfl) (fun _ _ _ h => h) (Or.inl ⟨by kernel_rfl, fun W h => by skip; go_simp <;> with_reducible rfl⟩) hHeld ?_
    simp only [List.getElem_toArray, List.getElem_cons_succ, List.getElem_cons_zero, Act.put, List.setIfInBounds_toArray, List.set_cons_zero, List.set_cons_succ]
    refine wpAnyH_take (i := 5) (v := _) rfl (by kernel_rfl) (by kernel_rfl) (by kernel_rfl) (fun _ _ _ h => h) (Or.inl ⟨by kernel_rfl, fun w _ => by go_simp <;> with_reducible rfl⟩) hHeld ?_
    simp only [List.getElem_toArray, List.getElem_cons_succ, List.getElem_cons_zero, Act.put, List.setIfInBounds_toArray, List.set_cons_zero, List.set_cons_succ]
    refine wpAnyH_take (i := 6) (v := .agg [.int .i64 sg, .int .i64 ba, .int .i64 st, .int .i64 co, .int .i64 bt, .float .f64 th].toArray) rfl (by kernel_rfl) (by kernel_rfl) (by kernel_rfl) (fun _ _ _ h => h) (yieldsIf_load_mid (by kernel_rfl) 24 _ rfl _ 0 rfl [.int .i64 sg, .int .i64 ba, .int .i64 st, .int .i64 co, .int .i64 bt, .float .f64 th] _ (fun W h => range_row (blk_below HG.out h)) Try.underlying24 rfl (by kernel_rfl)) hHeld ?_
    simp only [List.getElem_toArray, List.getElem_cons_succ, List.getElem_cons_zero, Act.put, List.setIfInBounds_toArray, List.set_cons_zero, List.set_cons_succ]
    refine wpAnyH_take (i := 8) (v := .agg [.int .i64 sg, .int .i64 ba, .int .i64 st, .int .i64 co, .int .i64 bt, .float .f64 th].toArray) rfl (by kernel_rfl) (by kernel_rfl) (by kernel_rfl) (fun _ _ _ h => h) (yieldsIf_load_mid (by kernel_rfl) 24 _ rfl _ 0 rfl [.int .i64 sg, .int .i64 ba, .int .i64 st, .int .i64 co, .int .i64 bt, .float .f64 th] _ (fun W h => range_row (blk_below HG.out h)) Try.underlying24 rfl (by kernel_rfl)) hHeld ?_
    simp only [List.getElem_toArray, List.getElem_cons_succ, List.getElem_cons_zero, Act.put, List.setIfInBounds_toArray, List.set_cons_zero, List.set_cons_succ]
    refine wpAnyH_ready (rs := [7]) (by kernel_rfl) (by simp) ?_
    refine AllReadyH.cons rfl (fun K hK => ?_) ?_
    case refine_2 => exact AllReadyH.nil
    go_simp
    refine (HRM.out _).mono ?_
    rintro e x7 ⟨rfl, hb⟩
    refine hK.out _ _ (below_step' hHeld hb) (fun hHeld => ?_)
    clear hK K
    try simp only [List.getElem_toArray, List.getElem_cons_succ, List.getElem_cons_zero, Act.put, List.setIfInBounds_toArray, List.set_cons_zero, List.set_cons_succ]
    clear hb
    refine wpAnyH_ready (rs := [9]) (by kernel_rfl) (by simp) ?_
    refine AllReadyH.cons rfl (fun K hK => ?_) ?_
    case refine_2 => exact AllReadyH.nil
    go_simp
    refine (HRM2.out _).mono ?_
    rintro e x9 ⟨rfl, hb⟩
    refine hK.out _ _ (below_step' hHeld hb) (fun hHeld => ?_)
    clear hK K
    try simp only [List.getElem_toArray, List.getElem_cons_succ, List.getElem_cons_zero, Act.put, List.setIfInBounds_toArray, List.set_cons_zero, List.set_cons_succ]
    clear hb
    refine wpAnyH_take (i := 10) (v := .bool true) rfl (by kernel_rfl) (by kernel_rfl) (by kernel_rfl) (fun _ _ _ h => h) (Or.inl ⟨by kernel_rfl, fun W h => by skip; go_simp <;> with_reducible rfl⟩) hHeld ?_
    simp only [List.getElem_toArray, List.getElem_cons_succ, List.getElem_cons_zero, Act.put, List.setIfInBounds_toArray, List.set_cons_zero, List.set_cons_succ]
    refine wpAnyH_take (i := 11) (v := _) rfl (by kernel_rfl) (by kernel_rfl) (by kernel_rfl) (fun _ _ _ h => h) (Or.inl ⟨by kernel_rfl, fun w _ => by go_simp <;> with_reducible rfl⟩) hHeld ?_
    simp only [List.getElem_toArray, List.getElem_cons_succ, List.getElem_cons_zero, Act.put, List.setIfInBounds_toArray, List.set_cons_zero, List.set_cons_succ]
    refine wpAnyH_take (i := 12) (v := _) rfl (by kernel_rfl) (by kernel_rfl) (by kernel_rfl) (fun _ _ _ h => h) (Or.inl ⟨by kernel_rfl, fun w _ => by go_simp <;> with_reducible rfl⟩) hHeld ?_
    simp only [List.getElem_toArray, List.getElem_cons_succ, List.getElem_cons_zero, Act.put, List.setIfInBounds_toArray, List.set_cons_zero, List.set_cons_succ]
    refine wpAnyH_take (i := 13) (v := .agg [.int .i64 sg, .int .i64 ba, .int .i64 st, .int .i64 co, .int .i64 bt, .float .f64 th].toArray) rfl (by kernel_rfl) (by kernel_rfl) (by kernel_rfl) (fun _ _ _ h => h) (yieldsIf_load_mid (by kernel_rfl) 24 _ rfl _ 0 rfl [.int .i64 sg, .int .i64 ba, .int .i64 st, .int .i64 co, .int .i64 bt, .float .f64 th] _ (fun W h => range_row (blk_below HG.out h)) Try.underlying24 rfl (by kernel_rfl)) hHeld ?_
    simp only [List.getElem_toArray, List.getElem_cons_succ, List.getElem_cons_zero, Act.put, List.setIfInBounds_toArray, List.set_cons_zero, List.set_cons_succ]
    refine wpAnyH_take (i := 15) (v := .agg [.int .i64 sg, .int .i64 ba, .int .i64 st, .int .i64 co, .int .i64 bt, .float .f64 th].toArray) rfl (by kernel_rfl) (by kernel_rfl) (by kernel_rfl) (fun _ _ _ h => h) (yieldsIf_load_mid (by kernel_rfl) 24 _ rfl _ 0 rfl [.int .i64 sg, .int .i64 ba, .int .i64 st, .int .i64 co, .int .i64 bt, .float .f64 th] _ (fun W h => range_row (blk_below HG.out h)) Try.underlying24 rfl (by kernel_rfl)) hHeld ?_
    simp only [List.getElem_toArray, List.getElem_cons_succ, List.getElem_cons_zero, Act.put, List.setIfInBounds_toArray, List.set_cons_zero, List.set_cons_succ]
    refine wpAnyH_ready (rs := [14]) (by kernel_rfl) (by simp) ?_
    refine AllReadyH.cons rfl (fun K hK => ?_) ?_
    case refine_2 => exact AllReadyH.nil
    go_simp
    refine (HDL.out _).mono ?_
    rintro e x14 ⟨rfl, hb⟩
    refine hK.out _ _ (below_step' hHeld hb) (fun hHeld => ?_)
    clear hK K
    try simp only [List.getElem_toArray, List.getElem_cons_succ, List.getElem_cons_zero, Act.put, List.setIfInBounds_toArray, List.set_cons_zero, List.set_cons_succ]
    clear hb
    refine wpAnyH_ready (rs := [16]) (by kernel_rfl) (by simp) ?_
    refine AllReadyH.cons rfl (fun K hK => ?_) ?_
    case refine_2 => exact AllReadyH.nil
    go_simp
    refine (HDL2.out _).mono ?_
    rintro e x16 ⟨rfl, hb⟩
    refine hK.out _ _ (below_step' hHeld hb) (fun hHeld => ?_)
    clear hK K
    try simp only [List.getElem_toArray, List.getElem_cons_succ, List.getElem_cons_zero, Act.put, List.setIfInBounds_toArray, List.set_cons_zero, List.set_cons_succ]
    clear hb
    refine wpAnyH_take (i := 17) (v := .bool true) rfl (by kernel_rfl) (by kernel_rfl) (by kernel_rfl) (fun _ _ _ h => h) (Or.inl ⟨by kernel_rfl, fun W h => by skip; go_simp <;> with_reducible rfl⟩) hHeld ?_
    simp only [List.getElem_toArray, List.getElem_cons_succ, List.getElem_cons_zero, Act.put, List.setIfInBounds_toArray, List.set_cons_zero, List.set_cons_succ]
    refine wpAnyH_take (i := 18) (v := _) rfl (by kernel_rfl) (by kernel_rfl) (by kernel_rfl) (fun _ _ _ h => h) (Or.inl ⟨by kernel_rfl, fun w _ => by go_simp <;> with_reducible rfl⟩) hHeld ?_
    simp only [List.getElem_toArray, List.getElem_cons_succ, List.getElem_cons_zero, Act.put, List.setIfInBounds_toArray, List.set_cons_zero, List.set_cons_succ]
    refine wpAnyH_take (i := 19) (v := _) rfl (by kernel_rfl) (by kernel_rfl) (by kernel_rfl) (fun _ _ _ h => h) (Or.inl ⟨by kernel_rfl, fun w _ => by go_simp <;> with_reducible rfl⟩) hHeld ?_
    simp only [List.getElem_toArray, List.getElem_cons_succ, List.getElem_cons_zero, Act.put, List.setIfInBounds_toArray, List.set_cons_zero, List.set_cons_succ]
    refine wpAnyH_take (i := 20) (v := .agg [.int .i64 sg, .int .i64 ba, .int .i64 st, .int .i64 co, .int .i64 bt, .float .f64 th].toArray) rfl (by kernel_rfl) (by kernel_rfl) (by kernel_rfl) (fun _ _ _ h => h) (yieldsIf_load_mid (by kernel_rfl) 24 _ rfl _ 0 rfl [.int .i64 sg, .int .i64 ba, .int .i64 st, .int .i64 co, .int .i64 bt, .float .f64 th] _ (fun W h => range_row (blk_below HG.out h)) Try.underlying24 rfl (by kernel_rfl)) hHeld ?_
    simp only [List.getElem_toArray, List.getElem_cons_succ, List.getElem_cons_zero, Act.put, List.setIfInBounds_toArray, List.set_cons_zero, List.set_cons_succ]
    refine wpAnyH_take (i := 22) (v := .agg [.int .i64 sg, .int .i64 ba, .int .i64 st, .int .i64 co, .int .i64 bt, .float .f64 th].toArray) rfl (by kernel_rfl) (by kernel_rfl) (by kernel_rfl) (fun _ _ _ h => h) (yieldsIf_load_mid (by kernel_rfl) 24 _ rfl _ 0 rfl [.int .i64 sg, .int .i64 ba, .int .i64 st, .int .i64 co, .int .i64 bt, .float .f64 th] _ (fun W h => range_row (blk_below HG.out h)) Try.underlying24 rfl (by kernel_rfl)) hHeld ?_
    simp only [List.getElem_toArray, List.getElem_cons_succ, List.getElem_cons_zero, Act.put, List.setIfInBounds_toArray, List.set_cons_zero, List.set_cons_succ]
    refine wpAnyH_ready (rs := [21]) (by kernel_rfl) (by simp) ?_
    refine AllReadyH.cons rfl (fun K hK => ?_) ?_
    case refine_2 => exact AllReadyH.nil
    go_simp
    refine (HLG.out _).mono ?_
    rintro e x21 ⟨rfl, hb⟩
    refine hK.out _ _ (below_step' hHeld hb) (fun hHeld => ?_)
    clear hK K
    try simp only [List.getElem_toArray, List.getElem_cons_succ, List.getElem_cons_zero, Act.put, List.setIfInBounds_toArray, List.set_cons_zero, List.set_cons_succ]
    clear hb
    refine wpAnyH_ready (rs := [23]) (by kernel_rfl) (by simp) ?_
    refine AllReadyH.cons rfl (fun K hK => ?_) ?_
    case refine_2 => exact AllReadyH.nil
    go_simp
    refine (HLG2.out _).mono ?_
    rintro e x23 ⟨rfl, hb⟩
    refine hK.out _ _ (below_step' hHeld hb) (fun hHeld => ?_)
    clear hK K
    try simp only [List.getElem_toArray, List.getElem_cons_succ, List.getElem_cons_zero, Act.put, List.setIfInBounds_toArray, List.set_cons_zero, List.set_cons_succ]
    clear hb
    refine wpAnyH_take (i := 24) (v := .bool true) rfl (by kernel_rfl) (by kernel_rfl) (by kernel_rfl) (fun _ _ _ h => h) (Or.inl ⟨by kernel_rfl, fun W h => by skip; go_simp <;> with_reducible rfl⟩) hHeld ?_
    simp only [List.getElem_toArray, List.getElem_cons_succ, List.getElem_cons_zero, Act.put, List.setIfInBounds_toArray, List.set_cons_zero, List.set_cons_succ]
    refine wpAnyH_take (i := 25) (v := _) rfl (by kernel_rfl) (by kernel_rfl) (by kernel_rfl) (fun _ _ _ h => h) (Or.inl ⟨by kernel_rfl, fun w _ => by go_simp <;> with_reducible rfl⟩) hHeld ?_
    simp only [List.getElem_toArray, List.getElem_cons_succ, List.getElem_cons_zero, Act.put, List.setIfInBounds_toArray, List.set_cons_zero, List.set_cons_succ]
    refine wpAnyH_take (i := 26) (v := _) rfl (by kernel_rfl) (by kernel_rfl) (by kernel_rfl) (fun _ _ _ h => h) (Or.inl ⟨by kernel_rfl, fun w _ => by go_simp <;> with_reducible rfl⟩) hHeld ?_
    simp only [List.getElem_toArray, List.getElem_cons_succ, List.getElem_cons_zero, Act.put, List.setIfInBounds_toArray, List.set_cons_zero, List.set_cons_succ]
    refine wpAnyH_ready (rs := [27]) (by kernel_rfl) (by simp) ?_
    refine AllReadyH.cons rfl (fun K hK => ?_) ?_
    case refine_2 => exact AllReadyH.nil
    go_simp
    refine (HLV.out _).mono ?_
    rintro e x27 ⟨rfl, hb⟩
    refine hK.out _ _ (below_step' hHeld hb) (fun hHeld => ?_)
    clear hK K
    try simp only [List.getElem_toArray, List.getElem_cons_succ, List.getElem_cons_zero, Act.put, List.setIfInBounds_toArray, List.set_cons_zero, List.set_cons_succ]
    clear hb
    refine wpAnyH_take (i := 28) (v := _) rfl (by kernel_rfl) (by kernel_rfl) (by kernel_rfl) (fun _ _ _ h => h) (Or.inl ⟨by kernel_rfl, fun w _ => by go_simp <;> with_reducible rfl⟩) hHeld ?_
    simp only [List.getElem_toArray, List.getElem_cons_succ, List.getElem_cons_zero, Act.put, List.setIfInBounds_toArray, List.set_cons_zero, List.set_cons_succ]
    refine wpAnyH_take (i := 29) (v := _) rfl (by kernel_rfl) (by kernel_rfl) (by kernel_rfl) (fun _ _ _ h => h) (Or.inl ⟨by kernel_rfl, fun w _ => by go_simp <;> with_reducible rfl⟩) hHeld ?_
    simp only [List.getElem_toArray, List.getElem_cons_succ, List.getElem_cons_zero, Act.put, List.setIfInBounds_toArray, List.set_cons_zero, List.set_cons_succ]
    refine wpAnyH_done (by kernel_rfl) ?_ _
    have HB9 := Lib.hid (below_step' HB1.out hHeld)
    go_wp2_with fail
    go_ret
    exact ⟨rfl, HB9.out⟩
end Go.Proofs.Ytdkadeihhgjiaaa.Cf
