/- stillagelaw10: InodeCrash, InodeDoes, InodeLasts. -/
import Derived.Test.YtkgbimkjpllakaaInoL
set_option linter.unusedVariables false
set_option linter.unusedSimpArgs false
namespace Go.Proofs.Ytkgbimkjpllakaa.In
open Go.RowKit Go.Proofs.YtkgbimkjpllakaaW.PrintWords Go.Proofs.Ytkgbimkjpllakaa.B Go.Proofs.Ytkgbimkjpllakaa.O Go.Proofs.Ytkgbimkjpllakaa.Wr Go.Proofs.Ytkgbimkjpllakaa.R01

theorem fk_rd {w : World} {ok : Nat → Prop} {b : List UInt8} {l : List Wt} {A A2 : Option Addr} {c c2 : Nat} (h : Kd.FK kIn w ok (b, l) [.slice A b.length c, .slice A2 l.length c2]) : Rd w A b ∧ RdW w A2 l := by
  obtain ⟨A', c', A2', c2', h1, -, -, h4, h5⟩ := in_cells h
  injection h1 with h1 h6
  injection h6 with h6 h7
  injection h1 with h1
  injection h6 with h6
  subst h1 h6
  exact ⟨h4.rd, h5.rd⟩
theorem ino_f {x : Ino} {n : Nat} {ok : Nat → Prop} {w : World} {e : Ending} {w' : World} (h : InoN x n ok w e w') : ∃ A c A2 c2, e = .returned (.tuple #[.agg #[.slice A x.1.length c, .slice A2 x.2.length c2], .int .i64 n]) ∧ x.1.length ≤ c ∧ x.2.length ≤ c2 ∧ Kd.FK kIn w' (fun k => ok k ∨ w.heap.size ≤ k) x [.slice A x.1.length c, .slice A2 x.2.length c2] ∧ Below w.heap.size w w' := by
  obtain ⟨cs, rfl, hk, hb⟩ := h
  obtain ⟨A, c, A2, c2, h1, h2, h3, h4, h5⟩ := in_cells hk
  have h6 : cs = #[.slice A x.1.length c, .slice A2 x.2.length c2] := Array.toList_inj.1 h1
  subst h6
  exact ⟨A, c, A2, c2, rfl, h2, h3, hk, hb⟩
theorem peak_nil (n : Nat) : peakL n [] = n := rfl
set_option maxRecDepth 100000 in
set_option maxHeartbeats 1600000 in
theorem crash_law (A : Option Addr) (c : Nat) (b : List UInt8) (A2 : Option Addr) (c2 : Nat) (l : List Wt) (Ac : Option Addr) (cc : Nat) (ch : List UInt8) (w : World) (hl : b.length ≤ 140737488355000) (hb : Rd w A b) (hw : RdW w A2 l) (hc : b.length ≤ c) (hcc : ch.length ≤ cc) (hch : Rd w Ac ch) (hchl : ch.length ≤ 140737488355000) :
    Calls Try.prog 7 #[.agg #[.slice A b.length c, .slice A2 l.length c2], .slice Ac ch.length cc] w (Kept (.bool true) w) := by
  have HX := Lib.hid (blk_new w (.cells #[.slice A b.length c, .slice A2 l.length c2] 37))
  have hb1 : Below w.heap.size w (w.alloc (.cells #[.slice A b.length c, .slice A2 l.length c2] 37)) := below_alloc (Below.refl _ _) _
  have HSP := Lib.hid (show (survL b l ch).length ≤ peakL b.length l from (by have := survL_peak l b ch b.length l.length (Nat.le_refl _); rwa [List.take_length] at this))
  have HCR := Lib.hid (fun (W : World) (h : Below w.heap.size w W) => crash_any A c b A2 c2 l Ac cc ch W hl (hb.below h) (Kd.C_below hw h) hc hcc (hch.below h) hchl)
  have HRC := Lib.hid (fun (W : World) (h : Below w.heap.size w W) => refcrash_any A c b A2 c2 l Ac cc ch W hl (hb.below h) (Kd.C_below hw h) hc hcc (fun k => k < w.heap.size) (fun k hk => Nat.lt_of_lt_of_le hk h.size) (FB.below (f_came Kd.heap_scalar hch) h))
  have HRX := Lib.hid (fun (W : World) (h : Below w.heap.size w W) => room_any A c b A2 c2 l W hl (Kd.C_below hw h))
  have hsl := survL_len b l ch
  have hdl : (ch.drop l.length).length ≤ 140737488355000 := by rw [List.length_drop]; omega
  generalize survL b l ch = y at *
  generalize ch.drop l.length = r at *
  generalize peakL b.length l = p at *
  have hyl : y.length ≤ 140737488355000 := by omega
  have hle : (y.length : Int) ≤ (p : Int) := by have := HSP.out; omega
  have HB1 := Lib.hid hb1
  have hcc := fun i => blk_cell HX.out i
  have hz := blk_lt HX.out
  clear hb1 hb hw hch hsl
  go_enter Try.func7, Try.ntmps7
  go_wp2_with fail
  refine (HCR.out _ HB1.out).mono ?_
  rintro e w2 ⟨A3, c3, A4, c4, rfl, hc3, hc4, hr3, hr4, hb⟩
  have HX2 := Lib.hid (blk_below HX.out hb)
  have HB2 := Lib.hid (below_then HB1.out HB1.out.size hb)
  have HR3 := Lib.hid hr3
  have HR4 := Lib.hid hr4
  clear hr3 hr4 hb hcc hz
  have hcc := fun i => blk_cell HX2.out i
  have hz := blk_lt HX2.out
  go_wp2_with (refine wpList_box rfl rfl 37 _ _ rfl rfl #[.slice A3 y.length c3, .slice none 0 0] _ zeroIn rfl rfl rfl infoIn (by simp [Value.oneCell']) ?_)
  have hb2 : Below w2.heap.size w2 (w2.alloc (.cells #[.slice A3 y.length c3, .slice none 0 0] 37)) := below_alloc (Below.refl _ _) _
  refine (HRC.out _ (below_step' HB2.out hb2)).mono ?_
  rintro e w3 ⟨A5, c5, A6, c6, rfl, hc5, hc6, hr5, hr6, hb⟩
  have HB23 := Lib.hid (below_step' hb2 hb)
  have HX3 := Lib.hid (blk_below HX2.out HB23.out)
  have HY3 := Lib.hid (blk_below (blk_new w2 (.cells #[.slice A3 y.length c3, .slice none 0 0] 37)) hb)
  have HR33 := Lib.hid (HR3.out.below HB23.out)
  have HR43 := Lib.hid (HR4.out.below HB23.out)
  have HR5 := Lib.hid hr5
  have HR6 := Lib.hid hr6
  have HB3 := Lib.hid (below_step' HB2.out HB23.out)
  clear hr5 hr6 hb hb2 hcc hz
  have hcc := fun i => blk_cell HX3.out i
  have hz := blk_lt HX3.out
  go_wp2_with (refine wpList_box rfl rfl 37 _ _ rfl rfl #[.slice A5 y.length c5, .slice none 0 0] _ zeroIn rfl rfl rfl infoIn (by simp [Value.oneCell']) ?_)
  obtain ⟨w4, hw4⟩ : ∃ w4, w3.alloc (.cells #[.slice A5 y.length c5, .slice none 0 0] 37) = w4 := ⟨_, rfl⟩
  rw [hw4]
  have hb4 : Below w3.heap.size w3 w4 := hw4 ▸ below_alloc (Below.refl _ _) _
  have HZ4 := Lib.hid (show w4.heap[w3.heap.size]? = some (.cells #[.slice A5 y.length c5, .slice none 0 0] 37 (0, 0)) from hw4 ▸ blk_new w3 _)
  have HX4 := Lib.hid (blk_below HX3.out hb4)
  have HY4 := Lib.hid (blk_below HY3.out hb4)
  have HB4 := Lib.hid (below_step' HB3.out hb4)
  have HR34 := Lib.hid (HR33.out.below hb4)
  have HR44 := Lib.hid (HR43.out.below hb4)
  have HR54 := Lib.hid (HR5.out.below hb4)
  have HR64 := Lib.hid (HR6.out.below hb4)
  clear hw4 hb4 hcc hz
  refine wp_region_held_drew (S := fun W => Below w4.heap.size w4 W) (by kernel_rfl) (below_drew (Below.refl _ _)) (fun hHeld => ?_)
  refine wpAnyH_take (i := 0) (v := .agg (#[.slice A3 y.length c3, .slice none 0 0] : Array Value).toList.toArray) rfl (by kernel_rfl) (by kernel_rfl) (by kernel_rfl) (fun _ _ _ h => h) (yieldsIf_load_mid (by kernel_rfl) 37 _ rfl _ 0 rfl (#[.slice A3 y.length c3, .slice none 0 0] : Array Value).toList _ (fun W h => range_row (blk_below HY4.out h)) Try.underlying37 rfl infoIn) hHeld ?_
  simp only [List.getElem_toArray, List.getElem_cons_succ, List.getElem_cons_zero, Act.put, List.setIfInBounds_toArray, List.set_cons_zero, List.set_cons_succ]
  refine wpAnyH_take (i := 1) (v := .agg (#[.slice A5 y.length c5, .slice none 0 0] : Array Value).toList.toArray) rfl (by kernel_rfl) (by kernel_rfl) (by kernel_rfl) (fun _ _ _ h => h) (yieldsIf_load_mid (by kernel_rfl) 37 _ rfl _ 0 rfl (#[.slice A5 y.length c5, .slice none 0 0] : Array Value).toList _ (fun W h => range_row (blk_below HZ4.out h)) Try.underlying37 rfl infoIn) hHeld ?_
  simp only [List.getElem_toArray, List.getElem_cons_succ, List.getElem_cons_zero, Act.put, List.setIfInBounds_toArray, List.set_cons_zero, List.set_cons_succ]
  refine wpAnyH_ready (rs := [2]) (by kernel_rfl) (by simp) ?_
  refine AllReadyH.cons rfl (fun K hK => ?_) ?_
  case refine_2 => exact AllReadyH.nil
  go_simp
  refine (refsame_any A3 c3 y none 0 [] A5 c5 none 0 _ (HR34.out.below hHeld) (Kd.C_nil kWr _) (HR54.out.below hHeld) (Kd.C_nil kWr _)).mono ?_
  rintro e w5 ⟨rfl, hb⟩
  refine hK.out _ _ (below_step' hHeld hb) (fun hHeld => ?_)
  clear hK K
  try simp only [List.getElem_toArray, List.getElem_cons_succ, List.getElem_cons_zero, Act.put, List.setIfInBounds_toArray, List.set_cons_zero, List.set_cons_succ]
  clear hb
  refine wpAnyH_take (i := 3) (v := _) rfl (by kernel_rfl) (by kernel_rfl) (by kernel_rfl) (fun _ _ _ h => h) (Or.inl ⟨by kernel_rfl, fun w _ => by go_simp <;> with_reducible rfl⟩) hHeld ?_
  simp only [List.getElem_toArray, List.getElem_cons_succ, List.getElem_cons_zero, Act.put, List.setIfInBounds_toArray, List.set_cons_zero, List.set_cons_succ]
  refine wpAnyH_take (i := 4) (v := _) rfl (by kernel_rfl) (by kernel_rfl) (by kernel_rfl) (fun _ _ _ h => h) (Or.inl ⟨by kernel_rfl, fun w _ => by go_simp <;> with_reducible rfl⟩) hHeld ?_
  simp only [List.getElem_toArray, List.getElem_cons_succ, List.getElem_cons_zero, Act.put, List.setIfInBounds_toArray, List.set_cons_zero, List.set_cons_succ]
  refine wpAnyH_take (i := 5) (v := _) rfl (by kernel_rfl) (by kernel_rfl) (by kernel_rfl) (fun _ _ _ h => h) (Or.inl ⟨by kernel_rfl, fun w _ => by go_simp <;> with_reducible rfl⟩) hHeld ?_
  simp only [List.getElem_toArray, List.getElem_cons_succ, List.getElem_cons_zero, Act.put, List.setIfInBounds_toArray, List.set_cons_zero, List.set_cons_succ]
  refine wpAnyH_ready (rs := [6]) (by kernel_rfl) (by simp) ?_
  refine AllReadyH.cons rfl (fun K hK => ?_) ?_
  case refine_2 => exact AllReadyH.nil
  go_simp
  refine (same_yes A4 c4 A6 c6 r _ (by omega) (HR44.out.below hHeld) (HR64.out.below hHeld)).mono ?_
  rintro e w6 ⟨rfl, n, hw6⟩
  refine hK.out _ _ (hw6 ▸ pw_below_drewN hHeld n) (fun hHeld => ?_)
  clear hK K
  try simp only [List.getElem_toArray, List.getElem_cons_succ, List.getElem_cons_zero, Act.put, List.setIfInBounds_toArray, List.set_cons_zero, List.set_cons_succ]
  clear hw6
  refine wpAnyH_take (i := 7) (v := _) rfl (by kernel_rfl) (by kernel_rfl) (by kernel_rfl) (fun _ _ _ h => h) (Or.inl ⟨by kernel_rfl, fun w _ => by go_simp <;> with_reducible rfl⟩) hHeld ?_
  simp only [List.getElem_toArray, List.getElem_cons_succ, List.getElem_cons_zero, Act.put, List.setIfInBounds_toArray, List.set_cons_zero, List.set_cons_succ]
  refine wpAnyH_take (i := 8) (v := _) rfl (by kernel_rfl) (by kernel_rfl) (by kernel_rfl) (fun _ _ _ h => h) (Or.inl ⟨by kernel_rfl, fun w _ => by go_simp <;> with_reducible rfl⟩) hHeld ?_
  simp only [List.getElem_toArray, List.getElem_cons_succ, List.getElem_cons_zero, Act.put, List.setIfInBounds_toArray, List.set_cons_zero, List.set_cons_succ]
  refine wpAnyH_take (i := 9) (v := .agg (#[.slice A3 y.length c3, .slice none 0 0] : Array Value).toList.toArray) rfl (by kernel_rfl) (by kernel_rfl) (by kernel_rfl) (fun _ _ _ h => h) (yieldsIf_load_mid (by kernel_rfl) 37 _ rfl _ 0 rfl (#[.slice A3 y.length c3, .slice none 0 0] : Array Value).toList _ (fun W h => range_row (blk_below HY4.out h)) Try.underlying37 rfl infoIn) hHeld ?_
  simp only [List.getElem_toArray, List.getElem_cons_succ, List.getElem_cons_zero, Act.put, List.setIfInBounds_toArray, List.set_cons_zero, List.set_cons_succ]
  refine wpAnyH_take (i := 11) (v := .agg (#[.slice A b.length c, .slice A2 l.length c2] : Array Value).toList.toArray) rfl (by kernel_rfl) (by kernel_rfl) (by kernel_rfl) (fun _ _ _ h => h) (yieldsIf_load_mid (by kernel_rfl) 37 _ rfl _ 0 rfl (#[.slice A b.length c, .slice A2 l.length c2] : Array Value).toList _ (fun W h => range_row (blk_below HX4.out h)) Try.underlying37 rfl infoIn) hHeld ?_
  simp only [List.getElem_toArray, List.getElem_cons_succ, List.getElem_cons_zero, Act.put, List.setIfInBounds_toArray, List.set_cons_zero, List.set_cons_succ]
  refine wpAnyH_ready (rs := [10]) (by kernel_rfl) (by simp) ?_
  refine AllReadyH.cons rfl (fun K hK => ?_) ?_
  case refine_2 => exact AllReadyH.nil
  go_simp
  refine (room_any A3 c3 y none 0 [] _ hyl (Kd.C_nil kWr _)).mono ?_
  rintro e w7 ⟨rfl, hb⟩
  refine hK.out _ _ (below_step' hHeld hb) (fun hHeld => ?_)
  clear hK K
  try simp only [List.getElem_toArray, List.getElem_cons_succ, List.getElem_cons_zero, Act.put, List.setIfInBounds_toArray, List.set_cons_zero, List.set_cons_succ]
  clear hb
  refine wpAnyH_ready (rs := [12]) (by kernel_rfl) (by simp) ?_
  refine AllReadyH.cons rfl (fun K hK => ?_) ?_
  case refine_2 => exact AllReadyH.nil
  go_simp
  refine (HRX.out _ (below_step' HB4.out hHeld)).mono ?_
  rintro e w8 ⟨rfl, hb⟩
  refine hK.out _ _ (below_step' hHeld hb) (fun hHeld => ?_)
  clear hK K
  try simp only [List.getElem_toArray, List.getElem_cons_succ, List.getElem_cons_zero, Act.put, List.setIfInBounds_toArray, List.set_cons_zero, List.set_cons_succ]
  clear hb
  rw [peak_nil]
  refine wpAnyH_take (i := 13) (v := _) rfl (by kernel_rfl) (by kernel_rfl) (by kernel_rfl) (fun _ _ _ h => h) (Or.inl ⟨by kernel_rfl, fun w _ => by go_simp <;> with_reducible rfl⟩) hHeld ?_
  simp only [List.getElem_toArray, List.getElem_cons_succ, List.getElem_cons_zero, Act.put, List.setIfInBounds_toArray, List.set_cons_zero, List.set_cons_succ]
  refine wpAnyH_take (i := 14) (v := _) rfl (by kernel_rfl) (by kernel_rfl) (by kernel_rfl) (fun _ _ _ h => h) (Or.inl ⟨by kernel_rfl, fun w _ => by go_simp <;> with_reducible rfl⟩) hHeld ?_
  simp only [List.getElem_toArray, List.getElem_cons_succ, List.getElem_cons_zero, Act.put, List.setIfInBounds_toArray, List.set_cons_zero, List.set_cons_succ]
  refine wpAnyH_take (i := 15) (v := _) rfl (by kernel_rfl) (by kernel_rfl) (by kernel_rfl) (fun _ _ _ h => h) (Or.inl ⟨by kernel_rfl, fun w _ => by go_simp <;> with_reducible rfl⟩) hHeld ?_
  simp only [List.getElem_toArray, List.getElem_cons_succ, List.getElem_cons_zero, Act.put, List.setIfInBounds_toArray, List.set_cons_zero, List.set_cons_succ]
  refine wpAnyH_ready (rs := [16]) (by kernel_rfl) (by simp) ?_
  refine AllReadyH.cons rfl (fun K hK => ?_) ?_
  case refine_2 => exact AllReadyH.nil
  go_simp
  refine (lives_any _).mono ?_
  rintro e w9 ⟨rfl, hb⟩
  refine hK.out _ _ (below_step' hHeld hb) (fun hHeld => ?_)
  clear hK K
  try simp only [List.getElem_toArray, List.getElem_cons_succ, List.getElem_cons_zero, Act.put, List.setIfInBounds_toArray, List.set_cons_zero, List.set_cons_succ]
  clear hb
  refine wpAnyH_take (i := 17) (v := _) rfl (by kernel_rfl) (by kernel_rfl) (by kernel_rfl) (fun _ _ _ h => h) (Or.inl ⟨by kernel_rfl, fun w _ => by go_simp <;> with_reducible rfl⟩) hHeld ?_
  simp only [List.getElem_toArray, List.getElem_cons_succ, List.getElem_cons_zero, Act.put, List.setIfInBounds_toArray, List.set_cons_zero, List.set_cons_succ]
  refine wpAnyH_take (i := 18) (v := _) rfl (by kernel_rfl) (by kernel_rfl) (by kernel_rfl) (fun _ _ _ h => h) (Or.inl ⟨by kernel_rfl, fun w _ => by go_simp <;> with_reducible rfl⟩) hHeld ?_
  simp only [List.getElem_toArray, List.getElem_cons_succ, List.getElem_cons_zero, Act.put, List.setIfInBounds_toArray, List.set_cons_zero, List.set_cons_succ]
  refine wpAnyH_done (by kernel_rfl) ?_ _
  have HB9 := Lib.hid hHeld
  go_wp2_with fail
  go_ret
  exact ⟨rfl, below_step' HB4.out HB9.out⟩
set_option maxRecDepth 100000 in
set_option maxHeartbeats 3200000 in
theorem does_law (A : Option Addr) (c : Nat) (b : List UInt8) (A2 : Option Addr) (c2 : Nat) (l : List Wt) (Ad : Option Addr) (cd : Nat) (d : List UInt8) (n : Int) (w : World) (hl : b.length ≤ 140737488355000) (hb : Rd w A b) (hw : RdW w A2 l) (hc : b.length ≤ c) (hc2 : l.length ≤ c2) (hd : Rd w Ad d) (hcd : d.length ≤ cd) (hdl : d.length ≤ 140737488355000) (hn1 : -9223372036854775808 ≤ n) (hn2 : n ≤ 9223372036854775807) (hlen : (l.length + 1) * 40 ≤ 140737488355328) :
    Calls Try.prog 11 #[.agg #[.slice A b.length c, .slice A2 l.length c2], .slice Ad d.length cd, .int .i64 n] w (Kept (.bool true) w) := by
  have HX := Lib.hid (blk_new w (.cells #[.slice A b.length c, .slice A2 l.length c2] 37))
  have hb1 : Below w.heap.size w (w.alloc (.cells #[.slice A b.length c, .slice A2 l.length c2] 37)) := below_alloc (Below.refl _ _) _
  have HFB := Lib.hid (show FB w (fun k => k < w.heap.size) A b from f_came Kd.heap_scalar hb)
  have HFW := Lib.hid (show FW w (fun k => k < w.heap.size) A2 l from f_came heapWr hw)
  have HFD := Lib.hid (show FB w (fun k => k < w.heap.size) Ad d from f_came Kd.heap_scalar hd)
  have HAP := Lib.hid (fun (W : World) (h : Below w.heap.size w W) => append_any A c b A2 c2 l Ad cd d W (fun k => k < w.heap.size) hl (FB.below HFB.out h) (FW.below HFW.out h) (fun k hk => Nat.lt_of_lt_of_le hk h.size) hc hc2 (hd.below h) hdl hlen)
  have HRA := Lib.hid (fun (W : World) (h : Below w.heap.size w W) => refappend_any A c b A2 c2 l Ad cd d W (fun k => k < w.heap.size) hl (FB.below HFB.out h) (FW.below HFW.out h) (fun k hk => Nat.lt_of_lt_of_le hk h.size) hc hc2 (FB.below HFD.out h) hcd hdl hlen)
  have HCU := Lib.hid (fun (W : World) (h : Below w.heap.size w W) => cut_any A c b A2 c2 l n W (fun k => k < w.heap.size) hl (FB.below HFB.out h) (FW.below HFW.out h) (fun k hk => Nat.lt_of_lt_of_le hk h.size) hc hc2 hn1 hn2 hlen)
  have HRC := Lib.hid (fun (W : World) (h : Below w.heap.size w W) => refcut_any A c b A2 c2 l n W (fun k => k < w.heap.size) hl (FB.below HFB.out h) (FW.below HFW.out h) (fun k hk => Nat.lt_of_lt_of_le hk h.size) hc hc2 hn1 hn2 hlen)
  have HAL := Lib.hid (fun (W : World) (h : Below w.heap.size w W) => Wr.refall_any A c b A2 c2 l W hl hc (hb.below h) (Kd.C_below hw h))
  have HNO := Lib.hid (fun (W : World) (h : Below w.heap.size w W) => now_any A c b A2 c2 l W hl hc (hb.below h) (Kd.C_below hw h))
  have HSY := Lib.hid (fun (W : World) (h : Below w.heap.size w W) => sync_any A c b A2 c2 l W hl hc (hb.below h) (Kd.C_below hw h))
  have HRX := Lib.hid (fun (W : World) (h : Below w.heap.size w W) => room_any A c b A2 c2 l W hl (Kd.C_below hw h))
  have HPK := Lib.hid (fun (W : World) (h : Below w.heap.size w W) => Wr.refpeak_any b.length A2 c2 l W (by omega) (Kd.C_below hw h))
  have hal := allL_len b l
  obtain ⟨⟨yb, yl⟩, hy⟩ : ∃ y, appX b l d = y := ⟨_, rfl⟩
  obtain ⟨⟨zb, zl⟩, hz⟩ : ∃ y, cutX b l n = y := ⟨_, rfl⟩
  obtain ⟨e1, he1⟩ : ∃ y, appN b l d = y := ⟨_, rfl⟩
  obtain ⟨e2, he2⟩ : ∃ y, cutN b l n = y := ⟨_, rfl⟩
  obtain ⟨na, hna⟩ : ∃ y, allL b l = y := ⟨_, rfl⟩
  obtain ⟨p, hp⟩ : ∃ y, peakL b.length l = y := ⟨_, rfl⟩
  rw [hy, he1] at HAP HRA
  rw [hz, he2] at HCU HRC
  rw [hna] at HAL HNO HSY hal
  rw [hp] at HRX HPK
  have hnl : na.length ≤ 140737488355000 := by omega
  have hne1 : ((e1 : Int) != (e1 : Int)) = false := by simp
  have hne2 : ((e2 : Int) != (e2 : Int)) = false := by simp
  have hpp : ((p : Int) == (p : Int)) = true := by simp
  have HB1 := Lib.hid hb1
  have hcc := fun i => blk_cell HX.out i
  have hzz := blk_lt HX.out
  clear hb1 hb hw hd hal hy hz he1 he2 hna hp hn1 hn2
  go_enter Try.func11, Try.ntmps11
  go_wp2_with fail
  refine (HAP.out _ HB1.out).mono ?_
  rintro e w2 hI
  obtain ⟨A3, c3, A4, c4, rfl, hc3, hc4, hf, hb⟩ := ino_f hI
  dsimp only at hc3 hc4 hf
  have HX2 := Lib.hid (blk_below HX.out hb)
  have HB2 := Lib.hid (below_then HB1.out HB1.out.size hb)
  have HF3 := Lib.hid hf
  have HB12 := Lib.hid hb
  clear hI hf hb hcc hzz
  have hcc := fun i => blk_cell HX2.out i
  have hzz := blk_lt HX2.out
  go_wp2_with (refine wpList_box rfl rfl 37 _ _ rfl rfl #[.slice A3 yb.length c3, .slice A4 yl.length c4] _ zeroIn rfl rfl rfl infoIn (by simp [Value.oneCell']) ?_)
  obtain ⟨v2, hv2⟩ : ∃ v2, w2.alloc (.cells #[.slice A3 yb.length c3, .slice A4 yl.length c4] 37) = v2 := ⟨_, rfl⟩
  rw [hv2]
  have hb2 : Below w2.heap.size w2 v2 := hv2 ▸ below_alloc (Below.refl _ _) _
  have HY2 := Lib.hid (show v2.heap[w2.heap.size]? = some (.cells #[.slice A3 yb.length c3, .slice A4 yl.length c4] 37 (0, 0)) from hv2 ▸ blk_new w2 _)
  refine (HRA.out _ (below_step' HB2.out hb2)).mono ?_
  rintro e w3 hI
  obtain ⟨A5, c5, A6, c6, rfl, hc5, hc6, hf, hb⟩ := ino_f hI
  dsimp only at hc5 hc6 hf
  have HB23 := Lib.hid (below_step' hb2 hb)
  have HX3 := Lib.hid (blk_below HX2.out HB23.out)
  have HY3 := Lib.hid (blk_below HY2.out hb)
  have HF33 := Lib.hid (Kd.FK_below HF3.out HB23.out)
  have HF5 := Lib.hid hf
  have HB3 := Lib.hid (below_step' HB2.out HB23.out)
  clear hI hf hb hb2 hv2 hcc hzz
  have hcc := fun i => blk_cell HX3.out i
  have hzz := blk_lt HX3.out
  have y0 : w3.cell? ⟨w2.heap.size, 0, none⟩ = some (.slice A3 yb.length c3) := blk_cell HY3.out 0
  have y1 : w3.cell? ⟨w2.heap.size, 1, none⟩ = some (.slice A4 yl.length c4) := blk_cell HY3.out 1
  have hzy := blk_lt HY3.out
  go_wp2_with (refine wpList_box rfl rfl 37 _ _ rfl rfl #[.slice A5 yb.length c5, .slice A6 yl.length c6] _ zeroIn rfl rfl rfl infoIn (by simp [Value.oneCell']) ?_)
  obtain ⟨v3, hv3⟩ : ∃ v3, w3.alloc (.cells #[.slice A5 yb.length c5, .slice A6 yl.length c6] 37) = v3 := ⟨_, rfl⟩
  have hb3 : Below w3.heap.size w3 v3 := hv3 ▸ below_alloc (Below.refl _ _) _
  have HZ3 := Lib.hid (show v3.heap[w3.heap.size]? = some (.cells #[.slice A5 yb.length c5, .slice A6 yl.length c6] 37 (0, 0)) from hv3 ▸ blk_new w3 _)
  have HXv := Lib.hid (blk_below HX3.out hb3)
  have HYv := Lib.hid (blk_below HY3.out hb3)
  have HBv := Lib.hid (below_step' HB3.out hb3)
  have hr3 := fk_rd (Kd.FK_below HF33.out hb3)
  have hr5 := fk_rd (Kd.FK_below HF5.out hb3)
  have HSM := Lib.hid (refsame_any A3 c3 yb A4 c4 yl A5 c5 A6 c6 v3 hr3.1 hr3.2 hr5.1 hr5.2)
  have HV3 := Lib.hid hv3
  clear hv3 hb3 hr3 hr5 hcc hzz
  rw [HV3.out]
  refine HSM.out.mono ?_
  rintro e w4 ⟨rfl, hb⟩
  have HX4 := Lib.hid (blk_below HXv.out hb)
  have HY4 := Lib.hid (blk_below HYv.out hb)
  have HZ4 := Lib.hid (blk_below HZ3.out hb)
  have HB4 := Lib.hid (below_step' HBv.out hb)
  clear hb y0 y1 hzy
  have hcc := fun i => blk_cell HX4.out i
  have hzz := blk_lt HX4.out
  go_wp2_with fail
  refine (HCU.out _ HB4.out).mono ?_
  rintro e w5 hI
  obtain ⟨A7, c7, A8, c8, rfl, hc7, hc8, hf, hb⟩ := ino_f hI
  dsimp only at hc7 hc8 hf
  have HX5 := Lib.hid (blk_below HX4.out hb)
  have HY5 := Lib.hid (blk_below HY4.out hb)
  have HZ5 := Lib.hid (blk_below HZ4.out hb)
  have HB5 := Lib.hid (below_step' HB4.out hb)
  have HF7 := Lib.hid hf
  have hs45 : w4.heap.size ≤ w5.heap.size := hb.size
  have q2 : w.heap.size < w2.heap.size := Nat.lt_of_lt_of_le (by simp) HB12.out.size
  have q3 : w2.heap.size < w3.heap.size := blk_lt HY3.out
  have q4 : w3.heap.size < w4.heap.size := blk_lt HZ4.out
  clear hI hf hb hcc hzz
  obtain ⟨v5, hv5⟩ : ∃ v5, w5.setRow w2.heap.size #[.slice A7 zb.length c7, .slice A8 zl.length c8] = v5 := ⟨_, rfl⟩
  have HY6 := Lib.hid (show v5.heap[w2.heap.size]? = some (.cells #[.slice A7 zb.length c7, .slice A8 zl.length c8] 37 (0, 0)) from hv5 ▸ setRow_heap _ _ _ _ _ _ HY5.out)
  have HX6 := Lib.hid (show v5.heap[w.heap.size]? = some (.cells #[.slice A b.length c, .slice A2 l.length c2] 37 (0, 0)) from hv5 ▸ (setRow_other _ _ _ _ (by omega)).trans HX5.out)
  have HZ6 := Lib.hid (show v5.heap[w3.heap.size]? = some (.cells #[.slice A5 yb.length c5, .slice A6 yl.length c6] 37 (0, 0)) from hv5 ▸ (setRow_other _ _ _ _ (by omega)).trans HZ5.out)
  have HB6 := Lib.hid (show Below w.heap.size w v5 from hv5 ▸ below_setRow HB5.out (by omega) _)
  have HF76 := Lib.hid (show Kd.FK kIn v5 (fun k => k < w.heap.size ∨ w4.heap.size ≤ k) (zb, zl) [.slice A7 zb.length c7, .slice A8 zl.length c8] from hv5 ▸ fk_row HF7.out (fun k hk => by rcases hk with hk | hk; omega; omega) _)
  have hs5 : v5.heap.size = w5.heap.size := by rw [← hv5, size_setRow]
  have hcc : ∀ i, (w5.setRow w2.heap.size #[.slice A7 zb.length c7, .slice A8 zl.length c8]).cell? ⟨w.heap.size, i, none⟩ = (#[.slice A b.length c, .slice A2 l.length c2] : Array Value)[i]? := hv5 ▸ fun i => blk_cell HX6.out i
  have hzz : w.heap.size < (w5.setRow w2.heap.size #[.slice A7 zb.length c7, .slice A8 zl.length c8]).heap.size := hv5 ▸ blk_lt HX6.out
  have HV5 := Lib.hid hv5
  clear hv5
  go_wp2_with (refine wpList_store_row rfl 37 _ _ rfl (w2.heap.size) #[.slice A7 zb.length c7, .slice A8 zl.length c8] rfl rfl 37 _ HY5.out infoIn rfl (by simp [Value.oneCell']) ?_)
  rw [HV5.out]
  refine (HRC.out _ HB6.out).mono ?_
  rintro e w6 hI
  obtain ⟨A9, c9, AA, cA, rfl, hc9, hcA, hf, hb⟩ := ino_f hI
  dsimp only at hc9 hcA hf
  have HX7 := Lib.hid (blk_below HX6.out hb)
  have HY7 := Lib.hid (blk_below HY6.out hb)
  have HZ7 := Lib.hid (blk_below HZ6.out hb)
  have HB7 := Lib.hid (below_step' HB6.out hb)
  have HF9 := Lib.hid hf
  have HF77 := Lib.hid (Kd.FK_below HF76.out hb)
  clear hI hf hb hcc hzz
  obtain ⟨v6, hv6⟩ : ∃ v6, w6.setRow w3.heap.size #[.slice A9 zb.length c9, .slice AA zl.length cA] = v6 := ⟨_, rfl⟩
  have HZ8 := Lib.hid (show v6.heap[w3.heap.size]? = some (.cells #[.slice A9 zb.length c9, .slice AA zl.length cA] 37 (0, 0)) from hv6 ▸ setRow_heap _ _ _ _ _ _ HZ7.out)
  have HX8 := Lib.hid (show v6.heap[w.heap.size]? = some (.cells #[.slice A b.length c, .slice A2 l.length c2] 37 (0, 0)) from hv6 ▸ (setRow_other _ _ _ _ (by omega)).trans HX7.out)
  have HY8 := Lib.hid (show v6.heap[w2.heap.size]? = some (.cells #[.slice A7 zb.length c7, .slice A8 zl.length c8] 37 (0, 0)) from hv6 ▸ (setRow_other _ _ _ _ (by omega)).trans HY7.out)
  have HB8 := Lib.hid (show Below w.heap.size w v6 from hv6 ▸ below_setRow HB7.out (by omega) _)
  have hr7 := fk_rd (show Kd.FK kIn v6 (fun k => k < w.heap.size ∨ w4.heap.size ≤ k) (zb, zl) [.slice A7 zb.length c7, .slice A8 zl.length c8] from hv6 ▸ fk_row HF77.out (fun k hk => by rcases hk with hk | hk; omega; omega) _)
  have hr9 := fk_rd (show Kd.FK kIn v6 (fun k => k < w.heap.size ∨ v5.heap.size ≤ k) (zb, zl) [.slice A9 zb.length c9, .slice AA zl.length cA] from hv6 ▸ fk_row HF9.out (fun k hk => by rcases hk with hk | hk; omega; omega) _)
  have HSN := Lib.hid (refsame_any A7 c7 zb A8 c8 zl A9 c9 AA cA v6 hr7.1 hr7.2 hr9.1 hr9.2)
  have y0 : (w6.setRow w3.heap.size #[.slice A9 zb.length c9, .slice AA zl.length cA]).cell? ⟨w2.heap.size, 0, none⟩ = some (.slice A7 zb.length c7) := hv6 ▸ blk_cell HY8.out 0
  have y1 : (w6.setRow w3.heap.size #[.slice A9 zb.length c9, .slice AA zl.length cA]).cell? ⟨w2.heap.size, 1, none⟩ = some (.slice A8 zl.length c8) := hv6 ▸ blk_cell HY8.out 1
  have z0 : (w6.setRow w3.heap.size #[.slice A9 zb.length c9, .slice AA zl.length cA]).cell? ⟨w3.heap.size, 0, none⟩ = some (.slice A9 zb.length c9) := hv6 ▸ blk_cell HZ8.out 0
  have z1 : (w6.setRow w3.heap.size #[.slice A9 zb.length c9, .slice AA zl.length cA]).cell? ⟨w3.heap.size, 1, none⟩ = some (.slice AA zl.length cA) := hv6 ▸ blk_cell HZ8.out 1
  have hzy : w2.heap.size < (w6.setRow w3.heap.size #[.slice A9 zb.length c9, .slice AA zl.length cA]).heap.size := hv6 ▸ blk_lt HY8.out
  have hzz : w3.heap.size < (w6.setRow w3.heap.size #[.slice A9 zb.length c9, .slice AA zl.length cA]).heap.size := hv6 ▸ blk_lt HZ8.out
  have HV6 := Lib.hid hv6
  clear hv6 hr7 hr9
  go_wp2_with (refine wpList_store_row rfl 37 _ _ rfl (w3.heap.size) #[.slice A9 zb.length c9, .slice AA zl.length cA] rfl rfl 37 _ HZ7.out infoIn rfl (by simp [Value.oneCell']) ?_)
  rw [HV6.out]
  refine HSN.out.mono ?_
  rintro e w7 ⟨rfl, hb⟩
  have HX9 := Lib.hid (blk_below HX8.out hb)
  have HB9 := Lib.hid (below_step' HB8.out hb)
  clear hb y0 y1 hzy z0 z1 hzz
  have hcc := fun i => blk_cell HX9.out i
  have hzz := blk_lt HX9.out
  go_wp2_with fail
  refine (HAL.out _ HB9.out).mono ?_
  rintro e w8 ⟨v8, rfl, hown, hb⟩
  obtain ⟨AN, cN, rfl, hcN, hrn⟩ := hown.reads
  have HXa := Lib.hid (blk_below HX9.out hb)
  have HBa := Lib.hid (below_step' HB9.out hb)
  have HRN := Lib.hid hrn
  clear hown hrn hb hcc hzz
  go_wp2_with fail
  refine wp_region_held_drew (S := fun W => Below w8.heap.size w8 W) (by kernel_rfl) (below_drew (Below.refl _ _)) (fun hHeld => ?_)
  refine wpAnyH_take (i := 0) (v := .agg (#[.slice A b.length c, .slice A2 l.length c2] : Array Value).toList.toArray) rfl (by kernel_rfl) (by kernel_rfl) (by kernel_rfl) (fun _ _ _ h => h) (yieldsIf_load_mid (by kernel_rfl) 37 _ rfl _ 0 rfl (#[.slice A b.length c, .slice A2 l.length c2] : Array Value).toList _ (fun W h => range_row (blk_below HXa.out h)) Try.underlying37 rfl infoIn) hHeld ?_
  simp only [List.getElem_toArray, List.getElem_cons_succ, List.getElem_cons_zero, Act.put, List.setIfInBounds_toArray, List.set_cons_zero, List.set_cons_succ]
  refine wpAnyH_take (i := 2) (v := _) rfl (by kernel_rfl) (by kernel_rfl) (by kernel_rfl) (fun _ _ _ h => h) (Or.inl ⟨by kernel_rfl, fun w _ => by go_simp <;> with_reducible rfl⟩) hHeld ?_
  simp only [List.getElem_toArray, List.getElem_cons_succ, List.getElem_cons_zero, Act.put, List.setIfInBounds_toArray, List.set_cons_zero, List.set_cons_succ]
  refine wpAnyH_ready (rs := [1]) (by kernel_rfl) (by simp) ?_
  refine AllReadyH.cons rfl (fun K hK => ?_) ?_
  case refine_2 => exact AllReadyH.nil
  go_simp
  refine (HNO.out _ (below_step' HBa.out hHeld)).mono ?_
  rintro e x1 ⟨v1, rfl, hown, hb⟩
  obtain ⟨AM, cM, rfl, hcM, hrm⟩ := hown.reads
  have HRM := Lib.hid hrm
  refine hK.out _ _ (below_step' hHeld hb) (fun hHeld => ?_)
  clear hK K
  try simp only [List.getElem_toArray, List.getElem_cons_succ, List.getElem_cons_zero, Act.put, List.setIfInBounds_toArray, List.set_cons_zero, List.set_cons_succ]
  clear hown hb hrm
  refine wpAnyH_ready (rs := [3]) (by kernel_rfl) (by simp) ?_
  refine AllReadyH.cons rfl (fun K hK => ?_) ?_
  case refine_2 => exact AllReadyH.nil
  go_simp
  refine (same_yes AM cM AN cN na _ (by omega) HRM.out (HRN.out.below hHeld)).mono ?_
  rintro e x2 ⟨rfl, n2, hx2⟩
  refine hK.out _ _ (hx2 ▸ pw_below_drewN hHeld n2) (fun hHeld => ?_)
  clear hK K
  try simp only [List.getElem_toArray, List.getElem_cons_succ, List.getElem_cons_zero, Act.put, List.setIfInBounds_toArray, List.set_cons_zero, List.set_cons_succ]
  clear hx2
  refine wpAnyH_take (i := 4) (v := _) rfl (by kernel_rfl) (by kernel_rfl) (by kernel_rfl) (fun _ _ _ h => h) (Or.inl ⟨by kernel_rfl, fun w _ => by go_simp <;> with_reducible rfl⟩) hHeld ?_
  simp only [List.getElem_toArray, List.getElem_cons_succ, List.getElem_cons_zero, Act.put, List.setIfInBounds_toArray, List.set_cons_zero, List.set_cons_succ]
  refine wpAnyH_take (i := 5) (v := .agg (#[.slice A b.length c, .slice A2 l.length c2] : Array Value).toList.toArray) rfl (by kernel_rfl) (by kernel_rfl) (by kernel_rfl) (fun _ _ _ h => h) (yieldsIf_load_mid (by kernel_rfl) 37 _ rfl _ 0 rfl (#[.slice A b.length c, .slice A2 l.length c2] : Array Value).toList _ (fun W h => range_row (blk_below HXa.out h)) Try.underlying37 rfl infoIn) hHeld ?_
  simp only [List.getElem_toArray, List.getElem_cons_succ, List.getElem_cons_zero, Act.put, List.setIfInBounds_toArray, List.set_cons_zero, List.set_cons_succ]
  refine wpAnyH_take (i := 7) (v := _) rfl (by kernel_rfl) (by kernel_rfl) (by kernel_rfl) (fun _ _ _ h => h) (Or.inl ⟨by kernel_rfl, fun w _ => by go_simp <;> with_reducible rfl⟩) hHeld ?_
  simp only [List.getElem_toArray, List.getElem_cons_succ, List.getElem_cons_zero, Act.put, List.setIfInBounds_toArray, List.set_cons_zero, List.set_cons_succ]
  refine wpAnyH_take (i := 8) (v := _) rfl (by kernel_rfl) (by kernel_rfl) (by kernel_rfl) (fun _ _ _ h => h) (Or.inl ⟨by kernel_rfl, fun w _ => by go_simp <;> with_reducible rfl⟩) hHeld ?_
  simp only [List.getElem_toArray, List.getElem_cons_succ, List.getElem_cons_zero, Act.put, List.setIfInBounds_toArray, List.set_cons_zero, List.set_cons_succ]
  refine wpAnyH_ready (rs := [6]) (by kernel_rfl) (by simp) ?_
  refine AllReadyH.cons rfl (fun K hK => ?_) ?_
  case refine_2 => exact AllReadyH.nil
  go_simp
  refine (HSY.out _ (below_step' HBa.out hHeld)).mono ?_
  rintro e x3 ⟨cs3, rfl, hf, hb⟩
  obtain ⟨AO, cO, AP, cP, he, hcO, hcP, hrO, hrP⟩ := in_cells hf
  obtain rfl : cs3 = #[.slice AO na.length cO, .slice AP 0 cP] := Array.toList_inj.1 he
  have HRO := Lib.hid hrO.rd
  have HRP := Lib.hid hrP.rd
  refine hK.out _ _ (below_step' hHeld hb) (fun hHeld => ?_)
  clear hK K
  try simp only [List.getElem_toArray, List.getElem_cons_succ, List.getElem_cons_zero, Act.put, List.setIfInBounds_toArray, List.set_cons_zero, List.set_cons_succ]
  clear hf hb he hrO hrP
  refine wpAnyH_ready (rs := [9]) (by kernel_rfl) (by simp) ?_
  refine AllReadyH.cons rfl (fun K hK => ?_) ?_
  case refine_2 => exact AllReadyH.nil
  go_simp
  refine (refsame_any AO cO na AP cP [] AN cN none 0 _ HRO.out HRP.out (HRN.out.below hHeld) (Kd.C_nil kWr _)).mono ?_
  rintro e x4 ⟨rfl, hb⟩
  refine hK.out _ _ (below_step' hHeld hb) (fun hHeld => ?_)
  clear hK K
  try simp only [List.getElem_toArray, List.getElem_cons_succ, List.getElem_cons_zero, Act.put, List.setIfInBounds_toArray, List.set_cons_zero, List.set_cons_succ]
  clear hb
  refine wpAnyH_take (i := 10) (v := _) rfl (by kernel_rfl) (by kernel_rfl) (by kernel_rfl) (fun _ _ _ h => h) (Or.inl ⟨by kernel_rfl, fun w _ => by go_simp <;> with_reducible rfl⟩) hHeld ?_
  simp only [List.getElem_toArray, List.getElem_cons_succ, List.getElem_cons_zero, Act.put, List.setIfInBounds_toArray, List.set_cons_zero, List.set_cons_succ]
  refine wpAnyH_take (i := 11) (v := _) rfl (by kernel_rfl) (by kernel_rfl) (by kernel_rfl) (fun _ _ _ h => h) (Or.inl ⟨by kernel_rfl, fun w _ => by go_simp <;> with_reducible rfl⟩) hHeld ?_
  simp only [List.getElem_toArray, List.getElem_cons_succ, List.getElem_cons_zero, Act.put, List.setIfInBounds_toArray, List.set_cons_zero, List.set_cons_succ]
  refine wpAnyH_take (i := 12) (v := .agg (#[.slice A b.length c, .slice A2 l.length c2] : Array Value).toList.toArray) rfl (by kernel_rfl) (by kernel_rfl) (by kernel_rfl) (fun _ _ _ h => h) (yieldsIf_load_mid (by kernel_rfl) 37 _ rfl _ 0 rfl (#[.slice A b.length c, .slice A2 l.length c2] : Array Value).toList _ (fun W h => range_row (blk_below HXa.out h)) Try.underlying37 rfl infoIn) hHeld ?_
  simp only [List.getElem_toArray, List.getElem_cons_succ, List.getElem_cons_zero, Act.put, List.setIfInBounds_toArray, List.set_cons_zero, List.set_cons_succ]
  refine wpAnyH_take (i := 14) (v := _) rfl (by kernel_rfl) (by kernel_rfl) (by kernel_rfl) (fun _ _ _ h => h) (Or.inl ⟨by kernel_rfl, fun w _ => by go_simp <;> with_reducible rfl⟩) hHeld ?_
  simp only [List.getElem_toArray, List.getElem_cons_succ, List.getElem_cons_zero, Act.put, List.setIfInBounds_toArray, List.set_cons_zero, List.set_cons_succ]
  refine wpAnyH_take (i := 15) (v := .slice A b.length c) rfl (by kernel_rfl) (by kernel_rfl) (by kernel_rfl) (fun _ _ _ h => h) (Or.inl ⟨by kernel_rfl, fun W h => by have q0 : W.cell? ⟨w.heap.size, 0, none⟩ = some (.slice A b.length c) := blk_cell (blk_below HXa.out h) 0; go_simp <;> with_reducible rfl⟩) hHeld ?_
  simp only [List.getElem_toArray, List.getElem_cons_succ, List.getElem_cons_zero, Act.put, List.setIfInBounds_toArray, List.set_cons_zero, List.set_cons_succ]
  refine wpAnyH_take (i := 16) (v := _) rfl (by kernel_rfl) (by kernel_rfl) (by kernel_rfl) (fun _ _ _ h => h) (Or.inl ⟨by kernel_rfl, fun w _ => by go_simp <;> with_reducible rfl⟩) hHeld ?_
  simp only [List.getElem_toArray, List.getElem_cons_succ, List.getElem_cons_zero, Act.put, List.setIfInBounds_toArray, List.set_cons_zero, List.set_cons_succ]
  refine wpAnyH_take (i := 17) (v := _) rfl (by kernel_rfl) (by kernel_rfl) (by kernel_rfl) (fun _ _ _ h => h) (Or.inl ⟨by kernel_rfl, fun w _ => by go_simp <;> with_reducible rfl⟩) hHeld ?_
  simp only [List.getElem_toArray, List.getElem_cons_succ, List.getElem_cons_zero, Act.put, List.setIfInBounds_toArray, List.set_cons_zero, List.set_cons_succ]
  refine wpAnyH_take (i := 18) (v := .slice A2 l.length c2) rfl (by kernel_rfl) (by kernel_rfl) (by kernel_rfl) (fun _ _ _ h => h) (Or.inl ⟨by kernel_rfl, fun W h => by have q0 : W.cell? ⟨w.heap.size, 1, none⟩ = some (.slice A2 l.length c2) := blk_cell (blk_below HXa.out h) 1; go_simp <;> with_reducible rfl⟩) hHeld ?_
  simp only [List.getElem_toArray, List.getElem_cons_succ, List.getElem_cons_zero, Act.put, List.setIfInBounds_toArray, List.set_cons_zero, List.set_cons_succ]
  refine wpAnyH_ready (rs := [13]) (by kernel_rfl) (by simp) ?_
  refine AllReadyH.cons rfl (fun K hK => ?_) ?_
  case refine_2 => exact AllReadyH.nil
  go_simp
  refine (HRX.out _ (below_step' HBa.out hHeld)).mono ?_
  rintro e x5 ⟨rfl, hb⟩
  refine hK.out _ _ (below_step' hHeld hb) (fun hHeld => ?_)
  clear hK K
  try simp only [List.getElem_toArray, List.getElem_cons_succ, List.getElem_cons_zero, Act.put, List.setIfInBounds_toArray, List.set_cons_zero, List.set_cons_succ]
  clear hb
  refine wpAnyH_ready (rs := [19]) (by kernel_rfl) (by simp) ?_
  refine AllReadyH.cons rfl (fun K hK => ?_) ?_
  case refine_2 => exact AllReadyH.nil
  go_simp
  refine (HPK.out _ (below_step' HBa.out hHeld)).mono ?_
  rintro e x6 ⟨rfl, hb⟩
  refine hK.out _ _ (below_step' hHeld hb) (fun hHeld => ?_)
  clear hK K
  try simp only [List.getElem_toArray, List.getElem_cons_succ, List.getElem_cons_zero, Act.put, List.setIfInBounds_toArray, List.set_cons_zero, List.set_cons_succ]
  clear hb
  refine wpAnyH_take (i := 20) (v := _) rfl (by kernel_rfl) (by kernel_rfl) (by kernel_rfl) (fun _ _ _ h => h) (Or.inl ⟨by kernel_rfl, fun w _ => by go_simp <;> with_reducible rfl⟩) hHeld ?_
  simp only [List.getElem_toArray, List.getElem_cons_succ, List.getElem_cons_zero, Act.put, List.setIfInBounds_toArray, List.set_cons_zero, List.set_cons_succ]
  refine wpAnyH_take (i := 21) (v := _) rfl (by kernel_rfl) (by kernel_rfl) (by kernel_rfl) (fun _ _ _ h => h) (Or.inl ⟨by kernel_rfl, fun w _ => by go_simp <;> with_reducible rfl⟩) hHeld ?_
  simp only [List.getElem_toArray, List.getElem_cons_succ, List.getElem_cons_zero, Act.put, List.setIfInBounds_toArray, List.set_cons_zero, List.set_cons_succ]
  refine wpAnyH_take (i := 22) (v := _) rfl (by kernel_rfl) (by kernel_rfl) (by kernel_rfl) (fun _ _ _ h => h) (Or.inl ⟨by kernel_rfl, fun w _ => by go_simp <;> with_reducible rfl⟩) hHeld ?_
  simp only [List.getElem_toArray, List.getElem_cons_succ, List.getElem_cons_zero, Act.put, List.setIfInBounds_toArray, List.set_cons_zero, List.set_cons_succ]
  refine wpAnyH_ready (rs := [23]) (by kernel_rfl) (by simp) ?_
  refine AllReadyH.cons rfl (fun K hK => ?_) ?_
  case refine_2 => exact AllReadyH.nil
  go_simp
  refine (lives_any _).mono ?_
  rintro e x7 ⟨rfl, hb⟩
  refine hK.out _ _ (below_step' hHeld hb) (fun hHeld => ?_)
  clear hK K
  try simp only [List.getElem_toArray, List.getElem_cons_succ, List.getElem_cons_zero, Act.put, List.setIfInBounds_toArray, List.set_cons_zero, List.set_cons_succ]
  clear hb
  refine wpAnyH_take (i := 24) (v := _) rfl (by kernel_rfl) (by kernel_rfl) (by kernel_rfl) (fun _ _ _ h => h) (Or.inl ⟨by kernel_rfl, fun w _ => by go_simp <;> with_reducible rfl⟩) hHeld ?_
  simp only [List.getElem_toArray, List.getElem_cons_succ, List.getElem_cons_zero, Act.put, List.setIfInBounds_toArray, List.set_cons_zero, List.set_cons_succ]
  refine wpAnyH_take (i := 25) (v := _) rfl (by kernel_rfl) (by kernel_rfl) (by kernel_rfl) (fun _ _ _ h => h) (Or.inl ⟨by kernel_rfl, fun w _ => by go_simp <;> with_reducible rfl⟩) hHeld ?_
  simp only [List.getElem_toArray, List.getElem_cons_succ, List.getElem_cons_zero, Act.put, List.setIfInBounds_toArray, List.set_cons_zero, List.set_cons_succ]
  refine wpAnyH_done (by kernel_rfl) ?_ _
  have HBz := Lib.hid hHeld
  go_wp2_with fail
  go_ret
  exact ⟨rfl, below_step' HBa.out HBz.out⟩
end Go.Proofs.Ytkgbimkjpllakaa.In
