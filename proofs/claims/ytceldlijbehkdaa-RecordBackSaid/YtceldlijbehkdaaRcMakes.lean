/- law14: RecordMakes. -/
import Derived.Test.YtceldlijbehkdaaRcRow
set_option linter.unusedVariables false
set_option linter.unusedSimpArgs false
namespace Go.Proofs.Ytceldlijbehkdaa.Rc
open Go.RowKit Go.Proofs.YtceldlijbehkdaaW.PrintWords Go.Proofs.Ytceldlijbehkdaa.B Go.Proofs.Ytceldlijbehkdaa.Fx Go.Proofs.Ytceldlijbehkdaa.Fr
theorem infoLoc : (Try.prog.info? 44).map (·.size) = some 3 := by kernel_rfl
set_option maxRecDepth 100000 in
set_option maxHeartbeats 6400000 in
theorem makes_any (X : Array Value) (k : Int) (s : Nat) (d : List UInt8) (nm : ByteArray) (A : Option Addr) (l : List UInt8) (c : Nat) (n z l1 l2 l3 : Int) (w : World) (hX : RecF X k s d nm A l.length c n z) (hr : Rd w A l) (hs : s < 18446744073709551616) (hnm : nm.size ≤ 140737488355328) (hll : l.length ≤ 140737488355328) (hzb : -9223372036854775808 ≤ z ∧ z ≤ 9223372036854775807) :
    Calls Try.prog 6 #[.agg X, .agg #[.int .i64 l1, .int .i64 l2, .int .i64 l3]] w (Kept (.bool true) w) := by
  obtain ⟨w1, hw1⟩ : ∃ w1, (w.alloc (.cells X 27)).alloc (.cells #[.int .i64 l1, .int .i64 l2, .int .i64 l3] 44) = w1 := ⟨_, rfl⟩
  obtain ⟨hg, hz, hb0⟩ := run_blk2 w X #[.int .i64 l1, .int .i64 l2, .int .i64 l3] 27 44
  rw [hw1] at hg hz hb0
  have HG := Lib.hid hg
  have HL := Lib.hid hz
  have HB1 := Lib.hid hb0
  have HXI := Lib.hid hX.info
  have HXL := Lib.hid hX.infoL
  have HR := Lib.hid (hr.below hb0)
  have hml := makeR_len (k := k) (s := s) (nm := nm.data.toList) (l := l) (n := n) (z := z) hX.dl
  have HM1 := Lib.hid (fun (W : World) (h : Rd W A l) => make_any X k s d nm A l c n z W hX h hs hnm)
  have HM2 := Lib.hid (fun (W : World) (h : Rd W A l) => refmake_any X k s d nm A l c n z W hX h hs hnm)
  have HRT1 := Lib.hid (fun (W : World) => right_any X k s d nm A l.length c n z W hX (by omega) hnm)
  have HRT2 := Lib.hid (fun (W : World) => refright_any X k s d nm A l.length c n z W hX (by omega) hnm)
  have HSZ := Lib.hid (fun (W : World) (h : Rd W A l) => size_any X k s d nm A l c n z W hX h hs hnm)
  have HW1 := Lib.hid (fun (W : World) => word_any k X s d nm A l c n z l1 l2 l3 W hX)
  have HW2 := Lib.hid (fun (W : World) => refword_any k X s d nm A l c n z l1 l2 l3 W hX (by omega) hzb)
  have HLO := Lib.hid (show (Try.prog.info? 44).map (·.size) = some (#[.int .i64 l1, .int .i64 l2, .int .i64 l3] : Array Value).toList.length from infoLoc)
  clear hg hz hb0 hr hs hnm hzb hll hX
  generalize makeR k s d nm.data.toList l n z = m at *
  generalize rightE k l.length nm.data.toList n z = er at *
  go_enter Try.func6, Try.ntmps6
  go_wp2_with (refine wpList_load_row rfl 27 (.tmp 2) rfl w.heap.size rfl 27 X (0, 0) _ HG.out Try.underlying27 rfl HXI.out ?_)
  refine (HM1.out w1 HR.out).mono ?_
  rintro e w2 ⟨v2, rfl, ho, hb⟩
  obtain ⟨A2, c2, rfl, hc2, hr2⟩ := ho.reads
  have HR2 := Lib.hid (HR.out.below hb)
  have HG2 := Lib.hid (blk_below HG.out hb)
  have HL2 := Lib.hid (blk_below HL.out hb)
  have HB2 := Lib.hid (below_step' HB1.out hb)
  have HQ2 := Lib.hid hr2
  clear ho hb hr2 hw1
  go_wp2_with (refine wpList_load_row rfl 27 (.tmp 2) rfl w.heap.size rfl 27 X (0, 0) _ HG2.out Try.underlying27 rfl HXI.out ?_)
  refine (HM2.out w2 HR2.out).mono ?_
  rintro e w3 ⟨v3, rfl, ho, hb⟩
  obtain ⟨A3, c3, rfl, hc3, hr3⟩ := ho.reads
  have HR3 := Lib.hid (HR2.out.below hb)
  have HG3 := Lib.hid (blk_below HG2.out hb)
  have HL3 := Lib.hid (blk_below HL2.out hb)
  have HB3 := Lib.hid (below_step' HB2.out hb)
  have HQ23 := Lib.hid (HQ2.out.below hb)
  have HQ3 := Lib.hid hr3
  clear ho hb hr3
  have HSM := Lib.hid (fun (W : World) (h1 : Rd W A2 m) (h2 : Rd W A3 m) => (show Calls Try.prog 21 #[.slice A2 m.length c2, .slice A3 m.length c3] W (Quiet (.bool true) W) from by have h := R01.same_any A2 c2 m A3 c3 m W (by omega) h1 h2; rwa [show R01.sameB m m = true from decide_eq_true rfl] at h))
  go_wp2_with fail
  have hx0 : Below w3.heap.size w3 w3.drew := below_drew (Below.refl _ _)
  refine wp_region_held_drew (S := fun W => Below w3.heap.size w3 W) (by kernel_rfl) hx0 (fun hHeld => ?_)
  refine wpAnyH_take (i := 0) (v := _) rfl (by kernel_rfl) (by kernel_rfl) (by kernel_rfl) (fun _ _ _ h => h) (Or.inl ⟨by kernel_rfl, fun w _ => by go_simp <;> with_reducible rfl⟩) hHeld ?_
  simp only [List.getElem_toArray, List.getElem_cons_succ, List.getElem_cons_zero, Act.put, List.setIfInBounds_toArray, List.set_cons_zero, List.set_cons_succ]
  refine wpAnyH_take (i := 1) (v := _) rfl (by kernel_rfl) (by kernel_rfl) (by kernel_rfl) (fun _ _ _ h => h) (Or.inl ⟨by kernel_rfl, fun w _ => by go_simp <;> with_reducible rfl⟩) hHeld ?_
  simp only [List.getElem_toArray, List.getElem_cons_succ, List.getElem_cons_zero, Act.put, List.setIfInBounds_toArray, List.set_cons_zero, List.set_cons_succ]
  refine wpAnyH_ready (rs := [2]) (by kernel_rfl) (by simp) ?_
  refine AllReadyH.cons rfl (fun K hK => ?_) ?_
  case refine_2 => exact AllReadyH.nil
  go_simp
  refine (HSM.out _ (HQ23.out.below hHeld) (HQ3.out.below hHeld)).mono ?_
  rintro e x2 ⟨rfl, q2, hx2⟩
  refine hK.out _ _ (hx2 ▸ pw_below_drewN hHeld q2) (fun hHeld => ?_)
  clear hK K
  try simp only [List.getElem_toArray, List.getElem_cons_succ, List.getElem_cons_zero, Act.put, List.setIfInBounds_toArray, List.set_cons_zero, List.set_cons_succ]
  clear hx2
  refine wpAnyH_take (i := 3) (v := _) rfl (by kernel_rfl) (by kernel_rfl) (by kernel_rfl) (fun _ _ _ h => h) (Or.inl ⟨by kernel_rfl, fun w _ => by go_simp <;> with_reducible rfl⟩) hHeld ?_
  simp only [List.getElem_toArray, List.getElem_cons_succ, List.getElem_cons_zero, Act.put, List.setIfInBounds_toArray, List.set_cons_zero, List.set_cons_succ]
  refine wpAnyH_take (i := 4) (v := _) rfl (by kernel_rfl) (by kernel_rfl) (by kernel_rfl) (fun _ _ _ h => h) (Or.inl ⟨by kernel_rfl, fun w _ => by go_simp <;> with_reducible rfl⟩) hHeld ?_
  simp only [List.getElem_toArray, List.getElem_cons_succ, List.getElem_cons_zero, Act.put, List.setIfInBounds_toArray, List.set_cons_zero, List.set_cons_succ]
  refine wpAnyH_take (i := 5) (v := _) rfl (by kernel_rfl) (by kernel_rfl) (by kernel_rfl) (fun _ _ _ h => h) (Or.inl ⟨by kernel_rfl, fun w _ => by go_simp <;> with_reducible rfl⟩) hHeld ?_
  simp only [List.getElem_toArray, List.getElem_cons_succ, List.getElem_cons_zero, Act.put, List.setIfInBounds_toArray, List.set_cons_zero, List.set_cons_succ]
  refine wpAnyH_take (i := 6) (v := _) rfl (by kernel_rfl) (by kernel_rfl) (by kernel_rfl) (fun _ _ _ h => h) (Or.inl ⟨by kernel_rfl, fun w _ => by go_simp <;> with_reducible rfl⟩) hHeld ?_
  simp only [List.getElem_toArray, List.getElem_cons_succ, List.getElem_cons_zero, Act.put, List.setIfInBounds_toArray, List.set_cons_zero, List.set_cons_succ]
  refine wpAnyH_take (i := 7) (v := _) rfl (by kernel_rfl) (by kernel_rfl) (by kernel_rfl) (fun _ _ _ h => h) (Or.inl ⟨by kernel_rfl, fun w _ => by go_simp <;> with_reducible rfl⟩) hHeld ?_
  simp only [List.getElem_toArray, List.getElem_cons_succ, List.getElem_cons_zero, Act.put, List.setIfInBounds_toArray, List.set_cons_zero, List.set_cons_succ]
  refine wpAnyH_take (i := 8) (v := _) rfl (by kernel_rfl) (by kernel_rfl) (by kernel_rfl) (fun _ _ _ h => h) (Or.inl ⟨by kernel_rfl, fun w _ => by go_simp <;> with_reducible rfl⟩) hHeld ?_
  simp only [List.getElem_toArray, List.getElem_cons_succ, List.getElem_cons_zero, Act.put, List.setIfInBounds_toArray, List.set_cons_zero, List.set_cons_succ]
  refine wpAnyH_take (i := 9) (v := .agg X.toList.toArray) rfl (by kernel_rfl) (by kernel_rfl) (by kernel_rfl) (fun _ _ _ h => h) (yieldsIf_load_mid (by kernel_rfl) 27 _ rfl _ 0 rfl X.toList _ (fun W h => range_row (blk_below HG3.out h)) Try.underlying27 rfl HXL.out) hHeld ?_
  simp only [List.getElem_toArray, List.getElem_cons_succ, List.getElem_cons_zero, Act.put, List.setIfInBounds_toArray, List.set_cons_zero, List.set_cons_succ]
  refine wpAnyH_take (i := 11) (v := .agg X.toList.toArray) rfl (by kernel_rfl) (by kernel_rfl) (by kernel_rfl) (fun _ _ _ h => h) (yieldsIf_load_mid (by kernel_rfl) 27 _ rfl _ 0 rfl X.toList _ (fun W h => range_row (blk_below HG3.out h)) Try.underlying27 rfl HXL.out) hHeld ?_
  simp only [List.getElem_toArray, List.getElem_cons_succ, List.getElem_cons_zero, Act.put, List.setIfInBounds_toArray, List.set_cons_zero, List.set_cons_succ]
  refine wpAnyH_ready (rs := [10]) (by kernel_rfl) (by simp) ?_
  refine AllReadyH.cons rfl (fun K hK => ?_) ?_
  case refine_2 => exact AllReadyH.nil
  go_simp
  refine (HRT1.out _).mono ?_
  rintro e x3 ⟨rfl, hb⟩
  refine hK.out _ _ (below_step' hHeld hb) (fun hHeld => ?_)
  clear hK K
  try simp only [List.getElem_toArray, List.getElem_cons_succ, List.getElem_cons_zero, Act.put, List.setIfInBounds_toArray, List.set_cons_zero, List.set_cons_succ]
  clear hb
  refine wpAnyH_ready (rs := [12]) (by kernel_rfl) (by simp) ?_
  refine AllReadyH.cons rfl (fun K hK => ?_) ?_
  case refine_2 => exact AllReadyH.nil
  go_simp
  refine (HRT2.out _).mono ?_
  rintro e x4 ⟨rfl, hb⟩
  refine hK.out _ _ (below_step' hHeld hb) (fun hHeld => ?_)
  clear hK K
  try simp only [List.getElem_toArray, List.getElem_cons_succ, List.getElem_cons_zero, Act.put, List.setIfInBounds_toArray, List.set_cons_zero, List.set_cons_succ]
  clear hb
  refine wpAnyH_take (i := 13) (v := _) rfl (by kernel_rfl) (by kernel_rfl) (by kernel_rfl) (fun _ _ _ h => h) (Or.inl ⟨by kernel_rfl, fun w _ => by go_simp <;> with_reducible rfl⟩) hHeld ?_
  simp only [List.getElem_toArray, List.getElem_cons_succ, List.getElem_cons_zero, Act.put, List.setIfInBounds_toArray, List.set_cons_zero, List.set_cons_succ]
  refine wpAnyH_take (i := 14) (v := _) rfl (by kernel_rfl) (by kernel_rfl) (by kernel_rfl) (fun _ _ _ h => h) (Or.inl ⟨by kernel_rfl, fun w _ => by go_simp <;> with_reducible rfl⟩) hHeld ?_
  simp only [List.getElem_toArray, List.getElem_cons_succ, List.getElem_cons_zero, Act.put, List.setIfInBounds_toArray, List.set_cons_zero, List.set_cons_succ]
  refine wpAnyH_take (i := 15) (v := _) rfl (by kernel_rfl) (by kernel_rfl) (by kernel_rfl) (fun _ _ _ h => h) (Or.inl ⟨by kernel_rfl, fun w _ => by go_simp <;> with_reducible rfl⟩) hHeld ?_
  simp only [List.getElem_toArray, List.getElem_cons_succ, List.getElem_cons_zero, Act.put, List.setIfInBounds_toArray, List.set_cons_zero, List.set_cons_succ]
  refine wpAnyH_take (i := 16) (v := .agg X.toList.toArray) rfl (by kernel_rfl) (by kernel_rfl) (by kernel_rfl) (fun _ _ _ h => h) (yieldsIf_load_mid (by kernel_rfl) 27 _ rfl _ 0 rfl X.toList _ (fun W h => range_row (blk_below HG3.out h)) Try.underlying27 rfl HXL.out) hHeld ?_
  simp only [List.getElem_toArray, List.getElem_cons_succ, List.getElem_cons_zero, Act.put, List.setIfInBounds_toArray, List.set_cons_zero, List.set_cons_succ]
  refine wpAnyH_take (i := 18) (v := _) rfl (by kernel_rfl) (by kernel_rfl) (by kernel_rfl) (fun _ _ _ h => h) (Or.inl ⟨by kernel_rfl, fun w _ => by go_simp <;> with_reducible rfl⟩) hHeld ?_
  simp only [List.getElem_toArray, List.getElem_cons_succ, List.getElem_cons_zero, Act.put, List.setIfInBounds_toArray, List.set_cons_zero, List.set_cons_succ]
  refine wpAnyH_take (i := 19) (v := _) rfl (by kernel_rfl) (by kernel_rfl) (by kernel_rfl) (fun _ _ _ h => h) (Or.inl ⟨by kernel_rfl, fun w _ => by go_simp <;> with_reducible rfl⟩) hHeld ?_
  simp only [List.getElem_toArray, List.getElem_cons_succ, List.getElem_cons_zero, Act.put, List.setIfInBounds_toArray, List.set_cons_zero, List.set_cons_succ]
  refine wpAnyH_ready (rs := [17]) (by kernel_rfl) (by simp) ?_
  refine AllReadyH.cons rfl (fun K hK => ?_) ?_
  case refine_2 => exact AllReadyH.nil
  go_simp
  refine (HSZ.out _ (HR3.out.below hHeld)).mono ?_
  rintro e x5 ⟨rfl, hb⟩
  refine hK.out _ _ (below_step' hHeld hb) (fun hHeld => ?_)
  clear hK K
  try simp only [List.getElem_toArray, List.getElem_cons_succ, List.getElem_cons_zero, Act.put, List.setIfInBounds_toArray, List.set_cons_zero, List.set_cons_succ]
  clear hb
  refine wpAnyH_take (i := 20) (v := _) rfl (by kernel_rfl) (by kernel_rfl) (by kernel_rfl) (fun _ _ _ h => h) (Or.inl ⟨by kernel_rfl, fun w _ => by go_simp <;> with_reducible rfl⟩) hHeld ?_
  simp only [List.getElem_toArray, List.getElem_cons_succ, List.getElem_cons_zero, Act.put, List.setIfInBounds_toArray, List.set_cons_zero, List.set_cons_succ]
  refine wpAnyH_take (i := 21) (v := _) rfl (by kernel_rfl) (by kernel_rfl) (by kernel_rfl) (fun _ _ _ h => h) (Or.inl ⟨by kernel_rfl, fun w _ => by go_simp <;> with_reducible rfl⟩) hHeld ?_
  simp only [List.getElem_toArray, List.getElem_cons_succ, List.getElem_cons_zero, Act.put, List.setIfInBounds_toArray, List.set_cons_zero, List.set_cons_succ]
  refine wpAnyH_take (i := 22) (v := _) rfl (by kernel_rfl) (by kernel_rfl) (by kernel_rfl) (fun _ _ _ h => h) (Or.inl ⟨by kernel_rfl, fun w _ => by go_simp <;> with_reducible rfl⟩) hHeld ?_
  simp only [List.getElem_toArray, List.getElem_cons_succ, List.getElem_cons_zero, Act.put, List.setIfInBounds_toArray, List.set_cons_zero, List.set_cons_succ]
  refine wpAnyH_take (i := 23) (v := .agg X.toList.toArray) rfl (by kernel_rfl) (by kernel_rfl) (by kernel_rfl) (fun _ _ _ h => h) (yieldsIf_load_mid (by kernel_rfl) 27 _ rfl _ 0 rfl X.toList _ (fun W h => range_row (blk_below HG3.out h)) Try.underlying27 rfl HXL.out) hHeld ?_
  simp only [List.getElem_toArray, List.getElem_cons_succ, List.getElem_cons_zero, Act.put, List.setIfInBounds_toArray, List.set_cons_zero, List.set_cons_succ]
  refine wpAnyH_take (i := 24) (v := .agg (#[.int .i64 l1, .int .i64 l2, .int .i64 l3] : Array Value).toList.toArray) rfl (by kernel_rfl) (by kernel_rfl) (by kernel_rfl) (fun _ _ _ h => h) (yieldsIf_load_mid (by kernel_rfl) 44 _ rfl _ 0 rfl (#[.int .i64 l1, .int .i64 l2, .int .i64 l3] : Array Value).toList _ (fun W h => range_row (blk_below HL3.out h)) Try.underlying44 rfl HLO.out) hHeld ?_
  simp only [List.getElem_toArray, List.getElem_cons_succ, List.getElem_cons_zero, Act.put, List.setIfInBounds_toArray, List.set_cons_zero, List.set_cons_succ]
  refine wpAnyH_take (i := 26) (v := .agg X.toList.toArray) rfl (by kernel_rfl) (by kernel_rfl) (by kernel_rfl) (fun _ _ _ h => h) (yieldsIf_load_mid (by kernel_rfl) 27 _ rfl _ 0 rfl X.toList _ (fun W h => range_row (blk_below HG3.out h)) Try.underlying27 rfl HXL.out) hHeld ?_
  simp only [List.getElem_toArray, List.getElem_cons_succ, List.getElem_cons_zero, Act.put, List.setIfInBounds_toArray, List.set_cons_zero, List.set_cons_succ]
  refine wpAnyH_take (i := 27) (v := .agg (#[.int .i64 l1, .int .i64 l2, .int .i64 l3] : Array Value).toList.toArray) rfl (by kernel_rfl) (by kernel_rfl) (by kernel_rfl) (fun _ _ _ h => h) (yieldsIf_load_mid (by kernel_rfl) 44 _ rfl _ 0 rfl (#[.int .i64 l1, .int .i64 l2, .int .i64 l3] : Array Value).toList _ (fun W h => range_row (blk_below HL3.out h)) Try.underlying44 rfl HLO.out) hHeld ?_
  simp only [List.getElem_toArray, List.getElem_cons_succ, List.getElem_cons_zero, Act.put, List.setIfInBounds_toArray, List.set_cons_zero, List.set_cons_succ]
  refine wpAnyH_ready (rs := [25]) (by kernel_rfl) (by simp) ?_
  refine AllReadyH.cons rfl (fun K hK => ?_) ?_
  case refine_2 => exact AllReadyH.nil
  go_simp
  refine (HW1.out _).mono ?_
  rintro e x6 ⟨Y1, rfl, hy1, hb⟩
  refine hK.out _ _ (below_step' hHeld hb) (fun hHeld => ?_)
  clear hK K
  try simp only [List.getElem_toArray, List.getElem_cons_succ, List.getElem_cons_zero, Act.put, List.setIfInBounds_toArray, List.set_cons_zero, List.set_cons_succ]
  have HY1 := Lib.hid hy1
  clear hb hy1
  refine wpAnyH_ready (rs := [28]) (by kernel_rfl) (by simp) ?_
  refine AllReadyH.cons rfl (fun K hK => ?_) ?_
  case refine_2 => exact AllReadyH.nil
  go_simp
  refine (HW2.out _).mono ?_
  rintro e x7 ⟨Y2, rfl, hy2, hb⟩
  refine hK.out _ _ (below_step' hHeld hb) (fun hHeld => ?_)
  clear hK K
  try simp only [List.getElem_toArray, List.getElem_cons_succ, List.getElem_cons_zero, Act.put, List.setIfInBounds_toArray, List.set_cons_zero, List.set_cons_succ]
  have HY2 := Lib.hid hy2
  clear hb hy2
  obtain rfl : Y1 = Y2 := HY1.out.eq.trans HY2.out.eq.symm
  refine wpAnyH_take (i := 29) (v := .bool true) rfl (by kernel_rfl) (by kernel_rfl) (by kernel_rfl) (fun _ _ _ h => h) (yields_eq .eql 50 _ _ _ rfl Y1 Y1 rfl rfl (by kernel_rfl) (.bool true) (by kernel_rfl) (fun W => word_self HY1.out W)) hHeld ?_
  simp only [List.getElem_toArray, List.getElem_cons_succ, List.getElem_cons_zero, Act.put, List.setIfInBounds_toArray, List.set_cons_zero, List.set_cons_succ]
  refine wpAnyH_take (i := 30) (v := _) rfl (by kernel_rfl) (by kernel_rfl) (by kernel_rfl) (fun _ _ _ h => h) (Or.inl ⟨by kernel_rfl, fun w _ => by go_simp <;> with_reducible rfl⟩) hHeld ?_
  simp only [List.getElem_toArray, List.getElem_cons_succ, List.getElem_cons_zero, Act.put, List.setIfInBounds_toArray, List.set_cons_zero, List.set_cons_succ]
  refine wpAnyH_take (i := 31) (v := _) rfl (by kernel_rfl) (by kernel_rfl) (by kernel_rfl) (fun _ _ _ h => h) (Or.inl ⟨by kernel_rfl, fun w _ => by go_simp <;> with_reducible rfl⟩) hHeld ?_
  simp only [List.getElem_toArray, List.getElem_cons_succ, List.getElem_cons_zero, Act.put, List.setIfInBounds_toArray, List.set_cons_zero, List.set_cons_succ]
  refine wpAnyH_ready (rs := [32]) (by kernel_rfl) (by simp) ?_
  refine AllReadyH.cons rfl (fun K hK => ?_) ?_
  case refine_2 => exact AllReadyH.nil
  go_simp
  refine (lives_any _).mono ?_
  rintro e x9 ⟨rfl, hb⟩
  refine hK.out _ _ (below_step' hHeld hb) (fun hHeld => ?_)
  clear hK K
  try simp only [List.getElem_toArray, List.getElem_cons_succ, List.getElem_cons_zero, Act.put, List.setIfInBounds_toArray, List.set_cons_zero, List.set_cons_succ]
  clear hb
  refine wpAnyH_take (i := 33) (v := _) rfl (by kernel_rfl) (by kernel_rfl) (by kernel_rfl) (fun _ _ _ h => h) (Or.inl ⟨by kernel_rfl, fun w _ => by go_simp <;> with_reducible rfl⟩) hHeld ?_
  simp only [List.getElem_toArray, List.getElem_cons_succ, List.getElem_cons_zero, Act.put, List.setIfInBounds_toArray, List.set_cons_zero, List.set_cons_succ]
  refine wpAnyH_take (i := 34) (v := _) rfl (by kernel_rfl) (by kernel_rfl) (by kernel_rfl) (fun _ _ _ h => h) (Or.inl ⟨by kernel_rfl, fun w _ => by go_simp <;> with_reducible rfl⟩) hHeld ?_
  simp only [List.getElem_toArray, List.getElem_cons_succ, List.getElem_cons_zero, Act.put, List.setIfInBounds_toArray, List.set_cons_zero, List.set_cons_succ]
  refine wpAnyH_done (by kernel_rfl) ?_ _
  have HB9 := Lib.hid (below_step' HB3.out hHeld)
  go_wp2_with fail
  go_ret
  exact ⟨rfl, HB9.out⟩
theorem makes_row (cs : Array Value) (x : RecV) (cl : Array Value) (y : LocV) (w : World) (hK : kRec.K w x cs.toList)
    (hS : ∀ nm, cs.toList[34]? = some (.string nm) → nm.size ≤ 140737488351232) (hY : ∀ A n k, cs.toList[35]? = some (.slice A n k) → n * 1 ≤ 140737488351232) (hL : kLoc.K w y cl.toList) :
    Calls Try.prog 6 #[.agg cs, .agg cl] w (Kept (.bool true) w) := by
  obtain ⟨A, c, hF, hc, hr⟩ := kRec_cells hK
  rw [kLoc_cells hL]
  have h1 := hS _ (by rw [Array.getElem?_toList]; exact hF.c34)
  have h2 := hY _ _ _ (by rw [Array.getElem?_toList]; exact hF.c35)
  exact makes_any _ _ _ _ _ _ _ _ _ _ _ _ _ _ hF hr x.2.1.toNat_lt (by omega) (by omega) (i64_bd _)
end Go.Proofs.Ytceldlijbehkdaa.Rc
