/- writes.Peak, stillageref09.Peak. -/
import Derived.Test.YtkgbimkjpllakaaWrRefS
set_option linter.unusedVariables false
set_option linter.unusedSimpArgs false
namespace Go.Proofs.Ytkgbimkjpllakaa.Wr
open Go.RowKit Go.Proofs.YtkgbimkjpllakaaW.PrintWords Go.Proofs.Ytkgbimkjpllakaa.B

set_option maxRecDepth 100000 in
set_option maxHeartbeats 1600000 in
theorem peak_any (n : Nat) (A2 : Option Addr) (c2 : Nat) (l : List Wt) (w : World) (hn : n ≤ 140737488355328) (hr2 : RdW w A2 l) :
    Calls Try.prog 22 #[.int .i64 n, .slice A2 l.length c2] w (Kept (.int .i64 (peakL n l : Nat)) w) := by
  have HR2 := Lib.hid hr2
  have hll : l.length ≤ 9223372036854775807 := hr2.2.1
  clear hr2
  go_enter Try.func22, Try.ntmps22
  go_wp2_with fail
  go_loopw [0, 9] (fun v i wr => ∃ k m : Nat, k ≤ l.length ∧ i = .int .i64 k ∧ v = .int .i64 m ∧ m ≤ 140737488355328 ∧ Hid (m = peakL n (l.take k)) ∧ Hid (Below w.heap.size w wr)) (fun _ i _ => l.length - (intOf i).toNat)
  case atStart => exact ⟨0, n, by omega, rfl, rfl, hn, Lib.hid (by simp [peakL]), Below.refl _ _⟩
  case round =>
    obtain ⟨k, m, hk, rfl, rfl, hm, HM, HBk⟩ := hrel
    by_cases hlt : k < l.length
    · have HRk := Lib.hid (show RdW wr A2 l from Kd.C_below HR2.out HBk.out)
      obtain ⟨ad, -, -, rfl, -⟩ := HRk.out.at_ k hlt
      obtain ⟨A3, c3, -, h2, e0, e1, e2⟩ := HRk.out.cells k hlt
      have hoff := Int64.toInt_lt (wt l k).2.1
      have hoff' := Int64.le_toInt (wt l k).2.1
      have hdl : (wt l k).2.2.length ≤ 9223372036854775807 := h2.len
      have HN := Lib.hid (show peakL n (l.take (k + 1)) = peak1 m (wt l k).1 (wt l k).2.1.toInt (wt l k).2.2.length by rw [HM.out]; exact peakL_next hlt)
      generalize (wt l k).1 = cu at *
      generalize (wt l k).2.1.toInt = off at *
      generalize (wt l k).2.2 = d at *
      have hob : -9223372036854775808 ≤ off ∧ off ≤ 9223372036854775807 := by omega
      have HRT := Lib.hid (fun (W : World) => right_any cu off A3 c3 d W hdl hob)
      clear h2 hoff hoff'
      have hk0 : (0 : Int) ≤ (k : Int) := by omega
      by_cases hrt : rightB off d.length = true
      · have hro := right_of hrt
        obtain ⟨o, rfl⟩ := Int.eq_ofNat_of_zero_le hro.1
        have hro2 : o + d.length ≤ 1048576 := by omega
        rw [hrt] at HRT
        cases cu with
        | true =>
          have HP := Lib.hid (show peakL n (l.take (k + 1)) = m by rw [HN.out]; unfold peak1; rw [if_neg (by simp)])
          clear hrt hro
          go_wp2_with fail
          refine (HRT.out _).mono ?_
          rintro e w2 ⟨rfl, hb⟩
          have HB2 := Lib.hid (below_then (below_alloc HBk.out _) (by have := HBk.out.size; simp <;> omega) hb)
          have hcc := fun i => blk_cell (blk_below (blk_new wr (.cells #[.bool true, .int .i64 (o : Int), .slice A3 d.length c3] 26)) hb) i
          clear hb
          go_wp2_with fail
          go_roundw
          case rel => exact ⟨k + 1, m, by omega, by go_num, rfl, hm, Lib.hid HP.out.symm, HB2⟩
          case measure => simp [intOf]; omega
        | false =>
          by_cases hd0 : d.length = 0
          · have HP := Lib.hid (show peakL n (l.take (k + 1)) = m by rw [HN.out]; unfold peak1; rw [if_neg (by omega)])
            have hd0' : ¬ (0 : Int) < (d.length : Int) := by omega
            clear hrt hro hd0
            go_wp2_with fail
            refine (HRT.out _).mono ?_
            rintro e w2 ⟨rfl, hb⟩
            have HB2 := Lib.hid (below_then (below_alloc HBk.out _) (by have := HBk.out.size; simp <;> omega) hb)
            have hcc := fun i => blk_cell (blk_below (blk_new wr (.cells #[.bool false, .int .i64 (o : Int), .slice A3 d.length c3] 26)) hb) i
            clear hb
            go_wp2_with fail
            go_roundw
            case rel => exact ⟨k + 1, m, by omega, by go_num, rfl, hm, Lib.hid HP.out.symm, HB2⟩
            case measure => simp [intOf]; omega
          · have HP := Lib.hid (show peakL n (l.take (k + 1)) = max m (o + d.length) by rw [HN.out]; unfold peak1; rw [if_pos ⟨hrt, rfl, by omega⟩, Int.toNat_natCast])
            have hd0' : (0 : Int) < (d.length : Int) := by omega
            have hcase : (m < o + d.length ∧ (m : Int) < (o : Int) + d.length) ∨ (o + d.length ≤ m ∧ (o : Int) + d.length ≤ m) := by omega
            clear hrt hro hd0
            rcases hcase with ⟨hmx, hmx'⟩ | ⟨hmx, hmx'⟩
            · have HQ := Lib.hid (show o + d.length = peakL n (l.take (k + 1)) by rw [HP.out, Nat.max_eq_right (by omega)])
              go_wp2_with fail
              refine (HRT.out _).mono ?_
              rintro e w2 ⟨rfl, hb⟩
              have HB2 := Lib.hid (below_then (below_alloc HBk.out _) (by have := HBk.out.size; simp <;> omega) hb)
              have hcc := fun i => blk_cell (blk_below (blk_new wr (.cells #[.bool false, .int .i64 (o : Int), .slice A3 d.length c3] 26)) hb) i
              clear hb
              go_wp2_with fail
              go_roundw
              case rel => exact ⟨k + 1, o + d.length, by omega, by go_num, by go_num, by omega, HQ, HB2⟩
              case measure => simp [intOf]; omega
            · have HQ := Lib.hid (show m = peakL n (l.take (k + 1)) by rw [HP.out, Nat.max_eq_left (by omega)])
              go_wp2_with fail
              refine (HRT.out _).mono ?_
              rintro e w2 ⟨rfl, hb⟩
              have HB2 := Lib.hid (below_then (below_alloc HBk.out _) (by have := HBk.out.size; simp <;> omega) hb)
              have hcc := fun i => blk_cell (blk_below (blk_new wr (.cells #[.bool false, .int .i64 (o : Int), .slice A3 d.length c3] 26)) hb) i
              clear hb
              go_wp2_with fail
              go_roundw
              case rel => exact ⟨k + 1, m, by omega, by go_num, by go_num, by omega, HQ, HB2⟩
              case measure => simp [intOf]; omega
      · have hrf : rightB off d.length = false := by simpa using hrt
        rw [hrf] at HRT
        have HP := Lib.hid (show peakL n (l.take (k + 1)) = m by rw [HN.out]; unfold peak1; rw [if_neg (by rw [hrf]; simp)])
        clear hrt hrf
        go_wp2_with fail
        refine (HRT.out _).mono ?_
        rintro e w2 ⟨rfl, hb⟩
        have HB2 := Lib.hid (below_then (below_alloc HBk.out _) (by have := HBk.out.size; simp <;> omega) hb)
        clear hb
        go_wp2_with fail
        go_roundw
        case rel => exact ⟨k + 1, m, by omega, by go_num, rfl, hm, Lib.hid HP.out.symm, HB2⟩
        case measure => simp [intOf]; omega
    · obtain rfl : k = l.length := by omega
      have HM' := HM
      rw [List.take_length] at HM'
      go_wp2
      go_ret
      exact ⟨ret_eq (by rw [← HM'.out]; rfl), HBk.out⟩
set_option maxRecDepth 100000 in
set_option maxHeartbeats 1600000 in
theorem refpeak_any (n : Nat) (A2 : Option Addr) (c2 : Nat) (l : List Wt) (w : World) (hn : n ≤ 140737488355328) (hr2 : RdW w A2 l) :
    Calls Try.prog 23 #[.int .i64 n, .slice A2 l.length c2] w (Kept (.int .i64 (peakL n l : Nat)) w) := by
  have HR2 := Lib.hid hr2
  have hll : l.length ≤ 9223372036854775807 := hr2.2.1
  clear hr2
  go_enter Try.func23, Try.ntmps23
  go_wp2_with fail
  go_loopw [0, 5] (fun v i wr => ∃ k m : Nat, k ≤ l.length ∧ i = .int .i64 k ∧ v = .int .i64 m ∧ m ≤ 140737488355328 ∧ Hid (m = peakL n (l.take k)) ∧ Hid (Below w.heap.size w wr)) (fun _ i _ => l.length - (intOf i).toNat)
  case atStart => exact ⟨0, n, by omega, rfl, rfl, hn, Lib.hid (by simp [peakL]), Below.refl _ _⟩
  case round =>
    obtain ⟨k, m, hk, rfl, rfl, hm, HM, HBk⟩ := hrel
    by_cases hlt : k < l.length
    · have HRk := Lib.hid (show RdW wr A2 l from Kd.C_below HR2.out HBk.out)
      obtain ⟨ad, -, -, rfl, -⟩ := HRk.out.at_ k hlt
      obtain ⟨A3, c3, -, h2, e0, e1, e2⟩ := HRk.out.cells k hlt
      have hoff := Int64.toInt_lt (wt l k).2.1
      have hoff' := Int64.le_toInt (wt l k).2.1
      have hdl : (wt l k).2.2.length ≤ 9223372036854775807 := h2.len
      have HN := Lib.hid (show peakL n (l.take (k + 1)) = peak1 m (wt l k).1 (wt l k).2.1.toInt (wt l k).2.2.length by rw [HM.out]; exact peakL_next hlt)
      generalize (wt l k).1 = cu at *
      generalize (wt l k).2.1.toInt = off at *
      generalize (wt l k).2.2 = d at *
      have hob : -9223372036854775808 ≤ off ∧ off ≤ 9223372036854775807 := by omega
      have HRT := Lib.hid (fun (W : World) => refright_any cu off A3 c3 d W hdl hob)
      clear h2 hoff hoff'
      have hk0 : (0 : Int) ≤ (k : Int) := by omega
      by_cases hrt : rightB off d.length = true
      · have hro := right_of hrt
        obtain ⟨o, rfl⟩ := Int.eq_ofNat_of_zero_le hro.1
        have hro2 : o + d.length ≤ 1048576 := by omega
        rw [hrt] at HRT
        cases cu with
        | true =>
          have HP := Lib.hid (show peakL n (l.take (k + 1)) = m by rw [HN.out]; unfold peak1; rw [if_neg (by simp)])
          clear hrt hro
          go_wp2_with fail
          refine (HRT.out _).mono ?_
          rintro e w2 ⟨rfl, hb⟩
          have HB2 := Lib.hid (below_then (below_alloc HBk.out _) (by have := HBk.out.size; simp <;> omega) hb)
          have hcc := fun i => blk_cell (blk_below (blk_new wr (.cells #[.bool true, .int .i64 (o : Int), .slice A3 d.length c3] 26)) hb) i
          clear hb
          go_wp2_with fail
          go_roundw
          case rel => exact ⟨k + 1, m, by omega, by go_num, rfl, hm, Lib.hid HP.out.symm, HB2⟩
          case measure => simp [intOf]; omega
        | false =>
          by_cases hd0 : d.length = 0
          · have HP := Lib.hid (show peakL n (l.take (k + 1)) = m by rw [HN.out]; unfold peak1; rw [if_neg (by omega)])
            have hd0' : ¬ (0 : Int) < (d.length : Int) := by omega
            clear hrt hro hd0
            go_wp2_with fail
            refine (HRT.out _).mono ?_
            rintro e w2 ⟨rfl, hb⟩
            have HB2 := Lib.hid (below_then (below_alloc HBk.out _) (by have := HBk.out.size; simp <;> omega) hb)
            have hcc := fun i => blk_cell (blk_below (blk_new wr (.cells #[.bool false, .int .i64 (o : Int), .slice A3 d.length c3] 26)) hb) i
            clear hb
            go_wp2_with fail
            go_roundw
            case rel => exact ⟨k + 1, m, by omega, by go_num, rfl, hm, Lib.hid HP.out.symm, HB2⟩
            case measure => simp [intOf]; omega
          · have HP := Lib.hid (show peakL n (l.take (k + 1)) = max m (o + d.length) by rw [HN.out]; unfold peak1; rw [if_pos ⟨hrt, rfl, by omega⟩, Int.toNat_natCast])
            have hd0' : (0 : Int) < (d.length : Int) := by omega
            have hcase : (m < o + d.length ∧ (m : Int) < (o : Int) + d.length) ∨ (o + d.length ≤ m ∧ (o : Int) + d.length ≤ m) := by omega
            clear hrt hro hd0
            rcases hcase with ⟨hmx, hmx'⟩ | ⟨hmx, hmx'⟩
            · have HQ := Lib.hid (show o + d.length = peakL n (l.take (k + 1)) by rw [HP.out, Nat.max_eq_right (by omega)])
              go_wp2_with fail
              refine (HRT.out _).mono ?_
              rintro e w2 ⟨rfl, hb⟩
              have HB2 := Lib.hid (below_then (below_alloc HBk.out _) (by have := HBk.out.size; simp <;> omega) hb)
              have hcc := fun i => blk_cell (blk_below (blk_new wr (.cells #[.bool false, .int .i64 (o : Int), .slice A3 d.length c3] 26)) hb) i
              clear hb
              go_wp2_with fail
              go_roundw
              case rel => exact ⟨k + 1, o + d.length, by omega, by go_num, by go_num, by omega, HQ, HB2⟩
              case measure => simp [intOf]; omega
            · have HQ := Lib.hid (show m = peakL n (l.take (k + 1)) by rw [HP.out, Nat.max_eq_left (by omega)])
              go_wp2_with fail
              refine (HRT.out _).mono ?_
              rintro e w2 ⟨rfl, hb⟩
              have HB2 := Lib.hid (below_then (below_alloc HBk.out _) (by have := HBk.out.size; simp <;> omega) hb)
              have hcc := fun i => blk_cell (blk_below (blk_new wr (.cells #[.bool false, .int .i64 (o : Int), .slice A3 d.length c3] 26)) hb) i
              clear hb
              go_wp2_with fail
              go_roundw
              case rel => exact ⟨k + 1, m, by omega, by go_num, by go_num, by omega, HQ, HB2⟩
              case measure => simp [intOf]; omega
      · have hrf : rightB off d.length = false := by simpa using hrt
        rw [hrf] at HRT
        have HP := Lib.hid (show peakL n (l.take (k + 1)) = m by rw [HN.out]; unfold peak1; rw [if_neg (by rw [hrf]; simp)])
        clear hrt hrf
        go_wp2_with fail
        refine (HRT.out _).mono ?_
        rintro e w2 ⟨rfl, hb⟩
        have HB2 := Lib.hid (below_then (below_alloc HBk.out _) (by have := HBk.out.size; simp <;> omega) hb)
        clear hb
        go_wp2_with fail
        go_roundw
        case rel => exact ⟨k + 1, m, by omega, by go_num, rfl, hm, Lib.hid HP.out.symm, HB2⟩
        case measure => simp [intOf]; omega
    · obtain rfl : k = l.length := by omega
      have HM' := HM
      rw [List.take_length] at HM'
      go_wp2
      go_ret
      exact ⟨ret_eq (by rw [← HM'.out]; rfl), HBk.out⟩
end Go.Proofs.Ytkgbimkjpllakaa.Wr
