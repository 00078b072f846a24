/- stillagelaw09: WritesSurvive, WritesApply. -/
import Derived.Test.YtkgbimkjpllakaaLaw09
import Derived.Deep.DrawnRows
set_option linter.unusedVariables false
set_option linter.unusedSimpArgs false
namespace Go.Proofs.Ytkgbimkjpllakaa.L09
open Go.RowKit Go.Proofs.YtkgbimkjpllakaaW.PrintWords Go.Proofs.Ytkgbimkjpllakaa.B Go.Proofs.Ytkgbimkjpllakaa.Wr

theorem same_yes (A : Option Addr) (c : Nat) (A' : Option Addr) (c' : Nat) (y : List UInt8) (w : World) (hl : y.length ≤ 140737488355328) (h1 : Rd w A y) (h2 : Rd w A' y) :
    Calls Try.prog 14 #[.slice A y.length c, .slice A' y.length c'] w (Quiet (.bool true) w) := by
  have := R01.same_any A c y A' c' y w hl h1 h2
  rwa [show R01.sameB y y = true by simp [R01.sameB]] at this
set_option maxRecDepth 100000 in
set_option maxHeartbeats 800000 in
theorem survives_any (A : Option Addr) (c : Nat) (b : List UInt8) (A2 : Option Addr) (c2 : Nat) (l : List Wt) (A3 : Option Addr) (c3 : Nat) (ch : List UInt8) (w : World) (hr : Rd w A b) (hc : b.length ≤ c) (hl : b.length ≤ 140737488351232) (hr2 : RdW w A2 l) (_ : l.length ≤ c2) (hr3 : Rd w A3 ch) (_ : ch.length ≤ c3) (_ : ch.length ≤ 140737488351232) :
    Calls Try.prog 4 #[.slice A b.length c, .slice A2 l.length c2, .slice A3 ch.length c3] w (Kept (.bool true) w) := by
  have HR := Lib.hid hr
  have HR2 := Lib.hid hr2
  have HR3 := Lib.hid hr3
  have hsl := survL_len b l ch
  have HS := Lib.hid (fun (W : World) (h1 : Rd W A b) (h2 : RdW W A2 l) (h3 : Rd W A3 ch) => survive_any A c b A2 c2 l A3 c3 ch W (by omega) hc h1 h2 h3)
  have HT := Lib.hid (fun (W : World) (h1 : Rd W A b) (h2 : RdW W A2 l) (h3 : Rd W A3 ch) => refsurvive_any A c b A2 c2 l A3 c3 ch W (by omega) hc h1 h2 h3)
  have HP := Lib.hid (fun (W : World) (h2 : RdW W A2 l) => peak_any b.length A2 c2 l W (by omega) h2)
  have HQ := Lib.hid (fun (W : World) (h2 : RdW W A2 l) => refpeak_any b.length A2 c2 l W (by omega) h2)
  generalize survL b l ch = y at *
  generalize peakL b.length l = p at *
  have hyl : y.length ≤ 140737488355328 := by omega
  clear hr hr2 hr3 hsl
  go_enter Try.func4, Try.ntmps4
  go_wp2_with fail
  refine (HS.out w HR.out HR2.out HR3.out).mono ?_
  rintro e w1 ⟨v1, rfl, hown, hb⟩
  obtain ⟨A4, c4, rfl, -, hr4⟩ := hown.reads
  have HR4 := Lib.hid hr4
  have HB1 := Lib.hid hb
  clear hown hb hr4
  go_wp2_with fail
  refine (HT.out w1 (HR.out.below HB1.out) (Kd.C_below HR2.out HB1.out) (HR3.out.below HB1.out)).mono ?_
  rintro e w2 ⟨v2, rfl, hown, hb⟩
  obtain ⟨A5, c5, rfl, -, hr5⟩ := hown.reads
  have HR5 := Lib.hid hr5
  have HR42 := Lib.hid (HR4.out.below hb)
  have HB2 := Lib.hid (below_step' HB1.out hb)
  clear hown hb hr5
  go_wp2_with fail
  refine (same_yes A4 c4 A5 c5 y w2 hyl HR42.out HR5.out).mono ?_
  rintro e w3 ⟨rfl, n, hw3⟩
  have HB3 := Lib.hid (show Below w.heap.size w w3 by rw [hw3]; exact pw_below_drewN HB2.out n)
  clear hw3
  go_wp2_with fail
  refine (HP.out w3 (Kd.C_below HR2.out HB3.out)).mono ?_
  rintro e w4 ⟨rfl, hb⟩
  have HB4 := Lib.hid (below_step' HB3.out hb)
  clear hb
  go_wp2_with fail
  refine (HQ.out w4 (Kd.C_below HR2.out HB4.out)).mono ?_
  rintro e w5 ⟨rfl, hb⟩
  have HB5 := Lib.hid (below_step' HB4.out hb)
  clear hb
  go_wp2_with fail
  refine (lives_any _).mono ?_
  rintro e w6 ⟨rfl, hb⟩
  have HB6 := Lib.hid (below_step' HB5.out hb)
  clear hb
  go_wp2_with fail
  go_ret
  exact ⟨rfl, HB6.out⟩
attribute [local go_sem ↓] Go.wp_at_zero Go.wp_at_succ
set_option maxRecDepth 100000 in
set_option maxHeartbeats 3000000 in
theorem apply_law (A : Option Addr) (c : Nat) (b : List UInt8) (A2 : Option Addr) (c2 : Nat) (l : List Wt) (w : World) (hr : Rd w A b) (hc : b.length ≤ c) (hl : b.length ≤ 140737488351232) (hr2 : RdW w A2 l) (_ : l.length ≤ c2) :
    Calls Try.prog 3 #[.slice A b.length c, .slice A2 l.length c2] w (Kept (.bool true) w) := by
  have HR := Lib.hid hr
  have HR2 := Lib.hid hr2
  have hll : l.length ≤ 9223372036854775807 := hr2.2.1
  have hal := allL_len b l
  have HA := Lib.hid (fun (W : World) (h1 : Rd W A b) (h2 : RdW W A2 l) => all_any A c b A2 c2 l W (by omega) hc h1 h2)
  have HB := Lib.hid (fun (W : World) (h1 : Rd W A b) (h2 : RdW W A2 l) => refall_any A c b A2 c2 l W (by omega) hc h1 h2)
  generalize allL b l = ya at *
  have hyal : ya.length ≤ 140737488355328 := by omega
  clear hr hr2 hal
  go_enter Try.func3, Try.ntmps3
  go_wp2_with fail
  go_loopw [5] (fun i wr => ∃ k : Nat, k ≤ l.length ∧ i = .int .i64 k ∧ Hid (Below w.heap.size w wr)) (fun i _ => l.length - (intOf i).toNat)
  case atStart => exact ⟨0, by omega, rfl, Below.refl _ _⟩
  case round =>
    obtain ⟨k, hk, rfl, HBk⟩ := hrel
    by_cases hlt : k < l.length
    · have HRk := Lib.hid (show RdW wr A2 l from Kd.C_below HR2.out HBk.out)
      obtain ⟨ad, -, -, rfl, -⟩ := HRk.out.at_ k hlt
      obtain ⟨A3, c3, -, h2, e0, e1, e2⟩ := HRk.out.cells k hlt
      have hoff := Int64.toInt_lt (wt l k).2.1
      have hoff' := Int64.le_toInt (wt l k).2.1
      have hdl : (wt l k).2.2.length ≤ 9223372036854775807 := h2.len
      generalize (wt l k).1 = cu at *
      generalize (wt l k).2.1.toInt = off at *
      generalize (wt l k).2.2 = d at *
      have HRD := Lib.hid h2
      have HRB := Lib.hid (HR.out.below HBk.out)
      have hob : -9223372036854775808 ≤ off ∧ off ≤ 9223372036854775807 := by omega
      have HS := Lib.hid (fun (W : World) (h : Below wr.heap.size wr W) => (show W.cell? (ad.add (k * 3)) = some (.bool cu) ∧ W.cell? { block := (ad.add (k * 3)).block, off := (ad.add (k * 3)).off + 1 } = some (.int .i64 off) ∧ W.cell? { block := (ad.add (k * 3)).block, off := (ad.add (k * 3)).off + 2 } = some (.slice A3 d.length c3) from ⟨pw_cell_below h e0, pw_cell_below h e1, pw_cell_below h e2⟩))
      have H1 := Lib.hid (fun (W : World) => right_any cu off A3 c3 d W hdl hob)
      have H2 := Lib.hid (fun (W : World) => refright_any cu off A3 c3 d W hdl hob)
      have H3 := Lib.hid (fun (W : World) (h1 : Rd W A b) (h2 : Rd W A3 d) => apply_any A c b cu off A3 c3 d W (by omega) hc h1 hdl h2 hob)
      have H4 := Lib.hid (fun (W : World) (h1 : Rd W A b) (h2 : Rd W A3 d) => (show Calls Try.prog 16 #[.slice A b.length c, .agg #[.bool cu, .int .i64 off, .slice A3 d.length c3], .int .i64 d.length] W (Made W (applyL b cu off d)) from apply_eq b cu off d ▸ refapply_any A c b cu off A3 c3 d d.length W (by omega) hc h1 hdl h2 hob (by omega)))
      have hyl := applyL_len b cu off d
      generalize applyL b cu off d = y at *
      generalize rightB off d.length = rt at *
      have hyb : y.length ≤ 140737488355328 := by omega
      have hk0 : (0 : Int) ≤ (k : Int) := by omega
      have hk1 : (k : Int) < (l.length : Int) := by omega
      clear h2 hoff hoff' hyl
      go_wp2_with fail
      have hx0 : Below wr.heap.size wr wr.drew := below_drew (Below.refl _ _)
      have hs := HS.out _ hx0
      clear e0 e1 e2
      go_region_held3 (fun W => W.cell? (ad.add (k * 3)) = some (.bool cu) ∧ W.cell? { block := (ad.add (k * 3)).block, off := (ad.add (k * 3)).off + 1 } = some (.int .i64 off) ∧ W.cell? { block := (ad.add (k * 3)).block, off := (ad.add (k * 3)).off + 2 } = some (.slice A3 d.length c3)) (first | assumption | exact HS.out _ (by assumption))
        (first
          | (go_at_call 12; refine (H1.out _).mono ?_; rintro e w2 ⟨rfl, hb⟩; have hx2 := below_then hx0 hx0.size hb; clear hb)
          | (go_at_call 13; refine (H2.out _).mono ?_; rintro e w3 ⟨rfl, hb⟩; have hx3 := below_then hx2 hx2.size hb; clear hb)
          | (go_at_call 15; refine (H3.out w3 (HRB.out.below hx3) (HRD.out.below hx3)).mono ?_; rintro e w4 ⟨v4, rfl, hown, hb⟩; have hx4 := below_then hx3 hx3.size hb; obtain ⟨A4, c4, rfl, -, hr4⟩ := hown.reads; have HR4 := Lib.hid hr4; clear hown hr4 hb)
          | (go_at_call 16; refine (H4.out w4 (HRB.out.below hx4) (HRD.out.below hx4)).mono ?_; rintro e w5 ⟨v5, rfl, hown, hb⟩; have hx5 := below_then hx4 hx4.size hb; obtain ⟨A5, c5, rfl, -, hr5⟩ := hown.reads; have HR5 := Lib.hid hr5; have HR45 := Lib.hid (HR4.out.below hb); clear hown hr5 hb)
          | (go_at_call 14; refine (same_yes A4 c4 A5 c5 y w5 hyb HR45.out HR5.out).mono ?_; rintro e w6 ⟨rfl, n, hw6⟩; have hx6 : Below wr.heap.size wr w6 := (by rw [hw6]; exact pw_below_drewN hx5 n); clear hw6)
          | fail)
      go_wp2_with fail
      go_roundw
      case rel => exact ⟨k + 1, by omega, by go_num, Lib.hid (below_then HBk.out HBk.out.size hx6)⟩
      case measure => simp [intOf]; omega
    · go_wp2_with fail
      refine (HA.out wr (HR.out.below HBk.out) (Kd.C_below HR2.out HBk.out)).mono ?_
      rintro e w1 ⟨v1, rfl, hown, hb⟩
      obtain ⟨A4, c4, rfl, -, hr4⟩ := hown.reads
      have HR4 := Lib.hid hr4
      have HB1 := Lib.hid (below_step' HBk.out hb)
      clear hown hb hr4
      go_wp2_with fail
      refine (HB.out w1 (HR.out.below HB1.out) (Kd.C_below HR2.out HB1.out)).mono ?_
      rintro e w2 ⟨v2, rfl, hown, hb⟩
      obtain ⟨A5, c5, rfl, -, hr5⟩ := hown.reads
      have HR5 := Lib.hid hr5
      have HR42 := Lib.hid (HR4.out.below hb)
      have HB2 := Lib.hid (below_step' HB1.out hb)
      clear hown hb hr5
      go_wp2_with fail
      refine (same_yes A4 c4 A5 c5 ya w2 hyal HR42.out HR5.out).mono ?_
      rintro e w3 ⟨rfl, n, hw3⟩
      have HB3 := Lib.hid (show Below w.heap.size w w3 by rw [hw3]; exact pw_below_drewN HB2.out n)
      clear hw3
      go_wp2_with fail
      refine (lives_any _).mono ?_
      rintro e w6 ⟨rfl, hb⟩
      have HB6 := Lib.hid (below_step' HB3.out hb)
      clear hb
      go_wp2_with fail
      go_ret
      exact ⟨rfl, HB6.out⟩
end Go.Proofs.Ytkgbimkjpllakaa.L09
