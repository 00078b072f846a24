/- stillagelaw09: WritesEnds. -/
import Derived.Test.YtkgbimkjpllakaaLaw09b
set_option linter.unusedVariables false
set_option linter.unusedSimpArgs false
namespace Go.Proofs.Ytkgbimkjpllakaa.L09
open Go.RowKit Go.Proofs.YtkgbimkjpllakaaW.PrintWords Go.Proofs.Ytkgbimkjpllakaa.B Go.Proofs.Ytkgbimkjpllakaa.Wr

theorem cutW {A : Option Addr} {l : List Wt} {c : Nat} (hi : Int) (h0 : 0 ≤ hi) (h2 : hi ≤ l.length) (hc : l.length ≤ c) :
    ∃ y : List Wt, Hid (y = l.take hi.toNat) ∧ (∀ W : World, (Instr.slice 23 (.slice A l.length c) none (some (.int .i64 hi)) none).run Try.prog W = .ok (.slice A y.length c) W) ∧ (∀ w : World, RdW w A l → RdW w A y) ∧ y.length ≤ c ∧ y.length = hi.toNat := by
  obtain ⟨i0, hi0, hs⟩ := Option.map_eq_some_iff.1 infoWrite
  have hl : (l.take hi.toNat).length = hi.toNat := by rw [List.length_take]; omega
  refine ⟨_, rfl, fun W => ?_, fun w h => Kd.C_take h (by omega), by omega, hl⟩
  rw [cut_to (P := Try.prog) 23 26 .i64 Try.underlying23 hi0 A l.length c hi h0 h2 hc W, hl]
set_option maxRecDepth 100000 in
set_option maxHeartbeats 3000000 in
theorem ends_law (A : Option Addr) (c : Nat) (b : List UInt8) (A2 : Option Addr) (c2 : Nat) (l : List Wt) (A3 : Option Addr) (c3 : Nat) (ch : List UInt8) (w : World) (hr : Rd w A b) (hc : b.length ≤ c) (hl : b.length ≤ 140737488351232) (hr2 : RdW w A2 l) (hc2 : l.length ≤ c2) (hl2 : l.length * 40 ≤ 140737488351232) (hr3 : Rd w A3 ch) (_ : ch.length ≤ c3) (_ : ch.length ≤ 140737488351232) :
    Calls Try.prog 5 #[.slice A b.length c, .slice A2 l.length c2, .slice A3 ch.length c3] w (Kept (.bool true) w) := by
  have HR := Lib.hid hr
  have HR2 := Lib.hid hr2
  have HR3 := Lib.hid hr3
  have hll : l.length ≤ 140737488351232 := by omega
  have hpl := peakL_le l b.length
  have HP := Lib.hid (fun (W : World) (h2 : RdW W A2 l) => peak_any b.length A2 c2 l W (by omega) h2)
  have HPA := Lib.hid (fun k => allL_peak l b b.length k (Nat.le_refl _))
  have HPS := Lib.hid (fun k => survL_peak l b ch b.length k (Nat.le_refl _))
  have HFA := Lib.hid (fun (X : Option Addr) (x : Nat) (t : List Wt) (W : World) (h1 : Rd W A b) (h2 : RdW W X t) => all_any A c b X x t W (by omega) hc h1 h2)
  have HFS := Lib.hid (fun (X : Option Addr) (x : Nat) (t : List Wt) (Y : Option Addr) (y : Nat) (q : List UInt8) (W : World) (h1 : Rd W A b) (h2 : RdW W X t) (h3 : Rd W Y q) => survive_any A c b X x t Y y q W (by omega) hc h1 h2 h3)
  have HAL := Lib.hid (fun t => allL_len b t)
  have HSL := Lib.hid (fun t q => survL_len b t q)
  generalize peakL b.length l = p at *
  clear hr hr2 hr3 hpl hl2
  go_enter Try.func5, Try.ntmps5
  go_wp2_with fail
  go_loopw [7, 8] (fun v i wr => ∃ k : Nat, k ≤ l.length ∧ i = .int .i64 k ∧ Hid (Own wr w.heap.size v (List.replicate k 255)) ∧ Hid (Below w.heap.size w wr)) (fun _ i _ => l.length - (intOf i).toNat)
  case atStart => exact ⟨0, by omega, rfl, Own.nil _ _, Below.refl _ _⟩
  case round =>
    obtain ⟨k, hk, rfl, HO, HBk⟩ := hrel
    by_cases hlt : k < l.length
    · have HN := Lib.hid (show List.replicate k (255 : UInt8) ++ [255] = List.replicate (k + 1) 255 from List.replicate_succ'.symm)
      have hkl : (List.replicate k (255 : UInt8)).length + 1 ≤ 140737488355328 := by rw [List.length_replicate]; omega
      go_wp2_with (at_builtin; refine app1 (w0 := w) w.heap.size rfl (.tmp 17) (.tmp 18) rfl _ (List.replicate k 255) 255 _ rfl rfl rfl HO.out HBk.out HBk.out.size hkl ?_; intro v2 w2 hown hb _ _; rw [HN.out] at hown; have HO2 := Lib.hid hown; have HB2 := Lib.hid hb; clear hown hb)
      go_roundw
      case rel => exact ⟨k + 1, by omega, by go_num, HO2, HB2⟩
      case measure => simp [intOf]; omega
    · obtain rfl : k = l.length := by omega
      obtain ⟨z, hz⟩ : ∃ z, z = List.replicate l.length (255 : UInt8) := ⟨_, rfl⟩
      rw [← hz] at HO
      obtain ⟨Az, cz, rfl, -, hrz⟩ := HO.out.reads
      have HRZ := Lib.hid hrz
      have HZ := Lib.hid hz
      clear hz hrz hlt hk
      go_wp2_with fail
      refine (HP.out wr (Kd.C_below HR2.out HBk.out)).mono ?_
      rintro e w1 ⟨rfl, hb⟩
      have HB1 := Lib.hid (below_step' HBk.out hb)
      have HRZ1 := Lib.hid (HRZ.out.below hb)
      clear hb
      obtain ⟨wo, hwo⟩ : ∃ wo : World, wo = w1 := ⟨_, rfl⟩
      rw [← hwo] at HB1 HRZ1 ⊢
      clear hwo
      go_wp2_with fail
      go_loopw [10] (fun i wx => ∃ k : Nat, k ≤ l.length + 1 ∧ i = .int .i64 k ∧ Hid (Below wo.heap.size wo wx)) (fun i _ => l.length + 1 - (intOf i).toNat)
      case atStart => exact ⟨0, by omega, rfl, Below.refl _ _⟩
      case round =>
        obtain ⟨k, hk, rfl, HBx⟩ := hrel
        have HBw := Lib.hid (below_step' HB1.out HBx.out)
        by_cases hle : k ≤ l.length
        · obtain ⟨t, ht, hcut, hrt, htc, htl⟩ := cutW (A := A2) (l := l) (c := c2) (k : Int) (by omega) (by omega) hc2
          have HRT := Lib.hid (fun (W : World) (h : RdW W A2 l) => hrt W h)
          have hp1 : (allL b t).length ≤ p := by rw [ht.out, Int.toNat_natCast]; exact HPA.out k
          have hp2 : (survL b t ch).length ≤ p := by rw [ht.out, Int.toNat_natCast]; exact HPS.out k
          clear ht hrt htl
          go_wp2_with fail
          refine (HFA.out A2 c2 t _ (HR.out.below HBw.out) (HRT.out _ (Kd.C_below HR2.out HBw.out))).mono ?_
          rintro e w2 ⟨v2, rfl, hown, hb⟩
          obtain ⟨A4, c4, rfl, -, -⟩ := hown.reads
          have HB2 := Lib.hid (below_step' HBx.out hb)
          have HBw2 := Lib.hid (below_step' HBw.out hb)
          clear hown hb
          have hq1 : ¬ ((allL b t).length : Int) > (p : Int) := by omega
          go_wp2_with fail
          refine (HFS.out A2 c2 t A3 c3 ch _ (HR.out.below HBw2.out) (HRT.out _ (Kd.C_below HR2.out HBw2.out)) (HR3.out.below HBw2.out)).mono ?_
          rintro e w3 ⟨v3, rfl, hown, hb⟩
          obtain ⟨A5, c5, rfl, -, -⟩ := hown.reads
          have HB3 := Lib.hid (below_step' HB2.out hb)
          clear hown hb
          have hq2 : ¬ ((survL b t ch).length : Int) > (p : Int) := by omega
          go_wp2_with fail
          go_roundw
          case rel => exact ⟨k + 1, by omega, by go_num, HB3⟩
          case measure => simp [intOf]; omega
        · have hsl := HSL.out l z
          have HEQ := Lib.hid (show survL b l z = allL b l by rw [HZ.out]; exact survL_all l b)
          have HEN := Lib.hid (survL_nil b l)
          have hal := HAL.out l
          obtain ⟨ya, hya⟩ : ∃ ya, ya = allL b l := ⟨_, rfl⟩
          rw [← hya] at HEQ hal
          have HA := Lib.hid (fun (W : World) (h1 : Rd W A b) (h2 : RdW W A2 l) => (show Calls Try.prog 17 #[.slice A b.length c, .slice A2 l.length c2] W (Made W ya) from hya ▸ HFA.out A2 c2 l W h1 h2))
          have HS1 := Lib.hid (fun (W : World) (h1 : Rd W A b) (h2 : RdW W A2 l) (h3 : Rd W Az z) => (show Calls Try.prog 20 #[.slice A b.length c, .slice A2 l.length c2, .slice Az z.length cz] W (Made W ya) from HEQ.out ▸ HFS.out A2 c2 l Az cz z W h1 h2 h3))
          have HS2 := Lib.hid (fun (W : World) (h1 : Rd W A b) (h2 : RdW W A2 l) => (show Calls Try.prog 20 #[.slice A b.length c, .slice A2 l.length c2, .slice none 0 0] W (Made W b) from by have := HFS.out A2 c2 l none 0 [] W h1 h2 (Rd.nil W); rwa [HEN.out] at this))
          have hyb : ya.length ≤ 140737488355328 := by omega
          clear hya hsl hal
          go_wp2_with fail
          refine (HS1.out _ (HR.out.below HBw.out) (Kd.C_below HR2.out HBw.out) (HRZ1.out.below HBx.out)).mono ?_
          rintro e w2 ⟨v2, rfl, hown, hb⟩
          obtain ⟨A4, c4, rfl, -, hr4⟩ := hown.reads
          have HR4 := Lib.hid hr4
          have HB2 := Lib.hid (below_step' HBw.out hb)
          clear hown hb hr4
          go_wp2_with fail
          refine (HA.out _ (HR.out.below HB2.out) (Kd.C_below HR2.out HB2.out)).mono ?_
          rintro e w3 ⟨v3, rfl, hown, hb⟩
          obtain ⟨A5, c5, rfl, -, hr5⟩ := hown.reads
          have HR5 := Lib.hid hr5
          have HR43 := Lib.hid (HR4.out.below hb)
          have HB3 := Lib.hid (below_step' HB2.out hb)
          clear hown hb hr5
          go_wp2_with fail
          refine (same_yes A4 c4 A5 c5 ya w3 hyb HR43.out HR5.out).mono ?_
          rintro e w4 ⟨rfl, n, hw4⟩
          have HB4 := Lib.hid (show Below w.heap.size w w4 by rw [hw4]; exact pw_below_drewN HB3.out n)
          clear hw4
          go_wp2_with fail
          refine (HS2.out _ (HR.out.below HB4.out) (Kd.C_below HR2.out HB4.out)).mono ?_
          rintro e w5 ⟨v5, rfl, hown, hb⟩
          obtain ⟨A6, c6, rfl, -, hr6⟩ := hown.reads
          have HR6 := Lib.hid hr6
          have HB5 := Lib.hid (below_step' HB4.out hb)
          clear hown hb hr6
          go_wp2_with fail
          refine (same_yes A6 c6 A c b w5 (by omega) HR6.out (HR.out.below HB5.out)).mono ?_
          rintro e w6 ⟨rfl, n, hw6⟩
          have HB6 := Lib.hid (show Below w.heap.size w w6 by rw [hw6]; exact pw_below_drewN HB5.out n)
          clear hw6
          go_wp2_with fail
          refine (lives_any _).mono ?_
          rintro e w7 ⟨rfl, hb⟩
          have HB7 := Lib.hid (below_step' HB6.out hb)
          clear hb
          go_wp2_with fail
          go_ret
          exact ⟨rfl, HB7.out⟩
end Go.Proofs.Ytkgbimkjpllakaa.L09
