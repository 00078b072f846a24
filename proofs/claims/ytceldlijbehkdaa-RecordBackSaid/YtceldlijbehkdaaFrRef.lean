/- stillageref13: the walks of Make, Parse. -/
import Derived.Test.YtceldlijbehkdaaFrParse
import Derived.Test.YtceldlijbehkdaaCrcRefSum
import Derived.Test.YtceldlijbehkdaaRefPut
import Derived.Test.YtceldlijbehkdaaRefTake
import Derived.Test.YtceldlijbehkdaaSame
import Derived.Deep.RegionHeld3
set_option linter.unusedVariables false
set_option linter.unusedSimpArgs false
namespace Go.Proofs.Ytceldlijbehkdaa.Fr
open Go.RowKit Go.Proofs.YtceldlijbehkdaaW.PrintWords Go.Proofs.Ytceldlijbehkdaa.B Go.Proofs.Ytceldlijbehkdaa.Fx Go.Proofs.Ytceldlijbehkdaa.CrcW

theorem refcsum_any (A : Option Addr) (c : Nat) (l : List UInt8) (w : World) (hr : Rd w A l) (hl : l.length ≤ 16777216) :
    Calls Try.prog 48 #[.slice A l.length c] w (Kept (.int .u32 (csum l : Nat)) w) := refsum_any A c l w hr hl
theorem putB1 (q : Nat) : putB q 1 = [UInt8.ofNat q] := by simp [putB]
set_option maxRecDepth 100000 in
set_option maxHeartbeats 800000 in
theorem refmake_any (k : Int) (s : Nat) (A : Option Addr) (c : Nat) (d : List UInt8) (w : World) (hk : -9223372036854775808 ≤ k ∧ k ≤ 9223372036854775807) (hs : s < 18446744073709551616) (hd : d.length ≤ 16777000) (hr : Rd w A d) :
    Calls Try.prog 18 #[.int .i64 k, .int .u64 s, .slice A d.length c] w (Made w (makeL (kindN k) s d)) := by
  have HR := Lib.hid hr
  clear hr
  obtain ⟨q, hq⟩ : ∃ q : Nat, kindN k = q := ⟨_, rfl⟩
  have HQ := Lib.hid (show k % 256 = ((UInt8.ofNat q).toNat : Int) by
    unfold kindN at hq
    rw [UInt8.toNat_ofNat', ← hq]; omega)
  obtain ⟨y1, hy1⟩ : ∃ y, [UInt8.ofNat q] = y := ⟨_, rfl⟩
  obtain ⟨y2, hy2⟩ : ∃ y, y1 ++ putB s 8 = y := ⟨_, rfl⟩
  obtain ⟨y3, hy3⟩ : ∃ y, y2 ++ putB d.length 4 = y := ⟨_, rfl⟩
  have hs3 := csum_lt y3
  obtain ⟨s3, hs3e⟩ : ∃ s3, csum y3 = s3 := ⟨_, rfl⟩
  obtain ⟨y4, hy4⟩ : ∃ y, y3 ++ putB s3 4 = y := ⟨_, rfl⟩
  obtain ⟨y5, hy5⟩ : ∃ y, y4 ++ d = y := ⟨_, rfl⟩
  have hs5 := csum_lt y5
  obtain ⟨s5, hs5e⟩ : ∃ s5, csum y5 = s5 := ⟨_, rfl⟩
  have HF := Lib.hid (show y5 ++ putB s5 4 = makeL (kindN k) s d from by
    rw [hq, ← hs5e, ← hy5, ← hy4, ← hs3e, ← hy3, ← hy2, ← hy1, ← putB1]; rfl)
  have hl1 : y1.length = 1 := by rw [← hy1]; rfl
  have hl2 : y2.length = 9 := by rw [← hy2, List.length_append, putB_length, hl1]
  have hl3 : y3.length = 13 := by rw [← hy3, List.length_append, putB_length, hl2]
  have hl4 : y4.length = 17 := by rw [← hy4, List.length_append, putB_length, hl3]
  have hl5 : y5.length = 17 + d.length := by rw [← hy5, List.length_append, hl4]
  have k1 : y1.length ≤ 17 := by omega
  have k2 : y2.length ≤ 17 := by omega
  have k3 : y3.length ≤ 17 := by omega
  have k4 : y4.length ≤ 17 := by omega
  have k5 : y5.length ≤ 16777216 := by omega
  rw [hs3e] at hs3
  rw [hs5e] at hs5
  have H1 := Lib.hid hy1
  have H2 := Lib.hid hy2
  have H3 := Lib.hid hy3
  have H4 := Lib.hid hy4
  have H5 := Lib.hid hy5
  have C3 := Lib.hid (fun (A : Option Addr) (c : Nat) (W : World) (h : Rd W A y3) => (show Calls Try.prog 48 #[.slice A y3.length c] W (Kept (.int .u32 (s3 : Nat)) W) from hs3e ▸ refcsum_any A c y3 W h (by omega)))
  have C5 := Lib.hid (fun (A : Option Addr) (c : Nat) (W : World) (h : Rd W A y5) => (show Calls Try.prog 48 #[.slice A y5.length c] W (Kept (.int .u32 (s5 : Nat)) W) from hs5e ▸ refcsum_any A c y5 W h k5))
  clear hy1 hy2 hy3 hy4 hy5 hl1 hl2 hl3 hl4 hl5 hq hs3e hs5e
  go_enter Try.func18, Try.ntmps18
  go_wp2_with (at_builtin; refine app1 (w0 := w) w.heap.size rfl (.const (.slice none 0 0)) (.tmp 10) rfl _ [] (UInt8.ofNat q) _ rfl rfl HQ.out (Own.nil _ _) (Below.refl _ _) (Nat.le_refl _) (by simp) ?_; intro v1 w1 hown hb _ _; rw [List.nil_append, H1.out] at hown; have HO1 := Lib.hid hown; have HB1 := Lib.hid hb; clear hown hb)
  obtain ⟨A1, c1, rfl, hc1, hr1⟩ := HO1.out.reads
  have HR1 := Lib.hid hr1
  clear hr1
  go_wp2_with fail
  refine (R01.put_any A1 c1 y1 s 8 w1 (by omega) (by omega) (by omega) (by omega) HR1.out).mono ?_
  rintro e w2 ⟨v2, rfl, hown, hb⟩
  rw [H2.out] at hown
  obtain ⟨A2, c2, rfl, hc2, hr2⟩ := hown.reads
  have HR2 := Lib.hid hr2
  have HB2 := Lib.hid (below_step' HB1.out hb)
  have HO2 := Lib.hid (hown.lower HB1.out.size)
  clear hown hb hr2
  go_wp2_with fail
  refine (R01.put_any A2 c2 y2 d.length 4 w2 (by omega) (by omega) (by omega) (by omega) HR2.out).mono ?_
  rintro e w3 ⟨v3, rfl, hown, hb⟩
  rw [H3.out] at hown
  obtain ⟨A3, c3, rfl, hc3, hr3⟩ := hown.reads
  have HR3 := Lib.hid hr3
  have HB3 := Lib.hid (below_step' HB2.out hb)
  have HO3 := Lib.hid (hown.lower HB2.out.size)
  clear hown hb hr3
  go_wp2_with fail
  refine (C3.out A3 c3 w3 HR3.out).mono ?_
  rintro e w4 ⟨rfl, hb⟩
  have K4 := Lib.hid hb
  have HB4 := Lib.hid (below_step' HB3.out hb)
  clear hb
  go_wp2_with fail
  refine (R01.put_any A3 c3 y3 s3 4 w4 (by omega) (by omega) (by omega) (by omega) (HR3.out.below K4.out)).mono ?_
  rintro e w5 ⟨v5, rfl, hown, hb⟩
  rw [H4.out] at hown
  obtain ⟨A5, c5, rfl, hc5, hr5⟩ := hown.reads
  have HR5 := Lib.hid hr5
  have HB5 := Lib.hid (below_step' HB4.out hb)
  have HO5 := Lib.hid (hown.lower HB4.out.size)
  clear hown hb hr5
  go_wp2_with (at_builtin; refine appRow (w0 := w) w.heap.size rfl (.tmp 25) (.tmp 26) rfl _ y4 d A d.length c rfl rfl rfl HO5.out (HR.out.below HB5.out) HB5.out HB5.out.size (by omega) ?_; intro v6 w6 hown hb _ _; rw [H5.out] at hown; have HO6 := Lib.hid hown; have HB6 := Lib.hid hb; clear hown hb)
  obtain ⟨A6, c6, rfl, hc6, hr6⟩ := HO6.out.reads
  have HR6 := Lib.hid hr6
  clear hr6
  go_wp2_with fail
  refine (C5.out A6 c6 w6 HR6.out).mono ?_
  rintro e w7 ⟨rfl, hb⟩
  have K7 := Lib.hid hb
  have HB7 := Lib.hid (below_step' HB6.out hb)
  clear hb
  go_wp2_with fail
  refine (R01.put_any A6 c6 y5 s5 4 w7 (by omega) (by omega) (by omega) (by omega) (HR6.out.below K7.out)).mono ?_
  rintro e w8 ⟨v8, rfl, hown, hb⟩
  rw [HF.out] at hown
  obtain ⟨A8, c8, rfl, hc8, hr8⟩ := hown.reads
  have HR8 := Lib.hid hr8
  have HB8 := Lib.hid (below_step' HB7.out hb)
  have HO8 := Lib.hid (hown.lower HB7.out.size)
  clear hown hb hr8
  go_wp2_with fail
  go_ret
  exact ⟨_, rfl, HO8.out, HB8.out⟩
end Go.Proofs.Ytceldlijbehkdaa.Fr
