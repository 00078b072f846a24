/- stillagelaw05: the walk of CrcBursts. -/
import Derived.Test.YtcgjngcogdmbaaaCrcTurn
import Derived.Test.YtcgjngcogdmbaaaRef01
set_option linter.unusedVariables false
set_option linter.unusedSimpArgs false
namespace Go.Proofs.Ytcgjngcogdmbaaa.L05
open Go.RowKit Go.Proofs.YtcgjngcogdmbaaaW.PrintWords Go.Proofs.Ytcgjngcogdmbaaa.B Go.Proofs.Ytcgjngcogdmbaaa.CrcW

set_option maxRecDepth 100000 in
set_option maxHeartbeats 400000 in
theorem bursts_any (A : Option Addr) (c : Nat) (l : List UInt8) (bit : Int) (mask : Nat) (w : World) (hr : Rd w A l) (hc : l.length ≤ c) (hl : l.length ≤ 1048576) (hbt : -9223372036854775808 ≤ bit ∧ bit ≤ 9223372036854775807) (hm : mask < 4294967296) :
    Calls Try.prog 8 #[.slice A l.length c, .int .i64 bit, .int .u32 mask] w (Kept (.bool true) w) := by
  have HR := Lib.hid hr
  have HT := Lib.hid (turn_any A c l bit mask w hr hl hm hbt)
  clear hr
  have H22 := Lib.hid (fun (W : World) (hr : Rd W A l) => CrcW.sum_any A c l W hr)
  go_enter Try.func8, Try.ntmps8
  go_wp2_with fail
  refine HT.out.mono ?_
  rintro e w1 ⟨v1, y, rfl, hown, hs, hb, hyl⟩
  obtain ⟨X, d, rfl, hyd, hrx⟩ := hown.reads
  have HB1 := Lib.hid hb
  have HX := Lib.hid hrx
  have HYL := Lib.hid hyl
  have H22y := Lib.hid (fun (W : World) (hr : Rd W X y) => CrcW.sum_any X d y W hr)
  have HSM := Lib.hid (show R01.sameB l y = (Crc.sum (nums8 y) == Crc.sum (nums8 l)) by
    by_cases he : y = l
    · subst he; simp [R01.sameB]
    · have h2 : ¬ Crc.sum (nums8 y) = Crc.sum (nums8 l) := fun h => he (hs.1 h)
      rw [show (Crc.sum (nums8 y) == Crc.sum (nums8 l)) = false by simpa using h2]
      unfold R01.sameB
      simpa using fun h => he h.symm)
  have hyl2 : y.length ≤ 1048576 := by omega
  clear hown hb hrx hs hyl
  generalize Crc.sum (nums8 l) = sl at *
  generalize Crc.sum (nums8 y) = sy at *
  go_wp2_with fail
  refine (H22y.out _ HX.out).mono ?_
  rintro e w2 ⟨rfl, hb⟩
  have K2 := Lib.hid hb
  have HB2 := Lib.hid (below_step' HB1.out hb)
  clear hb
  go_wp2_with fail
  refine (H22.out _ (HR.out.below HB2.out)).mono ?_
  rintro e w3 ⟨rfl, hb⟩
  have K3 := Lib.hid hb
  have HB3 := Lib.hid (below_step' HB2.out hb)
  clear hb
  go_wp2_with fail
  refine (R01.same_any A c l X d y _ (by omega) (HR.out.below HB3.out) ((HX.out.below K2.out).below K3.out)).mono ?_
  rintro e w4 ⟨rfl, n, rfl⟩
  rw [HSM.out]
  have HB4 := Lib.hid (below_step' HB3.out (pw_below_drewN (Below.refl _ _) n))
  have hcast : ((sy : Int) == (sl : Int)) = (sy == sl) := by
    rcases Nat.decEq sy sl with h | h
    · have : ((sy : Int) == (sl : Int)) = false := by simp; omega
      rw [this]; simp [h]
    · subst h; simp
  generalize (sy == sl) = p at *
  go_wp2_with fail
  refine (CrcW.lives_any _).mono ?_
  rintro e w5 ⟨rfl, hb⟩
  have HB5 := Lib.hid (below_step' HB4.out hb)
  clear hb
  go_wp2_with fail
  go_ret
  exact ⟨rfl, HB5.out⟩
end Go.Proofs.Ytcgjngcogdmbaaa.L05
