/- stillagelaw05: the walk of CrcSums. -/
import Derived.Test.YtcgjngcogdmbaaaCrcRefSum
set_option linter.unusedVariables false
set_option linter.unusedSimpArgs false
namespace Go.Proofs.Ytcgjngcogdmbaaa.L05
open Go.RowKit Go.Proofs.YtcgjngcogdmbaaaW.PrintWords Go.Proofs.Ytcgjngcogdmbaaa.B Go.Proofs.Ytcgjngcogdmbaaa.CrcW

set_option maxRecDepth 100000 in
set_option maxHeartbeats 400000 in
theorem sums_any (A : Option Addr) (c : Nat) (l : List UInt8) (w : World) (hr : Rd w A l) (hc : l.length ≤ c) (hl : l.length ≤ 1048576) :
    Calls Try.prog 6 #[.slice A l.length c] w (Kept (.bool true) w) := by
  have HR := Lib.hid hr
  clear hr
  have H22 := Lib.hid (fun (W : World) (hr : Rd W A l) => CrcW.sum_any A c l W hr)
  have H23 := Lib.hid (fun (W : World) (hr : Rd W A l) => CrcW.refsum_any A c l W hr hl)
  generalize Crc.sum (nums8 l) = sl at *
  go_enter Try.func6, Try.ntmps6
  go_wp2_with fail
  refine (H22.out _ HR.out).mono ?_
  rintro e w1 ⟨rfl, hb⟩
  have HB1 := Lib.hid hb
  clear hb
  go_wp2_with fail
  refine (H23.out _ (HR.out.below HB1.out)).mono ?_
  rintro e w2 ⟨rfl, hb⟩
  have HB2 := Lib.hid (below_step' HB1.out hb)
  clear hb
  go_wp2_with fail
  refine (CrcW.lives_any _).mono ?_
  rintro e w3 ⟨rfl, hb⟩
  have HB3 := Lib.hid (below_step' HB2.out hb)
  clear hb
  go_wp2_with fail
  go_ret
  exact ⟨rfl, HB3.out⟩
end Go.Proofs.Ytcgjngcogdmbaaa.L05
