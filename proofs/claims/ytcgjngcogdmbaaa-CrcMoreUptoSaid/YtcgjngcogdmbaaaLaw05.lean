/- stillagelaw05: the walk of CrcMore. -/
import Derived.Test.YtcgjngcogdmbaaaCrcMore
set_option linter.unusedVariables false
set_option linter.unusedSimpArgs false
namespace Go.Proofs.Ytcgjngcogdmbaaa.L05
open Go.RowKit Go.Proofs.YtcgjngcogdmbaaaW.PrintWords Go.Proofs.Ytcgjngcogdmbaaa.B Go.Proofs.Ytcgjngcogdmbaaa.CrcW

set_option maxRecDepth 100000 in
set_option maxHeartbeats 400000 in
theorem more_any (A : Option Addr) (c : Nat) (l : List UInt8) (B : Option Addr) (d : Nat) (m : List UInt8) (w : World) (hra : Rd w A l) (hca : l.length ≤ c) (hsa : l.length ≤ 1048576) (hrb : Rd w B m) (hcb : m.length ≤ d) (hsb : m.length ≤ 1048576) :
    Calls Try.prog 7 #[.slice A l.length c, .slice B m.length d] w (Kept (.bool true) w) := by
  have HA := Lib.hid hra
  have HB := Lib.hid hrb
  clear hra hrb
  obtain ⟨x, hx⟩ : ∃ x, x = l ++ m := ⟨_, rfl⟩
  have hs1 := Crc.more_sum (nums8 l) (nums8 m) (nums8_lt l)
  rw [show nums8 l ++ nums8 m = nums8 x by rw [hx]; simp [nums8]] at hs1
  have HS1 := Lib.hid hs1
  have hlt := Crc.sum_lt (nums8 l) (nums8_lt l)
  have H25 := Lib.hid (fun (W : World) (hr : Rd W B m) => CrcW.more_any B d m _ W hr hlt)
  have H25n := Lib.hid (fun (W : World) => CrcW.more_any none 0 [] _ W (Rd.nil W) hlt)
  have HX := Lib.hid hx
  rw [show nums8 [] = [] from rfl, Crc.more_nil] at H25n
  rw [hs1] at H25
  have H22x := Lib.hid (fun (X : Option Addr) (e : Nat) (W : World) (hr : Rd W X x) => CrcW.sum_any X e x W hr)
  have H22 := Lib.hid (fun (W : World) (hr : Rd W A l) => CrcW.sum_any A c l W hr)
  clear hx hs1 HS1
  generalize Crc.sum (nums8 l) = sl at *
  generalize Crc.sum (nums8 x) = sx at *
  go_enter Try.func7, Try.ntmps7
  go_wp2_with (first
    | (at_builtin; refine appRow (w0 := w) w.heap.size rfl (.tmp 6) (.tmp 7) rfl _ [] l A l.length c rfl rfl rfl (own_lit w w.heap.size (Nat.le_refl _) [] _ rfl (by simp)) (HA.out.below (below_alloc (Below.refl _ _) _)) (below_alloc (Below.refl _ _) _) (by simp) (by simp; omega) ?_; intro v2 w2 hown hb _ _; rw [List.nil_append] at hown; have HO2 := Lib.hid hown; have HB2 := Lib.hid hb; clear hown hb)
    | (at_builtin; refine appRow (w0 := w) w.heap.size rfl (.tmp 8) (.tmp 9) rfl v2 l m B m.length d rfl rfl rfl HO2.out (HB.out.below HB2.out) HB2.out HB2.out.size (by omega) ?_; intro v3 w3 hown hb _ _; rw [← HX.out] at hown; obtain ⟨X, e, rfl, -, hrx⟩ := hown.reads; have HRX := Lib.hid hrx; have HB3 := Lib.hid hb; clear hown hb hrx))
  refine (H22.out _ (HA.out.below HB3.out)).mono ?_
  rintro e w4 ⟨rfl, hb⟩
  have HB4 := Lib.hid (below_step' HB3.out hb)
  have K4 := Lib.hid hb
  clear hb
  go_wp2_with fail
  refine (H25.out _ (HB.out.below HB4.out)).mono ?_
  rintro e w5 ⟨rfl, hb⟩
  have HB5 := Lib.hid (below_step' HB4.out hb)
  have K5 := Lib.hid hb
  clear hb
  go_wp2_with fail
  refine (H22x.out X _ _ ((HRX.out.below K4.out).below K5.out)).mono ?_
  rintro e w6 ⟨rfl, hb⟩
  have HB6 := Lib.hid (below_step' HB5.out hb)
  have K6 := Lib.hid hb
  clear hb
  go_wp2_with fail
  refine (H22.out _ (HA.out.below HB6.out)).mono ?_
  rintro e w7 ⟨rfl, hb⟩
  have HB7 := Lib.hid (below_step' HB6.out hb)
  have K7 := Lib.hid hb
  clear hb
  go_wp2_with fail
  refine (H25n.out _).mono ?_
  rintro e w8 ⟨rfl, hb⟩
  have HB8 := Lib.hid (below_step' HB7.out hb)
  have K8 := Lib.hid hb
  clear hb
  go_wp2_with fail
  refine (H22.out _ (HA.out.below HB8.out)).mono ?_
  rintro e w9 ⟨rfl, hb⟩
  have HB9 := Lib.hid (below_step' HB8.out hb)
  have K9 := Lib.hid hb
  clear hb
  go_wp2_with fail
  refine (CrcW.lives_any _).mono ?_
  rintro e w10 ⟨rfl, hb⟩
  have HB10 := Lib.hid (below_step' HB9.out hb)
  have K10 := Lib.hid hb
  clear hb
  go_wp2_with fail
  go_ret
  exact ⟨rfl, HB10.out⟩
end Go.Proofs.Ytcgjngcogdmbaaa.L05
