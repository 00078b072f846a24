/- law23: lives. -/
import Derived.Test.YteeemiacibjaoaaCoNew
import Derived.Test.YteeemiacibjaoaaCoW2
import Derived.Deep.RegionHeld3
set_option linter.unusedVariables false
set_option linter.unusedSimpArgs false
namespace Go.Proofs.Yteeemiacibjaoaa.Co
open Go.RowKit Go.Proofs.YteeemiacibjaoaaW.PrintWords Go.Proofs.Yteeemiacibjaoaa.B Go.Proofs.Yteeemiacibjaoaa.Fx Go.Proofs.Yteeemiacibjaoaa.Fr

def xL : List UInt8 := [120, 172, 2]
theorem enc300 : [120] ++ V.enc (300 : Int).toNat = xL := by
  show [120] ++ V.enc 300 = xL
  unfold V.enc V.enc; rfl
theorem x_num : numErr xL 1 300 = 0 ∧ numEnd xL 1 300 = 3 ∧ V.tNum xL ((1 : Nat) : Int) = 300 := by decide
theorem x_num2 : numErr xL 3 9 = 4 := by decide
theorem x_pre : Lib.hasPrefix xL [120] = true := by decide
set_option maxRecDepth 100000 in
set_option maxHeartbeats 800000 in
theorem lives_any (w : World) : Calls Try.prog 36 #[] w (Kept (.bool true) w) := by
  have HN := Lib.hid (neww_any ⟨#[120]⟩ w (by decide))
  have HW := Lib.hid (fun (base g : Nat) (W : World) (h : WrS W base g [120] false) => (show Calls Try.prog 43 #[.pointer (some ⟨g, 0, none⟩), .int .i64 300] W (Did base W (fun W' => WrS W' base g xL false)) from by
    have h := wnum_any base g [120] false 300 W (by decide) (by decide) h
    rw [enc300] at h
    exact h))
  have hx := seal_new (m := [120]) (x := xL) x_pre (by decide)
  have hsl := seal4_len xL
  have hsl7 : (seal4 xL).length = 7 := hsl
  generalize hX : seal4 xL = X at *
  have HB := Lib.hid (fun (base g : Nat) (W : World) (h : WrS W base g xL false) => (show Calls Try.prog 47 #[.pointer (some ⟨g, 0, none⟩)] W (fun e w' => ∃ v, e = .returned (.tuple #[v, .int .i64 0]) ∧ Own w' W.heap.size v X ∧ Below W.heap.size W w') from by
    have h := wbytes_any base g xL false W (by decide) h
    unfold BytesR at h
    rw [if_neg (by decide), if_neg (by decide), hX] at h
    exact h))
  have HR := Lib.hid (fun (A : Option Addr) (c : Nat) (W : World) (hc : X.length ≤ c) (hr : Rd W A X) => (show Calls Try.prog 37 #[.string ⟨#[120]⟩, .slice A X.length c] W (fun x w' => ∃ g, x = .returned (.pointer (some ⟨g, 0, none⟩)) ∧ RdS w' W.heap.size g xL 1 0 ∧ Below W.heap.size W w') from by
    have h := newr_any ⟨#[120]⟩ A c X W (by decide) (by omega) hc hr
    unfold NewD at h
    rw [show (⟨#[120]⟩ : ByteArray).data.toList = [120] from rfl, hx.1, hx.2.1, hx.2.2] at h
    exact h))
  have HN1 := Lib.hid (fun (base g : Nat) (W : World) (hb : base ≤ W.heap.size) (h : RdS W base g xL 1 0) => (show Calls Try.prog 68 #[.pointer (some ⟨g, 0, none⟩), .int .i64 300] W (RdD base g xL 3 0 (.int .i64 300) W) from by
    have h := rnum_any base g xL 1 0 300 W (by decide) (by decide) hb h
    rw [x_num.1, x_num.2.1, x_num.2.2] at h
    exact h))
  have HN2 := Lib.hid (fun (base g : Nat) (W : World) (hb : base ≤ W.heap.size) (h : RdS W base g xL 3 0) => (show Calls Try.prog 68 #[.pointer (some ⟨g, 0, none⟩), .int .i64 9] W (RdD base g xL 3 4 (.int .i64 0) W) from by
    have h := rnum_any base g xL 3 0 9 W (by decide) (by decide) hb h
    rw [x_num2] at h
    exact h))
  have HE1 := Lib.hid (fun (base g : Nat) (W : World) (h : RdS W base g xL 3 0) => (show Calls Try.prog 38 #[.pointer (some ⟨g, 0, none⟩)] W (Quiet (.int .i64 0) W) from rend_any base g xL 3 0 W h))
  have HE2 := Lib.hid (fun (base g : Nat) (W : World) (h : RdS W base g xL 3 4) => (show Calls Try.prog 38 #[.pointer (some ⟨g, 0, none⟩)] W (Quiet (.int .i64 4) W) from rend_any base g xL 3 4 W h))
  have HX7 := Lib.hid hsl7
  have hX7 : (X.length : Int) = 7 := by omega
  clear hx hsl hsl7 hX
  go_enter Try.func36, Try.ntmps36
  go_wp2_with fail
  refine HN.out.mono ?_
  rintro e w1 ⟨g, rfl, hs, hb⟩
  have HS1 := Lib.hid hs
  have HB1 := Lib.hid hb
  clear hs hb
  go_wp2_with fail
  refine (HW.out _ g w1 HS1.out).mono ?_
  rintro e w2 ⟨rfl, hs, hb⟩
  have HS2 := Lib.hid hs
  have HB2 := Lib.hid (HB1.out.trans hb)
  clear hs hb
  go_wp2_with fail
  refine (HB.out _ g w2 HS2.out).mono ?_
  rintro e w3 ⟨v, rfl, hown, hb⟩
  obtain ⟨A, c, rfl, hc, hr⟩ := hown.reads
  have HB3 := Lib.hid (HB2.out.trans (hb.mono HB2.out.size))
  have HR3 := Lib.hid hr
  clear hb hr hown
  go_wp2_with fail
  refine (HR.out A c w3 hc HR3.out).mono ?_
  rintro e w4 ⟨g4, rfl, hs, hb⟩
  have HS4 := Lib.hid hs
  have HB4 := Lib.hid (HB3.out.trans (hb.mono HB3.out.size))
  have H34 := Lib.hid hb.size
  clear hb hs
  go_wp2_with fail
  refine (HN1.out _ g4 w4 H34.out HS4.out).mono ?_
  rintro e w5 ⟨rfl, hs, hb, -⟩
  have HS5 := Lib.hid hs
  have HB5 := Lib.hid (HB4.out.trans (hb.mono HB3.out.size))
  have H35 := Lib.hid (Nat.le_trans H34.out hb.size)
  clear hb hs
  go_wp2_with fail
  refine (HE1.out _ g4 w5 HS5.out).mono ?_
  rintro e w6 ⟨rfl, n6, rfl⟩
  have HS6 := Lib.hid (show RdS (w5.drewN n6) w3.heap.size g4 xL 3 0 from HS5.out)
  go_wp2_with fail
  refine (HN2.out _ g4 (w5.drewN n6) H35.out HS6.out).mono ?_
  rintro e w7 ⟨rfl, hs, hb, -⟩
  have HS7 := Lib.hid hs
  have HB7 := Lib.hid ((pw_below_drewN HB5.out _).trans (hb.mono HB3.out.size))
  clear hb hs
  go_wp2_with fail
  refine (HE2.out _ g4 w7 HS7.out).mono ?_
  rintro e w8 ⟨rfl, n8, rfl⟩
  go_wp2_with fail
  go_ret
  exact ⟨rfl, pw_below_drewN HB7.out _⟩
end Go.Proofs.Yteeemiacibjaoaa.Co
