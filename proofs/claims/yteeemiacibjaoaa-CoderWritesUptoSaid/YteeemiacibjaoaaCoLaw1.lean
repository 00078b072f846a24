/- law23: CoderWrites. -/
import Derived.Test.YteeemiacibjaoaaCoRefW
import Derived.Test.YteeemiacibjaoaaCoLives
import Derived.Test.YteeemiacibjaoaaSame
set_option linter.unusedVariables false
set_option linter.unusedSimpArgs false
namespace Go.Proofs.Yteeemiacibjaoaa.Co
open Go.RowKit Go.Proofs.YteeemiacibjaoaaW.PrintWords Go.Proofs.Yteeemiacibjaoaa.B Go.Proofs.Yteeemiacibjaoaa.Fx Go.Proofs.Yteeemiacibjaoaa.Fr Go.Proofs.Yteeemiacibjaoaa.O

theorem bytesR_of {b : List UInt8} {od : Bool} {w w' : World} {e : Ending} (h : BytesR b od w e w') : ∃ A c x, e = .returned (.tuple #[.slice A x.length c, .int .i64 (if od = true then 2 else 0)]) ∧ Hid (x = if od = true then [] else seal4 b) ∧ x.length ≤ c ∧ Own w' w.heap.size (.slice A x.length c) x ∧ Below w.heap.size w w' := by
  obtain ⟨v, rfl, hown, hb⟩ := h
  obtain ⟨x, hx⟩ : ∃ x, (if od = true then [] else seal4 b) = x := ⟨_, rfl⟩
  rw [hx] at hown
  obtain ⟨A, c, rfl, hc, -⟩ := hown.reads
  exact ⟨A, c, x, rfl, hx.symm, hc, hown, hb⟩
theorem seal_le (b : List UInt8) (od : Bool) : (if od = true then [] else seal4 b).length ≤ b.length + 4 := by
  split
  · simp
  · rw [seal4_len]; exact Nat.le_refl _
set_option maxRecDepth 100000 in
set_option maxHeartbeats 800000 in
theorem writes_any (s : ByteArray) (A : Option Addr) (c : Nat) (l : List Pt) (w : World) (hs : s.size ≤ 1048576) (hr : RdP w A l) (hc : l.length ≤ c) (hm : ms mPt l ≤ 1048576) :
    Calls Try.prog 8 #[.string s, .slice A l.length c] w (Kept (.bool true) w) := by
  have HR := Lib.hid hr
  have HW1 := Lib.hid (write_any s A c l w hs hm hr)
  have HW2 := Lib.hid (fun (W : World) (h : RdP W A l) => refw_any s A c l W hs hm h)
  have hbl : (wrB s.data.toList l).length ≤ 16000000 := by have := wrB_len s.data.toList l; simp at this; omega
  have hsl := seal_le (wrB s.data.toList l) (!okL l)
  have HSL := Lib.hid hsl
  generalize wrB s.data.toList l = b at *
  generalize (!okL l) = od at *
  clear hr hsl
  cases od
  all_goals
    go_enter Try.func8, Try.ntmps8
    go_wp2_with fail
    refine HW1.out.mono ?_
    rintro e w1 h1
    obtain ⟨A1, c1, x, rfl, hx, hc1, hown, hb⟩ := bytesR_of h1
    have HB1 := Lib.hid hb
    have HX := Lib.hid hx.out
    have HR1 := Lib.hid hown.rd
    clear h1 hown hb
    go_wp2_with fail
    refine (HW2.out w1 (HR.out.below HB1.out)).mono ?_
    rintro e w2 h2
    obtain ⟨A2, c2, y, rfl, hy, hc2, hown, hb⟩ := bytesR_of h2
    obtain rfl : y = x := by rw [hy.out, HX.out] <;> simp
    have HB2 := Lib.hid (below_step' HB1.out hb)
    have HRX := Lib.hid (HR1.out.below hb)
    have HRY := Lib.hid hown.rd
    have hxl : y.length ≤ 16000004 := by have h1 := HSL.out; have h2 := HX.out; rw [h2]; simp at h1 ⊢ <;> omega
    have HSS := Lib.hid (show R01.sameB y y = true by simp [R01.sameB])
    clear h2 hown hb
    go_wp2_with fail
    refine (R01.same_any A1 c1 y A2 c2 y w2 (by omega) HRX.out HRY.out).mono ?_
    rintro e w3 ⟨rfl, n3, rfl⟩
    rw [HSS.out]
    go_wp2_with fail
    refine (lives_any _).mono ?_
    rintro e w4 ⟨rfl, hb⟩
    have HB4 := Lib.hid (below_step' (pw_below_drewN HB2.out n3) hb)
    clear hb
    go_wp2_with fail
    go_ret
    exact ⟨rfl, HB4.out⟩
end Go.Proofs.Yteeemiacibjaoaa.Co
