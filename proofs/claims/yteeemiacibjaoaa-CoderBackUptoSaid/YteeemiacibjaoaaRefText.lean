/- stillageref01: Take, TakeText, Same: what each call answers. -/
import Derived.Test.YteeemiacibjaoaaFixed
import Derived.BigQuiet
import Derived.Deep.QuietTactic
set_option linter.unusedVariables false
set_option linter.unusedSimpArgs false
namespace Go.Proofs.Yteeemiacibjaoaa.R01
open Go.RowKit Go.Proofs.YteeemiacibjaoaaW.PrintWords Go.Proofs.Yteeemiacibjaoaa.B Go.Proofs.Yteeemiacibjaoaa.Fx

set_option maxRecDepth 100000 in
set_option maxHeartbeats 400000 in
theorem takeText_any (A : Option Addr) (c : Nat) (l : List UInt8) (pos : Int) (w : World) (hl : l.length ≤ 140737488355328) (hc : l.length ≤ c) (hr : Rd w A l) :
    Calls Try.prog 73 #[.slice A l.length c, .int .i64 pos] w (Still (textV l pos) w) := by
  have HR := Lib.hid hr
  clear hr
  by_cases h1 : pos < 0
  · have HN := Lib.hid (show textOk l pos = false by simp [textOk]; omega)
    go_enter Try.func73, Try.ntmps73
    go_wp2
    go_ret3
    exact ⟨ret_eq (text_no HN.out), rfl⟩
  by_cases h2 : (l.length : Int) ≤ pos
  · have HN := Lib.hid (show textOk l pos = false by simp [textOk]; omega)
    go_enter Try.func73, Try.ntmps73
    go_wp2
    go_ret3
    exact ⟨ret_eq (text_no HN.out), rfl⟩
  obtain ⟨p, rfl⟩ := Int.eq_ofNat_of_zero_le (show 0 ≤ pos by omega)
  obtain ⟨ad, rfl, hcell⟩ := HR.out.at_ p (by omega)
  obtain ⟨n, hn⟩ : ∃ n, n = (l.getD p 0).toNat := ⟨_, rfl⟩
  have hn1 : n ≤ 255 := by have := (l.getD p 0).toNat_lt; omega
  rw [show B.bt l p = (n : Int) by rw [hn]; rfl] at hcell
  have HE := Lib.hid hn
  clear hn
  obtain ⟨A', y, hy, hcut, hrd, hyc, hyl⟩ := cutFrom (A := some ad) (c := c) ((p : Int) + 1) (by omega) (by omega) hc
  have hR := hrd w HR.out
  have HRy := Lib.hid hR
  have HYL := Lib.hid hyl
  clear hrd hR
  by_cases h3 : (y.length : Int) < n
  · have HF := Lib.hid (show textOk l p = false by have := HYL.out; simp only [textOk, Int.toNat_natCast, B.bt, ← HE.out, decide_eq_false_iff_not]; omega)
    clear hyl
    go_enter Try.func73, Try.ntmps73
    go_wp2
    go_ret3
    exact ⟨ret_eq (text_no HF.out), rfl⟩
  · have HF := Lib.hid (show textOk l p = true by have := HYL.out; simp only [textOk, Int.toNat_natCast, B.bt, ← HE.out, decide_eq_true_eq]; omega)
    clear hyl
    obtain ⟨z, hz, hcut2, hrd2, hzc, -⟩ := cutTo (A := A') (l := y) (c := c - ((p : Int) + 1).toNat) (n : Int) (by omega) (by omega) hyc
    have hconv := string_run (c - ((p : Int) + 1).toNat) (hrd2 w HRy.out)
    have HY := Lib.hid (text_yes (l := l) (p := p) (n := n) HF.out HE.out)
    rw [show (l.take (p + 1 + n)).drop (p + 1) = z from by rw [hz.out, hy.out, List.drop_take, show ((p : Int) + 1).toNat = p + 1 by omega, Int.toNat_natCast]; congr 1; omega] at HY
    clear hrd2 hyc hzc
    rw [show ((p : Int) + 1).toNat = p + 1 by omega] at *
    go_enter Try.func73, Try.ntmps73
    go_wp2
    go_ret3
    exact ⟨ret_eq HY.out, rfl⟩
end Go.Proofs.Yteeemiacibjaoaa.R01
