/- stillageref01.Put. -/
import Derived.Test.YtceldlijbehkdaaPutB
set_option linter.unusedVariables false
set_option linter.unusedSimpArgs false
namespace Go.Proofs.Ytceldlijbehkdaa.R01
open Go.RowKit Go.Proofs.YtceldlijbehkdaaW.PrintWords Go.Proofs.Ytceldlijbehkdaa.B Go.Proofs.Ytceldlijbehkdaa.Fx

set_option maxRecDepth 100000 in
set_option maxHeartbeats 400000 in
theorem put_any (A : Option Addr) (c : Nat) (l : List UInt8) (n s : Nat) (w : World) (hl : l.length ≤ 140737488355000) (hn : n < 18446744073709551616) (hs1 : 1 ≤ s) (hs8 : s ≤ 8) (hr : Rd w A l) :
    Calls Try.prog 47 #[.slice A l.length c, .int .u64 n, .int .i64 s] w (Made w (l ++ putB n s)) := by
  have HR := Lib.hid hr
  have HNN := Lib.hid hn
  clear hr hn
  go_enter Try.func47, Try.ntmps47
  go_wp2_with (at_builtin; refine appRow (w0 := w) w.heap.size rfl (.const (.slice none 0 0)) (.tmp 9) rfl _ [] l A l.length c rfl rfl rfl (Own.nil _ _) HR.out (Below.refl _ _) (Nat.le_refl _) (by simp; omega) ?_; intro v2 w2 hown hb _ _; rw [List.nil_append] at hown; have HO := Lib.hid hown; have HB := Lib.hid hb; clear hown hb)
  go_loopw [1, 7, 8] (fun x v i wr => ∃ (k q : Nat), k ≤ s ∧ i = .int .i64 k ∧ x = .int .u64 q ∧ q ≤ 18446744073709551615 ∧ Hid (q = n / 256 ^ k) ∧ Hid (Own wr w.heap.size v (l ++ putB n k)) ∧ Hid (Below w.heap.size w wr)) (fun _ _ i _ => s - (intOf i).toNat)
  case atStart => exact ⟨0, n, by omega, rfl, rfl, by have := HNN.out; omega, Lib.hid (by simp), Lib.hid (by simpa [putB] using HO.out), HB⟩
  case round =>
    obtain ⟨k, q, hk, rfl, rfl, hq, HQ, HOk, HBk⟩ := hrel
    by_cases hlt : k < s
    · have HN := Lib.hid (show ((q : Int) % 256) = ((UInt8.ofNat q).toNat : Int) by simp)
      have HLn : (l ++ putB n k).length + 1 ≤ 140737488355328 := by rw [List.length_append, putB_length]; omega
      have HE := Lib.hid (show (l ++ putB n k) ++ [UInt8.ofNat q] = l ++ putB n (k + 1) by rw [HQ.out, List.append_assoc]; rfl)
      have HQ2 := Lib.hid (show q / 256 = n / 256 ^ (k + 1) by rw [HQ.out, Nat.pow_succ, Nat.div_div_eq_div_mul])
      have hq2 : q / 256 ≤ 18446744073709551615 := by omega
      go_wp2_with (at_builtin; go_loud (refine app1 (w0 := w) w.heap.size rfl (.tmp 20) (.tmp 24) rfl _ (l ++ putB n k) (UInt8.ofNat q) _ rfl rfl HN.out HOk.out HBk.out HBk.out.size HLn ?_); intro v2 w2 hown hb _ _; have HO2 := Lib.hid hown; have HB2 := Lib.hid hb; clear hown hb)
      go_roundw
      case rel => exact ⟨k + 1, q / 256, by omega, by go_num, by go_num, hq2, HQ2, Lib.hid (by rw [← HE.out]; exact HO2.out), HB2⟩
      case measure => simp [intOf]; omega
    · obtain rfl : k = s := by omega
      go_wp2
      go_ret
      exact ⟨_, rfl, HOk.out, HBk.out⟩
end Go.Proofs.Ytceldlijbehkdaa.R01
