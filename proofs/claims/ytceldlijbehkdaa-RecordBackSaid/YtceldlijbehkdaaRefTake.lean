/- stillageref01: Take, TakeText, Same: what each call answers. -/
import Derived.Test.YtceldlijbehkdaaFixed
import Derived.BigQuiet
import Derived.Deep.QuietTactic
set_option linter.unusedVariables false
set_option linter.unusedSimpArgs false
namespace Go.Proofs.Ytceldlijbehkdaa.R01
open Go.RowKit Go.Proofs.YtceldlijbehkdaaW.PrintWords Go.Proofs.Ytceldlijbehkdaa.B Go.Proofs.Ytceldlijbehkdaa.Fx

theorem le_drop {x : List UInt8} {k : Nat} (hk : k < x.length) : le (x.drop k) = (x.getD k 0).toNat + 256 * le (x.drop (k + 1)) := by
  rw [List.drop_eq_getElem_cons hk]; simp [le, hk]
theorem le_lt8 {x : List UInt8} (h : x.length ≤ 8) : le x < 18446744073709551616 :=
  Nat.lt_of_lt_of_le (le_lt x) (Nat.le_trans (Nat.pow_le_pow_right (by omega) h) (by decide))
theorem take_step {l : List UInt8} {p s k : Nat} (hk : k < s) (hs : s ≤ 8) (hp : p + s ≤ l.length) :
    IntKind.u64.wrap (IntKind.u64.wrap ((le (((l.drop p).take s).drop (k + 1)) : Int) * 256) + B.bt l (p + k)) = (le (((l.drop p).take s).drop k) : Int) := by
  have hl : k < ((l.drop p).take s).length := by rw [List.length_take, List.length_drop]; omega
  have h1 := le_drop hl
  have h2 : le (((l.drop p).take s).drop k) < 18446744073709551616 := le_lt8 (by rw [List.length_drop, List.length_take]; omega)
  have h3 : (((l.drop p).take s).getD k 0).toNat = (l.getD (p + k) 0).toNat := by simp [hk]
  have h4 : B.bt l (p + k) = ((l.getD (p + k) 0).toNat : Int) := rfl
  rw [IntWalk.u64_in ((le (((l.drop p).take s).drop (k + 1)) : Int) * 256) (by omega), IntWalk.u64_in _ (by omega)]
  omega

set_option maxHeartbeats 400000 in
theorem take_any (A : Option Addr) (c : Nat) (l : List UInt8) (pos size : Int) (w : World) (hl : l.length ≤ 140737488355328) (hr : Rd w A l) :
    Calls Try.prog 67 #[.slice A l.length c, .int .i64 pos, .int .i64 size] w (Still (.tuple #[.int .u64 (takeN l pos size), .bool (takeOk l pos size)]) w) := by
  have HR := Lib.hid hr
  clear hr
  by_cases h1 : size < 1
  · have HN := Lib.hid (takeOk_no (l := l) (pos := pos) (.inl h1))
    go_enter Try.func67, Try.ntmps67
    go_wp2
    go_ret2
    exact ⟨ret_eq (no_tuple HN.out), rfl⟩
  by_cases h2 : 8 < size
  · have HN := Lib.hid (takeOk_no (l := l) (pos := pos) (.inr h2))
    go_enter Try.func67, Try.ntmps67
    go_wp2
    go_ret2
    exact ⟨ret_eq (no_tuple HN.out), rfl⟩
  by_cases h3 : pos < 0
  · have HN := Lib.hid (show takeOk l pos size = false by simp [takeOk]; omega)
    go_enter Try.func67, Try.ntmps67
    go_wp2
    go_ret2
    exact ⟨ret_eq (no_tuple HN.out), rfl⟩
  by_cases h4 : (l.length : Int) - size < pos
  · have HN := Lib.hid (show takeOk l pos size = false by simp [takeOk]; omega)
    go_enter Try.func67, Try.ntmps67
    go_wp2
    go_ret2
    exact ⟨ret_eq (no_tuple HN.out), rfl⟩
  have hp2 : pos + size ≤ l.length := by omega
  obtain ⟨p, rfl⟩ := Int.eq_ofNat_of_zero_le (show 0 ≤ pos by omega)
  obtain ⟨s, rfl⟩ := Int.eq_ofNat_of_zero_le (show 0 ≤ size by omega)
  have HN := Lib.hid (show takeOk l p s = true by simp [takeOk]; omega)
  go_enter Try.func67, Try.ntmps67
  go_wp2
  go_loop [8, 9] (fun n i => ∃ k : Nat, k ≤ s ∧ i = .int .i64 ((k : Int) - 1) ∧ n = .int .u64 (le (((l.drop p).take s).drop k))) (fun _ i => (intOf i + 1).toNat)
  case atStart => exact ⟨s, by omega, rfl, by simp [le]⟩
  case round =>
    obtain ⟨k, hk, rfl, rfl⟩ := hrel
    by_cases hlt : 1 ≤ k
    · obtain ⟨k, rfl⟩ : ∃ j, k = j + 1 := ⟨k - 1, by omega⟩
      obtain ⟨ad, rfl, hc⟩ := HR.out.at_ (p + k) (by omega)
      have hb := bt_bd l (p + k)
      have HS := Lib.hid (take_step (l := l) (p := p) (k := k) (s := s) (by omega) (by omega) (by omega))
      rw [show ((k + 1 : Nat) : Int) - 1 = k by omega]
      go_wp2
      go_round
      case rel => exact ⟨k, by omega, rfl, congrArg (Value.int .u64) HS.out⟩
      case measure => simp [intOf]
    · obtain rfl : k = 0 := by omega
      rw [show ((0 : Nat) : Int) - 1 = -1 by omega]
      go_wp2
      go_ret2
      exact ⟨ret_eq (yes_tuple HN.out), rfl⟩

end Go.Proofs.Ytceldlijbehkdaa.R01
