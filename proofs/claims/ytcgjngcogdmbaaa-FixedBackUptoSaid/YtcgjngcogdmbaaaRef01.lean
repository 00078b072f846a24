/- stillageref01: Take, TakeText, Same: what each call answers. -/
import Derived.Test.YtcgjngcogdmbaaaFixed
import Derived.BigQuiet
import Derived.Deep.QuietTactic
set_option linter.unusedVariables false
set_option linter.unusedSimpArgs false
namespace Go.Proofs.Ytcgjngcogdmbaaa.R01
open Go.RowKit Go.Proofs.YtcgjngcogdmbaaaW.PrintWords Go.Proofs.Ytcgjngcogdmbaaa.B Go.Proofs.Ytcgjngcogdmbaaa.Fx

theorem le_drop {x : List UInt8} {k : Nat} (hk : k < x.length) : le (x.drop k) = (x.getD k 0).toNat + 256 * le (x.drop (k + 1)) := by
  rw [List.drop_eq_getElem_cons hk]; simp [le, hk]
theorem le_lt8 {x : List UInt8} (h : x.length ≤ 8) : le x < 18446744073709551616 :=
  Nat.lt_of_lt_of_le (le_lt x) (Nat.le_trans (Nat.pow_le_pow_right (by omega) h) (by decide))
theorem take_step {l : List UInt8} {p s k : Nat} (hk : k < s) (hs : s ≤ 8) (hp : p + s ≤ l.length) :
    IntKind.u64.wrap (IntKind.u64.wrap ((le (((l.drop p).take s).drop (k + 1)) : Int) * 256) + B.bt l (p + k)) = (le (((l.drop p).take s).drop k) : Int) := by
  have hl : k < ((l.drop p).take s).length := by rw [List.length_take, List.length_drop]; omega
  have h1 := le_drop hl
  have h2 : le (((l.drop p).take s).drop k) < 18446744073709551616 := le_lt8 (by rw [List.length_drop, List.length_take]; omega)
  have h3 : (((l.drop p).take s).getD k 0).toNat = (l.getD (p + k) 0).toNat := by simp [hk]
  have h4 : B.bt l (p + k) = ((l.getD (p + k) 0).toNat : Int) := rfl
  rw [IntWalk.u64_in ((le (((l.drop p).take s).drop (k + 1)) : Int) * 256) (by omega), IntWalk.u64_in _ (by omega)]
  omega

set_option maxHeartbeats 400000 in
theorem take_any (A : Option Addr) (c : Nat) (l : List UInt8) (pos size : Int) (w : World) (hl : l.length ≤ 140737488355328) (hr : Rd w A l) :
    Calls Try.prog 31 #[.slice A l.length c, .int .i64 pos, .int .i64 size] w (Still (.tuple #[.int .u64 (takeN l pos size), .bool (takeOk l pos size)]) w) := by
  have HR := Lib.hid hr
  clear hr
  by_cases h1 : size < 1
  · have HN := Lib.hid (takeOk_no (l := l) (pos := pos) (.inl h1))
    go_enter Try.func31, Try.ntmps31
    go_wp2
    go_ret2
    exact ⟨ret_eq (no_tuple HN.out), rfl⟩
  by_cases h2 : 8 < size
  · have HN := Lib.hid (takeOk_no (l := l) (pos := pos) (.inr h2))
    go_enter Try.func31, Try.ntmps31
    go_wp2
    go_ret2
    exact ⟨ret_eq (no_tuple HN.out), rfl⟩
  by_cases h3 : pos < 0
  · have HN := Lib.hid (show takeOk l pos size = false by simp [takeOk]; omega)
    go_enter Try.func31, Try.ntmps31
    go_wp2
    go_ret2
    exact ⟨ret_eq (no_tuple HN.out), rfl⟩
  by_cases h4 : (l.length : Int) - size < pos
  · have HN := Lib.hid (show takeOk l pos size = false by simp [takeOk]; omega)
    go_enter Try.func31, Try.ntmps31
    go_wp2
    go_ret2
    exact ⟨ret_eq (no_tuple HN.out), rfl⟩
  have hp2 : pos + size ≤ l.length := by omega
  obtain ⟨p, rfl⟩ := Int.eq_ofNat_of_zero_le (show 0 ≤ pos by omega)
  obtain ⟨s, rfl⟩ := Int.eq_ofNat_of_zero_le (show 0 ≤ size by omega)
  have HN := Lib.hid (show takeOk l p s = true by simp [takeOk]; omega)
  go_enter Try.func31, Try.ntmps31
  go_wp2
  go_loop [8, 9] (fun n i => ∃ k : Nat, k ≤ s ∧ i = .int .i64 ((k : Int) - 1) ∧ n = .int .u64 (le (((l.drop p).take s).drop k))) (fun _ i => (intOf i + 1).toNat)
  case atStart => exact ⟨s, by omega, rfl, by simp [le]⟩
  case round =>
    obtain ⟨k, hk, rfl, rfl⟩ := hrel
    by_cases hlt : 1 ≤ k
    · obtain ⟨k, rfl⟩ : ∃ j, k = j + 1 := ⟨k - 1, by omega⟩
      obtain ⟨ad, rfl, hc⟩ := HR.out.at_ (p + k) (by omega)
      have hb := bt_bd l (p + k)
      have HS := Lib.hid (take_step (l := l) (p := p) (k := k) (s := s) (by omega) (by omega) (by omega))
      rw [show ((k + 1 : Nat) : Int) - 1 = k by omega]
      go_wp2
      go_round
      case rel => exact ⟨k, by omega, rfl, congrArg (Value.int .u64) HS.out⟩
      case measure => simp [intOf]
    · obtain rfl : k = 0 := by omega
      rw [show ((0 : Nat) : Int) - 1 = -1 by omega]
      go_wp2
      go_ret2
      exact ⟨ret_eq (yes_tuple HN.out), rfl⟩

set_option maxHeartbeats 400000 in
theorem takeText_any (A : Option Addr) (c : Nat) (l : List UInt8) (pos : Int) (w : World) (hl : l.length ≤ 140737488355328) (hc : l.length ≤ c) (hr : Rd w A l) :
    Calls Try.prog 33 #[.slice A l.length c, .int .i64 pos] w (Still (textV l pos) w) := by
  have HR := Lib.hid hr
  clear hr
  by_cases h1 : pos < 0
  · have HN := Lib.hid (show textOk l pos = false by simp [textOk]; omega)
    go_enter Try.func33, Try.ntmps33
    go_wp2
    go_ret3
    exact ⟨ret_eq (text_no HN.out), rfl⟩
  by_cases h2 : (l.length : Int) ≤ pos
  · have HN := Lib.hid (show textOk l pos = false by simp [textOk]; omega)
    go_enter Try.func33, Try.ntmps33
    go_wp2
    go_ret3
    exact ⟨ret_eq (text_no HN.out), rfl⟩
  obtain ⟨p, rfl⟩ := Int.eq_ofNat_of_zero_le (show 0 ≤ pos by omega)
  obtain ⟨ad, rfl, hcell⟩ := HR.out.at_ p (by omega)
  obtain ⟨n, hn⟩ : ∃ n, n = (l.getD p 0).toNat := ⟨_, rfl⟩
  have hn1 : n ≤ 255 := by have := (l.getD p 0).toNat_lt; omega
  rw [show B.bt l p = (n : Int) by rw [hn]; rfl] at hcell
  have HE := Lib.hid hn
  clear hn
  obtain ⟨A', y, hy, hcut, hrd, hyc, hyl⟩ := cutFrom (A := some ad) (c := c) ((p : Int) + 1) (by omega) (by omega) hc
  have hR := hrd w HR.out
  have HRy := Lib.hid hR
  have HYL := Lib.hid hyl
  clear hrd hR
  by_cases h3 : (y.length : Int) < n
  · have HF := Lib.hid (show textOk l p = false by have := HYL.out; simp only [textOk, Int.toNat_natCast, B.bt, ← HE.out, decide_eq_false_iff_not]; omega)
    clear hyl
    go_enter Try.func33, Try.ntmps33
    go_wp2
    go_ret3
    exact ⟨ret_eq (text_no HF.out), rfl⟩
  · have HF := Lib.hid (show textOk l p = true by have := HYL.out; simp only [textOk, Int.toNat_natCast, B.bt, ← HE.out, decide_eq_true_eq]; omega)
    clear hyl
    obtain ⟨z, hz, hcut2, hrd2, hzc, -⟩ := cutTo (A := A') (l := y) (c := c - ((p : Int) + 1).toNat) (n : Int) (by omega) (by omega) hyc
    have hconv := string_run (c - ((p : Int) + 1).toNat) (hrd2 w HRy.out)
    have HY := Lib.hid (text_yes (l := l) (p := p) (n := n) HF.out HE.out)
    rw [show (l.take (p + 1 + n)).drop (p + 1) = z from by rw [hz.out, hy.out, List.drop_take, show ((p : Int) + 1).toNat = p + 1 by omega, Int.toNat_natCast]; congr 1; omega] at HY
    clear hrd2 hyc hzc
    rw [show ((p : Int) + 1).toNat = p + 1 by omega] at *
    go_enter Try.func33, Try.ntmps33
    go_wp2
    go_ret3
    exact ⟨ret_eq HY.out, rfl⟩
/-- are bytes the same? -/
def sameB (a b : List UInt8) : Bool := decide (a = b)
theorem take_snoc_eq {a b : List UInt8} {k : Nat} (ha : k < a.length) (hb : k < b.length) (h : a.take k = b.take k) (hx : B.bt a k = B.bt b k) : a.take (k + 1) = b.take (k + 1) := by
  rw [List.take_succ_eq_append_getElem ha, List.take_succ_eq_append_getElem hb, h]
  congr 2
  have : (a.getD k 0).toNat = (b.getD k 0).toNat := by unfold B.bt at hx; omega
  simp [ha, hb] at this
  exact UInt8.toNat_inj.1 this
theorem sameB_ne {a b : List UInt8} {k : Nat} (ha : k < a.length) (hb : k < b.length) (hx : B.bt a k ≠ B.bt b k) : sameB a b = false := by
  unfold sameB; simp only [decide_eq_false_iff_not]
  rintro rfl; exact hx rfl
set_option maxHeartbeats 400000 in
theorem same_any (A : Option Addr) (c : Nat) (a : List UInt8) (A' : Option Addr) (c' : Nat) (b : List UInt8) (w : World) (hl : a.length ≤ 140737488355328) (hr : Rd w A a) (hr' : Rd w A' b) :
    Calls Try.prog 27 #[.slice A a.length c, .slice A' b.length c'] w (Quiet (.bool (sameB a b)) w) := by
  have HR := Lib.hid hr
  have HR' := Lib.hid hr'
  clear hr hr'
  by_cases h1 : a.length = b.length
  · have HL := Lib.hid h1
    have h1' : ((a.length : Int) != b.length) = false := by simp [h1]
    have hle1 : a.length ≤ b.length := by omega
    have hle2 : b.length ≤ a.length := by omega
    clear h1
    go_enter Try.func27, Try.ntmps27
    go_wp2
    go_loopw [5] (fun i wr => ∃ k n : Nat, k ≤ a.length ∧ i = .int .i64 k ∧ Hid (a.take k = b.take k) ∧ wr = w.drewN n) (fun i _ => a.length - (intOf i).toNat)
    case atStart => exact ⟨0, 0, by omega, rfl, rfl, rfl⟩
    case round =>
      obtain ⟨k, n, hk, rfl, HK, rfl⟩ := hrel
      by_cases hlt : k < a.length
      · obtain ⟨ad, rfl, hc⟩ := HR.out.at_ k hlt
        obtain ⟨ad', rfl, hc'⟩ := HR'.out.at_ k (by omega)
        have hk2 : k < b.length := by omega
        go_wp2
        go_quiet (fail)
        rw [World.drewN_drewN]
        by_cases hx : B.bt a k = B.bt b k
        · have HK2 := Lib.hid (take_snoc_eq hlt hk2 HK.out hx)
          have hx' : (B.bt a k != B.bt b k) = false := by simp [hx]
          clear hx
          go_wp2
          go_roundw
          case rel => exact ⟨k + 1, _, by omega, by go_num, HK2, rfl⟩
          case measure => simp [intOf]; omega
        · have HS := Lib.hid (sameB_ne hlt hk2 hx)
          have hx' : (B.bt a k != B.bt b k) = true := by simp [hx]
          clear hx
          go_wp2
          go_ret
          exact ⟨ret_eq (by rw [HS.out]; rfl), _, rfl⟩
      · obtain rfl : k = a.length := by omega
        have HS := Lib.hid (show sameB a b = true by have := HK.out; rw [HL.out, List.take_length] at this; rw [← HL.out, List.take_length] at this; simpa [sameB] using this)
        go_wp2
        go_ret
        exact ⟨ret_eq (by rw [HS.out]; rfl), n, rfl⟩
  · have HS := Lib.hid (show sameB a b = false by unfold sameB; simp only [decide_eq_false_iff_not]; rintro rfl; exact h1 rfl)
    have h1' : ((a.length : Int) != b.length) = true := by simp; omega
    clear h1
    go_enter Try.func27, Try.ntmps27
    go_wp2
    go_ret
    exact ⟨ret_eq (by rw [HS.out]; rfl), 0, rfl⟩
end Go.Proofs.Ytcgjngcogdmbaaa.R01
