/- stillageref05: the walk of Turn. -/
import Derived.Test.YteeemiacibjaoaaCrcBits
import Derived.Test.YteeemiacibjaoaaCrcTurnP
set_option linter.unusedVariables false
set_option linter.unusedSimpArgs false
namespace Go.Proofs.Yteeemiacibjaoaa.CrcW
open Go.RowKit Go.Proofs.YteeemiacibjaoaaW.PrintWords Go.Proofs.Yteeemiacibjaoaa.B

theorem nums8_set (y : List UInt8) (q v : Nat) (h : v < 256) : nums8 (y.set q (UInt8.ofNat v)) = (nums8 y).set q v := by
  unfold nums8
  rw [List.map_set]
  congr 1
  simp [Nat.mod_eq_of_lt h]
theorem nums8_len (y : List UInt8) : (nums8 y).length = y.length := by simp [nums8]
theorem nums8_getD (y : List UInt8) (q : Nat) : (nums8 y).getD q 0 = (y.getD q 0).toNat := by
  unfold nums8
  rw [List.getD_eq_getElem?_getD, List.getD_eq_getElem?_getD, List.getElem?_map]
  cases y[q]? <;> rfl
set_option maxRecDepth 100000 in
set_option maxHeartbeats 400000 in
/-- the bit lies in the bytes -/
theorem turn_in (A : Option Addr) (c : Nat) (l : List UInt8) (b : Nat) (mask : Nat) (w : World) (hr : Rd w A l) (hl : l.length ≤ 16777216) (hb : b / 8 < l.length) (hm : mask < 4294967296) :
    Calls Try.prog 22 #[.slice A l.length c, .int .i64 b, .int .u32 mask] w (fun e w' => ∃ v y, e = .returned v ∧ Own w' w.heap.size v y ∧ Crc.Turned (nums8 l) (nums8 y) b 32 ∧ Below w.heap.size w w') := by
  have HR := Lib.hid hr
  clear hr
  go_enter Try.func22, Try.ntmps22
  go_wp2_with (at_builtin; refine appRow (w0 := w) w.heap.size rfl (.const (.slice none 0 0)) (.tmp 9) rfl _ [] l A l.length c rfl rfl rfl (Own.nil _ _) HR.out (Below.refl _ _) (Nat.le_refl _) (by simp; omega) ?_; intro v2 w2 hown hb _ _; rw [List.nil_append] at hown; have HO := Lib.hid hown; have HB := Lib.hid hb; clear hown hb)
  obtain ⟨g, cap, rfl, hgb, -, -⟩ := Kd.R_form HO.out (by omega)
  go_loopw [8] (fun i wr => ∃ (j : Nat) (y : List UInt8), j ≤ 32 ∧ i = .int .i64 j ∧ Hid (Own wr w.heap.size (.slice (some ⟨g, 0, none⟩) l.length cap) y) ∧ Hid (Crc.Turned (nums8 l) (nums8 y) b j) ∧ Hid (Below w.heap.size w wr)) (fun i _ => 32 - (intOf i).toNat)
  case atStart => exact ⟨0, l, by omega, rfl, HO, Crc.Turned.refl _ (nums8_lt l), HB⟩
  case round =>
    obtain ⟨j, y, hj, rfl, HOj, HT, HBj⟩ := hrel
    by_cases hlt : j < 32
    · obtain ⟨p, hp, -⟩ := bit_test mask j
      cases p with
      | false =>
        go_wp2
        go_round
        case rel => exact ⟨j + 1, y, by omega, by go_num, HOj, HT.out.keep, HBj⟩
        case measure => simp [intOf]; omega
      | true =>
        have hbi : (b : Int) / 8 < (l.length : Int) := by omega
        by_cases hq : (b + j) / 8 < l.length
        · have hqi : ((b : Int) + j) / 8 < (l.length : Int) := by omega
          obtain ⟨hc, hf⟩ := Kd.R_celln (enc := encB) (h1 := fun _ => rfl) 0 HOj.out (((b + j) / 8 : Nat) : Int) (by omega) (by omega)
          rw [Int.toNat_natCast] at hc hf
          unfold encB at hc
          obtain ⟨x, hx⟩ : ∃ x : Nat, x = (rdOf 0 y (((b + j) / 8 : Nat) : Int)).toNat := ⟨_, rfl⟩
          rw [← hx] at hc
          have HX := Lib.hid hx
          clear hx
          go_wp2
          have hs : (b + j) % 8 < 8 := Nat.mod_lt _ (by decide)
          have hx256 : x < 256 := by rw [HX.out]; exact UInt8.toNat_lt _
          have hp2 : 2 ^ ((b + j) % 8) < 2 ^ 8 := Nat.pow_lt_pow_right (by decide) hs
          have hv : x ^^^ 2 ^ ((b + j) % 8) < 256 := Nat.xor_lt_two_pow (n := 8) hx256 hp2
          have HX2 := Lib.hid (show x = (nums8 y).getD ((b + j) / 8) 0 by rw [HX.out, nums8_getD]; unfold rdOf; rw [Int.toNat_natCast])
          have hyl : y.length = l.length := by have := HT.out.1; rwa [nums8_len, nums8_len] at this
          have HT2 := Lib.hid (HT.out.step (by rw [nums8_len]; omega))
          rw [← HX2.out, ← nums8_set _ _ _ hv] at HT2
          have hval : bits .xor .u8 (x : Int) (2 ^ ((b + j) % 8) % 256) = ((x ^^^ 2 ^ ((b + j) % 8) : Nat) : Int) := by
            rw [show ((2 : Int) ^ ((b + j) % 8) % 256) = ((2 ^ ((b + j) % 8) : Nat) : Int) by rw [show ((2 : Int) ^ ((b + j) % 8)) = ((2 ^ ((b + j) % 8) : Nat) : Int) by simp]; exact Int.emod_eq_of_lt (Int.natCast_nonneg _) (Int.ofNat_lt.2 hp2)]
            exact xor_u8 _ _ hx256 hp2
          have HP := Lib.hid (Kd.R_putn (enc := encB) (h1 := fun _ => rfl) HOj.out (((b + j) / 8 : Nat) : Int) (UInt8.ofNat (x ^^^ 2 ^ ((b + j) % 8))))
          rw [Int.toNat_natCast, show encB (UInt8.ofNat (x ^^^ 2 ^ ((b + j) % 8))) = .int .u8 ((x ^^^ 2 ^ ((b + j) % 8) : Nat) : Int) from by unfold encB; rw [UInt8.toNat_ofNat', Nat.mod_eq_of_lt hv]] at HP
          go_round
          case rel => exact ⟨j + 1, _, by omega, by go_num, Lib.hid (by rw [hval]; exact HP.out), HT2, Lib.hid (below_set HBj.out hgb)⟩
          case measure => simp [intOf]; omega
        · have hqi : ¬ ((b : Int) + j) / 8 < (l.length : Int) := by omega
          go_wp2
          go_round
          case rel => exact ⟨j + 1, y, by omega, by go_num, HOj, HT.out.keep, HBj⟩
          case measure => simp [intOf]; omega
    · have hj32 : j = 32 := by omega
      subst hj32
      go_wp2
      go_ret
      exact ⟨_, y, rfl, HOj.out, HT.out, HBj.out⟩
set_option maxRecDepth 100000 in
set_option maxHeartbeats 400000 in
/-- the bit lies ahead of the bytes, or behind them -/
theorem turn_out (A : Option Addr) (c : Nat) (l : List UInt8) (bit : Int) (mask : Nat) (w : World) (hr : Rd w A l) (hl : l.length ≤ 16777216) (hb : bit < 0 ∨ (l.length : Int) ≤ bit / 8) (hm : mask < 4294967296) (hbt : -9223372036854775808 ≤ bit ∧ bit ≤ 9223372036854775807) :
    Calls Try.prog 22 #[.slice A l.length c, .int .i64 bit, .int .u32 mask] w (fun e w' => ∃ v, e = .returned v ∧ Own w' w.heap.size v l ∧ Below w.heap.size w w') := by
  have HR := Lib.hid hr
  clear hr
  go_enter Try.func22, Try.ntmps22
  go_wp2_with (at_builtin; refine appRow (w0 := w) w.heap.size rfl (.const (.slice none 0 0)) (.tmp 9) rfl _ [] l A l.length c rfl rfl rfl (Own.nil _ _) HR.out (Below.refl _ _) (Nat.le_refl _) (by simp; omega) ?_; intro v2 w2 hown hb2 _ _; rw [List.nil_append] at hown; have HO := Lib.hid hown; have HB := Lib.hid hb2; clear hown hb2)
  obtain ⟨A2, c2, rfl, -, -⟩ := HO.out.reads
  go_loop [8] (fun i => ∃ (j : Nat), j ≤ 32 ∧ i = .int .i64 j) (fun i => 32 - (intOf i).toNat)
  case atStart => exact ⟨0, by omega, rfl⟩
  case round =>
    obtain ⟨j, hj, rfl⟩ := hrel
    by_cases hlt : j < 32
    · obtain ⟨p, hp, -⟩ := bit_test mask j
      cases p with
      | false =>
        go_wp2
        go_round
        case rel => exact ⟨j + 1, by omega, by go_num⟩
        case measure => simp [intOf]; omega
      | true =>
        by_cases h0 : 0 ≤ bit
        · obtain ⟨b, rfl⟩ := Int.eq_ofNat_of_zero_le h0
          have hbi : ¬ (b : Int) / 8 < (l.length : Int) := by omega
          go_wp2
          go_round
          case rel => exact ⟨j + 1, by omega, by go_num⟩
          case measure => simp [intOf]; omega
        · go_wp2
          go_round
          case rel => exact ⟨j + 1, by omega, by go_num⟩
          case measure => simp [intOf]; omega
    · have hj32 : j = 32 := by omega
      subst hj32
      go_wp2
      go_ret
      exact ⟨_, rfl, HO.out, HB.out⟩
/-- THE WALK -/
theorem turn_any (A : Option Addr) (c : Nat) (l : List UInt8) (bit : Int) (mask : Nat) (w : World) (hr : Rd w A l) (hl : l.length ≤ 16777216) (hm : mask < 4294967296) (hbt : -9223372036854775808 ≤ bit ∧ bit ≤ 9223372036854775807) :
    Calls Try.prog 22 #[.slice A l.length c, .int .i64 bit, .int .u32 mask] w (fun e w' => ∃ v y, e = .returned v ∧ Own w' w.heap.size v y ∧ (Crc.sum (nums8 y) = Crc.sum (nums8 l) ↔ y = l) ∧ Below w.heap.size w w' ∧ y.length = l.length) := by
  by_cases h : bit < 0 ∨ (l.length : Int) ≤ bit / 8
  · refine (turn_out A c l bit mask w hr hl h hm hbt).mono ?_
    rintro e w' ⟨v, h1, h2, h3⟩
    exact ⟨v, l, h1, h2, by simp, h3, rfl⟩
  · obtain ⟨b, rfl⟩ := Int.eq_ofNat_of_zero_le (show 0 ≤ bit by omega)
    refine (turn_in A c l b mask w hr hl (by omega) hm).mono ?_
    rintro e w' ⟨v, y, h1, h2, h3, h4⟩
    refine ⟨v, y, h1, h2, ?_, h4, by have := h3.1; rwa [nums8_len, nums8_len] at this⟩
    rw [Crc.turned_sum h3 (by rw [nums8_len]; omega) (nums8_lt l)]
    constructor
    · intro he
      have hi : Function.Injective (UInt8.toNat) := fun a b h => UInt8.toNat_inj.1 h
      exact List.map_inj_right (fun a b h => UInt8.toNat_inj.1 h) |>.1 he
    · intro he; rw [he]
end Go.Proofs.Yteeemiacibjaoaa.CrcW
