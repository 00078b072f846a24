/- package varint's Put; stillageref02.Put. -/
import Derived.Test.YteeemiacibjaoaaClone
import Derived.Test.YteeemiacibjaoaaFixed
import Derived.Test.YteeemiacibjaoaaVarPure
import Derived.WalkSpells
import Derived.WalkMore
import Derived.Lib.EndianBits
set_option linter.unusedVariables false
set_option linter.unusedSimpArgs false
namespace Go.Proofs.Yteeemiacibjaoaa.Vr
open Go.RowKit Go.Proofs.YteeemiacibjaoaaW.PrintWords Go.Proofs.Yteeemiacibjaoaa.B Go.Proofs.Yteeemiacibjaoaa.Fx

theorem or128 (m : Nat) : bits .or .u8 ((m : Int) % 256) 128 = ((UInt8.ofNat (128 + m % 128)).toNat : Int) := by
  have h : bits .or .u8 ((m % 256 : Nat) : Int) 128 = ((m % 256 ||| 128 : Nat) : Int) := (bits_nat .u8 8 (by decide) wraps_u8 (m % 256) 128 (by omega) (by omega)).2
  rw [show ((m : Int) % 256) = ((m % 256 : Nat) : Int) by omega]
  rw [h]
  congr 1
  have h2 : m % 256 ||| 128 = 128 + m % 128 := by
    have e : m % 256 = 2 ^ 7 * (m % 256 / 128) + m % 128 := by omega
    have h7 : m % 128 < 2 ^ 7 := by omega
    rw [e, Nat.two_pow_add_eq_or_of_lt h7]
    rw [Nat.or_comm _ (m % 128), Nat.or_assoc, Nat.or_comm (m % 128)]
    have h3 : 2 ^ 7 * (m % 256 / 128) ||| 128 = 2 ^ 7 * 1 := by
      rcases Nat.lt_or_ge (m % 256) 128 with h | h
      · rw [Nat.div_eq_of_lt h]; decide
      · rw [show m % 256 / 128 = 1 by omega]; decide
    rw [h3, ← Nat.two_pow_add_eq_or_of_lt h7]
  rw [h2]; simp; omega

set_option maxRecDepth 100000 in
set_option maxHeartbeats 400000 in
theorem put_any (A : Option Addr) (c : Nat) (l : List UInt8) (n : Nat) (w : World) (hl : l.length ≤ 140737488355000) (hn : n < 18446744073709551616) (hr : Rd w A l) :
    Calls Try.prog 77 #[.slice A l.length c, .int .u64 n] w (Made w (l ++ V.enc n)) := by
  have HW := Lib.hid (Cl.clone_any A c l w (by omega) hr)
  clear hr
  have HNN := Lib.hid hn
  clear hn
  go_enter Try.func77, Try.ntmps77
  go_wp2_with (go_at_call 50; refine HW.out.mono ?_; rintro e w' ⟨v1, rfl, hown, hb⟩; have HO := Lib.hid hown; have HB := Lib.hid hb; clear hown hb)
  go_loopw [1, 5] (fun x v wr => ∃ (m : Nat) (pre : List UInt8), Hid (m < 18446744073709551616) ∧ pre.length ≤ 10 ∧ x = .int .u64 m ∧ Hid (pre ++ V.enc m = V.enc n) ∧ Hid (Own wr w.heap.size v (l ++ pre)) ∧ Hid (Below w.heap.size w wr)) (fun x _ _ => (intOf x).toNat)
  case atStart => exact ⟨n, [], HNN, by simp, rfl, rfl, Lib.hid (by have := HO.out; simpa using this), HB⟩
  case round =>
    obtain ⟨m, pre, hm, hp, rfl, HE, HOk, HBk⟩ := hrel
    by_cases hlt : 128 ≤ m
    · have HN := Lib.hid (or128 m)
      have HLn : (l ++ pre).length + 1 ≤ 140737488355328 := by rw [List.length_append]; omega
      have hp2 : (pre ++ [UInt8.ofNat (128 + m % 128)]).length ≤ 10 := by
        have h1 := V.enc_len10 HNN.out
        rw [← HE.out, V.enc_big hlt] at h1
        simp at h1 ⊢
        have := V.enc_pos (m / 128)
        omega
      have HE2 := Lib.hid (show (pre ++ [UInt8.ofNat (128 + m % 128)]) ++ V.enc (m / 128) = V.enc n by rw [← HE.out, V.enc_big hlt]; simp)
      go_wp2_with (at_builtin; refine app1 (w0 := w) w.heap.size rfl (.tmp 10) (.tmp 14) rfl _ (l ++ pre) (UInt8.ofNat (128 + m % 128)) _ rfl rfl HN.out HOk.out HBk.out HBk.out.size HLn ?_; intro v2 w2 hown hb _ _; have HO2 := Lib.hid hown; have HB2 := Lib.hid hb; clear hown hb)
      go_roundw
      case rel => exact ⟨m / 128, _, Lib.hid (by have := hm.out; omega), hp2, by go_num, HE2, Lib.hid (by have := HO2.out; rw [List.append_assoc] at this; exact this), HB2⟩
      case measure => simp [intOf]; omega
    · have HN := Lib.hid (show (m : Int) = ((UInt8.ofNat m).toNat : Int) by simp; omega)
      have HE2 := Lib.hid (show pre ++ [UInt8.ofNat m] = V.enc n by rw [← HE.out, V.enc_small (by omega)])
      have HLn : (l ++ pre).length + 1 ≤ 140737488355328 := by rw [List.length_append]; omega
      go_wp2_with (at_builtin; refine app1 (w0 := w) w.heap.size rfl (.tmp 18) (.tmp 21) rfl _ (l ++ pre) (UInt8.ofNat m) _ rfl rfl HN.out HOk.out HBk.out HBk.out.size HLn ?_; intro v2 w2 hown hb _ _; have HO2 := Lib.hid hown; have HB2 := Lib.hid hb; clear hown hb)
      go_ret
      exact ⟨_, rfl, by have := HO2.out; rw [List.append_assoc, HE2.out] at this; exact this, HB2.out⟩

set_option maxRecDepth 100000 in
set_option maxRecDepth 100000 in
set_option maxHeartbeats 400000 in
theorem rput_any (A : Option Addr) (c : Nat) (l : List UInt8) (n : Nat) (w : World) (hl : l.length ≤ 140737488355000) (hn : n < 18446744073709551616) (hr : Rd w A l) :
    Calls Try.prog 66 #[.slice A l.length c, .int .u64 n] w (Made w (l ++ V.enc n)) := by
  have HR := Lib.hid hr
  clear hr
  have HNN := Lib.hid hn
  clear hn
  go_enter Try.func66, Try.ntmps66
  go_wp2_with (at_builtin; refine appRow (w0 := w) w.heap.size rfl (.const (.slice none 0 0)) (.tmp 6) rfl _ [] l A l.length c rfl rfl rfl (Own.nil _ _) HR.out (Below.refl _ _) (Nat.le_refl _) (by simp; omega) ?_; intro v2 w2 hown hb _ _; have HO := Lib.hid hown; have HB := Lib.hid hb; clear hown hb)
  go_loopw [1, 5] (fun x v wr => ∃ (m : Nat) (pre : List UInt8), Hid (m < 18446744073709551616) ∧ pre.length ≤ 10 ∧ x = .int .u64 m ∧ Hid (pre ++ V.enc m = V.enc n) ∧ Hid (Own wr w.heap.size v (l ++ pre)) ∧ Hid (Below w.heap.size w wr)) (fun x _ _ => (intOf x).toNat)
  case atStart => exact ⟨n, [], HNN, by simp, rfl, rfl, Lib.hid (by have := HO.out; simpa using this), HB⟩
  case round =>
    obtain ⟨m, pre, hm, hp, rfl, HE, HOk, HBk⟩ := hrel
    by_cases hlt : 128 ≤ m
    · have HN := Lib.hid (show (128 + (m : Int) % 128) = ((UInt8.ofNat (128 + m % 128)).toNat : Int) by simp; omega)
      have HLn : (l ++ pre).length + 1 ≤ 140737488355328 := by rw [List.length_append]; omega
      have hp2 : (pre ++ [UInt8.ofNat (128 + m % 128)]).length ≤ 10 := by
        have h1 := V.enc_len10 HNN.out
        rw [← HE.out, V.enc_big hlt] at h1
        simp at h1 ⊢
        have := V.enc_pos (m / 128)
        omega
      have HE2 := Lib.hid (show (pre ++ [UInt8.ofNat (128 + m % 128)]) ++ V.enc (m / 128) = V.enc n by rw [← HE.out, V.enc_big hlt]; simp)
      have hd : 0 < (m : Int) / 128 := by omega
      have hmi : (m : Int) ≤ 18446744073709551615 := by have := hm.out; omega
      go_wp2_with (at_builtin; refine app1 (w0 := w) w.heap.size rfl (.tmp 11) (.tmp 16) rfl _ (l ++ pre) (UInt8.ofNat (128 + m % 128)) _ rfl rfl HN.out HOk.out HBk.out HBk.out.size HLn ?_; intro v2 w2 hown hb _ _; have HO2 := Lib.hid hown; have HB2 := Lib.hid hb; clear hown hb)
      go_roundw
      case rel => exact ⟨m / 128, _, Lib.hid (by have := hm.out; omega), hp2, by go_num, HE2, Lib.hid (by have := HO2.out; rw [List.append_assoc] at this; exact this), HB2⟩
      case measure => simp [intOf]; omega
    · have HN := Lib.hid (show (m : Int) = ((UInt8.ofNat m).toNat : Int) by simp; omega)
      have HE2 := Lib.hid (show pre ++ [UInt8.ofNat m] = V.enc n by rw [← HE.out, V.enc_small (by omega)])
      have HLn : (l ++ pre).length + 1 ≤ 140737488355328 := by rw [List.length_append]; omega
      have hd : ¬ 0 < (m : Int) / 128 := by omega
      have hmi : (m : Int) ≤ 18446744073709551615 := by have := hm.out; omega
      go_wp2_with (at_builtin; refine app1 (w0 := w) w.heap.size rfl (.tmp 20) (.tmp 23) rfl _ (l ++ pre) (UInt8.ofNat m) _ rfl rfl HN.out HOk.out HBk.out HBk.out.size HLn ?_; intro v2 w2 hown hb _ _; have HO2 := Lib.hid hown; have HB2 := Lib.hid hb; clear hown hb)
      go_ret
      exact ⟨_, rfl, by have := HO2.out; rw [List.append_assoc, HE2.out] at this; exact this, HB2.out⟩
end Go.Proofs.Yteeemiacibjaoaa.Vr
