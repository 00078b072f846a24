/- slices.Clone of bytes; package varint; stillageref02: what each call answers. -/
import Derived.Test.YtcgjngcogdmbaaaRef01
import Derived.Test.YtcgjngcogdmbaaaVarPure
import Derived.WalkSpells
import Derived.WalkMore
set_option linter.unusedVariables false
set_option linter.unusedSimpArgs false
namespace Go.Proofs.Ytcgjngcogdmbaaa.Vr
open Go.RowKit Go.Proofs.YtcgjngcogdmbaaaW.PrintWords Go.Proofs.Ytcgjngcogdmbaaa.B Go.Proofs.Ytcgjngcogdmbaaa.Fx

theorem clone_any (A : Option Addr) (c : Nat) (l : List UInt8) (w : World) (hl : l.length ≤ 140737488355328) (hr : Rd w A l) :
    Calls Try.prog 49 #[.slice A l.length c] w (Made w l) := by
  have HR := Lib.hid hr
  clear hr
  cases A with
  | none =>
    have h0 : l = [] := by
      rcases Nat.eq_zero_or_pos l.length with h | h
      · exact List.eq_nil_of_length_eq_zero h
      · obtain ⟨ad, h1, _⟩ := HR.out.at_ 0 h; cases h1
    subst h0
    have hn : ∀ W : World, (binOp .eql 33 (.slice none 0 c) (.slice none 0 0)).run Try.prog W = .ok (.bool true) W := fun W => Lib.run_eql_slice_nil W 33 5 none 0 c 0 0 undB
    go_enter Try.func49, Try.ntmps49
    go_wp2
    go_ret
    exact ⟨_, rfl, Own.nil _ _, Below.refl _ _⟩
  | some ad =>
    have hn : ∀ W : World, (binOp .eql 33 (.slice (some ad) l.length c) (.slice none 0 0)).run Try.prog W = .ok (.bool false) W := fun W => Lib.run_eql_slice_nil W 33 5 (some ad) l.length c 0 0 undB
    go_enter Try.func49, Try.ntmps49
    go_wp2_with (at_builtin; go_loud (refine appRow (w0 := w) w.heap.size rfl (.tmp 5) (.tmp 6) rfl _ [] l (some ad) l.length c rfl rfl rfl (own_lit w w.heap.size (Nat.le_refl _) [] _ rfl (by simp)) (HR.out.below (below_alloc (Below.refl _ _) _)) (below_alloc (Below.refl _ _) _) (by simp) (by simpa using hl) ?_); intro v2 w2 hown hb _ _; have HO2 := Lib.hid hown; have HB2 := Lib.hid hb; clear hown hb)
    go_ret
    exact ⟨_, rfl, by have := HO2.out; simpa using this, HB2.out⟩
theorem or128 (m : Nat) : bits .or .u8 ((m : Int) % 256) 128 = ((UInt8.ofNat (128 + m % 128)).toNat : Int) := by
  have h : bits .or .u8 ((m % 256 : Nat) : Int) 128 = ((m % 256 ||| 128 : Nat) : Int) := (bits_nat .u8 8 (by decide) wraps_u8 (m % 256) 128 (by omega) (by omega)).2
  rw [show ((m : Int) % 256) = ((m % 256 : Nat) : Int) by omega]
  rw [h]
  congr 1
  have h2 : m % 256 ||| 128 = 128 + m % 128 := by
    have e : m % 256 = 2 ^ 7 * (m % 256 / 128) + m % 128 := by omega
    have h7 : m % 128 < 2 ^ 7 := by omega
    rw [e, Nat.two_pow_add_eq_or_of_lt h7]
    rw [Nat.or_comm _ (m % 128), Nat.or_assoc, Nat.or_comm (m % 128)]
    have h3 : 2 ^ 7 * (m % 256 / 128) ||| 128 = 2 ^ 7 * 1 := by
      rcases Nat.lt_or_ge (m % 256) 128 with h | h
      · rw [Nat.div_eq_of_lt h]; decide
      · rw [show m % 256 / 128 = 1 by omega]; decide
    rw [h3, ← Nat.two_pow_add_eq_or_of_lt h7]
  rw [h2]; simp; omega

set_option maxRecDepth 100000 in
set_option maxHeartbeats 400000 in
theorem put_any (A : Option Addr) (c : Nat) (l : List UInt8) (n : Nat) (w : World) (hl : l.length ≤ 140737488355000) (hn : n < 18446744073709551616) (hr : Rd w A l) :
    Calls Try.prog 38 #[.slice A l.length c, .int .u64 n] w (Made w (l ++ V.enc n)) := by
  have HW := Lib.hid (clone_any A c l w (by omega) hr)
  clear hr
  have HNN := Lib.hid hn
  clear hn
  go_enter Try.func38, Try.ntmps38
  go_wp2_with (go_at_call 49; refine HW.out.mono ?_; rintro e w' ⟨v1, rfl, hown, hb⟩; have HO := Lib.hid hown; have HB := Lib.hid hb; clear hown hb)
  go_loopw [1, 5] (fun x v wr => ∃ (m : Nat) (pre : List UInt8), Hid (m < 18446744073709551616) ∧ pre.length ≤ 10 ∧ x = .int .u64 m ∧ Hid (pre ++ V.enc m = V.enc n) ∧ Hid (Own wr w.heap.size v (l ++ pre)) ∧ Hid (Below w.heap.size w wr)) (fun x _ _ => (intOf x).toNat)
  case atStart => exact ⟨n, [], HNN, by simp, rfl, rfl, Lib.hid (by have := HO.out; simpa using this), HB⟩
  case round =>
    obtain ⟨m, pre, hm, hp, rfl, HE, HOk, HBk⟩ := hrel
    by_cases hlt : 128 ≤ m
    · have HN := Lib.hid (or128 m)
      have HLn : (l ++ pre).length + 1 ≤ 140737488355328 := by rw [List.length_append]; omega
      have hp2 : (pre ++ [UInt8.ofNat (128 + m % 128)]).length ≤ 10 := by
        have h1 := V.enc_len10 HNN.out
        rw [← HE.out, V.enc_big hlt] at h1
        simp at h1 ⊢
        have := V.enc_pos (m / 128)
        omega
      have HE2 := Lib.hid (show (pre ++ [UInt8.ofNat (128 + m % 128)]) ++ V.enc (m / 128) = V.enc n by rw [← HE.out, V.enc_big hlt]; simp)
      go_wp2_with (at_builtin; refine app1 (w0 := w) w.heap.size rfl (.tmp 10) (.tmp 14) rfl _ (l ++ pre) (UInt8.ofNat (128 + m % 128)) _ rfl rfl HN.out HOk.out HBk.out HBk.out.size HLn ?_; intro v2 w2 hown hb _ _; have HO2 := Lib.hid hown; have HB2 := Lib.hid hb; clear hown hb)
      go_roundw
      case rel => exact ⟨m / 128, _, Lib.hid (by have := hm.out; omega), hp2, by go_num, HE2, Lib.hid (by have := HO2.out; rw [List.append_assoc] at this; exact this), HB2⟩
      case measure => simp [intOf]; omega
    · have HN := Lib.hid (show (m : Int) = ((UInt8.ofNat m).toNat : Int) by simp; omega)
      have HE2 := Lib.hid (show pre ++ [UInt8.ofNat m] = V.enc n by rw [← HE.out, V.enc_small (by omega)])
      have HLn : (l ++ pre).length + 1 ≤ 140737488355328 := by rw [List.length_append]; omega
      go_wp2_with (at_builtin; refine app1 (w0 := w) w.heap.size rfl (.tmp 18) (.tmp 21) rfl _ (l ++ pre) (UInt8.ofNat m) _ rfl rfl HN.out HOk.out HBk.out HBk.out.size HLn ?_; intro v2 w2 hown hb _ _; have HO2 := Lib.hid hown; have HB2 := Lib.hid hb; clear hown hb)
      go_ret
      exact ⟨_, rfl, by have := HO2.out; rw [List.append_assoc, HE2.out] at this; exact this, HB2.out⟩

set_option maxRecDepth 100000 in
set_option maxHeartbeats 400000 in
theorem size_any (n : Nat) (w : World) (hn : n < 18446744073709551616) :
    Calls Try.prog 42 #[.int .u64 n] w (Still (.int .i64 (V.enc n).length) w) := by
  have HNN := Lib.hid hn
  clear hn
  go_enter Try.func42, Try.ntmps42
  go_wp2
  go_loop [0, 3] (fun x s => ∃ (m k : Nat), Hid (m < 18446744073709551616) ∧ k ≤ 10 ∧ x = .int .u64 m ∧ s = .int .i64 k ∧ Hid (k + (V.enc m).length = (V.enc n).length + 1)) (fun x _ => (intOf x).toNat)
  case atStart => exact ⟨n, 1, HNN, by omega, rfl, rfl, Lib.hid (by omega)⟩
  case round =>
    obtain ⟨m, k, hm, hk, rfl, rfl, HE⟩ := hrel
    by_cases hlt : 128 ≤ m
    · have HE2 := Lib.hid (show k + 1 + (V.enc (m / 128)).length = (V.enc n).length + 1 by have := HE.out; rw [V.enc_big hlt, List.length_cons] at this; omega)
      have hk2 : k + 1 ≤ 10 := by have := V.enc_len10 HNN.out; have := V.enc_pos (m / 128); have := HE2.out; omega
      go_wp2
      go_round
      case rel => exact ⟨m / 128, k + 1, Lib.hid (by have := hm.out; omega), hk2, by go_num, by go_num, HE2⟩
      case measure => simp [intOf]; omega
    · have HE2 := Lib.hid (show k = (V.enc n).length by have := HE.out; rw [V.enc_small (by omega)] at this; simp at this; omega)
      go_wp2
      go_ret
      exact ⟨ret_eq (by rw [← HE2.out]; rfl), rfl⟩

set_option maxRecDepth 100000 in
set_option maxHeartbeats 400000 in
theorem rput_any (A : Option Addr) (c : Nat) (l : List UInt8) (n : Nat) (w : World) (hl : l.length ≤ 140737488355000) (hn : n < 18446744073709551616) (hr : Rd w A l) :
    Calls Try.prog 41 #[.slice A l.length c, .int .u64 n] w (Made w (l ++ V.enc n)) := by
  have HR := Lib.hid hr
  clear hr
  have HNN := Lib.hid hn
  clear hn
  go_enter Try.func41, Try.ntmps41
  go_wp2_with (at_builtin; refine appRow (w0 := w) w.heap.size rfl (.const (.slice none 0 0)) (.tmp 6) rfl _ [] l A l.length c rfl rfl rfl (Own.nil _ _) HR.out (Below.refl _ _) (Nat.le_refl _) (by simp; omega) ?_; intro v2 w2 hown hb _ _; have HO := Lib.hid hown; have HB := Lib.hid hb; clear hown hb)
  go_loopw [1, 5] (fun x v wr => ∃ (m : Nat) (pre : List UInt8), Hid (m < 18446744073709551616) ∧ pre.length ≤ 10 ∧ x = .int .u64 m ∧ Hid (pre ++ V.enc m = V.enc n) ∧ Hid (Own wr w.heap.size v (l ++ pre)) ∧ Hid (Below w.heap.size w wr)) (fun x _ _ => (intOf x).toNat)
  case atStart => exact ⟨n, [], HNN, by simp, rfl, rfl, Lib.hid (by have := HO.out; simpa using this), HB⟩
  case round =>
    obtain ⟨m, pre, hm, hp, rfl, HE, HOk, HBk⟩ := hrel
    by_cases hlt : 128 ≤ m
    · have HN := Lib.hid (show (128 + (m : Int) % 128) = ((UInt8.ofNat (128 + m % 128)).toNat : Int) by simp; omega)
      have HLn : (l ++ pre).length + 1 ≤ 140737488355328 := by rw [List.length_append]; omega
      have hp2 : (pre ++ [UInt8.ofNat (128 + m % 128)]).length ≤ 10 := by
        have h1 := V.enc_len10 HNN.out
        rw [← HE.out, V.enc_big hlt] at h1
        simp at h1 ⊢
        have := V.enc_pos (m / 128)
        omega
      have HE2 := Lib.hid (show (pre ++ [UInt8.ofNat (128 + m % 128)]) ++ V.enc (m / 128) = V.enc n by rw [← HE.out, V.enc_big hlt]; simp)
      have hd : 0 < (m : Int) / 128 := by omega
      have hmi : (m : Int) ≤ 18446744073709551615 := by have := hm.out; omega
      go_wp2_with (at_builtin; refine app1 (w0 := w) w.heap.size rfl (.tmp 11) (.tmp 16) rfl _ (l ++ pre) (UInt8.ofNat (128 + m % 128)) _ rfl rfl HN.out HOk.out HBk.out HBk.out.size HLn ?_; intro v2 w2 hown hb _ _; have HO2 := Lib.hid hown; have HB2 := Lib.hid hb; clear hown hb)
      go_roundw
      case rel => exact ⟨m / 128, _, Lib.hid (by have := hm.out; omega), hp2, by go_num, HE2, Lib.hid (by have := HO2.out; rw [List.append_assoc] at this; exact this), HB2⟩
      case measure => simp [intOf]; omega
    · have HN := Lib.hid (show (m : Int) = ((UInt8.ofNat m).toNat : Int) by simp; omega)
      have HE2 := Lib.hid (show pre ++ [UInt8.ofNat m] = V.enc n by rw [← HE.out, V.enc_small (by omega)])
      have HLn : (l ++ pre).length + 1 ≤ 140737488355328 := by rw [List.length_append]; omega
      have hd : ¬ 0 < (m : Int) / 128 := by omega
      have hmi : (m : Int) ≤ 18446744073709551615 := by have := hm.out; omega
      go_wp2_with (at_builtin; refine app1 (w0 := w) w.heap.size rfl (.tmp 20) (.tmp 23) rfl _ (l ++ pre) (UInt8.ofNat m) _ rfl rfl HN.out HOk.out HBk.out HBk.out.size HLn ?_; intro v2 w2 hown hb _ _; have HO2 := Lib.hid hown; have HB2 := Lib.hid hb; clear hown hb)
      go_ret
      exact ⟨_, rfl, by have := HO2.out; rw [List.append_assoc, HE2.out] at this; exact this, HB2.out⟩
end Go.Proofs.Ytcgjngcogdmbaaa.Vr
