/- Numbers as bytes, there and back. Plain lists. -/
import Derived.Test.YtceldlijbehkdaaFixed
set_option linter.unusedVariables false
set_option linter.unusedSimpArgs false
namespace Go.Proofs.Ytceldlijbehkdaa.Fx
open Go.Proofs.Ytceldlijbehkdaa.B

theorem le_putB (n : Nat) : ∀ k : Nat, le (putB n k) = n % 256 ^ k
  | 0 => by rw [Nat.pow_zero, Nat.mod_one]; rfl
  | k + 1 => by
    show le (putB n k ++ [UInt8.ofNat (n / 256 ^ k)]) = _
    rw [le_append, le_putB n k, putB_length, Nat.mod_pow_succ]
    show _ + _ * ((UInt8.ofNat (n / 256 ^ k)).toNat + 256 * 0) = _
    simp
theorem le_inj : ∀ {a b : List UInt8}, a.length = b.length → le a = le b → a = b
  | [], [], _, _ => rfl
  | [], _ :: _, h, _ => by simp at h
  | _ :: _, [], h, _ => by simp at h
  | x :: a, y :: b, h, he => by
    simp only [le] at he
    have hx := x.toNat_lt
    have hy := y.toNat_lt
    have h1 : x = y := UInt8.toNat_inj.1 (by omega)
    have h2 : a = b := le_inj (by simpa using h) (by omega)
    rw [h1, h2]
theorem putB_le (y : List UInt8) : putB (le y) y.length = y := by
  refine le_inj (putB_length _ _) ?_
  rw [le_putB, Nat.mod_eq_of_lt (le_lt y)]
theorem putB_of {y : List UInt8} {k : Nat} (h : y.length = k) : putB (le y) k = y := by subst h; exact putB_le y
theorem putL1 (l : List UInt8) (n : Nat) : putL l n 1 = l ++ putB n 1 := by unfold putL; rw [if_pos (by omega)]; rfl
theorem putL4 (l : List UInt8) (n : Nat) : putL l n 4 = l ++ putB n 4 := by unfold putL; rw [if_pos (by omega)]; rfl
theorem putL8 (l : List UInt8) (n : Nat) : putL l n 8 = l ++ putB n 8 := by unfold putL; rw [if_pos (by omega)]; rfl
end Go.Proofs.Ytceldlijbehkdaa.Fx
