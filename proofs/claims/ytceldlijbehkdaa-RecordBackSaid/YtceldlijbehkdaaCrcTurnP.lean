/- Bytes with bits turned round: as one number. -/
import Derived.Test.YtceldlijbehkdaaCrc
set_option linter.unusedVariables false
set_option linter.unusedSimpArgs false
namespace Go.Proofs.Ytceldlijbehkdaa.Crc
theorem mul_xor (b x y : Nat) : 2 ^ b * x ^^^ 2 ^ b * y = 2 ^ b * (x ^^^ y) := by
  apply Nat.eq_of_testBit_eq; intro i
  simp only [Nat.testBit_xor, Nat.testBit_two_pow_mul]
  cases decide (b ≤ i) <;> simp
theorem num_set : ∀ (x : List Nat) (q s : Nat), (∀ c ∈ x, c < 256) → q < x.length → s < 8 → num (x.set q (x.getD q 0 ^^^ 2 ^ s)) = num x ^^^ 2 ^ (8 * q + s)
  | [], q, s, _, h, _ => by simp at h
  | c :: x, 0, s, hx, _, hs => by
    have hc := hx c List.mem_cons_self
    have hp : 2 ^ s < 2 ^ 8 := Nat.pow_lt_pow_right (by decide) hs
    have h1 : c ^^^ 2 ^ s < 2 ^ 8 := Nat.xor_lt_two_pow hc hp
    simp only [List.set_cons_zero, List.getD_cons_zero, num, Nat.mul_zero, Nat.zero_add]
    have e1 := add_eq_xor (b := num x) h1
    have e2 := add_eq_xor (b := num x) (show c < 2 ^ 8 from hc)
    rw [show (256 : Nat) = 2 ^ 8 from rfl, e1, e2, Nat.xor_assoc, Nat.xor_assoc, Nat.xor_comm (2 ^ s)]
  | c :: x, q + 1, s, hx, h, hs => by
    have hc := hx c List.mem_cons_self
    have ih := num_set x q s (fun y hy => hx y (List.mem_cons_of_mem _ hy)) (by simpa using h) hs
    simp only [List.set_cons_succ, List.getD_cons_succ, num, ih]
    rw [show (256 : Nat) = 2 ^ 8 from rfl, add_eq_xor (show c < 2 ^ 8 from hc), add_eq_xor (show c < 2 ^ 8 from hc), ← mul_xor, ← Nat.xor_assoc]
    congr 1
    rw [← Nat.pow_add]; congr 1; omega
/-- what is kept while bits are turned round -/
def Turned (l x : List Nat) (b i : Nat) : Prop := x.length = l.length ∧ (∀ c ∈ x, c < 256) ∧ ∃ m, m < 2 ^ i ∧ num l ^^^ num x = 2 ^ b * m
theorem Turned.refl {l : List Nat} (b : Nat) (h : ∀ c ∈ l, c < 256) : Turned l l b 0 := ⟨rfl, h, 0, by decide, by rw [Nat.xor_self, Nat.mul_zero]⟩
theorem Turned.keep {l x : List Nat} {b i : Nat} (h : Turned l x b i) : Turned l x b (i + 1) := by
  obtain ⟨h1, h2, m, h3, h4⟩ := h
  exact ⟨h1, h2, m, by rw [Nat.pow_succ]; omega, h4⟩
theorem Turned.step {l x : List Nat} {b i : Nat} (h : Turned l x b i) (hq : (b + i) / 8 < x.length) : Turned l (x.set ((b + i) / 8) (x.getD ((b + i) / 8) 0 ^^^ 2 ^ ((b + i) % 8))) b (i + 1) := by
  obtain ⟨h1, h2, m, h3, h4⟩ := h
  have hs : (b + i) % 8 < 8 := Nat.mod_lt _ (by decide)
  refine ⟨by rw [List.length_set]; exact h1, ?_, m ^^^ 2 ^ i, ?_, ?_⟩
  · intro c hc
    rcases List.mem_or_eq_of_mem_set hc with hc | hc
    · exact h2 c hc
    · subst hc
      refine Nat.xor_lt_two_pow (n := 8) ?_ (Nat.pow_lt_pow_right (by decide) hs)
      rw [List.getD_eq_getElem?_getD, List.getElem?_eq_getElem hq]
      exact h2 _ (List.getElem_mem hq)
  · refine Nat.xor_lt_two_pow ?_ ?_ <;> rw [Nat.pow_succ] <;> have := Nat.pow_pos (n := i) (show 0 < 2 by decide) <;> omega
  · rw [num_set _ _ _ h2 hq hs, ← Nat.xor_assoc, h4, show 8 * ((b + i) / 8) + (b + i) % 8 = b + i by omega, Nat.pow_add, mul_xor]
/-- THE LAW -/
theorem turned_sum {l x : List Nat} {b : Nat} (h : Turned l x b 32) (hb : b ≤ 8 * l.length) (hl : ∀ c ∈ l, c < 256) : sum x = sum l ↔ x = l := by
  obtain ⟨h1, h2, m, h3, h4⟩ := h
  constructor
  · intro he
    exact (sum_burst h1.symm hb h3 h4 hl h2 he.symm).symm
  · intro he; rw [he]
end Go.Proofs.Ytceldlijbehkdaa.Crc
