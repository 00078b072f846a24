/- Varints: plain lists and numbers. -/
set_option linter.unusedVariables false
set_option linter.unusedSimpArgs false
namespace Go.Proofs.Yteeemiacibjaoaa.V

/-- how many bytes at the begin are 128 or more -/
def lead : List UInt8 → Nat
  | [] => 0
  | c :: r => if 128 ≤ c.toNat then lead r + 1 else 0
def v7 : List UInt8 → Nat
  | [] => 0
  | c :: r => c.toNat % 128 + 128 * v7 r
def at8 (x : List UInt8) (i : Nat) : Nat := (x.getD i 0).toNat
theorem at8_lt (x : List UInt8) (i : Nat) : at8 x i < 256 := (x.getD i 0).toNat_lt
/-- the error's number -/
def vErr (x : List UInt8) : Nat := if 9 ≤ lead x ∧ 9 < x.length ∧ 1 < at8 x 9 then 20 else if x.length ≤ lead x then 4 else if 0 < lead x ∧ at8 x (lead x) = 0 then 3 else 0
def vNum (x : List UInt8) : Nat := if vErr x = 0 then v7 (x.take (lead x + 1)) else 0
def vLen (x : List UInt8) : Nat := lead x + 1
theorem lead_le : ∀ x : List UInt8, lead x ≤ x.length
  | [] => by simp [lead]
  | c :: r => by have := lead_le r; simp only [lead, List.length_cons]; split <;> omega
theorem lead_ge : ∀ (x : List UInt8) (j : Nat), j < lead x → 128 ≤ at8 x j
  | [], j, h => by simp [lead] at h
  | c :: r, j, h => by
    simp only [lead] at h
    split at h
    · cases j with
      | zero => simpa [at8]
      | succ j => have := lead_ge r j (by omega); simpa [at8] using this
    · omega
theorem lead_end : ∀ x : List UInt8, lead x < x.length → at8 x (lead x) < 128
  | [], h => by simp [lead] at h
  | c :: r, h => by
    simp only [lead] at h ⊢
    split
    · rename_i hc
      rw [if_pos hc] at h
      have := lead_end r (by simp at h; omega)
      simpa [at8] using this
    · rename_i hc; simp [at8]; omega
theorem lead_of {x : List UInt8} {i : Nat} (h : ∀ j, j < i → 128 ≤ at8 x j) (hi : i ≤ x.length) : i ≤ lead x := by
  rcases Nat.lt_or_ge (lead x) i with h1 | h1
  · have h2 := h _ h1; have h3 := lead_end x (by omega); omega
  · exact h1
theorem v7_append : ∀ a b : List UInt8, v7 (a ++ b) = v7 a + 128 ^ a.length * v7 b
  | [], b => by simp [v7]
  | c :: a, b => by
    simp only [List.cons_append, v7, v7_append a b, List.length_cons, Nat.pow_succ]
    rw [Nat.mul_add, Nat.mul_comm (128 ^ a.length) 128, Nat.mul_assoc]; omega
theorem v7_lt : ∀ l : List UInt8, v7 l < 128 ^ l.length
  | [] => by simp [v7]
  | c :: l => by
    have h1 := v7_lt l
    simp only [v7, List.length_cons, Nat.pow_succ]
    omega
theorem v7_snoc (x : List UInt8) (k : Nat) (h : k < x.length) : v7 (x.take (k + 1)) = v7 (x.take k) + 128 ^ k * (at8 x k % 128) := by
  rw [List.take_succ_eq_append_getElem h, v7_append, List.length_take, Nat.min_eq_left (by omega)]
  simp [v7, at8, h]
theorem v7_take_lt (x : List UInt8) (k : Nat) : v7 (x.take k) < 128 ^ k :=
  Nat.lt_of_lt_of_le (v7_lt _) (Nat.pow_le_pow_right (by omega) (List.length_take_le _ _))
/-- below 2^64 -/
theorem v7_ok {x : List UInt8} (h0 : vErr x = 0) : lead x ≤ 9 ∧ v7 (x.take (lead x + 1)) < 18446744073709551616 ∧ lead x < x.length ∧ (lead x = 9 → at8 x 9 ≤ 1) ∧ (0 < lead x → at8 x (lead x) ≠ 0) := by
  unfold vErr at h0
  split at h0; · cases h0
  rename_i h1
  split at h0; · cases h0
  rename_i h2
  split at h0; · cases h0
  rename_i h3
  have hl : lead x ≤ 9 := by
    rcases Nat.lt_or_ge 9 (lead x) with h | h
    · have := lead_ge x 9 h; omega
    · exact h
  have h9 : lead x = 9 → at8 x 9 ≤ 1 := by intro h; omega
  refine ⟨hl, ?_, by omega, h9, by omega⟩
  rcases Nat.lt_or_ge (lead x) 9 with h | h
  · exact Nat.lt_of_lt_of_le (v7_take_lt _ _) (Nat.le_trans (Nat.pow_le_pow_right (by omega) (show lead x + 1 ≤ 9 by omega)) (by decide))
  · have h' : lead x = 9 := by omega
    rw [h', v7_snoc x 9 (by omega)]
    have := v7_take_lt x 9
    have := h9 h'
    have : at8 x 9 % 128 ≤ 1 := by omega
    have e : (128 : Nat) ^ 9 = 9223372036854775808 := by decide
    rw [e] at *
    omega
/-- the encoding -/
def enc (n : Nat) : List UInt8 := if n < 128 then [UInt8.ofNat n] else UInt8.ofNat (128 + n % 128) :: enc (n / 128)
termination_by n
theorem enc_small {n : Nat} (h : n < 128) : enc n = [UInt8.ofNat n] := by rw [enc, if_pos h]
theorem enc_big {n : Nat} (h : 128 ≤ n) : enc n = UInt8.ofNat (128 + n % 128) :: enc (n / 128) := by rw [enc, if_neg (by omega)]
theorem enc_pos (n : Nat) : 1 ≤ (enc n).length := by
  rcases Nat.lt_or_ge n 128 with h | h
  · rw [enc_small h]; simp
  · rw [enc_big h]; simp
theorem enc_len (k : Nat) : ∀ n, n < 128 ^ (k + 1) → (enc n).length ≤ k + 1 := by
  induction k with
  | zero => intro n h; rw [enc_small (by omega)]; simp
  | succ k ih =>
    intro n h
    rcases Nat.lt_or_ge n 128 with h1 | h1
    · rw [enc_small h1]; simp
    · rw [enc_big h1, List.length_cons]
      have := ih (n / 128) (by rw [Nat.pow_succ] at h; omega)
      omega
theorem enc_len10 {n : Nat} (h : n < 18446744073709551616) : (enc n).length ≤ 10 := enc_len 9 n (Nat.lt_of_lt_of_le h (by decide))
theorem at8_cons (c : UInt8) (r : List UInt8) (i : Nat) : at8 (c :: r) (i + 1) = at8 r i := by simp [at8]
theorem lead_small {n : Nat} (h : n < 128) (t : List UInt8) : lead ([UInt8.ofNat n] ++ t) = 0 := by
  have : ¬ 128 ≤ n % 256 := by omega
  simp [lead, this]
theorem lead_enc (n : Nat) (t : List UInt8) : lead (enc n ++ t) + 1 = (enc n).length := by
  induction n using Nat.strongRecOn with
  | ind n ih =>
    rcases Nat.lt_or_ge n 128 with h | h
    · rw [enc_small h]
      simp [lead]; omega
    · rw [enc_big h, List.cons_append, lead, if_pos (by simp; omega), List.length_cons, ih (n / 128) (by omega)]
theorem v7_enc (n : Nat) : v7 (enc n) = n := by
  induction n using Nat.strongRecOn with
  | ind n ih =>
    rcases Nat.lt_or_ge n 128 with h | h
    · rw [enc_small h]; simp [v7]; omega
    · rw [enc_big h, v7, ih (n / 128) (by omega)]; simp; omega
theorem last_enc (n : Nat) (t : List UInt8) (h : 128 ≤ n) : at8 (enc n ++ t) (lead (enc n ++ t)) ≠ 0 := by
  induction n using Nat.strongRecOn with
  | ind n ih =>
    rw [enc_big h, List.cons_append, lead, if_pos (by simp; omega), at8_cons]
    rcases Nat.lt_or_ge (n / 128) 128 with h1 | h1
    · rw [enc_small h1]
      have hl : lead ([UInt8.ofNat (n / 128)] ++ t) = 0 := by simp [lead]; omega
      rw [hl]; simp [at8]; omega
    · exact ih (n / 128) (by omega) h1
theorem nine_enc {n : Nat} (h : n < 18446744073709551616) (t : List UInt8) (h9 : 9 ≤ lead (enc n ++ t)) : at8 (enc n ++ t) 9 ≤ 1 := by
  have key : ∀ (k n : Nat), k ≤ lead (enc n ++ t) → n < 2 * 128 ^ k → at8 (enc n ++ t) k ≤ 1 := by
    intro k
    induction k with
    | zero => intro n _ h; rw [enc_small (by omega)]; simp [at8]; omega
    | succ k ih =>
      intro n hl h
      rcases Nat.lt_or_ge n 128 with h1 | h1
      · rw [enc_small h1, lead_small h1] at hl; omega
      · rw [enc_big h1, List.cons_append, lead, if_pos (by simp; omega)] at hl
        rw [enc_big h1, List.cons_append, at8_cons]
        exact ih (n / 128) (by omega) (by rw [Nat.pow_succ] at h; omega)
  exact key 9 n h9 (Nat.lt_of_lt_of_le h (by decide))
/-- what was put is taken -/
theorem take_enc {n : Nat} (h : n < 18446744073709551616) (t : List UInt8) : vErr (enc n ++ t) = 0 ∧ vNum (enc n ++ t) = n ∧ vLen (enc n ++ t) = (enc n).length := by
  have h1 := lead_enc n t
  have h2 : vErr (enc n ++ t) = 0 := by
    unfold vErr
    rw [if_neg, if_neg, if_neg]
    · rintro ⟨h3, h4⟩
      rcases Nat.lt_or_ge n 128 with h5 | h5
      · rw [enc_small h5, lead_small h5] at h3; omega
      · exact last_enc n t h5 h4
    · rw [List.length_append]; omega
    · rintro ⟨h3, h4, h5⟩
      have := nine_enc h t h3; omega
  refine ⟨h2, ?_, h1⟩
  unfold vNum; rw [if_pos h2, h1, List.take_left' rfl, v7_enc]
/-- what was taken has just these bytes -/
theorem enc_v7 : ∀ x : List UInt8, lead x < x.length → (0 < lead x → at8 x (lead x) ≠ 0) → enc (v7 (x.take (lead x + 1))) = x.take (lead x + 1)
  | [], h, _ => by simp [lead] at h
  | c :: r, h, h0 => by
    by_cases hc : 128 ≤ c.toNat
    · rw [lead, if_pos hc] at h h0 ⊢
      rw [at8_cons] at h0
      have hr : lead r < r.length := by simp at h; omega
      have ih := enc_v7 r hr (fun _ => h0 (by omega))
      rw [List.take_succ_cons, v7]
      have hpos : 1 ≤ v7 (r.take (lead r + 1)) := by
        rw [v7_snoc r _ hr]
        have h1 := lead_end r hr
        have h2 := h0 (by omega)
        have h3 : 0 < 128 ^ lead r := Nat.pow_pos (by omega)
        have h4 : 1 ≤ at8 r (lead r) % 128 := by omega
        have := Nat.mul_le_mul h3 h4
        omega
      have hcl := c.toNat_lt
      rw [enc_big (by omega), show (c.toNat % 128 + 128 * v7 (r.take (lead r + 1))) / 128 = v7 (r.take (lead r + 1)) by omega, ih]
      congr 1
      apply UInt8.toNat_inj.1
      simp; omega
    · rw [lead, if_neg hc]
      simp only [Nat.zero_add, List.take_succ_cons, List.take_zero, v7]
      rw [enc_small (by omega)]
      congr 1
      apply UInt8.toNat_inj.1
      simp; omega
/-! ### byte by byte -/
theorem lead_is {x : List UInt8} {i : Nat} (h : ∀ j, j < i → 128 ≤ at8 x j) (hi : i < x.length) (hc : at8 x i < 128) : lead x = i := by
  have h1 := lead_of h (by omega)
  rcases Nat.lt_or_ge i (lead x) with h2 | h2
  · have := lead_ge x i h2; omega
  · omega
theorem err_range {x : List UInt8} (h : ∀ j, j < 9 → 128 ≤ at8 x j) (hi : 9 < x.length) (hc : 1 < at8 x 9) : vErr x = 20 := by
  have h1 := lead_of h (by omega)
  unfold vErr; rw [if_pos ⟨h1, hi, hc⟩]
theorem err_short {x : List UInt8} (h : ∀ j, j < x.length → 128 ≤ at8 x j) (hi : x.length ≤ 9) : vErr x = 4 := by
  have h1 := lead_of h (Nat.le_refl _)
  unfold vErr; rw [if_neg (by omega), if_pos h1]
theorem err_form {x : List UInt8} {i : Nat} (h : ∀ j, j < i → 128 ≤ at8 x j) (hi : i < x.length) (hc : at8 x i = 0) (h0 : 0 < i) (h9 : i ≤ 9) : vErr x = 3 := by
  have h1 := lead_is h hi (by omega)
  unfold vErr; rw [h1, if_neg (by intro h; obtain ⟨h2, _, h3⟩ := h; rw [show (9 : Nat) = i by omega] at h3; omega), if_neg (by omega), if_pos ⟨h0, hc⟩]
theorem err_ok {x : List UInt8} {i : Nat} (h : ∀ j, j < i → 128 ≤ at8 x j) (hi : i < x.length) (hc : at8 x i < 128) (h9 : i ≤ 9) (hr : i = 9 → at8 x 9 ≤ 1) (hf : 0 < i → at8 x i ≠ 0) : vErr x = 0 ∧ lead x = i := by
  have h1 := lead_is h hi hc
  refine ⟨?_, h1⟩
  unfold vErr
  rw [h1, if_neg (by intro h; obtain ⟨h2, _, h3⟩ := h; have := hr (by omega); omega), if_neg (by omega), if_neg (by intro h; exact hf h.1 h.2)]
theorem v7_drop (x : List UInt8) (i : Nat) (h : i < x.length) : v7 (x.drop i) = at8 x i % 128 + 128 * v7 (x.drop (i + 1)) := by
  rw [List.drop_eq_getElem_cons h]; simp [v7, at8, h]
theorem v7_drop_le (x : List UInt8) : ∀ i, v7 (x.drop i) ≤ v7 x := by
  intro i
  induction i with
  | zero => simp
  | succ i ih =>
    rcases Nat.lt_or_ge i x.length with h | h
    · have := v7_drop x i h; omega
    · rw [List.drop_eq_nil_of_le (by omega)]; simp [v7]
theorem at8_take {x : List UInt8} {i k : Nat} (h : i < k) : at8 (x.take k) i = at8 x i := by simp [at8, h]
theorem at8_drop (x : List UInt8) (p i : Nat) : at8 (x.drop p) i = at8 x (p + i) := by simp [at8]
/-! ### at a place of bytes -/
def tErr (l : List UInt8) (pos : Int) : Nat := if pos < 0 ∨ (l.length : Int) < pos then 2 else vErr (l.drop pos.toNat)
def tNum (l : List UInt8) (pos : Int) : Nat := if tErr l pos = 0 then vNum (l.drop pos.toNat) else 0
def tEnd (l : List UInt8) (pos : Int) : Int := if tErr l pos = 0 then pos + vLen (l.drop pos.toNat) else 0
end Go.Proofs.Yteeemiacibjaoaa.V
