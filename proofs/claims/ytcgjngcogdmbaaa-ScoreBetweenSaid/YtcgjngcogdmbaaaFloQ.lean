/- Quotients of small numbers, rounded: where they stand. Plain numbers over Ieee. -/
import Derived.Test.YtcgjngcogdmbaaaFlo
set_option linter.unusedVariables false
set_option linter.unusedSimpArgs false
set_option exponentiation.threshold 2000
namespace Go.Proofs.Ytcgjngcogdmbaaa.Flo
open Ieee

/-- 2^1074, not to be reckoned -/
def P : Nat := 2 ^ 1074
theorem sm1 {L k : Nat} (hL : L ≤ 30) (h2 : k < 2 * B) : min ((L + 1022) * B + k) I = (L + 1022) * B + k := by unfold I B at *; omega
theorem sm2 {L k : Nat} (hL : L ≤ 30) (h1 : B ≤ k) (h2 : k < 2 * B) : (L + 1022) * B + k < S ∧ ¬ (L + 1022) * B + k < B ∧ (L + 1022) * B + k < I := by unfold I S B at *; omega
theorem sm3 {L k : Nat} (h1 : B ≤ k) (h2 : k < 2 * B) : ((L + 1022) * B + k) / B = L + 1023 ∧ B + ((L + 1022) * B + k) % B = k := by unfold B at *; omega
theorem sm4 {k1 k2 : Nat} (h1 : B ≤ k1) (h2 : k1 < 2 * B) (h3 : B ≤ k2) (h4 : k2 < 2 * B) : 2 ^ 53 * k2 ≤ k1 * 2 ^ 54 ∧ k1 * 2 ^ 54 < 2 ^ 55 * k2 := by unfold B at *; omega
theorem sm5 {E z : Nat} (h1 : E ≤ 1052) (h2 : z ≤ 2 * B) : E * B + z < I := by
  have h2 : E * B ≤ 1052 * B := Nat.mul_le_mul_right _ h1
  unfold I B at *; omega
theorem ex1 {L1 : Nat} (h : L1 ≤ 30) : 52 - L1 + (54 + (968 + L1)) = 1074 := by omega
theorem ex2 {E L1 L2 la : Nat} (h : (E : Int) = (L1 : Int) - L2 + la + 967) (h1 : 54 ≤ la) (h2 : L2 ≤ 30) : 52 - L2 + (la - 53 + (968 + L1)) = E := by omega
theorem ac1 (x d b c : Nat) : x * d * (b * c) = x * c * (d * b) := by ac_rfl
theorem ac2 (x b d c : Nat) : x * b * (d * c) = x * c * (d * b) := by ac_rfl
theorem ac3 (a p d c : Nat) : a * p * (d * c) = a * d * c * p := by ac_rfl
theorem ac4 (x c b : Nat) : x * c * b = x * (c * b) := by ac_rfl
theorem ac5 (x c b : Nat) : x * c * b = x * b * c := by ac_rfl
theorem ac6 (a p c : Nat) : a * p * c = p * (a * c) := by ac_rfl
theorem pos_of_B {k : Nat} (h : B ≤ k) : k ≠ 0 := by unfold B at h; omega
/-- a small number, exactly -/
theorem read_small {a : Nat} (h0 : a ≠ 0) (h : a ≤ 1073741824) : ∃ L k : Nat, L ≤ 30 ∧ k = a * 2 ^ (52 - L) ∧ B ≤ k ∧ k < 2 * B ∧ double.read (double.nearest false a 0) = .number false k ((L : Int) - 52) := by
  obtain ⟨L, hL⟩ : ∃ L, L = a.log2 := ⟨_, rfl⟩
  have hl := (Nat.log2_eq_iff h0).1 hL.symm
  have hL30 : L ≤ 30 := by
    have : a.log2 < 31 := (Nat.log2_lt h0).2 (by omega)
    omega
  have hk1 : B ≤ a * 2 ^ (52 - L) := by
    have := Nat.mul_le_mul_right (2 ^ (52 - L)) hl.1
    rw [← Nat.pow_add, show L + (52 - L) = 52 by omega] at this
    exact this
  have hk2 : a * 2 ^ (52 - L) < 2 * B := by
    have := Nat.mul_lt_mul_of_pos_right hl.2 (Nat.pow_pos (n := 52 - L) (show 0 < 2 by decide))
    rw [← Nat.pow_add, show L + 1 + (52 - L) = 53 by omega] at this
    exact this
  obtain ⟨k, hk⟩ : ∃ k, k = a * 2 ^ (52 - L) := ⟨_, rfl⟩
  rw [← hk] at hk1 hk2
  refine ⟨L, k, hL30, hk, hk1, hk2, ?_⟩
  have hn : double.nearest false a 0 = (L + 1022) * B + k := by
    unfold Format.nearest
    rw [if_neg h0, ← hL]
    have hlast : max ((0 : Int) + (L : Nat) - (double.fractionBits : Nat)) double.leastPlace = (L : Int) - 52 := by
      rw [lp, show double.fractionBits = 52 from rfl]; omega
    simp only [hlast]
    have e1 : ((0 : Int) - ((L : Int) - 52)).toNat = 52 - L := by omega
    have e2 : ((L : Int) - 52 - 0).toNat = 0 := by omega
    have e3 : ((L : Int) - 52 - double.leastPlace).toNat = L + 1022 := by rw [lp]; omega
    rw [e1, e2, e3, Nat.shiftLeft_eq, ← hk]
    have hc := cut_exact false k 0 0 (by omega) (pos_of_B hk1)
    rw [Nat.pow_zero, Nat.mul_one] at hc
    rw [hc, bd, ir]
    unfold Format.word
    rw [if_neg (by decide), sm1 hL30 hk2]
  rw [hn]
  unfold Format.read
  simp only [sw, ir, bd, lp]
  obtain ⟨hlt, hn2, hn3⟩ := sm2 hL30 hk1 hk2
  rw [Nat.mod_eq_of_lt hlt, if_neg hn2, if_pos hn3, Nat.div_eq_of_lt hlt]
  obtain ⟨hd, hm⟩ := sm3 (L := L) hk1 hk2
  rw [hd, hm, show ((-1074 : Int) + ((L + 1023 - 1 : Nat) : Int)) = (L : Int) - 52 by omega]
  rfl
/-- where the quotient of two small numbers stands -/
def Stands (a b fl r : Nat) : Prop := B ≤ fl ∧ mg fl * b ≤ a * P ∧ a * P < mg (fl + 1) * b ∧ mg (fl + 1) * B ≤ mg fl * (B + 1) ∧ (r = fl ∨ r = fl + 1) ∧ r < I
theorem quot_stands {a b : Nat} (ha : a ≠ 0) (ha2 : a ≤ 1073741824) (hb : b ≠ 0) (hb2 : b ≤ 1073741824) (hab : a ≤ b) : ∃ fl r, double.div (double.nearest false a 0) (double.nearest false b 0) = some r ∧ Stands a b fl r := by
  obtain ⟨L1, k1, hL1, e1, h11, h12, hr1⟩ := read_small ha ha2
  obtain ⟨L2, k2, hL2, e2, h21, h22, hr2⟩ := read_small hb hb2
  have hk10 : k1 ≠ 0 := pos_of_B h11
  have hk20 : k2 ≠ 0 := pos_of_B h21
  have l1 : k1.log2 = 52 := (Nat.log2_eq_iff hk10).2 ⟨h11, h12⟩
  have l2 : k2.log2 = 52 := (Nat.log2_eq_iff hk20).2 ⟨h21, h22⟩
  obtain ⟨D, hD⟩ : ∃ D, D = k1 * 2 ^ 54 / k2 := ⟨_, rfl⟩
  obtain ⟨st, hst, hst1⟩ : ∃ st, st = (k1 * 2 ^ 54 % k2 != 0).toNat ∧ st ≤ 1 := ⟨_, rfl, by cases (k1 * 2 ^ 54 % k2 != 0) <;> decide⟩
  have hD1 : 2 ^ 53 ≤ D := by
    rw [hD, Nat.le_div_iff_mul_le (Nat.pos_of_ne_zero hk20)]
    exact (sm4 h11 h12 h21 h22).1
  have hD2 : D < 2 ^ 55 := by
    rw [hD, Nat.div_lt_iff_lt_mul (Nat.pos_of_ne_zero hk20)]
    exact (sm4 h11 h12 h21 h22).2
  obtain ⟨M, hM⟩ : ∃ M, M = 2 * D + st := ⟨_, rfl⟩
  have hM0 : M ≠ 0 := by omega
  obtain ⟨la, hla⟩ : ∃ la, la = M.log2 := ⟨_, rfl⟩
  have hll := (Nat.log2_eq_iff hM0).1 hla.symm
  have hla1 : 54 ≤ la := by
    rcases Nat.lt_or_ge la 54 with h | h
    · have : 2 ^ (la + 1) ≤ 2 ^ 54 := Nat.pow_le_pow_right (by decide) (by omega)
      omega
    · exact h
  have hla2 : la ≤ 55 := by
    rcases Nat.lt_or_ge 55 la with h | h
    · have : 2 ^ 56 ≤ 2 ^ la := Nat.pow_le_pow_right (by decide) h
      omega
    · exact h
  -- the quotient
  have hdiv : double.div (double.nearest false a 0) (double.nearest false b 0) = some (double.nearest false M ((L1 : Int) - L2 - 55)) := by
    unfold Format.div
    rw [hr1, hr2]
    unfold Datum.quotient
    simp only [hk20, if_false, l1, l2]
    rw [show double.fractionBits + 2 + 52 - 52 = 54 by decide, Nat.shiftLeft_eq, ← hD, ← hst, ← hM]
    show some (double.nearest (false ^^ false) M ((L1 : Int) - 52 - ((L2 : Int) - 52) - ((54 : Nat) : Int) - 1)) = _
    rw [Bool.xor_false, show (L1 : Int) - 52 - ((L2 : Int) - 52) - ((54 : Nat) : Int) - 1 = (L1 : Int) - L2 - 55 by omega]
  obtain ⟨E, hE⟩ : ∃ E : Nat, (E : Int) = (L1 : Int) - L2 + la + 967 := ⟨((L1 : Int) - L2 + la + 967).toNat, by omega⟩
  obtain ⟨low, hlow⟩ : ∃ low, low = M / 2 ^ (la - 52) := ⟨_, rfl⟩
  have hlow1 : B ≤ low := by
    rw [hlow, Nat.le_div_iff_mul_le (Nat.pow_pos (by decide))]
    show 2 ^ 52 * _ ≤ _
    rw [← Nat.pow_add, show 52 + (la - 52) = la by omega]; exact hll.1
  have hlow2 : low < 2 * B := by
    rw [hlow, Nat.div_lt_iff_lt_mul (Nat.pow_pos (by decide))]
    show _ < 2 ^ 53 * _
    rw [← Nat.pow_add, show 53 + (la - 52) = la + 1 by omega]; exact hll.2
  obtain ⟨mo, hmo, hnear⟩ : ∃ mo, mo ≤ 1 ∧ double.nearest false M ((L1 : Int) - L2 - 55) = min (E * B + (low + mo)) I := by
    refine ⟨(decide ((2 ^ (la - 52)) < 2 * (M % 2 ^ (la - 52))) || ((2 ^ (la - 52)) == 2 * (M % 2 ^ (la - 52)) && low % 2 == 1)).toNat, by generalize (_ || _) = p; cases p <;> decide, ?_⟩
    unfold Format.nearest
    rw [if_neg hM0, ← hla]
    have hlast : max ((L1 : Int) - L2 - 55 + (la : Nat) - (double.fractionBits : Nat)) double.leastPlace = (L1 : Int) - L2 - 55 + la - 52 := by
      rw [lp, show double.fractionBits = 52 from rfl]; omega
    simp only [hlast]
    have e3 : ((L1 : Int) - L2 - 55 - ((L1 : Int) - L2 - 55 + la - 52)).toNat = 0 := by omega
    have e4 : ((L1 : Int) - L2 - 55 + la - 52 - ((L1 : Int) - L2 - 55)).toNat = la - 52 := by omega
    have e5 : ((L1 : Int) - L2 - 55 + la - 52 - double.leastPlace).toNat = E := by rw [lp]; omega
    rw [e3, e4, e5, Nat.shiftLeft_zero, bd, ir]
    unfold Toward.cut
    simp only
    rw [← hla, show min (la - 52) (la + 2) = la - 52 by omega, Nat.one_shiftLeft, ← hlow]
    unfold Format.word
    rw [if_neg (by decide)]
  have hE2 : E ≤ 1052 := by omega
  have hEB : E * B + (low + mo) < I := sm5 hE2 (by omega)
  rw [Nat.min_eq_left (Nat.le_of_lt hEB)] at hnear
  have mgv : ∀ x, B ≤ x → x ≤ 2 * B → mg (E * B + x) = x * 2 ^ E := by
    intro x hx1 hx2
    have hB0 : 0 < B := by decide
    unfold mg
    rw [if_neg (by omega)]
    rcases Nat.lt_or_ge x (2 * B) with h | h
    · have hd : (E * B + x) / B = E + 1 := by
        rw [Nat.mul_comm, Nat.mul_add_div hB0, show x / B = 1 from Nat.div_eq_of_lt_le (by omega) (by omega)]
      have hm : (E * B + x) % B = x - B := by
        rw [Nat.mul_comm, Nat.mul_add_mod, Nat.mod_eq_sub_mod hx1, Nat.mod_eq_of_lt (by omega)]
      rw [hd, hm, show B + (x - B) = x by omega, Nat.add_sub_cancel]
    · have hx : x = 2 * B := by omega
      have hd : (E * B + x) / B = E + 2 := by rw [hx, ← Nat.add_mul]; exact Nat.mul_div_cancel _ hB0
      have hm : (E * B + x) % B = 0 := by rw [hx, ← Nat.add_mul]; exact Nat.mul_mod_left _ _
      rw [hd, hm, hx, Nat.add_zero, show E + 2 - 1 = E + 1 by omega, Nat.pow_succ]
      rw [Nat.mul_comm 2 B, Nat.mul_assoc, Nat.mul_comm 2]
  have hdd : low = k1 * 2 ^ 54 / (k2 * 2 ^ (la - 53)) := by
    have : 2 ^ (la - 52) = 2 * 2 ^ (la - 53) := by rw [show la - 52 = (la - 53) + 1 by omega, Nat.pow_succ, Nat.mul_comm]
    rw [hlow, this, ← Nat.div_div_eq_div_mul, show M / 2 = D by omega, hD, Nat.div_div_eq_div_mul]
  have hden : 0 < k2 * 2 ^ (la - 53) := Nat.mul_pos (by omega) (Nat.pow_pos (by decide))
  have hfl1 : low * (k2 * 2 ^ (la - 53)) ≤ k1 * 2 ^ 54 := by rw [hdd]; exact Nat.div_mul_le_self _ _
  have hfl2 : k1 * 2 ^ 54 < (low + 1) * (k2 * 2 ^ (la - 53)) := by
    rw [hdd]; exact Nat.lt_mul_of_div_lt (Nat.lt_succ_self _) hden
  have hR : k1 * 2 ^ 54 * 2 ^ (968 + L1) = a * P := by
    unfold P
    rw [e1, Nat.mul_assoc, Nat.mul_assoc, ← Nat.pow_add, ← Nat.pow_add, ex1 hL1]
  have hLx : ∀ x, x * (k2 * 2 ^ (la - 53)) * 2 ^ (968 + L1) = x * 2 ^ E * b := by
    intro x
    have : k2 * 2 ^ (la - 53) * 2 ^ (968 + L1) = 2 ^ E * b := by
      rw [e2, Nat.mul_assoc, Nat.mul_assoc, ← Nat.pow_add, ← Nat.pow_add, Nat.mul_comm, ex2 hE hla1 hL2]
    rw [Nat.mul_assoc, this, Nat.mul_assoc]
  have hpp : 0 < 2 ^ (968 + L1) := Nat.pow_pos (by decide)
  refine ⟨E * B + low, E * B + (low + mo), by rw [hdiv, hnear], Nat.le_trans hlow1 (Nat.le_add_left _ _), ?_, ?_, ?_, ?_, hEB⟩
  · rw [mgv low hlow1 (by omega), ← hLx, ← hR]; exact Nat.mul_le_mul_right _ hfl1
  · rw [Nat.add_assoc, mgv (low + 1) (by omega) (by omega), ← hLx, ← hR]; exact Nat.mul_lt_mul_of_pos_right hfl2 hpp
  · rw [Nat.add_assoc, mgv (low + 1) (by omega) (by omega), mgv low hlow1 (by omega), Nat.mul_assoc, Nat.mul_assoc, Nat.mul_comm (2 ^ E) B, Nat.mul_comm (2 ^ E) (B + 1), ← Nat.mul_assoc, ← Nat.mul_assoc]
    refine Nat.mul_le_mul_right _ ?_
    rw [Nat.add_mul, Nat.mul_add, Nat.one_mul, Nat.mul_one]; exact Nat.add_le_add_left hlow1 _
  · rcases Nat.le_one_iff_eq_zero_or_eq_one.1 hmo with h | h
    · left; rw [h, Nat.add_zero]
    · right; rw [h, Nat.add_assoc]
/-- the lesser share is no greater, where the two are of one whole, or of one part -/
theorem stands_le {a b c d f1 r1 f2 r2 : Nat} (h1 : Stands a b f1 r1) (h2 : Stands c d f2 r2) (hb : b ≠ 0) (hd : d ≠ 0) (hlt : a * d * (B + 1) ≤ c * b * B) : r1 ≤ r2 := by
  obtain ⟨-, p1, -, p3, p4, -⟩ := h1
  obtain ⟨-, -, q2, -, q4, -⟩ := h2
  suffices f1 < f2 by omega
  rcases Nat.lt_or_ge f1 f2 with h | h
  · exact h
  exfalso
  have hm : mg (f2 + 1) ≤ mg (f1 + 1) := by
    rcases Nat.lt_or_eq_of_le h with h | h
    · exact Nat.le_of_lt (mg_lt (by omega))
    · rw [h]; exact Nat.le_refl _
  have s1 : c * P < mg (f1 + 1) * d := Nat.lt_of_lt_of_le q2 (Nat.mul_le_mul_right _ hm)
  have s2 : c * P * (b * B) < mg (f1 + 1) * d * (b * B) := Nat.mul_lt_mul_of_pos_right s1 (Nat.mul_pos (by omega) (by decide))
  have s3 : mg (f1 + 1) * d * (b * B) ≤ mg f1 * b * (d * (B + 1)) := by
    have := Nat.mul_le_mul_right (d * b) p3
    rw [ac1 (mg (f1 + 1)) d b B, ac2 (mg f1) b d (B + 1)]
    exact this
  have s4 : mg f1 * b * (d * (B + 1)) ≤ a * P * (d * (B + 1)) := Nat.mul_le_mul_right _ p1
  have s5 : a * P * (d * (B + 1)) ≤ c * P * (b * B) := by
    have := Nat.mul_le_mul_right (P) hlt
    rw [ac3 a P d (B + 1), ac3 c P b B]
    exact this
  exact Nat.lt_irrefl _ (Nat.lt_of_lt_of_le s2 (Nat.le_trans s3 (Nat.le_trans s4 s5)))
def R1 : Nat := 4607182418800017408
theorem mg_one : mg R1 = P := by
  unfold mg
  rw [if_neg (by decide), show R1 % B = 0 by decide, show R1 / B - 1 = 1022 by decide, Nat.add_zero, show B = 2 ^ 52 from rfl, ← Nat.pow_add]
  rfl
/-- less than all: less than 1 -/
theorem stands_lt_one {a b f r : Nat} (h : Stands a b f r) (hab : a < b) (hb : b ≤ 1073741824) : r < R1 := by
  obtain ⟨p0, p1, -, p3, p4, -⟩ := h
  suffices f + 1 < R1 by omega
  rcases Nat.lt_or_ge (f + 1) R1 with hlt | hge
  · exact hlt
  exfalso
  have h1 : P ≤ mg (f + 1) := by
    rw [← mg_one]
    rcases Nat.lt_or_eq_of_le hge with h | h
    · exact Nat.le_of_lt (mg_lt h)
    · rw [h]; exact Nat.le_refl _
  have s1 : P * (B * b) ≤ mg (f + 1) * (B * b) := Nat.mul_le_mul_right _ h1
  have s2 : mg (f + 1) * B * b ≤ mg f * (B + 1) * b := Nat.mul_le_mul_right _ p3
  have s3 : mg f * b * (B + 1) ≤ a * P * (B + 1) := Nat.mul_le_mul_right _ p1
  have s4 : P * (B * b) ≤ P * (a * (B + 1)) := by
    rw [ac4 (mg (f + 1)) B b, ac5 (mg f) (B + 1) b] at s2
    rw [ac6 a P (B + 1)] at s3
    exact Nat.le_trans s1 (Nat.le_trans s2 s3)
  have s5 : B * b ≤ a * (B + 1) := Nat.le_of_mul_le_mul_left s4 (show 0 < P from Nat.pow_pos (by decide))
  have s6 : a * (B + 1) ≤ (b - 1) * (B + 1) := Nat.mul_le_mul_right _ (by omega)
  obtain ⟨c, rfl⟩ : ∃ c, b = c + 1 := ⟨b - 1, by omega⟩
  rw [Nat.add_sub_cancel] at s6
  unfold B at *
  omega
end Go.Proofs.Ytcgjngcogdmbaaa.Flo
