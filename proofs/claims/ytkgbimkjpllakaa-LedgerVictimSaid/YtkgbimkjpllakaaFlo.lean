/- Floats of 64 bits by their bits: how two stand to each other; a double. Plain numbers over Ieee. -/
import Ieee.Arith
set_option linter.unusedVariables false
set_option linter.unusedSimpArgs false
namespace Go.Proofs.Ytkgbimkjpllakaa.Flo
open Ieee

def B : Nat := 4503599627370496
def I : Nat := 9218868437227405312
def S : Nat := 9223372036854775808
def rg (b : Nat) : Nat := b % S
def sg (b : Nat) : Bool := b / S % 2 == 1
def nan (b : Nat) : Bool := decide (I < rg b)
def key (b : Nat) : Int := if sg b then -(rg b : Int) else (rg b : Int)
def fcmp (a b : Nat) : Option Ordering := if nan a || nan b then none else some (compare (key a) (key b))
/-- the magnitude of a rung, in units of the least place -/
def mg (r : Nat) : Nat := if r < B then r else (B + r % B) * 2 ^ (r / B - 1)

theorem cmp_congr {x y x' y' : Int} (h1 : x < y ↔ x' < y') (h2 : x = y ↔ x' = y') : compare x y = compare x' y' := by
  simp only [compare, compareOfLessAndEq, h1, h2]
theorem mg_lt {r s : Nat} (h : r < s) : mg r < mg s := by
  have hB : 0 < B := by decide
  unfold mg
  by_cases hr : r < B
  · rw [if_pos hr]
    by_cases hs : s < B
    · rw [if_pos hs]; exact h
    · rw [if_neg hs]
      have : 0 < 2 ^ (s / B - 1) := Nat.pow_pos (by decide)
      have h2 : B * 1 ≤ (B + s % B) * 2 ^ (s / B - 1) := Nat.mul_le_mul (by omega) this
      omega
  · rw [if_neg hr, if_neg (by omega)]
    have hq : r / B ≤ s / B := Nat.div_le_div_right (by omega)
    have hr1 : r % B < B := Nat.mod_lt _ hB
    have hq1 : 1 ≤ r / B := (Nat.le_div_iff_mul_le hB).2 (by omega)
    rcases Nat.lt_or_ge (r / B) (s / B) with hlt | hge
    · have h1 : (B + r % B) * 2 ^ (r / B - 1) < (B + B) * 2 ^ (r / B - 1) := Nat.mul_lt_mul_of_pos_right (by omega) (Nat.pow_pos (by decide))
      have h2 : (B + B) * 2 ^ (r / B - 1) = B * 2 ^ (r / B) := by
        obtain ⟨q, hq⟩ : ∃ q, r / B = q + 1 := ⟨r / B - 1, by omega⟩
        rw [hq, Nat.add_sub_cancel, Nat.pow_succ, ← Nat.mul_two, Nat.mul_assoc, Nat.mul_comm 2]
      have h3 : B * 2 ^ (r / B) ≤ (B + s % B) * 2 ^ (s / B - 1) := Nat.mul_le_mul (by omega) (Nat.pow_le_pow_right (by decide) (by omega))
      omega
    · have he : r / B = s / B := by omega
      have h1 := Nat.div_add_mod r B
      have h2 := Nat.div_add_mod s B
      rw [he] at h1 ⊢
      exact Nat.mul_lt_mul_of_pos_right (by omega) (Nat.pow_pos (by decide))
theorem mg_iff {r s : Nat} : mg r < mg s ↔ r < s := by
  constructor
  · intro h
    rcases Nat.lt_trichotomy r s with h1 | h1 | h1
    · exact h1
    · subst h1; omega
    · have := mg_lt h1; omega
  · exact mg_lt
theorem mg_eq {r s : Nat} : mg r = mg s ↔ r = s := by
  constructor
  · intro h
    rcases Nat.lt_trichotomy r s with h1 | h1 | h1
    · have := mg_lt h1; omega
    · exact h1
    · have := mg_lt h1; omega
  · intro h; rw [h]
theorem sw : double.signWeight = S := by decide
theorem ir : double.infRung = I := by decide
theorem bd : double.binade = B := by decide
theorem lp : double.leastPlace = -1074 := by decide
theorem read_nan {b : Nat} (h : nan b = true) : ∃ t, double.read b = .nan (sg b) t := by
  have h1 : I < rg b := of_decide_eq_true h
  refine ⟨rg b - I, ?_⟩
  unfold Format.read
  simp only [sw, ir, bd]
  have hBI : B < I := by decide
  unfold rg at h1 ⊢
  rw [if_neg (by omega), if_neg (by omega), if_neg (by omega)]; rfl
theorem read_inf {b : Nat} (h : rg b = I) : double.read b = .infinity (sg b) := by
  unfold Format.read
  simp only [sw, ir, bd]
  have hBI : B < I := by decide
  unfold rg at h
  rw [if_neg (by omega), if_neg (by omega), if_pos h]; rfl
theorem read_num {b : Nat} (h : rg b < I) : ∃ (m k : Nat), double.read b = .number (sg b) m (-1074 + k) ∧ m * 2 ^ k = mg (rg b) := by
  unfold Format.read
  simp only [sw, ir, bd, lp]
  unfold mg
  unfold rg at h ⊢
  by_cases hB : b % S < B
  · rw [if_pos hB, if_pos hB]
    exact ⟨b % S, 0, by simp; rfl, by simp⟩
  · rw [if_neg hB, if_pos h, if_neg hB]
    exact ⟨_, b % S / B - 1, rfl, rfl⟩
theorem signed_eq (s : Bool) (m k : Nat) : signed s m k = (if s then -((m * 2 ^ k : Nat) : Int) else ((m * 2 ^ k : Nat) : Int)) := by
  unfold signed; simp only [Nat.shiftLeft_eq]
theorem scale {s : Bool} {m k k0 : Nat} (h : k0 ≤ k) : signed s m (k - k0) * 2 ^ k0 = (if s then -((m * 2 ^ k : Nat) : Int) else ((m * 2 ^ k : Nat) : Int)) := by
  rw [signed_eq]
  have e : m * 2 ^ (k - k0) * 2 ^ k0 = m * 2 ^ k := by rw [Nat.mul_assoc, ← Nat.pow_add, Nat.sub_add_cancel h]
  have e2 : ((m * 2 ^ (k - k0) : Nat) : Int) * 2 ^ k0 = ((m * 2 ^ k : Nat) : Int) := by rw [← e]; simp
  cases s
  · simp only [Bool.false_eq_true, if_false]; exact e2
  · simp only [if_true]; rw [Int.neg_mul, e2]
theorem order_num {s t : Bool} {m n k l : Nat} : Datum.order (.number s m (-1074 + k)) (.number t n (-1074 + l)) = some (compare (if s then -((m * 2 ^ k : Nat) : Int) else ((m * 2 ^ k : Nat) : Int)) (if t then -((n * 2 ^ l : Nat) : Int) else ((n * 2 ^ l : Nat) : Int))) := by
  unfold Datum.order
  simp only
  congr 1
  obtain ⟨z, hz⟩ : ∃ z : Nat, z = min k l := ⟨_, rfl⟩
  have e1 : ((-1074 + (k : Int)) - min (-1074 + (k : Int)) (-1074 + (l : Int))).toNat = k - z := by omega
  have e2 : ((-1074 + (l : Int)) - min (-1074 + (k : Int)) (-1074 + (l : Int))).toNat = l - z := by omega
  rw [e1, e2, ← scale (s := s) (m := m) (k := k) (k0 := z) (by omega), ← scale (s := t) (m := n) (k := l) (k0 := z) (by omega)]
  have hp : (0 : Int) < 2 ^ z := Int.pow_pos (by decide)
  apply cmp_congr
  · constructor
    · intro h; exact Int.mul_lt_mul_of_pos_right h hp
    · intro h; exact Int.lt_of_mul_lt_mul_right h (Int.le_of_lt hp)
  · constructor
    · intro h; rw [h]
    · intro h; exact Int.eq_of_mul_eq_mul_right (by omega) h
theorem order_eq (a b : Nat) : double.order a b = fcmp a b := by
  unfold Format.order fcmp
  by_cases ha : nan a = true
  · obtain ⟨t, e⟩ := read_nan ha
    rw [e, ha]; rfl
  · have ha' : nan a = false := by simpa using ha
    by_cases hb : nan b = true
    · obtain ⟨t, e⟩ := read_nan hb
      rw [e, hb, ha']
      cases double.read a <;> rfl
    · have hb' : nan b = false := by simpa using hb
      rw [ha', hb', if_neg (by simp)]
      have ra : rg a ≤ I := by unfold nan at ha'; have := of_decide_eq_false ha'; omega
      have rb : rg b ≤ I := by unfold nan at hb'; have := of_decide_eq_false hb'; omega
      rcases Nat.lt_or_ge (rg a) I with la | la
      · obtain ⟨m, k, e, hm⟩ := read_num la
        rcases Nat.lt_or_ge (rg b) I with lb | lb
        · obtain ⟨n, l, e2, hn⟩ := read_num lb
          rw [e, e2, order_num, hm, hn]
          congr 1
          unfold key
          have h1 := @mg_iff (rg a) (rg b)
          have h2 := @mg_iff (rg b) (rg a)
          have h3 := @mg_eq (rg a) (rg b)
          have h0 : mg 0 = 0 := by decide
          have h4 := @mg_iff 0 (rg a)
          have h5 := @mg_iff 0 (rg b)
          rw [h0] at h4 h5
          apply cmp_congr <;> cases sg a <;> cases sg b <;> simp only [Bool.false_eq_true, if_false, if_true] <;> omega
        · have hbI : rg b = I := by omega
          rw [e, read_inf hbI]
          unfold Datum.order
          simp only
          congr 1
          unfold key
          rw [hbI]
          cases sg b <;> cases sg a <;> simp only [Bool.false_eq_true, if_false, if_true] <;> symm <;> simp only [compare, compareOfLessAndEq]
          · rw [if_pos (by omega)]
          · rw [if_pos (by omega)]
          · rw [if_neg (by omega), if_neg (by omega)]
          · rw [if_neg (by omega), if_neg (by omega)]
      · have haI : rg a = I := by omega
        rw [read_inf haI]
        rcases Nat.lt_or_ge (rg b) I with lb | lb
        · obtain ⟨n, l, e2, hn⟩ := read_num lb
          rw [e2]
          unfold Datum.order
          simp only
          congr 1
          unfold key
          rw [haI]
          cases sg a <;> cases sg b <;> simp only [Bool.false_eq_true, if_false, if_true] <;> symm <;> simp only [compare, compareOfLessAndEq]
          · rw [if_neg (by omega), if_neg (by omega)]
          · rw [if_neg (by omega), if_neg (by omega)]
          · rw [if_pos (by omega)]
          · rw [if_pos (by omega)]
        · have hbI : rg b = I := by omega
          rw [read_inf hbI]
          unfold Datum.order
          simp only
          congr 1
          unfold key
          rw [haI, hbI]
          cases sg a <;> cases sg b <;> decide
/-! ### doubles -/
theorem read_two : double.read 4611686018427387904 = .number false B (-51) := by decide
theorem log2_mul_pow {m : Nat} (h : m ≠ 0) (k : Nat) : (m * 2 ^ k).log2 = m.log2 + k := by
  have h1 := (Nat.log2_eq_iff h).1 rfl
  refine (Nat.log2_eq_iff (Nat.mul_ne_zero h (Nat.pos_iff_ne_zero.1 (Nat.pow_pos (by decide))))).2 ⟨?_, ?_⟩
  · rw [Nat.pow_add]; exact Nat.mul_le_mul_right _ h1.1
  · rw [show m.log2 + k + 1 = (m.log2 + 1) + k by omega, Nat.pow_add]; exact Nat.mul_lt_mul_of_pos_right h1.2 (Nat.pow_pos (by decide))
/-- a cut at a multiple drops nothing -/
theorem cut_exact (s : Bool) (n d k : Nat) (hk : d ≤ k) (hn : n ≠ 0) : Toward.even.cut s (n * 2 ^ k) d = n * 2 ^ (k - d) := by
  unfold Toward.cut
  simp only
  have hl : min d ((n * 2 ^ k).log2 + 2) = d := by rw [log2_mul_pow hn]; omega
  rw [hl, Nat.one_shiftLeft]
  have hp : 0 < 2 ^ d := Nat.pow_pos (by decide)
  have e : n * 2 ^ k = n * 2 ^ (k - d) * 2 ^ d := by rw [Nat.mul_assoc, ← Nat.pow_add, Nat.sub_add_cancel hk]
  rw [e, Nat.mul_div_cancel _ hp, Nat.mul_mod_left]
  have h1 : decide (2 ^ d < 2 * 0) = false := by simp
  have h2 : (2 ^ d == 2 * 0) = false := by simp
  rw [h1, h2]; rfl
theorem nearest_sub {s : Bool} {m : Nat} (h0 : m ≠ 0) (h : m < B) : double.nearest s (m * B) (-1125) = double.word s (2 * m) := by
  have hl : m.log2 ≤ 51 := by
    have := (Nat.log2_lt h0).2 (show m < 2 ^ 52 from h)
    omega
  have hB : m * B = m * 2 ^ 52 := rfl
  unfold Format.nearest
  have hm : m * B ≠ 0 := Nat.mul_ne_zero h0 (by decide)
  rw [if_neg hm]
  have hlast : max ((-1125 : Int) + ((m * B).log2 : Nat) - (double.fractionBits : Nat)) double.leastPlace = -1074 := by
    rw [hB, log2_mul_pow h0, lp, show double.fractionBits = 52 from rfl]; omega
  simp only [hlast]
  rw [show ((-1125 : Int) - -1074).toNat = 0 from rfl, show ((-1074 : Int) - -1125).toNat = 51 from rfl, Nat.shiftLeft_zero, hB, cut_exact s m 51 52 (by decide) h0, lp, show ((-1074 : Int) - -1074).toNat = 0 from rfl, Nat.zero_mul, Nat.zero_add, ir]
  congr 1
  unfold I B at *
  omega
theorem nearest_norm {s : Bool} {m k : Nat} (h : B ≤ m) (h2 : m < 2 * B) : double.nearest s (m * B) (-1074 + (k : Int) - 51) = double.word s (min ((k + 1) * B + m) I) := by
  have h0 : m ≠ 0 := by unfold B at h; omega
  have hl : m.log2 = 52 := (Nat.log2_eq_iff h0).2 ⟨h, h2⟩
  have hB : m * B = m * 2 ^ 52 := rfl
  unfold Format.nearest
  have hm : m * B ≠ 0 := Nat.mul_ne_zero h0 (by decide)
  rw [if_neg hm]
  have hlast : max ((-1074 + (k : Int) - 51) + ((m * B).log2 : Nat) - (double.fractionBits : Nat)) double.leastPlace = -1074 + (k + 1 : Nat) := by
    rw [hB, log2_mul_pow h0, hl, lp, show double.fractionBits = 52 from rfl]; omega
  simp only [hlast]
  rw [show ((-1074 + (k : Int) - 51) - (-1074 + (k + 1 : Nat))).toNat = 0 by omega, show ((-1074 + ((k + 1 : Nat) : Int)) - (-1074 + (k : Int) - 51)).toNat = 52 by omega, Nat.shiftLeft_zero, hB, cut_exact s m 52 52 (by decide) h0, lp, show ((-1074 + ((k + 1 : Nat) : Int)) - -1074).toNat = k + 1 by omega, bd, ir, Nat.sub_self, Nat.pow_zero, Nat.mul_one]
theorem word_rg {s : Bool} {r : Nat} (h : r ≤ I) : rg (double.word s r) = r ∧ sg (double.word s r) = s := by
  unfold Format.word rg sg
  rw [sw]
  have : I < S := by decide
  cases s
  · simp only [Bool.false_eq_true, if_false]
    rw [Nat.mod_eq_of_lt (by omega), Nat.div_eq_of_lt (by omega)]; exact ⟨rfl, rfl⟩
  · simp only [if_true]
    rw [Nat.add_mod_left, Nat.mod_eq_of_lt (by omega), Nat.add_div_left _ (by decide), Nat.div_eq_of_lt (by omega)]; exact ⟨rfl, rfl⟩
/-- twice a number that is neither 0 nor infinite is another number; twice an infinity is itself -/
theorem double_ne {b : Nat} (h0 : rg b ≠ 0) (hI : rg b < I) : ∃ r, double.mul b 4611686018427387904 = some r ∧ fcmp b r ≠ some .eq := by
  have hfin : ∀ (r' : Nat), r' ≤ I → rg b < r' → fcmp b (double.word (sg b) r') ≠ some .eq := by
    intro r' h1 h2
    obtain ⟨e1, e2⟩ := word_rg (s := sg b) h1
    have hn1 : nan b = false := by unfold nan; exact decide_eq_false (by omega)
    have hn2 : nan (double.word (sg b) r') = false := by unfold nan; rw [e1]; exact decide_eq_false (by omega)
    unfold fcmp
    rw [hn1, hn2, if_neg (by simp)]
    intro h
    injection h with h
    unfold key at h
    rw [e1, e2] at h
    have := Int.compare_eq_eq.1 h
    revert this
    cases sg b <;> simp only [Bool.false_eq_true, if_false, if_true] <;> intro this <;> omega
  unfold Format.mul
  rw [read_two]
  by_cases hB : rg b < B
  · have e : double.read b = .number (sg b) (rg b) (-1074) := by
      unfold Format.read
      simp only [sw, ir, bd, lp]
      rw [if_pos (show b % S < B from hB)]; rfl
    rw [e]
    refine ⟨double.word (sg b) (2 * rg b), ?_, hfin _ (by unfold I B at *; omega) (by omega)⟩
    show some (double.nearest (sg b ^^ false) (rg b * B) (-1074 + -51)) = _
    rw [Bool.xor_false, show (-1074 : Int) + -51 = -1125 from rfl, nearest_sub h0 hB]
  · have e : double.read b = .number (sg b) (B + rg b % B) (-1074 + (rg b / B - 1 : Nat)) := by
      unfold Format.read
      simp only [sw, ir, bd, lp]
      rw [if_neg (show ¬ b % S < B from hB), if_pos (show b % S < I from hI)]; rfl
    rw [e]
    have hmB : rg b % B < B := Nat.mod_lt _ (by decide)
    have hq : 1 ≤ rg b / B := (Nat.le_div_iff_mul_le (by decide)).2 (by omega)
    have hdm := Nat.div_add_mod (rg b) B
    refine ⟨double.word (sg b) (min ((rg b / B - 1 + 1) * B + (B + rg b % B)) I), ?_, hfin _ (Nat.min_le_right _ _) ?_⟩
    · show some (double.nearest (sg b ^^ false) ((B + rg b % B) * B) (-1074 + ((rg b / B - 1 : Nat) : Int) + -51)) = _
      rw [Bool.xor_false, show (-1074 + ((rg b / B - 1 : Nat) : Int) + -51) = -1074 + ((rg b / B - 1 : Nat) : Int) - 51 by omega, nearest_norm (by omega) (by omega)]
    · rw [Nat.sub_add_cancel hq, Nat.mul_comm]
      have : 0 < B := by decide
      omega
theorem double_inf {b : Nat} (hI : rg b = I) : ∃ r, double.mul b 4611686018427387904 = some r ∧ fcmp b r = some .eq := by
  unfold Format.mul
  rw [read_two, read_inf hI]
  refine ⟨double.word (sg b) I, ?_, ?_⟩
  · show some (double.write (.infinity (sg b ^^ false))) = _
    rw [Bool.xor_false]
    show some (double.word (sg b) double.infRung) = _
    rw [ir]
  · obtain ⟨e1, e2⟩ := word_rg (s := sg b) (Nat.le_refl I)
    unfold fcmp nan key
    rw [e1, e2, hI]
    cases sg b <;> decide
/-! ### the order -/
/-- where a float stands: NaN behind all -/
def pl (b : Nat) : Int := if nan b then 18446744073709551616 else if sg b then -1 - (rg b : Int) else (rg b : Int)
def ordN (a b : Nat) : Int := if pl a < pl b then -1 else if pl b < pl a then 1 else 0
def rankN (b : Nat) : Int := if nan b then 6 else if rg b = 0 then (if sg b then 2 else 3) else if rg b = I then (if sg b then 0 else 5) else if sg b then 1 else 4
end Go.Proofs.Ytkgbimkjpllakaa.Flo
