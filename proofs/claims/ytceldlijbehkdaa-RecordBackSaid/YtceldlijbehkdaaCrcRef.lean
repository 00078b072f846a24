/- The division of a polynomial bit by bit, the highest power first, is the register that is shifted the other way. Plain numbers. -/
import Derived.Test.YtceldlijbehkdaaCrc
set_option linter.unusedVariables false
set_option linter.unusedSimpArgs false
namespace Go.Proofs.Ytceldlijbehkdaa.Crc

def b2n (b : Bool) : Nat := if b then 1 else 0
/-- one bit more, the highest power first -/
def dv (r : Nat) (b : Bool) : Nat := if 2147483648 ≤ r then (r * 2 % 4294967296 + b2n b) ^^^ 0x1edc6f41 else r * 2 % 4294967296 + b2n b
/-- the other way round -/
def rv : Nat → Nat → Nat
  | 0, _ => 0
  | k + 1, r => 2 * rv k r + r / 2 ^ k % 2
def db (x : Nat) (b : Bool) : Nat := step x ^^^ 2 ^ 31 * b2n b
def numB : List Bool → Nat
  | [] => 0
  | b :: l => b2n b + 2 * numB l
theorem b2n_lt (b : Bool) : b2n b < 2 := by cases b <;> decide
theorem rv_bit (k r : Nat) : ∀ i, (rv k r).testBit i = (decide (i < k) && r.testBit (k - 1 - i)) := by
  induction k with
  | zero => intro i; simp [rv]
  | succ k ih =>
    intro i
    have h2 : r / 2 ^ k % 2 = b2n (r.testBit k) := by
      rw [Nat.testBit_eq_decide_div_mod_eq]
      rcases Nat.mod_two_eq_zero_or_one (r / 2 ^ k) with h | h <;> simp [h, b2n]
    cases i with
    | zero =>
      rw [Nat.testBit_zero]
      simp only [rv, h2]
      cases hb : r.testBit k <;> simp [b2n, hb] <;> omega
    | succ i =>
      rw [Nat.testBit_succ]
      have h3 : rv (k + 1) r / 2 = rv k r := by simp only [rv]; omega
      rw [h3, ih]
      have e1 : k + 1 - 1 - (i + 1) = k - 1 - i := by omega
      have e2 : (i + 1 < k + 1) ↔ i < k := by omega
      rw [e1]
      simp only [e2]
theorem rv_xor (k a b : Nat) : rv k (a ^^^ b) = rv k a ^^^ rv k b := by
  apply Nat.eq_of_testBit_eq; intro i
  simp only [Nat.testBit_xor, rv_bit]
  cases decide (i < k) <;> simp
theorem rv_double {r : Nat} (h : r < 4294967296) : rv 32 (r * 2 % 4294967296) = rv 32 r / 2 := by
  apply Nat.eq_of_testBit_eq; intro i
  rw [Nat.testBit_div_two, rv_bit, rv_bit, show (4294967296 : Nat) = 2 ^ 32 from rfl, Nat.testBit_mod_two_pow, Nat.mul_comm r 2]
  by_cases hi : i < 31
  · have e : 32 - 1 - i = (32 - 1 - (i + 1)) + 1 := by omega
    have f1 : i < 32 := by omega
    have f2 : i + 1 < 32 := by omega
    have f3 : 32 - 1 - (i + 1) + 1 < 32 := by omega
    rw [e, Nat.testBit_succ, show 2 * r / 2 = r by omega]
    simp only [f1, f2, f3, decide_true, Bool.true_and]
  · by_cases h31 : i = 31
    · subst h31
      simp
    · simp [show ¬ i < 32 by omega, show ¬ i + 1 < 32 by omega]
theorem rv_b (b : Bool) : rv 32 (b2n b) = 2 ^ 31 * b2n b := by cases b <;> decide
theorem rv_odd {r : Nat} (h : r < 4294967296) : rv 32 r % 2 = 1 ↔ 2147483648 ≤ r := by
  have h1 := rv_bit 32 r 0
  rw [Nat.testBit_zero] at h1
  have h2 : r.testBit 31 = decide (2147483648 ≤ r) := by
    rw [Nat.testBit_eq_decide_div_mod_eq]
    congr 1
    apply propext
    omega
  rw [show 32 - 1 - 0 = 31 from rfl, h2] at h1
  by_cases hr : 2147483648 ≤ r
  · simp [hr] at h1; simp [hr, h1]
  · simp [hr] at h1; simp [hr, h1]
theorem low_xor (r : Nat) (b : Bool) : r * 2 % 4294967296 + b2n b = r * 2 % 4294967296 ^^^ b2n b := by
  have h1 : b2n b < 2 ^ 1 := b2n_lt b
  have h2 := add_eq_xor (b := r % 2147483648) h1
  have h3 : r * 2 % 4294967296 = 2 ^ 1 * (r % 2147483648) := by omega
  rw [h3, Nat.add_comm, h2, Nat.xor_comm]
theorem rv_dv {r : Nat} (h : r < 4294967296) (b : Bool) : rv 32 (dv r b) = db (rv 32 r) b := by
  unfold dv db step
  by_cases hr : 2147483648 ≤ r
  · rw [if_pos hr, if_pos ((rv_odd h).2 hr), low_xor, rv_xor, rv_xor, rv_double h, rv_b, show rv 32 0x1edc6f41 = poly by decide]
    rw [Nat.xor_assoc, Nat.xor_assoc, Nat.xor_comm (2 ^ 31 * b2n b)]
  · rw [if_neg hr, if_neg (fun e => hr ((rv_odd h).1 e)), low_xor, rv_xor, rv_double h, rv_b]
theorem dv_lt {r : Nat} (h : r < 4294967296) (b : Bool) : dv r b < 4294967296 := by
  have := b2n_lt b
  unfold dv
  split
  · exact Nat.xor_lt_two_pow (n := 32) (by omega) (by decide)
  · omega
theorem fold_rv (L : List Bool) : ∀ {r : Nat}, r < 4294967296 → rv 32 (L.foldl dv r) = L.foldl db (rv 32 r) := by
  induction L with
  | nil => intro r h; rfl
  | cons b L ih => intro r h; simp only [List.foldl_cons]; rw [ih (dv_lt h b), rv_dv h]
theorem fold_lt (L : List Bool) : ∀ {r : Nat}, r < 4294967296 → L.foldl dv r < 4294967296 := by
  induction L with
  | nil => intro r h; exact h
  | cons b L ih => intro r h; simp only [List.foldl_cons]; exact ih (dv_lt h b)
theorem fold_db (L : List Bool) : ∀ x : Nat, L.foldl db x = steps L.length (x ^^^ 2 ^ 32 * numB L) := by
  induction L with
  | nil => intro x; simp [numB, steps]
  | cons b L ih =>
    intro x
    simp only [List.foldl_cons, List.length_cons, steps]
    rw [ih, step_xor]
    congr 1
    unfold db
    rw [show 2 ^ 32 * numB (b :: L) = 2 * (2 ^ 31 * (b2n b + 2 * numB L)) by simp only [numB]; omega, step_double, Nat.xor_assoc]
    congr 1
    have h1 : 2 ^ 31 * b2n b < 2 ^ 32 := by have := b2n_lt b; omega
    rw [← add_eq_xor h1]
    omega
/-- the bits of a byte, the lowest first -/
def bitsOf (c : Nat) : List Bool := (List.range 8).map fun k => c / 2 ^ k % 2 == 1
def bitsAll : List Nat → List Bool
  | [] => []
  | c :: l => bitsOf c ++ bitsAll l
theorem numB_append : ∀ a b : List Bool, numB (a ++ b) = numB a + 2 ^ a.length * numB b
  | [], b => by simp [numB]
  | c :: a, b => by
    simp only [List.cons_append, numB, numB_append a b, List.length_cons, Nat.pow_succ]
    rw [Nat.mul_comm (2 ^ a.length) 2, Nat.mul_assoc]; omega
theorem bitsOf_len (c : Nat) : (bitsOf c).length = 8 := by simp [bitsOf]
theorem bitsAll_len : ∀ l : List Nat, (bitsAll l).length = 8 * l.length
  | [] => rfl
  | c :: l => by simp only [bitsAll, List.length_append, bitsOf_len, bitsAll_len l, List.length_cons]; omega
theorem numB_bitsOf {c : Nat} (h : c < 256) : numB (bitsOf c) = c := by
  have h1 : ∀ k, b2n (c / 2 ^ k % 2 == 1) = c / 2 ^ k % 2 := by
    intro k
    rcases Nat.mod_two_eq_zero_or_one (c / 2 ^ k) with h | h <;> simp [h, b2n]
  show numB ((List.range 8).map _) = c
  rw [show List.range 8 = [0, 1, 2, 3, 4, 5, 6, 7] from rfl]
  simp only [List.map_cons, List.map_nil, numB, h1]
  omega
theorem numB_all : ∀ {l : List Nat}, (∀ c ∈ l, c < 256) → numB (bitsAll l) = num l
  | [], _ => rfl
  | c :: l, h => by
    simp only [bitsAll, num, numB_append, bitsOf_len]
    rw [numB_bitsOf (h c List.mem_cons_self), numB_all (fun x hx => h x (List.mem_cons_of_mem _ hx))]
/-- the first k turned round -/
def flipN (k : Nat) (L : List Bool) : List Bool := (L.take k).map (! ·) ++ L.drop k
theorem flip_num : ∀ (k : Nat) (L : List Bool), k ≤ L.length → numB (flipN k L) = numB L ^^^ (2 ^ k - 1)
  | 0, L, _ => by simp [flipN]
  | k + 1, [], h => by simp at h
  | k + 1, b :: L, h => by
    have ih := flip_num k L (by simpa using h)
    have e : flipN (k + 1) (b :: L) = (!b) :: flipN k L := by simp [flipN]
    rw [e]
    simp only [numB, ih]
    have hp : 0 < 2 ^ k := Nat.pow_pos (by decide)
    apply Nat.eq_of_testBit_eq; intro i
    have x1 : ∀ (c : Bool) (n : Nat), (b2n c + 2 * n).testBit 0 = c := by intro c n; rw [Nat.testBit_zero]; cases c <;> simp [b2n] <;> omega
    have x2 : ∀ (c : Bool) (n i : Nat), (b2n c + 2 * n).testBit (i + 1) = n.testBit i := by
      intro c n i
      rw [Nat.testBit_succ]
      congr 1
      have := b2n_lt c
      omega
    rw [Nat.testBit_xor]
    cases i with
    | zero =>
      rw [x1, x1, Nat.testBit_two_pow_sub_one]
      cases b <;> simp
    | succ i =>
      rw [x2, x2, Nat.testBit_xor, Nat.testBit_two_pow_sub_one, Nat.testBit_two_pow_sub_one]
      simp
theorem numB_zeros (k : Nat) : numB (List.replicate k false) = 0 := by
  induction k with
  | zero => rfl
  | succ k ih => simp [List.replicate_succ, numB, ih, b2n]
/-- THE LAW -/
theorem ref_sum {l : List Nat} (hl : ∀ c ∈ l, c < 256) : rv 32 ((flipN 32 (bitsAll l ++ List.replicate 32 false)).foldl dv 0) ^^^ ones = sum l := by
  have hlen : (flipN 32 (bitsAll l ++ List.replicate 32 false)).length = 32 + 8 * l.length := by
    unfold flipN
    simp only [List.length_append, List.length_map, List.length_take, List.length_drop, List.length_replicate, bitsAll_len]
    omega
  rw [fold_rv _ (by decide), fold_db, hlen, steps_add, show rv 32 0 = 0 by decide, Nat.zero_xor, steps_shift, flip_num _ _ (by simp), numB_append, numB_zeros, Nat.mul_zero, Nat.add_zero, numB_all hl, sum_eq]
  unfold reg
  rw [Nat.xor_comm (num l)]; rfl
end Go.Proofs.Ytceldlijbehkdaa.Crc
