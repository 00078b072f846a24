/- frame: plain lists. -/
import Derived.Test.YtceldlijbehkdaaPutB
import Derived.Test.YtceldlijbehkdaaCrcMore
import Derived.Test.YtceldlijbehkdaaCrcTurnP
set_option linter.unusedVariables false
set_option linter.unusedSimpArgs false
namespace Go.Proofs.Ytceldlijbehkdaa.Fr
open Go.Proofs.Ytceldlijbehkdaa.B Go.Proofs.Ytceldlijbehkdaa.Fx Go.Proofs.Ytceldlijbehkdaa.CrcW

def csum (l : List UInt8) : Nat := Crc.sum (nums8 l)
theorem csum_lt (l : List UInt8) : csum l < 4294967296 := Crc.sum_lt _ (nums8_lt l)
def seal4 (l : List UInt8) : List UInt8 := l ++ putB (csum l) 4
theorem seal4_len (l : List UInt8) : (seal4 l).length = l.length + 4 := by simp [seal4, putB_length]
def headL (k s n : Nat) : List UInt8 := seal4 (putB k 1 ++ putB s 8 ++ putB n 4)
theorem headL_len (k s n : Nat) : (headL k s n).length = 17 := by simp [headL, seal4_len, putB_length]
def makeL (k s : Nat) (d : List UInt8) : List UInt8 := seal4 (headL k s d.length ++ d)
theorem makeL_len (k s : Nat) (d : List UInt8) : (makeL k s d).length = 21 + d.length := by
  simp only [makeL, seal4_len, List.length_append, headL_len]; omega
/-- do bytes end with the check sum of what is ahead of it? -/
def wholeB (y : List UInt8) : Bool := decide (le (y.drop (y.length - 4)) = csum (y.take (y.length - 4)))
theorem whole_seal (l : List UInt8) : wholeB (seal4 l) = true := by
  unfold wholeB
  have h : (seal4 l).length - 4 = l.length := by rw [seal4_len]; omega
  rw [h]
  unfold seal4
  rw [List.drop_left' rfl, List.take_left' rfl, le_putB, Nat.mod_eq_of_lt (Nat.lt_of_lt_of_le (csum_lt l) (by decide))]
  simp
theorem whole_take {x : List UInt8} {m : Nat} (h : m + 4 ≤ x.length) : wholeB (x.take (m + 4)) = decide (le ((x.drop m).take 4) = csum (x.take m)) := by
  unfold wholeB
  have hl : (x.take (m + 4)).length - 4 = m := by rw [List.length_take]; omega
  rw [hl, List.drop_take, List.take_take, Nat.min_eq_left (by omega), show m + 4 - m = 4 by omega]
def fk (x : List UInt8) : Nat := le (x.take 1)
def fs (x : List UInt8) : Nat := le ((x.drop 1).take 8)
def fn (x : List UInt8) : Nat := le ((x.drop 9).take 4)
theorem le_take_lt (x : List UInt8) (k : Nat) : le (x.take k) < 256 ^ k := Nat.lt_of_lt_of_le (le_lt _) (Nat.pow_le_pow_right (by omega) (List.length_take_le _ _))
theorem fk_lt (x : List UInt8) : fk x < 256 := le_take_lt x 1
theorem fs_lt (x : List UInt8) : fs x < 18446744073709551616 := le_take_lt _ 8
theorem fn_lt (x : List UInt8) : fn x < 4294967296 := le_take_lt _ 4
/-- what is wrong with a frame at the beginning of bytes -/
def pErrX (x : List UInt8) : Nat :=
  if x.length < 17 then 4
  else if wholeB (x.take 17) = false then 5
  else if fk x < 1 ∨ 8 < fk x ∨ 65536 < fn x then 3
  else if x.length < 21 + fn x then 4
  else if wholeB (x.take (21 + fn x)) = false then 5
  else 0
def pErr (l : List UInt8) (at_ : Int) : Nat := if at_ < 0 ∨ (l.length : Int) < at_ then 2 else pErrX (l.drop at_.toNat)
def pKind (l : List UInt8) (at_ : Int) : Nat := if pErr l at_ = 0 then fk (l.drop at_.toNat) else 0
def pSeq (l : List UInt8) (at_ : Int) : Nat := if pErr l at_ = 0 then fs (l.drop at_.toNat) else 0
def pData (l : List UInt8) (at_ : Int) : List UInt8 := if pErr l at_ = 0 then ((l.drop at_.toNat).drop 17).take (fn (l.drop at_.toNat)) else []
def pEnd (l : List UInt8) (at_ : Int) : Int := if pErr l at_ = 0 then at_ + 21 + fn (l.drop at_.toNat) else 0
theorem pErrX_ok {x : List UInt8} (h : pErrX x = 0) : 17 ≤ x.length ∧ wholeB (x.take 17) = true ∧ (1 ≤ fk x ∧ fk x ≤ 8) ∧ fn x ≤ 65536 ∧ 21 + fn x ≤ x.length ∧ wholeB (x.take (21 + fn x)) = true := by
  unfold pErrX at h
  by_cases h1 : x.length < 17
  · rw [if_pos h1] at h; omega
  rw [if_neg h1] at h
  by_cases h2 : wholeB (x.take 17) = false
  · rw [if_pos h2] at h; omega
  rw [if_neg h2] at h
  by_cases h3 : fk x < 1 ∨ 8 < fk x ∨ 65536 < fn x
  · rw [if_pos h3] at h; omega
  rw [if_neg h3] at h
  by_cases h4 : x.length < 21 + fn x
  · rw [if_pos h4] at h; omega
  rw [if_neg h4] at h
  by_cases h5 : wholeB (x.take (21 + fn x)) = false
  · rw [if_pos h5] at h; omega
  exact ⟨by omega, by simpa using h2, by omega, by omega, by omega, by simpa using h5⟩
theorem pErr_ok {l : List UInt8} {at_ : Int} (h : pErr l at_ = 0) : 0 ≤ at_ ∧ at_ ≤ (l.length : Int) ∧ pErrX (l.drop at_.toNat) = 0 := by
  unfold pErr at h
  by_cases h1 : at_ < 0 ∨ (l.length : Int) < at_
  · rw [if_pos h1] at h; omega
  · rw [if_neg h1] at h; exact ⟨by omega, by omega, h⟩
theorem pData_le (l : List UInt8) (at_ : Int) : (pData l at_).length ≤ 65536 := by
  unfold pData
  split
  · rename_i h
    have := (pErrX_ok (pErr_ok h).2.2).2.2.2.1
    rw [List.length_take]; omega
  · simp
theorem pErr_in (l : List UInt8) (at_ : Int) : pErr l at_ = 0 ∨ pErr l at_ = 2 ∨ pErr l at_ = 3 ∨ pErr l at_ = 4 ∨ pErr l at_ = 5 := by
  unfold pErr pErrX
  split <;> (try split) <;> (try split) <;> (try split) <;> (try split) <;> (try split) <;> omega
theorem head_is {x : List UInt8} (h : 17 ≤ x.length) (hw : wholeB (x.take 17) = true) : headL (fk x) (fs x) (fn x) = x.take 17 := by
  have e1 : putB (fk x) 1 = x.take 1 := putB_of (by rw [List.length_take]; omega)
  have e2 : putB (fs x) 8 = (x.drop 1).take 8 := putB_of (by rw [List.length_take, List.length_drop]; omega)
  have e3 : putB (fn x) 4 = (x.drop 9).take 4 := putB_of (by rw [List.length_take, List.length_drop]; omega)
  have e5 : putB (le ((x.drop 13).take 4)) 4 = (x.drop 13).take 4 := putB_of (by rw [List.length_take, List.length_drop]; omega)
  have e9 : x.take 9 = x.take 1 ++ (x.drop 1).take 8 := List.take_add (i := 1) (j := 8)
  have e : x.take 13 = x.take 1 ++ (x.drop 1).take 8 ++ (x.drop 9).take 4 := by
    rw [← e9]; exact List.take_add (i := 9) (j := 4)
  have e4 : le ((x.drop 13).take 4) = csum (x.take 13) := by
    have := whole_take (x := x) (m := 13) (by omega)
    rw [hw] at this
    simpa using this.symm
  unfold headL seal4
  rw [e1, e2, e3, ← e, ← e4, e5]
  exact (List.take_add (i := 13) (j := 4)).symm
theorem make_is {x : List UInt8} (h : 21 + fn x ≤ x.length) (hw : wholeB (x.take 17) = true) : makeL (fk x) (fs x) ((x.drop 17).take (fn x)) = x.take (21 + fn x) ↔ wholeB (x.take (21 + fn x)) = true := by
  obtain ⟨n, hn⟩ : ∃ n, n = fn x := ⟨_, rfl⟩
  have hd : ((x.drop 17).take (fn x)).length = fn x := by rw [List.length_take, List.length_drop]; omega
  have e1 : x.take 17 ++ (x.drop 17).take (fn x) = x.take (17 + fn x) := List.take_add.symm
  have e2 : x.take (17 + fn x + 4) = x.take (17 + fn x) ++ (x.drop (17 + fn x)).take 4 := List.take_add
  have ht : ((x.drop (17 + fn x)).take 4).length = 4 := by rw [List.length_take, List.length_drop]; omega
  unfold makeL
  rw [hd, head_is (by omega) hw, e1, show 21 + fn x = 17 + fn x + 4 by omega, whole_take (by omega), e2]
  unfold seal4
  rw [List.append_cancel_left_eq, decide_eq_true_eq]
  constructor
  · intro h
    rw [← h, le_putB, Nat.mod_eq_of_lt (Nat.lt_of_lt_of_le (csum_lt _) (by decide))]
  · intro h
    rw [← h, putB_of ht]
theorem parse_make {a t d : List UInt8} {k s : Nat} (hk1 : 1 ≤ k) (hk : k ≤ 8) (hs : s < 18446744073709551616) (hd : d.length ≤ 65536) (z : List UInt8) (hz : z = a ++ makeL k s d ++ t) :
    pErr z a.length = 0 ∧ pKind z a.length = k ∧ pSeq z a.length = s ∧ pData z a.length = d ∧ pEnd z a.length = (a.length : Int) + 21 + d.length := by
  have hx : z.drop a.length = makeL k s d ++ t := by subst hz; rw [List.append_assoc, List.drop_left' rfl]
  obtain ⟨x, hxe⟩ : ∃ x, x = makeL k s d ++ t := ⟨_, rfl⟩
  rw [← hxe] at hx
  have hxl : x.length = 21 + d.length + t.length := by rw [hxe, List.length_append, makeL_len]
  have q1 : x = putB k 1 ++ (putB s 8 ++ (putB d.length 4 ++ (putB (csum (putB k 1 ++ putB s 8 ++ putB d.length 4)) 4 ++ (d ++ (putB (csum (headL k s d.length ++ d)) 4 ++ t))))) := by
    rw [hxe]; unfold makeL; rw [seal4]; unfold headL; rw [seal4]; simp only [List.append_assoc]
  have f1 : fk x = k := by
    unfold fk; rw [q1, List.take_left' (putB_length _ _), le_putB, Nat.mod_eq_of_lt (by omega)]
  have q2 : x.drop 1 = putB s 8 ++ (putB d.length 4 ++ (putB (csum (putB k 1 ++ putB s 8 ++ putB d.length 4)) 4 ++ (d ++ (putB (csum (headL k s d.length ++ d)) 4 ++ t)))) := by
    rw [q1, List.drop_left' (putB_length _ _)]
  have f2 : fs x = s := by
    unfold fs; rw [q2, List.take_left' (putB_length _ _), le_putB, Nat.mod_eq_of_lt (by omega)]
  have q3 : x.drop 9 = putB d.length 4 ++ (putB (csum (putB k 1 ++ putB s 8 ++ putB d.length 4)) 4 ++ (d ++ (putB (csum (headL k s d.length ++ d)) 4 ++ t))) := by
    rw [show 9 = 1 + 8 from rfl, ← List.drop_drop, q2, List.drop_left' (putB_length _ _)]
  have f3 : fn x = d.length := by
    unfold fn; rw [q3, List.take_left' (putB_length _ _), le_putB, Nat.mod_eq_of_lt (by omega)]
  have hh : x.take 17 = headL k s d.length := by
    rw [hxe]; unfold makeL; rw [seal4, List.append_assoc, List.append_assoc, List.take_left' (headL_len _ _ _)]
  have h17 : x.drop 17 = d ++ (putB (csum (headL k s d.length ++ d)) 4 ++ t) := by
    rw [hxe]; unfold makeL; rw [seal4, List.append_assoc, List.append_assoc, List.drop_left' (headL_len _ _ _)]
  have h21 : x.take (21 + d.length) = makeL k s d := by
    rw [hxe, List.take_left' (makeL_len _ _ _)]
  have hX : pErrX x = 0 := by
    unfold pErrX
    rw [if_neg (by omega), hh, if_neg (by rw [show wholeB (headL k s d.length) = true from whole_seal _]; simp), f1, f3, if_neg (by omega), if_neg (by omega), h21, if_neg (by rw [show wholeB (makeL k s d) = true from whole_seal _]; simp)]
  have hzl : z.length = a.length + x.length := by rw [hz, List.append_assoc, List.length_append, ← hxe]
  have hE : pErr z a.length = 0 := by
    unfold pErr
    rw [if_neg (by omega), Int.toNat_natCast, hx]; exact hX
  refine ⟨hE, ?_, ?_, ?_, ?_⟩
  · unfold pKind; rw [if_pos hE, Int.toNat_natCast, hx, f1]
  · unfold pSeq; rw [if_pos hE, Int.toNat_natCast, hx, f2]
  · unfold pData; rw [if_pos hE, Int.toNat_natCast, hx, f3, h17, List.take_left' rfl]
  · unfold pEnd; rw [if_pos hE, Int.toNat_natCast, hx, f3]
/-! ### bursts -/
/-- some bits within 32 side by side turned round -/
def BurstN (a b : List Nat) : Prop := a.length = b.length ∧ (∀ c ∈ a, c < 256) ∧ (∀ c ∈ b, c < 256) ∧ ∃ p m, p ≤ 8 * a.length ∧ m < 4294967296 ∧ Crc.num a ^^^ Crc.num b = 2 ^ p * m
theorem num_drop {a : List Nat} {i : Nat} (hi : i ≤ a.length) (ha : ∀ c ∈ a, c < 256) : Crc.num (a.drop i) = Crc.num a / 2 ^ (8 * i) := by
  have h1 := Crc.num_append (a.take i) (a.drop i)
  have h2 := Crc.num_lt (a.take i) (fun c hc => ha c (List.mem_of_mem_take hc))
  have hl : (a.take i).length = i := by rw [List.length_take]; omega
  rw [List.take_append_drop] at h1
  rw [hl] at h1 h2
  rw [h1, Nat.add_mul_div_left _ _ (Nat.pow_pos (by decide)), Nat.div_eq_of_lt h2, Nat.zero_add]
theorem num_take {a : List Nat} {i : Nat} (hi : i ≤ a.length) (ha : ∀ c ∈ a, c < 256) : Crc.num (a.take i) = Crc.num a % 2 ^ (8 * i) := by
  have h1 := Crc.num_append (a.take i) (a.drop i)
  have h2 := Crc.num_lt (a.take i) (fun c hc => ha c (List.mem_of_mem_take hc))
  have hl : (a.take i).length = i := by rw [List.length_take]; omega
  rw [List.take_append_drop] at h1
  rw [hl] at h1 h2
  rw [h1, Nat.add_mul_mod_self_left, Nat.mod_eq_of_lt h2]
theorem BurstN.drop {a b : List Nat} (h : BurstN a b) {i : Nat} (hi : i ≤ a.length) : BurstN (a.drop i) (b.drop i) := by
  obtain ⟨hl, ha, hb, p, m, hp, hm, hn⟩ := h
  refine ⟨by rw [List.length_drop, List.length_drop, hl], fun c hc => ha c (List.mem_of_mem_drop hc), fun c hc => hb c (List.mem_of_mem_drop hc), ?_⟩
  rw [num_drop hi ha, num_drop (by omega) hb, ← Crc.xor_div_pow, hn, List.length_drop]
  by_cases h1 : 8 * i ≤ p
  · refine ⟨p - 8 * i, m, by omega, hm, ?_⟩
    rw [show p = 8 * i + (p - 8 * i) by omega, Nat.pow_add, Nat.mul_assoc, Nat.mul_div_cancel_left _ (Nat.pow_pos (by decide))]
    congr 2; omega
  · refine ⟨0, m / 2 ^ (8 * i - p), by omega, Nat.lt_of_le_of_lt (Nat.div_le_self _ _) hm, ?_⟩
    rw [show 8 * i = p + (8 * i - p) by omega, Nat.pow_add, Nat.mul_div_mul_left _ _ (Nat.pow_pos (by decide)), Nat.pow_zero, Nat.one_mul]
    congr 2; omega
theorem BurstN.take {a b : List Nat} (h : BurstN a b) {i : Nat} (hi : i ≤ a.length) : BurstN (a.take i) (b.take i) := by
  obtain ⟨hl, ha, hb, p, m, hp, hm, hn⟩ := h
  refine ⟨by rw [List.length_take, List.length_take, hl], fun c hc => ha c (List.mem_of_mem_take hc), fun c hc => hb c (List.mem_of_mem_take hc), ?_⟩
  rw [num_take hi ha, num_take (by omega) hb, ← Crc.xor_mod_pow, hn, List.length_take, Nat.min_eq_left hi]
  by_cases h1 : p ≤ 8 * i
  · refine ⟨p, m % 2 ^ (8 * i - p), h1, Nat.lt_of_le_of_lt (Nat.mod_le _ _) hm, ?_⟩
    rw [show 8 * i = p + (8 * i - p) by omega, Nat.pow_add, Nat.mul_mod_mul_left, show p + (8 * i - p) - p = 8 * i - p by omega]
  · refine ⟨0, 0, by omega, by omega, ?_⟩
    rw [show p = 8 * i + (p - 8 * i) by omega, Nat.pow_add, Nat.mul_assoc, Nat.mul_mod_right]
theorem num_le : ∀ t : List UInt8, Crc.num (nums8 t) = le t
  | [] => rfl
  | c :: t => by
    show c.toNat + 256 * Crc.num (nums8 t) = c.toNat + 256 * le t
    rw [num_le t]
theorem nums8_drop (l : List UInt8) (i : Nat) : nums8 (l.drop i) = (nums8 l).drop i := by simp [nums8, List.map_drop]
theorem nums8_take (l : List UInt8) (i : Nat) : nums8 (l.take i) = (nums8 l).take i := by simp [nums8, List.map_take]
theorem nums8_length (l : List UInt8) : (nums8 l).length = l.length := by simp [nums8]
theorem nums8_inj {a b : List UInt8} (h : nums8 a = nums8 b) : a = b := (List.map_inj_right (fun a b h => UInt8.toNat_inj.1 h)).1 h
/-- A burst is seen. -/
theorem whole_burst {a b : List UInt8} (h : BurstN (nums8 a) (nums8 b)) (h4 : 4 ≤ a.length) (ha : wholeB a = true) (hb : wholeB b = true) : a = b := by
  obtain ⟨hl, h1, h2, p, m, hp, hm, hn⟩ := h
  have key : ∀ y : List UInt8, wholeB y = true → Crc.num ((nums8 y).drop ((nums8 y).length - 4)) = Crc.sum ((nums8 y).take ((nums8 y).length - 4)) := by
    intro y hy
    unfold wholeB at hy
    rw [decide_eq_true_eq] at hy
    rw [nums8_length, ← nums8_drop, ← nums8_take, num_le, hy]; rfl
  exact nums8_inj (Crc.code_burst hl (by rw [nums8_length]; exact h4) hp hm hn h1 h2 (key a ha) (key b hb))
/-- bits turned round in bytes around a frame: the frame is as it was, or there is none -/
theorem frame_burst {a t d c : List UInt8} {k s : Nat} (hd : d.length < 4294967296) (z : List UInt8) (hz : z = a ++ makeL k s d ++ t) (hb : BurstN (nums8 z) (nums8 c)) :
    (z.drop a.length).take (21 + d.length) = (c.drop a.length).take (21 + d.length) ∨ pErr c a.length ≠ 0 := by
  by_cases he : pErr c a.length = 0
  · left
    obtain ⟨-, -, hX⟩ := pErr_ok he
    rw [Int.toNat_natCast] at hX
    obtain ⟨h1, h2, h3, h4, h5, h6⟩ := pErrX_ok hX
    have hx : z.drop a.length = makeL k s d ++ t := by subst hz; rw [List.append_assoc, List.drop_left' rfl]
    have hzl : z.length = a.length + (21 + d.length) + t.length := by rw [hz, List.length_append, List.length_append, makeL_len]
    have hcl : c.length = z.length := by have := hb.1; rw [nums8_length, nums8_length] at this; exact this.symm
    have hbx := hb.drop (i := a.length) (by rw [nums8_length]; omega)
    rw [← nums8_drop, ← nums8_drop] at hbx
    have hb17 := hbx.take (i := 17) (by rw [nums8_length, List.length_drop]; omega)
    rw [← nums8_take, ← nums8_take] at hb17
    have hh : (z.drop a.length).take 17 = headL k s d.length := by
      rw [hx]; unfold makeL; rw [seal4, List.append_assoc, List.append_assoc, List.take_left' (headL_len _ _ _)]
    have e17 := whole_burst hb17 (by rw [List.length_take, List.length_drop]; omega) (by rw [hh]; exact whole_seal _) h2
    have hfn : fn (c.drop a.length) = d.length := by
      have q : ((c.drop a.length).take 17).drop 9 = ((c.drop a.length).drop 9).take 8 := by rw [List.drop_take]
      unfold fn
      have q2 : ((c.drop a.length).drop 9).take 4 = (((c.drop a.length).take 17).drop 9).take 4 := by rw [q, List.take_take]; rfl
      rw [q2, ← e17, hh]
      unfold headL
      rw [seal4, List.append_assoc, List.drop_left' (by simp [putB_length]), List.take_left' (putB_length _ _), le_putB, Nat.mod_eq_of_lt (by omega)]
    rw [hfn] at h6
    have hbF := hbx.take (i := 21 + d.length) (by rw [nums8_length, List.length_drop]; omega)
    rw [← nums8_take, ← nums8_take] at hbF
    refine whole_burst hbF (by rw [List.length_take, List.length_drop]; omega) ?_ h6
    rw [hx, List.take_left' (makeL_len _ _ _)]
    exact whole_seal _
  · right; exact he
end Go.Proofs.Ytceldlijbehkdaa.Fr
