/- frame: plain lists. -/
import Derived.Test.YtdkadeihhgjiaaaFixed
import Derived.Test.YtdkadeihhgjiaaaCrc
import Derived.Test.YtdkadeihhgjiaaaBase
import Derived.Deep.RegionHeld3
set_option linter.unusedVariables false
set_option linter.unusedSimpArgs false
namespace Go.Proofs.Ytdkadeihhgjiaaa.Fr
open Go.Proofs.Ytdkadeihhgjiaaa.B Go.Proofs.Ytdkadeihhgjiaaa.Fx Go.Proofs.Ytdkadeihhgjiaaa.CrcW

def csum (l : List UInt8) : Nat := Crc.sum (nums8 l)
theorem csum_lt (l : List UInt8) : csum l < 4294967296 := Crc.sum_lt _ (nums8_lt l)
def seal4 (l : List UInt8) : List UInt8 := l ++ putB (csum l) 4
theorem seal4_len (l : List UInt8) : (seal4 l).length = l.length + 4 := by simp [seal4, putB_length]
def headL (k s n : Nat) : List UInt8 := seal4 (putB k 1 ++ putB s 8 ++ putB n 4)
theorem headL_len (k s n : Nat) : (headL k s n).length = 17 := by simp [headL, seal4_len, putB_length]
def makeL (k s : Nat) (d : List UInt8) : List UInt8 := seal4 (headL k s d.length ++ d)
theorem makeL_len (k s : Nat) (d : List UInt8) : (makeL k s d).length = 21 + d.length := by
  simp only [makeL, seal4_len, List.length_append, headL_len]; omega
/-- do bytes end with the check sum of what is ahead of it? -/
def wholeB (y : List UInt8) : Bool := decide (le (y.drop (y.length - 4)) = csum (y.take (y.length - 4)))
theorem whole_seal (l : List UInt8) : wholeB (seal4 l) = true := by
  unfold wholeB
  have h : (seal4 l).length - 4 = l.length := by rw [seal4_len]; omega
  rw [h]
  unfold seal4
  rw [List.drop_left' rfl, List.take_left' rfl, le_putB, Nat.mod_eq_of_lt (Nat.lt_of_lt_of_le (csum_lt l) (by decide))]
  simp
theorem whole_take {x : List UInt8} {m : Nat} (h : m + 4 ≤ x.length) : wholeB (x.take (m + 4)) = decide (le ((x.drop m).take 4) = csum (x.take m)) := by
  unfold wholeB
  have hl : (x.take (m + 4)).length - 4 = m := by rw [List.length_take]; omega
  rw [hl, List.drop_take, List.take_take, Nat.min_eq_left (by omega), show m + 4 - m = 4 by omega]
def fk (x : List UInt8) : Nat := le (x.take 1)
def fs (x : List UInt8) : Nat := le ((x.drop 1).take 8)
def fn (x : List UInt8) : Nat := le ((x.drop 9).take 4)
theorem le_take_lt (x : List UInt8) (k : Nat) : le (x.take k) < 256 ^ k := Nat.lt_of_lt_of_le (le_lt _) (Nat.pow_le_pow_right (by omega) (List.length_take_le _ _))
theorem fk_lt (x : List UInt8) : fk x < 256 := le_take_lt x 1
theorem fs_lt (x : List UInt8) : fs x < 18446744073709551616 := le_take_lt _ 8
theorem fn_lt (x : List UInt8) : fn x < 4294967296 := le_take_lt _ 4
/-- what is wrong with a frame at the beginning of bytes -/
def pErrX (x : List UInt8) : Nat :=
  if x.length < 17 then 4
  else if wholeB (x.take 17) = false then 5
  else if fk x < 1 ∨ 8 < fk x ∨ 65536 < fn x then 3
  else if x.length < 21 + fn x then 4
  else if wholeB (x.take (21 + fn x)) = false then 5
  else 0
def pErr (l : List UInt8) (at_ : Int) : Nat := if at_ < 0 ∨ (l.length : Int) < at_ then 2 else pErrX (l.drop at_.toNat)
def pKind (l : List UInt8) (at_ : Int) : Nat := if pErr l at_ = 0 then fk (l.drop at_.toNat) else 0
def pSeq (l : List UInt8) (at_ : Int) : Nat := if pErr l at_ = 0 then fs (l.drop at_.toNat) else 0
def pData (l : List UInt8) (at_ : Int) : List UInt8 := if pErr l at_ = 0 then ((l.drop at_.toNat).drop 17).take (fn (l.drop at_.toNat)) else []
def pEnd (l : List UInt8) (at_ : Int) : Int := if pErr l at_ = 0 then at_ + 21 + fn (l.drop at_.toNat) else 0
theorem pErrX_ok {x : List UInt8} (h : pErrX x = 0) : 17 ≤ x.length ∧ wholeB (x.take 17) = true ∧ (1 ≤ fk x ∧ fk x ≤ 8) ∧ fn x ≤ 65536 ∧ 21 + fn x ≤ x.length ∧ wholeB (x.take (21 + fn x)) = true := by
  unfold pErrX at h
  by_cases h1 : x.length < 17
  · rw [if_pos h1] at h; omega
  rw [if_neg h1] at h
  by_cases h2 : wholeB (x.take 17) = false
  · rw [if_pos h2] at h; omega
  rw [if_neg h2] at h
  by_cases h3 : fk x < 1 ∨ 8 < fk x ∨ 65536 < fn x
  · rw [if_pos h3] at h; omega
  rw [if_neg h3] at h
  by_cases h4 : x.length < 21 + fn x
  · rw [if_pos h4] at h; omega
  rw [if_neg h4] at h
  by_cases h5 : wholeB (x.take (21 + fn x)) = false
  · rw [if_pos h5] at h; omega
  exact ⟨by omega, by simpa using h2, by omega, by omega, by omega, by simpa using h5⟩
theorem pErr_ok {l : List UInt8} {at_ : Int} (h : pErr l at_ = 0) : 0 ≤ at_ ∧ at_ ≤ (l.length : Int) ∧ pErrX (l.drop at_.toNat) = 0 := by
  unfold pErr at h
  by_cases h1 : at_ < 0 ∨ (l.length : Int) < at_
  · rw [if_pos h1] at h; omega
  · rw [if_neg h1] at h; exact ⟨by omega, by omega, h⟩
theorem pData_le (l : List UInt8) (at_ : Int) : (pData l at_).length ≤ 65536 := by
  unfold pData
  split
  · rename_i h
    have := (pErrX_ok (pErr_ok h).2.2).2.2.2.1
    rw [List.length_take]; omega
  · simp
theorem pErr_in (l : List UInt8) (at_ : Int) : pErr l at_ = 0 ∨ pErr l at_ = 2 ∨ pErr l at_ = 3 ∨ pErr l at_ = 4 ∨ pErr l at_ = 5 := by
  unfold pErr pErrX
  split <;> (try split) <;> (try split) <;> (try split) <;> (try split) <;> (try split) <;> omega
theorem head_is {x : List UInt8} (h : 17 ≤ x.length) (hw : wholeB (x.take 17) = true) : headL (fk x) (fs x) (fn x) = x.take 17 := by
  have e1 : putB (fk x) 1 = x.take 1 := putB_of (by rw [List.length_take]; omega)
  have e2 : putB (fs x) 8 = (x.drop 1).take 8 := putB_of (by rw [List.length_take, List.length_drop]; omega)
  have e3 : putB (fn x) 4 = (x.drop 9).take 4 := putB_of (by rw [List.length_take, List.length_drop]; omega)
  have e5 : putB (le ((x.drop 13).take 4)) 4 = (x.drop 13).take 4 := putB_of (by rw [List.length_take, List.length_drop]; omega)
  have e9 : x.take 9 = x.take 1 ++ (x.drop 1).take 8 := List.take_add (i := 1) (j := 8)
  have e : x.take 13 = x.take 1 ++ (x.drop 1).take 8 ++ (x.drop 9).take 4 := by
    rw [← e9]; exact List.take_add (i := 9) (j := 4)
  have e4 : le ((x.drop 13).take 4) = csum (x.take 13) := by
    have := whole_take (x := x) (m := 13) (by omega)
    rw [hw] at this
    simpa using this.symm
  unfold headL seal4
  rw [e1, e2, e3, ← e, ← e4, e5]
  exact (List.take_add (i := 13) (j := 4)).symm
theorem make_is {x : List UInt8} (h : 21 + fn x ≤ x.length) (hw : wholeB (x.take 17) = true) : makeL (fk x) (fs x) ((x.drop 17).take (fn x)) = x.take (21 + fn x) ↔ wholeB (x.take (21 + fn x)) = true := by
  obtain ⟨n, hn⟩ : ∃ n, n = fn x := ⟨_, rfl⟩
  have hd : ((x.drop 17).take (fn x)).length = fn x := by rw [List.length_take, List.length_drop]; omega
  have e1 : x.take 17 ++ (x.drop 17).take (fn x) = x.take (17 + fn x) := List.take_add.symm
  have e2 : x.take (17 + fn x + 4) = x.take (17 + fn x) ++ (x.drop (17 + fn x)).take 4 := List.take_add
  have ht : ((x.drop (17 + fn x)).take 4).length = 4 := by rw [List.length_take, List.length_drop]; omega
  unfold makeL
  rw [hd, head_is (by omega) hw, e1, show 21 + fn x = 17 + fn x + 4 by omega, whole_take (by omega), e2]
  unfold seal4
  rw [List.append_cancel_left_eq, decide_eq_true_eq]
  constructor
  · intro h
    rw [← h, le_putB, Nat.mod_eq_of_lt (Nat.lt_of_lt_of_le (csum_lt _) (by decide))]
  · intro h
    rw [← h, putB_of ht]
theorem parse_make {a t d : List UInt8} {k s : Nat} (hk1 : 1 ≤ k) (hk : k ≤ 8) (hs : s < 18446744073709551616) (hd : d.length ≤ 65536) (z : List UInt8) (hz : z = a ++ makeL k s d ++ t) :
    pErr z a.length = 0 ∧ pKind z a.length = k ∧ pSeq z a.length = s ∧ pData z a.length = d ∧ pEnd z a.length = (a.length : Int) + 21 + d.length := by
  have hx : z.drop a.length = makeL k s d ++ t := by subst hz; rw [List.append_assoc, List.drop_left' rfl]
  obtain ⟨x, hxe⟩ : ∃ x, x = makeL k s d ++ t := ⟨_, rfl⟩
  rw [← hxe] at hx
  have hxl : x.length = 21 + d.length + t.length := by rw [hxe, List.length_append, makeL_len]
  have q1 : x = putB k 1 ++ (putB s 8 ++ (putB d.length 4 ++ (putB (csum (putB k 1 ++ putB s 8 ++ putB d.length 4)) 4 ++ (d ++ (putB (csum (headL k s d.length ++ d)) 4 ++ t))))) := by
    rw [hxe]; unfold makeL; rw [seal4]; unfold headL; rw [seal4]; simp only [List.append_assoc]
  have f1 : fk x = k := by
    unfold fk; rw [q1, List.take_left' (putB_length _ _), le_putB, Nat.mod_eq_of_lt (by omega)]
  have q2 : x.drop 1 = putB s 8 ++ (putB d.length 4 ++ (putB (csum (putB k 1 ++ putB s 8 ++ putB d.length 4)) 4 ++ (d ++ (putB (csum (headL k s d.length ++ d)) 4 ++ t)))) := by
    rw [q1, List.drop_left' (putB_length _ _)]
  have f2 : fs x = s := by
    unfold fs; rw [q2, List.take_left' (putB_length _ _), le_putB, Nat.mod_eq_of_lt (by omega)]
  have q3 : x.drop 9 = putB d.length 4 ++ (putB (csum (putB k 1 ++ putB s 8 ++ putB d.length 4)) 4 ++ (d ++ (putB (csum (headL k s d.length ++ d)) 4 ++ t))) := by
    rw [show 9 = 1 + 8 from rfl, ← List.drop_drop, q2, List.drop_left' (putB_length _ _)]
  have f3 : fn x = d.length := by
    unfold fn; rw [q3, List.take_left' (putB_length _ _), le_putB, Nat.mod_eq_of_lt (by omega)]
  have hh : x.take 17 = headL k s d.length := by
    rw [hxe]; unfold makeL; rw [seal4, List.append_assoc, List.append_assoc, List.take_left' (headL_len _ _ _)]
  have h17 : x.drop 17 = d ++ (putB (csum (headL k s d.length ++ d)) 4 ++ t) := by
    rw [hxe]; unfold makeL; rw [seal4, List.append_assoc, List.append_assoc, List.drop_left' (headL_len _ _ _)]
  have h21 : x.take (21 + d.length) = makeL k s d := by
    rw [hxe, List.take_left' (makeL_len _ _ _)]
  have hX : pErrX x = 0 := by
    unfold pErrX
    rw [if_neg (by omega), hh, if_neg (by rw [show wholeB (headL k s d.length) = true from whole_seal _]; simp), f1, f3, if_neg (by omega), if_neg (by omega), h21, if_neg (by rw [show wholeB (makeL k s d) = true from whole_seal _]; simp)]
  have hzl : z.length = a.length + x.length := by rw [hz, List.append_assoc, List.length_append, ← hxe]
  have hE : pErr z a.length = 0 := by
    unfold pErr
    rw [if_neg (by omega), Int.toNat_natCast, hx]; exact hX
  refine ⟨hE, ?_, ?_, ?_, ?_⟩
  · unfold pKind; rw [if_pos hE, Int.toNat_natCast, hx, f1]
  · unfold pSeq; rw [if_pos hE, Int.toNat_natCast, hx, f2]
  · unfold pData; rw [if_pos hE, Int.toNat_natCast, hx, f3, h17, List.take_left' rfl]
  · unfold pEnd; rw [if_pos hE, Int.toNat_natCast, hx, f3]
/-! ### bursts -/
/-- some bits within 32 side by side turned round -/
def BurstN (a b : List Nat) : Prop := a.length = b.length ∧ (∀ c ∈ a, c < 256) ∧ (∀ c ∈ b, c < 256) ∧ ∃ p m, p ≤ 8 * a.length ∧ m < 4294967296 ∧ Crc.num a ^^^ Crc.num b = 2 ^ p * m
theorem num_drop {a : List Nat} {i : Nat} (hi : i ≤ a.length) (ha : ∀ c ∈ a, c < 256) : Crc.num (a.drop i) = Crc.num a / 2 ^ (8 * i) := by
  have h1 := Crc.num_append (a.take i) (a.drop i)
  have h2 := Crc.num_lt (a.take i) (fun c hc => ha c (List.mem_of_mem_take hc))
  have hl : (a.take i).length = i := by rw [List.length_take]; omega
  rw [List.take_append_drop] at h1
  rw [hl] at h1 h2
  rw [h1, Nat.add_mul_div_left _ _ (Nat.pow_pos (by decide)), Nat.div_eq_of_lt h2, Nat.zero_add]
theorem num_take {a : List Nat} {i : Nat} (hi : i ≤ a.length) (ha : ∀ c ∈ a, c < 256) : Crc.num (a.take i) = Crc.num a % 2 ^ (8 * i) := by
  have h1 := Crc.num_append (a.take i) (a.drop i)
  have h2 := Crc.num_lt (a.take i) (fun c hc => ha c (List.mem_of_mem_take hc))
  have hl : (a.take i).length = i := by rw [List.length_take]; omega
  rw [List.take_append_drop] at h1
  rw [hl] at h1 h2
  rw [h1, Nat.add_mul_mod_self_left, Nat.mod_eq_of_lt h2]
theorem BurstN.drop {a b : List Nat} (h : BurstN a b) {i : Nat} (hi : i ≤ a.length) : BurstN (a.drop i) (b.drop i) := by
  obtain ⟨hl, ha, hb, p, m, hp, hm, hn⟩ := h
  refine ⟨by rw [List.length_drop, List.length_drop, hl], fun c hc => ha c (List.mem_of_mem_drop hc), fun c hc => hb c (List.mem_of_mem_drop hc), ?_⟩
  rw [num_drop hi ha, num_drop (by omega) hb, ← Crc.xor_div_pow, hn, List.length_drop]
  by_cases h1 : 8 * i ≤ p
  · refine ⟨p - 8 * i, m, by omega, hm, ?_⟩
    rw [show p = 8 * i + (p - 8 * i) by omega, Nat.pow_add, Nat.mul_assoc, Nat.mul_div_cancel_left _ (Nat.pow_pos (by decide))]
    congr 2; omega
  · refine ⟨0, m / 2 ^ (8 * i - p), by omega, Nat.lt_of_le_of_lt (Nat.div_le_self _ _) hm, ?_⟩
    rw [show 8 * i = p + (8 * i - p) by omega, Nat.pow_add, Nat.mul_div_mul_left _ _ (Nat.pow_pos (by decide)), Nat.pow_zero, Nat.one_mul]
    congr 2; omega
theorem BurstN.take {a b : List Nat} (h : BurstN a b) {i : Nat} (hi : i ≤ a.length) : BurstN (a.take i) (b.take i) := by
  obtain ⟨hl, ha, hb, p, m, hp, hm, hn⟩ := h
  refine ⟨by rw [List.length_take, List.length_take, hl], fun c hc => ha c (List.mem_of_mem_take hc), fun c hc => hb c (List.mem_of_mem_take hc), ?_⟩
  rw [num_take hi ha, num_take (by omega) hb, ← Crc.xor_mod_pow, hn, List.length_take, Nat.min_eq_left hi]
  by_cases h1 : p ≤ 8 * i
  · refine ⟨p, m % 2 ^ (8 * i - p), h1, Nat.lt_of_le_of_lt (Nat.mod_le _ _) hm, ?_⟩
    rw [show 8 * i = p + (8 * i - p) by omega, Nat.pow_add, Nat.mul_mod_mul_left, show p + (8 * i - p) - p = 8 * i - p by omega]
  · refine ⟨0, 0, by omega, by omega, ?_⟩
    rw [show p = 8 * i + (p - 8 * i) by omega, Nat.pow_add, Nat.mul_assoc, Nat.mul_mod_right]
theorem num_le : ∀ t : List UInt8, Crc.num (nums8 t) = le t
  | [] => rfl
  | c :: t => by
    show c.toNat + 256 * Crc.num (nums8 t) = c.toNat + 256 * le t
    rw [num_le t]
theorem nums8_drop (l : List UInt8) (i : Nat) : nums8 (l.drop i) = (nums8 l).drop i := by simp [nums8, List.map_drop]
theorem nums8_take (l : List UInt8) (i : Nat) : nums8 (l.take i) = (nums8 l).take i := by simp [nums8, List.map_take]
theorem nums8_length (l : List UInt8) : (nums8 l).length = l.length := by simp [nums8]
theorem nums8_inj {a b : List UInt8} (h : nums8 a = nums8 b) : a = b := (List.map_inj_right (fun a b h => UInt8.toNat_inj.1 h)).1 h
/-- A burst is seen. -/
theorem whole_burst {a b : List UInt8} (h : BurstN (nums8 a) (nums8 b)) (h4 : 4 ≤ a.length) (ha : wholeB a = true) (hb : wholeB b = true) : a = b := by
  obtain ⟨hl, h1, h2, p, m, hp, hm, hn⟩ := h
  have key : ∀ y : List UInt8, wholeB y = true → Crc.num ((nums8 y).drop ((nums8 y).length - 4)) = Crc.sum ((nums8 y).take ((nums8 y).length - 4)) := by
    intro y hy
    unfold wholeB at hy
    rw [decide_eq_true_eq] at hy
    rw [nums8_length, ← nums8_drop, ← nums8_take, num_le, hy]; rfl
  exact nums8_inj (Crc.code_burst hl (by rw [nums8_length]; exact h4) hp hm hn h1 h2 (key a ha) (key b hb))
/-- bits turned round in bytes around a frame: the frame is as it was, or there is none -/
theorem frame_burst {a t d c : List UInt8} {k s : Nat} (hd : d.length < 4294967296) (z : List UInt8) (hz : z = a ++ makeL k s d ++ t) (hb : BurstN (nums8 z) (nums8 c)) :
    (z.drop a.length).take (21 + d.length) = (c.drop a.length).take (21 + d.length) ∨ pErr c a.length ≠ 0 := by
  by_cases he : pErr c a.length = 0
  · left
    obtain ⟨-, -, hX⟩ := pErr_ok he
    rw [Int.toNat_natCast] at hX
    obtain ⟨h1, h2, h3, h4, h5, h6⟩ := pErrX_ok hX
    have hx : z.drop a.length = makeL k s d ++ t := by subst hz; rw [List.append_assoc, List.drop_left' rfl]
    have hzl : z.length = a.length + (21 + d.length) + t.length := by rw [hz, List.length_append, List.length_append, makeL_len]
    have hcl : c.length = z.length := by have := hb.1; rw [nums8_length, nums8_length] at this; exact this.symm
    have hbx := hb.drop (i := a.length) (by rw [nums8_length]; omega)
    rw [← nums8_drop, ← nums8_drop] at hbx
    have hb17 := hbx.take (i := 17) (by rw [nums8_length, List.length_drop]; omega)
    rw [← nums8_take, ← nums8_take] at hb17
    have hh : (z.drop a.length).take 17 = headL k s d.length := by
      rw [hx]; unfold makeL; rw [seal4, List.append_assoc, List.append_assoc, List.take_left' (headL_len _ _ _)]
    have e17 := whole_burst hb17 (by rw [List.length_take, List.length_drop]; omega) (by rw [hh]; exact whole_seal _) h2
    have hfn : fn (c.drop a.length) = d.length := by
      have q : ((c.drop a.length).take 17).drop 9 = ((c.drop a.length).drop 9).take 8 := by rw [List.drop_take]
      unfold fn
      have q2 : ((c.drop a.length).drop 9).take 4 = (((c.drop a.length).take 17).drop 9).take 4 := by rw [q, List.take_take]; rfl
      rw [q2, ← e17, hh]
      unfold headL
      rw [seal4, List.append_assoc, List.drop_left' (by simp [putB_length]), List.take_left' (putB_length _ _), le_putB, Nat.mod_eq_of_lt (by omega)]
    rw [hfn] at h6
    have hbF := hbx.take (i := 21 + d.length) (by rw [nums8_length, List.length_drop]; omega)
    rw [← nums8_take, ← nums8_take] at hbF
    refine whole_burst hbF (by rw [List.length_take, List.length_drop]; omega) ?_ h6
    rw [hx, List.take_left' (makeL_len _ _ _)]
    exact whole_seal _
  · right; exact he
end Go.Proofs.Ytdkadeihhgjiaaa.Fr
/- frame: the walks of sealed, Make, whole, begin. -/
set_option linter.unusedVariables false
set_option linter.unusedSimpArgs false
namespace Go.Proofs.Ytdkadeihhgjiaaa.Fr
open Go.RowKit Go.Proofs.YtdkadeihhgjiaaaW.PrintWords Go.Proofs.Ytdkadeihhgjiaaa.B Go.Proofs.Ytdkadeihhgjiaaa.Fx Go.Proofs.Ytdkadeihhgjiaaa.CrcW

set_option maxRecDepth 100000 in
theorem size_any (n : Int) (w : World) (h0 : 0 ≤ n) (h1 : n ≤ 140737488355328) : Calls Try.prog 47 #[.int .i64 n] w (Still (.int .i64 (n + 21)) w) := by
  go_enter Try.func47, Try.ntmps47
  go_wp2
  go_ret
  exact ⟨ret_eq (congrArg (Value.int .i64) (by omega)), rfl⟩
set_option maxRecDepth 100000 in
theorem sealed_any (A : Option Addr) (c : Nat) (l : List UInt8) (w : World) (hl : l.length ≤ 140737488354000) (hr : Rd w A l) :
    Calls Try.prog 73 #[.slice A l.length c] w (Made w (seal4 l)) := by
  have HR := Lib.hid hr
  clear hr
  have hlt := csum_lt l
  have HL := Lib.hid (show putL l (csum l) 4 = seal4 l from putL4 l (csum l))
  have HS := Lib.hid (fun (W : World) (h : Rd W A l) => (show Calls Try.prog 79 #[.slice A l.length c] W (Kept (.int .u32 (csum l : Nat)) W) from sum_any A c l W h))
  generalize csum l = s at *
  go_enter Try.func73, Try.ntmps73
  go_wp2_with fail
  refine (HS.out w HR.out).mono ?_
  rintro e w1 ⟨rfl, hb⟩
  have HB1 := Lib.hid hb
  clear hb
  go_wp2_with fail
  refine (put_any A c l s 4 w1 (by omega) (by omega) (HR.out.below HB1.out)).mono ?_
  rintro e w2 ⟨v2, rfl, hown, hb⟩
  rw [HL.out] at hown
  have HO2 := Lib.hid (hown.lower HB1.out.size)
  have HB2 := Lib.hid (below_step' HB1.out hb)
  clear hown hb
  go_wp2_with fail
  go_ret
  exact ⟨v2, rfl, HO2.out, HB2.out⟩
theorem wrap_u64 (k : Int) : IntKind.u64.wrap k = k % 18446744073709551616 := by simp [IntKind.wrap, IntKind.bits, IntKind.signed]
/-- a kind's number as 64 bits -/
def kindN (k : Int) : Nat := (k % 18446744073709551616).toNat
theorem kindN_of {k : Int} (h0 : 0 ≤ k) (h1 : k < 18446744073709551616) : kindN k = k.toNat := by unfold kindN; omega
set_option maxRecDepth 100000 in
set_option maxHeartbeats 400000 in
theorem make_any (k : Int) (s : Nat) (A : Option Addr) (c : Nat) (d : List UInt8) (w : World) (hk : -9223372036854775808 ≤ k ∧ k ≤ 9223372036854775807) (hs : s < 18446744073709551616) (hd : d.length ≤ 140737488353000) (hr : Rd w A d) :
    Calls Try.prog 58 #[.int .i64 k, .int .u64 s, .slice A d.length c] w (Made w (makeL (kindN k) s d)) := by
  have HR := Lib.hid hr
  clear hr
  obtain ⟨q, hq⟩ : ∃ q : Nat, kindN k = q := ⟨_, rfl⟩
  have hqk : IntKind.u64.wrap k = (q : Int) := by rw [wrap_u64]; unfold kindN at hq; omega
  have hql : q < 18446744073709551616 := by unfold kindN at hq; omega
  obtain ⟨y1, hy1⟩ : ∃ y, putL [] q 1 = y := ⟨_, rfl⟩
  obtain ⟨y2, hy2⟩ : ∃ y, putL y1 s 8 = y := ⟨_, rfl⟩
  obtain ⟨y3, hy3⟩ : ∃ y, putL y2 d.length 4 = y := ⟨_, rfl⟩
  obtain ⟨y4, hy4⟩ : ∃ y, seal4 y3 = y := ⟨_, rfl⟩
  obtain ⟨y5, hy5⟩ : ∃ y, y4 ++ d = y := ⟨_, rfl⟩
  have HF := Lib.hid (show seal4 y5 = makeL (kindN k) s d from by
    rw [hq, ← hy5, ← hy4, ← hy3, ← hy2, ← hy1, putL1, putL8, putL4]; rfl)
  have hl1 : y1.length = 1 := by rw [← hy1, putL1, List.nil_append, putB_length]
  have hl2 : y2.length = 9 := by rw [← hy2, putL8, List.length_append, putB_length, hl1]
  have hl3 : y3.length = 13 := by rw [← hy3, putL4, List.length_append, putB_length, hl2]
  have hl4 : y4.length = 17 := by rw [← hy4, seal4_len, hl3]
  have hl5 : y5.length = 17 + d.length := by rw [← hy5, List.length_append, hl4]
  have k1 : y1.length ≤ 17 := by omega
  have k2 : y2.length ≤ 17 := by omega
  have k3 : y3.length ≤ 17 := by omega
  have k4 : y4.length ≤ 17 := by omega
  have k5 : y5.length ≤ 140737488354000 := by omega
  have H1 := Lib.hid hy1
  have H2 := Lib.hid hy2
  have H3 := Lib.hid hy3
  have H4 := Lib.hid hy4
  have H5 := Lib.hid hy5
  clear hy1 hy2 hy3 hy4 hy5 hl1 hl2 hl3 hl4 hl5 hq
  go_enter Try.func58, Try.ntmps58
  go_wp2_with fail
  refine (put_any none 0 [] q 1 w (by simp) (by omega) (Rd.nil w)).mono ?_
  rintro e w1 ⟨v1, rfl, hown, hb⟩
  rw [H1.out] at hown
  obtain ⟨A1, c1, rfl, hc1, hr1⟩ := hown.reads
  have HR1 := Lib.hid hr1
  have HB1 := Lib.hid hb
  clear hown hb hr1
  go_wp2_with fail
  refine (put_any A1 c1 y1 s 8 w1 (by omega) (by omega) HR1.out).mono ?_
  rintro e w2 ⟨v2, rfl, hown, hb⟩
  rw [H2.out] at hown
  obtain ⟨A2, c2, rfl, hc2, hr2⟩ := hown.reads
  have HR2 := Lib.hid hr2
  have HB2 := Lib.hid (below_step' HB1.out hb)
  clear hown hb hr2
  go_wp2_with fail
  refine (put_any A2 c2 y2 d.length 4 w2 (by omega) (by omega) HR2.out).mono ?_
  rintro e w3 ⟨v3, rfl, hown, hb⟩
  rw [H3.out] at hown
  obtain ⟨A3, c3, rfl, hc3, hr3⟩ := hown.reads
  have HR3 := Lib.hid hr3
  have HB3 := Lib.hid (below_step' HB2.out hb)
  clear hown hb hr3
  go_wp2_with fail
  refine (sealed_any A3 c3 y3 w3 (by omega) HR3.out).mono ?_
  rintro e w4 ⟨v4, rfl, hown, hb⟩
  rw [H4.out] at hown
  have HB4 := Lib.hid (below_step' HB3.out hb)
  have HO4 := Lib.hid (hown.lower HB3.out.size)
  clear hown hb
  go_wp2_with (at_builtin; refine appRow (w0 := w) w.heap.size rfl (.tmp 20) (.tmp 21) rfl v4 y4 d A d.length c rfl rfl rfl HO4.out (HR.out.below HB4.out) HB4.out HB4.out.size (by omega) ?_; intro v5 w5 hown hb _ _; rw [H5.out] at hown; have HO5 := Lib.hid hown; have HB5 := Lib.hid hb; clear hown hb)
  obtain ⟨A5, c5, rfl, hc5, hr5⟩ := HO5.out.reads
  have HR5 := Lib.hid hr5
  clear hr5
  refine (sealed_any A5 c5 y5 w5 k5 HR5.out).mono ?_
  rintro e w6 ⟨v6, rfl, hown, hb⟩
  rw [HF.out] at hown
  have HO6 := Lib.hid (hown.lower HB5.out.size)
  have HB6 := Lib.hid (below_step' HB5.out hb)
  clear hown hb
  go_wp2_with fail
  go_ret
  exact ⟨v6, rfl, HO6.out, HB6.out⟩
set_option maxRecDepth 100000 in
set_option maxHeartbeats 400000 in
theorem whole_any (A : Option Addr) (c : Nat) (l : List UInt8) (w : World) (hl : l.length ≤ 140737488355328) (h4 : 4 ≤ l.length) (hc : l.length ≤ c) (hr : Rd w A l) :
    Calls Try.prog 66 #[.slice A l.length c] w (Kept (.bool (wholeB l)) w) := by
  have HR := Lib.hid hr
  clear hr
  obtain ⟨g, hg⟩ : ∃ g, le (l.drop (l.length - 4)) = g := ⟨_, rfl⟩
  have hgl : g < 4294967296 := by
    have := le_lt (l.drop (l.length - 4))
    rw [hg, List.length_drop, show l.length - (l.length - 4) = 4 by omega] at this
    exact this
  have hok : takeOk l ((l.length : Int) - 4) 4 = true := by unfold takeOk; exact decide_eq_true (by omega)
  have HOK := Lib.hid hok
  have HN := Lib.hid (show takeN l ((l.length : Int) - 4) 4 = g by
    unfold takeN; rw [if_pos hok, ← hg, show ((l.length : Int) - 4).toNat = l.length - 4 by omega, show Int.toNat 4 = 4 from rfl, List.take_of_length_le (by rw [List.length_drop]; omega)])
  obtain ⟨y, hy, hcut, hry, hyc, hyl⟩ := cutTo (A := A) (l := l) (c := c) ((l.length : Int) - 4) (by omega) (by omega) hc
  have hlt := csum_lt y
  have HW := Lib.hid (show ((g : Int) == (csum y : Int)) = wholeB l by
    have e : y = l.take (l.length - 4) := by rw [hy.out]; congr 1; omega
    unfold wholeB
    rw [hg, ← e]
    by_cases h : g = csum y
    · simp [h]
    · have : ¬ (g : Int) = (csum y : Int) := by omega
      simp [h, this])
  have HS := Lib.hid (fun (W : World) (h : Rd W A y) => (show Calls Try.prog 79 #[.slice A y.length c] W (Kept (.int .u32 (csum y : Nat)) W) from sum_any A c y W h))
  have HRY := Lib.hid (hry w HR.out)
  generalize csum y = s at *
  clear hg hok hy hry hyl
  go_enter Try.func66, Try.ntmps66
  go_wp2_with fail
  refine (take_any A c l ((l.length : Int) - 4) 4 w hl HR.out).mono ?_
  rintro e w1 ⟨rfl, rfl⟩
  rw [HN.out, HOK.out]
  go_wp2_with fail
  refine (HS.out w1 HRY.out).mono ?_
  rintro e w2 ⟨rfl, hb⟩
  have HB := Lib.hid hb
  clear hb
  go_wp2_with fail
  go_ret
  exact ⟨ret_eq (congrArg Value.bool HW.out), HB.out⟩
theorem bcell {W w1 : World} (hb : Below W.heap.size W w1) : (∀ b o, b < W.heap.size → w1.cell? ⟨b, o, none⟩ = W.cell? ⟨b, o, none⟩) ∧ (∀ b o, b < W.heap.size → w1.frozen? ⟨b, o, none⟩ = W.frozen? ⟨b, o, none⟩) :=
  ⟨fun b o h => hb.cell (p := ⟨b, o, none⟩) h, fun b o h => hb.frozen (p := ⟨b, o, none⟩) h⟩
theorem infoStart : (Try.prog.info? 100).map (·.size) = some 5 := by kernel_rfl
/-- what is wrong with a head -/
def bErr (x : List UInt8) : Nat := if x.length < 17 then 4 else if wholeB (x.take 17) = false then 5 else if fk x < 1 ∨ 8 < fk x ∨ 65536 < fn x then 3 else 0
def startV (k s n e : Nat) : Value := .tuple #[.agg #[.int .i64 k, .int .u64 s, .slice none 0 0, .int .i64 0, .int .i64 n], .int .i64 e]
def beginV (x : List UInt8) : Value := if bErr x = 0 then startV (fk x) (fs x) (fn x) 0 else startV 0 0 0 (bErr x)
theorem takeN_at {l : List UInt8} {p k : Nat} (h : p + k ≤ l.length) (h1 : 1 ≤ k) (h8 : k ≤ 8) : takeOk l p k = true ∧ takeN l p k = le ((l.drop p).take k) := by
  have hok : takeOk l p k = true := by unfold takeOk; exact decide_eq_true (by omega)
  refine ⟨hok, ?_⟩
  unfold takeN; rw [if_pos hok, Int.toNat_natCast, Int.toNat_natCast]
set_option maxRecDepth 100000 in
set_option maxHeartbeats 400000 in
theorem begin_any (A : Option Addr) (c : Nat) (l : List UInt8) (w : World) (hl : l.length ≤ 140737488355328) (hc : l.length ≤ c) (hr : Rd w A l) :
    Calls Try.prog 65 #[.slice A l.length c] w (Kept (beginV l) w) := by
  have HR := Lib.hid hr
  clear hr
  by_cases h17 : l.length < 17
  · have HV := Lib.hid (show beginV l = startV 0 0 0 4 by
      have : bErr l = 4 := by unfold bErr; rw [if_pos h17]
      unfold beginV; rw [this]; rfl)
    go_enter Try.func65, Try.ntmps65
    go_wp2
    exact bodyPost_ret (v := startV 0 0 0 4) (by simp [startV, results, Try.results65, go_sem]) rfl ⟨ret_eq HV.out.symm, below_alloc (Below.refl _ _) _⟩
  · obtain ⟨k, hk⟩ : ∃ k, fk l = k := ⟨_, rfl⟩
    obtain ⟨q, hq⟩ : ∃ q, fs l = q := ⟨_, rfl⟩
    obtain ⟨n, hn⟩ : ∃ n, fn l = n := ⟨_, rfl⟩
    have hkl := fk_lt l
    have hql := fs_lt l
    have hnl := fn_lt l
    have K1 := takeN_at (l := l) (p := 0) (k := 1) (by omega) (by omega) (by omega)
    have K2 := takeN_at (l := l) (p := 1) (k := 8) (by omega) (by omega) (by omega)
    have K3 := takeN_at (l := l) (p := 9) (k := 4) (by omega) (by omega) (by omega)
    have H1 := Lib.hid (show takeN l 0 1 = k by rw [← hk]; exact K1.2)
    have H2 := Lib.hid (show takeN l 1 8 = q by rw [← hq]; exact K2.2)
    have H3 := Lib.hid (show takeN l 9 4 = n by rw [← hn]; exact K3.2)
    have O1 := Lib.hid (show takeOk l 0 1 = true from K1.1)
    have O2 := Lib.hid (show takeOk l 1 8 = true from K2.1)
    have O3 := Lib.hid (show takeOk l 9 4 = true from K3.1)
    rw [hk] at hkl
    rw [hq] at hql
    rw [hn] at hnl
    obtain ⟨y, hy, hcut, hry, hyc, hyl⟩ := cutTo (A := A) (l := l) (c := c) 17 (by omega) (by omega) hc
    have HY := Lib.hid (show y = l.take 17 from hy.out)
    have HRY := Lib.hid (hry w HR.out)
    have hy4 : 4 ≤ y.length := by omega
    have hyb : y.length ≤ 140737488355328 := by omega
    have HV := Lib.hid (show beginV l = if wholeB y = false then startV 0 0 0 5 else if k < 1 ∨ 8 < k ∨ 65536 < n then startV 0 0 0 3 else startV k q n 0 by
      unfold beginV bErr
      rw [if_neg h17, HY.out, hk, hn, hq]
      by_cases hw : wholeB (l.take 17) = false
      · simp [hw]
      · by_cases hf : k < 1 ∨ 8 < k ∨ 65536 < n
        · rw [if_neg hw, if_pos hf, if_neg (by decide), if_neg hw, if_pos hf]
        · rw [if_neg hw, if_neg hf, if_pos rfl, if_neg hw, if_neg hf])
    have h17' : 17 ≤ l.length := by omega
    clear hk hq hn K1 K2 K3 hy hry hyl h17
    cases hw : wholeB y with
    | false =>
      have HVV := Lib.hid (show beginV l = startV 0 0 0 5 by rw [HV.out, if_pos hw])
      have HW := Lib.hid hw
      clear hw
      go_enter Try.func65, Try.ntmps65
      go_wp2_with fail
      refine (take_any A c l 0 1 _ hl (HR.out.below (below_alloc (Below.refl _ _) _))).mono ?_
      rintro e w1 ⟨rfl, rfl⟩
      rw [H1.out, O1.out]
      go_wp2_with fail
      refine (take_any A c l 1 8 _ hl (HR.out.below (below_alloc (Below.refl _ _) _))).mono ?_
      rintro e w1 ⟨rfl, rfl⟩
      rw [H2.out, O2.out]
      go_wp2_with fail
      refine (take_any A c l 9 4 _ hl (HR.out.below (below_alloc (Below.refl _ _) _))).mono ?_
      rintro e w1 ⟨rfl, rfl⟩
      rw [H3.out, O3.out]
      go_wp2_with fail
      refine (whole_any A c y _ hyb hy4 hyc (HRY.out.below (below_alloc (below_alloc (Below.refl _ _) _) _))).mono ?_
      rintro e w1 ⟨rfl, hb⟩
      rw [HW.out]
      have HB := Lib.hid (below_then (below_alloc (below_alloc (Below.refl _ _) _) _) (by simp; omega) hb)
      have HG := Lib.hid (blk_below (blk_alloc (blk_new w (.cells #[.int .i64 0, .int .u64 0, .slice none 0 0, .int .i64 0, .int .i64 0] 100)) _) hb)
      have hcc := fun i => blk_cell HG.out i
      have hff := fun i => blk_frozen HG.out i
      clear hb
      go_wp2_with fail
      refine bodyPost_ret_by (results_ct rfl _ _ w.heap.size _ _ (0, 0) _ rfl (blk_set (blk_set (blk_set (blk_set (blk_set HG.out 0 _) 1 _) 2 _) 3 _) 4 _) Try.underlying100 rfl infoStart) rfl ?_
      exact ⟨ret_eq (by rw [HVV.out]; rfl), below_set (below_set (below_set (below_set (below_set HB.out (Nat.le_refl _)) (Nat.le_refl _)) (Nat.le_refl _)) (Nat.le_refl _)) (Nat.le_refl _)⟩
    | true =>
      have HW := Lib.hid hw
      by_cases hf : k < 1 ∨ 8 < k ∨ 65536 < n
      · have HVV := Lib.hid (show beginV l = startV 0 0 0 3 by rw [HV.out, if_neg (by rw [hw]; decide), if_pos hf])
        have hcase : (k : Int) < 1 ∨ (¬ (k : Int) < 1 ∧ 8 < (k : Int)) ∨ (¬ (k : Int) < 1 ∧ ¬ 8 < (k : Int) ∧ 65536 < (n : Int)) := by omega
        clear hw hf
        rcases hcase with h1 | ⟨h1, h2⟩ | ⟨h1, h2, h3⟩
        all_goals
          go_enter Try.func65, Try.ntmps65
          go_wp2_with fail
          refine (take_any A c l 0 1 _ hl (HR.out.below (below_alloc (Below.refl _ _) _))).mono ?_
          rintro e w1 ⟨rfl, rfl⟩
          rw [H1.out, O1.out]
          go_wp2_with fail
          refine (take_any A c l 1 8 _ hl (HR.out.below (below_alloc (Below.refl _ _) _))).mono ?_
          rintro e w1 ⟨rfl, rfl⟩
          rw [H2.out, O2.out]
          go_wp2_with fail
          refine (take_any A c l 9 4 _ hl (HR.out.below (below_alloc (Below.refl _ _) _))).mono ?_
          rintro e w1 ⟨rfl, rfl⟩
          rw [H3.out, O3.out]
          go_wp2_with fail
          refine (whole_any A c y _ hyb hy4 hyc (HRY.out.below (below_alloc (below_alloc (Below.refl _ _) _) _))).mono ?_
          rintro e w1 ⟨rfl, hb⟩
          rw [HW.out]
          have HB := Lib.hid (below_then (below_alloc (below_alloc (Below.refl _ _) _) _) (by simp; omega) hb)
          have HG := Lib.hid (blk_below (blk_alloc (blk_new w (.cells #[.int .i64 0, .int .u64 0, .slice none 0 0, .int .i64 0, .int .i64 0] 100)) _) hb)
          have hcc := fun i => blk_cell HG.out i
          have hff := fun i => blk_frozen HG.out i
          have HG2 := Lib.hid (show w1.heap[w.heap.size + 1]? = some (.cells #[.int .i64 k, .int .u64 q, .slice none 0 0, .int .i64 0, .int .i64 n] 100 (0, 0)) from blk_below (by have := blk_new (w.alloc (.cells #[.int .i64 0, .int .u64 0, .slice none 0 0, .int .i64 0, .int .i64 0] 100)) (.cells #[.int .i64 k, .int .u64 q, .slice none 0 0, .int .i64 0, .int .i64 n] 100); simpa using this) hb)
          have hcc2 := fun i => blk_cell HG2.out i
          clear hb
          go_wp2_with fail
          refine bodyPost_ret_by (results_ct rfl _ _ w.heap.size _ _ (0, 0) _ rfl (blk_set (blk_set (blk_set (blk_set (blk_set HG.out 0 _) 1 _) 2 _) 3 _) 4 _) Try.underlying100 rfl infoStart) rfl ?_
          exact ⟨ret_eq (by rw [HVV.out]; rfl), below_set (below_set (below_set (below_set (below_set HB.out (Nat.le_refl _)) (Nat.le_refl _)) (Nat.le_refl _)) (Nat.le_refl _)) (Nat.le_refl _)⟩
      · have HVV := Lib.hid (show beginV l = startV k q n 0 by rw [HV.out, if_neg (by rw [hw]; decide), if_neg hf])
        have h1 : ¬ (k : Int) < 1 := by omega
        have h2 : ¬ 8 < (k : Int) := by omega
        have h3 : ¬ 65536 < (n : Int) := by omega
        clear hw hf
        go_enter Try.func65, Try.ntmps65
        go_wp2_with fail
        refine (take_any A c l 0 1 _ hl (HR.out.below (below_alloc (Below.refl _ _) _))).mono ?_
        rintro e w1 ⟨rfl, rfl⟩
        rw [H1.out, O1.out]
        go_wp2_with fail
        refine (take_any A c l 1 8 _ hl (HR.out.below (below_alloc (Below.refl _ _) _))).mono ?_
        rintro e w1 ⟨rfl, rfl⟩
        rw [H2.out, O2.out]
        go_wp2_with fail
        refine (take_any A c l 9 4 _ hl (HR.out.below (below_alloc (Below.refl _ _) _))).mono ?_
        rintro e w1 ⟨rfl, rfl⟩
        rw [H3.out, O3.out]
        go_wp2_with fail
        refine (whole_any A c y _ hyb hy4 hyc (HRY.out.below (below_alloc (below_alloc (Below.refl _ _) _) _))).mono ?_
        rintro e w1 ⟨rfl, hb⟩
        rw [HW.out]
        have HB := Lib.hid (below_then (below_alloc (below_alloc (Below.refl _ _) _) _) (by simp; omega) hb)
        have HG := Lib.hid (blk_below (blk_alloc (blk_new w (.cells #[.int .i64 0, .int .u64 0, .slice none 0 0, .int .i64 0, .int .i64 0] 100)) _) hb)
        have hcc := fun i => blk_cell HG.out i
        have hff := fun i => blk_frozen HG.out i
        have HG2 := Lib.hid (show w1.heap[w.heap.size + 1]? = some (.cells #[.int .i64 k, .int .u64 q, .slice none 0 0, .int .i64 0, .int .i64 n] 100 (0, 0)) from blk_below (by have := blk_new (w.alloc (.cells #[.int .i64 0, .int .u64 0, .slice none 0 0, .int .i64 0, .int .i64 0] 100)) (.cells #[.int .i64 k, .int .u64 q, .slice none 0 0, .int .i64 0, .int .i64 n] 100); simpa using this) hb)
        have hcc2 := fun i => blk_cell HG2.out i
        clear hb
        go_wp2_with fail
        refine bodyPost_ret_by (results_ct rfl _ _ w.heap.size _ _ (0, 0) _ rfl (blk_set (blk_set (blk_set (blk_set (blk_set HG.out 0 _) 1 _) 2 _) 3 _) 4 _) Try.underlying100 rfl infoStart) rfl ?_
        exact ⟨ret_eq (by rw [HVV.out]; rfl), below_set (below_set (below_set (below_set (below_set HB.out (Nat.le_refl _)) (Nat.le_refl _)) (Nat.le_refl _)) (Nat.le_refl _)) (Nat.le_refl _)⟩
end Go.Proofs.Ytdkadeihhgjiaaa.Fr
/- frame: the walk of Parse. -/
set_option linter.unusedVariables false
set_option linter.unusedSimpArgs false
namespace Go.Proofs.Ytdkadeihhgjiaaa.Fr
open Go.RowKit Go.Proofs.YtdkadeihhgjiaaaW.PrintWords Go.Proofs.Ytdkadeihhgjiaaa.B Go.Proofs.Ytdkadeihhgjiaaa.Fx Go.Proofs.Ytdkadeihhgjiaaa.CrcW

/-- the end: the frame that stands at a place -/
def Parsed (l : List UInt8) (at_ : Int) (w : World) (e : Ending) (w' : World) : Prop :=
  ∃ A c, e = .returned (.tuple #[.agg #[.int .i64 (pKind l at_), .int .u64 (pSeq l at_), .slice A (pData l at_).length c, .int .i64 (pEnd l at_)], .int .i64 (pErr l at_)]) ∧ (pData l at_).length ≤ c ∧ Rd w' A (pData l at_) ∧ Below w.heap.size w w'
/-- likewise; the data is the call's own -/
def ParsedO (l : List UInt8) (at_ : Int) (w : World) (e : Ending) (w' : World) : Prop :=
  ∃ A c, e = .returned (.tuple #[.agg #[.int .i64 (pKind l at_), .int .u64 (pSeq l at_), .slice A (pData l at_).length c, .int .i64 (pEnd l at_)], .int .i64 (pErr l at_)]) ∧ (pData l at_).length ≤ c ∧ Own w' w.heap.size (.slice A (pData l at_).length c) (pData l at_) ∧ Below w.heap.size w w'
def noFrame (e : Nat) : Value := .tuple #[.agg #[.int .i64 0, .int .u64 0, .slice none 0 0, .int .i64 0], .int .i64 e]
theorem parsed_no {l : List UInt8} {at_ : Int} {w w' : World} {e : Nat} (h : pErr l at_ = e) (h0 : e ≠ 0) (hb : Below w.heap.size w w') : Parsed l at_ w (.returned (noFrame e)) w' := by
  have hd : pData l at_ = [] := by unfold pData; rw [if_neg (by omega)]
  refine ⟨none, 0, ?_, by rw [hd]; simp, by rw [hd]; exact Rd.nil _, hb⟩
  have h1 : pKind l at_ = 0 := by unfold pKind; rw [if_neg (by omega)]
  have h2 : pSeq l at_ = 0 := by unfold pSeq; rw [if_neg (by omega)]
  have h3 : pEnd l at_ = 0 := by unfold pEnd; rw [if_neg (by omega)]
  rw [hd, h1, h2, h3, h]; rfl
theorem parsedO_no {l : List UInt8} {at_ : Int} {w w' : World} {e : Nat} (h : pErr l at_ = e) (h0 : e ≠ 0) (hb : Below w.heap.size w w') : ParsedO l at_ w (.returned (noFrame e)) w' := by
  have hd : pData l at_ = [] := by unfold pData; rw [if_neg (by omega)]
  refine ⟨none, 0, ?_, by rw [hd]; simp, by rw [hd]; exact Own.nil _ _, hb⟩
  have h1 : pKind l at_ = 0 := by unfold pKind; rw [if_neg (by omega)]
  have h2 : pSeq l at_ = 0 := by unfold pSeq; rw [if_neg (by omega)]
  have h3 : pEnd l at_ = 0 := by unfold pEnd; rw [if_neg (by omega)]
  rw [hd, h1, h2, h3, h]; rfl
theorem infoFrame : (Try.prog.info? 82).map (·.size) = some 4 := by kernel_rfl
theorem begin_no {x : List UInt8} (h : bErr x ≠ 0) : pErrX x = bErr x := by
  unfold bErr at h ⊢
  unfold pErrX
  by_cases h1 : x.length < 17
  · rw [if_pos h1, if_pos h1]
  rw [if_neg h1] at h ⊢
  rw [if_neg h1]
  by_cases h2 : wholeB (x.take 17) = false
  · rw [if_pos h2, if_pos h2]
  rw [if_neg h2] at h ⊢
  rw [if_neg h2]
  by_cases h3 : fk x < 1 ∨ 8 < fk x ∨ 65536 < fn x
  · rw [if_pos h3, if_pos h3]
  · rw [if_neg h3] at h; omega
theorem begin_yes {x : List UInt8} (h : bErr x = 0) : pErrX x = (if x.length < 21 + fn x then 4 else if wholeB (x.take (21 + fn x)) = false then 5 else 0) ∧ 17 ≤ x.length ∧ fn x ≤ 65536 ∧ fk x ≤ 8 := by
  unfold bErr at h
  unfold pErrX
  by_cases h1 : x.length < 17
  · rw [if_pos h1] at h; omega
  rw [if_neg h1] at h ⊢
  by_cases h2 : wholeB (x.take 17) = false
  · rw [if_pos h2] at h; omega
  rw [if_neg h2] at h ⊢
  by_cases h3 : fk x < 1 ∨ 8 < fk x ∨ 65536 < fn x
  · rw [if_pos h3] at h; omega
  rw [if_neg h3]
  exact ⟨rfl, by omega, by omega, by omega⟩
set_option maxRecDepth 100000 in
set_option maxHeartbeats 1000000 in
theorem parse_own (A : Option Addr) (c : Nat) (l : List UInt8) (at_ : Int) (w : World) (hl : l.length ≤ 140737488354000) (hc : l.length ≤ c) (hr : Rd w A l) (hb : -9223372036854775808 ≤ at_ ∧ at_ ≤ 9223372036854775807) :
    Calls Try.prog 52 #[.slice A l.length c, .int .i64 at_] w (ParsedO l at_ w) := by
  have HR := Lib.hid hr
  clear hr
  by_cases hat : at_ < 0 ∨ (l.length : Int) < at_
  · have HE := Lib.hid (show pErr l at_ = 2 by unfold pErr; rw [if_pos hat])
    have hcase : at_ < 0 ∨ (¬ at_ < 0 ∧ (l.length : Int) < at_) := by omega
    clear hat
    rcases hcase with h1 | ⟨h1, h2⟩
    all_goals
      go_enter Try.func52, Try.ntmps52
      go_wp2_with fail
      refine bodyPost_ret_by (results_ct rfl _ _ w.heap.size _ _ (0, 0) _ rfl (blk_new w _) Try.underlying82 rfl infoFrame) rfl ?_
      exact parsedO_no HE.out (by decide) (below_alloc (Below.refl _ _) _)
  · have h1 : 0 ≤ at_ := by omega
    have h2 : at_ ≤ (l.length : Int) := by omega
    have h1' : ¬ at_ < 0 := by omega
    have h2' : ¬ (l.length : Int) < at_ := by omega
    obtain ⟨X, x, cx, hx, hcut, hrx, hxc, hxl⟩ := cutF (A := A) (l := l) (c := c) at_ h1 h2 hc
    have HPE := Lib.hid (show pErr l at_ = pErrX x by unfold pErr; rw [if_neg hat, hx.out])
    have HX := Lib.hid (show x = l.drop at_.toNat from hx.out)
    have HRX := Lib.hid (hrx w HR.out)
    have HBG := Lib.hid (fun (W : World) (h : Rd W X x) => begin_any X cx x W (by omega) hxc h)
    have hxb : x.length ≤ l.length := by omega
    have hxa : at_ + (x.length : Int) ≤ 140737488354000 := by omega
    clear hat hx hrx hxl
    by_cases hbe : bErr x = 0
    · obtain ⟨hpe, h17, hn6, hk8⟩ := begin_yes hbe
      obtain ⟨k, hk⟩ : ∃ k, fk x = k := ⟨_, rfl⟩
      obtain ⟨q, hq⟩ : ∃ q, fs x = q := ⟨_, rfl⟩
      obtain ⟨n, hn⟩ : ∃ n, fn x = n := ⟨_, rfl⟩
      have HV := Lib.hid (show beginV x = startV k q n 0 by unfold beginV; rw [if_pos hbe, hk, hq, hn])
      have hql := fs_lt x
      rw [hq] at hql
      rw [hn] at hn6 hpe
      rw [hk] at hk8
      have HQ := Lib.hid hql
      have HPX := Lib.hid hpe
      have HK := Lib.hid hk
      have HS := Lib.hid hq
      have HNN := Lib.hid hn
      clear hbe hk hq hn hpe hql
      by_cases hs : x.length < 21 + n
      · have HE := Lib.hid (show pErr l at_ = 4 by rw [HPE.out, HPX.out, if_pos hs])
        have hs' : (x.length : Int) < (n : Int) + 21 := by omega
        clear hs
        go_enter Try.func52, Try.ntmps52
        go_wp2_with fail
        refine (HBG.out _ (HRX.out.below (below_alloc (Below.refl _ _) _))).mono ?_
        rintro e w1 ⟨rfl, hb⟩
        rw [HV.out]
        unfold startV
        have HB := Lib.hid (below_then (below_alloc (Below.refl _ _) _) (by simp <;> omega) hb)
        have HG := Lib.hid (show w1.heap[w.heap.size]? = some (.cells #[.int .i64 0, .int .u64 0, .slice none 0 0, .int .i64 0] 82 (0, 0)) from blk_below (blk_new w _) hb)
        have hcc := fun i => blk_cell HG.out i
        have hff := fun i => blk_frozen HG.out i
        have hz := blk_lt HG.out
        clear hb
        go_wp2_with fail
        refine (size_any n _ (by omega) (by omega)).mono ?_
        rintro e w' ⟨rfl, rfl⟩
        go_wp2_with fail
        refine bodyPost_ret_by (results_ct rfl _ _ w.heap.size _ _ (0, 0) _ rfl (blk_alloc (blk_set (blk_set (blk_set (blk_set HG.out 0 _) 1 _) 2 _) 3 _) _) Try.underlying82 rfl infoFrame) rfl ?_
        exact parsedO_no HE.out (by decide) (below_alloc (below_set (below_set (below_set (below_set (HB.out) (Nat.le_refl _)) (Nat.le_refl _)) (Nat.le_refl _)) (Nat.le_refl _)) _)
      · obtain ⟨y, hy, hcuty, hry, hyc, hyl⟩ := cutTo (A := X) (l := x) (c := cx) ((n : Int) + 21) (by omega) (by omega) hxc
        have HY := Lib.hid (show y = x.take (21 + n) by rw [hy.out]; congr 1; omega)
        have HRY := Lib.hid (hry w HRX.out)
        have hs' : ¬ (x.length : Int) < (n : Int) + 21 := by omega
        have hy4 : 4 ≤ y.length := by omega
        have hyb : y.length ≤ 140737488355328 := by omega
        have HWH := Lib.hid (fun (W : World) (h : Rd W X y) => whole_any X cx y W hyb hy4 hyc h)
        clear hy hry
        cases hw : wholeB y with
        | false =>
          have HE := Lib.hid (show pErr l at_ = 5 by rw [HPE.out, HPX.out, if_neg hs, ← HY.out, if_pos hw])
          have HW := Lib.hid hw
          clear hs hw hyl
          go_enter Try.func52, Try.ntmps52
          go_wp2_with fail
          refine (HBG.out _ (HRX.out.below (below_alloc (Below.refl _ _) _))).mono ?_
          rintro e w1 ⟨rfl, hb⟩
          rw [HV.out]
          unfold startV
          have HB := Lib.hid (below_then (below_alloc (Below.refl _ _) _) (by simp <;> omega) hb)
          have HG := Lib.hid (show w1.heap[w.heap.size]? = some (.cells #[.int .i64 0, .int .u64 0, .slice none 0 0, .int .i64 0] 82 (0, 0)) from blk_below (blk_new w _) hb)
          have hcc := fun i => blk_cell HG.out i
          have hff := fun i => blk_frozen HG.out i
          have hz := blk_lt HG.out
          clear hb
          go_wp2_with fail
          refine (size_any n _ (by omega) (by omega)).mono ?_
          rintro e w' ⟨rfl, rfl⟩
          go_wp2_with fail
          refine (size_any n _ (by omega) (by omega)).mono ?_
          rintro e w' ⟨rfl, rfl⟩
          go_wp2_with fail
          refine (HWH.out _ ((HRY.out.below HB.out).below (below_alloc (Below.refl _ _) _))).mono ?_
          rintro e w2 ⟨rfl, hb2⟩
          rw [HW.out]
          have HB2 := Lib.hid (below_then (below_alloc HB.out _) (by have := HB.out.size; simp <;> omega) hb2)
          have HG2 := Lib.hid (show w2.heap[w.heap.size]? = some (.cells #[.int .i64 0, .int .u64 0, .slice none 0 0, .int .i64 0] 82 (0, 0)) from blk_below (blk_alloc HG.out _) hb2)
          have hcc2 := fun i => blk_cell HG2.out i
          have hff2 := fun i => blk_frozen HG2.out i
          have hz2 := blk_lt HG2.out
          clear hb2
          go_wp2_with fail
          refine bodyPost_ret_by (results_ct rfl _ _ w.heap.size _ _ (0, 0) _ rfl (blk_set (blk_set (blk_set (blk_set (HG2.out) 0 _) 1 _) 2 _) 3 _) Try.underlying82 rfl infoFrame) rfl ?_
          exact parsedO_no HE.out (by decide) (below_set (below_set (below_set (below_set (HB2.out) (Nat.le_refl _)) (Nat.le_refl _)) (Nat.le_refl _)) (Nat.le_refl _))
        | true =>
          have HE := Lib.hid (show pErr l at_ = 0 by rw [HPE.out, HPX.out, if_neg hs, ← HY.out, if_neg (by rw [hw]; decide)])
          have HW := Lib.hid hw
          obtain ⟨D, d, cd, hd, hcutd, hrd, hdc, hdl⟩ := cutM (A := X) (l := y) (c := cx) 17 (17 + (n : Int)) (by omega) (by omega) (by omega) hyc
          have HRD := Lib.hid (hrd w HRY.out)
          have HD := Lib.hid (show pData l at_ = d by
            unfold pData
            rw [if_pos HE.out, ← HX.out, HNN.out, hd.out, HY.out, List.take_take, List.drop_take]
            rw [show min ((17 + (n : Int)).toNat) (21 + n) - (17 : Int).toNat = n by omega]; rfl)
          have HK' := Lib.hid (show pKind l at_ = k by unfold pKind; rw [if_pos HE.out, ← HX.out, HK.out])
          have HS' := Lib.hid (show pSeq l at_ = q by unfold pSeq; rw [if_pos HE.out, ← HX.out, HS.out])
          have HEnd := Lib.hid (show pEnd l at_ = at_ + (y.length : Int) by unfold pEnd; rw [if_pos HE.out, ← HX.out, HNN.out]; omega)
          have hdb : d.length ≤ 140737488355328 := by omega
          have hab : at_ + (y.length : Int) ≤ 140737488354000 := by omega
          have hyn : 17 + n ≤ y.length := by omega
          clear hs hw hd hrd hyl hdl
          go_enter Try.func52, Try.ntmps52
          go_wp2_with fail
          refine (HBG.out _ (HRX.out.below (below_alloc (Below.refl _ _) _))).mono ?_
          rintro e w1 ⟨rfl, hb⟩
          rw [HV.out]
          unfold startV
          have HB := Lib.hid (below_then (below_alloc (Below.refl _ _) _) (by simp <;> omega) hb)
          have HG := Lib.hid (show w1.heap[w.heap.size]? = some (.cells #[.int .i64 0, .int .u64 0, .slice none 0 0, .int .i64 0] 82 (0, 0)) from blk_below (blk_new w _) hb)
          have hcc := fun i => blk_cell HG.out i
          have hff := fun i => blk_frozen HG.out i
          have hz := blk_lt HG.out
          clear hb
          go_wp2_with fail
          refine (size_any n _ (by omega) (by omega)).mono ?_
          rintro e w' ⟨rfl, rfl⟩
          go_wp2_with fail
          refine (size_any n _ (by omega) (by omega)).mono ?_
          rintro e w' ⟨rfl, rfl⟩
          go_wp2_with fail
          refine (HWH.out _ ((HRY.out.below HB.out).below (below_alloc (Below.refl _ _) _))).mono ?_
          rintro e w2 ⟨rfl, hb2⟩
          rw [HW.out]
          have HB2 := Lib.hid (below_then (below_alloc HB.out _) (by have := HB.out.size; simp <;> omega) hb2)
          have HG2 := Lib.hid (show w2.heap[w.heap.size]? = some (.cells #[.int .i64 0, .int .u64 0, .slice none 0 0, .int .i64 0] 82 (0, 0)) from blk_below (blk_alloc HG.out _) hb2)
          have hcc2 := fun i => blk_cell HG2.out i
          have hff2 := fun i => blk_frozen HG2.out i
          have hz2 := blk_lt HG2.out
          have HT := Lib.hid (show w2.heap[w1.heap.size]? = some (.cells #[.int .i64 k, .int .u64 q, .slice none 0 0, .int .i64 0, .int .i64 n] 100 (0, 0)) from blk_below (blk_new w1 _) hb2)
          have hct2 := fun i => blk_cell HT.out i
          have hft2 := fun i => blk_frozen HT.out i
          have hz3 := blk_lt HT.out
          clear hb2
          go_wp2_with fail
          refine (Cl.clone_any D cd d _ hdb ((HRD.out.below HB2.out))).mono ?_
          rintro e w3 ⟨v3, rfl, hown, hb3⟩
          obtain ⟨A3, c3, rfl, hc3, hr3⟩ := hown.reads
          have HO3 := Lib.hid hown
          have HB3 := Lib.hid (below_then HB2.out HB2.out.size hb3)
          have HG3 := Lib.hid (blk_below HG2.out hb3)
          have HT3 := Lib.hid (blk_below HT.out hb3)
          have hcc3 := fun i => blk_cell HG3.out i
          have hff3 := fun i => blk_frozen HG3.out i
          have hct3 := fun i => blk_cell HT3.out i
          have hft3 := fun i => blk_frozen HT3.out i
          have hzz : w.heap.size < w3.heap.size := blk_lt HG3.out
          have hzt : w1.heap.size < w3.heap.size := blk_lt HT3.out
          clear hown hb3 hr3 hcc2 hff2 hct2 hft2 hcc hff
          go_wp2_with fail
          have hne : w.heap.size ≠ w1.heap.size := by omega
          have hb0 := HB.out.size
          have HO4 := ((((((HO3.out.far (p := ⟨w1.heap.size, 2, none⟩) hz3 (.slice A3 d.length c3)).far (p := ⟨w1.heap.size, 3, none⟩) hz3 (.int .i64 (at_ + (y.length : Int)))).far (p := ⟨w.heap.size, 0, none⟩) hz2 (.int .i64 k)).far (p := ⟨w.heap.size, 1, none⟩) hz2 (.int .u64 q)).far (p := ⟨w.heap.size, 2, none⟩) hz2 (.slice A3 d.length c3)).far (p := ⟨w.heap.size, 3, none⟩) hz2 (.int .i64 (at_ + (y.length : Int))))
          refine bodyPost_ret_by (results_ct rfl _ _ w.heap.size _ _ (0, 0) _ rfl (blk_set (blk_set (blk_set (blk_set (blk_far (blk_far HG3.out hne _) hne _) 0 _) 1 _) 2 _) 3 _) Try.underlying82 rfl infoFrame) rfl ?_
          refine ⟨A3, c3, by rw [HD.out, HK'.out, HS'.out, HEnd.out, HE.out]; rfl, by rw [HD.out]; exact hc3, ?_, ?_⟩
          · rw [HD.out]; exact HO4.lower HB2.out.size
          · exact below_set (below_set (below_set (below_set (below_set (below_set HB3.out hb0) hb0) (Nat.le_refl _)) (Nat.le_refl _)) (Nat.le_refl _)) (Nat.le_refl _)
    · have HE := Lib.hid (show pErr l at_ = bErr x by rw [HPE.out]; exact begin_no hbe)
      obtain ⟨er, her⟩ : ∃ er, bErr x = er := ⟨_, rfl⟩
      have HV := Lib.hid (show beginV x = startV 0 0 0 er by unfold beginV; rw [if_neg hbe, her])
      rw [her] at HE hbe
      have he0 : ((er : Int) != 0) = true := by simp; omega
      clear her
      go_enter Try.func52, Try.ntmps52
      go_wp2_with fail
      refine (HBG.out _ (HRX.out.below (below_alloc (Below.refl _ _) _))).mono ?_
      rintro e w1 ⟨rfl, hb⟩
      rw [HV.out]
      unfold startV
      have HB := Lib.hid (below_then (below_alloc (Below.refl _ _) _) (by simp <;> omega) hb)
      have HG := Lib.hid (show w1.heap[w.heap.size]? = some (.cells #[.int .i64 0, .int .u64 0, .slice none 0 0, .int .i64 0] 82 (0, 0)) from blk_below (blk_new w _) hb)
      have hcc := fun i => blk_cell HG.out i
      have hff := fun i => blk_frozen HG.out i
      have hz := blk_lt HG.out
      clear hb
      go_wp2_with fail
      refine bodyPost_ret_by (results_ct rfl _ _ w.heap.size _ _ (0, 0) _ rfl (blk_alloc (blk_set (blk_set (blk_set (blk_set HG.out 0 _) 1 _) 2 _) 3 _) _) Try.underlying82 rfl infoFrame) rfl ?_
      exact parsedO_no HE.out hbe (below_alloc (below_set (below_set (below_set (below_set (HB.out) (Nat.le_refl _)) (Nat.le_refl _)) (Nat.le_refl _)) (Nat.le_refl _)) _)
theorem parse_any (A : Option Addr) (c : Nat) (l : List UInt8) (at_ : Int) (w : World) (hl : l.length ≤ 140737488354000) (hc : l.length ≤ c) (hr : Rd w A l) (hb : -9223372036854775808 ≤ at_ ∧ at_ ≤ 9223372036854775807) :
    Calls Try.prog 52 #[.slice A l.length c, .int .i64 at_] w (Parsed l at_ w) :=
  (parse_own A c l at_ w hl hc hr hb).mono fun e w' ⟨A1, c1, h1, h2, h3, h4⟩ => ⟨A1, c1, h1, h2, h3.rd, h4⟩
end Go.Proofs.Ytdkadeihhgjiaaa.Fr
/- stillageref13: the walks of Make, Parse. -/
set_option linter.unusedVariables false
set_option linter.unusedSimpArgs false
namespace Go.Proofs.Ytdkadeihhgjiaaa.Fr
open Go.RowKit Go.Proofs.YtdkadeihhgjiaaaW.PrintWords Go.Proofs.Ytdkadeihhgjiaaa.B Go.Proofs.Ytdkadeihhgjiaaa.Fx Go.Proofs.Ytdkadeihhgjiaaa.CrcW

theorem refcsum_any (A : Option Addr) (c : Nat) (l : List UInt8) (w : World) (hr : Rd w A l) (hl : l.length ≤ 16777216) :
    Calls Try.prog 57 #[.slice A l.length c] w (Kept (.int .u32 (csum l : Nat)) w) := refsum_any A c l w hr hl
theorem putB1 (q : Nat) : putB q 1 = [UInt8.ofNat q] := by simp [putB]
set_option maxRecDepth 100000 in
set_option maxHeartbeats 800000 in
theorem refmake_any (k : Int) (s : Nat) (A : Option Addr) (c : Nat) (d : List UInt8) (w : World) (hk : -9223372036854775808 ≤ k ∧ k ≤ 9223372036854775807) (hs : s < 18446744073709551616) (hd : d.length ≤ 16777000) (hr : Rd w A d) :
    Calls Try.prog 36 #[.int .i64 k, .int .u64 s, .slice A d.length c] w (Made w (makeL (kindN k) s d)) := by
  have HR := Lib.hid hr
  clear hr
  obtain ⟨q, hq⟩ : ∃ q : Nat, kindN k = q := ⟨_, rfl⟩
  have HQ := Lib.hid (show k % 256 = ((UInt8.ofNat q).toNat : Int) by
    unfold kindN at hq
    rw [UInt8.toNat_ofNat', ← hq]; omega)
  obtain ⟨y1, hy1⟩ : ∃ y, [UInt8.ofNat q] = y := ⟨_, rfl⟩
  obtain ⟨y2, hy2⟩ : ∃ y, y1 ++ putB s 8 = y := ⟨_, rfl⟩
  obtain ⟨y3, hy3⟩ : ∃ y, y2 ++ putB d.length 4 = y := ⟨_, rfl⟩
  have hs3 := csum_lt y3
  obtain ⟨s3, hs3e⟩ : ∃ s3, csum y3 = s3 := ⟨_, rfl⟩
  obtain ⟨y4, hy4⟩ : ∃ y, y3 ++ putB s3 4 = y := ⟨_, rfl⟩
  obtain ⟨y5, hy5⟩ : ∃ y, y4 ++ d = y := ⟨_, rfl⟩
  have hs5 := csum_lt y5
  obtain ⟨s5, hs5e⟩ : ∃ s5, csum y5 = s5 := ⟨_, rfl⟩
  have HF := Lib.hid (show y5 ++ putB s5 4 = makeL (kindN k) s d from by
    rw [hq, ← hs5e, ← hy5, ← hy4, ← hs3e, ← hy3, ← hy2, ← hy1, ← putB1]; rfl)
  have hl1 : y1.length = 1 := by rw [← hy1]; rfl
  have hl2 : y2.length = 9 := by rw [← hy2, List.length_append, putB_length, hl1]
  have hl3 : y3.length = 13 := by rw [← hy3, List.length_append, putB_length, hl2]
  have hl4 : y4.length = 17 := by rw [← hy4, List.length_append, putB_length, hl3]
  have hl5 : y5.length = 17 + d.length := by rw [← hy5, List.length_append, hl4]
  have k1 : y1.length ≤ 17 := by omega
  have k2 : y2.length ≤ 17 := by omega
  have k3 : y3.length ≤ 17 := by omega
  have k4 : y4.length ≤ 17 := by omega
  have k5 : y5.length ≤ 16777216 := by omega
  rw [hs3e] at hs3
  rw [hs5e] at hs5
  have H1 := Lib.hid hy1
  have H2 := Lib.hid hy2
  have H3 := Lib.hid hy3
  have H4 := Lib.hid hy4
  have H5 := Lib.hid hy5
  have C3 := Lib.hid (fun (A : Option Addr) (c : Nat) (W : World) (h : Rd W A y3) => (show Calls Try.prog 57 #[.slice A y3.length c] W (Kept (.int .u32 (s3 : Nat)) W) from hs3e ▸ refcsum_any A c y3 W h (by omega)))
  have C5 := Lib.hid (fun (A : Option Addr) (c : Nat) (W : World) (h : Rd W A y5) => (show Calls Try.prog 57 #[.slice A y5.length c] W (Kept (.int .u32 (s5 : Nat)) W) from hs5e ▸ refcsum_any A c y5 W h k5))
  clear hy1 hy2 hy3 hy4 hy5 hl1 hl2 hl3 hl4 hl5 hq hs3e hs5e
  go_enter Try.func36, Try.ntmps36
  go_wp2_with (at_builtin; refine app1 (w0 := w) w.heap.size rfl (.const (.slice none 0 0)) (.tmp 10) rfl _ [] (UInt8.ofNat q) _ rfl rfl HQ.out (Own.nil _ _) (Below.refl _ _) (Nat.le_refl _) (by simp) ?_; intro v1 w1 hown hb _ _; rw [List.nil_append, H1.out] at hown; have HO1 := Lib.hid hown; have HB1 := Lib.hid hb; clear hown hb)
  obtain ⟨A1, c1, rfl, hc1, hr1⟩ := HO1.out.reads
  have HR1 := Lib.hid hr1
  clear hr1
  go_wp2_with fail
  refine (R01.put_any A1 c1 y1 s 8 w1 (by omega) (by omega) (by omega) (by omega) HR1.out).mono ?_
  rintro e w2 ⟨v2, rfl, hown, hb⟩
  rw [H2.out] at hown
  obtain ⟨A2, c2, rfl, hc2, hr2⟩ := hown.reads
  have HR2 := Lib.hid hr2
  have HB2 := Lib.hid (below_step' HB1.out hb)
  have HO2 := Lib.hid (hown.lower HB1.out.size)
  clear hown hb hr2
  go_wp2_with fail
  refine (R01.put_any A2 c2 y2 d.length 4 w2 (by omega) (by omega) (by omega) (by omega) HR2.out).mono ?_
  rintro e w3 ⟨v3, rfl, hown, hb⟩
  rw [H3.out] at hown
  obtain ⟨A3, c3, rfl, hc3, hr3⟩ := hown.reads
  have HR3 := Lib.hid hr3
  have HB3 := Lib.hid (below_step' HB2.out hb)
  have HO3 := Lib.hid (hown.lower HB2.out.size)
  clear hown hb hr3
  go_wp2_with fail
  refine (C3.out A3 c3 w3 HR3.out).mono ?_
  rintro e w4 ⟨rfl, hb⟩
  have K4 := Lib.hid hb
  have HB4 := Lib.hid (below_step' HB3.out hb)
  clear hb
  go_wp2_with fail
  refine (R01.put_any A3 c3 y3 s3 4 w4 (by omega) (by omega) (by omega) (by omega) (HR3.out.below K4.out)).mono ?_
  rintro e w5 ⟨v5, rfl, hown, hb⟩
  rw [H4.out] at hown
  obtain ⟨A5, c5, rfl, hc5, hr5⟩ := hown.reads
  have HR5 := Lib.hid hr5
  have HB5 := Lib.hid (below_step' HB4.out hb)
  have HO5 := Lib.hid (hown.lower HB4.out.size)
  clear hown hb hr5
  go_wp2_with (at_builtin; refine appRow (w0 := w) w.heap.size rfl (.tmp 25) (.tmp 26) rfl _ y4 d A d.length c rfl rfl rfl HO5.out (HR.out.below HB5.out) HB5.out HB5.out.size (by omega) ?_; intro v6 w6 hown hb _ _; rw [H5.out] at hown; have HO6 := Lib.hid hown; have HB6 := Lib.hid hb; clear hown hb)
  obtain ⟨A6, c6, rfl, hc6, hr6⟩ := HO6.out.reads
  have HR6 := Lib.hid hr6
  clear hr6
  go_wp2_with fail
  refine (C5.out A6 c6 w6 HR6.out).mono ?_
  rintro e w7 ⟨rfl, hb⟩
  have K7 := Lib.hid hb
  have HB7 := Lib.hid (below_step' HB6.out hb)
  clear hb
  go_wp2_with fail
  refine (R01.put_any A6 c6 y5 s5 4 w7 (by omega) (by omega) (by omega) (by omega) (HR6.out.below K7.out)).mono ?_
  rintro e w8 ⟨v8, rfl, hown, hb⟩
  rw [HF.out] at hown
  obtain ⟨A8, c8, rfl, hc8, hr8⟩ := hown.reads
  have HR8 := Lib.hid hr8
  have HB8 := Lib.hid (below_step' HB7.out hb)
  have HO8 := Lib.hid (hown.lower HB7.out.size)
  clear hown hb hr8
  go_wp2_with fail
  go_ret
  exact ⟨_, rfl, HO8.out, HB8.out⟩
end Go.Proofs.Ytdkadeihhgjiaaa.Fr
