/- writes: byte by byte is all at once. Plain lists. -/
import Derived.Test.YtkgbimkjpllakaaWrApply
set_option linter.unusedVariables false
set_option linter.unusedSimpArgs false
namespace Go.Proofs.Ytkgbimkjpllakaa.Wr
open Go.Proofs.Ytkgbimkjpllakaa.B

/-- behind i bytes of d, from off on -/
def layL (b : List UInt8) (off : Nat) (d : List UInt8) (i : Nat) : List UInt8 := over (b ++ List.replicate (if i = 0 then 0 else off + i - b.length) 0) off (d.take i)
theorem layL_zero (b : List UInt8) (off : Nat) (d : List UInt8) : layL b off d 0 = b := by
  unfold layL over; simp
theorem layL_len {b : List UInt8} {off : Nat} {d : List UInt8} {i : Nat} (h : i ≤ d.length) : (layL b off d i).length = if i = 0 then b.length else max b.length (off + i) := by
  unfold layL over
  simp only [List.length_append, List.length_take, List.length_drop, List.length_replicate]
  split <;> omega
theorem layL_get {b : List UInt8} {off : Nat} {d : List UInt8} {i : Nat} (h : i ≤ d.length) (j : Nat) (hj : j < (layL b off d i).length) : (layL b off d i)[j]? = some (if off ≤ j ∧ j < off + i then d.getD (j - off) 0 else b.getD j 0) := by
  have hl := layL_len (b := b) (off := off) h
  rw [hl] at hj
  by_cases hi0 : i = 0
  · subst hi0
    rw [layL_zero, if_neg (by omega)]
    simp at hj
    simp [hj]
  · rw [if_neg hi0] at hj
    have hz : ∀ j, j < max b.length (off + i) → (b ++ List.replicate (off + i - b.length) (0 : UInt8))[j]? = some (b.getD j 0) := by
      intro j hj
      rw [List.getElem?_append]
      split
      · rename_i h1; simp [h1]
      · rename_i h1
        rw [List.getElem?_replicate, if_pos (by omega)]
        rw [List.getD_eq_getElem?_getD, List.getElem?_eq_none (by omega)]; rfl
    unfold layL over
    rw [if_neg hi0]
    have htl : (d.take i).length = i := by rw [List.length_take]; omega
    have hbl : ((b ++ List.replicate (off + i - b.length) (0 : UInt8)).take off).length = off := by
      rw [List.length_take, List.length_append, List.length_replicate]; omega
    rw [List.getElem?_append, hbl]
    by_cases h1 : j < off
    · rw [if_pos h1, if_neg (by omega), List.getElem?_take_of_lt h1, hz j hj]
    · rw [if_neg h1, List.getElem?_append, htl]
      by_cases h2 : j - off < i
      · rw [if_pos h2, if_pos (by omega), List.getElem?_take_of_lt h2]
        rw [List.getD_eq_getElem?_getD, List.getElem?_eq_getElem (by omega)]; rfl
      · rw [if_neg h2, if_neg (by omega), List.getElem?_drop, show off + i + (j - off - i) = j by omega, hz j hj]
/-- one byte more -/
theorem layL_step {b : List UInt8} {off : Nat} {d : List UInt8} {i : Nat} (h : i < d.length) : ((layL b off d i) ++ List.replicate (off + i + 1 - (layL b off d i).length) 0).set (off + i) (d.getD i 0) = layL b off d (i + 1) := by
  have hl := layL_len (b := b) (off := off) (Nat.le_of_lt h)
  have hl2 := layL_len (b := b) (off := off) (d := d) (i := i + 1) h
  rw [if_neg (by omega)] at hl2
  have hb : b.length ≤ (layL b off d i).length := by rw [hl]; split <;> omega
  have hm : (layL b off d i).length ≤ max b.length (off + i) := by rw [hl]; split <;> omega
  apply List.ext_getElem?
  intro j
  by_cases hj : j < max b.length (off + (i + 1))
  · rw [layL_get (i := i + 1) h j (by omega), List.getElem?_set]
    by_cases e : off + i = j
    · subst e
      rw [if_pos rfl, if_pos (by rw [List.length_append, List.length_replicate]; omega), if_pos (by omega), show off + i - off = i by omega]
    · rw [if_neg e, List.getElem?_append]
      by_cases h1 : j < (layL b off d i).length
      · rw [if_pos h1, layL_get (Nat.le_of_lt h) j h1]
        by_cases h2 : off ≤ j ∧ j < off + i
        · rw [if_pos h2, if_pos (by omega)]
        · rw [if_neg h2, if_neg (by omega)]
      · rw [if_neg h1, List.getElem?_replicate, if_pos (by omega), if_neg (by
          intro h2
          rw [hl] at h1
          split at h1 <;> omega), List.getD_eq_getElem?_getD, List.getElem?_eq_none (by omega)]; rfl
  · rw [List.getElem?_eq_none (by rw [List.length_set, List.length_append, List.length_replicate]; omega), List.getElem?_eq_none (by omega)]
end Go.Proofs.Ytkgbimkjpllakaa.Wr
