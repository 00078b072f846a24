/- writes: the code's change is the document's. Plain lists. -/
import Derived.Test.YtkgbimkjpllakaaWrRef
set_option linter.unusedVariables false
set_option linter.unusedSimpArgs false
namespace Go.Proofs.Ytkgbimkjpllakaa.Wr
open Go.Proofs.Ytkgbimkjpllakaa.B

theorem apply_eq (b : List UInt8) (cut : Bool) (off : Int) (d : List UInt8) : refApplyL b cut off d d.length = applyL b cut off d := by
  unfold refApplyL applyL
  by_cases h : rightB off d.length = false
  · rw [if_pos h, if_pos (.inl h)]
  · rw [if_neg h]
    by_cases hc : cut = true
    · rw [if_pos hc, if_neg (by simp [h, hc]), if_pos hc]
    · rw [if_neg hc, Int.toNat_natCast, Nat.min_self]
      by_cases hd : d = []
      · rw [if_pos (.inr ⟨by simpa using hc, hd⟩), hd]; exact layL_zero _ _ _
      · rw [if_neg (by simp [h, hd]), if_neg hc]
        have : d.length ≠ 0 := fun e => hd (List.length_eq_zero_iff.1 e)
        unfold layL
        rw [if_neg this, List.take_length]
end Go.Proofs.Ytkgbimkjpllakaa.Wr
