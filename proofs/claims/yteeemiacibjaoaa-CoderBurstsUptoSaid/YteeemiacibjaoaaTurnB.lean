/- stillageref05.Turn: a burst. -/
import Derived.Test.YteeemiacibjaoaaCrcTurn
import Derived.Test.YteeemiacibjaoaaFrPure
set_option linter.unusedVariables false
set_option linter.unusedSimpArgs false
namespace Go.Proofs.Yteeemiacibjaoaa.CrcW
open Go.RowKit Go.Proofs.YteeemiacibjaoaaW.PrintWords Go.Proofs.Yteeemiacibjaoaa.B

/-- bytes with some bits within 32 side by side turned round -/
def Burst (l y : List UInt8) : Prop := y.length = l.length ∧ Fr.BurstN (nums8 l) (nums8 y)
theorem Burst.refl (l : List UInt8) : Burst l l := ⟨rfl, rfl, nums8_lt l, nums8_lt l, 0, 0, by omega, by omega, by rw [Nat.xor_self]⟩
/-- the end: a burst of the call's own -/
def Turns (w : World) (l : List UInt8) (e : Ending) (w' : World) : Prop := ∃ v y, e = .returned v ∧ Own w' w.heap.size v y ∧ Burst l y ∧ Below w.heap.size w w'
theorem turn_burst (A : Option Addr) (c : Nat) (l : List UInt8) (bit : Int) (mask : Nat) (w : World) (hr : Rd w A l) (hl : l.length ≤ 16777216) (hm : mask < 4294967296) (hbt : -9223372036854775808 ≤ bit ∧ bit ≤ 9223372036854775807) :
    Calls Try.prog 22 #[.slice A l.length c, .int .i64 bit, .int .u32 mask] w (Turns w l) := by
  by_cases h : bit < 0 ∨ (l.length : Int) ≤ bit / 8
  · refine (turn_out A c l bit mask w hr hl h hm hbt).mono ?_
    rintro e w' ⟨v, h1, h2, h3⟩
    exact ⟨v, l, h1, h2, Burst.refl l, h3⟩
  · obtain ⟨b, rfl⟩ := Int.eq_ofNat_of_zero_le (show 0 ≤ bit by omega)
    refine (turn_in A c l b mask w hr hl (by omega) hm).mono ?_
    rintro e w' ⟨v, y, h1, h2, h3, h4⟩
    obtain ⟨h5, h6, m, h7, h8⟩ := h3
    exact ⟨v, y, h1, h2, ⟨by rwa [nums8_len, nums8_len] at h5, h5.symm, nums8_lt l, h6, b, m, by rw [nums8_len]; omega, h7, h8⟩, h4⟩
end Go.Proofs.Yteeemiacibjaoaa.CrcW
