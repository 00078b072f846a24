/- Slices of bytes cut: capacities of their own names. -/
import Derived.Test.YtceldlijbehkdaaBase
set_option linter.unusedVariables false
set_option linter.unusedSimpArgs false
namespace Go.Proofs.Ytceldlijbehkdaa.B
open Go.RowKit Go.Proofs.YtceldlijbehkdaaW.PrintWords

/-- b[lo:] -/
theorem cutF {A : Option Addr} {l : List UInt8} {c : Nat} (lo : Int) (h0 : 0 ≤ lo) (h2 : lo ≤ l.length) (hc : l.length ≤ c) :
    ∃ (A' : Option Addr) (y : List UInt8) (c' : Nat), Hid (y = l.drop lo.toNat) ∧ (∀ W : World, (Instr.slice 22 (.slice A l.length c) (some (.int .i64 lo)) none none).run Try.prog W = .ok (.slice A' y.length c') W) ∧ (∀ w : World, Rd w A l → Rd w A' y) ∧ y.length ≤ c' ∧ y.length = l.length - lo.toNat := by
  obtain ⟨A', y, h⟩ := cutFrom (A := A) (l := l) (c := c) lo h0 h2 hc
  exact ⟨A', y, _, h⟩
/-- b[lo:hi] -/
theorem cutM {A : Option Addr} {l : List UInt8} {c : Nat} (lo hi : Int) (h0 : 0 ≤ lo) (h1 : lo ≤ hi) (h2 : hi ≤ l.length) (hc : l.length ≤ c) :
    ∃ (A' : Option Addr) (y : List UInt8) (c' : Nat), Hid (y = (l.take hi.toNat).drop lo.toNat) ∧ (∀ W : World, (Instr.slice 22 (.slice A l.length c) (some (.int .i64 lo)) (some (.int .i64 hi)) none).run Try.prog W = .ok (.slice A' y.length c') W) ∧ (∀ w : World, Rd w A l → Rd w A' y) ∧ y.length ≤ c' ∧ y.length = hi.toNat - lo.toNat := by
  obtain ⟨A', y, h⟩ := cutMid (A := A) (l := l) (c := c) lo hi h0 h1 h2 hc
  exact ⟨A', y, _, h⟩
theorem Own.far {w : World} {base : Nat} {v : Value} {l : List UInt8} (h : Own w base v l) {p : Addr} (hp : p.block < base) (u : Value) : Own (w.setCell p u) base v l :=
  Kd.R_mono (Kd.R_far (Kd.R_bound h) (fun k hk => by have := hk.2.1; omega) u) (fun _ _ => trivial)
theorem Own.rd {w : World} {base : Nat} {A : Option Addr} {n c : Nat} {l : List UInt8} (h : Own w base (.slice A n c) l) : Rd w A l := by
  obtain ⟨A', c', e, -, hr⟩ := h.reads
  injection e with e1
  subst e1
  exact hr
theorem Rd.cell {w : World} {ad : Addr} {l : List UInt8} (h : Rd w (some ad) l) (i : Nat) (hi : i < l.length) : w.cell? (ad.add i) = some (.int .u8 (bt l i)) := by
  obtain ⟨ad', e, hc⟩ := h.at_ i hi
  injection e with e; subst e; exact hc
theorem Own.set {W : World} {base : Nat} {v : Value} {l : List UInt8} (h : Own W base v l) {g t : Nat} {cells : Array Value} (hb : W.heap[g]? = some (.cells cells t (0, 0))) (ht : 5 ≠ t) (j : Nat) (u : Value) : Own (W.setCell ⟨g, j, none⟩ u) base v l :=
  Kd.R_set h hb (fun q hq => by
    have : q = 5 := by simpa [u8, Kd.scalar] using hq
    rw [this]; exact ht) j u
end Go.Proofs.Ytceldlijbehkdaa.B
