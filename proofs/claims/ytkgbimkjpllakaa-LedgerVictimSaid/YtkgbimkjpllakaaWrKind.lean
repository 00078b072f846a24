/- changes in a slice: what is read. -/
import Derived.Test.YtkgbimkjpllakaaOpen
set_option linter.unusedVariables false
set_option linter.unusedSimpArgs false
namespace Go.Proofs.Ytkgbimkjpllakaa.Wr
open Go.RowKit Go.Proofs.YtkgbimkjpllakaaW.PrintWords Go.Proofs.Ytkgbimkjpllakaa.B Go.Proofs.Ytkgbimkjpllakaa.O

abbrev Wt : Type := Bool × Int64 × List UInt8
def kWr : Kd Wt := Kd.pair Kd.bool (Kd.pair O.i64 (Kd.slice 5 u8))
def mb (x : Bool) : Nat := 1
def mi (x : Int64) : Nat := 1
def mWr (x : Wt) : Nat := mb x.1 + (mi x.2.1 + ms (fun _ : UInt8 => 1) x.2.2) + 1
theorem opnWr : Opn Try.prog 26 kWr mWr :=
  opn_struct Try.underlying26 (by kernel_rfl) (opnF_cons rfl (show Opn Try.prog 4 Kd.bool mb from opn_bool Try.underlying4 (by kernel_rfl)) (opnF_cons rfl (show Opn Try.prog 3 O.i64 mi from opn_i64 Try.underlying3 (by kernel_rfl)) (opnF_one rfl (opn_slice Try.underlying22 (by kernel_rfl) (opn_u8 Try.underlying5 (by kernel_rfl))))))
def RdW (w : World) (A : Option Addr) (l : List Wt) : Prop := kWr.C w A l.length l
def wt (l : List Wt) (i : Nat) : Wt := l.getD i (false, 0, [])
theorem RdW.at_ {w : World} {A : Option Addr} {l : List Wt} (h : RdW w A l) (i : Nat) (hi : i < l.length) :
    ∃ ad A2 c2, A = some ad ∧ (wt l i).2.2.length ≤ c2 ∧ Rd w A2 (wt l i).2.2 ∧ w.cell? (ad.add (i * 3)) = some (.bool (wt l i).1) ∧ w.cell? (ad.add (i * 3 + 1)) = some (.int .i64 (wt l i).2.1.toInt) ∧ w.cell? (ad.add (i * 3 + 2)) = some (.slice A2 (wt l i).2.2.length c2) := by
  obtain ⟨ad, c, e, hl, hK, hc⟩ := Kd.C_get h (false, 0, []) (i : Int) (by omega) (by omega)
  rw [Int.toNat_natCast] at hK hc
  obtain ⟨c0, r0, rfl, rfl, c1, r1, rfl, rfl, A2, c2, rfl, h1, h2⟩ := hK
  exact ⟨ad, A2, c2, e, h1, h2, hc 0 _ rfl, hc 1 _ rfl, hc 2 _ rfl⟩
theorem field_cell {w : World} {ad : Addr} {m j : Nat} {v : Value} (h : w.cell? (ad.add (m + (j + 1))) = some v) : w.cell? { block := (ad.add m).block, off := (ad.add m).off + (j + 1) } = some v := by
  rw [← h]
  unfold Addr.add
  rw [if_neg (show ¬ m + (j + 1) = 0 by omega)]
  by_cases hm : m = 0
  · subst hm; simp
  · rw [if_neg hm]; simp [Nat.add_assoc]
/-- an element's cells, as the walk spells them -/
theorem RdW.cells {w : World} {ad : Addr} {l : List Wt} (h : RdW w (some ad) l) (i : Nat) (hi : i < l.length) :
    ∃ A2 c2, (wt l i).2.2.length ≤ c2 ∧ Rd w A2 (wt l i).2.2 ∧ w.cell? (ad.add (i * 3)) = some (.bool (wt l i).1) ∧ w.cell? { block := (ad.add (i * 3)).block, off := (ad.add (i * 3)).off + 1 } = some (.int .i64 (wt l i).2.1.toInt) ∧ w.cell? { block := (ad.add (i * 3)).block, off := (ad.add (i * 3)).off + 2 } = some (.slice A2 (wt l i).2.2.length c2) := by
  obtain ⟨ad', A2, c2, e, h1, h2, e0, e1, e2⟩ := h.at_ i hi
  injection e with e; subst e
  exact ⟨A2, c2, h1, h2, e0, field_cell (j := 0) e1, field_cell (j := 1) e2⟩
end Go.Proofs.Ytkgbimkjpllakaa.Wr
