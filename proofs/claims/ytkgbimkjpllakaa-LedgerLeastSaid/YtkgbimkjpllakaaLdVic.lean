/- ledger.Victim. -/
import Derived.Test.YtkgbimkjpllakaaLdDel3
set_option linter.unusedVariables false
set_option linter.unusedSimpArgs false
namespace Go.Proofs.Ytkgbimkjpllakaa.Ld
open Go.RowKit Go.Proofs.YtkgbimkjpllakaaW.PrintWords Go.Proofs.Ytkgbimkjpllakaa.B Go.Proofs.Ytkgbimkjpllakaa.O Go.Proofs.Ytkgbimkjpllakaa.Sc
/-- a load's share, where it is a number -/
def shN (x : Lo) : Nat := (floatBits .quo .f64 (floatOfInt .f64 x.2.2.toInt) (floatOfInt .f64 x.2.1.toInt)).getD 0
/-- what may be cleaned -/
def mayL (n : List Int64) (lim : Nat) (l : List Lo) : List Lo := l.filter (fun x => !delB n lim x)
theorem share_of {n : List Int64} {lim : Nat} {x : Lo} {r : Nat} (h : delB n lim x = false) (hi : IsShare (floatOfInt .f64 x.2.2.toInt) (floatOfInt .f64 x.2.1.toInt) r) : r = shN x := by
  unfold delB belowB at h
  rw [Bool.or_eq_false_iff] at h
  obtain ⟨-, h⟩ := h
  unfold shN
  obtain ⟨-, h2 | ⟨h2, -⟩⟩ := hi
  · rw [h2]; rfl
  · rw [h2] at h; cases h
theorem may_del {n : List Int64} {lim : Nat} {l : List Lo} {k : Nat} (hk : k < (mayL n lim l).length) : delB n lim (lo (mayL n lim l) k) = false := by
  rw [lo_getElem hk]
  have := (List.mem_filter.1 (List.getElem_mem hk)).2
  simpa using this
/-- which segment is cleaned -/
def IsVic (m : List Lo) (v : Int) : Prop := (m = [] ∧ v = 0) ∨ ∃ k : Nat, k < m.length ∧ v = (lo m k).1.toInt ∧ (∀ j, j < m.length → Flo.pl (shN (lo m k)) ≤ Flo.pl (shN (lo m j))) ∧ ∀ j, j < k → Flo.pl (shN (lo m k)) < Flo.pl (shN (lo m j))
theorem IsVic.one {m : List Lo} {v v' : Int} (h : IsVic m v) (h' : IsVic m v') : v = v' := by
  rcases h with ⟨h1, h2⟩ | ⟨k, hk, hv, h1, h2⟩
  · rcases h' with ⟨-, h3⟩ | ⟨k', hk', -⟩
    · rw [h2, h3]
    · subst h1; simp at hk'
  · rcases h' with ⟨h3, -⟩ | ⟨k', hk', hv', h1', h2'⟩
    · subst h3; simp at hk
    · have : k = k' := by
        rcases Nat.lt_trichotomy k k' with h | h | h
        · have := h2' k h; have := h1 k' hk'; omega
        · exact h
        · have := h2 k' h; have := h1' k hk; omega
      subst this; rw [hv, hv']
end Go.Proofs.Ytkgbimkjpllakaa.Ld
