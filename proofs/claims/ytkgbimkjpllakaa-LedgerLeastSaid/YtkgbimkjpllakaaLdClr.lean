/- clear of a slice of structs; a row of loads whose end is cleared. -/
import Derived.Test.YtkgbimkjpllakaaLdIdx
import Derived.Lib.SliceRun
set_option linter.unusedVariables false
set_option linter.unusedSimpArgs false
namespace Go.Proofs.Ytkgbimkjpllakaa.Ld
open Go.RowKit Go.Proofs.YtkgbimkjpllakaaW.PrintWords Go.Proofs.Ytkgbimkjpllakaa.B Go.Proofs.Ytkgbimkjpllakaa.O Go.Proofs.Ytkgbimkjpllakaa.Sc

theorem setCells_append (b : Nat) : ∀ (xs ys : List Value) (o : Nat) (w : World), w.setCells b o (xs ++ ys) = (w.setCells b o xs).setCells b (o + xs.length) ys
  | [], ys, o, w => rfl
  | x :: xs, ys, o, w => by
    show (w.setCell ⟨b, o, none⟩ x).setCells b (o + 1) (xs ++ ys) = ((w.setCell ⟨b, o, none⟩ x).setCells b (o + 1) xs).setCells b (o + (xs.length + 1)) ys
    rw [setCells_append b xs ys (o + 1), show o + (xs.length + 1) = o + 1 + xs.length by omega]
theorem zeros_size (z : Array Value) (n : Nat) : (Builtin.zeroCells z n).toList.length = n * z.size := by simp [Builtin.zeroCells]
theorem zeros_succ (z : Array Value) (n : Nat) : (Builtin.zeroCells z (n + 1)).toList = z.toList ++ (Builtin.zeroCells z n).toList := by
  apply List.ext_getElem
  · simp [Builtin.zeroCells, Nat.succ_mul, Nat.add_comm]
  · intro i h1 h2
    rw [zeros_size] at h1
    have h1' : i < n * z.size + z.size := by rw [Nat.succ_mul] at h1; exact h1
    by_cases hi : i < z.size
    · rw [List.getElem_append_left (by simpa using hi)]
      simp [Builtin.zeroCells, Nat.mod_eq_of_lt hi, hi]
    · rw [List.getElem_append_right (by simpa using Nat.le_of_not_lt hi)]
      simp [Builtin.zeroCells]
      rw [Nat.mod_eq_sub_mod (Nat.le_of_not_lt hi)]
variable {P : Program}
/-- 'clear(s)', s a slice of structs -/
theorem run_clear_rows (w : World) (t e ty : TypeId) (z : Value) (ht : P.underlying t = some (.slice e)) (hv : ∀ w, (zeroValue e).run P w = .ok z w) (h1 : ∀ v ∈ z.cells.toList, v.oneCell' = true) (b o n c : Nat) (hn : 0 < n)
    (hc : ∀ j, j < n * z.cells.size → (w.cell? ⟨b, o + j, none⟩).isSome = true) (hf : ∀ j, j < n * z.cells.size → w.frozen? ⟨b, o + j, none⟩ = false) :
    (Builtin.clear_ #[t] ty #[.slice (some ⟨b, o, none⟩) n c]).run P w = .ok (.tuple #[]) (w.setCells b o (Builtin.zeroCells z.cells n).toList) := by
  have hall : ∀ m, ∀ v ∈ (Builtin.zeroCells z.cells m).toList, v.oneCell' = true := by
    intro m
    induction m with
    | zero => intro v hv'; simp [Builtin.zeroCells] at hv'
    | succ m ih => intro v hv'; rw [zeros_succ, List.mem_append] at hv'; exact hv'.elim (h1 v) (ih v)
  have hst := run_storeCells_cells (P := P) b o (Builtin.zeroCells z.cells n).toList 0 w (by rw [zeros_size]; simpa using hc) (by rw [zeros_size]; simpa using hf) (hall n)
  simp only [Nat.add_zero] at hst
  obtain ⟨m, rfl⟩ : ∃ m, n = m + 1 := ⟨n - 1, by omega⟩
  simp [Builtin.clear_, run_underlying ht, hv, hst]
/-- the zero value's cells -/
def zLo : Array Value := #[.int .i64 0, .int .i64 0, .int .i64 0]
theorem row_zeros {e : Nat} {base : Nat} {ok : Nat → Prop} {g n cap : Nat} : ∀ (m : Nat) {W : World} {xs : List Lo} (i : Nat), Kd.R kLo e W base ok (.slice (some ⟨g, 0, none⟩) n cap) xs → i + m ≤ n →
    ∃ ys, Kd.R kLo e (W.setCells g (i * 3) (Builtin.zeroCells zLo m).toList) base ok (.slice (some ⟨g, 0, none⟩) n cap) ys ∧ ys.take i = xs.take i ∧ W.grownBy (W.setCells g (i * 3) (Builtin.zeroCells zLo m).toList) (some g)
  | 0, W, xs, i, h, hi => by
    have e : W.setCells g (i * 3) (Builtin.zeroCells zLo 0).toList = W := by simp [Builtin.zeroCells, World.setCells]
    rw [e]
    exact ⟨xs, h, rfl, ⟨rfl, rfl, rfl, Nat.le_refl _, fun _ _ _ => rfl⟩⟩
  | m + 1, W, xs, i, h, hi => by
    obtain ⟨c, hcl, -, hcc, -⟩ := Kd.R_elem h (0, 0, 0) (i : Int) (by omega) (by omega)
    rw [Int.toNat_natCast] at hcc
    have hcl3 : c.length = 3 := hcl
    obtain ⟨h2, hg⟩ := Kd.R_seg (okp := fun _ => False) (x' := ((0, 0, 0) : Lo)) (seg := zLo.toList) (j := 0) h (i : Int) (by omega) (by omega) hcl (by rw [Int.toNat_natCast]; exact hcc) (by decide) (by
      rw [List.take_zero, List.nil_append, List.drop_eq_nil_of_le (by rw [hcl3]; decide), List.append_nil]
      exact ⟨[_], _, rfl, rfl, [_], [_], rfl, rfl, rfl⟩) (fun _ hk => hk.elim)
    rw [Int.toNat_natCast] at h2 hg
    rw [show i * kLo.sz + 0 = i * 3 from rfl] at h2 hg
    obtain ⟨ys, h3, h4, hg2⟩ := row_zeros m (i + 1) h2 (by omega)
    rw [zeros_succ, setCells_append, show i * 3 + zLo.toList.length = (i + 1) * 3 by rw [Nat.succ_mul]; rfl]
    refine ⟨ys, h3, ?_, hg.trans hg2⟩
    have h5 := congrArg (List.take i) h4
    rw [List.take_take, Nat.min_eq_left (by omega), List.take_take, Nat.min_eq_left (by omega), List.take_set_of_le (by omega)] at h5
    exact h5
end Go.Proofs.Ytkgbimkjpllakaa.Ld
