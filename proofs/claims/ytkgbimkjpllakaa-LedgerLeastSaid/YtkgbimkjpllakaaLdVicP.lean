/- ledger: rows of shares. -/
import Derived.Test.YtkgbimkjpllakaaLdVic
set_option linter.unusedVariables false
set_option linter.unusedSimpArgs false
namespace Go.Proofs.Ytkgbimkjpllakaa.Ld
open Go.RowKit Go.Proofs.YtkgbimkjpllakaaW.PrintWords Go.Proofs.Ytkgbimkjpllakaa.B Go.Proofs.Ytkgbimkjpllakaa.O Go.Proofs.Ytkgbimkjpllakaa.Sc
def encF (x : UInt64) : Value := .float .f64 x.toNat
def OwnF (w : World) (base : Nat) (v : Value) (l : List UInt64) : Prop := O.f64.R 50 w base (fun _ => True) v l
theorem OwnF.nil (w : World) (base : Nat) : OwnF w base (.slice none 0 0) [] := Kd.R_nil O.f64 50 w base _
theorem infoF : (Try.prog.info? 50).map (fun i => (i.zero, i.size, i.bytes)) = some (some (.float .f64 0), 1, 8) := by kernel_rfl
theorem undF : Try.prog.underlying 79 = some (.slice 50) := Try.underlying79
section
variable {ops : Array Oper} {rest : List Oper} {o : Oper} {a : Act} {Q : Exit → Act → World → Prop} {w0 W : World}
theorem appF (base : Nat) (hgd : o.guard = none) (s x : Operand) (ho : o.op = .call { callee := .builtin .append, args := #[s, x], argTypes := #[79, 79] })
    (v : Value) (xs : List UInt64) (p : UInt64) (n : Nat) (hs : a.eval s = v) (hx : a.eval x = .slice (some ⟨W.heap.size, 0, none⟩) 1 1) (hp : n = p.toNat) (HO : OwnF W base v xs) (HB : Below base w0 W) (hbase : base ≤ W.heap.size) (hl : (xs.length + 1) * 8 ≤ 140737488355328)
    (h : ∀ v1 w1, OwnF w1 base v1 (xs ++ [p]) → Below base w0 w1 → wpList Try.prog ops Q rest (a.put o.dst v1) w1) :
    wpList Try.prog ops Q (o :: rest) a (W.alloc (.cells #[.float .f64 n] 50)) := by
  subst hp
  exact Kd.R_append O.f64 base hgd s x 79 50 _ 8 ho undF infoF rfl (by decide) (by decide) v xs p [encF p] (fun _ => True) (fun k => some k ≠ v.ownBlock) hs hx rfl (fun k hk => ⟨trivial, hk⟩) (fun _ _ => trivial) HO HB hbase hl (fun v1 w1 h1 h2 _ _ => h v1 w1 h1 h2)
end
/-- the shares of loads -/
def shL (m : List Lo) : List UInt64 := m.map (fun x => UInt64.ofNat (shN x))
theorem shL_len (m : List Lo) : (shL m).length = m.length := by simp [shL]
theorem ft_shL {m : List Lo} {j : Nat} (hj : j < m.length) (h : shN (lo m j) < 18446744073709551616) : ft (shL m) j = shN (lo m j) := by
  unfold ft shL
  rw [List.getD_eq_getElem?_getD, List.getElem?_map, List.getElem?_eq_getElem hj]
  rw [lo_getElem hj] at h ⊢
  simp; omega
theorem shL_snoc {m : List Lo} {k : Nat} (hk : k < m.length) : shL (m.take (k + 1)) = shL (m.take k) ++ [UInt64.ofNat (shN (lo m k))] := by
  rw [List.take_succ_eq_append_getElem hk, lo_getElem hk]; unfold shL; rw [List.map_append]; rfl
theorem shN_lt {n : List Int64} {lim : Nat} {x : Lo} (h : delB n lim x = false) : shN x < 18446744073709551616 := by
  unfold delB belowB at h
  rw [Bool.or_eq_false_iff] at h
  obtain ⟨-, h⟩ := h
  unfold shN
  cases hq : floatBits .quo .f64 (floatOfInt .f64 x.2.2.toInt) (floatOfInt .f64 x.2.1.toInt) with
  | none => simp
  | some r => exact quo_lt hq
theorem vic_of {m : List Lo} {r : Int} (hlt : ∀ j, j < m.length → shN (lo m j) < 18446744073709551616) (h : IsLeast (shL m) r) : (m = [] ∧ r = -1) ∨ ∃ k : Nat, r = k ∧ k < m.length ∧ IsVic m (lo m k).1.toInt := by
  rcases h with ⟨h1, h2⟩ | ⟨k, hk, hkl, h1, h2⟩
  · refine .inl ⟨?_, h2⟩
    have := congrArg List.length h1
    rw [shL_len] at this
    exact List.eq_nil_of_length_eq_zero this
  · rw [shL_len] at hkl h1
    refine .inr ⟨k, hk, hkl, .inr ⟨k, hkl, rfl, fun j hj => ?_, fun j hj => ?_⟩⟩
    · have := h1 j hj
      rwa [ft_shL hkl (hlt k hkl), ft_shL hj (hlt j hj)] at this
    · have := h2 j hj
      rwa [ft_shL hkl (hlt k hkl), ft_shL (by omega) (hlt j (by omega))] at this
end Go.Proofs.Ytkgbimkjpllakaa.Ld
