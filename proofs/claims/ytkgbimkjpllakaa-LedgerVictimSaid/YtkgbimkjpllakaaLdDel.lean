/- slices.DeleteFunc of loads by Victim's closure. -/
import Derived.Test.YtkgbimkjpllakaaLdNum
set_option linter.unusedVariables false
set_option linter.unusedSimpArgs false
namespace Go.Proofs.Ytkgbimkjpllakaa.Ld
open Go.RowKit Go.Proofs.YtkgbimkjpllakaaW.PrintWords Go.Proofs.Ytkgbimkjpllakaa.B Go.Proofs.Ytkgbimkjpllakaa.O Go.Proofs.Ytkgbimkjpllakaa.Sc

theorem lo_getElem {l : List Lo} {k : Nat} (h : k < l.length) : lo l k = l[k] := by unfold lo; rw [List.getD_eq_getElem?_getD, List.getElem?_eq_getElem h]; rfl
theorem keep_none {p : Lo → Bool} {l : List Lo} {k : Nat} (hk : k ≤ l.length) (h : ∀ j, j < k → p (lo l j) = false) : (l.take k).filter (fun x => !p x) = l.take k := by
  rw [List.filter_eq_self]
  intro x hx
  obtain ⟨j, hj, rfl⟩ := List.getElem_of_mem hx
  rw [List.length_take] at hj
  have := h j (by omega)
  rw [lo_getElem (by omega)] at this
  rw [List.getElem_take, this]; rfl
theorem keep_step {p : Lo → Bool} {l xs : List Lo} {a b : Nat} (hb : b < l.length) (h : xs.take a = (l.take b).filter (fun x => !p x)) (hp : p (lo l b) = true) : xs.take a = (l.take (b + 1)).filter (fun x => !p x) := by
  rw [List.take_succ_eq_append_getElem hb, List.filter_append, ← h]
  rw [lo_getElem hb] at hp
  simp [hp]
theorem keep_put {p : Lo → Bool} {l xs : List Lo} {a b : Nat} (hb : b < l.length) (ha : a < xs.length) (h : xs.take a = (l.take b).filter (fun x => !p x)) (hp : p (lo l b) = false) : (xs.set a (lo l b)).take (a + 1) = (l.take (b + 1)).filter (fun x => !p x) := by
  rw [List.take_succ_eq_append_getElem hb, List.filter_append, ← h, List.take_succ_eq_append_getElem (by rw [List.length_set]; exact ha), List.take_set_of_le (Nat.le_refl _), List.getElem_set_self]
  rw [lo_getElem hb] at hp ⊢
  simp [hp]
/-- what is left, in the row itself -/
def DelE (l : List Lo) (base : Nat) (w : World) (e : Ending) (w' : World) : Prop := ∃ v, e = .returned v ∧ OwnL w' base v l ∧ Below base w w'
set_option maxRecDepth 100000 in
set_option maxHeartbeats 800000 in
theorem del0_any (A : Option Addr) (c : Nat) (l : List Lo) (base : Nat) (gn gf gl : Nat) (An : Option Addr) (cn : Nat) (n : List Int64) (lim : Nat) (w : World) (hlim : lim < 18446744073709551616) (h : Held gn gf gl An cn n lim w) (hbase : base ≤ w.heap.size) (ho : OwnL w base (.slice A l.length c) l) (hall : ∀ j, j < l.length → delB n lim (lo l j) = false) :
    Calls Try.prog 51 #[.slice A l.length c, .func (.func 53) #[] #[.pointer (some ⟨gn, 0, none⟩), .pointer (some ⟨gf, 0, none⟩), .pointer (some ⟨gl, 0, none⟩)]] w (DelE l base w) := by
  have HI := Lib.hid (idx_any A c l gn gf gl An cn n lim w hlim h (Kd.R_reads' ho).2.2)
  have HO := Lib.hid ho
  have HA := Lib.hid hall
  generalize delB n lim = p at *
  clear h ho hall
  go_enter Try.func51, Try.ntmps51
  go_wp2_with fail
  refine HI.out.mono ?_
  rintro e w1 ⟨r, rfl, hr, hb⟩
  obtain rfl : r = -1 := by
    rcases hr with ⟨h1, -⟩ | ⟨k, -, h2, h3, -⟩
    · exact h1
    · rw [HA.out k h2] at h3; cases h3
  have HO1 := Lib.hid (show OwnL w1 base (.slice A l.length c) l from Kd.R_below HO.out hb)
  have HB := Lib.hid (show Below base w w1 from below_then (Below.refl base w) hbase hb)
  clear hr hb
  go_wp2_with fail
  go_ret
  exact ⟨_, rfl, HO1.out, HB.out⟩
end Go.Proofs.Ytkgbimkjpllakaa.Ld
