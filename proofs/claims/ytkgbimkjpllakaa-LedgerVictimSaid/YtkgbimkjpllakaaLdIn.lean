/- ledger: slices.Index, slices.Contains of ints; the document's in. -/
import Derived.Test.YtkgbimkjpllakaaLdLst
set_option linter.unusedVariables false
set_option linter.unusedSimpArgs false
namespace Go.Proofs.Ytkgbimkjpllakaa.Ld
open Go.RowKit Go.Proofs.YtkgbimkjpllakaaW.PrintWords Go.Proofs.Ytkgbimkjpllakaa.B Go.Proofs.Ytkgbimkjpllakaa.O

/-- ints that are read -/
def RdI (w : World) (A : Option Addr) (l : List Int64) : Prop := O.i64.C w A l.length l
def it (l : List Int64) (i : Nat) : Int := (l.getD i 0).toInt
theorem RdI.len {w : World} {A : Option Addr} {l : List Int64} (h : RdI w A l) : l.length ≤ 9223372036854775807 := h.2.1
theorem RdI.below {w w1 : World} {A : Option Addr} {l : List Int64} (h : RdI w A l) (hb : Below w.heap.size w w1) : RdI w1 A l := Kd.C_below h hb
theorem RdI.at_ {w : World} {A : Option Addr} {l : List Int64} (h : RdI w A l) (i : Nat) (hi : i < l.length) : ∃ ad, A = some ad ∧ w.cell? (ad.add i) = some (.int .i64 (it l i)) := by
  obtain ⟨ad, h1, h2⟩ := ReadsOf.at_ (Kd.reads_of_C (enc := fun x : Int64 => Value.int .i64 x.toInt) (d := (0 : Int64)) (h1 := fun _ => rfl) h) i (by omega) (by omega)
  exact ⟨ad, h1, by simpa [rdOf, it] using h2⟩
/-- is a number in a list? -/
def inB (l : List Int64) (v : Int) : Bool := l.any (fun x => x.toInt == v)
theorem inB_yes {l : List Int64} {v : Int} {k : Nat} (hk : k < l.length) (h : it l k = v) : inB l v = true := by
  unfold inB
  rw [List.any_eq_true]
  refine ⟨l[k], List.getElem_mem _, ?_⟩
  unfold it at h
  rw [List.getD_eq_getElem?_getD, List.getElem?_eq_getElem hk] at h
  simpa using h
theorem inB_no {l : List Int64} {v : Int} (h : ∀ k, k < l.length → it l k ≠ v) : inB l v = false := by
  unfold inB
  rw [List.any_eq_false]
  intro x hx
  obtain ⟨k, hk, rfl⟩ := List.getElem_of_mem hx
  have := h k hk
  unfold it at this
  rw [List.getD_eq_getElem?_getD, List.getElem?_eq_getElem hk] at this
  simpa using this
/-- a place, or -1 -/
def Found (l : List Int64) (v : Int) (w : World) (e : Ending) (w' : World) : Prop := ∃ r : Int, e = .returned (.int .i64 r) ∧ -1 ≤ r ∧ r ≤ 9223372036854775807 ∧ decide (0 ≤ r) = inB l v ∧ w' = w
set_option maxRecDepth 100000 in
set_option maxHeartbeats 400000 in
theorem index_any (A : Option Addr) (c : Nat) (l : List Int64) (v : Int) (w : World) (hr : RdI w A l) :
    Calls Try.prog 62 #[.slice A l.length c, .int .i64 v] w (Found l v w) := by
  have HR := Lib.hid hr
  have hl := hr.len
  clear hr
  go_enter Try.func62, Try.ntmps62
  go_wp2
  go_loop [8] (fun i => ∃ k : Nat, k ≤ l.length ∧ i = .int .i64 k ∧ Hid (∀ j, j < k → it l j ≠ v)) (fun i => l.length - (intOf i).toNat)
  case atStart => exact ⟨0, by omega, rfl, fun j hj => by omega⟩
  case round =>
    obtain ⟨k, hk, rfl, HK⟩ := hrel
    by_cases hlt : k < l.length
    · obtain ⟨ad, rfl, hc⟩ := HR.out.at_ k hlt
      by_cases hx : it l k = v
      · have HS := Lib.hid (inB_yes hlt hx)
        have hx' : (v == it l k) = true := by simp [hx]
        clear hx
        go_wp2
        go_ret
        exact ⟨k, rfl, by omega, by omega, by rw [HS.out]; simp, rfl⟩
      · have HK2 := Lib.hid (show ∀ j, j < k + 1 → it l j ≠ v from fun j hj => by
          rcases Nat.lt_or_ge j k with h | h
          · exact HK.out j h
          · rw [show j = k by omega]; exact hx)
        have hx' : (v == it l k) = false := by rw [beq_eq_false_iff_ne]; exact fun h => hx h.symm
        clear hx
        go_wp2
        go_round
        case rel => exact ⟨k + 1, by omega, by go_num, HK2⟩
        case measure => simp [intOf]; omega
    · obtain rfl : k = l.length := by omega
      have HS := Lib.hid (inB_no HK.out)
      go_wp2
      go_ret
      exact ⟨-1, rfl, by omega, by omega, by rw [HS.out]; rfl, rfl⟩
set_option maxRecDepth 100000 in
theorem contains_any (A : Option Addr) (c : Nat) (l : List Int64) (v : Int) (w : World) (hr : RdI w A l) :
    Calls Try.prog 54 #[.slice A l.length c, .int .i64 v] w (Quiet (.bool (inB l v)) w) := by
  have HI := Lib.hid (index_any A c l v w hr)
  clear hr
  go_enter Try.func54, Try.ntmps54
  go_wp2_with fail
  refine HI.out.mono ?_
  rintro e w1 ⟨r, rfl, h1, h2, h3, hw⟩
  rw [hw]
  have H3 := Lib.hid h3
  clear h3 hw
  go_wp2_with fail
  go_ret
  exact ⟨ret_eq (by rw [← H3.out]; rfl), 0, rfl⟩
set_option maxRecDepth 100000 in
set_option maxHeartbeats 400000 in
theorem refin_any (A : Option Addr) (c : Nat) (l : List Int64) (v : Int) (w : World) (hr : RdI w A l) :
    Calls Try.prog 57 #[.slice A l.length c, .int .i64 v] w (Quiet (.bool (inB l v)) w) := by
  have HR := Lib.hid hr
  have hl := hr.len
  clear hr
  go_enter Try.func57, Try.ntmps57
  go_wp2
  go_loop [5] (fun i => ∃ k : Nat, k ≤ l.length ∧ i = .int .i64 k ∧ Hid (∀ j, j < k → it l j ≠ v)) (fun i => l.length - (intOf i).toNat)
  case atStart => exact ⟨0, by omega, rfl, fun j hj => by omega⟩
  case round =>
    obtain ⟨k, hk, rfl, HK⟩ := hrel
    by_cases hlt : k < l.length
    · obtain ⟨ad, rfl, hc⟩ := HR.out.at_ k hlt
      by_cases hx : it l k = v
      · have HS := Lib.hid (inB_yes hlt hx)
        have hx' : (it l k == v) = true := by simp [hx]
        clear hx
        go_wp2
        go_ret
        exact ⟨ret_eq (by rw [HS.out]; rfl), 0, rfl⟩
      · have HK2 := Lib.hid (show ∀ j, j < k + 1 → it l j ≠ v from fun j hj => by
          rcases Nat.lt_or_ge j k with h | h
          · exact HK.out j h
          · rw [show j = k by omega]; exact hx)
        have hx' : (it l k == v) = false := by rw [beq_eq_false_iff_ne]; exact hx
        clear hx
        go_wp2
        go_round
        case rel => exact ⟨k + 1, by omega, by go_num, HK2⟩
        case measure => simp [intOf]; omega
    · obtain rfl : k = l.length := by omega
      have HS := Lib.hid (inB_no HK.out)
      go_wp2
      go_ret
      exact ⟨ret_eq (by rw [HS.out]; rfl), 0, rfl⟩
end Go.Proofs.Ytkgbimkjpllakaa.Ld
