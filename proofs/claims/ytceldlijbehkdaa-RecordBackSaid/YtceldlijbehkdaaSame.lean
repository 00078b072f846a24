/- stillageref01.Same (for seats without Fixed). -/
import Derived.Test.YtceldlijbehkdaaBase
import Derived.BigQuiet
set_option linter.unusedVariables false
set_option linter.unusedSimpArgs false
namespace Go.Proofs.Ytceldlijbehkdaa.R01
open Go.RowKit Go.Proofs.YtceldlijbehkdaaW.PrintWords Go.Proofs.Ytceldlijbehkdaa.B

def sameB (a b : List UInt8) : Bool := decide (a = b)
theorem take_snoc_eq {a b : List UInt8} {k : Nat} (ha : k < a.length) (hb : k < b.length) (h : a.take k = b.take k) (hx : B.bt a k = B.bt b k) : a.take (k + 1) = b.take (k + 1) := by
  rw [List.take_succ_eq_append_getElem ha, List.take_succ_eq_append_getElem hb, h]
  congr 2
  have : (a.getD k 0).toNat = (b.getD k 0).toNat := by unfold B.bt at hx; omega
  simp [ha, hb] at this
  exact UInt8.toNat_inj.1 this
theorem sameB_ne {a b : List UInt8} {k : Nat} (ha : k < a.length) (hb : k < b.length) (hx : B.bt a k ≠ B.bt b k) : sameB a b = false := by
  unfold sameB; simp only [decide_eq_false_iff_not]
  rintro rfl; exact hx rfl
set_option maxHeartbeats 400000 in
theorem same_any (A : Option Addr) (c : Nat) (a : List UInt8) (A' : Option Addr) (c' : Nat) (b : List UInt8) (w : World) (hl : a.length ≤ 140737488355328) (hr : Rd w A a) (hr' : Rd w A' b) :
    Calls Try.prog 21 #[.slice A a.length c, .slice A' b.length c'] w (Quiet (.bool (sameB a b)) w) := by
  have HR := Lib.hid hr
  have HR' := Lib.hid hr'
  clear hr hr'
  by_cases h1 : a.length = b.length
  · have HL := Lib.hid h1
    have h1' : ((a.length : Int) != b.length) = false := by simp [h1]
    have hle1 : a.length ≤ b.length := by omega
    have hle2 : b.length ≤ a.length := by omega
    clear h1
    go_enter Try.func21, Try.ntmps21
    go_wp2
    go_loopw [5] (fun i wr => ∃ k n : Nat, k ≤ a.length ∧ i = .int .i64 k ∧ Hid (a.take k = b.take k) ∧ wr = w.drewN n) (fun i _ => a.length - (intOf i).toNat)
    case atStart => exact ⟨0, 0, by omega, rfl, rfl, rfl⟩
    case round =>
      obtain ⟨k, n, hk, rfl, HK, rfl⟩ := hrel
      by_cases hlt : k < a.length
      · obtain ⟨ad, rfl, hc⟩ := HR.out.at_ k hlt
        obtain ⟨ad', rfl, hc'⟩ := HR'.out.at_ k (by omega)
        have hk2 : k < b.length := by omega
        go_wp2
        go_quiet (fail)
        rw [World.drewN_drewN]
        by_cases hx : B.bt a k = B.bt b k
        · have HK2 := Lib.hid (take_snoc_eq hlt hk2 HK.out hx)
          have hx' : (B.bt a k != B.bt b k) = false := by simp [hx]
          clear hx
          go_wp2
          go_roundw
          case rel => exact ⟨k + 1, _, by omega, by go_num, HK2, rfl⟩
          case measure => simp [intOf]; omega
        · have HS := Lib.hid (sameB_ne hlt hk2 hx)
          have hx' : (B.bt a k != B.bt b k) = true := by simp [hx]
          clear hx
          go_wp2
          go_ret
          exact ⟨ret_eq (by rw [HS.out]; rfl), _, rfl⟩
      · obtain rfl : k = a.length := by omega
        have HS := Lib.hid (show sameB a b = true by have := HK.out; rw [HL.out, List.take_length] at this; rw [← HL.out, List.take_length] at this; simpa [sameB] using this)
        go_wp2
        go_ret
        exact ⟨ret_eq (by rw [HS.out]; rfl), n, rfl⟩
  · have HS := Lib.hid (show sameB a b = false by unfold sameB; simp only [decide_eq_false_iff_not]; rintro rfl; exact h1 rfl)
    have h1' : ((a.length : Int) != b.length) = true := by simp; omega
    clear h1
    go_enter Try.func21, Try.ntmps21
    go_wp2
    go_ret
    exact ⟨ret_eq (by rw [HS.out]; rfl), 0, rfl⟩
end Go.Proofs.Ytceldlijbehkdaa.R01
