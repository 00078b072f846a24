/- stillageref01.PutText. -/
import Derived.Test.YteeemiacibjaoaaPutB
set_option linter.unusedVariables false
set_option linter.unusedSimpArgs false
namespace Go.Proofs.Yteeemiacibjaoaa.R01
open Go.RowKit Go.Proofs.YteeemiacibjaoaaW.PrintWords Go.Proofs.Yteeemiacibjaoaa.B Go.Proofs.Yteeemiacibjaoaa.Fx

set_option maxRecDepth 100000 in
set_option maxHeartbeats 400000 in
theorem putText_any (A : Option Addr) (c : Nat) (l : List UInt8) (s : ByteArray) (w : World) (hl : l.length + s.size ≤ 140737488355000) (hr : Rd w A l) :
    Calls Try.prog 67 #[.slice A l.length c, .string s] w (Made2 w (putTextL l s.data.toList) (decide (s.size ≤ 255))) := by
  have HR := Lib.hid hr
  clear hr
  have hsz : s.data.toList.length = s.size := by simp
  have hb64 : (s.size : Int) ≤ 140737488355000 := by omega
  by_cases h1 : s.size ≤ 255
  · have HL := Lib.hid (show putTextL l s.data.toList = l ++ [UInt8.ofNat s.size] ++ s.data.toList by unfold putTextL; rw [if_pos (by omega), hsz])
    have HN := Lib.hid (show ((s.size : Int) % 256) = ((UInt8.ofNat s.size).toNat : Int) by simp)
    have HN' := Lib.hid (show (s.size : Int) = ((UInt8.ofNat s.size).toNat : Int) by simp; omega)
    have HSZ := Lib.hid hsz
    have h1' : ¬ (256 : Int) ≤ (s.size : Int) := by omega
    clear hsz
    have hlb : l.length + 1 ≤ 140737488355328 := by omega
    obtain ⟨x, hx⟩ : ∃ x, x = l ++ [UInt8.ofNat s.size] := ⟨_, rfl⟩
    have hxl : x.length ≤ l.length + 1 := by rw [hx, List.length_append]; simp
    have HX := Lib.hid hx
    clear hx
    go_enter Try.func67, Try.ntmps67
    go_wp2_with (first
      | (at_builtin; refine appRow (w0 := w) w.heap.size rfl (.const (.slice none 0 0)) (.tmp 8) rfl _ [] l A l.length c rfl rfl rfl (Own.nil _ _) HR.out (Below.refl _ _) (Nat.le_refl _) (by simp; omega) ?_; intro v2 w2 hown hb _ _; rw [List.nil_append] at hown; have HO := Lib.hid hown; have HB := Lib.hid hb; clear hown hb)
      | (at_builtin; refine app1 (w0 := w) w.heap.size rfl (.tmp 14) (.tmp 18) rfl _ l (UInt8.ofNat s.size) _ rfl rfl (by first | exact HN.out | exact HN'.out) HO.out HB.out HB.out.size hlb ?_; intro v3 w3 hown hb _ _; rw [← HX.out] at hown; have HO3 := Lib.hid hown; have HB3 := Lib.hid hb; clear hown hb))
    go_loopw [6, 7] (fun v i wr => ∃ k : Nat, k ≤ s.size ∧ i = .int .i64 k ∧ Hid (Own wr w.heap.size v (x ++ s.data.toList.take k)) ∧ Hid (Below w.heap.size w wr)) (fun _ i _ => s.size - (intOf i).toNat)
    case atStart => exact ⟨0, by omega, rfl, by simpa using HO3, HB3⟩
    case round =>
      obtain ⟨k, hk, rfl, HOk, HBk⟩ := hrel
      by_cases hlt : k < s.size
      · have HE := Lib.hid (show (x ++ s.data.toList.take k) ++ [s[k]] = x ++ s.data.toList.take (k + 1) by
          rw [List.append_assoc, List.take_succ_eq_append_getElem (by simpa using hlt)]; rfl)
        have hkl : (x ++ s.data.toList.take k).length + 1 ≤ 140737488355328 := by
          rw [List.length_append, List.length_take]; omega
        go_wp2_with (at_builtin; go_loud (refine app1 (w0 := w) w.heap.size rfl (.tmp 26) (.tmp 30) rfl _ (x ++ s.data.toList.take k) s[k] _ rfl rfl rfl HOk.out HBk.out HBk.out.size hkl ?_); intro v4 w4 hown hb _ _; rw [HE.out] at hown; have HO4 := Lib.hid hown; have HB4 := Lib.hid hb; clear hown hb)
        go_roundw
        case rel => exact ⟨k + 1, by omega, by go_num, HO4, HB4⟩
        case measure => simp [intOf]; omega
      · obtain rfl : k = s.size := by omega
        have HF := Lib.hid (show x ++ s.data.toList.take s.size = putTextL l s.data.toList by
          rw [HL.out, HX.out, List.take_of_length_le (by rw [HSZ.out]; exact Nat.le_refl _)])
        go_wp2
        go_ret2
        exact ⟨_, by rw [decide_eq_true h1]; rfl, (by rw [← HF.out]; exact HOk.out), HBk.out⟩
  · have HL := Lib.hid (show putTextL l s.data.toList = l by unfold putTextL; rw [if_neg (by omega)])
    have h1' : (256 : Int) ≤ (s.size : Int) := by omega
    go_enter Try.func67, Try.ntmps67
    go_wp2_with (at_builtin; refine appRow (w0 := w) w.heap.size rfl (.const (.slice none 0 0)) (.tmp 8) rfl _ [] l A l.length c rfl rfl rfl (Own.nil _ _) HR.out (Below.refl _ _) (Nat.le_refl _) (by simp; omega) ?_; intro v2 w2 hown hb _ _; rw [List.nil_append] at hown; have HO := Lib.hid hown; have HB := Lib.hid hb; clear hown hb)
    go_ret2
    exact ⟨v2, by rw [decide_eq_false h1]; rfl, by rw [HL.out]; exact HO.out, HB.out⟩
end Go.Proofs.Yteeemiacibjaoaa.R01
