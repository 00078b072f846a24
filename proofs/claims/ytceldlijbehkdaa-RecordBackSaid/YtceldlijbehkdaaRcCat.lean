/- slices.Grow, slices.Concat: two rows of bytes. -/
import Derived.Test.YtceldlijbehkdaaBase
import Derived.Test.YtceldlijbehkdaaWZeros
import Derived.Lib.AppendZeros
set_option linter.unusedVariables false
set_option linter.unusedSimpArgs false
namespace Go.Proofs.Ytceldlijbehkdaa.Rc
open Go.RowKit Go.Proofs.YtceldlijbehkdaaW.PrintWords Go.Proofs.Ytceldlijbehkdaa.B
set_option maxRecDepth 100000 in
set_option maxHeartbeats 800000 in
theorem grow_any (n : Nat) (w : World) (hn : n ≤ 140737488355328) :
    Calls Try.prog 80 #[.slice none 0 0, .int .i64 n] w (Made w []) := by
  by_cases h0 : n = 0
  · subst h0
    go_enter Try.func80, Try.ntmps80
    go_wp2
    go_ret
    exact ⟨_, rfl, Own.nil _ _, Below.refl _ _⟩
  · have hpos : (0 : Int) < (n : Int) := by omega
    obtain ⟨i0, hi0, hs⟩ := infoU8'
    have hcut0 : ∀ W : World, (Instr.slice 22 (.slice none 0 0) none (some (.int .i64 0)) none).run Try.prog W = .ok (.slice none 0 0) W := fun W => cut_to (P := Try.prog) 22 5 .i64 undB hi0 none 0 0 0 (by decide) (by decide) (by decide) W
    have HCUT := Lib.hid (fun (A : Option Addr) (c : Nat) (hc : n ≤ c) (W : World) => cut_to (P := Try.prog) 22 5 .i64 undB hi0 A n c 0 (by decide) (by omega) hc W)
    have HZ := Lib.hid (show u8.M w w.heap.size (fun _ => False) (0 : UInt8) [.int .u8 0] from rfl)
    clear h0 hs
    go_enter Try.func80, Try.ntmps80
    go_wp2_with (at_builtin; refine Kd.R_append_zeros u8 (w0 := w) w.heap.size rfl (.tmp 20) (.tmp 21) 22 3 5 _ _ rfl undB (k := .i64) Try.underlying3 infoU8 rfl (by decide) (by decide) (.slice none 0 0) [] (0 : UInt8) (n : Int) (fun _ => True) rfl rfl HZ.out (fun _ _ => trivial) (Own.nil _ _) (by omega) (Below.refl _ _) (Nat.le_refl _) (by simpa using hn) ?_; intro v1 w1 hN hB _ _; rw [List.nil_append] at hN; obtain ⟨A1, c1, rfl, hc1, -⟩ := Kd.R_reads hN; have HN := Lib.hid hN; have HB := Lib.hid hB; rw [List.length_replicate, Int.toNat_natCast] at *; have hct := HCUT.out A1 c1 hc1; clear hN hB)
    go_ret
    exact ⟨_, rfl, (by have h := Kd.R_take (m := 0) HN.out (by simp); rw [List.take_zero] at h; exact h), HB.out⟩
def cl (x1 x2 : List UInt8) (k : Nat) : List UInt8 := if k = 0 then [] else if k = 1 then x1 else x1 ++ x2
def cz (n1 n2 : Nat) (k : Nat) : Nat := if k = 0 then 0 else if k = 1 then n1 else n1 + n2
set_option maxRecDepth 100000 in
set_option maxHeartbeats 1600000 in
theorem concat_any (g : Nat) (t : TypeId) (A1 A2 : Option Addr) (c1 c2 : Nat) (x1 x2 : List UInt8) (w : World) (hg : w.heap[g]? = some (.cells #[.slice A1 x1.length c1, .slice A2 x2.length c2] t (0, 0)))
    (h1 : Rd w A1 x1) (h2 : Rd w A2 x2) (hl : x1.length + x2.length ≤ 140737488355328) :
    Calls Try.prog 73 #[.slice (some ⟨g, 0, none⟩) 2 2] w (Made w (x1 ++ x2)) := by
  have HG := Lib.hid hg
  have c0 : w.cell? ⟨g, 0, none⟩ = some (.slice A1 x1.length c1) := blk_cell hg 0
  have c1' : w.cell? ⟨g, 1, none⟩ = some (.slice A2 x2.length c2) := blk_cell hg 1
  have H1 := Lib.hid h1
  have H2 := Lib.hid h2
  have HGR := Lib.hid (show Calls Try.prog 80 #[.slice none 0 0, .int .i64 ((x1.length : Int) + (x2.length : Int))] w _ from by have h := grow_any (x1.length + x2.length) w hl; rwa [Int.natCast_add] at h)
  clear hg h1 h2
  go_enter Try.func73, Try.ntmps73
  go_wp2_with fail
  go_loop [3, 11] (fun sz i => ∃ k : Nat, k ≤ 2 ∧ i = .int .i64 k ∧ sz = .int .i64 (cz x1.length x2.length k)) (fun _ i => 2 - (intOf i).toNat)
  case atStart => exact ⟨0, by omega, rfl, rfl⟩
  case round =>
    obtain ⟨k, hk, rfl, rfl⟩ := hrel
    rcases (show k = 0 ∨ k = 1 ∨ k = 2 by omega) with rfl | rfl | rfl
    · rw [show cz x1.length x2.length 0 = 0 from rfl]
      go_wp2_with fail
      go_round
      case rel => exact ⟨1, by omega, by go_num, by rw [show cz x1.length x2.length 1 = x1.length from rfl] <;> go_num⟩
      case measure => simp [intOf]
    · rw [show cz x1.length x2.length 1 = x1.length from rfl]
      go_wp2_with fail
      go_round
      case rel => exact ⟨2, by omega, by go_num, by rw [show cz x1.length x2.length 2 = x1.length + x2.length from rfl] <;> go_num⟩
      case measure => simp [intOf]
    · rw [show cz x1.length x2.length 2 = x1.length + x2.length from rfl]
      go_wp2_with fail
      refine HGR.out.mono ?_
      rintro e w1 ⟨v0, rfl, hN, hB⟩
      obtain ⟨Av0, cv0, rfl, -, -⟩ := Kd.R_reads hN
      have HN0 := Lib.hid hN
      have HB0 := Lib.hid hB
      clear hN hB
      go_wp2_with fail
      go_loopw [6, 27] (fun v i wr => ∃ (k : Nat) (Av : Option Addr) (nv cv : Nat), k ≤ 2 ∧ i = .int .i64 k ∧ v = .slice Av nv cv ∧ Hid (Own wr w.heap.size (.slice Av nv cv) (cl x1 x2 k)) ∧ Hid (Below w.heap.size w wr)) (fun _ i _ => 2 - (intOf i).toNat)
      case atStart => exact ⟨0, Av0, _, cv0, by omega, rfl, rfl, HN0, HB0⟩
      case round =>
        obtain ⟨k, Av, nv, cv, hk, rfl, rfl, HNk, HBk⟩ := hrel
        have HGk := Lib.hid (show wr.heap[g]? = some (.cells #[.slice A1 x1.length c1, .slice A2 x2.length c2] t (0, 0)) from blk_below HG.out HBk.out)
        have d0 : wr.cell? ⟨g, 0, none⟩ = some (.slice A1 x1.length c1) := blk_cell HGk.out 0
        have d1 : wr.cell? ⟨g, 1, none⟩ = some (.slice A2 x2.length c2) := blk_cell HGk.out 1
        have R1 := Lib.hid (H1.out.below HBk.out)
        have R2 := Lib.hid (H2.out.below HBk.out)
        have hl1 : ([] : List UInt8).length + x1.length ≤ 140737488355328 := by simp; omega
        rcases (show k = 0 ∨ k = 1 ∨ k = 2 by omega) with rfl | rfl | rfl
        · go_wp2_with (at_builtin; refine appRow (w0 := w) w.heap.size rfl (.tmp 31) (.tmp 32) rfl (.slice Av nv cv) [] x1 A1 x1.length c1 rfl rfl rfl HNk.out R1.out HBk.out HBk.out.size hl1 ?_; intro v1 w1 hN hB _ _; obtain ⟨Av1, cv1, rfl, -, -⟩ := Kd.R_reads hN; have HN1 := Lib.hid hN; have HB1 := Lib.hid hB; clear hN hB)
          go_roundw
          case rel => exact ⟨1, Av1, _, cv1, by omega, by go_num, rfl, HN1, HB1⟩
          case measure => simp [intOf]
        · go_wp2_with (at_builtin; refine appRow (w0 := w) w.heap.size rfl (.tmp 31) (.tmp 32) rfl (.slice Av nv cv) x1 x2 A2 x2.length c2 rfl rfl rfl HNk.out R2.out HBk.out HBk.out.size hl ?_; intro v1 w1 hN hB _ _; obtain ⟨Av1, cv1, rfl, -, -⟩ := Kd.R_reads hN; have HN1 := Lib.hid hN; have HB1 := Lib.hid hB; clear hN hB)
          go_roundw
          case rel => exact ⟨2, Av1, _, cv1, by omega, by go_num, rfl, Lib.hid (by rw [← List.length_append]; exact HN1.out), HB1⟩
          case measure => simp [intOf]
        · go_wp2_with fail
          go_ret
          exact ⟨_, rfl, HNk.out, HBk.out⟩
end Go.Proofs.Ytceldlijbehkdaa.Rc
