/- slices.Grow, slices.Concat: two rows of changes. -/
import Derived.Test.YtkgbimkjpllakaaInoK
import Derived.Lib.AppendZeros
set_option linter.unusedVariables false
set_option linter.unusedSimpArgs false
namespace Go.Proofs.Ytkgbimkjpllakaa.InC
open Go.RowKit Go.Proofs.YtkgbimkjpllakaaW.PrintWords Go.Proofs.Ytkgbimkjpllakaa.B Go.Proofs.Ytkgbimkjpllakaa.O Go.Proofs.Ytkgbimkjpllakaa.Wr Go.Proofs.Ytkgbimkjpllakaa.In
theorem zeroE (W : World) : Kd.FK (kWr) W (fun _ => False) ((false, 0, [])) [.bool false, .int .i64 0, .slice none 0 0] := fun W' _ => by exact ⟨[_], _, rfl, rfl, [_], [_], rfl, rfl, none, 0, rfl, Nat.le_refl _, Kd.C_nil u8 W'⟩
set_option maxRecDepth 100000 in
set_option maxHeartbeats 800000 in
theorem grow_any (n : Nat) (w : World) (hn : n * 40 ≤ 140737488355328) (hn2 : n ≤ 140737488355328) :
    Calls Try.prog 64 #[.slice none 0 0, .int .i64 n] w (fun e w' => ∃ v, e = .returned v ∧ Kd.N (kWr) 26 w' w.heap.size (fun k => w.heap.size ≤ k) v [] ∧ Below w.heap.size w w') := by
  by_cases h0 : n = 0
  · subst h0
    go_enter Try.func64, Try.ntmps64
    go_wp2
    go_ret
    exact ⟨_, rfl, Kd.N_nil _ _ _ _ _, Below.refl _ _⟩
  · have hpos : (0 : Int) < (n : Int) := by omega
    obtain ⟨i0, hi0, hzz⟩ := Option.map_eq_some_iff.1 infoWr
    have hcut0 : ∀ W : World, (Instr.slice 23 (.slice none 0 0) none (some (.int .i64 0)) none).run Try.prog W = .ok (.slice none 0 0) W := fun W => cut_to (P := Try.prog) 23 26 .i64 undWr hi0 none 0 0 0 (by decide) (by decide) (by decide) W
    have hcut := fun (A : Option Addr) (c : Nat) (hc : n ≤ c) (W : World) => cut_to (P := Try.prog) 23 26 .i64 undWr hi0 A n c 0 (by decide) (by omega) hc W
    have HCUT := Lib.hid hcut
    have HZ := Lib.hid (zeroE w)
    clear h0 hcut hzz
    go_enter Try.func64, Try.ntmps64
    go_wp2_with (at_builtin; refine Kd.N_append_zeros (kWr) (w0 := w) w.heap.size rfl (.tmp 20) (.tmp 21) 23 3 26 _ _ rfl undWr (k := .i64) Try.underlying3 infoWr rfl (by decide) (by decide) (.slice none 0 0) [] ((false, 0, [])) (n : Int) (fun k => w.heap.size ≤ k) rfl rfl HZ.out (fun _ h => h) (Kd.N_nil _ _ _ _ _) (by omega) (Below.refl _ _) (Nat.le_refl _) (by simpa using hn) ?_; intro v1 w1 hN hB _ _; rw [List.nil_append] at hN; obtain ⟨A1, c1, rfl, hc1, -⟩ := Kd.N_reads hN; have HN := Lib.hid hN; have HB := Lib.hid hB; rw [List.length_replicate, Int.toNat_natCast] at *; have hct := HCUT.out A1 c1 hc1; clear hN hB)
    go_ret
    exact ⟨_, rfl, by have h := Kd.N_take (m := 0) HN.out (by simp); simpa using h, HB.out⟩
def cl (x1 x2 : List (Wt)) (k : Nat) : List (Wt) := if k = 0 then [] else if k = 1 then x1 else x1 ++ x2
def cz (n1 n2 : Nat) (k : Nat) : Nat := if k = 0 then 0 else if k = 1 then n1 else n1 + n2
set_option maxRecDepth 100000 in
set_option maxHeartbeats 1600000 in
theorem concat_any (g : Nat) (t : TypeId) (A1 A2 : Option Addr) (c1 c2 : Nat) (x1 x2 : List (Wt)) (w : World) (ok : Nat → Prop) (hg : w.heap[g]? = some (.cells #[.slice A1 x1.length c1, .slice A2 x2.length c2] t (0, 0)))
    (h1 : Kd.F (kWr) w ok A1 x1.length x1) (h2 : Kd.F (kWr) w ok A2 x2.length x2) (hl : (x1.length + x2.length) * 40 ≤ 140737488355328) :
    Calls Try.prog 60 #[.slice (some ⟨g, 0, none⟩) 2 2] w (fun e w' => ∃ A c, e = .returned (.slice A (x1 ++ x2).length c) ∧ (x1 ++ x2).length ≤ c ∧ Kd.F (kWr) w' (fun k => ok k ∨ w.heap.size ≤ k) A (x1 ++ x2).length (x1 ++ x2) ∧ Below w.heap.size w w') := by
  have hl2 : x1.length + x2.length ≤ 140737488355328 := by omega
  have HG := Lib.hid hg
  have c0 : w.cell? ⟨g, 0, none⟩ = some (.slice A1 x1.length c1) := blk_cell hg 0
  have c1' : w.cell? ⟨g, 1, none⟩ = some (.slice A2 x2.length c2) := blk_cell hg 1
  have H1 := Lib.hid h1
  have H2 := Lib.hid h2
  have HGR := Lib.hid (show Calls Try.prog 64 #[.slice none 0 0, .int .i64 ((x1.length : Int) + (x2.length : Int))] w _ from by have h := grow_any (x1.length + x2.length) w hl hl2; rwa [Int.natCast_add] at h)
  have HLL := Lib.hid hl
  clear hg h1 h2 hl
  go_enter Try.func60, Try.ntmps60
  go_wp2_with fail
  go_loop [3, 11] (fun sz i => ∃ k : Nat, k ≤ 2 ∧ i = .int .i64 k ∧ sz = .int .i64 (cz x1.length x2.length k)) (fun _ i => 2 - (intOf i).toNat)
  case atStart => exact ⟨0, by omega, rfl, rfl⟩
  case round =>
    obtain ⟨k, hk, rfl, rfl⟩ := hrel
    rcases (show k = 0 ∨ k = 1 ∨ k = 2 by omega) with rfl | rfl | rfl
    · rw [show cz x1.length x2.length 0 = 0 from rfl]
      go_wp2_with fail
      go_round
      case rel => exact ⟨1, by omega, by go_num, by rw [show cz x1.length x2.length 1 = x1.length from rfl] <;> go_num⟩
      case measure => simp [intOf]
    · rw [show cz x1.length x2.length 1 = x1.length from rfl]
      go_wp2_with fail
      go_round
      case rel => exact ⟨2, by omega, by go_num, by rw [show cz x1.length x2.length 2 = x1.length + x2.length from rfl] <;> go_num⟩
      case measure => simp [intOf]
    · rw [show cz x1.length x2.length 2 = x1.length + x2.length from rfl]
      go_wp2_with fail
      refine HGR.out.mono ?_
      rintro e w1 ⟨v0, rfl, hN, hB⟩
      obtain ⟨Av0, cv0, rfl, -, -⟩ := Kd.N_reads hN
      have HN0 := Lib.hid (Kd.N_mono hN (ok' := fun k => ok k ∨ w.heap.size ≤ k) (fun k hk => .inr hk))
      have HB0 := Lib.hid hB
      have HLL1 := Lib.hid (show x1.length * 40 ≤ 140737488355328 by have := HLL.out; omega)
      clear hN hB
      go_wp2_with fail
      go_loopw [6, 27] (fun v i wr => ∃ (k : Nat) (Av : Option Addr) (nv cv : Nat), k ≤ 2 ∧ i = .int .i64 k ∧ v = .slice Av nv cv ∧ Hid (Kd.N (kWr) 26 wr w.heap.size (fun k => ok k ∨ w.heap.size ≤ k) (.slice Av nv cv) (cl x1 x2 k)) ∧ Hid (Below w.heap.size w wr)) (fun _ i _ => 2 - (intOf i).toNat)
      case atStart => exact ⟨0, Av0, _, cv0, by omega, rfl, rfl, HN0, HB0⟩
      case round =>
        obtain ⟨k, Av, nv, cv, hk, rfl, rfl, HNk, HBk⟩ := hrel
        have HGk := Lib.hid (show wr.heap[g]? = some (.cells #[.slice A1 x1.length c1, .slice A2 x2.length c2] t (0, 0)) from blk_below HG.out HBk.out)
        have d0 : wr.cell? ⟨g, 0, none⟩ = some (.slice A1 x1.length c1) := blk_cell HGk.out 0
        have d1 : wr.cell? ⟨g, 1, none⟩ = some (.slice A2 x2.length c2) := blk_cell HGk.out 1
        have HOKP := Lib.hid (fun (k' : Nat) (hk' : ok k' ∧ k' < w.heap.size) => (show (ok k' ∨ w.heap.size ≤ k') ∧ some k' ≠ (Value.slice Av nv cv).ownBlock from ⟨.inl hk'.1, fun he => by have := Kd.N_base HNk.out k' he.symm; omega⟩))
        have HFR := Lib.hid (fun (k' : Nat) (hk' : wr.heap.size ≤ k') => (show ok k' ∨ w.heap.size ≤ k' from .inr (Nat.le_trans HBk.out.size hk')))
        rcases (show k = 0 ∨ k = 1 ∨ k = 2 by omega) with rfl | rfl | rfl
        · go_wp2_with (at_builtin; refine Kd.N_append_rows (kWr) (w0 := w) w.heap.size rfl (.tmp 31) (.tmp 32) 23 26 _ _ rfl undWr infoWr rfl (by decide) (by decide) (.slice Av nv cv) ([]) (x1) A1 x1.length c1 (fun k => ok k ∨ w.heap.size ≤ k) (fun k => ok k ∧ k < w.heap.size) rfl rfl HNk.out (Kd.F_step (Kd.F_bound H1.out) (fun k' hk' hlt => HBk.out.block k' hk'.2)) HOKP.out HFR.out HBk.out HBk.out.size (by have := HLL1.out; simpa using this) ?_; intro v1 w1 hN hB _ _; obtain ⟨Av1, cv1, rfl, -, -⟩ := Kd.N_reads hN; have HN1 := Lib.hid hN; have HB1 := Lib.hid hB; clear hN hB)
          go_roundw
          case rel => exact ⟨1, Av1, _, cv1, by omega, by go_num, rfl, HN1, HB1⟩
          case measure => simp [intOf]
        · go_wp2_with (at_builtin; refine Kd.N_append_rows (kWr) (w0 := w) w.heap.size rfl (.tmp 31) (.tmp 32) 23 26 _ _ rfl undWr infoWr rfl (by decide) (by decide) (.slice Av nv cv) (x1) (x2) A2 x2.length c2 (fun k => ok k ∨ w.heap.size ≤ k) (fun k => ok k ∧ k < w.heap.size) rfl rfl HNk.out (Kd.F_step (Kd.F_bound H2.out) (fun k' hk' hlt => HBk.out.block k' hk'.2)) HOKP.out HFR.out HBk.out HBk.out.size HLL.out ?_; intro v1 w1 hN hB _ _; obtain ⟨Av1, cv1, rfl, -, -⟩ := Kd.N_reads hN; have HN1 := Lib.hid hN; have HB1 := Lib.hid hB; clear hN hB)
          go_roundw
          case rel => exact ⟨2, Av1, _, cv1, by omega, by go_num, rfl, Lib.hid (by rw [← List.length_append]; exact HN1.out), HB1⟩
          case measure => simp [intOf]
        · go_wp2_with fail
          go_ret
          obtain ⟨e1, e2, e3⟩ := Kd.N_reads' HNk.out
          subst e1
          exact ⟨Av, cv, rfl, e2, Kd.N_F HNk.out, HBk.out⟩
end Go.Proofs.Ytkgbimkjpllakaa.InC
