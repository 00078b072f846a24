/- coder: the reader's closures. -/
import Derived.Test.YteeemiacibjaoaaCoR
set_option linter.unusedVariables false
set_option linter.unusedSimpArgs false
namespace Go.Proofs.Yteeemiacibjaoaa.Co
open Go.RowKit Go.Proofs.YteeemiacibjaoaaW.PrintWords Go.Proofs.Yteeemiacibjaoaa.B Go.Proofs.Yteeemiacibjaoaa.Fx Go.Proofs.Yteeemiacibjaoaa.Fr

set_option maxRecDepth 100000 in
set_option maxHeartbeats 400000 in
theorem seq1_any (at' g r o : Nat) (A : Option Addr) (c : Nat) (l : List UInt8) (u : Value) (w : World) (hl : l.length ≤ 140737488355328) (hc : l.length ≤ c) (hr : Rd w A l)
    (hg : w.heap[g]? = some (.cells #[.slice A l.length c, .int .i64 at', .int .i64 0] 110 (0, 0))) (hbr : w.heap[r]? = some (.cells #[.pointer (some ⟨g, 0, none⟩)] 65 (0, 0))) (hbo : w.heap[o]? = some (.cells #[u] 23 (0, 0))) :
    Calls Try.prog 90 #[.int .i64 at', .pointer (some ⟨r, 0, none⟩), .pointer (some ⟨o, 0, none⟩)] w (ClosD (V.tEnd l at') (V.tErr l at') (fun W => W = w.setCell ⟨o, 0, none⟩ (.int .u64 (V.tNum l at')))) := by
  have HT := Lib.hid (Vr.take_any A c l at' w hl hc hr)
  unfold Vr.tV at HT
  have hcg := fun i => blk_cell hg i
  have hcr := fun i => blk_cell hbr i
  have hco := fun i => blk_cell hbo i
  have hfo := fun i => blk_frozen hbo i
  have hz := blk_lt hg
  have hz1 := blk_lt hbr
  have hz2 := blk_lt hbo
  clear hg hbr hbo hr
  generalize V.tEnd l at' = te at *
  generalize V.tErr l at' = tr at *
  generalize V.tNum l at' = tn at *
  go_enter Try.func90, Try.ntmps90
  go_wp2_with fail
  refine HT.out.mono ?_
  rintro e w1 ⟨rfl, rfl⟩
  go_wp2_with fail
  go_ret2
  exact ⟨rfl, rfl⟩
set_option maxRecDepth 100000 in
set_option maxHeartbeats 400000 in
theorem text1_any (at' g r o : Nat) (A : Option Addr) (c : Nat) (l : List UInt8) (u : Value) (w : World) (hl : l.length ≤ 140737488355328) (hc : l.length ≤ c) (hr : Rd w A l)
    (hg : w.heap[g]? = some (.cells #[.slice A l.length c, .int .i64 at', .int .i64 0] 110 (0, 0))) (hbr : w.heap[r]? = some (.cells #[.pointer (some ⟨g, 0, none⟩)] 65 (0, 0))) (hbo : w.heap[o]? = some (.cells #[u] 9 (0, 0))) :
    Calls Try.prog 91 #[.int .i64 at', .pointer (some ⟨r, 0, none⟩), .pointer (some ⟨o, 0, none⟩)] w (ClosD (textEnd l at') (if textOk l at' = true then 0 else 4) (fun W => W = if textOk l at' = true then w.setCell ⟨o, 0, none⟩ (.string (textS l at')) else w)) := by
  have HT := Lib.hid (takeText_any A c l at' w hl hc hr)
  have HE := Lib.hid (fun h : textOk l at' = false => (show textEnd l at' = 0 by unfold textEnd; rw [h]; rfl))
  unfold textV at HT
  have hcg := fun i => blk_cell hg i
  have hcr := fun i => blk_cell hbr i
  have hco := fun i => blk_cell hbo i
  have hfo := fun i => blk_frozen hbo i
  have hz := blk_lt hg
  have hz1 := blk_lt hbr
  have hz2 := blk_lt hbo
  clear hg hbr hbo hr
  generalize textEnd l at' = te at *
  generalize textOk l at' = tr at *
  generalize textS l at' = tn at *
  cases tr
  · obtain rfl := HE.out rfl
    go_enter Try.func91, Try.ntmps91
    go_wp2_with fail
    refine HT.out.mono ?_
    rintro e w1 ⟨rfl, rfl⟩
    go_wp2_with fail
    go_ret2
    exact ⟨rfl, rfl⟩
  · clear HE
    go_enter Try.func91, Try.ntmps91
    go_wp2_with fail
    refine HT.out.mono ?_
    rintro e w1 ⟨rfl, rfl⟩
    go_wp2_with fail
    go_ret2
    exact ⟨rfl, rfl⟩
/-- a number read: what is wrong -/
def numErr (l : List UInt8) (at' : Nat) (most : Int) : Nat := if V.tErr l at' ≠ 0 then V.tErr l at' else if most < 0 ∨ most < (V.tNum l at' : Int) then 20 else 0
def numEnd (l : List UInt8) (at' : Nat) (most : Int) : Int := if numErr l at' most = 0 then V.tEnd l at' else 0
set_option maxRecDepth 100000 in
set_option maxHeartbeats 400000 in
theorem num1_any (at' g r m o : Nat) (most : Int) (A : Option Addr) (c : Nat) (l : List UInt8) (u : Value) (w : World) (hl : l.length ≤ 140737488355328) (hm : -9223372036854775808 ≤ most ∧ most ≤ 9223372036854775807) (hc : l.length ≤ c) (hr : Rd w A l)
    (hg : w.heap[g]? = some (.cells #[.slice A l.length c, .int .i64 at', .int .i64 0] 110 (0, 0))) (hbr : w.heap[r]? = some (.cells #[.pointer (some ⟨g, 0, none⟩)] 65 (0, 0))) (hbm : w.heap[m]? = some (.cells #[.int .i64 most] 3 (0, 0))) (hbo : w.heap[o]? = some (.cells #[u] 3 (0, 0))) :
    Calls Try.prog 85 #[.int .i64 at', .pointer (some ⟨r, 0, none⟩), .pointer (some ⟨m, 0, none⟩), .pointer (some ⟨o, 0, none⟩)] w (ClosD (numEnd l at' most) (numErr l at' most) (fun W => W = if numErr l at' most = 0 then w.setCell ⟨o, 0, none⟩ (.int .i64 (V.tNum l at')) else w)) := by
  have HT := Lib.hid (Vr.take_any A c l at' w hl hc hr)
  obtain ⟨ne, hne⟩ : ∃ ne, numErr l at' most = ne := ⟨_, rfl⟩
  obtain ⟨nn, hnn⟩ : ∃ nn, numEnd l at' most = nn := ⟨_, rfl⟩
  have hq1 := hne
  have hq2 := hnn
  unfold numErr at hq1
  unfold numEnd at hq2
  rw [hne] at hq2 ⊢
  rw [hnn]
  unfold Vr.tV at HT
  have hcg := fun i => blk_cell hg i
  have hcr := fun i => blk_cell hbr i
  have hcm := fun i => blk_cell hbm i
  have hco := fun i => blk_cell hbo i
  have hfo := fun i => blk_frozen hbo i
  have hz := blk_lt hg
  have hz1 := blk_lt hbr
  have hz2 := blk_lt hbo
  have hz3 := blk_lt hbm
  clear hg hbr hbo hbm hr hne hnn
  generalize V.tEnd l at' = te at *
  generalize V.tErr l at' = tr at *
  generalize V.tNum l at' = tn at *
  by_cases h1 : tr = 0
  · subst h1
    rw [if_neg (by simp)] at hq1
    by_cases h2 : most < 0
    · rw [if_pos (.inl h2)] at hq1
      subst hq1
      rw [if_neg (by decide)] at hq2
      subst hq2
      have hq : decide (most < 0) = true := by simpa using h2
      go_enter Try.func85, Try.ntmps85
      go_wp2_with fail
      refine HT.out.mono ?_
      rintro e w1 ⟨rfl, rfl⟩
      go_wp2_with fail
      go_ret2
      exact ⟨rfl, rfl⟩
    · obtain ⟨mm, rfl⟩ := Int.eq_ofNat_of_zero_le (show 0 ≤ most by omega)
      have hq : decide ((mm : Int) < 0) = false := by simp
      have hw : IntKind.u64.wrap (mm : Int) = (mm : Int) := IntWalk.u64_in _ (by omega)
      by_cases h3 : (mm : Int) < tn
      · rw [if_pos (.inr h3)] at hq1
        subst hq1
        rw [if_neg (by decide)] at hq2
        subst hq2
        clear h2
        go_enter Try.func85, Try.ntmps85
        go_wp2_with fail
        refine HT.out.mono ?_
        rintro e w1 ⟨rfl, rfl⟩
        go_wp2_with fail
        go_ret2
        exact ⟨rfl, rfl⟩
      · rw [if_neg (by omega)] at hq1
        subst hq1
        rw [if_pos rfl] at hq2
        subst hq2
        have hw2 : IntKind.i64.wrap (tn : Int) = (tn : Int) := IntWalk.i64_in _ (by omega)
        clear h2
        go_enter Try.func85, Try.ntmps85
        go_wp2_with fail
        refine HT.out.mono ?_
        rintro e w1 ⟨rfl, rfl⟩
        go_wp2_with fail
        go_ret2
        exact ⟨rfl, rfl⟩
  · rw [if_pos h1] at hq1
    subst hq1
    rw [if_neg h1] at hq2
    subst hq2
    have hq : ((tr : Int) == 0) = false := by simpa using h1
    have H1 := Lib.hid h1
    clear h1
    go_enter Try.func85, Try.ntmps85
    go_wp2_with fail
    refine HT.out.mono ?_
    rintro e w1 ⟨rfl, rfl⟩
    go_wp2_with fail
    go_ret2
    exact ⟨rfl, rfl⟩
end Go.Proofs.Yteeemiacibjaoaa.Co
