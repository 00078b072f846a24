/- writes: the walks of Survive's closure, through, Survive. -/
import Derived.Test.YtkgbimkjpllakaaWrThru
import Derived.Test.YtkgbimkjpllakaaCut
set_option linter.unusedVariables false
set_option linter.unusedSimpArgs false
namespace Go.Proofs.Ytkgbimkjpllakaa.Wr
open Go.RowKit Go.Proofs.YtkgbimkjpllakaaW.PrintWords Go.Proofs.Ytkgbimkjpllakaa.B

/-- the end: a change of these parts, and a truth -/
def Chg (cu : Bool) (off : Int) (A : Option Addr) (n c : Nat) (b : Bool) (w : World) : Ending → World → Prop := Kept (.tuple #[.agg #[.bool cu, .int .i64 off, .slice A n c], .bool b]) w
theorem box3 (w : World) (cu : Bool) (off : Int) (A : Option Addr) (n c : Nat) (o : Obj) : ((w.alloc o).alloc (.cells #[.bool cu, .int .i64 off, .slice A n c] 26)).heap[w.heap.size + 1]? = some (.cells #[.bool cu, .int .i64 off, .slice A n c] 26 (0, 0)) := by
  have := blk_new (w.alloc o) (.cells #[.bool cu, .int .i64 off, .slice A n c] 26); simpa using this
set_option maxRecDepth 100000 in
set_option maxHeartbeats 800000 in
theorem surv1_no (k : Nat) (cu : Bool) (off : Int) (A : Option Addr) (c : Nat) (d : List UInt8) (g : Nat) (A3 : Option Addr) (c3 : Nat) (ch : List UInt8) (w : World) (hk : k ≤ 9223372036854775807) (hd : d.length ≤ 9223372036854775807) (ho : -9223372036854775808 ≤ off ∧ off ≤ 9223372036854775807)
    (hg : w.cell? ⟨g, 0, none⟩ = some (.slice A3 ch.length c3)) (hr : Rd w A3 ch) (hno : ch.length ≤ k ∨ ch.getD k 0 = 0 ∨ rightB off d.length = false) :
    Calls Try.prog 46 #[.int .i64 k, .agg #[.bool cu, .int .i64 off, .slice A d.length c], .pointer (some ⟨g, 0, none⟩)] w (Chg cu off A d.length c false w) := by
  have HR := Lib.hid hr
  have hgl : g < w.heap.size := World.block_lt_of_cell? w _ hg
  have hcl : ch.length ≤ 9223372036854775807 := hr.len
  have HRT := Lib.hid (fun (W : World) => right_any cu off A c d W hd ho)
  clear hr
  by_cases h1 : ch.length ≤ k
  · go_enter Try.func46, Try.ntmps46
    go_wp2
    refine bodyPost_ret_by (results_ct rfl _ _ (w.heap.size + 1) _ #[.bool cu, .int .i64 off, .slice A d.length c] (0, 0) _ rfl (box3 _ _ _ _ _ _ _) Try.underlying26 rfl infoWrite) rfl ?_
    exact ⟨rfl, below_alloc (below_alloc (Below.refl _ _) _) _⟩
  · have h1' : k < ch.length := by omega
    obtain ⟨ad, rfl, -⟩ := HR.out.at_ k h1'
    have hc := fun o o' => (HR.out.below (below_alloc (below_alloc (Below.refl _ _) o) o')).cell k h1'
    by_cases h2 : ch.getD k 0 = 0
    · have hq : B.bt ch k = 0 := by unfold B.bt; rw [h2]; rfl
      simp only [hq] at hc
      clear hq h2 hno
      go_enter Try.func46, Try.ntmps46
      go_wp2
      refine bodyPost_ret_by (results_ct rfl _ _ (w.heap.size + 1) _ #[.bool cu, .int .i64 off, .slice A d.length c] (0, 0) _ rfl (box3 _ _ _ _ _ _ _) Try.underlying26 rfl infoWrite) rfl ?_
      exact ⟨rfl, below_alloc (below_alloc (Below.refl _ _) _) _⟩
    · have hrt : rightB off d.length = false := by
        rcases hno with h | h | h
        · exact absurd h h1
        · exact absurd h h2
        · exact h
      have hq : (B.bt ch k == 0) = false := by
        unfold B.bt; simp only [beq_eq_false_iff_ne, ne_eq]; intro h
        exact h2 (UInt8.toNat_inj.1 (by simpa using h))
      rw [hrt] at HRT
      clear hno h2 hrt
      go_enter Try.func46, Try.ntmps46
      go_wp2_with fail
      refine (HRT.out _).mono ?_
      rintro e w1 ⟨rfl, hb⟩
      have HB := Lib.hid (below_then (below_alloc (below_alloc (Below.refl _ _) _) _) (by simp <;> omega) hb)
      have HG := Lib.hid (blk_below (blk_alloc (blk_new w (.cells #[.bool cu, .int .i64 off, .slice A d.length c] 26)) _) hb)
      have HG2 := Lib.hid (show w1.heap[w.heap.size + 1]? = some (.cells #[.bool false, .int .i64 0, .slice none 0 0] 26 (0, 0)) from blk_below (by have := blk_new (w.alloc (.cells #[.bool cu, .int .i64 off, .slice A d.length c] 26)) (.cells #[.bool false, .int .i64 0, .slice none 0 0] 26); simpa using this) hb)
      have hcc := fun i => blk_cell HG.out i
      have hcc2 := fun i => blk_cell HG2.out i
      have hff2 := fun i => blk_frozen HG2.out i
      clear hb
      go_wp2_with fail
      refine bodyPost_ret_by (results_ct rfl _ _ (w.heap.size + 1) _ _ (0, 0) _ rfl (blk_set (blk_set (blk_set HG2.out 0 _) 1 _) 2 _) Try.underlying26 rfl infoWrite) rfl ?_
      exact ⟨rfl, below_set (below_set (below_set HB.out (by omega)) (by omega)) (by omega)⟩
set_option maxRecDepth 100000 in
set_option maxHeartbeats 800000 in
theorem surv1_yes (k : Nat) (cu : Bool) (off : Int) (A : Option Addr) (c : Nat) (d : List UInt8) (g : Nat) (A3 : Option Addr) (c3 : Nat) (ch : List UInt8) (x : UInt8) (hx : ch.getD k 0 = x) (w : World) (hk : k ≤ 9223372036854775807) (hdc : d.length ≤ c) (ho : -9223372036854775808 ≤ off ∧ off ≤ 9223372036854775807)
    (hg : w.cell? ⟨g, 0, none⟩ = some (.slice A3 ch.length c3)) (hr : Rd w A3 ch) (hrd : Rd w A d) (h1' : k < ch.length) (h2 : x ≠ 0) (h3 : rightB off d.length = true) :
    Calls Try.prog 46 #[.int .i64 k, .agg #[.bool cu, .int .i64 off, .slice A d.length c], .pointer (some ⟨g, 0, none⟩)] w (Chg cu off A (someL x d).length c true w) := by
  have HR := Lib.hid hr
  have hgl : g < w.heap.size := World.block_lt_of_cell? w _ hg
  have hcl : ch.length ≤ 9223372036854775807 := hr.len
  have hd := right_of h3
  have HRT := Lib.hid (fun (W : World) => right_any cu off A c d W (by omega) ho)
  rw [h3] at HRT
  clear hr h3
  obtain ⟨ad, rfl, -⟩ := HR.out.at_ k h1'
  have hc := fun o o' => (HR.out.below (below_alloc (below_alloc (Below.refl _ _) o) o')).cell k h1'
  obtain ⟨q, hq⟩ : ∃ q, x.toNat = q := ⟨_, rfl⟩
  have hqb : B.bt ch k = (q : Int) := by unfold B.bt; rw [hx, hq]
  have hq0 : ((q : Int) == 0) = false := by
    simp only [beq_eq_false_iff_ne, ne_eq]; intro h
    exact h2 (UInt8.toNat_inj.1 (by rw [hq]; simpa using h))
  have hqu : q ≤ 255 := by have := x.toNat_lt; omega
  clear hx
  simp only [hqb] at hc
  by_cases ht : q < 255 ∧ q < d.length
  · obtain ⟨y, hy, hcut, -, -, hyl⟩ := cutTo (A := A) (l := d) (c := c) (q : Int) (by omega) (by omega) hdc
    have HS := Lib.hid (show (someL x d).length = y.length by
      unfold someL; rw [hq, if_pos ht, hy.out, Int.toNat_natCast])
    have HQ := Lib.hid hqb
    have ht1 : (q : Int) < 255 := by omega
    have ht2 : (q : Int) < (d.length : Int) := by omega
    clear hq hy hyl h2 ht hrd
    · have hqb := HQ.out
      go_enter Try.func46, Try.ntmps46
      go_wp2_with fail
      refine (HRT.out _).mono ?_
      rintro e w1 ⟨rfl, hb⟩
      have HB := Lib.hid (below_then (below_alloc (below_alloc (Below.refl _ _) _) _) (by simp <;> omega) hb)
      have HG := Lib.hid (blk_below (blk_alloc (blk_new w (.cells #[.bool cu, .int .i64 off, .slice A d.length c] 26)) _) hb)
      have HG2 := Lib.hid (show w1.heap[w.heap.size + 1]? = some (.cells #[.bool false, .int .i64 0, .slice none 0 0] 26 (0, 0)) from blk_below (by have := blk_new (w.alloc (.cells #[.bool cu, .int .i64 off, .slice A d.length c] 26)) (.cells #[.bool false, .int .i64 0, .slice none 0 0] 26); simpa using this) hb)
      have hcc := fun i => blk_cell HG.out i
      have hff := fun i => blk_frozen HG.out i
      have hcc2 := fun i => blk_cell HG2.out i
      have hff2 := fun i => blk_frozen HG2.out i
      have hc1 : w1.cell? ⟨g, 0, none⟩ = some (.slice (some ad) ch.length c3) := pw_cell_below hb (by rw [World.cell?_alloc_past _ _ _ (by simp; omega), World.cell?_alloc_past _ _ _ hgl]; exact hg)
      have hc3 := (HR.out.below HB.out).cell k h1'
      rw [hqb] at hc3
      clear hb
      clear hqb
      go_wp2_with fail
      refine bodyPost_ret_by (results_ct rfl _ _ (w.heap.size + 1) _ _ (0, 0) _ rfl (blk_set (blk_set (blk_set (blk_far HG2.out (by simp) _) 0 _) 1 _) 2 _) Try.underlying26 rfl infoWrite) rfl ?_
      exact ⟨by rw [HS.out]; rfl, below_set (below_set (below_set (below_set HB.out (by omega)) (by omega)) (by omega)) (by omega)⟩
  · have HS := Lib.hid (show (someL x d).length = d.length by
      unfold someL; rw [hq, if_neg ht])
    have HQ := Lib.hid hqb
    have hcase : ¬ (q : Int) < 255 ∨ ((q : Int) < 255 ∧ ¬ (q : Int) < (d.length : Int)) := by omega
    clear hq h2 ht hrd
    rcases hcase with ht1 | ⟨ht1, ht2⟩
    all_goals
      have hqb := HQ.out
      go_enter Try.func46, Try.ntmps46
      go_wp2_with fail
      refine (HRT.out _).mono ?_
      rintro e w1 ⟨rfl, hb⟩
      have HB := Lib.hid (below_then (below_alloc (below_alloc (Below.refl _ _) _) _) (by simp <;> omega) hb)
      have HG := Lib.hid (blk_below (blk_alloc (blk_new w (.cells #[.bool cu, .int .i64 off, .slice A d.length c] 26)) _) hb)
      have HG2 := Lib.hid (show w1.heap[w.heap.size + 1]? = some (.cells #[.bool false, .int .i64 0, .slice none 0 0] 26 (0, 0)) from blk_below (by have := blk_new (w.alloc (.cells #[.bool cu, .int .i64 off, .slice A d.length c] 26)) (.cells #[.bool false, .int .i64 0, .slice none 0 0] 26); simpa using this) hb)
      have hcc := fun i => blk_cell HG.out i
      have hff := fun i => blk_frozen HG.out i
      have hcc2 := fun i => blk_cell HG2.out i
      have hff2 := fun i => blk_frozen HG2.out i
      have hc1 : w1.cell? ⟨g, 0, none⟩ = some (.slice (some ad) ch.length c3) := pw_cell_below hb (by rw [World.cell?_alloc_past _ _ _ (by simp; omega), World.cell?_alloc_past _ _ _ hgl]; exact hg)
      have hc3 := (HR.out.below HB.out).cell k h1'
      rw [hqb] at hc3
      clear hb
      clear hqb
      go_wp2_with fail
      refine bodyPost_ret_by (results_ct rfl _ _ (w.heap.size + 1) _ _ (0, 0) _ rfl (blk_set (blk_set (blk_set HG2.out 0 _) 1 _) 2 _) Try.underlying26 rfl infoWrite) rfl ?_
      exact ⟨by rw [HS.out]; rfl, below_set (below_set (below_set HB.out (by omega)) (by omega)) (by omega)⟩
end Go.Proofs.Ytkgbimkjpllakaa.Wr
