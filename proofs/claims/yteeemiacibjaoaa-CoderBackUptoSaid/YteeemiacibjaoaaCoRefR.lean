/- stillageref23: Read, End. -/
import Derived.Test.YteeemiacibjaoaaCoNew
import Derived.Test.YteeemiacibjaoaaBox
import Derived.Test.YteeemiacibjaoaaCrcRefSum
import Derived.Test.YteeemiacibjaoaaRefPut
import Derived.Test.YteeemiacibjaoaaSame
set_option linter.unusedVariables false
set_option linter.unusedSimpArgs false
namespace Go.Proofs.Yteeemiacibjaoaa.Co
open Go.RowKit Go.Proofs.YteeemiacibjaoaaW.PrintWords Go.Proofs.Yteeemiacibjaoaa.B Go.Proofs.Yteeemiacibjaoaa.Fx Go.Proofs.Yteeemiacibjaoaa.Fr

def refL (m l : List UInt8) : List UInt8 := if newE m l = 0 then (l.take (l.length - 4)).drop m.length else []
def RefRd (A0 : Option Addr) (x0 x : List UInt8) (er : Nat) (w : World) (e : Ending) (w' : World) : Prop := ∃ A c, e = .returned (.agg #[.slice A x.length c, .int .i64 er]) ∧ x.length ≤ c ∧ (∀ W, Rd W A0 x0 → Rd W A x) ∧ Below w.heap.size w w'
theorem infoRd : (Try.prog.info? 70).map (·.size) = some 2 := by kernel_rfl
theorem same_putB {s : Nat} (hs : s < 4294967296) {z : List UInt8} (hz : z.length = 4) : R01.sameB (putB s 4) z = decide (le z = s) := by
  unfold R01.sameB
  congr 1
  rw [eq_iff_iff]
  constructor
  · rintro rfl; rw [le_putB]; exact Nat.mod_eq_of_lt hs
  · intro h; rw [← h]; exact putB_of hz
theorem pre_take {l m : List UInt8} {n : Nat} (h : m.length ≤ n) (hn : n ≤ l.length) : Lib.hasPrefix (l.take n) m = decide (l.take m.length = m) := by
  unfold Lib.hasPrefix
  rw [Bool.eq_iff_iff, List.isPrefixOf_iff_prefix, decide_eq_true_iff, List.prefix_iff_eq_take, List.take_take, Nat.min_eq_left h]
  exact ⟨fun h => h.symm, fun h => h.symm⟩
set_option maxRecDepth 100000 in
set_option maxHeartbeats 800000 in
theorem refread_any (s : ByteArray) (A : Option Addr) (c : Nat) (l : List UInt8) (w : World) (hs : s.size ≤ 16000000) (hl : l.length ≤ 16000000) (hc : l.length ≤ c) (hr : Rd w A l) :
    Calls Try.prog 39 #[.string s, .slice A l.length c] w (RefRd A l (refL s.data.toList l) (newE s.data.toList l) w) := by
  have h3 : s.data.toList.length = s.size := by rw [Array.length_toList]; rfl
  have HR := Lib.hid hr
  by_cases h1 : l.length < s.size + 4
  · have e3 : newE s.data.toList l = 4 := if_pos (by omega)
    have e4 : refL s.data.toList l = [] := by unfold refL; rw [e3]; rfl
    rw [e3, e4]
    clear e3 e4 h3 hr
    go_enter Try.func39, Try.ntmps39
    go_wp2_with fail
    refine bodyPost_ret_by (results_cell_row rfl _ _ w.heap.size _ _ (0, 0) _ rfl (blk_new w _) Try.underlying70 rfl infoRd) rfl ?_
    exact ⟨none, 0, rfl, Nat.le_refl _, fun _ _ => Rd.nil _, below_alloc (Below.refl _ _) _⟩
  · obtain ⟨n, hn⟩ : ∃ n, l.length - 4 = n := ⟨_, rfl⟩
    obtain ⟨y, hy, hcut, hrd, hyc, hyl⟩ := cutTo (A := A) (l := l) (c := c) (n : Int) (by omega) (by omega) hc
    obtain ⟨Z, z, cz, hz, hcutz, hrdz, hzc, hzl⟩ := cutF (A := A) (l := l) (c := c) (n : Int) (by omega) (by omega) hc
    obtain ⟨x, hx, hcutx, hrdx, hxc, hxl⟩ := cutTo (A := A) (l := l) (c := c) (s.size : Int) (by omega) (by omega) hc
    obtain ⟨D, d, cd, hd, hcutd, hrdd, hdc, hdl⟩ := cutM (A := A) (l := l) (c := c) (s.size : Int) (n : Int) (by omega) (by omega) (by omega) hc
    rw [Int.toNat_natCast] at hy hyl hz hzl hx hxl hd hdl
    rw [Int.toNat_natCast] at hd hdl
    have hzl4 : z.length = 4 := by omega
    have htk := (takeN_at (l := l) (p := n) (k := 4) (by omega) (by omega) (by omega)).2
    rw [← hz.out, List.take_of_length_le (by omega)] at htk
    have hpre := pre_take (l := l) (m := s.data.toList) (n := n) (by omega) (by omega)
    rw [h3, ← hx.out] at hpre
    have hcs := csum_lt y
    have HSB := Lib.hid (same_putB hcs hzl4)
    have HNE := Lib.hid (show newE s.data.toList l = if le z ≠ csum y then 5 else if decide (x = s.data.toList) = true then 0 else 3 by
      unfold newE; rw [if_neg (by omega), hn, show takeN l (n : Int) 4 = le z from htk, ← hy.out, ← hpre, ← hy.out])
    have HRL := Lib.hid (show refL s.data.toList l = if newE s.data.toList l = 0 then d else [] by
      unfold refL; rw [hn, h3, ← hd.out])
    have HSUM := Lib.hid (fun (W : World) (h : Rd W A y) => (show Calls Try.prog 52 #[.slice A y.length c] W (Kept (.int .u32 (csum y : Nat)) W) from CrcW.refsum_any A c y W h (by omega)))
    have HRY := Lib.hid hrd
    have HRZ := Lib.hid hrdz
    have HRX := Lib.hid hrdx
    have HRD := Lib.hid hrdd
    have hnl : (l.length : Int) - 4 = (n : Int) := by omega
    have hw2 : IntKind.i64.wrap ((l.length : Int) - 4) = (n : Int) := by rw [hnl]; exact IntWalk.i64_in _ (by omega)
    generalize csum y = cs at *
    have hw : IntKind.u64.wrap (cs : Int) = (cs : Int) := IntWalk.u64_in _ (by omega)
    have HPUT := Lib.hid (fun (W : World) => (show Calls Try.prog 55 #[.slice none 0 0, .int .u64 cs, .int .i64 4] W (Made W (putB cs 4)) from by
      have := R01.put_any none 0 [] cs 4 W (by simp) (by omega) (by omega) (by omega) (Rd.nil _)
      rwa [List.nil_append] at this))
    have hpl := putB_length cs 4
    generalize putB cs 4 = pb at *
    have HPL := Lib.hid hpl
    have hcond : ¬ ((l.length : Int) < (s.size : Int) + 4) := by omega
    have HB0 := Lib.hid (show Below w.heap.size w ((w.alloc (.cells #[.slice none 0 0, .int .i64 0] 70)).drewN 1) from pw_below_drewN (below_alloc (Below.refl _ _) _) 1)
    have HG0 := Lib.hid (show ((w.alloc (.cells #[.slice none 0 0, .int .i64 0] 70)).drewN 1).heap[w.heap.size]? = some (.cells #[.slice none 0 0, .int .i64 0] 70 (0, 0)) from blk_new w _)
    have hgl : z.length ≤ 140737488355328 := by omega
    clear hzl4
    clear hr hn hy hz hx hd hrd hrdz hrdx hrdd hyl hxl hdl hzl hpre htk hpl h1 hnl h3
    by_cases hsum : le z = cs
    · have HSF := Lib.hid (show R01.sameB pb z = true by rw [HSB.out]; exact decide_eq_true hsum)
      have HNE2 := Lib.hid (show newE s.data.toList l = if decide (x = s.data.toList) = true then 0 else 3 by rw [HNE.out, if_neg (fun h => h hsum)])
      have HSTR := Lib.hid (fun (W : World) (h : Rd W A x) => string_run c h)
      clear hsum
      by_cases hx : x = s.data.toList
      · have HE := Lib.hid (show newE s.data.toList l = 0 by rw [HNE2.out, if_pos (decide_eq_true hx)])
        have HL := Lib.hid (show refL s.data.toList l = d by rw [HRL.out, if_pos HE.out])
        have hq : (x == s.toList) = true := by rw [ByteArray.toList_eq, beq_iff_eq, hx]
        have HX := Lib.hid hx
        clear hx
        go_enter Try.func39, Try.ntmps39
        go_wp2_with fail
        go_region_held3 (fun _ => True) (trivial) (first
          | (go_at_call 52; refine (HSUM.out _ (HRY.out _ (HR.out.below HB0.out))).mono ?_; rintro e w1 ⟨rfl, hb⟩; have HB1 := Lib.hid (below_then HB0.out HB0.out.size hb); have HG1 := Lib.hid (blk_below HG0.out hb); clear hb)
          | (go_at_call 55; refine (HPUT.out w1).mono ?_; rintro e w2 ⟨v2, rfl, hown, hb⟩; obtain ⟨A2, c2, rfl, hc2, hr2⟩ := hown.reads; have HR2 := Lib.hid hr2; have HB2 := Lib.hid (below_step' HB1.out hb); have HG2 := Lib.hid (blk_below HG1.out hb); clear hown hb hr2 hc2)
          | (go_at_call 18; refine (R01.same_any A2 c2 pb Z cz z _ (by have := HPL.out; omega) HR2.out (HRZ.out _ (HR.out.below HB2.out))).mono ?_; rintro e w3 ⟨rfl, nn, rfl⟩; rw [HSF.out])
          | fail)
        have HB3 := Lib.hid (pw_below_drewN HB2.out nn)
        have HG3 := Lib.hid (blk_drewN HG2.out nn)
        obtain ⟨w3, hw3⟩ : ∃ w3, w2.drewN nn = w3 := ⟨_, rfl⟩
        rw [hw3] at HB3 HG3 ⊢
        clear hw3
        have hcc := fun i => blk_cell HG3.out i
        have hff := fun i => blk_frozen HG3.out i
        have hz := blk_lt HG3.out
        have hst := HSTR.out w3 (HRX.out _ (HR.out.below HB3.out))
        go_wp2_with fail
        refine bodyPost_ret_by (results_cell_row rfl _ _ w.heap.size _ _ (0, 0) _ rfl (blk_set (blk_set HG3.out 0 _) 1 _) Try.underlying70 rfl infoRd) rfl ?_
        rw [HE.out, HL.out]
        have HBF := Lib.hid (below_set (v := .int .i64 0) (g := w.heap.size) (j := 1) (below_set (v := .slice D d.length cd) (g := w.heap.size) (j := 0) HB3.out (Nat.le_refl _)) (Nat.le_refl _))
        exact ⟨D, cd, rfl, hdc, HRD.out, HBF.out⟩
      · have HE := Lib.hid (show newE s.data.toList l = 3 by rw [HNE2.out, if_neg (by simpa using hx)])
        have HL := Lib.hid (show refL s.data.toList l = [] by rw [HRL.out, HE.out]; rfl)
        have hq : (x == s.toList) = false := by rw [ByteArray.toList_eq, beq_eq_false_iff_ne]; exact hx
        clear hx
        go_enter Try.func39, Try.ntmps39
        go_wp2_with fail
        go_region_held3 (fun _ => True) (trivial) (first
          | (go_at_call 52; refine (HSUM.out _ (HRY.out _ (HR.out.below HB0.out))).mono ?_; rintro e w1 ⟨rfl, hb⟩; have HB1 := Lib.hid (below_then HB0.out HB0.out.size hb); have HG1 := Lib.hid (blk_below HG0.out hb); clear hb)
          | (go_at_call 55; refine (HPUT.out w1).mono ?_; rintro e w2 ⟨v2, rfl, hown, hb⟩; obtain ⟨A2, c2, rfl, hc2, hr2⟩ := hown.reads; have HR2 := Lib.hid hr2; have HB2 := Lib.hid (below_step' HB1.out hb); have HG2 := Lib.hid (blk_below HG1.out hb); clear hown hb hr2 hc2)
          | (go_at_call 18; refine (R01.same_any A2 c2 pb Z cz z _ (by have := HPL.out; omega) HR2.out (HRZ.out _ (HR.out.below HB2.out))).mono ?_; rintro e w3 ⟨rfl, nn, rfl⟩; rw [HSF.out])
          | fail)
        have HB3 := Lib.hid (pw_below_drewN HB2.out nn)
        have HG3 := Lib.hid (blk_drewN HG2.out nn)
        obtain ⟨w3, hw3⟩ : ∃ w3, w2.drewN nn = w3 := ⟨_, rfl⟩
        rw [hw3] at HB3 HG3 ⊢
        clear hw3
        have hcc := fun i => blk_cell HG3.out i
        have hff := fun i => blk_frozen HG3.out i
        have hz := blk_lt HG3.out
        have hst := HSTR.out w3 (HRX.out _ (HR.out.below HB3.out))
        go_wp2_with fail
        refine bodyPost_ret_by (results_cell_row rfl _ _ w.heap.size _ _ (0, 0) _ rfl (blk_set (blk_set HG3.out 0 _) 1 _) Try.underlying70 rfl infoRd) rfl ?_
        rw [HE.out, HL.out]
        exact ⟨none, 0, rfl, Nat.le_refl _, fun _ _ => Rd.nil _, below_set (below_set HB3.out (Nat.le_refl _)) (Nat.le_refl _)⟩
    · have HSF := Lib.hid (show R01.sameB pb z = false by rw [HSB.out]; exact decide_eq_false hsum)
      have HE := Lib.hid (show newE s.data.toList l = 5 by rw [HNE.out, if_pos hsum])
      have HL := Lib.hid (show refL s.data.toList l = [] by rw [HRL.out, HE.out]; rfl)
      clear hsum
      go_enter Try.func39, Try.ntmps39
      go_wp2_with fail
      go_region_held3 (fun _ => True) (trivial) (first
        | (go_at_call 52; refine (HSUM.out _ (HRY.out _ (HR.out.below HB0.out))).mono ?_; rintro e w1 ⟨rfl, hb⟩; have HB1 := Lib.hid (below_then HB0.out HB0.out.size hb); have HG1 := Lib.hid (blk_below HG0.out hb); clear hb)
        | (go_at_call 55; refine (HPUT.out w1).mono ?_; rintro e w2 ⟨v2, rfl, hown, hb⟩; obtain ⟨A2, c2, rfl, hc2, hr2⟩ := hown.reads; have HR2 := Lib.hid hr2; have HB2 := Lib.hid (below_step' HB1.out hb); have HG2 := Lib.hid (blk_below HG1.out hb); clear hown hb hr2 hc2)
        | (go_at_call 18; refine (R01.same_any A2 c2 pb Z cz z _ (by have := HPL.out; omega) HR2.out (HRZ.out _ (HR.out.below HB2.out))).mono ?_; rintro e w3 ⟨rfl, nn, rfl⟩; rw [HSF.out])
        | fail)
      have HB3 := Lib.hid (pw_below_drewN HB2.out nn)
      have HG3 := Lib.hid (blk_drewN HG2.out nn)
      obtain ⟨w3, hw3⟩ : ∃ w3, w2.drewN nn = w3 := ⟨_, rfl⟩
      rw [hw3] at HB3 HG3 ⊢
      clear hw3
      have hcc := fun i => blk_cell HG3.out i
      have hff := fun i => blk_frozen HG3.out i
      have hz := blk_lt HG3.out
      go_wp2_with fail
      refine bodyPost_ret_by (results_cell_row rfl _ _ w.heap.size _ _ (0, 0) _ rfl (blk_set (blk_set HG3.out 0 _) 1 _) Try.underlying70 rfl infoRd) rfl ?_
      rw [HE.out, HL.out]
      exact ⟨none, 0, rfl, Nat.le_refl _, fun _ _ => Rd.nil _, below_set (below_set HB3.out (Nat.le_refl _)) (Nat.le_refl _)⟩
set_option maxRecDepth 100000 in
set_option maxHeartbeats 400000 in
theorem refend_any (A : Option Addr) (c : Nat) (l : List UInt8) (e : Nat) (w : World) :
    Calls Try.prog 42 #[.agg #[.slice A l.length c, .int .i64 e]] w (Kept (.int .i64 (if e = 0 ∧ 0 < l.length then 3 else e : Nat)) w) := by
  by_cases he : e = 0
  · subst he
    by_cases hl : 0 < l.length
    · rw [if_pos ⟨rfl, hl⟩]
      go_enter Try.func42, Try.ntmps42
      go_wp2
      go_ret
      exact ⟨rfl, below_alloc (Below.refl _ _) _⟩
    · rw [if_neg (fun h => hl h.2)]
      go_enter Try.func42, Try.ntmps42
      go_wp2
      go_ret
      exact ⟨rfl, below_alloc (Below.refl _ _) _⟩
  · rw [if_neg (fun h => he h.1)]
    have hq : ((e : Int) == 0) = false := by simpa using he
    clear he
    go_enter Try.func42, Try.ntmps42
    go_wp2
    go_ret
    exact ⟨rfl, below_alloc (Below.refl _ _) _⟩
end Go.Proofs.Yteeemiacibjaoaa.Co
