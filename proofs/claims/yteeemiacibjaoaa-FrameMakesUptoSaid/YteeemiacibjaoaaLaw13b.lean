/- stillagelaw13: the walk of FrameMakes. -/
import Derived.Test.YteeemiacibjaoaaLaw13y
import Derived.Deep.DrawnRows
set_option linter.unusedVariables false
set_option linter.unusedSimpArgs false
namespace Go.Proofs.Yteeemiacibjaoaa.L13
open Go.RowKit Go.Proofs.YteeemiacibjaoaaW.PrintWords Go.Proofs.Yteeemiacibjaoaa.B Go.Proofs.Yteeemiacibjaoaa.Fx Go.Proofs.Yteeemiacibjaoaa.CrcW Go.Proofs.Yteeemiacibjaoaa.Fr
attribute [local go_sem ↓] Go.wp_at_zero Go.wp_at_succ

set_option maxRecDepth 100000 in
set_option maxHeartbeats 8000000 in
theorem makes_walk (k : Int) (s : Nat) (A : Option Addr) (c : Nat) (d : List UInt8) (A2 : Option Addr) (c2 : Nat) (ah : List UInt8) (A3 : Option Addr) (c3 : Nat) (t : List UInt8) (w : World)
    (hk : -9223372036854775808 ≤ k ∧ k ≤ 9223372036854775807) (hs : s < 18446744073709551616) (hd : d.length ≤ 1048576) (ha : ah.length ≤ 1048576) (ht : t.length ≤ 1048576) (hr : Rd w A d) (hr2 : Rd w A2 ah) (hr3 : Rd w A3 t) (hcase : k < 1 ∨ (¬ k < 1 ∧ 8 < k) ∨ (¬ k < 1 ∧ ¬ 8 < k ∧ 65536 < (d.length : Int)) ∨ ∃ kn : Nat, k = (kn : Int) ∧ 1 ≤ kn ∧ kn ≤ 8 ∧ d.length ≤ 65536) :
    Calls Try.prog 4 #[.agg #[.int .i64 k, .int .u64 s, .slice A d.length c, .slice A2 ah.length c2, .slice A3 t.length c3]] w (Kept (.bool true) w) := by
  obtain ⟨m, hm⟩ : ∃ m, makeL (kindN k) s d = m := ⟨_, rfl⟩
  have hml : m.length = d.length + 21 := by rw [← hm, makeL_len]; omega
  obtain ⟨z, hz⟩ : ∃ z, ah ++ m ++ t = z := ⟨_, rfl⟩
  have HM := Lib.hid (fun (W : World) (h : Rd W A d) => (show Calls Try.prog 17 #[.int .i64 k, .int .u64 s, .slice A d.length c] W (Made W m) from hm ▸ make_any k s A c d W hk hs (by omega) h))
  have HMR := Lib.hid (fun (W : World) (h : Rd W A d) => (show Calls Try.prog 19 #[.int .i64 k, .int .u64 s, .slice A d.length c] W (Made W m) from hm ▸ refmake_any k s A c d W hk hs (by omega) h))
  have HBY := Lib.hid (fun (W : World) (h : Rd W A d) (h2 : Rd W A2 ah) (h3 : Rd W A3 t) => (show Calls Try.prog 21 #[.agg #[.int .i64 k, .int .u64 s, .slice A d.length c, .slice A2 ah.length c2, .slice A3 t.length c3]] W (Made W z) from hz ▸ hm ▸ bytes_any k s A c d A2 c2 ah A3 c3 t W hk hs hd ha ht h h2 h3))
  have hzl : z.length ≤ 140737488351232 := by rw [← hz]; simp only [List.length_append]; omega
  have HP := Lib.hid (fun (X : Option Addr) (x : Nat) (W : World) (hc : z.length ≤ x) (h : Rd W X z) => (show Calls Try.prog 13 #[.slice X z.length x, .int .i64 ah.length] W (PAsO (pKind z ah.length) (pSeq z ah.length) (pData z ah.length) (pEnd z ah.length) (pErr z ah.length) W) from parse_own X x z ah.length W (by omega) hc h (by omega)))
  have HPM := Lib.hid (fun (kn : Nat) (h0 : k = (kn : Int)) (h1 : 1 ≤ kn) (h8 : kn ≤ 8) (h6 : d.length ≤ 65536) => (show pKind z ah.length = kn ∧ pSeq z ah.length = s ∧ d = pData z ah.length ∧ pEnd z ah.length = (ah.length : Int) + (m.length : Int) ∧ pErr z ah.length = 0 from by
    obtain ⟨p1, p2, p3, p4, p5⟩ := parse_make (a := ah) (t := t) (d := d) (k := kn) (s := s) h1 h8 hs h6 z (by rw [← hz, ← hm, h0, kindN_of (by omega) (by omega), Int.toNat_natCast])
    exact ⟨p2, p3, p4.symm, by rw [p5]; omega, p1⟩))
  generalize pKind z ah.length = k' at *
  generalize pSeq z ah.length = q' at *
  generalize pData z ah.length = d' at *
  generalize pEnd z ah.length = en' at *
  generalize pErr z ah.length = er' at *
  have HR := Lib.hid hr
  have HR2 := Lib.hid hr2
  have HR3 := Lib.hid hr3
  have HSB := Lib.hid (show R01.sameB m m = true by simp [R01.sameB])
  have hmd : ((m.length : Int) != (d.length : Int) + 21) = false := by simp; omega
  have hmb : m.length ≤ 1048600 := by omega
  clear hr hr2 hr3 hm hz hml
  obtain ⟨W0, hW0⟩ : ∃ W0, W0 = w.alloc (.cells #[.int .i64 k, .int .u64 s, .slice A d.length c, .slice A2 ah.length c2, .slice A3 t.length c3] 36) := ⟨_, rfl⟩
  have HW0 := Lib.hid (show Below w.heap.size w W0 by rw [hW0]; exact below_alloc (Below.refl _ _) _)
  have HG := Lib.hid (show W0.heap[w.heap.size]? = some (.cells #[.int .i64 k, .int .u64 s, .slice A d.length c, .slice A2 ah.length c2, .slice A3 t.length c3] 36 (0, 0)) by rw [hW0]; exact blk_new w _)
  have HWE := Lib.hid hW0
  clear hW0
  go_enter Try.func4, Try.ntmps4
  go_wp2_with fail
  refine (HM.out _ (HR.out.below (below_alloc (Below.refl _ _) _))).mono ?_
  rintro e w1 ⟨v1, rfl, hown, hb⟩
  rw [← HWE.out] at hb
  obtain ⟨A1, c1, rfl, -, hr1⟩ := hown.reads
  have HR1 := Lib.hid hr1
  have HB1 := Lib.hid hb
  have hcb1 := fun i => blk_cell (blk_below HG.out hb) i
  clear hown hr1 hb
  go_wp2_with fail
  refine (HMR.out _ ((HR.out.below HW0.out).below HB1.out)).mono ?_
  rintro e w2 ⟨v2, rfl, hown, hb⟩
  obtain ⟨Ar, cr, rfl, -, hr1⟩ := hown.reads
  have HRr := Lib.hid hr1
  have HR1' := Lib.hid (HR1.out.below hb)
  have HB2 := Lib.hid (below_step' HB1.out hb)
  clear hown hr1 hb hcb1
  go_wp2_with fail
  refine (R01.same_any A1 c1 m Ar cr m _ (by omega) HR1'.out HRr.out).mono ?_
  rintro e w3 ⟨rfl, n, hw3⟩
  have HB3 := Lib.hid (show Below W0.heap.size W0 w3 by rw [hw3]; exact pw_below_drewN HB2.out n)
  have HR13 := Lib.hid (show Rd w3 A1 m by rw [hw3]; exact HR1'.out.drewN n)
  clear hw3
  have hcb3 := fun i => blk_cell (blk_below HG.out HB3.out) i
  rw [HSB.out]
  go_wp2_with fail
  refine (size_any d.length _ (by omega) (by omega)).mono ?_
  rintro e w' ⟨rfl, rfl⟩
  go_wp2_with fail
  have HS := Lib.hid (fun (W : World) (h : Below W0.heap.size W0 W) => (show W.cell? ⟨w.heap.size, 0, none⟩ = some (.int .i64 k) ∧ W.cell? ⟨w.heap.size, 1, none⟩ = some (.int .u64 s) ∧ W.cell? ⟨w.heap.size, 2, none⟩ = some (.slice A d.length c) ∧ W.cell? ⟨w.heap.size, 3, none⟩ = some (.slice A2 ah.length c2) ∧ W.cell? ⟨w.heap.size, 4, none⟩ = some (.slice A3 t.length c3) ∧ Below W0.heap.size W0 W from
    ⟨blk_cell (blk_below HG.out h) 0, blk_cell (blk_below HG.out h) 1, blk_cell (blk_below HG.out h) 2, blk_cell (blk_below HG.out h) 3, blk_cell (blk_below HG.out h) 4, h⟩))
  have HB3d := Lib.hid (below_drew (W := w') HB3.out)
  have HB3a := Lib.hid (below_alloc HB3.out (.cells #[.int .i64 0, .int .u64 0, .slice none 0 0, .int .i64 0] 25))
  have HB3ad := Lib.hid (below_drew HB3a.out)
  have HRA := Lib.hid (fun (W : World) (h : Below W0.heap.size W0 W) => ((HR.out.below HW0.out).below h))
  have HRB := Lib.hid (fun (W : World) (h : Below W0.heap.size W0 W) => ((HR2.out.below HW0.out).below h))
  have HRC := Lib.hid (fun (W : World) (h : Below W0.heap.size W0 W) => ((HR3.out.below HW0.out).below h))
  have hs0 := HS.out _ HB3d.out
  clear hcb3
  go_region_held3 (fun W => W.cell? ⟨w.heap.size, 0, none⟩ = some (.int .i64 k) ∧ W.cell? ⟨w.heap.size, 1, none⟩ = some (.int .u64 s) ∧ W.cell? ⟨w.heap.size, 2, none⟩ = some (.slice A d.length c) ∧ W.cell? ⟨w.heap.size, 3, none⟩ = some (.slice A2 ah.length c2) ∧ W.cell? ⟨w.heap.size, 4, none⟩ = some (.slice A3 t.length c3) ∧ Below W0.heap.size W0 W) (first | assumption | exact HS.out _ (by assumption) | exact HS.out _ (below_alloc (by assumption) _) | exact HS.out _ (below_alloc (And.right (And.right (And.right (And.right (And.right ‹_›))))) _) | exact HS.out _ (below_drew (below_alloc HB3.out _)) | exact HS.out _ (below_set (below_set (below_set (below_set (by assumption) (by assumption)) (by assumption)) (by assumption)) (by assumption)))
    (first
      | (go_at_call 21; refine (HBY.out _ (HRA.out _ HB3d.out) (HRB.out _ HB3d.out) (HRC.out _ HB3d.out)).mono ?_; rintro e w4 ⟨v4, rfl, hown, hb⟩; have hb4 := below_then HB3d.out HB3d.out.size hb; obtain ⟨A4, c4, rfl, hc4, hr4⟩ := hown.reads; have HR4 := Lib.hid hr4; have hg4 := Lib.hid (show True from trivial); clear hown hr4 hb)
      | (go_at_call 21; refine (HBY.out _ (HRA.out _ HB3ad.out) (HRB.out _ HB3ad.out) (HRC.out _ HB3ad.out)).mono ?_; rintro e w4 ⟨v4, rfl, hown, hb⟩; have hb4 := below_then HB3ad.out HB3ad.out.size hb; have hg4 := Lib.hid (blk_below (blk_drew (blk_new w' (.cells #[.int .i64 0, .int .u64 0, .slice none 0 0, .int .i64 0] 25))) hb); obtain ⟨A4, c4, rfl, hc4, hr4⟩ := hown.reads; have HR4 := Lib.hid hr4; clear hown hr4 hb)
      | (go_at_call 13; refine (HP.out A4 c4 w4 hc4 HR4.out).mono ?_; rintro e w5 ⟨A5, c5, rfl, hc5, hown5, hb⟩; have hb5 := below_then hb4 hb4.size hb; have HO5 := Lib.hid hown5; (first | have hcc5 := fun i => blk_cell (blk_below hg4.out hb) i | skip); (first | have hff5 := fun i => blk_frozen (blk_below hg4.out hb) i | skip); (first | have hsz5 : W0.heap.size ≤ w'.heap.size := HB3.out.size | skip); (first | have hgl5 : w'.heap.size < w4.heap.size := blk_lt hg4.out | skip); clear hown5 hb)
      | (go_at_call 13; refine (HP.out A4 c4 _ hc4 (HR4.out.below (below_alloc (Below.refl _ _) _))).mono ?_; rintro e w5 ⟨A5, c5, rfl, hc5, hown5, hb⟩; have hb5 := below_then (below_alloc hb4 (.cells #[.int .i64 0, .int .u64 0, .slice none 0 0, .int .i64 0] 25)) (below_alloc hb4 (.cells #[.int .i64 0, .int .u64 0, .slice none 0 0, .int .i64 0] 25)).size hb; have HO5 := Lib.hid hown5; have hcc5 := fun i => blk_cell (blk_below (blk_new w4 (.cells #[.int .i64 0, .int .u64 0, .slice none 0 0, .int .i64 0] 25)) hb) i; have hff5 := fun i => blk_frozen (blk_below (blk_new w4 (.cells #[.int .i64 0, .int .u64 0, .slice none 0 0, .int .i64 0] 25)) hb) i; have hsz5 : W0.heap.size ≤ w4.heap.size := hb4.size; clear hown5 hb)
      | fail)
  all_goals obtain ⟨-, -, -, -, -, hBX⟩ := ‹_ ∧ _ ∧ _ ∧ _ ∧ _ ∧ Below W0.heap.size W0 _›
  all_goals rcases hcase with h1 | ⟨h1, h2⟩ | ⟨h1, h2, h3⟩ | ⟨kn, h0, h1, h2, h3⟩
  all_goals first
    | (obtain ⟨p1, p2, p3, p4, p5⟩ := HPM.out kn h0 h1 h2 h3
       subst p1 p2 p3 p4 p5 h0
       clear HPM HM HMR HBY HP
       go_wp2_with fail
       refine (same_true _ _ _ A5 c5 A c _ _ (by omega) ?_ (HRA.out _ hBX)).mono ?_
       · first
           | with_reducible exact HO5.out.rd.below (below_alloc (Below.refl _ _) _)
           | with_reducible exact (Own.far (Own.far (Own.far (Own.far HO5.out hgl5 _) hgl5 _) hgl5 _) hgl5 _).rd
           | with_reducible exact (Own.far (Own.far (Own.far (Own.far HO5.out (by simp) _) (by simp) _) (by simp) _) (by simp) _).rd
       rintro e w6 ⟨rfl, hb⟩
       have HB6 := Lib.hid (below_then hBX hBX.size hb)
       clear hb
       go_wp2_with fail
       refine (lives_any _).mono ?_
       rintro e w7 ⟨rfl, hb⟩
       have HB7 := Lib.hid (below_step' HW0.out (below_then HB6.out HB6.out.size hb))
       clear hb
       go_wp2_with fail
       go_ret
       exact ⟨rfl, HB7.out⟩)
    | (clear HPM HM HMR HBY HP
       go_wp2_with fail
       refine (lives_any _).mono ?_
       rintro e w7 ⟨rfl, hb⟩
       have HB7 := Lib.hid (below_step' HW0.out (below_then hBX hBX.size hb))
       clear hb
       go_wp2_with fail
       go_ret
       exact ⟨rfl, HB7.out⟩)
theorem makes_any (cs : Array Value) (x : MdT) (w : World) (hK : kMd.K w x cs.toList) (hm : mMd x ≤ 1048576) :
    Calls Try.prog 4 #[.agg cs] w (Kept (.bool true) w) := by
  obtain ⟨k, s, d, a, t⟩ := x
  obtain ⟨A, c, A2, c2, A3, c3, rfl, h1, h2, h3⟩ := md_open hK
  obtain ⟨l1, l2, l3⟩ := mMd_len hm
  have hk := Int64.toInt_lt k
  have hk' := Int64.le_toInt k
  refine makes_walk k.toInt s.toNat A c d A2 c2 a A3 c3 t w (by omega) s.toNat_lt l1 l2 l3 h1 h2 h3 ?_
  by_cases g1 : k.toInt < 1
  · exact .inl g1
  by_cases g2 : 8 < k.toInt
  · exact .inr (.inl ⟨g1, g2⟩)
  by_cases g3 : 65536 < (d.length : Int)
  · exact .inr (.inr (.inl ⟨g1, g2, g3⟩))
  · exact .inr (.inr (.inr ⟨k.toInt.toNat, by omega, by omega, by omega, by omega⟩))
end Go.Proofs.Yteeemiacibjaoaa.L13
