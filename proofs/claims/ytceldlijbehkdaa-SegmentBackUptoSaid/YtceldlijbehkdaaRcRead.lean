/- stillageref14.read. -/
import Derived.Test.YtceldlijbehkdaaRcDig
import Derived.Test.YtceldlijbehkdaaRcBack
set_option linter.unusedVariables false
set_option linter.unusedSimpArgs false
namespace Go.Proofs.Ytceldlijbehkdaa.Rc
open Go.RowKit Go.Proofs.YtceldlijbehkdaaW.PrintWords Go.Proofs.Ytceldlijbehkdaa.B Go.Proofs.Ytceldlijbehkdaa.Fx Go.Proofs.Ytceldlijbehkdaa.Fr
set_option maxRecDepth 100000 in
set_option maxHeartbeats 3200000 in
theorem read5 (A : Option Addr) (c : Nat) (b : List UInt8) (w : World) (hr : Rd w A b) (hl : b.length ≤ 65536) (hc : b.length ≤ c) :
    Calls Try.prog 46 #[.int .i64 5, .slice A b.length c] w (FillE 5 0 b w) := by
  obtain ⟨X, hX0⟩ : ∃ X, recC 5 0 z32 ⟨#[]⟩ none 0 0 0 0 = X := ⟨_, rfl⟩
  have hX : RecF X 5 0 z32 ⟨#[]⟩ none 0 0 0 0 := hX0 ▸ recF rfl
  have HX0 := Lib.hid hX0
  obtain ⟨w1, hw1⟩ : ∃ w1, (w.alloc (.cells zRec 27)).alloc (.cells X 27) = w1 := ⟨_, rfl⟩
  obtain ⟨hz, hg, hb0⟩ := run_blk2 w zRec X 27 27
  rw [hw1] at hg hz hb0
  have HR := Lib.hid (hr.below hb0)
  have HG := Lib.hid hg
  have HZ := Lib.hid hz
  have HB0 := Lib.hid hb0
  have hcc := fun i => blk_cell HG.out i
  have hff := fun i => blk_frozen HG.out i
  have hz1 := blk_lt HG.out
  have hz2 := blk_lt HZ.out
  have hr0 := hr
  have HX := Lib.hid hX
  clear hr hg hz hb0 hX hX0
  by_cases h32 : b.length = 32
  · have HE := Lib.hid (show okF 5 b = true from decide_eq_true h32)
    have e1 : decide ((b.length : Int) < 32) = false := decide_eq_false (by omega)
    have e2 : decide ((32 : Int) < (b.length : Int)) = false := decide_eq_false (by omega)
    have HTK := Lib.hid (show b.take 32 = b from List.take_of_length_le (by omega))
    obtain ⟨cs, hcs⟩ : ∃ cs, (b.take 32).map encB = cs := ⟨_, rfl⟩
    have hcl : cs.length = 32 := by rw [← hcs]; simp; omega
    obtain ⟨Y, hY⟩ : ∃ Y, (splice X.toList 2 cs).toArray = Y := ⟨_, rfl⟩
    have HYF := Lib.hid (show RecF Y 5 0 (b.take 32) ⟨#[]⟩ none 0 0 0 0 from by rw [← hY, ← hcs]; exact HX.out.setD (by rw [List.length_take]; omega))
    have HYS := Lib.hid HYF.out.recS
    have HYI := Lib.hid HYS.out.info
    have HYZ := Lib.hid (show zRec.size = Y.size from zRecF.size.trans HYS.out.size.symm)
    have HY1 := Lib.hid HYS.out.one
    have HDG := Lib.hid (fun (W : World) (h : Rd W A b) => (show Calls Try.prog 68 #[.slice A b.length c] W (Kept (.agg cs.toArray) W) from hcs ▸ refdigest_any A c b W h (by omega)))
    have HCI := Lib.hid (show (Try.prog.info? 25).map (·.size) = some cs.toArray.size by rw [List.size_toArray, hcl]; exact infoDig)
    have HC1 := Lib.hid (show cs.toArray.all (·.oneCell') = true by rw [← hcs]; exact all_oneCell_toArray (one_encs _))
    have hXS : X.size = 38 := HX.out.size
    have HCL := Lib.hid hcl
    have HY := Lib.hid hY
    clear hcs hcl hY
    clear h32 hr0
    go_enter Try.func46, Try.ntmps46
    go_wp2_with (first | (refine wpList_box rfl rfl 27 _ _ rfl rfl (recC 5 0 z32 ⟨#[]⟩ none 0 0 0 0) zRec zeroRec rfl rfl rfl (recF rfl).info (recF rfl).one ?_; rw [HX0.out]) | (refine wpList_allocZ rfl 27 rfl zRec zeroRec ?_))
    refine (HDG.out _ HR.out).mono ?_
    rintro e w2 ⟨rfl, hb⟩
    have HG2 := Lib.hid (blk_below HG.out hb)
    have HZ2 := Lib.hid (blk_below HZ.out hb)
    have HB2 := Lib.hid (below_step' HB0.out hb)
    have hu := upd_cells HG2.out 2 cs (by rw [HCL.out]; omega)
    obtain ⟨w3, hw3⟩ : ∃ w', World.setCells w2 (w.heap.size + 1) 2 cs = w' := ⟨_, rfl⟩
    rw [HY.out, hw3] at hu
    have HTH := Lib.hid (there_of HG2.out 2 cs.toArray.size (by rw [List.size_toArray, HCL.out]; omega))
    have HG3 := Lib.hid hu.at_
    have HZ3 := Lib.hid ((hu.off w.heap.size (by omega)).trans HZ2.out)
    have HB3 := Lib.hid (hu.to (Nat.le_succ _) HB2.out)
    have HW3 := Lib.hid hw3
    clear hu hb hw3
    go_wp2_with (first | (refine wpList_store_mid rfl 25 (.tmp 76) (.tmp 75) rfl (w.heap.size + 1) 2 cs.toArray rfl rfl HTH.out HCI.out HC1.out ?_; rw [show cs.toArray.toList = cs from rfl, HW3.out]) | (refine wpList_load_row rfl 27 (.tmp 6) rfl (w.heap.size + 1) rfl 27 Y (0, 0) _ HG3.out Try.underlying27 rfl HYI.out ?_) | (refine wpList_store_row rfl 27 (.tmp 4) (.tmp 83) rfl w.heap.size Y rfl rfl 27 zRec HZ3.out HYI.out HYZ.out HY1.out ?_; obtain ⟨w9, hw9⟩ : ∃ w', World.setRow w3 w.heap.size Y = w' := ⟨_, rfl⟩; have HEW9 := Lib.hid hw9; have hu := upd_row HZ3.out Y; rw [hw9] at hu ⊢; have HF9 := Lib.hid hu.at_; have HBF9 := Lib.hid (hu.to (Nat.le_refl _) HB3.out); clear hu hw9))
    refine bodyPost_ret_by (results_ct rfl _ _ w.heap.size _ Y (0, 0) _ rfl HF9.out Try.underlying27 rfl HYI.out) rfl ?_
    refine .inl ⟨HE.out, Y, none, 0, rfl, ?_, Buf.nil _ _, HBF9.out⟩
    rw [show dF 5 b = b.take 32 from HTK.out.symm]
    exact HYF.out
  · have HE := Lib.hid (show okF 5 b = false from decide_eq_false h32)
    have HXS := Lib.hid HX.out.recS
    have HQI := Lib.hid HXS.out.info
    have HQZ := Lib.hid (show zRec.size = X.size from zRecF.size.trans HXS.out.size.symm)
    have HQ1 := Lib.hid HXS.out.one
    by_cases hlt : b.length < 32
    · have e1 : decide ((b.length : Int) < 32) = true := decide_eq_true (by omega)
      clear h32 hlt hr0
      go_enter Try.func46, Try.ntmps46
      go_wp2_with (first | (refine wpList_box rfl rfl 27 _ _ rfl rfl (recC 5 0 z32 ⟨#[]⟩ none 0 0 0 0) zRec zeroRec rfl rfl rfl (recF rfl).info (recF rfl).one ?_; rw [HX0.out]) | (refine wpList_allocZ rfl 27 rfl zRec zeroRec ?_) | (refine wpList_load_row rfl 27 (.tmp 6) rfl (w.heap.size + 1) rfl 27 X (0, 0) _ HG.out Try.underlying27 rfl HQI.out ?_) | (refine wpList_store_row rfl 27 (.tmp 4) (.tmp 73) rfl w.heap.size X rfl rfl 27 zRec HZ.out HQI.out HQZ.out HQ1.out ?_; obtain ⟨w9, hw9⟩ : ∃ w', World.setRow w1 w.heap.size X = w' := ⟨_, rfl⟩; have HEW9 := Lib.hid hw9; have hu := upd_row HZ.out X; rw [hw9] at hu ⊢; have HF9 := Lib.hid hu.at_; have HBF9 := Lib.hid (hu.to (Nat.le_refl _) HB0.out); clear hu hw9))
      refine bodyPost_ret_by (results_ct rfl _ _ w.heap.size _ X (0, 0) _ rfl HF9.out Try.underlying27 rfl HQI.out) rfl ?_
      exact .inr ⟨HE.out, X, rfl, HXS.out, HBF9.out⟩
    · have e1 : decide ((b.length : Int) < 32) = false := decide_eq_false (by omega)
      have e2 : decide ((32 : Int) < (b.length : Int)) = true := decide_eq_true (by omega)
      clear h32 hlt hr0
      go_enter Try.func46, Try.ntmps46
      go_wp2_with (first | (refine wpList_box rfl rfl 27 _ _ rfl rfl (recC 5 0 z32 ⟨#[]⟩ none 0 0 0 0) zRec zeroRec rfl rfl rfl (recF rfl).info (recF rfl).one ?_; rw [HX0.out]) | (refine wpList_allocZ rfl 27 rfl zRec zeroRec ?_) | (refine wpList_load_row rfl 27 (.tmp 6) rfl (w.heap.size + 1) rfl 27 X (0, 0) _ HG.out Try.underlying27 rfl HQI.out ?_) | (refine wpList_store_row rfl 27 (.tmp 4) (.tmp 73) rfl w.heap.size X rfl rfl 27 zRec HZ.out HQI.out HQZ.out HQ1.out ?_; obtain ⟨w9, hw9⟩ : ∃ w', World.setRow w1 w.heap.size X = w' := ⟨_, rfl⟩; have HEW9 := Lib.hid hw9; have hu := upd_row HZ.out X; rw [hw9] at hu ⊢; have HF9 := Lib.hid hu.at_; have HBF9 := Lib.hid (hu.to (Nat.le_refl _) HB0.out); clear hu hw9))
      refine bodyPost_ret_by (results_ct rfl _ _ w.heap.size _ X (0, 0) _ rfl HF9.out Try.underlying27 rfl HQI.out) rfl ?_
      exact .inr ⟨HE.out, X, rfl, HXS.out, HBF9.out⟩
set_option maxRecDepth 100000 in
set_option maxHeartbeats 3200000 in
theorem read1 (A : Option Addr) (c : Nat) (b : List UInt8) (w : World) (hr : Rd w A b) (hl : b.length ≤ 65536) (hc : b.length ≤ c) :
    Calls Try.prog 46 #[.int .i64 1, .slice A b.length c] w (FillE 1 0 b w) := by
  obtain ⟨X, hX0⟩ : ∃ X, recC 1 0 z32 ⟨#[]⟩ none 0 0 0 0 = X := ⟨_, rfl⟩
  have hX : RecF X 1 0 z32 ⟨#[]⟩ none 0 0 0 0 := hX0 ▸ recF rfl
  have HX0 := Lib.hid hX0
  obtain ⟨w1, hw1⟩ : ∃ w1, (w.alloc (.cells zRec 27)).alloc (.cells X 27) = w1 := ⟨_, rfl⟩
  obtain ⟨hz, hg, hb0⟩ := run_blk2 w zRec X 27 27
  rw [hw1] at hg hz hb0
  have HR := Lib.hid (hr.below hb0)
  have HG := Lib.hid hg
  have HZ := Lib.hid hz
  have HB0 := Lib.hid hb0
  have hcc := fun i => blk_cell HG.out i
  have hff := fun i => blk_frozen HG.out i
  have hz1 := blk_lt HG.out
  have hz2 := blk_lt HZ.out
  have hr0 := hr
  have HX := Lib.hid hX
  clear hr hg hz hb0 hX hX0
  by_cases h32 : 32 ≤ b.length
  · have HE := Lib.hid (show okF 1 b = true from decide_eq_true h32)
    have e1 : decide ((b.length : Int) < 32) = false := decide_eq_false (by omega)
    obtain ⟨A', y, c', hy, hcut, hrd, hyc, hyl⟩ := cutF (A := A) (l := b) (c := c) 32 (by decide) (by omega) hc
    have HLF := Lib.hid (show lF 1 b = y from hy.out.symm)
    have HRY := Lib.hid (fun (W : World) (h : Below w.heap.size w W) => hrd W (Rd.below (w := w) hr0 h))
    have hyb : ([] : List UInt8).length + y.length ≤ 140737488355328 := by simp; omega
    obtain ⟨cs, hcs⟩ : ∃ cs, (b.take 32).map encB = cs := ⟨_, rfl⟩
    have hcl : cs.length = 32 := by rw [← hcs]; simp; omega
    obtain ⟨Y, hY⟩ : ∃ Y, (splice X.toList 2 cs).toArray = Y := ⟨_, rfl⟩
    have HYF := Lib.hid (show RecF Y 1 0 (b.take 32) ⟨#[]⟩ none 0 0 0 0 from by rw [← hY, ← hcs]; exact HX.out.setD (by rw [List.length_take]; omega))
    have HYS := Lib.hid HYF.out.recS
    have HYI := Lib.hid HYS.out.info
    have HYZ := Lib.hid (show zRec.size = Y.size from zRecF.size.trans HYS.out.size.symm)
    have HY1 := Lib.hid HYS.out.one
    have HDG := Lib.hid (fun (W : World) (h : Rd W A b) => (show Calls Try.prog 68 #[.slice A b.length c] W (Kept (.agg cs.toArray) W) from hcs ▸ refdigest_any A c b W h (by omega)))
    have HCI := Lib.hid (show (Try.prog.info? 25).map (·.size) = some cs.toArray.size by rw [List.size_toArray, hcl]; exact infoDig)
    have HC1 := Lib.hid (show cs.toArray.all (·.oneCell') = true by rw [← hcs]; exact all_oneCell_toArray (one_encs _))
    have hXS : X.size = 38 := HX.out.size
    have HCL := Lib.hid hcl
    have HY := Lib.hid hY
    clear hcs hcl hY
    clear h32 hr0 hy hrd hyl
    go_enter Try.func46, Try.ntmps46
    go_wp2_with (first | (refine wpList_box rfl rfl 27 _ _ rfl rfl (recC 1 0 z32 ⟨#[]⟩ none 0 0 0 0) zRec zeroRec rfl rfl rfl (recF rfl).info (recF rfl).one ?_; rw [HX0.out]) | (refine wpList_allocZ rfl 27 rfl zRec zeroRec ?_))
    refine (HDG.out _ HR.out).mono ?_
    rintro e w2 ⟨rfl, hb⟩
    have HG2 := Lib.hid (blk_below HG.out hb)
    have HZ2 := Lib.hid (blk_below HZ.out hb)
    have HB2 := Lib.hid (below_step' HB0.out hb)
    have hu := upd_cells HG2.out 2 cs (by rw [HCL.out]; omega)
    obtain ⟨w3, hw3⟩ : ∃ w', World.setCells w2 (w.heap.size + 1) 2 cs = w' := ⟨_, rfl⟩
    rw [HY.out, hw3] at hu
    have HTH := Lib.hid (there_of HG2.out 2 cs.toArray.size (by rw [List.size_toArray, HCL.out]; omega))
    have HG3 := Lib.hid hu.at_
    have HZ3 := Lib.hid ((hu.off w.heap.size (by omega)).trans HZ2.out)
    have HB3 := Lib.hid (hu.to (Nat.le_succ _) HB2.out)
    have HW3 := Lib.hid hw3
    clear hu hb hw3
    obtain ⟨v35, h35⟩ := HYS.out.cell (j := 35) (by decide)
    go_wp2_with (first | (refine wpList_store_mid rfl 25 (.tmp 76) (.tmp 75) rfl (w.heap.size + 1) 2 cs.toArray rfl rfl HTH.out HCI.out HC1.out ?_; rw [show cs.toArray.toList = cs from rfl, HW3.out]) | (at_builtin; refine appRow (w0 := w3) w3.heap.size rfl (.const (.slice none 0 0)) (.tmp 80) rfl (.slice none 0 0) [] y A' y.length c' rfl rfl rfl (Own.nil _ _) (HRY.out w3 HB3.out) (Below.refl _ _) (Nat.le_refl _) hyb ?_; intro v4 w4 hown hb _ _; rw [List.nil_append] at hown; obtain ⟨A4, c4, rfl, hc4, -⟩ := hown.reads; have HG4 := Lib.hid (blk_below HG3.out hb); have HZ4 := Lib.hid (blk_below HZ3.out hb); have HB4 := Lib.hid (below_step' HB3.out hb); have HO4 := Lib.hid (show Buf w4 w.heap.size (.slice A4 y.length c4) y from (Buf.of_own hown).lower HB3.out.size); clear hown hb; have hcc4 := fun i => blk_cell HG4.out i; have hff4 := fun i => blk_frozen HG4.out i; obtain ⟨Z, hZ⟩ : ∃ Z, Y.setIfInBounds 35 (.slice A4 y.length c4) = Z := ⟨_, rfl⟩; have hu := upd_cell HG4.out 35 (.slice A4 y.length c4); obtain ⟨w5, hw5⟩ : ∃ w', w4.setCell ⟨w.heap.size + 1, 35, none⟩ (.slice A4 y.length c4) = w' := ⟨_, rfl⟩; rw [hZ, hw5] at hu; have HG5 := Lib.hid hu.at_; have HZ5 := Lib.hid ((hu.off w.heap.size (by omega)).trans HZ4.out); have HB5 := Lib.hid (hu.to (Nat.le_succ _) HB4.out); have HZF := Lib.hid (show RecF Z 1 0 (b.take 32) ⟨#[]⟩ A4 y.length c4 0 0 from hZ ▸ HYF.out.setData A4 y.length c4); have HZS := Lib.hid HZF.out.recS; have HZZI := Lib.hid HZS.out.info; have HZZZ := Lib.hid (show zRec.size = Z.size from zRecF.size.trans HZS.out.size.symm); have HZZ1 := Lib.hid HZS.out.one; have HO5 := Lib.hid (Rc.Buf.upd HO4.out hu HG4.out (by decide)); clear hu hZ) | (refine wpList_load_row rfl 27 (.tmp 6) rfl (w.heap.size + 1) rfl 27 Z (0, 0) _ HG5.out Try.underlying27 rfl HZZI.out ?_) | (refine wpList_store_row rfl 27 (.tmp 4) (.tmp 83) rfl w.heap.size Z rfl rfl 27 zRec HZ5.out HZZI.out HZZZ.out HZZ1.out ?_; obtain ⟨w9, hw9⟩ : ∃ w', World.setRow w5 w.heap.size Z = w' := ⟨_, rfl⟩; have HEW9 := Lib.hid hw9; have hu := upd_row HZ5.out Z; rw [hw9] at hu ⊢; have HF9 := Lib.hid hu.at_; have HBF9 := Lib.hid (hu.to (Nat.le_refl _) HB5.out); have HO9 := Lib.hid (Rc.Buf.upd HO5.out hu HZ5.out (by decide)); clear hu hw9))
    refine bodyPost_ret_by (results_ct rfl _ _ w.heap.size _ Z (0, 0) _ rfl HF9.out Try.underlying27 rfl HZZI.out) rfl ?_
    refine .inl ⟨HE.out, Z, A4, c4, ?_, ?_, ?_, HBF9.out⟩
    · rfl
    · rw [HLF.out]; exact HZF.out
    · rw [HLF.out]; exact HO9.out
  · have HE := Lib.hid (show okF 1 b = false from decide_eq_false h32)
    have HXS := Lib.hid HX.out.recS
    have HQI := Lib.hid HXS.out.info
    have HQZ := Lib.hid (show zRec.size = X.size from zRecF.size.trans HXS.out.size.symm)
    have HQ1 := Lib.hid HXS.out.one
    have e1 : decide ((b.length : Int) < 32) = true := decide_eq_true (by omega)
    clear h32 hr0
    go_enter Try.func46, Try.ntmps46
    go_wp2_with (first | (refine wpList_box rfl rfl 27 _ _ rfl rfl (recC 1 0 z32 ⟨#[]⟩ none 0 0 0 0) zRec zeroRec rfl rfl rfl (recF rfl).info (recF rfl).one ?_; rw [HX0.out]) | (refine wpList_allocZ rfl 27 rfl zRec zeroRec ?_) | (refine wpList_load_row rfl 27 (.tmp 6) rfl (w.heap.size + 1) rfl 27 X (0, 0) _ HG.out Try.underlying27 rfl HQI.out ?_) | (refine wpList_store_row rfl 27 (.tmp 4) (.tmp 73) rfl w.heap.size X rfl rfl 27 zRec HZ.out HQI.out HQZ.out HQ1.out ?_; obtain ⟨w9, hw9⟩ : ∃ w', World.setRow w1 w.heap.size X = w' := ⟨_, rfl⟩; have HEW9 := Lib.hid hw9; have hu := upd_row HZ.out X; rw [hw9] at hu ⊢; have HF9 := Lib.hid hu.at_; have HBF9 := Lib.hid (hu.to (Nat.le_refl _) HB0.out); clear hu hw9))
    refine bodyPost_ret_by (results_ct rfl _ _ w.heap.size _ X (0, 0) _ rfl HF9.out Try.underlying27 rfl HQI.out) rfl ?_
    exact .inr ⟨HE.out, X, rfl, HXS.out, HBF9.out⟩
set_option maxRecDepth 100000 in
set_option maxHeartbeats 3200000 in
theorem read2 (A : Option Addr) (c : Nat) (b : List UInt8) (w : World) (hr : Rd w A b) (hl : b.length ≤ 65536) (hc : b.length ≤ c) :
    Calls Try.prog 46 #[.int .i64 2, .slice A b.length c] w (FillE 2 0 b w) := by
  obtain ⟨X, hX0⟩ : ∃ X, recC 2 0 z32 ⟨#[]⟩ none 0 0 0 0 = X := ⟨_, rfl⟩
  have hX : RecF X 2 0 z32 ⟨#[]⟩ none 0 0 0 0 := hX0 ▸ recF rfl
  have HX0 := Lib.hid hX0
  obtain ⟨w1, hw1⟩ : ∃ w1, (w.alloc (.cells zRec 27)).alloc (.cells X 27) = w1 := ⟨_, rfl⟩
  obtain ⟨hz, hg, hb0⟩ := run_blk2 w zRec X 27 27
  rw [hw1] at hg hz hb0
  have HR := Lib.hid (hr.below hb0)
  have HG := Lib.hid hg
  have HZ := Lib.hid hz
  have HB0 := Lib.hid hb0
  have hcc := fun i => blk_cell HG.out i
  have hff := fun i => blk_frozen HG.out i
  have hz1 := blk_lt HG.out
  have hz2 := blk_lt HZ.out
  have hr0 := hr
  have HX := Lib.hid hX
  clear hr hg hz hb0 hX hX0
  by_cases h32 : 32 ≤ b.length
  · have HE := Lib.hid (show okF 2 b = true from decide_eq_true h32)
    have e1 : decide ((b.length : Int) < 32) = false := decide_eq_false (by omega)
    obtain ⟨A', y, c', hy, hcut, hrd, hyc, hyl⟩ := cutF (A := A) (l := b) (c := c) 32 (by decide) (by omega) hc
    have HLF := Lib.hid (show lF 2 b = y from hy.out.symm)
    have HRY := Lib.hid (fun (W : World) (h : Below w.heap.size w W) => hrd W (Rd.below (w := w) hr0 h))
    have hyb : ([] : List UInt8).length + y.length ≤ 140737488355328 := by simp; omega
    obtain ⟨cs, hcs⟩ : ∃ cs, (b.take 32).map encB = cs := ⟨_, rfl⟩
    have hcl : cs.length = 32 := by rw [← hcs]; simp; omega
    obtain ⟨Y, hY⟩ : ∃ Y, (splice X.toList 2 cs).toArray = Y := ⟨_, rfl⟩
    have HYF := Lib.hid (show RecF Y 2 0 (b.take 32) ⟨#[]⟩ none 0 0 0 0 from by rw [← hY, ← hcs]; exact HX.out.setD (by rw [List.length_take]; omega))
    have HYS := Lib.hid HYF.out.recS
    have HYI := Lib.hid HYS.out.info
    have HYZ := Lib.hid (show zRec.size = Y.size from zRecF.size.trans HYS.out.size.symm)
    have HY1 := Lib.hid HYS.out.one
    have HDG := Lib.hid (fun (W : World) (h : Rd W A b) => (show Calls Try.prog 68 #[.slice A b.length c] W (Kept (.agg cs.toArray) W) from hcs ▸ refdigest_any A c b W h (by omega)))
    have HCI := Lib.hid (show (Try.prog.info? 25).map (·.size) = some cs.toArray.size by rw [List.size_toArray, hcl]; exact infoDig)
    have HC1 := Lib.hid (show cs.toArray.all (·.oneCell') = true by rw [← hcs]; exact all_oneCell_toArray (one_encs _))
    have hXS : X.size = 38 := HX.out.size
    have HCL := Lib.hid hcl
    have HY := Lib.hid hY
    clear hcs hcl hY
    clear h32 hr0 hy hrd hyl
    go_enter Try.func46, Try.ntmps46
    go_wp2_with (first | (refine wpList_box rfl rfl 27 _ _ rfl rfl (recC 2 0 z32 ⟨#[]⟩ none 0 0 0 0) zRec zeroRec rfl rfl rfl (recF rfl).info (recF rfl).one ?_; rw [HX0.out]) | (refine wpList_allocZ rfl 27 rfl zRec zeroRec ?_))
    refine (HDG.out _ HR.out).mono ?_
    rintro e w2 ⟨rfl, hb⟩
    have HG2 := Lib.hid (blk_below HG.out hb)
    have HZ2 := Lib.hid (blk_below HZ.out hb)
    have HB2 := Lib.hid (below_step' HB0.out hb)
    have hu := upd_cells HG2.out 2 cs (by rw [HCL.out]; omega)
    obtain ⟨w3, hw3⟩ : ∃ w', World.setCells w2 (w.heap.size + 1) 2 cs = w' := ⟨_, rfl⟩
    rw [HY.out, hw3] at hu
    have HTH := Lib.hid (there_of HG2.out 2 cs.toArray.size (by rw [List.size_toArray, HCL.out]; omega))
    have HG3 := Lib.hid hu.at_
    have HZ3 := Lib.hid ((hu.off w.heap.size (by omega)).trans HZ2.out)
    have HB3 := Lib.hid (hu.to (Nat.le_succ _) HB2.out)
    have HW3 := Lib.hid hw3
    clear hu hb hw3
    obtain ⟨v35, h35⟩ := HYS.out.cell (j := 35) (by decide)
    go_wp2_with (first | (refine wpList_store_mid rfl 25 (.tmp 76) (.tmp 75) rfl (w.heap.size + 1) 2 cs.toArray rfl rfl HTH.out HCI.out HC1.out ?_; rw [show cs.toArray.toList = cs from rfl, HW3.out]) | (at_builtin; refine appRow (w0 := w3) w3.heap.size rfl (.const (.slice none 0 0)) (.tmp 80) rfl (.slice none 0 0) [] y A' y.length c' rfl rfl rfl (Own.nil _ _) (HRY.out w3 HB3.out) (Below.refl _ _) (Nat.le_refl _) hyb ?_; intro v4 w4 hown hb _ _; rw [List.nil_append] at hown; obtain ⟨A4, c4, rfl, hc4, -⟩ := hown.reads; have HG4 := Lib.hid (blk_below HG3.out hb); have HZ4 := Lib.hid (blk_below HZ3.out hb); have HB4 := Lib.hid (below_step' HB3.out hb); have HO4 := Lib.hid (show Buf w4 w.heap.size (.slice A4 y.length c4) y from (Buf.of_own hown).lower HB3.out.size); clear hown hb; have hcc4 := fun i => blk_cell HG4.out i; have hff4 := fun i => blk_frozen HG4.out i; obtain ⟨Z, hZ⟩ : ∃ Z, Y.setIfInBounds 35 (.slice A4 y.length c4) = Z := ⟨_, rfl⟩; have hu := upd_cell HG4.out 35 (.slice A4 y.length c4); obtain ⟨w5, hw5⟩ : ∃ w', w4.setCell ⟨w.heap.size + 1, 35, none⟩ (.slice A4 y.length c4) = w' := ⟨_, rfl⟩; rw [hZ, hw5] at hu; have HG5 := Lib.hid hu.at_; have HZ5 := Lib.hid ((hu.off w.heap.size (by omega)).trans HZ4.out); have HB5 := Lib.hid (hu.to (Nat.le_succ _) HB4.out); have HZF := Lib.hid (show RecF Z 2 0 (b.take 32) ⟨#[]⟩ A4 y.length c4 0 0 from hZ ▸ HYF.out.setData A4 y.length c4); have HZS := Lib.hid HZF.out.recS; have HZZI := Lib.hid HZS.out.info; have HZZZ := Lib.hid (show zRec.size = Z.size from zRecF.size.trans HZS.out.size.symm); have HZZ1 := Lib.hid HZS.out.one; have HO5 := Lib.hid (Rc.Buf.upd HO4.out hu HG4.out (by decide)); clear hu hZ) | (refine wpList_load_row rfl 27 (.tmp 6) rfl (w.heap.size + 1) rfl 27 Z (0, 0) _ HG5.out Try.underlying27 rfl HZZI.out ?_) | (refine wpList_store_row rfl 27 (.tmp 4) (.tmp 83) rfl w.heap.size Z rfl rfl 27 zRec HZ5.out HZZI.out HZZZ.out HZZ1.out ?_; obtain ⟨w9, hw9⟩ : ∃ w', World.setRow w5 w.heap.size Z = w' := ⟨_, rfl⟩; have HEW9 := Lib.hid hw9; have hu := upd_row HZ5.out Z; rw [hw9] at hu ⊢; have HF9 := Lib.hid hu.at_; have HBF9 := Lib.hid (hu.to (Nat.le_refl _) HB5.out); have HO9 := Lib.hid (Rc.Buf.upd HO5.out hu HZ5.out (by decide)); clear hu hw9))
    refine bodyPost_ret_by (results_ct rfl _ _ w.heap.size _ Z (0, 0) _ rfl HF9.out Try.underlying27 rfl HZZI.out) rfl ?_
    refine .inl ⟨HE.out, Z, A4, c4, ?_, ?_, ?_, HBF9.out⟩
    · rfl
    · rw [HLF.out]; exact HZF.out
    · rw [HLF.out]; exact HO9.out
  · have HE := Lib.hid (show okF 2 b = false from decide_eq_false h32)
    have HXS := Lib.hid HX.out.recS
    have HQI := Lib.hid HXS.out.info
    have HQZ := Lib.hid (show zRec.size = X.size from zRecF.size.trans HXS.out.size.symm)
    have HQ1 := Lib.hid HXS.out.one
    have e1 : decide ((b.length : Int) < 32) = true := decide_eq_true (by omega)
    clear h32 hr0
    go_enter Try.func46, Try.ntmps46
    go_wp2_with (first | (refine wpList_box rfl rfl 27 _ _ rfl rfl (recC 2 0 z32 ⟨#[]⟩ none 0 0 0 0) zRec zeroRec rfl rfl rfl (recF rfl).info (recF rfl).one ?_; rw [HX0.out]) | (refine wpList_allocZ rfl 27 rfl zRec zeroRec ?_) | (refine wpList_load_row rfl 27 (.tmp 6) rfl (w.heap.size + 1) rfl 27 X (0, 0) _ HG.out Try.underlying27 rfl HQI.out ?_) | (refine wpList_store_row rfl 27 (.tmp 4) (.tmp 73) rfl w.heap.size X rfl rfl 27 zRec HZ.out HQI.out HQZ.out HQ1.out ?_; obtain ⟨w9, hw9⟩ : ∃ w', World.setRow w1 w.heap.size X = w' := ⟨_, rfl⟩; have HEW9 := Lib.hid hw9; have hu := upd_row HZ.out X; rw [hw9] at hu ⊢; have HF9 := Lib.hid hu.at_; have HBF9 := Lib.hid (hu.to (Nat.le_refl _) HB0.out); clear hu hw9))
    refine bodyPost_ret_by (results_ct rfl _ _ w.heap.size _ X (0, 0) _ rfl HF9.out Try.underlying27 rfl HQI.out) rfl ?_
    exact .inr ⟨HE.out, X, rfl, HXS.out, HBF9.out⟩
set_option maxRecDepth 100000 in
set_option maxHeartbeats 3200000 in
theorem read3 (A : Option Addr) (c : Nat) (b : List UInt8) (w : World) (hr : Rd w A b) (hl : b.length ≤ 65536) (hc : b.length ≤ c) :
    Calls Try.prog 46 #[.int .i64 3, .slice A b.length c] w (FillE 3 0 b w) := by
  obtain ⟨X, hX0⟩ : ∃ X, recC 3 0 z32 ⟨#[]⟩ none 0 0 0 0 = X := ⟨_, rfl⟩
  have hX : RecF X 3 0 z32 ⟨#[]⟩ none 0 0 0 0 := hX0 ▸ recF rfl
  have HX0 := Lib.hid hX0
  obtain ⟨w1, hw1⟩ : ∃ w1, (w.alloc (.cells zRec 27)).alloc (.cells X 27) = w1 := ⟨_, rfl⟩
  obtain ⟨hz, hg, hb0⟩ := run_blk2 w zRec X 27 27
  rw [hw1] at hg hz hb0
  have HR := Lib.hid (hr.below hb0)
  have HG := Lib.hid hg
  have HZ := Lib.hid hz
  have HB0 := Lib.hid hb0
  have hcc := fun i => blk_cell HG.out i
  have hff := fun i => blk_frozen HG.out i
  have hz1 := blk_lt HG.out
  have hz2 := blk_lt HZ.out
  have hr0 := hr
  have HX := Lib.hid hX
  clear hr hg hz hb0 hX hX0
  have HXS := Lib.hid HX.out.recS
  have HQI := Lib.hid HXS.out.info
  have HQZ := Lib.hid (show zRec.size = X.size from zRecF.size.trans HXS.out.size.symm)
  have HQ1 := Lib.hid HXS.out.one
  have h34 := HX.out.c34
  by_cases h0 : b.length = 0
  · have HE := Lib.hid (show okF 3 b = false from by show (textOk b 0 && _) = false; rw [text_empty h0]; rfl)
    have e0 : ((b.length : Int) == 0) = true := by rw [h0]; rfl
    clear h0 hr0
    go_enter Try.func46, Try.ntmps46
    go_wp2_with (first | (refine wpList_box rfl rfl 27 _ _ rfl rfl (recC 3 0 z32 ⟨#[]⟩ none 0 0 0 0) zRec zeroRec rfl rfl rfl (recF rfl).info (recF rfl).one ?_; rw [HX0.out]) | (refine wpList_allocZ rfl 27 rfl zRec zeroRec ?_) | (refine wpList_load_row rfl 27 (.tmp 6) rfl (w.heap.size + 1) rfl 27 X (0, 0) _ HG.out Try.underlying27 rfl HQI.out ?_) | (refine wpList_store_row rfl 27 (.tmp 4) (.tmp 36) rfl w.heap.size X rfl rfl 27 zRec HZ.out HQI.out HQZ.out HQ1.out ?_; obtain ⟨w9, hw9⟩ : ∃ w', World.setRow w1 w.heap.size X = w' := ⟨_, rfl⟩; have HEW9 := Lib.hid hw9; have hu := upd_row HZ.out X; rw [hw9] at hu ⊢; have HF9 := Lib.hid hu.at_; have HBF9 := Lib.hid (hu.to (Nat.le_refl _) HB0.out); clear hu hw9))
    refine bodyPost_ret_by (results_ct rfl _ _ w.heap.size _ X (0, 0) _ rfl HF9.out Try.underlying27 rfl HQI.out) rfl ?_
    exact .inr ⟨HE.out, X, rfl, HXS.out, HBF9.out⟩
  · have e0 : ((b.length : Int) == 0) = false := by rw [beq_eq_false_iff_ne]; omega
    obtain ⟨ad, rfl, hc0⟩ := HR.out.at_ 0 (by omega)
    have hbd := bt_bd b 0
    have hpos : 0 < b.length := by omega
    obtain ⟨q, hq⟩ : ∃ q : Nat, B.bt b 0 = (q : Int) := ⟨(B.bt b 0).toNat, by omega⟩
    rw [hq] at hc0 hbd
    have hc00 : w1.cell? ad = some (.int .u8 q) := by have h := hc0; rwa [show ad.add 0 = ad from rfl] at h
    have hw8 : IntKind.i64.wrap (q : Int) = (q : Int) := IntWalk.i64_in _ (by omega)
    have hw9 : IntKind.i64.wrap (1 + (q : Int)) = 1 + (q : Int) := IntWalk.i64_in _ (by omega)
    by_cases hlt : b.length < 1 + q
    · have HE := Lib.hid (show okF 3 b = false from by show (textOk b 0 && _) = false; rw [text_none hq hlt]; rfl)
      have e1 : decide ((b.length : Int) < 1 + (q : Int)) = true := decide_eq_true (by omega)
      clear h0 hr0 hq hlt
      go_enter Try.func46, Try.ntmps46
      go_wp2_with (first | (refine wpList_box rfl rfl 27 _ _ rfl rfl (recC 3 0 z32 ⟨#[]⟩ none 0 0 0 0) zRec zeroRec rfl rfl rfl (recF rfl).info (recF rfl).one ?_; rw [HX0.out]) | (refine wpList_allocZ rfl 27 rfl zRec zeroRec ?_) | (refine wpList_load_row rfl 27 (.tmp 6) rfl (w.heap.size + 1) rfl 27 X (0, 0) _ HG.out Try.underlying27 rfl HQI.out ?_) | (refine wpList_store_row rfl 27 (.tmp 4) (.tmp 36) rfl w.heap.size X rfl rfl 27 zRec HZ.out HQI.out HQZ.out HQ1.out ?_; obtain ⟨w9, hw9⟩ : ∃ w', World.setRow w1 w.heap.size X = w' := ⟨_, rfl⟩; have HEW9 := Lib.hid hw9; have hu := upd_row HZ.out X; rw [hw9] at hu ⊢; have HF9 := Lib.hid hu.at_; have HBF9 := Lib.hid (hu.to (Nat.le_refl _) HB0.out); clear hu hw9))
      refine bodyPost_ret_by (results_ct rfl _ _ w.heap.size _ X (0, 0) _ rfl HF9.out Try.underlying27 rfl HQI.out) rfl ?_
      exact .inr ⟨HE.out, X, rfl, HXS.out, HBF9.out⟩
    · have e1 : decide ((b.length : Int) < 1 + (q : Int)) = false := decide_eq_false (by omega)
      obtain ⟨ht1, ht2, ht3⟩ := text_ok hq (by omega) (show 1 + q ≤ b.length by omega)
      obtain ⟨A1, y1, c1, hy1, hcut1, hrd1, hyc1, hyl1⟩ := cutM (A := some ad) (l := b) (c := c) 1 (1 + (q : Int)) (by decide) (by omega) (by omega) hc
      obtain ⟨A', y, c', hy, hcut, hrd, hyc, hyl⟩ := cutF (A := some ad) (l := b) (c := c) (1 + (q : Int)) (by omega) (by omega) hc
      have htn : (1 + (q : Int)).toNat = 1 + q := by omega
      rw [htn] at hy hy1
      have HTS := Lib.hid (show textS b 0 = ⟨y1.toArray⟩ from by rw [ht2, hy1.out]; rfl)
      have HRS := Lib.hid (show restL b = y from by rw [ht3, hy.out])
      have HTO := Lib.hid ht1
      have hst := string_run c1 (hrd1 w1 HR.out)
      have HNM := Lib.hid (show nmF 3 b = ⟨y1.toArray⟩ from HTS.out)
      obtain ⟨X2, hX2⟩ : ∃ Z, X.setIfInBounds 34 (.string ⟨y1.toArray⟩) = Z := ⟨_, rfl⟩
      have hu := upd_cell HG.out 34 (.string ⟨y1.toArray⟩)
      obtain ⟨w2, hw2⟩ : ∃ w', w1.setCell ⟨w.heap.size + 1, 34, none⟩ (.string ⟨y1.toArray⟩) = w' := ⟨_, rfl⟩
      rw [hX2, hw2] at hu
      have HG2 := Lib.hid hu.at_
      have HZ2 := Lib.hid ((hu.off w.heap.size (by omega)).trans HZ.out)
      have HB2 := Lib.hid (hu.to (Nat.le_succ _) HB0.out)
      have HX2F := Lib.hid (show RecF X2 3 0 z32 ⟨y1.toArray⟩ none 0 0 0 0 from hX2 ▸ HX.out.setName _)
      clear hu hX2
      have HX2S := Lib.hid HX2F.out.recS
      have HPI := Lib.hid HX2S.out.info
      have HPZ := Lib.hid (show zRec.size = X2.size from zRecF.size.trans HX2S.out.size.symm)
      have HP1 := Lib.hid HX2S.out.one
      have HR2 := Lib.hid (hrd w2 (Rd.below (w := w) hr0 HB2.out))
      clear h0 hr0 hq hlt hy hy1 hrd hrd1 htn ht1 ht2 ht3 hyl1
      by_cases h32 : y.length = 32
      · have HE := Lib.hid (show okF 3 b = true from by show (textOk b 0 && decide ((restL b).length = 32)) = true; rw [HTO.out, HRS.out, decide_eq_true h32]; rfl)
        have e2 : decide ((y.length : Int) < 32) = false := decide_eq_false (by omega)
        have e3 : decide ((32 : Int) < (y.length : Int)) = false := decide_eq_false (by omega)
        have HTK := Lib.hid (show dF 3 b = y.take 32 from by show restL b = _; rw [HRS.out, List.take_of_length_le (by omega)])
        obtain ⟨cs, hcs⟩ : ∃ cs, (y.take 32).map encB = cs := ⟨_, rfl⟩
        have hcl : cs.length = 32 := by rw [← hcs]; simp; omega
        obtain ⟨Y, hY⟩ : ∃ Y, (splice X2.toList 2 cs).toArray = Y := ⟨_, rfl⟩
        have HYF := Lib.hid (show RecF Y 3 0 (y.take 32) ⟨y1.toArray⟩ none 0 0 0 0 from by rw [← hY, ← hcs]; exact HX2F.out.setD (by rw [List.length_take]; omega))
        have HYS := Lib.hid HYF.out.recS
        have HYI := Lib.hid HYS.out.info
        have HYZ := Lib.hid (show zRec.size = Y.size from zRecF.size.trans HYS.out.size.symm)
        have HY1 := Lib.hid HYS.out.one
        have HDG := Lib.hid (fun (W : World) (h : Rd W A' y) => (show Calls Try.prog 68 #[.slice A' y.length c'] W (Kept (.agg cs.toArray) W) from hcs ▸ refdigest_any A' c' y W h (by omega)))
        have HCI := Lib.hid (show (Try.prog.info? 25).map (·.size) = some cs.toArray.size by rw [List.size_toArray, hcl]; exact infoDig)
        have HC1 := Lib.hid (show cs.toArray.all (·.oneCell') = true by rw [← hcs]; exact all_oneCell_toArray (one_encs _))
        have hXS : X2.size = 38 := HX2F.out.size
        have HCL := Lib.hid hcl
        have HY := Lib.hid hY
        clear hcs hcl hY
        clear h32 hyl
        go_enter Try.func46, Try.ntmps46
        go_wp2_with (first | (refine wpList_box rfl rfl 27 _ _ rfl rfl (recC 3 0 z32 ⟨#[]⟩ none 0 0 0 0) zRec zeroRec rfl rfl rfl (recF rfl).info (recF rfl).one ?_; rw [HX0.out]) | (refine wpList_allocZ rfl 27 rfl zRec zeroRec ?_))
        refine (HDG.out _ HR2.out).mono ?_
        rintro e w3 ⟨rfl, hb⟩
        have HG3 := Lib.hid (blk_below HG2.out hb)
        have HZ3 := Lib.hid (blk_below HZ2.out hb)
        have HB3 := Lib.hid (below_step' HB2.out hb)
        have hu := upd_cells HG3.out 2 cs (by rw [HCL.out]; omega)
        obtain ⟨w4, hw4⟩ : ∃ w', World.setCells w3 (w.heap.size + 1) 2 cs = w' := ⟨_, rfl⟩
        rw [HY.out, hw4] at hu
        have HTH := Lib.hid (there_of HG3.out 2 cs.toArray.size (by rw [List.size_toArray, HCL.out]; omega))
        have HG4 := Lib.hid hu.at_
        have HZ4 := Lib.hid ((hu.off w.heap.size (by omega)).trans HZ3.out)
        have HB4 := Lib.hid (hu.to (Nat.le_succ _) HB3.out)
        have HW4 := Lib.hid hw4
        clear hu hb hw4
        go_wp2_with (first | (refine wpList_store_mid rfl 25 (.tmp 76) (.tmp 75) rfl (w.heap.size + 1) 2 cs.toArray rfl rfl HTH.out HCI.out HC1.out ?_; rw [show cs.toArray.toList = cs from rfl, HW4.out]) | (refine wpList_load_row rfl 27 (.tmp 6) rfl (w.heap.size + 1) rfl 27 Y (0, 0) _ HG4.out Try.underlying27 rfl HYI.out ?_) | (refine wpList_store_row rfl 27 (.tmp 4) (.tmp 83) rfl w.heap.size Y rfl rfl 27 zRec HZ4.out HYI.out HYZ.out HY1.out ?_; obtain ⟨w9, hw9⟩ : ∃ w', World.setRow w4 w.heap.size Y = w' := ⟨_, rfl⟩; have HEW9 := Lib.hid hw9; have hu := upd_row HZ4.out Y; rw [hw9] at hu ⊢; have HF9 := Lib.hid hu.at_; have HBF9 := Lib.hid (hu.to (Nat.le_refl _) HB4.out); clear hu hw9))
        refine bodyPost_ret_by (results_ct rfl _ _ w.heap.size _ Y (0, 0) _ rfl HF9.out Try.underlying27 rfl HYI.out) rfl ?_
        refine .inl ⟨HE.out, Y, none, 0, rfl, ?_, Buf.nil _ _, HBF9.out⟩
        rw [HTK.out, HNM.out]
        exact HYF.out
      · have HE := Lib.hid (show okF 3 b = false from by show (textOk b 0 && decide ((restL b).length = 32)) = false; rw [HTO.out, HRS.out, decide_eq_false h32]; rfl)
        by_cases hlt : y.length < 32
        · have e2 : decide ((y.length : Int) < 32) = true := decide_eq_true (by omega)
          clear h32 hlt hyl
          go_enter Try.func46, Try.ntmps46
          go_wp2_with (first | (refine wpList_box rfl rfl 27 _ _ rfl rfl (recC 3 0 z32 ⟨#[]⟩ none 0 0 0 0) zRec zeroRec rfl rfl rfl (recF rfl).info (recF rfl).one ?_; rw [HX0.out]) | (refine wpList_allocZ rfl 27 rfl zRec zeroRec ?_) | (refine wpList_load_row rfl 27 (.tmp 6) rfl (w.heap.size + 1) rfl 27 X2 (0, 0) _ HG2.out Try.underlying27 rfl HPI.out ?_) | (refine wpList_store_row rfl 27 (.tmp 4) (.tmp 73) rfl w.heap.size X2 rfl rfl 27 zRec HZ2.out HPI.out HPZ.out HP1.out ?_; obtain ⟨w9, hw9⟩ : ∃ w', World.setRow w2 w.heap.size X2 = w' := ⟨_, rfl⟩; have HEW9 := Lib.hid hw9; have hu := upd_row HZ2.out X2; rw [hw9] at hu ⊢; have HF9 := Lib.hid hu.at_; have HBF9 := Lib.hid (hu.to (Nat.le_refl _) HB2.out); clear hu hw9))
          refine bodyPost_ret_by (results_ct rfl _ _ w.heap.size _ X2 (0, 0) _ rfl HF9.out Try.underlying27 rfl HPI.out) rfl ?_
          exact .inr ⟨HE.out, X2, rfl, HX2S.out, HBF9.out⟩
        · have e2 : decide ((y.length : Int) < 32) = false := decide_eq_false (by omega)
          have e3 : decide ((32 : Int) < (y.length : Int)) = true := decide_eq_true (by omega)
          clear h32 hlt hyl
          go_enter Try.func46, Try.ntmps46
          go_wp2_with (first | (refine wpList_box rfl rfl 27 _ _ rfl rfl (recC 3 0 z32 ⟨#[]⟩ none 0 0 0 0) zRec zeroRec rfl rfl rfl (recF rfl).info (recF rfl).one ?_; rw [HX0.out]) | (refine wpList_allocZ rfl 27 rfl zRec zeroRec ?_) | (refine wpList_load_row rfl 27 (.tmp 6) rfl (w.heap.size + 1) rfl 27 X2 (0, 0) _ HG2.out Try.underlying27 rfl HPI.out ?_) | (refine wpList_store_row rfl 27 (.tmp 4) (.tmp 73) rfl w.heap.size X2 rfl rfl 27 zRec HZ2.out HPI.out HPZ.out HP1.out ?_; obtain ⟨w9, hw9⟩ : ∃ w', World.setRow w2 w.heap.size X2 = w' := ⟨_, rfl⟩; have HEW9 := Lib.hid hw9; have hu := upd_row HZ2.out X2; rw [hw9] at hu ⊢; have HF9 := Lib.hid hu.at_; have HBF9 := Lib.hid (hu.to (Nat.le_refl _) HB2.out); clear hu hw9))
          refine bodyPost_ret_by (results_ct rfl _ _ w.heap.size _ X2 (0, 0) _ rfl HF9.out Try.underlying27 rfl HPI.out) rfl ?_
          exact .inr ⟨HE.out, X2, rfl, HX2S.out, HBF9.out⟩
set_option maxRecDepth 100000 in
set_option maxHeartbeats 3200000 in
theorem read4 (A : Option Addr) (c : Nat) (b : List UInt8) (w : World) (hr : Rd w A b) (hl : b.length ≤ 65536) (hc : b.length ≤ c) :
    Calls Try.prog 46 #[.int .i64 4, .slice A b.length c] w (FillE 4 0 b w) := by
  obtain ⟨X, hX0⟩ : ∃ X, recC 4 0 z32 ⟨#[]⟩ none 0 0 0 0 = X := ⟨_, rfl⟩
  have hX : RecF X 4 0 z32 ⟨#[]⟩ none 0 0 0 0 := hX0 ▸ recF rfl
  have HX0 := Lib.hid hX0
  obtain ⟨w1, hw1⟩ : ∃ w1, (w.alloc (.cells zRec 27)).alloc (.cells X 27) = w1 := ⟨_, rfl⟩
  obtain ⟨hz, hg, hb0⟩ := run_blk2 w zRec X 27 27
  rw [hw1] at hg hz hb0
  have HR := Lib.hid (hr.below hb0)
  have HG := Lib.hid hg
  have HZ := Lib.hid hz
  have HB0 := Lib.hid hb0
  have hcc := fun i => blk_cell HG.out i
  have hff := fun i => blk_frozen HG.out i
  have hz1 := blk_lt HG.out
  have hz2 := blk_lt HZ.out
  have hr0 := hr
  have HX := Lib.hid hX
  clear hr hg hz hb0 hX hX0
  have HXS := Lib.hid HX.out.recS
  have HQI := Lib.hid HXS.out.info
  have HQZ := Lib.hid (show zRec.size = X.size from zRecF.size.trans HXS.out.size.symm)
  have HQ1 := Lib.hid HXS.out.one
  have h34 := HX.out.c34
  by_cases h0 : b.length = 0
  · have HE := Lib.hid (show okF 4 b = false from by show (textOk b 0 && _) = false; rw [text_empty h0]; rfl)
    have e0 : ((b.length : Int) == 0) = true := by rw [h0]; rfl
    clear h0 hr0
    go_enter Try.func46, Try.ntmps46
    go_wp2_with (first | (refine wpList_box rfl rfl 27 _ _ rfl rfl (recC 4 0 z32 ⟨#[]⟩ none 0 0 0 0) zRec zeroRec rfl rfl rfl (recF rfl).info (recF rfl).one ?_; rw [HX0.out]) | (refine wpList_allocZ rfl 27 rfl zRec zeroRec ?_) | (refine wpList_load_row rfl 27 (.tmp 6) rfl (w.heap.size + 1) rfl 27 X (0, 0) _ HG.out Try.underlying27 rfl HQI.out ?_) | (refine wpList_store_row rfl 27 (.tmp 4) (.tmp 36) rfl w.heap.size X rfl rfl 27 zRec HZ.out HQI.out HQZ.out HQ1.out ?_; obtain ⟨w9, hw9⟩ : ∃ w', World.setRow w1 w.heap.size X = w' := ⟨_, rfl⟩; have HEW9 := Lib.hid hw9; have hu := upd_row HZ.out X; rw [hw9] at hu ⊢; have HF9 := Lib.hid hu.at_; have HBF9 := Lib.hid (hu.to (Nat.le_refl _) HB0.out); clear hu hw9))
    refine bodyPost_ret_by (results_ct rfl _ _ w.heap.size _ X (0, 0) _ rfl HF9.out Try.underlying27 rfl HQI.out) rfl ?_
    exact .inr ⟨HE.out, X, rfl, HXS.out, HBF9.out⟩
  · have e0 : ((b.length : Int) == 0) = false := by rw [beq_eq_false_iff_ne]; omega
    obtain ⟨ad, rfl, hc0⟩ := HR.out.at_ 0 (by omega)
    have hbd := bt_bd b 0
    have hpos : 0 < b.length := by omega
    obtain ⟨q, hq⟩ : ∃ q : Nat, B.bt b 0 = (q : Int) := ⟨(B.bt b 0).toNat, by omega⟩
    rw [hq] at hc0 hbd
    have hc00 : w1.cell? ad = some (.int .u8 q) := by have h := hc0; rwa [show ad.add 0 = ad from rfl] at h
    have hw8 : IntKind.i64.wrap (q : Int) = (q : Int) := IntWalk.i64_in _ (by omega)
    have hw9 : IntKind.i64.wrap (1 + (q : Int)) = 1 + (q : Int) := IntWalk.i64_in _ (by omega)
    by_cases hlt : b.length < 1 + q
    · have HE := Lib.hid (show okF 4 b = false from by show (textOk b 0 && _) = false; rw [text_none hq hlt]; rfl)
      have e1 : decide ((b.length : Int) < 1 + (q : Int)) = true := decide_eq_true (by omega)
      clear h0 hr0 hq hlt
      go_enter Try.func46, Try.ntmps46
      go_wp2_with (first | (refine wpList_box rfl rfl 27 _ _ rfl rfl (recC 4 0 z32 ⟨#[]⟩ none 0 0 0 0) zRec zeroRec rfl rfl rfl (recF rfl).info (recF rfl).one ?_; rw [HX0.out]) | (refine wpList_allocZ rfl 27 rfl zRec zeroRec ?_) | (refine wpList_load_row rfl 27 (.tmp 6) rfl (w.heap.size + 1) rfl 27 X (0, 0) _ HG.out Try.underlying27 rfl HQI.out ?_) | (refine wpList_store_row rfl 27 (.tmp 4) (.tmp 36) rfl w.heap.size X rfl rfl 27 zRec HZ.out HQI.out HQZ.out HQ1.out ?_; obtain ⟨w9, hw9⟩ : ∃ w', World.setRow w1 w.heap.size X = w' := ⟨_, rfl⟩; have HEW9 := Lib.hid hw9; have hu := upd_row HZ.out X; rw [hw9] at hu ⊢; have HF9 := Lib.hid hu.at_; have HBF9 := Lib.hid (hu.to (Nat.le_refl _) HB0.out); clear hu hw9))
      refine bodyPost_ret_by (results_ct rfl _ _ w.heap.size _ X (0, 0) _ rfl HF9.out Try.underlying27 rfl HQI.out) rfl ?_
      exact .inr ⟨HE.out, X, rfl, HXS.out, HBF9.out⟩
    · have e1 : decide ((b.length : Int) < 1 + (q : Int)) = false := decide_eq_false (by omega)
      obtain ⟨ht1, ht2, ht3⟩ := text_ok hq (by omega) (show 1 + q ≤ b.length by omega)
      obtain ⟨A1, y1, c1, hy1, hcut1, hrd1, hyc1, hyl1⟩ := cutM (A := some ad) (l := b) (c := c) 1 (1 + (q : Int)) (by decide) (by omega) (by omega) hc
      obtain ⟨A', y, c', hy, hcut, hrd, hyc, hyl⟩ := cutF (A := some ad) (l := b) (c := c) (1 + (q : Int)) (by omega) (by omega) hc
      have htn : (1 + (q : Int)).toNat = 1 + q := by omega
      rw [htn] at hy hy1
      have HTS := Lib.hid (show textS b 0 = ⟨y1.toArray⟩ from by rw [ht2, hy1.out]; rfl)
      have HRS := Lib.hid (show restL b = y from by rw [ht3, hy.out])
      have HTO := Lib.hid ht1
      have hst := string_run c1 (hrd1 w1 HR.out)
      have HNM := Lib.hid (show nmF 4 b = ⟨y1.toArray⟩ from HTS.out)
      obtain ⟨X2, hX2⟩ : ∃ Z, X.setIfInBounds 34 (.string ⟨y1.toArray⟩) = Z := ⟨_, rfl⟩
      have hu := upd_cell HG.out 34 (.string ⟨y1.toArray⟩)
      obtain ⟨w2, hw2⟩ : ∃ w', w1.setCell ⟨w.heap.size + 1, 34, none⟩ (.string ⟨y1.toArray⟩) = w' := ⟨_, rfl⟩
      rw [hX2, hw2] at hu
      have HG2 := Lib.hid hu.at_
      have HZ2 := Lib.hid ((hu.off w.heap.size (by omega)).trans HZ.out)
      have HB2 := Lib.hid (hu.to (Nat.le_succ _) HB0.out)
      have HX2F := Lib.hid (show RecF X2 4 0 z32 ⟨y1.toArray⟩ none 0 0 0 0 from hX2 ▸ HX.out.setName _)
      clear hu hX2
      have HX2S := Lib.hid HX2F.out.recS
      have HPI := Lib.hid HX2S.out.info
      have HPZ := Lib.hid (show zRec.size = X2.size from zRecF.size.trans HX2S.out.size.symm)
      have HP1 := Lib.hid HX2S.out.one
      have HR2 := Lib.hid (hrd w2 (Rd.below (w := w) hr0 HB2.out))
      clear h0 hr0 hq hlt hy hy1 hrd hrd1 htn ht1 ht2 ht3 hyl1
      by_cases h0l : y.length = 0
      · have HE := Lib.hid (show okF 4 b = true from by show (textOk b 0 && decide ((restL b).length = 0)) = true; rw [HTO.out, HRS.out, decide_eq_true h0l]; rfl)
        have e2 : ((y.length : Int) == 0) = true := by rw [h0l]; rfl
        clear h0l hyl
        go_enter Try.func46, Try.ntmps46
        go_wp2_with (first | (refine wpList_box rfl rfl 27 _ _ rfl rfl (recC 4 0 z32 ⟨#[]⟩ none 0 0 0 0) zRec zeroRec rfl rfl rfl (recF rfl).info (recF rfl).one ?_; rw [HX0.out]) | (refine wpList_allocZ rfl 27 rfl zRec zeroRec ?_) | (refine wpList_load_row rfl 27 (.tmp 6) rfl (w.heap.size + 1) rfl 27 X2 (0, 0) _ HG2.out Try.underlying27 rfl HPI.out ?_) | (refine wpList_store_row rfl 27 (.tmp 4) (.tmp 54) rfl w.heap.size X2 rfl rfl 27 zRec HZ2.out HPI.out HPZ.out HP1.out ?_; obtain ⟨w9, hw9⟩ : ∃ w', World.setRow w2 w.heap.size X2 = w' := ⟨_, rfl⟩; have HEW9 := Lib.hid hw9; have hu := upd_row HZ2.out X2; rw [hw9] at hu ⊢; have HF9 := Lib.hid hu.at_; have HBF9 := Lib.hid (hu.to (Nat.le_refl _) HB2.out); clear hu hw9))
        refine bodyPost_ret_by (results_ct rfl _ _ w.heap.size _ X2 (0, 0) _ rfl HF9.out Try.underlying27 rfl HPI.out) rfl ?_
        refine .inl ⟨HE.out, X2, none, 0, rfl, ?_, Buf.nil _ _, HBF9.out⟩
        rw [HNM.out]
        exact HX2F.out
      · have HE := Lib.hid (show okF 4 b = false from by show (textOk b 0 && decide ((restL b).length = 0)) = false; rw [HTO.out, HRS.out, decide_eq_false h0l]; rfl)
        have e2 : ((y.length : Int) == 0) = false := by rw [beq_eq_false_iff_ne]; omega
        clear h0l hyl
        go_enter Try.func46, Try.ntmps46
        go_wp2_with (first | (refine wpList_box rfl rfl 27 _ _ rfl rfl (recC 4 0 z32 ⟨#[]⟩ none 0 0 0 0) zRec zeroRec rfl rfl rfl (recF rfl).info (recF rfl).one ?_; rw [HX0.out]) | (refine wpList_allocZ rfl 27 rfl zRec zeroRec ?_) | (refine wpList_load_row rfl 27 (.tmp 6) rfl (w.heap.size + 1) rfl 27 X2 (0, 0) _ HG2.out Try.underlying27 rfl HPI.out ?_) | (refine wpList_store_row rfl 27 (.tmp 4) (.tmp 54) rfl w.heap.size X2 rfl rfl 27 zRec HZ2.out HPI.out HPZ.out HP1.out ?_; obtain ⟨w9, hw9⟩ : ∃ w', World.setRow w2 w.heap.size X2 = w' := ⟨_, rfl⟩; have HEW9 := Lib.hid hw9; have hu := upd_row HZ2.out X2; rw [hw9] at hu ⊢; have HF9 := Lib.hid hu.at_; have HBF9 := Lib.hid (hu.to (Nat.le_refl _) HB2.out); clear hu hw9))
        refine bodyPost_ret_by (results_ct rfl _ _ w.heap.size _ X2 (0, 0) _ rfl HF9.out Try.underlying27 rfl HPI.out) rfl ?_
        exact .inr ⟨HE.out, X2, rfl, HX2S.out, HBF9.out⟩
set_option maxRecDepth 100000 in
set_option maxHeartbeats 3200000 in
theorem read6 (A : Option Addr) (c : Nat) (b : List UInt8) (w : World) (hr : Rd w A b) (hl : b.length ≤ 65536) (hc : b.length ≤ c) :
    Calls Try.prog 46 #[.int .i64 6, .slice A b.length c] w (FillE 6 0 b w) := by
  obtain ⟨X, hX0⟩ : ∃ X, recC 6 0 z32 ⟨#[]⟩ none 0 0 0 0 = X := ⟨_, rfl⟩
  have hX : RecF X 6 0 z32 ⟨#[]⟩ none 0 0 0 0 := hX0 ▸ recF rfl
  have HX0 := Lib.hid hX0
  obtain ⟨w1, hw1⟩ : ∃ w1, (w.alloc (.cells zRec 27)).alloc (.cells X 27) = w1 := ⟨_, rfl⟩
  obtain ⟨hz, hg, hb0⟩ := run_blk2 w zRec X 27 27
  rw [hw1] at hg hz hb0
  have HR := Lib.hid (hr.below hb0)
  have HG := Lib.hid hg
  have HZ := Lib.hid hz
  have HB0 := Lib.hid hb0
  have hcc := fun i => blk_cell HG.out i
  have hff := fun i => blk_frozen HG.out i
  have hz1 := blk_lt HG.out
  have hz2 := blk_lt HZ.out
  have hr0 := hr
  have HX := Lib.hid hX
  clear hr hg hz hb0 hX hX0
  by_cases h8 : b.length = 8
  · have HE := Lib.hid (show okF 6 b = true from decide_eq_true h8)
    have e0 : ((b.length : Int) != 8) = false := by rw [h8]; rfl
    have T1 := Lib.hid (R01.take_any A c b 0 4 w1 (by omega) HR.out)
    have T2 := Lib.hid (R01.take_any A c b 4 4 w1 (by omega) HR.out)
    have L1 := takeN_lt4 b 0
    have L2 := takeN_lt4 b 4
    have HNF := Lib.hid (show nF 6 b = takeN b 0 4 ∧ zF 6 b = takeN b 4 4 from ⟨by show (numN b 0 4 : Int) = _; unfold numN; rw [if_pos (by omega)], by show (numN b 4 4 : Int) = _; unfold numN; rw [if_pos (by omega)]⟩)
    generalize takeN b 0 4 = n1 at *
    generalize takeN b 4 4 = n2 at *
    generalize takeOk b 0 4 = k1 at *
    generalize takeOk b 4 4 = k2 at *
    have hv1 : IntKind.i64.wrap (n1 : Int) = (n1 : Int) := IntWalk.i64_in _ (by omega)
    have hv2 : IntKind.i64.wrap (n2 : Int) = (n2 : Int) := IntWalk.i64_in _ (by omega)
    have h36 := HX.out.c36
    obtain ⟨X2, hX2⟩ : ∃ Z, X.setIfInBounds 36 (.int .i64 n1) = Z := ⟨_, rfl⟩
    have hu := upd_cell HG.out 36 (.int .i64 n1)
    obtain ⟨w2, hw2⟩ : ∃ w', w1.setCell ⟨w.heap.size + 1, 36, none⟩ (.int .i64 n1) = w' := ⟨_, rfl⟩
    rw [hX2, hw2] at hu
    have HG2 := Lib.hid hu.at_
    have HZ2 := Lib.hid ((hu.off w.heap.size (by omega)).trans HZ.out)
    have HB2 := Lib.hid (hu.to (Nat.le_succ _) HB0.out)
    have HX2F := Lib.hid (show RecF X2 6 0 z32 ⟨#[]⟩ none 0 0 n1 0 from hX2 ▸ HX.out.setN n1)
    clear hu hX2
    have hcc2 := fun i => blk_cell HG2.out i
    have hff2 := fun i => blk_frozen HG2.out i
    have h37 := HX2F.out.c37
    obtain ⟨X3, hX3⟩ : ∃ Z, X2.setIfInBounds 37 (.int .i64 n2) = Z := ⟨_, rfl⟩
    have hu := upd_cell HG2.out 37 (.int .i64 n2)
    obtain ⟨w3, hw3⟩ : ∃ w', w2.setCell ⟨w.heap.size + 1, 37, none⟩ (.int .i64 n2) = w' := ⟨_, rfl⟩
    rw [hX3, hw3] at hu
    have HG3 := Lib.hid hu.at_
    have HZ3 := Lib.hid ((hu.off w.heap.size (by omega)).trans HZ2.out)
    have HB3 := Lib.hid (hu.to (Nat.le_succ _) HB2.out)
    have HX3F := Lib.hid (show RecF X3 6 0 z32 ⟨#[]⟩ none 0 0 n1 n2 from hX3 ▸ HX2F.out.setZ n2)
    clear hu hX3
    have HYS := Lib.hid HX3F.out.recS
    have HYI := Lib.hid HYS.out.info
    have HYZ := Lib.hid (show zRec.size = X3.size from zRecF.size.trans HYS.out.size.symm)
    have HY1 := Lib.hid HYS.out.one
    clear hr0 h8
    go_enter Try.func46, Try.ntmps46
    go_wp2_with (first | (refine wpList_box rfl rfl 27 _ _ rfl rfl (recC 6 0 z32 ⟨#[]⟩ none 0 0 0 0) zRec zeroRec rfl rfl rfl (recF rfl).info (recF rfl).one ?_; rw [HX0.out]) | (refine wpList_allocZ rfl 27 rfl zRec zeroRec ?_))
    refine T1.out.mono ?_
    rintro e w4 ⟨rfl, hw4⟩
    rw [hw4]
    clear hw4 w4
    go_wp2_with fail
    refine T2.out.mono ?_
    rintro e w4 ⟨rfl, hw4⟩
    rw [hw4]
    clear hw4 w4
    go_wp2_with (first | (refine wpList_load_row rfl 27 (.tmp 6) rfl (w.heap.size + 1) rfl 27 X3 (0, 0) _ HG3.out Try.underlying27 rfl HYI.out ?_) | (refine wpList_store_row rfl 27 (.tmp 4) (.tmp 125) rfl w.heap.size X3 rfl rfl 27 zRec HZ3.out HYI.out HYZ.out HY1.out ?_; obtain ⟨w9, hw9⟩ : ∃ w', World.setRow w3 w.heap.size X3 = w' := ⟨_, rfl⟩; have HEW9 := Lib.hid hw9; have hu := upd_row HZ3.out X3; rw [hw9] at hu ⊢; have HF9 := Lib.hid hu.at_; have HBF9 := Lib.hid (hu.to (Nat.le_refl _) HB3.out); clear hu hw9))
    refine bodyPost_ret_by (results_ct rfl _ _ w.heap.size _ X3 (0, 0) _ rfl HF9.out Try.underlying27 rfl HYI.out) rfl ?_
    refine .inl ⟨HE.out, X3, none, 0, rfl, ?_, Buf.nil _ _, HBF9.out⟩
    rw [HNF.out.1, HNF.out.2]
    exact HX3F.out
  · have HE := Lib.hid (show okF 6 b = false from decide_eq_false h8)
    have e0 : ((b.length : Int) != 8) = true := by rw [bne_iff_ne]; omega
    have HXS := Lib.hid HX.out.recS
    have HQI := Lib.hid HXS.out.info
    have HQZ := Lib.hid (show zRec.size = X.size from zRecF.size.trans HXS.out.size.symm)
    have HQ1 := Lib.hid HXS.out.one
    clear h8 hr0
    go_enter Try.func46, Try.ntmps46
    go_wp2_with (first | (refine wpList_box rfl rfl 27 _ _ rfl rfl (recC 6 0 z32 ⟨#[]⟩ none 0 0 0 0) zRec zeroRec rfl rfl rfl (recF rfl).info (recF rfl).one ?_; rw [HX0.out]) | (refine wpList_allocZ rfl 27 rfl zRec zeroRec ?_) | (refine wpList_load_row rfl 27 (.tmp 6) rfl (w.heap.size + 1) rfl 27 X (0, 0) _ HG.out Try.underlying27 rfl HQI.out ?_) | (refine wpList_store_row rfl 27 (.tmp 4) (.tmp 108) rfl w.heap.size X rfl rfl 27 zRec HZ.out HQI.out HQZ.out HQ1.out ?_; obtain ⟨w9, hw9⟩ : ∃ w', World.setRow w1 w.heap.size X = w' := ⟨_, rfl⟩; have HEW9 := Lib.hid hw9; have hu := upd_row HZ.out X; rw [hw9] at hu ⊢; have HF9 := Lib.hid hu.at_; have HBF9 := Lib.hid (hu.to (Nat.le_refl _) HB0.out); clear hu hw9))
    refine bodyPost_ret_by (results_ct rfl _ _ w.heap.size _ X (0, 0) _ rfl HF9.out Try.underlying27 rfl HQI.out) rfl ?_
    exact .inr ⟨HE.out, X, rfl, HXS.out, HBF9.out⟩
set_option maxRecDepth 100000 in
set_option maxHeartbeats 3200000 in
theorem read8 (A : Option Addr) (c : Nat) (b : List UInt8) (w : World) (hr : Rd w A b) (hl : b.length ≤ 65536) (hc : b.length ≤ c) :
    Calls Try.prog 46 #[.int .i64 8, .slice A b.length c] w (FillE 8 0 b w) := by
  obtain ⟨X, hX0⟩ : ∃ X, recC 8 0 z32 ⟨#[]⟩ none 0 0 0 0 = X := ⟨_, rfl⟩
  have hX : RecF X 8 0 z32 ⟨#[]⟩ none 0 0 0 0 := hX0 ▸ recF rfl
  have HX0 := Lib.hid hX0
  obtain ⟨w1, hw1⟩ : ∃ w1, (w.alloc (.cells zRec 27)).alloc (.cells X 27) = w1 := ⟨_, rfl⟩
  obtain ⟨hz, hg, hb0⟩ := run_blk2 w zRec X 27 27
  rw [hw1] at hg hz hb0
  have HR := Lib.hid (hr.below hb0)
  have HG := Lib.hid hg
  have HZ := Lib.hid hz
  have HB0 := Lib.hid hb0
  have hcc := fun i => blk_cell HG.out i
  have hff := fun i => blk_frozen HG.out i
  have hz1 := blk_lt HG.out
  have hz2 := blk_lt HZ.out
  have hr0 := hr
  have HX := Lib.hid hX
  clear hr hg hz hb0 hX hX0
  by_cases h8 : b.length = 8
  · have HE := Lib.hid (show okF 8 b = true from decide_eq_true h8)
    have e0 : ((b.length : Int) != 8) = false := by rw [h8]; rfl
    have T1 := Lib.hid (R01.take_any A c b 0 4 w1 (by omega) HR.out)
    have T2 := Lib.hid (R01.take_any A c b 4 4 w1 (by omega) HR.out)
    have L1 := takeN_lt4 b 0
    have L2 := takeN_lt4 b 4
    have HNF := Lib.hid (show nF 8 b = takeN b 0 4 ∧ zF 8 b = takeN b 4 4 from ⟨by show (numN b 0 4 : Int) = _; unfold numN; rw [if_pos (by omega)], by show (numN b 4 4 : Int) = _; unfold numN; rw [if_pos (by omega)]⟩)
    generalize takeN b 0 4 = n1 at *
    generalize takeN b 4 4 = n2 at *
    generalize takeOk b 0 4 = k1 at *
    generalize takeOk b 4 4 = k2 at *
    have hv1 : IntKind.i64.wrap (n1 : Int) = (n1 : Int) := IntWalk.i64_in _ (by omega)
    have hv2 : IntKind.i64.wrap (n2 : Int) = (n2 : Int) := IntWalk.i64_in _ (by omega)
    have h36 := HX.out.c36
    obtain ⟨X2, hX2⟩ : ∃ Z, X.setIfInBounds 36 (.int .i64 n1) = Z := ⟨_, rfl⟩
    have hu := upd_cell HG.out 36 (.int .i64 n1)
    obtain ⟨w2, hw2⟩ : ∃ w', w1.setCell ⟨w.heap.size + 1, 36, none⟩ (.int .i64 n1) = w' := ⟨_, rfl⟩
    rw [hX2, hw2] at hu
    have HG2 := Lib.hid hu.at_
    have HZ2 := Lib.hid ((hu.off w.heap.size (by omega)).trans HZ.out)
    have HB2 := Lib.hid (hu.to (Nat.le_succ _) HB0.out)
    have HX2F := Lib.hid (show RecF X2 8 0 z32 ⟨#[]⟩ none 0 0 n1 0 from hX2 ▸ HX.out.setN n1)
    clear hu hX2
    have hcc2 := fun i => blk_cell HG2.out i
    have hff2 := fun i => blk_frozen HG2.out i
    have h37 := HX2F.out.c37
    obtain ⟨X3, hX3⟩ : ∃ Z, X2.setIfInBounds 37 (.int .i64 n2) = Z := ⟨_, rfl⟩
    have hu := upd_cell HG2.out 37 (.int .i64 n2)
    obtain ⟨w3, hw3⟩ : ∃ w', w2.setCell ⟨w.heap.size + 1, 37, none⟩ (.int .i64 n2) = w' := ⟨_, rfl⟩
    rw [hX3, hw3] at hu
    have HG3 := Lib.hid hu.at_
    have HZ3 := Lib.hid ((hu.off w.heap.size (by omega)).trans HZ2.out)
    have HB3 := Lib.hid (hu.to (Nat.le_succ _) HB2.out)
    have HX3F := Lib.hid (show RecF X3 8 0 z32 ⟨#[]⟩ none 0 0 n1 n2 from hX3 ▸ HX2F.out.setZ n2)
    clear hu hX3
    have HYS := Lib.hid HX3F.out.recS
    have HYI := Lib.hid HYS.out.info
    have HYZ := Lib.hid (show zRec.size = X3.size from zRecF.size.trans HYS.out.size.symm)
    have HY1 := Lib.hid HYS.out.one
    clear hr0 h8
    go_enter Try.func46, Try.ntmps46
    go_wp2_with (first | (refine wpList_box rfl rfl 27 _ _ rfl rfl (recC 8 0 z32 ⟨#[]⟩ none 0 0 0 0) zRec zeroRec rfl rfl rfl (recF rfl).info (recF rfl).one ?_; rw [HX0.out]) | (refine wpList_allocZ rfl 27 rfl zRec zeroRec ?_))
    refine T1.out.mono ?_
    rintro e w4 ⟨rfl, hw4⟩
    rw [hw4]
    clear hw4 w4
    go_wp2_with fail
    refine T2.out.mono ?_
    rintro e w4 ⟨rfl, hw4⟩
    rw [hw4]
    clear hw4 w4
    go_wp2_with (first | (refine wpList_load_row rfl 27 (.tmp 6) rfl (w.heap.size + 1) rfl 27 X3 (0, 0) _ HG3.out Try.underlying27 rfl HYI.out ?_) | (refine wpList_store_row rfl 27 (.tmp 4) (.tmp 125) rfl w.heap.size X3 rfl rfl 27 zRec HZ3.out HYI.out HYZ.out HY1.out ?_; obtain ⟨w9, hw9⟩ : ∃ w', World.setRow w3 w.heap.size X3 = w' := ⟨_, rfl⟩; have HEW9 := Lib.hid hw9; have hu := upd_row HZ3.out X3; rw [hw9] at hu ⊢; have HF9 := Lib.hid hu.at_; have HBF9 := Lib.hid (hu.to (Nat.le_refl _) HB3.out); clear hu hw9))
    refine bodyPost_ret_by (results_ct rfl _ _ w.heap.size _ X3 (0, 0) _ rfl HF9.out Try.underlying27 rfl HYI.out) rfl ?_
    refine .inl ⟨HE.out, X3, none, 0, rfl, ?_, Buf.nil _ _, HBF9.out⟩
    rw [HNF.out.1, HNF.out.2]
    exact HX3F.out
  · have HE := Lib.hid (show okF 8 b = false from decide_eq_false h8)
    have e0 : ((b.length : Int) != 8) = true := by rw [bne_iff_ne]; omega
    have HXS := Lib.hid HX.out.recS
    have HQI := Lib.hid HXS.out.info
    have HQZ := Lib.hid (show zRec.size = X.size from zRecF.size.trans HXS.out.size.symm)
    have HQ1 := Lib.hid HXS.out.one
    clear h8 hr0
    go_enter Try.func46, Try.ntmps46
    go_wp2_with (first | (refine wpList_box rfl rfl 27 _ _ rfl rfl (recC 8 0 z32 ⟨#[]⟩ none 0 0 0 0) zRec zeroRec rfl rfl rfl (recF rfl).info (recF rfl).one ?_; rw [HX0.out]) | (refine wpList_allocZ rfl 27 rfl zRec zeroRec ?_) | (refine wpList_load_row rfl 27 (.tmp 6) rfl (w.heap.size + 1) rfl 27 X (0, 0) _ HG.out Try.underlying27 rfl HQI.out ?_) | (refine wpList_store_row rfl 27 (.tmp 4) (.tmp 108) rfl w.heap.size X rfl rfl 27 zRec HZ.out HQI.out HQZ.out HQ1.out ?_; obtain ⟨w9, hw9⟩ : ∃ w', World.setRow w1 w.heap.size X = w' := ⟨_, rfl⟩; have HEW9 := Lib.hid hw9; have hu := upd_row HZ.out X; rw [hw9] at hu ⊢; have HF9 := Lib.hid hu.at_; have HBF9 := Lib.hid (hu.to (Nat.le_refl _) HB0.out); clear hu hw9))
    refine bodyPost_ret_by (results_ct rfl _ _ w.heap.size _ X (0, 0) _ rfl HF9.out Try.underlying27 rfl HQI.out) rfl ?_
    exact .inr ⟨HE.out, X, rfl, HXS.out, HBF9.out⟩
set_option maxRecDepth 100000 in
set_option maxHeartbeats 3200000 in
theorem read7 (A : Option Addr) (c : Nat) (b : List UInt8) (w : World) (hr : Rd w A b) (hl : b.length ≤ 65536) (hc : b.length ≤ c) :
    Calls Try.prog 46 #[.int .i64 7, .slice A b.length c] w (FillE 7 0 b w) := by
  obtain ⟨X, hX0⟩ : ∃ X, recC 7 0 z32 ⟨#[]⟩ none 0 0 0 0 = X := ⟨_, rfl⟩
  have hX : RecF X 7 0 z32 ⟨#[]⟩ none 0 0 0 0 := hX0 ▸ recF rfl
  have HX0 := Lib.hid hX0
  obtain ⟨w1, hw1⟩ : ∃ w1, (w.alloc (.cells zRec 27)).alloc (.cells X 27) = w1 := ⟨_, rfl⟩
  obtain ⟨hz, hg, hb0⟩ := run_blk2 w zRec X 27 27
  rw [hw1] at hg hz hb0
  have HR := Lib.hid (hr.below hb0)
  have HG := Lib.hid hg
  have HZ := Lib.hid hz
  have HB0 := Lib.hid hb0
  have hcc := fun i => blk_cell HG.out i
  have hff := fun i => blk_frozen HG.out i
  have hz1 := blk_lt HG.out
  have hz2 := blk_lt HZ.out
  have hr0 := hr
  have HX := Lib.hid hX
  clear hr hg hz hb0 hX hX0
  have HXS := Lib.hid HX.out.recS
  have HQI := Lib.hid HXS.out.info
  have HQZ := Lib.hid (show zRec.size = X.size from zRecF.size.trans HXS.out.size.symm)
  have HQ1 := Lib.hid HXS.out.one
  by_cases h16 : b.length = 16
  · have e16 : ((b.length : Int) != 16) = false := by rw [h16]; rfl
    obtain ⟨y, hy, hcut, hrd, hyc, hyl⟩ := cutTo (A := A) (l := b) (c := c) 8 (by decide) (by omega) hc
    have hst := string_run c (hrd w1 HR.out)
    by_cases hm : y = magicL
    · have HE := Lib.hid (show okF 7 b = true from decide_eq_true ⟨h16, by rw [← hm, hy.out]; rfl⟩)
      have hq : (y == [115, 116, 105, 108, 108, 97, 103, 101]) = true := by rw [hm]; rfl
      have T1 := Lib.hid (R01.take_any A c b 8 8 w1 (by omega) HR.out)
      have L1 := takeN_lt8 b 8
      have HNF := Lib.hid (show ∀ t, takeN b 8 8 = t → nF 7 b = if t ≤ 4294967295 then (t : Int) else 0 from fun t h => by show (numN b 8 8 : Int) = _; unfold numN; rw [h]; split <;> rfl)
      generalize takeN b 8 8 = n1 at *
      generalize takeOk b 8 8 = k1 at *
      have h36 := HX.out.c36
      by_cases hn : n1 ≤ 4294967295
      · have hg : decide ((n1 : Int) < 4294967296) = true := decide_eq_true (by omega)
        have hv1 : IntKind.i64.wrap (n1 : Int) = (n1 : Int) := IntWalk.i64_in _ (by omega)
        have HN := Lib.hid (show nF 7 b = n1 from by rw [HNF.out n1 rfl, if_pos hn])
        obtain ⟨X2, hX2⟩ : ∃ Z, X.setIfInBounds 36 (.int .i64 n1) = Z := ⟨_, rfl⟩
        have hu := upd_cell HG.out 36 (.int .i64 n1)
        obtain ⟨w2, hw2⟩ : ∃ w', w1.setCell ⟨w.heap.size + 1, 36, none⟩ (.int .i64 n1) = w' := ⟨_, rfl⟩
        rw [hX2, hw2] at hu
        have HG2 := Lib.hid hu.at_
        have HZ2 := Lib.hid ((hu.off w.heap.size (by omega)).trans HZ.out)
        have HB2 := Lib.hid (hu.to (Nat.le_succ _) HB0.out)
        have HX2F := Lib.hid (show RecF X2 7 0 z32 ⟨#[]⟩ none 0 0 n1 0 from hX2 ▸ HX.out.setN n1)
        clear hu hX2
        have HYS := Lib.hid HX2F.out.recS
        have HYI := Lib.hid HYS.out.info
        have HYZ := Lib.hid (show zRec.size = X2.size from zRecF.size.trans HYS.out.size.symm)
        have HY1 := Lib.hid HYS.out.one
        clear hr0 hm hy hrd hyl h16 hn HNF
        go_enter Try.func46, Try.ntmps46
        go_wp2_with (first | (refine wpList_box rfl rfl 27 _ _ rfl rfl (recC 7 0 z32 ⟨#[]⟩ none 0 0 0 0) zRec zeroRec rfl rfl rfl (recF rfl).info (recF rfl).one ?_; rw [HX0.out]) | (refine wpList_allocZ rfl 27 rfl zRec zeroRec ?_))
        refine T1.out.mono ?_
        rintro e w4 ⟨rfl, hw4⟩
        rw [hw4]
        clear hw4 w4
        go_wp2_with (first | (refine wpList_load_row rfl 27 (.tmp 6) rfl (w.heap.size + 1) rfl 27 X2 (0, 0) _ HG2.out Try.underlying27 rfl HYI.out ?_) | (refine wpList_store_row rfl 27 (.tmp 4) (.tmp 105) rfl w.heap.size X2 rfl rfl 27 zRec HZ2.out HYI.out HYZ.out HY1.out ?_; obtain ⟨w9, hw9⟩ : ∃ w', World.setRow w2 w.heap.size X2 = w' := ⟨_, rfl⟩; have HEW9 := Lib.hid hw9; have hu := upd_row HZ2.out X2; rw [hw9] at hu ⊢; have HF9 := Lib.hid hu.at_; have HBF9 := Lib.hid (hu.to (Nat.le_refl _) HB2.out); clear hu hw9))
        refine bodyPost_ret_by (results_ct rfl _ _ w.heap.size _ X2 (0, 0) _ rfl HF9.out Try.underlying27 rfl HYI.out) rfl ?_
        refine .inl ⟨HE.out, X2, none, 0, rfl, ?_, Buf.nil _ _, HBF9.out⟩
        rw [HN.out]
        exact HX2F.out
      · have hg : decide ((n1 : Int) < 4294967296) = false := decide_eq_false (by omega)
        have HN := Lib.hid (show nF 7 b = 0 from by rw [HNF.out n1 rfl, if_neg hn])
        clear hr0 hm hy hrd hyl h16 hn HNF
        go_enter Try.func46, Try.ntmps46
        go_wp2_with (first | (refine wpList_box rfl rfl 27 _ _ rfl rfl (recC 7 0 z32 ⟨#[]⟩ none 0 0 0 0) zRec zeroRec rfl rfl rfl (recF rfl).info (recF rfl).one ?_; rw [HX0.out]) | (refine wpList_allocZ rfl 27 rfl zRec zeroRec ?_))
        refine T1.out.mono ?_
        rintro e w4 ⟨rfl, hw4⟩
        rw [hw4]
        clear hw4 w4
        go_wp2_with (first | (refine wpList_load_row rfl 27 (.tmp 6) rfl (w.heap.size + 1) rfl 27 X (0, 0) _ HG.out Try.underlying27 rfl HQI.out ?_) | (refine wpList_store_row rfl 27 (.tmp 4) (.tmp 105) rfl w.heap.size X rfl rfl 27 zRec HZ.out HQI.out HQZ.out HQ1.out ?_; obtain ⟨w9, hw9⟩ : ∃ w', World.setRow w1 w.heap.size X = w' := ⟨_, rfl⟩; have HEW9 := Lib.hid hw9; have hu := upd_row HZ.out X; rw [hw9] at hu ⊢; have HF9 := Lib.hid hu.at_; have HBF9 := Lib.hid (hu.to (Nat.le_refl _) HB0.out); clear hu hw9))
        refine bodyPost_ret_by (results_ct rfl _ _ w.heap.size _ X (0, 0) _ rfl HF9.out Try.underlying27 rfl HQI.out) rfl ?_
        refine .inl ⟨HE.out, X, none, 0, rfl, ?_, Buf.nil _ _, HBF9.out⟩
        rw [HN.out]
        exact HX.out
    · have HE := Lib.hid (show okF 7 b = false from decide_eq_false (fun h => hm (by rw [hy.out]; exact h.2)))
      have hq : (y == [115, 116, 105, 108, 108, 97, 103, 101]) = false := by rw [beq_eq_false_iff_ne]; exact hm
      clear hr0 hm hy hrd hyl h16
      go_enter Try.func46, Try.ntmps46
      go_wp2_with (first | (refine wpList_box rfl rfl 27 _ _ rfl rfl (recC 7 0 z32 ⟨#[]⟩ none 0 0 0 0) zRec zeroRec rfl rfl rfl (recF rfl).info (recF rfl).one ?_; rw [HX0.out]) | (refine wpList_allocZ rfl 27 rfl zRec zeroRec ?_) | (refine wpList_load_row rfl 27 (.tmp 6) rfl (w.heap.size + 1) rfl 27 X (0, 0) _ HG.out Try.underlying27 rfl HQI.out ?_) | (refine wpList_store_row rfl 27 (.tmp 4) (.tmp 94) rfl w.heap.size X rfl rfl 27 zRec HZ.out HQI.out HQZ.out HQ1.out ?_; obtain ⟨w9, hw9⟩ : ∃ w', World.setRow w1 w.heap.size X = w' := ⟨_, rfl⟩; have HEW9 := Lib.hid hw9; have hu := upd_row HZ.out X; rw [hw9] at hu ⊢; have HF9 := Lib.hid hu.at_; have HBF9 := Lib.hid (hu.to (Nat.le_refl _) HB0.out); clear hu hw9))
      refine bodyPost_ret_by (results_ct rfl _ _ w.heap.size _ X (0, 0) _ rfl HF9.out Try.underlying27 rfl HQI.out) rfl ?_
      exact .inr ⟨HE.out, X, rfl, HXS.out, HBF9.out⟩
  · have e16 : ((b.length : Int) != 16) = true := by rw [bne_iff_ne]; omega
    have HE := Lib.hid (show okF 7 b = false from decide_eq_false (fun h => h16 h.1))
    clear hr0 h16
    go_enter Try.func46, Try.ntmps46
    go_wp2_with (first | (refine wpList_box rfl rfl 27 _ _ rfl rfl (recC 7 0 z32 ⟨#[]⟩ none 0 0 0 0) zRec zeroRec rfl rfl rfl (recF rfl).info (recF rfl).one ?_; rw [HX0.out]) | (refine wpList_allocZ rfl 27 rfl zRec zeroRec ?_) | (refine wpList_load_row rfl 27 (.tmp 6) rfl (w.heap.size + 1) rfl 27 X (0, 0) _ HG.out Try.underlying27 rfl HQI.out ?_) | (refine wpList_store_row rfl 27 (.tmp 4) (.tmp 94) rfl w.heap.size X rfl rfl 27 zRec HZ.out HQI.out HQZ.out HQ1.out ?_; obtain ⟨w9, hw9⟩ : ∃ w', World.setRow w1 w.heap.size X = w' := ⟨_, rfl⟩; have HEW9 := Lib.hid hw9; have hu := upd_row HZ.out X; rw [hw9] at hu ⊢; have HF9 := Lib.hid hu.at_; have HBF9 := Lib.hid (hu.to (Nat.le_refl _) HB0.out); clear hu hw9))
    refine bodyPost_ret_by (results_ct rfl _ _ w.heap.size _ X (0, 0) _ rfl HF9.out Try.underlying27 rfl HQI.out) rfl ?_
    exact .inr ⟨HE.out, X, rfl, HXS.out, HBF9.out⟩
theorem read_any (k : Int) (A : Option Addr) (c : Nat) (b : List UInt8) (w : World) (hk : 1 ≤ k ∧ k ≤ 8) (hr : Rd w A b) (hl : b.length ≤ 65536) (hc : b.length ≤ c) :
    Calls Try.prog 46 #[.int .i64 k, .slice A b.length c] w (FillE k 0 b w) := by
  rcases (show k = 1 ∨ k = 2 ∨ k = 3 ∨ k = 4 ∨ k = 5 ∨ k = 6 ∨ k = 7 ∨ k = 8 by omega) with rfl | rfl | rfl | rfl | rfl | rfl | rfl | rfl
  · exact read1 A c b w hr hl hc
  · exact read2 A c b w hr hl hc
  · exact read3 A c b w hr hl hc
  · exact read4 A c b w hr hl hc
  · exact read5 A c b w hr hl hc
  · exact read6 A c b w hr hl hc
  · exact read7 A c b w hr hl hc
  · exact read8 A c b w hr hl hc
end Go.Proofs.Ytceldlijbehkdaa.Rc
