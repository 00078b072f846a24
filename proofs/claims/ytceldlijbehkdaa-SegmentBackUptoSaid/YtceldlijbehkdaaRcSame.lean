/- stillageref14.Same of records that are the same; stillageref14.Bare. -/
import Derived.Test.YtceldlijbehkdaaRcDig
import Derived.Test.YtceldlijbehkdaaRcBack
set_option linter.unusedVariables false
set_option linter.unusedSimpArgs false
namespace Go.Proofs.Ytceldlijbehkdaa.Rc
open Go.RowKit Go.Proofs.YtceldlijbehkdaaW.PrintWords Go.Proofs.Ytceldlijbehkdaa.B Go.Proofs.Ytceldlijbehkdaa.Fx Go.Proofs.Ytceldlijbehkdaa.Fr
set_option maxRecDepth 100000 in
set_option maxHeartbeats 3200000 in
theorem same_yes (X X' : Array Value) (k : Int) (s : Nat) (d : List UInt8) (nm : ByteArray) (A A' : Option Addr) (l : List UInt8) (c c' : Nat) (n z : Int) (w : World) (hX : RecF X k s d nm A l.length c n z) (hX' : RecF X' k s d nm A' l.length c' n z) (hr : Rd w A l) (hr' : Rd w A' l) (hl : l.length ≤ 140737488355328) :
    Calls Try.prog 16 #[.agg X, .agg X'] w (Kept (.bool true) w) := by
  have a0 := hX.c0
  have a1 := hX.c1
  have a34 := hX.c34
  have a35 := hX.c35
  have a36 := hX.c36
  have a37 := hX.c37
  have b0 := hX'.c0
  have b1 := hX'.c1
  have b34 := hX'.c34
  have b35 := hX'.c35
  have b36 := hX'.c36
  have b37 := hX'.c37
  obtain ⟨w1, hw1⟩ : ∃ w1, (w.alloc (.cells X 27)).alloc (.cells X' 27) = w1 := ⟨_, rfl⟩
  obtain ⟨hg, hz, hb0⟩ := run_blk2 w X X' 27 27
  rw [hw1] at hg hz hb0
  obtain ⟨cs, hcs⟩ : ∃ cs, d.map encB = cs := ⟨_, rfl⟩
  have HD1 := Lib.hid (show w1.rangeAt w.heap.size 2 cs from hcs ▸ hX.range hg)
  have HD2 := Lib.hid (show w1.rangeAt (w.heap.size + 1) 2 cs from hcs ▸ hX'.range hz)
  have HDI := Lib.hid (show (Try.prog.info? 25).map (·.size) = some cs.length by rw [← hcs, List.length_map, hX.dl]; exact infoDig)
  have HEQ := Lib.hid (show (binOp .eql 25 (.agg cs.toArray) (.agg cs.toArray)).run Try.prog w1 = .ok (.bool true) w1 from by
    have h := eql_dig d d hX.dl hX.dl w1 _ 32 rfl 25 undDig
    rw [hcs] at h
    rw [h]; simp)
  have HSM := Lib.hid (R01.same_any A c l A' c' l w1 hl (hr.below hb0) (hr'.below hb0))
  rw [show R01.sameB l l = true from decide_eq_true rfl] at HSM
  have hcc := fun i => blk_cell hg i
  have hcc' := fun i => blk_cell hz i
  have HB0 := Lib.hid hb0
  have HG := Lib.hid hg
  have HZ := Lib.hid hz
  clear hX hX' hr hr' hg hz hb0 hcs
  go_enter Try.func16, Try.ntmps16
  go_wp2_with (first | (refine wpList_load_midG rfl 25 (.tmp 18) rfl w.heap.size 2 rfl cs _ HD1.out undDig rfl HDI.out ?_) | (refine wpList_load_midG rfl 25 (.tmp 20) rfl (w.heap.size + 1) 2 rfl cs _ HD2.out undDig rfl HDI.out ?_) | (refine wpList_eqG rfl .eql 25 25 (.tmp 19) (.tmp 21) rfl cs.toArray cs.toArray rfl rfl (by kernel_rfl) (.bool true) HEQ.out ?_))
  refine HSM.out.mono ?_
  rintro e w2 ⟨rfl, q, hw2⟩
  have HB2 := Lib.hid (show Below w.heap.size w w2 from hw2 ▸ pw_below_drewN HB0.out q)
  have HG2 := Lib.hid (show w2.heap[w.heap.size]? = some (.cells X 27 (0, 0)) from hw2 ▸ blk_drewN HG.out q)
  have HZ2 := Lib.hid (show w2.heap[w.heap.size + 1]? = some (.cells X' 27 (0, 0)) from hw2 ▸ blk_drewN HZ.out q)
  have hdd := fun i => blk_cell HG2.out i
  have hdd' := fun i => blk_cell HZ2.out i
  clear hw2 hw1
  go_wp2_with fail
  go_ret
  exact ⟨rfl, HB2.out⟩
/-! ### Bare -/
/-- the end: a record with the fields that its kind has -/
def Bared (k : Int) (s : Nat) (d : List UInt8) (nm : ByteArray) (A : Option Addr) (l : List UInt8) (c : Nat) (n z : Int) (w : World) (e : Ending) (w' : World) : Prop := ∃ X, e = .returned (.agg X) ∧ RecF X k s (dB k d) (nmB k nm) (AB k A) (lB k l).length (cB k c) (nB k n) (zB k z) ∧ Below w.heap.size w w'
theorem store_dig_splice {X : Array Value} {cs : List Value} : (splice X.toList 2 cs).toArray = (splice X.toList 2 cs).toArray := rfl
set_option maxRecDepth 100000 in
set_option maxHeartbeats 3200000 in
theorem bare1 (X : Array Value) (s : Nat) (d : List UInt8) (nm : ByteArray) (A : Option Addr) (l : List UInt8) (c : Nat) (n z : Int) (w : World) (hX : RecF X 1 s d nm A l.length c n z) :
    Calls Try.prog 20 #[.agg X] w (Bared 1 s d nm A l c n z w) := by
  have h0 := hX.c0
  have h1 := hX.c1
  have h34 := hX.c34
  have h35 := hX.c35
  have h36 := hX.c36
  have h37 := hX.c37
  obtain ⟨Y, hY⟩ : ∃ Y, recC 1 s z32 ⟨#[]⟩ none 0 0 0 0 = Y := ⟨_, rfl⟩
  have hYF : RecF Y 1 s z32 ⟨#[]⟩ none 0 0 0 0 := hY ▸ recF rfl
  have HY := Lib.hid hY
  obtain ⟨w0, hw0⟩ : ∃ w0, (w.alloc (.cells X 27)).alloc (.cells zRec 27) = w0 := ⟨_, rfl⟩
  obtain ⟨hg0, hz0, hb00⟩ := run_blk2 w X zRec 27 27
  rw [hw0] at hg0 hz0 hb00
  have HG0 := Lib.hid hg0
  have hcc0 := fun i => blk_cell HG0.out i
  have hs0 : w0.heap.size = w.heap.size + 2 := by rw [← hw0]; simp
  obtain ⟨w1, hw1⟩ : ∃ w1, w0.alloc (.cells Y 27) = w1 := ⟨_, rfl⟩
  have hb1 : Below w0.heap.size w0 w1 := hw1 ▸ below_alloc (Below.refl _ _) _
  have HG := Lib.hid (blk_below hg0 hb1)
  have HZ1 := Lib.hid (blk_below hz0 hb1)
  have HB1 := Lib.hid (below_step' hb00 hb1)
  have HY1 := Lib.hid (show w1.heap[w.heap.size + 1 + 1]? = some (.cells Y 27 (0, 0)) from by have h := blk_new w0 (.cells Y 27); rw [hw1, hs0] at h; exact h)
  have hcc := fun i => blk_cell HG.out i
  have hY1 := fun i => blk_cell HY1.out i
  have hff := fun i => blk_frozen HY1.out i
  obtain ⟨cs, hcs⟩ : ∃ cs, d.map encB = cs := ⟨_, rfl⟩
  have hcl : cs.length = 32 := by rw [← hcs, List.length_map]; exact hX.dl
  have HDI := Lib.hid (show (Try.prog.info? 25).map (·.size) = some cs.length by rw [hcl]; exact infoDig)
  have HDI2 := Lib.hid (show (Try.prog.info? 25).map (·.size) = some cs.toArray.size by rw [List.size_toArray, hcl]; exact infoDig)
  have HC1 := Lib.hid (show cs.toArray.all (·.oneCell') = true by rw [← hcs]; exact all_oneCell_toArray (one_encs _))
  have HD1 := Lib.hid (show w1.rangeAt w.heap.size 2 cs from hcs ▸ hX.range HG.out)
  have hu := upd_cells HY1.out 2 cs (by have := hYF.size; omega)
  obtain ⟨X2, hX2⟩ : ∃ X2, (splice Y.toList 2 cs).toArray = X2 := ⟨_, rfl⟩
  obtain ⟨w2, hw2⟩ : ∃ w', World.setCells w1 (w.heap.size + 1 + 1) 2 cs = w' := ⟨_, rfl⟩
  rw [hX2, hw2] at hu
  have HW2 := Lib.hid hw2
  have hX2F : RecF X2 1 s d ⟨#[]⟩ none 0 0 0 0 := by rw [← hX2, ← hcs]; exact hYF.setD hX.dl
  have HTH := Lib.hid (there_of HY1.out 2 cs.toArray.size (by have := hYF.size; rw [List.size_toArray]; omega))
  have HG2 := Lib.hid ((hu.off w.heap.size (by omega)).trans HG.out)
  have HZ2 := Lib.hid ((hu.off (w.heap.size + 1) (by omega)).trans HZ1.out)
  have HY2 := Lib.hid hu.at_
  have HB2 := Lib.hid (hu.to (by omega) HB1.out)
  have hcc2 := fun i => blk_cell HG2.out i
  have hY2 := fun i => blk_cell HY2.out i
  have hff2 := fun i => blk_frozen HY2.out i
  clear hu hX2 hw2
  have g35 := hX2F.c35
  have hu := upd_cell HY2.out 35 (.slice A l.length c)
  obtain ⟨X3, hX3⟩ : ∃ Zq, X2.setIfInBounds 35 (.slice A l.length c) = Zq := ⟨_, rfl⟩
  obtain ⟨w3, hw3⟩ : ∃ w', w2.setCell ⟨w.heap.size + 1 + 1, 35, none⟩ (.slice A l.length c) = w' := ⟨_, rfl⟩
  rw [hX3, hw3] at hu
  have hX3F : RecF X3 1 s d ⟨#[]⟩ A l.length c 0 0 := hX3 ▸ hX2F.setData A l.length c
  have HG3 := Lib.hid ((hu.off w.heap.size (by omega)).trans HG2.out)
  have HZ3 := Lib.hid ((hu.off (w.heap.size + 1) (by omega)).trans HZ2.out)
  have HY3 := Lib.hid hu.at_
  have HB3 := Lib.hid (hu.to (by omega) HB2.out)
  have hcc3 := fun i => blk_cell HG3.out i
  have hY3 := fun i => blk_cell HY3.out i
  have hff3 := fun i => blk_frozen HY3.out i
  clear hu hX3
  have HF := Lib.hid hX3F
  have HI := Lib.hid hX3F.info
  have HS := Lib.hid (show zRec.size = X3.size from zRecF.size.trans hX3F.size.symm)
  have H1 := Lib.hid hX3F.one
  clear hX hY hYF hg0 hz0 hb00 hb1 hcs hX2F hX3F
  go_enter Try.func20, Try.ntmps20
  go_wp2_with (first | (refine wpList_box rfl rfl 27 _ _ rfl rfl (recC 1 s z32 ⟨#[]⟩ none 0 0 0 0) zRec zeroRec rfl rfl rfl (recF rfl).info (recF rfl).one ?_; rw [HY.out]) | (refine wpList_allocZ rfl 27 rfl zRec zeroRec ?_) | (refine wpList_load_mid rfl 25 (.tmp 17) rfl w.heap.size 2 rfl cs _ HD1.out undDig rfl HDI.out ?_) | (refine wpList_store_mid rfl 25 (.tmp 19) (.tmp 18) rfl (w.heap.size + 1 + 1) 2 cs.toArray rfl rfl HTH.out HDI2.out HC1.out ?_; rw [show cs.toArray.toList = cs from rfl, HW2.out]) | (refine wpList_load_row rfl 27 (.tmp 4) rfl (w.heap.size + 1 + 1) rfl 27 X3 (0, 0) _ HY3.out Try.underlying27 rfl HI.out ?_) | (refine wpList_store_row rfl 27 (.tmp 2) (.tmp 48) rfl (w.heap.size + 1) X3 rfl rfl 27 zRec HZ3.out HI.out HS.out H1.out ?_; obtain ⟨w9, hw9⟩ : ∃ w', World.setRow w3 (w.heap.size + 1) X3 = w' := ⟨_, rfl⟩; have hu := upd_row HZ3.out X3; rw [hw9] at hu ⊢; have HF9 := Lib.hid hu.at_; have HBF9 := Lib.hid (hu.to (Nat.le_succ _) HB3.out); clear hu hw9))
  skip
  refine bodyPost_ret_by (results_cell_row rfl _ _ (w.heap.size + 1) _ X3 (0, 0) _ rfl HF9.out Try.underlying27 rfl HI.out) rfl ?_
  exact ⟨X3, rfl, HF.out, HBF9.out⟩
set_option maxRecDepth 100000 in
set_option maxHeartbeats 3200000 in
theorem bare2 (X : Array Value) (s : Nat) (d : List UInt8) (nm : ByteArray) (A : Option Addr) (l : List UInt8) (c : Nat) (n z : Int) (w : World) (hX : RecF X 2 s d nm A l.length c n z) :
    Calls Try.prog 20 #[.agg X] w (Bared 2 s d nm A l c n z w) := by
  have h0 := hX.c0
  have h1 := hX.c1
  have h34 := hX.c34
  have h35 := hX.c35
  have h36 := hX.c36
  have h37 := hX.c37
  obtain ⟨Y, hY⟩ : ∃ Y, recC 2 s z32 ⟨#[]⟩ none 0 0 0 0 = Y := ⟨_, rfl⟩
  have hYF : RecF Y 2 s z32 ⟨#[]⟩ none 0 0 0 0 := hY ▸ recF rfl
  have HY := Lib.hid hY
  obtain ⟨w0, hw0⟩ : ∃ w0, (w.alloc (.cells X 27)).alloc (.cells zRec 27) = w0 := ⟨_, rfl⟩
  obtain ⟨hg0, hz0, hb00⟩ := run_blk2 w X zRec 27 27
  rw [hw0] at hg0 hz0 hb00
  have HG0 := Lib.hid hg0
  have hcc0 := fun i => blk_cell HG0.out i
  have hs0 : w0.heap.size = w.heap.size + 2 := by rw [← hw0]; simp
  obtain ⟨w1, hw1⟩ : ∃ w1, w0.alloc (.cells Y 27) = w1 := ⟨_, rfl⟩
  have hb1 : Below w0.heap.size w0 w1 := hw1 ▸ below_alloc (Below.refl _ _) _
  have HG := Lib.hid (blk_below hg0 hb1)
  have HZ1 := Lib.hid (blk_below hz0 hb1)
  have HB1 := Lib.hid (below_step' hb00 hb1)
  have HY1 := Lib.hid (show w1.heap[w.heap.size + 1 + 1]? = some (.cells Y 27 (0, 0)) from by have h := blk_new w0 (.cells Y 27); rw [hw1, hs0] at h; exact h)
  have hcc := fun i => blk_cell HG.out i
  have hY1 := fun i => blk_cell HY1.out i
  have hff := fun i => blk_frozen HY1.out i
  obtain ⟨cs, hcs⟩ : ∃ cs, d.map encB = cs := ⟨_, rfl⟩
  have hcl : cs.length = 32 := by rw [← hcs, List.length_map]; exact hX.dl
  have HDI := Lib.hid (show (Try.prog.info? 25).map (·.size) = some cs.length by rw [hcl]; exact infoDig)
  have HDI2 := Lib.hid (show (Try.prog.info? 25).map (·.size) = some cs.toArray.size by rw [List.size_toArray, hcl]; exact infoDig)
  have HC1 := Lib.hid (show cs.toArray.all (·.oneCell') = true by rw [← hcs]; exact all_oneCell_toArray (one_encs _))
  have HD1 := Lib.hid (show w1.rangeAt w.heap.size 2 cs from hcs ▸ hX.range HG.out)
  have hu := upd_cells HY1.out 2 cs (by have := hYF.size; omega)
  obtain ⟨X2, hX2⟩ : ∃ X2, (splice Y.toList 2 cs).toArray = X2 := ⟨_, rfl⟩
  obtain ⟨w2, hw2⟩ : ∃ w', World.setCells w1 (w.heap.size + 1 + 1) 2 cs = w' := ⟨_, rfl⟩
  rw [hX2, hw2] at hu
  have HW2 := Lib.hid hw2
  have hX2F : RecF X2 2 s d ⟨#[]⟩ none 0 0 0 0 := by rw [← hX2, ← hcs]; exact hYF.setD hX.dl
  have HTH := Lib.hid (there_of HY1.out 2 cs.toArray.size (by have := hYF.size; rw [List.size_toArray]; omega))
  have HG2 := Lib.hid ((hu.off w.heap.size (by omega)).trans HG.out)
  have HZ2 := Lib.hid ((hu.off (w.heap.size + 1) (by omega)).trans HZ1.out)
  have HY2 := Lib.hid hu.at_
  have HB2 := Lib.hid (hu.to (by omega) HB1.out)
  have hcc2 := fun i => blk_cell HG2.out i
  have hY2 := fun i => blk_cell HY2.out i
  have hff2 := fun i => blk_frozen HY2.out i
  clear hu hX2 hw2
  have g35 := hX2F.c35
  have hu := upd_cell HY2.out 35 (.slice A l.length c)
  obtain ⟨X3, hX3⟩ : ∃ Zq, X2.setIfInBounds 35 (.slice A l.length c) = Zq := ⟨_, rfl⟩
  obtain ⟨w3, hw3⟩ : ∃ w', w2.setCell ⟨w.heap.size + 1 + 1, 35, none⟩ (.slice A l.length c) = w' := ⟨_, rfl⟩
  rw [hX3, hw3] at hu
  have hX3F : RecF X3 2 s d ⟨#[]⟩ A l.length c 0 0 := hX3 ▸ hX2F.setData A l.length c
  have HG3 := Lib.hid ((hu.off w.heap.size (by omega)).trans HG2.out)
  have HZ3 := Lib.hid ((hu.off (w.heap.size + 1) (by omega)).trans HZ2.out)
  have HY3 := Lib.hid hu.at_
  have HB3 := Lib.hid (hu.to (by omega) HB2.out)
  have hcc3 := fun i => blk_cell HG3.out i
  have hY3 := fun i => blk_cell HY3.out i
  have hff3 := fun i => blk_frozen HY3.out i
  clear hu hX3
  have HF := Lib.hid hX3F
  have HI := Lib.hid hX3F.info
  have HS := Lib.hid (show zRec.size = X3.size from zRecF.size.trans hX3F.size.symm)
  have H1 := Lib.hid hX3F.one
  clear hX hY hYF hg0 hz0 hb00 hb1 hcs hX2F hX3F
  go_enter Try.func20, Try.ntmps20
  go_wp2_with (first | (refine wpList_box rfl rfl 27 _ _ rfl rfl (recC 2 s z32 ⟨#[]⟩ none 0 0 0 0) zRec zeroRec rfl rfl rfl (recF rfl).info (recF rfl).one ?_; rw [HY.out]) | (refine wpList_allocZ rfl 27 rfl zRec zeroRec ?_) | (refine wpList_load_mid rfl 25 (.tmp 17) rfl w.heap.size 2 rfl cs _ HD1.out undDig rfl HDI.out ?_) | (refine wpList_store_mid rfl 25 (.tmp 19) (.tmp 18) rfl (w.heap.size + 1 + 1) 2 cs.toArray rfl rfl HTH.out HDI2.out HC1.out ?_; rw [show cs.toArray.toList = cs from rfl, HW2.out]) | (refine wpList_load_row rfl 27 (.tmp 4) rfl (w.heap.size + 1 + 1) rfl 27 X3 (0, 0) _ HY3.out Try.underlying27 rfl HI.out ?_) | (refine wpList_store_row rfl 27 (.tmp 2) (.tmp 48) rfl (w.heap.size + 1) X3 rfl rfl 27 zRec HZ3.out HI.out HS.out H1.out ?_; obtain ⟨w9, hw9⟩ : ∃ w', World.setRow w3 (w.heap.size + 1) X3 = w' := ⟨_, rfl⟩; have hu := upd_row HZ3.out X3; rw [hw9] at hu ⊢; have HF9 := Lib.hid hu.at_; have HBF9 := Lib.hid (hu.to (Nat.le_succ _) HB3.out); clear hu hw9))
  skip
  refine bodyPost_ret_by (results_cell_row rfl _ _ (w.heap.size + 1) _ X3 (0, 0) _ rfl HF9.out Try.underlying27 rfl HI.out) rfl ?_
  exact ⟨X3, rfl, HF.out, HBF9.out⟩
set_option maxRecDepth 100000 in
set_option maxHeartbeats 3200000 in
theorem bare3 (X : Array Value) (s : Nat) (d : List UInt8) (nm : ByteArray) (A : Option Addr) (l : List UInt8) (c : Nat) (n z : Int) (w : World) (hX : RecF X 3 s d nm A l.length c n z) :
    Calls Try.prog 20 #[.agg X] w (Bared 3 s d nm A l c n z w) := by
  have h0 := hX.c0
  have h1 := hX.c1
  have h34 := hX.c34
  have h35 := hX.c35
  have h36 := hX.c36
  have h37 := hX.c37
  obtain ⟨Y, hY⟩ : ∃ Y, recC 3 s z32 ⟨#[]⟩ none 0 0 0 0 = Y := ⟨_, rfl⟩
  have hYF : RecF Y 3 s z32 ⟨#[]⟩ none 0 0 0 0 := hY ▸ recF rfl
  have HY := Lib.hid hY
  obtain ⟨w0, hw0⟩ : ∃ w0, (w.alloc (.cells X 27)).alloc (.cells zRec 27) = w0 := ⟨_, rfl⟩
  obtain ⟨hg0, hz0, hb00⟩ := run_blk2 w X zRec 27 27
  rw [hw0] at hg0 hz0 hb00
  have HG0 := Lib.hid hg0
  have hcc0 := fun i => blk_cell HG0.out i
  have hs0 : w0.heap.size = w.heap.size + 2 := by rw [← hw0]; simp
  obtain ⟨w1, hw1⟩ : ∃ w1, w0.alloc (.cells Y 27) = w1 := ⟨_, rfl⟩
  have hb1 : Below w0.heap.size w0 w1 := hw1 ▸ below_alloc (Below.refl _ _) _
  have HG := Lib.hid (blk_below hg0 hb1)
  have HZ1 := Lib.hid (blk_below hz0 hb1)
  have HB1 := Lib.hid (below_step' hb00 hb1)
  have HY1 := Lib.hid (show w1.heap[w.heap.size + 1 + 1]? = some (.cells Y 27 (0, 0)) from by have h := blk_new w0 (.cells Y 27); rw [hw1, hs0] at h; exact h)
  have hcc := fun i => blk_cell HG.out i
  have hY1 := fun i => blk_cell HY1.out i
  have hff := fun i => blk_frozen HY1.out i
  obtain ⟨cs, hcs⟩ : ∃ cs, d.map encB = cs := ⟨_, rfl⟩
  have hcl : cs.length = 32 := by rw [← hcs, List.length_map]; exact hX.dl
  have HDI := Lib.hid (show (Try.prog.info? 25).map (·.size) = some cs.length by rw [hcl]; exact infoDig)
  have HDI2 := Lib.hid (show (Try.prog.info? 25).map (·.size) = some cs.toArray.size by rw [List.size_toArray, hcl]; exact infoDig)
  have HC1 := Lib.hid (show cs.toArray.all (·.oneCell') = true by rw [← hcs]; exact all_oneCell_toArray (one_encs _))
  have HD1 := Lib.hid (show w1.rangeAt w.heap.size 2 cs from hcs ▸ hX.range HG.out)
  have hu := upd_cells HY1.out 2 cs (by have := hYF.size; omega)
  obtain ⟨X2, hX2⟩ : ∃ X2, (splice Y.toList 2 cs).toArray = X2 := ⟨_, rfl⟩
  obtain ⟨w2, hw2⟩ : ∃ w', World.setCells w1 (w.heap.size + 1 + 1) 2 cs = w' := ⟨_, rfl⟩
  rw [hX2, hw2] at hu
  have HW2 := Lib.hid hw2
  have hX2F : RecF X2 3 s d ⟨#[]⟩ none 0 0 0 0 := by rw [← hX2, ← hcs]; exact hYF.setD hX.dl
  have HTH := Lib.hid (there_of HY1.out 2 cs.toArray.size (by have := hYF.size; rw [List.size_toArray]; omega))
  have HG2 := Lib.hid ((hu.off w.heap.size (by omega)).trans HG.out)
  have HZ2 := Lib.hid ((hu.off (w.heap.size + 1) (by omega)).trans HZ1.out)
  have HY2 := Lib.hid hu.at_
  have HB2 := Lib.hid (hu.to (by omega) HB1.out)
  have hcc2 := fun i => blk_cell HG2.out i
  have hY2 := fun i => blk_cell HY2.out i
  have hff2 := fun i => blk_frozen HY2.out i
  clear hu hX2 hw2
  have g34 := hX2F.c34
  have hu := upd_cell HY2.out 34 (.string nm)
  obtain ⟨X3, hX3⟩ : ∃ Zq, X2.setIfInBounds 34 (.string nm) = Zq := ⟨_, rfl⟩
  obtain ⟨w3, hw3⟩ : ∃ w', w2.setCell ⟨w.heap.size + 1 + 1, 34, none⟩ (.string nm) = w' := ⟨_, rfl⟩
  rw [hX3, hw3] at hu
  have hX3F : RecF X3 3 s d nm none 0 0 0 0 := hX3 ▸ hX2F.setName nm
  have HG3 := Lib.hid ((hu.off w.heap.size (by omega)).trans HG2.out)
  have HZ3 := Lib.hid ((hu.off (w.heap.size + 1) (by omega)).trans HZ2.out)
  have HY3 := Lib.hid hu.at_
  have HB3 := Lib.hid (hu.to (by omega) HB2.out)
  have hcc3 := fun i => blk_cell HG3.out i
  have hY3 := fun i => blk_cell HY3.out i
  have hff3 := fun i => blk_frozen HY3.out i
  clear hu hX3
  have HF := Lib.hid hX3F
  have HI := Lib.hid hX3F.info
  have HS := Lib.hid (show zRec.size = X3.size from zRecF.size.trans hX3F.size.symm)
  have H1 := Lib.hid hX3F.one
  clear hX hY hYF hg0 hz0 hb00 hb1 hcs hX2F hX3F
  go_enter Try.func20, Try.ntmps20
  go_wp2_with (first | (refine wpList_box rfl rfl 27 _ _ rfl rfl (recC 3 s z32 ⟨#[]⟩ none 0 0 0 0) zRec zeroRec rfl rfl rfl (recF rfl).info (recF rfl).one ?_; rw [HY.out]) | (refine wpList_allocZ rfl 27 rfl zRec zeroRec ?_) | (refine wpList_load_mid rfl 25 (.tmp 17) rfl w.heap.size 2 rfl cs _ HD1.out undDig rfl HDI.out ?_) | (refine wpList_store_mid rfl 25 (.tmp 19) (.tmp 18) rfl (w.heap.size + 1 + 1) 2 cs.toArray rfl rfl HTH.out HDI2.out HC1.out ?_; rw [show cs.toArray.toList = cs from rfl, HW2.out]) | (refine wpList_load_row rfl 27 (.tmp 4) rfl (w.heap.size + 1 + 1) rfl 27 X3 (0, 0) _ HY3.out Try.underlying27 rfl HI.out ?_) | (refine wpList_store_row rfl 27 (.tmp 2) (.tmp 48) rfl (w.heap.size + 1) X3 rfl rfl 27 zRec HZ3.out HI.out HS.out H1.out ?_; obtain ⟨w9, hw9⟩ : ∃ w', World.setRow w3 (w.heap.size + 1) X3 = w' := ⟨_, rfl⟩; have hu := upd_row HZ3.out X3; rw [hw9] at hu ⊢; have HF9 := Lib.hid hu.at_; have HBF9 := Lib.hid (hu.to (Nat.le_succ _) HB3.out); clear hu hw9))
  skip
  refine bodyPost_ret_by (results_cell_row rfl _ _ (w.heap.size + 1) _ X3 (0, 0) _ rfl HF9.out Try.underlying27 rfl HI.out) rfl ?_
  exact ⟨X3, rfl, HF.out, HBF9.out⟩
set_option maxRecDepth 100000 in
set_option maxHeartbeats 3200000 in
theorem bare4 (X : Array Value) (s : Nat) (d : List UInt8) (nm : ByteArray) (A : Option Addr) (l : List UInt8) (c : Nat) (n z : Int) (w : World) (hX : RecF X 4 s d nm A l.length c n z) :
    Calls Try.prog 20 #[.agg X] w (Bared 4 s d nm A l c n z w) := by
  have h0 := hX.c0
  have h1 := hX.c1
  have h34 := hX.c34
  have h35 := hX.c35
  have h36 := hX.c36
  have h37 := hX.c37
  obtain ⟨Y, hY⟩ : ∃ Y, recC 4 s z32 ⟨#[]⟩ none 0 0 0 0 = Y := ⟨_, rfl⟩
  have hYF : RecF Y 4 s z32 ⟨#[]⟩ none 0 0 0 0 := hY ▸ recF rfl
  have HY := Lib.hid hY
  obtain ⟨w0, hw0⟩ : ∃ w0, (w.alloc (.cells X 27)).alloc (.cells zRec 27) = w0 := ⟨_, rfl⟩
  obtain ⟨hg0, hz0, hb00⟩ := run_blk2 w X zRec 27 27
  rw [hw0] at hg0 hz0 hb00
  have HG0 := Lib.hid hg0
  have hcc0 := fun i => blk_cell HG0.out i
  have hs0 : w0.heap.size = w.heap.size + 2 := by rw [← hw0]; simp
  obtain ⟨w1, hw1⟩ : ∃ w1, w0.alloc (.cells Y 27) = w1 := ⟨_, rfl⟩
  have hb1 : Below w0.heap.size w0 w1 := hw1 ▸ below_alloc (Below.refl _ _) _
  have HG := Lib.hid (blk_below hg0 hb1)
  have HZ1 := Lib.hid (blk_below hz0 hb1)
  have HB1 := Lib.hid (below_step' hb00 hb1)
  have HY1 := Lib.hid (show w1.heap[w.heap.size + 1 + 1]? = some (.cells Y 27 (0, 0)) from by have h := blk_new w0 (.cells Y 27); rw [hw1, hs0] at h; exact h)
  have hcc := fun i => blk_cell HG.out i
  have hY1 := fun i => blk_cell HY1.out i
  have hff := fun i => blk_frozen HY1.out i
  obtain ⟨cs, hcs⟩ : ∃ cs, d.map encB = cs := ⟨_, rfl⟩
  have hcl : cs.length = 32 := by rw [← hcs, List.length_map]; exact hX.dl
  have HDI := Lib.hid (show (Try.prog.info? 25).map (·.size) = some cs.length by rw [hcl]; exact infoDig)
  have HDI2 := Lib.hid (show (Try.prog.info? 25).map (·.size) = some cs.toArray.size by rw [List.size_toArray, hcl]; exact infoDig)
  have HC1 := Lib.hid (show cs.toArray.all (·.oneCell') = true by rw [← hcs]; exact all_oneCell_toArray (one_encs _))
  have HD1 := Lib.hid (show w1.rangeAt w.heap.size 2 cs from hcs ▸ hX.range HG.out)
  have g34 := hYF.c34
  have hu := upd_cell HY1.out 34 (.string nm)
  obtain ⟨X2, hX2⟩ : ∃ Zq, Y.setIfInBounds 34 (.string nm) = Zq := ⟨_, rfl⟩
  obtain ⟨w2, hw2⟩ : ∃ w', w1.setCell ⟨w.heap.size + 1 + 1, 34, none⟩ (.string nm) = w' := ⟨_, rfl⟩
  rw [hX2, hw2] at hu
  have hX2F : RecF X2 4 s z32 nm none 0 0 0 0 := hX2 ▸ hYF.setName nm
  have HG2 := Lib.hid ((hu.off w.heap.size (by omega)).trans HG.out)
  have HZ2 := Lib.hid ((hu.off (w.heap.size + 1) (by omega)).trans HZ1.out)
  have HY2 := Lib.hid hu.at_
  have HB2 := Lib.hid (hu.to (by omega) HB1.out)
  have hcc2 := fun i => blk_cell HG2.out i
  have hY2 := fun i => blk_cell HY2.out i
  have hff2 := fun i => blk_frozen HY2.out i
  clear hu hX2
  have HF := Lib.hid hX2F
  have HI := Lib.hid hX2F.info
  have HS := Lib.hid (show zRec.size = X2.size from zRecF.size.trans hX2F.size.symm)
  have H1 := Lib.hid hX2F.one
  clear hX hY hYF hg0 hz0 hb00 hb1 hcs hX2F
  go_enter Try.func20, Try.ntmps20
  go_wp2_with (first | (refine wpList_box rfl rfl 27 _ _ rfl rfl (recC 4 s z32 ⟨#[]⟩ none 0 0 0 0) zRec zeroRec rfl rfl rfl (recF rfl).info (recF rfl).one ?_; rw [HY.out]) | (refine wpList_allocZ rfl 27 rfl zRec zeroRec ?_) | (refine wpList_load_row rfl 27 (.tmp 4) rfl (w.heap.size + 1 + 1) rfl 27 X2 (0, 0) _ HY2.out Try.underlying27 rfl HI.out ?_) | (refine wpList_store_row rfl 27 (.tmp 2) (.tmp 48) rfl (w.heap.size + 1) X2 rfl rfl 27 zRec HZ2.out HI.out HS.out H1.out ?_; obtain ⟨w9, hw9⟩ : ∃ w', World.setRow w2 (w.heap.size + 1) X2 = w' := ⟨_, rfl⟩; have hu := upd_row HZ2.out X2; rw [hw9] at hu ⊢; have HF9 := Lib.hid hu.at_; have HBF9 := Lib.hid (hu.to (Nat.le_succ _) HB2.out); clear hu hw9))
  skip
  refine bodyPost_ret_by (results_cell_row rfl _ _ (w.heap.size + 1) _ X2 (0, 0) _ rfl HF9.out Try.underlying27 rfl HI.out) rfl ?_
  exact ⟨X2, rfl, HF.out, HBF9.out⟩
set_option maxRecDepth 100000 in
set_option maxHeartbeats 3200000 in
theorem bare5 (X : Array Value) (s : Nat) (d : List UInt8) (nm : ByteArray) (A : Option Addr) (l : List UInt8) (c : Nat) (n z : Int) (w : World) (hX : RecF X 5 s d nm A l.length c n z) :
    Calls Try.prog 20 #[.agg X] w (Bared 5 s d nm A l c n z w) := by
  have h0 := hX.c0
  have h1 := hX.c1
  have h34 := hX.c34
  have h35 := hX.c35
  have h36 := hX.c36
  have h37 := hX.c37
  obtain ⟨Y, hY⟩ : ∃ Y, recC 5 s z32 ⟨#[]⟩ none 0 0 0 0 = Y := ⟨_, rfl⟩
  have hYF : RecF Y 5 s z32 ⟨#[]⟩ none 0 0 0 0 := hY ▸ recF rfl
  have HY := Lib.hid hY
  obtain ⟨w0, hw0⟩ : ∃ w0, (w.alloc (.cells X 27)).alloc (.cells zRec 27) = w0 := ⟨_, rfl⟩
  obtain ⟨hg0, hz0, hb00⟩ := run_blk2 w X zRec 27 27
  rw [hw0] at hg0 hz0 hb00
  have HG0 := Lib.hid hg0
  have hcc0 := fun i => blk_cell HG0.out i
  have hs0 : w0.heap.size = w.heap.size + 2 := by rw [← hw0]; simp
  obtain ⟨w1, hw1⟩ : ∃ w1, w0.alloc (.cells Y 27) = w1 := ⟨_, rfl⟩
  have hb1 : Below w0.heap.size w0 w1 := hw1 ▸ below_alloc (Below.refl _ _) _
  have HG := Lib.hid (blk_below hg0 hb1)
  have HZ1 := Lib.hid (blk_below hz0 hb1)
  have HB1 := Lib.hid (below_step' hb00 hb1)
  have HY1 := Lib.hid (show w1.heap[w.heap.size + 1 + 1]? = some (.cells Y 27 (0, 0)) from by have h := blk_new w0 (.cells Y 27); rw [hw1, hs0] at h; exact h)
  have hcc := fun i => blk_cell HG.out i
  have hY1 := fun i => blk_cell HY1.out i
  have hff := fun i => blk_frozen HY1.out i
  obtain ⟨cs, hcs⟩ : ∃ cs, d.map encB = cs := ⟨_, rfl⟩
  have hcl : cs.length = 32 := by rw [← hcs, List.length_map]; exact hX.dl
  have HDI := Lib.hid (show (Try.prog.info? 25).map (·.size) = some cs.length by rw [hcl]; exact infoDig)
  have HDI2 := Lib.hid (show (Try.prog.info? 25).map (·.size) = some cs.toArray.size by rw [List.size_toArray, hcl]; exact infoDig)
  have HC1 := Lib.hid (show cs.toArray.all (·.oneCell') = true by rw [← hcs]; exact all_oneCell_toArray (one_encs _))
  have HD1 := Lib.hid (show w1.rangeAt w.heap.size 2 cs from hcs ▸ hX.range HG.out)
  have hu := upd_cells HY1.out 2 cs (by have := hYF.size; omega)
  obtain ⟨X2, hX2⟩ : ∃ X2, (splice Y.toList 2 cs).toArray = X2 := ⟨_, rfl⟩
  obtain ⟨w2, hw2⟩ : ∃ w', World.setCells w1 (w.heap.size + 1 + 1) 2 cs = w' := ⟨_, rfl⟩
  rw [hX2, hw2] at hu
  have HW2 := Lib.hid hw2
  have hX2F : RecF X2 5 s d ⟨#[]⟩ none 0 0 0 0 := by rw [← hX2, ← hcs]; exact hYF.setD hX.dl
  have HTH := Lib.hid (there_of HY1.out 2 cs.toArray.size (by have := hYF.size; rw [List.size_toArray]; omega))
  have HG2 := Lib.hid ((hu.off w.heap.size (by omega)).trans HG.out)
  have HZ2 := Lib.hid ((hu.off (w.heap.size + 1) (by omega)).trans HZ1.out)
  have HY2 := Lib.hid hu.at_
  have HB2 := Lib.hid (hu.to (by omega) HB1.out)
  have hcc2 := fun i => blk_cell HG2.out i
  have hY2 := fun i => blk_cell HY2.out i
  have hff2 := fun i => blk_frozen HY2.out i
  clear hu hX2 hw2
  have HF := Lib.hid hX2F
  have HI := Lib.hid hX2F.info
  have HS := Lib.hid (show zRec.size = X2.size from zRecF.size.trans hX2F.size.symm)
  have H1 := Lib.hid hX2F.one
  clear hX hY hYF hg0 hz0 hb00 hb1 hcs hX2F
  go_enter Try.func20, Try.ntmps20
  go_wp2_with (first | (refine wpList_box rfl rfl 27 _ _ rfl rfl (recC 5 s z32 ⟨#[]⟩ none 0 0 0 0) zRec zeroRec rfl rfl rfl (recF rfl).info (recF rfl).one ?_; rw [HY.out]) | (refine wpList_allocZ rfl 27 rfl zRec zeroRec ?_) | (refine wpList_load_mid rfl 25 (.tmp 17) rfl w.heap.size 2 rfl cs _ HD1.out undDig rfl HDI.out ?_) | (refine wpList_store_mid rfl 25 (.tmp 19) (.tmp 18) rfl (w.heap.size + 1 + 1) 2 cs.toArray rfl rfl HTH.out HDI2.out HC1.out ?_; rw [show cs.toArray.toList = cs from rfl, HW2.out]) | (refine wpList_load_row rfl 27 (.tmp 4) rfl (w.heap.size + 1 + 1) rfl 27 X2 (0, 0) _ HY2.out Try.underlying27 rfl HI.out ?_) | (refine wpList_store_row rfl 27 (.tmp 2) (.tmp 48) rfl (w.heap.size + 1) X2 rfl rfl 27 zRec HZ2.out HI.out HS.out H1.out ?_; obtain ⟨w9, hw9⟩ : ∃ w', World.setRow w2 (w.heap.size + 1) X2 = w' := ⟨_, rfl⟩; have hu := upd_row HZ2.out X2; rw [hw9] at hu ⊢; have HF9 := Lib.hid hu.at_; have HBF9 := Lib.hid (hu.to (Nat.le_succ _) HB2.out); clear hu hw9))
  skip
  refine bodyPost_ret_by (results_cell_row rfl _ _ (w.heap.size + 1) _ X2 (0, 0) _ rfl HF9.out Try.underlying27 rfl HI.out) rfl ?_
  exact ⟨X2, rfl, HF.out, HBF9.out⟩
set_option maxRecDepth 100000 in
set_option maxHeartbeats 3200000 in
theorem bare6 (X : Array Value) (s : Nat) (d : List UInt8) (nm : ByteArray) (A : Option Addr) (l : List UInt8) (c : Nat) (n z : Int) (w : World) (hX : RecF X 6 s d nm A l.length c n z) :
    Calls Try.prog 20 #[.agg X] w (Bared 6 s d nm A l c n z w) := by
  have h0 := hX.c0
  have h1 := hX.c1
  have h34 := hX.c34
  have h35 := hX.c35
  have h36 := hX.c36
  have h37 := hX.c37
  obtain ⟨Y, hY⟩ : ∃ Y, recC 6 s z32 ⟨#[]⟩ none 0 0 0 0 = Y := ⟨_, rfl⟩
  have hYF : RecF Y 6 s z32 ⟨#[]⟩ none 0 0 0 0 := hY ▸ recF rfl
  have HY := Lib.hid hY
  obtain ⟨w0, hw0⟩ : ∃ w0, (w.alloc (.cells X 27)).alloc (.cells zRec 27) = w0 := ⟨_, rfl⟩
  obtain ⟨hg0, hz0, hb00⟩ := run_blk2 w X zRec 27 27
  rw [hw0] at hg0 hz0 hb00
  have HG0 := Lib.hid hg0
  have hcc0 := fun i => blk_cell HG0.out i
  have hs0 : w0.heap.size = w.heap.size + 2 := by rw [← hw0]; simp
  obtain ⟨w1, hw1⟩ : ∃ w1, w0.alloc (.cells Y 27) = w1 := ⟨_, rfl⟩
  have hb1 : Below w0.heap.size w0 w1 := hw1 ▸ below_alloc (Below.refl _ _) _
  have HG := Lib.hid (blk_below hg0 hb1)
  have HZ1 := Lib.hid (blk_below hz0 hb1)
  have HB1 := Lib.hid (below_step' hb00 hb1)
  have HY1 := Lib.hid (show w1.heap[w.heap.size + 1 + 1]? = some (.cells Y 27 (0, 0)) from by have h := blk_new w0 (.cells Y 27); rw [hw1, hs0] at h; exact h)
  have hcc := fun i => blk_cell HG.out i
  have hY1 := fun i => blk_cell HY1.out i
  have hff := fun i => blk_frozen HY1.out i
  obtain ⟨cs, hcs⟩ : ∃ cs, d.map encB = cs := ⟨_, rfl⟩
  have hcl : cs.length = 32 := by rw [← hcs, List.length_map]; exact hX.dl
  have HDI := Lib.hid (show (Try.prog.info? 25).map (·.size) = some cs.length by rw [hcl]; exact infoDig)
  have HDI2 := Lib.hid (show (Try.prog.info? 25).map (·.size) = some cs.toArray.size by rw [List.size_toArray, hcl]; exact infoDig)
  have HC1 := Lib.hid (show cs.toArray.all (·.oneCell') = true by rw [← hcs]; exact all_oneCell_toArray (one_encs _))
  have HD1 := Lib.hid (show w1.rangeAt w.heap.size 2 cs from hcs ▸ hX.range HG.out)
  have g36 := hYF.c36
  have hu := upd_cell HY1.out 36 (.int .i64 n)
  obtain ⟨X2, hX2⟩ : ∃ Zq, Y.setIfInBounds 36 (.int .i64 n) = Zq := ⟨_, rfl⟩
  obtain ⟨w2, hw2⟩ : ∃ w', w1.setCell ⟨w.heap.size + 1 + 1, 36, none⟩ (.int .i64 n) = w' := ⟨_, rfl⟩
  rw [hX2, hw2] at hu
  have hX2F : RecF X2 6 s z32 ⟨#[]⟩ none 0 0 n 0 := hX2 ▸ hYF.setN n
  have HG2 := Lib.hid ((hu.off w.heap.size (by omega)).trans HG.out)
  have HZ2 := Lib.hid ((hu.off (w.heap.size + 1) (by omega)).trans HZ1.out)
  have HY2 := Lib.hid hu.at_
  have HB2 := Lib.hid (hu.to (by omega) HB1.out)
  have hcc2 := fun i => blk_cell HG2.out i
  have hY2 := fun i => blk_cell HY2.out i
  have hff2 := fun i => blk_frozen HY2.out i
  clear hu hX2
  have g37 := hX2F.c37
  have hu := upd_cell HY2.out 37 (.int .i64 z)
  obtain ⟨X3, hX3⟩ : ∃ Zq, X2.setIfInBounds 37 (.int .i64 z) = Zq := ⟨_, rfl⟩
  obtain ⟨w3, hw3⟩ : ∃ w', w2.setCell ⟨w.heap.size + 1 + 1, 37, none⟩ (.int .i64 z) = w' := ⟨_, rfl⟩
  rw [hX3, hw3] at hu
  have hX3F : RecF X3 6 s z32 ⟨#[]⟩ none 0 0 n z := hX3 ▸ hX2F.setZ z
  have HG3 := Lib.hid ((hu.off w.heap.size (by omega)).trans HG2.out)
  have HZ3 := Lib.hid ((hu.off (w.heap.size + 1) (by omega)).trans HZ2.out)
  have HY3 := Lib.hid hu.at_
  have HB3 := Lib.hid (hu.to (by omega) HB2.out)
  have hcc3 := fun i => blk_cell HG3.out i
  have hY3 := fun i => blk_cell HY3.out i
  have hff3 := fun i => blk_frozen HY3.out i
  clear hu hX3
  have HF := Lib.hid hX3F
  have HI := Lib.hid hX3F.info
  have HS := Lib.hid (show zRec.size = X3.size from zRecF.size.trans hX3F.size.symm)
  have H1 := Lib.hid hX3F.one
  clear hX hY hYF hg0 hz0 hb00 hb1 hcs hX2F hX3F
  go_enter Try.func20, Try.ntmps20
  go_wp2_with (first | (refine wpList_box rfl rfl 27 _ _ rfl rfl (recC 6 s z32 ⟨#[]⟩ none 0 0 0 0) zRec zeroRec rfl rfl rfl (recF rfl).info (recF rfl).one ?_; rw [HY.out]) | (refine wpList_allocZ rfl 27 rfl zRec zeroRec ?_) | (refine wpList_load_row rfl 27 (.tmp 4) rfl (w.heap.size + 1 + 1) rfl 27 X3 (0, 0) _ HY3.out Try.underlying27 rfl HI.out ?_) | (refine wpList_store_row rfl 27 (.tmp 2) (.tmp 48) rfl (w.heap.size + 1) X3 rfl rfl 27 zRec HZ3.out HI.out HS.out H1.out ?_; obtain ⟨w9, hw9⟩ : ∃ w', World.setRow w3 (w.heap.size + 1) X3 = w' := ⟨_, rfl⟩; have hu := upd_row HZ3.out X3; rw [hw9] at hu ⊢; have HF9 := Lib.hid hu.at_; have HBF9 := Lib.hid (hu.to (Nat.le_succ _) HB3.out); clear hu hw9))
  skip
  refine bodyPost_ret_by (results_cell_row rfl _ _ (w.heap.size + 1) _ X3 (0, 0) _ rfl HF9.out Try.underlying27 rfl HI.out) rfl ?_
  exact ⟨X3, rfl, HF.out, HBF9.out⟩
set_option maxRecDepth 100000 in
set_option maxHeartbeats 3200000 in
theorem bare7 (X : Array Value) (s : Nat) (d : List UInt8) (nm : ByteArray) (A : Option Addr) (l : List UInt8) (c : Nat) (n z : Int) (w : World) (hX : RecF X 7 s d nm A l.length c n z) :
    Calls Try.prog 20 #[.agg X] w (Bared 7 s d nm A l c n z w) := by
  have h0 := hX.c0
  have h1 := hX.c1
  have h34 := hX.c34
  have h35 := hX.c35
  have h36 := hX.c36
  have h37 := hX.c37
  obtain ⟨Y, hY⟩ : ∃ Y, recC 7 s z32 ⟨#[]⟩ none 0 0 0 0 = Y := ⟨_, rfl⟩
  have hYF : RecF Y 7 s z32 ⟨#[]⟩ none 0 0 0 0 := hY ▸ recF rfl
  have HY := Lib.hid hY
  obtain ⟨w0, hw0⟩ : ∃ w0, (w.alloc (.cells X 27)).alloc (.cells zRec 27) = w0 := ⟨_, rfl⟩
  obtain ⟨hg0, hz0, hb00⟩ := run_blk2 w X zRec 27 27
  rw [hw0] at hg0 hz0 hb00
  have HG0 := Lib.hid hg0
  have hcc0 := fun i => blk_cell HG0.out i
  have hs0 : w0.heap.size = w.heap.size + 2 := by rw [← hw0]; simp
  obtain ⟨w1, hw1⟩ : ∃ w1, w0.alloc (.cells Y 27) = w1 := ⟨_, rfl⟩
  have hb1 : Below w0.heap.size w0 w1 := hw1 ▸ below_alloc (Below.refl _ _) _
  have HG := Lib.hid (blk_below hg0 hb1)
  have HZ1 := Lib.hid (blk_below hz0 hb1)
  have HB1 := Lib.hid (below_step' hb00 hb1)
  have HY1 := Lib.hid (show w1.heap[w.heap.size + 1 + 1]? = some (.cells Y 27 (0, 0)) from by have h := blk_new w0 (.cells Y 27); rw [hw1, hs0] at h; exact h)
  have hcc := fun i => blk_cell HG.out i
  have hY1 := fun i => blk_cell HY1.out i
  have hff := fun i => blk_frozen HY1.out i
  obtain ⟨cs, hcs⟩ : ∃ cs, d.map encB = cs := ⟨_, rfl⟩
  have hcl : cs.length = 32 := by rw [← hcs, List.length_map]; exact hX.dl
  have HDI := Lib.hid (show (Try.prog.info? 25).map (·.size) = some cs.length by rw [hcl]; exact infoDig)
  have HDI2 := Lib.hid (show (Try.prog.info? 25).map (·.size) = some cs.toArray.size by rw [List.size_toArray, hcl]; exact infoDig)
  have HC1 := Lib.hid (show cs.toArray.all (·.oneCell') = true by rw [← hcs]; exact all_oneCell_toArray (one_encs _))
  have HD1 := Lib.hid (show w1.rangeAt w.heap.size 2 cs from hcs ▸ hX.range HG.out)
  have g36 := hYF.c36
  have hu := upd_cell HY1.out 36 (.int .i64 n)
  obtain ⟨X2, hX2⟩ : ∃ Zq, Y.setIfInBounds 36 (.int .i64 n) = Zq := ⟨_, rfl⟩
  obtain ⟨w2, hw2⟩ : ∃ w', w1.setCell ⟨w.heap.size + 1 + 1, 36, none⟩ (.int .i64 n) = w' := ⟨_, rfl⟩
  rw [hX2, hw2] at hu
  have hX2F : RecF X2 7 s z32 ⟨#[]⟩ none 0 0 n 0 := hX2 ▸ hYF.setN n
  have HG2 := Lib.hid ((hu.off w.heap.size (by omega)).trans HG.out)
  have HZ2 := Lib.hid ((hu.off (w.heap.size + 1) (by omega)).trans HZ1.out)
  have HY2 := Lib.hid hu.at_
  have HB2 := Lib.hid (hu.to (by omega) HB1.out)
  have hcc2 := fun i => blk_cell HG2.out i
  have hY2 := fun i => blk_cell HY2.out i
  have hff2 := fun i => blk_frozen HY2.out i
  clear hu hX2
  have HF := Lib.hid hX2F
  have HI := Lib.hid hX2F.info
  have HS := Lib.hid (show zRec.size = X2.size from zRecF.size.trans hX2F.size.symm)
  have H1 := Lib.hid hX2F.one
  clear hX hY hYF hg0 hz0 hb00 hb1 hcs hX2F
  go_enter Try.func20, Try.ntmps20
  go_wp2_with (first | (refine wpList_box rfl rfl 27 _ _ rfl rfl (recC 7 s z32 ⟨#[]⟩ none 0 0 0 0) zRec zeroRec rfl rfl rfl (recF rfl).info (recF rfl).one ?_; rw [HY.out]) | (refine wpList_allocZ rfl 27 rfl zRec zeroRec ?_) | (refine wpList_load_row rfl 27 (.tmp 4) rfl (w.heap.size + 1 + 1) rfl 27 X2 (0, 0) _ HY2.out Try.underlying27 rfl HI.out ?_) | (refine wpList_store_row rfl 27 (.tmp 2) (.tmp 48) rfl (w.heap.size + 1) X2 rfl rfl 27 zRec HZ2.out HI.out HS.out H1.out ?_; obtain ⟨w9, hw9⟩ : ∃ w', World.setRow w2 (w.heap.size + 1) X2 = w' := ⟨_, rfl⟩; have hu := upd_row HZ2.out X2; rw [hw9] at hu ⊢; have HF9 := Lib.hid hu.at_; have HBF9 := Lib.hid (hu.to (Nat.le_succ _) HB2.out); clear hu hw9))
  skip
  refine bodyPost_ret_by (results_cell_row rfl _ _ (w.heap.size + 1) _ X2 (0, 0) _ rfl HF9.out Try.underlying27 rfl HI.out) rfl ?_
  exact ⟨X2, rfl, HF.out, HBF9.out⟩
set_option maxRecDepth 100000 in
set_option maxHeartbeats 3200000 in
theorem bare8 (X : Array Value) (s : Nat) (d : List UInt8) (nm : ByteArray) (A : Option Addr) (l : List UInt8) (c : Nat) (n z : Int) (w : World) (hX : RecF X 8 s d nm A l.length c n z) :
    Calls Try.prog 20 #[.agg X] w (Bared 8 s d nm A l c n z w) := by
  have h0 := hX.c0
  have h1 := hX.c1
  have h34 := hX.c34
  have h35 := hX.c35
  have h36 := hX.c36
  have h37 := hX.c37
  obtain ⟨Y, hY⟩ : ∃ Y, recC 8 s z32 ⟨#[]⟩ none 0 0 0 0 = Y := ⟨_, rfl⟩
  have hYF : RecF Y 8 s z32 ⟨#[]⟩ none 0 0 0 0 := hY ▸ recF rfl
  have HY := Lib.hid hY
  obtain ⟨w0, hw0⟩ : ∃ w0, (w.alloc (.cells X 27)).alloc (.cells zRec 27) = w0 := ⟨_, rfl⟩
  obtain ⟨hg0, hz0, hb00⟩ := run_blk2 w X zRec 27 27
  rw [hw0] at hg0 hz0 hb00
  have HG0 := Lib.hid hg0
  have hcc0 := fun i => blk_cell HG0.out i
  have hs0 : w0.heap.size = w.heap.size + 2 := by rw [← hw0]; simp
  obtain ⟨w1, hw1⟩ : ∃ w1, w0.alloc (.cells Y 27) = w1 := ⟨_, rfl⟩
  have hb1 : Below w0.heap.size w0 w1 := hw1 ▸ below_alloc (Below.refl _ _) _
  have HG := Lib.hid (blk_below hg0 hb1)
  have HZ1 := Lib.hid (blk_below hz0 hb1)
  have HB1 := Lib.hid (below_step' hb00 hb1)
  have HY1 := Lib.hid (show w1.heap[w.heap.size + 1 + 1]? = some (.cells Y 27 (0, 0)) from by have h := blk_new w0 (.cells Y 27); rw [hw1, hs0] at h; exact h)
  have hcc := fun i => blk_cell HG.out i
  have hY1 := fun i => blk_cell HY1.out i
  have hff := fun i => blk_frozen HY1.out i
  obtain ⟨cs, hcs⟩ : ∃ cs, d.map encB = cs := ⟨_, rfl⟩
  have hcl : cs.length = 32 := by rw [← hcs, List.length_map]; exact hX.dl
  have HDI := Lib.hid (show (Try.prog.info? 25).map (·.size) = some cs.length by rw [hcl]; exact infoDig)
  have HDI2 := Lib.hid (show (Try.prog.info? 25).map (·.size) = some cs.toArray.size by rw [List.size_toArray, hcl]; exact infoDig)
  have HC1 := Lib.hid (show cs.toArray.all (·.oneCell') = true by rw [← hcs]; exact all_oneCell_toArray (one_encs _))
  have HD1 := Lib.hid (show w1.rangeAt w.heap.size 2 cs from hcs ▸ hX.range HG.out)
  have g36 := hYF.c36
  have hu := upd_cell HY1.out 36 (.int .i64 n)
  obtain ⟨X2, hX2⟩ : ∃ Zq, Y.setIfInBounds 36 (.int .i64 n) = Zq := ⟨_, rfl⟩
  obtain ⟨w2, hw2⟩ : ∃ w', w1.setCell ⟨w.heap.size + 1 + 1, 36, none⟩ (.int .i64 n) = w' := ⟨_, rfl⟩
  rw [hX2, hw2] at hu
  have hX2F : RecF X2 8 s z32 ⟨#[]⟩ none 0 0 n 0 := hX2 ▸ hYF.setN n
  have HG2 := Lib.hid ((hu.off w.heap.size (by omega)).trans HG.out)
  have HZ2 := Lib.hid ((hu.off (w.heap.size + 1) (by omega)).trans HZ1.out)
  have HY2 := Lib.hid hu.at_
  have HB2 := Lib.hid (hu.to (by omega) HB1.out)
  have hcc2 := fun i => blk_cell HG2.out i
  have hY2 := fun i => blk_cell HY2.out i
  have hff2 := fun i => blk_frozen HY2.out i
  clear hu hX2
  have g37 := hX2F.c37
  have hu := upd_cell HY2.out 37 (.int .i64 z)
  obtain ⟨X3, hX3⟩ : ∃ Zq, X2.setIfInBounds 37 (.int .i64 z) = Zq := ⟨_, rfl⟩
  obtain ⟨w3, hw3⟩ : ∃ w', w2.setCell ⟨w.heap.size + 1 + 1, 37, none⟩ (.int .i64 z) = w' := ⟨_, rfl⟩
  rw [hX3, hw3] at hu
  have hX3F : RecF X3 8 s z32 ⟨#[]⟩ none 0 0 n z := hX3 ▸ hX2F.setZ z
  have HG3 := Lib.hid ((hu.off w.heap.size (by omega)).trans HG2.out)
  have HZ3 := Lib.hid ((hu.off (w.heap.size + 1) (by omega)).trans HZ2.out)
  have HY3 := Lib.hid hu.at_
  have HB3 := Lib.hid (hu.to (by omega) HB2.out)
  have hcc3 := fun i => blk_cell HG3.out i
  have hY3 := fun i => blk_cell HY3.out i
  have hff3 := fun i => blk_frozen HY3.out i
  clear hu hX3
  have HF := Lib.hid hX3F
  have HI := Lib.hid hX3F.info
  have HS := Lib.hid (show zRec.size = X3.size from zRecF.size.trans hX3F.size.symm)
  have H1 := Lib.hid hX3F.one
  clear hX hY hYF hg0 hz0 hb00 hb1 hcs hX2F hX3F
  go_enter Try.func20, Try.ntmps20
  go_wp2_with (first | (refine wpList_box rfl rfl 27 _ _ rfl rfl (recC 8 s z32 ⟨#[]⟩ none 0 0 0 0) zRec zeroRec rfl rfl rfl (recF rfl).info (recF rfl).one ?_; rw [HY.out]) | (refine wpList_allocZ rfl 27 rfl zRec zeroRec ?_) | (refine wpList_load_row rfl 27 (.tmp 4) rfl (w.heap.size + 1 + 1) rfl 27 X3 (0, 0) _ HY3.out Try.underlying27 rfl HI.out ?_) | (refine wpList_store_row rfl 27 (.tmp 2) (.tmp 48) rfl (w.heap.size + 1) X3 rfl rfl 27 zRec HZ3.out HI.out HS.out H1.out ?_; obtain ⟨w9, hw9⟩ : ∃ w', World.setRow w3 (w.heap.size + 1) X3 = w' := ⟨_, rfl⟩; have hu := upd_row HZ3.out X3; rw [hw9] at hu ⊢; have HF9 := Lib.hid hu.at_; have HBF9 := Lib.hid (hu.to (Nat.le_succ _) HB3.out); clear hu hw9))
  skip
  refine bodyPost_ret_by (results_cell_row rfl _ _ (w.heap.size + 1) _ X3 (0, 0) _ rfl HF9.out Try.underlying27 rfl HI.out) rfl ?_
  exact ⟨X3, rfl, HF.out, HBF9.out⟩
theorem bare_any (k : Int) (X : Array Value) (s : Nat) (d : List UInt8) (nm : ByteArray) (A : Option Addr) (l : List UInt8) (c : Nat) (n z : Int) (w : World) (hk : 1 ≤ k ∧ k ≤ 8) (hX : RecF X k s d nm A l.length c n z) :
    Calls Try.prog 20 #[.agg X] w (Bared k s d nm A l c n z w) := by
  rcases (show k = 1 ∨ k = 2 ∨ k = 3 ∨ k = 4 ∨ k = 5 ∨ k = 6 ∨ k = 7 ∨ k = 8 by omega) with rfl | rfl | rfl | rfl | rfl | rfl | rfl | rfl
  · exact bare1 X s d nm A l c n z w hX
  · exact bare2 X s d nm A l c n z w hX
  · exact bare3 X s d nm A l c n z w hX
  · exact bare4 X s d nm A l c n z w hX
  · exact bare5 X s d nm A l c n z w hX
  · exact bare6 X s d nm A l c n z w hX
  · exact bare7 X s d nm A l c n z w hX
  · exact bare8 X s d nm A l c n z w hX
end Go.Proofs.Ytceldlijbehkdaa.Rc
