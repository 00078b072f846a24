/- stillageref14.Word. -/
import Derived.Test.YtceldlijbehkdaaRcWord
import Derived.Test.YtceldlijbehkdaaRcSame
set_option linter.unusedVariables false
set_option linter.unusedSimpArgs false
namespace Go.Proofs.Ytceldlijbehkdaa.Rc
open Go.RowKit Go.Proofs.YtceldlijbehkdaaW.PrintWords Go.Proofs.Ytceldlijbehkdaa.B Go.Proofs.Ytceldlijbehkdaa.Fx Go.Proofs.Ytceldlijbehkdaa.Fr
theorem bare_word {k : Int} {d : List UInt8} {nm : ByteArray} {l : List UInt8} {z : Int} (hk : 1 ≤ k ∧ k ≤ 8) : dB k d = dW k d ∧ nmB k nm = nmW k nm ∧ ((lB k l).length : Int) + zB k z = zW k l.length z := by
  rcases (show k = 1 ∨ k = 2 ∨ k = 3 ∨ k = 4 ∨ k = 5 ∨ k = 6 ∨ k = 7 ∨ k = 8 by omega) with rfl | rfl | rfl | rfl | rfl | rfl | rfl | rfl
  · exact ⟨rfl, rfl, Int.add_zero _⟩
  · exact ⟨rfl, rfl, Int.add_zero _⟩
  · exact ⟨rfl, rfl, rfl⟩
  · exact ⟨rfl, rfl, rfl⟩
  · exact ⟨rfl, rfl, rfl⟩
  · exact ⟨rfl, rfl, Int.zero_add _⟩
  · exact ⟨rfl, rfl, rfl⟩
  · exact ⟨rfl, rfl, Int.zero_add _⟩
theorem zW_in {k : Int} {m : Nat} {z : Int} (hm : m ≤ 9223372036854775807) (hz : -9223372036854775808 ≤ z ∧ z ≤ 9223372036854775807) : -9223372036854775808 ≤ zW k m z ∧ zW k m z ≤ 9223372036854775807 := by
  unfold zW
  split
  · omega
  · split
    · exact hz
    · decide
theorem dB_len {k : Int} {d : List UInt8} (h : d.length = 32) : (dB k d).length = 32 := by unfold dB; split; · exact h
                                                                                           · rfl
set_option maxRecDepth 100000 in
set_option maxHeartbeats 3200000 in
theorem refwordO (X : Array Value) (s : Nat) (d : List UInt8) (nm : ByteArray) (A : Option Addr) (l : List UInt8) (c : Nat) (n z l1 l2 l3 : Int) (w : World) (k : Int) (hk : ¬ (1 ≤ k ∧ k ≤ 8)) (hX : RecF X k s d nm A l.length c n z) :
    Calls Try.prog 27 #[.agg X, .agg #[.int .i64 l1, .int .i64 l2, .int .i64 l3]] w (Worded k s d nm l.length z l1 l2 l3 w) := by
  have HE := Lib.hid (show dW k d = z32 ∧ nmW k nm = ⟨#[]⟩ ∧ zW k l.length z = 0 from ⟨if_neg (by omega), if_neg (by omega), by unfold zW; rw [if_neg (by omega), if_neg (by omega)]⟩)
  have h0 := hX.c0
  have h1 := hX.c1
  have h34 := hX.c34
  have h35 := hX.c35
  have h36 := hX.c36
  have h37 := hX.c37
  obtain ⟨Y, hY⟩ : ∃ Y, wordC k s z32 ⟨#[]⟩ 0 l1 l2 l3 = Y := ⟨_, rfl⟩
  have hYF : WordF Y k s z32 ⟨#[]⟩ 0 l1 l2 l3 := hY ▸ wordF rfl
  have HY := Lib.hid hY
  obtain ⟨w0, hw0⟩ : ∃ w0, ((w.alloc (.cells X 27)).alloc (.cells #[.int .i64 l1, .int .i64 l2, .int .i64 l3] 44)).alloc (.cells zWord 50) = w0 := ⟨_, rfl⟩
  obtain ⟨hg, hgl, hz, hy, hb⟩ := blk4 w X #[.int .i64 l1, .int .i64 l2, .int .i64 l3] zWord Y 27 44 50 50
  rw [hw0] at hg hgl hz hy hb
  have hs0 : w0.heap.size = w.heap.size + 1 + 1 + 1 := by rw [← hw0]; simp
  have hcc0 : ∀ i, w0.cell? ⟨w.heap.size, i, none⟩ = X[i]? := fun i => by rw [← hw0]; exact blk_cell (blk_below (blk_new w (.cells X 27)) (below_alloc (below_alloc (Below.refl _ _) _) _)) i
  have hcl0 : ∀ i, w0.cell? ⟨w.heap.size + 1, i, none⟩ = (#[.int .i64 l1, .int .i64 l2, .int .i64 l3] : Array Value)[i]? := fun i => by rw [← hw0]; have h := blk_new (w.alloc (.cells X 27)) (.cells #[.int .i64 l1, .int .i64 l2, .int .i64 l3] 44); rw [show (w.alloc (.cells X 27)).heap.size = w.heap.size + 1 by simp] at h; exact blk_cell (blk_below h (below_alloc (Below.refl _ _) _)) i
  obtain ⟨w1, hw1⟩ : ∃ w1, w0.alloc (.cells Y 50) = w1 := ⟨_, rfl⟩
  rw [hw1] at hg hgl hz hy hb
  have HG := Lib.hid hg
  have HL := Lib.hid hgl
  have HZ1 := Lib.hid hz
  have HY1 := Lib.hid hy
  have HB1 := Lib.hid hb
  have hcc := fun i => blk_cell HG.out i
  have hY1 := fun i => blk_cell HY1.out i
  have hff := fun i => blk_frozen HY1.out i
  obtain ⟨cs, hcs⟩ : ∃ cs, d.map encB = cs := ⟨_, rfl⟩
  have hcl : cs.length = 32 := by rw [← hcs, List.length_map]; exact hX.dl
  have HDI := Lib.hid (show (Try.prog.info? 25).map (·.size) = some cs.length by rw [hcl]; exact infoDig)
  have HDI2 := Lib.hid (show (Try.prog.info? 25).map (·.size) = some cs.toArray.size by rw [List.size_toArray, hcl]; exact infoDig)
  have HC1 := Lib.hid (show cs.toArray.all (·.oneCell') = true by rw [← hcs]; exact all_oneCell_toArray (one_encs _))
  have HD1 := Lib.hid (show w1.rangeAt w.heap.size 2 cs from hcs ▸ hX.range HG.out)
  by_cases q1 : k < 1
  · have d1 : decide (k < 1) = true := decide_eq_true q1
    clear hk q1
    have HF := Lib.hid hYF
    have HI := Lib.hid hYF.info
    have HS := Lib.hid (show zWord.size = Y.size from zWordF.size.trans hYF.size.symm)
    have H1 := Lib.hid hYF.one
    clear hX hY hYF hg hgl hz hy hb hcs
    go_enter Try.func27, Try.ntmps27
    go_wp2_with (first | (refine wpList_box rfl rfl 50 _ _ rfl rfl (wordC k s z32 ⟨#[]⟩ 0 l1 l2 l3) zWord zeroWord rfl rfl rfl (wordF rfl).info (wordF rfl).one ?_; rw [HY.out]) | (refine wpList_allocZ rfl 50 rfl zWord zeroWord ?_) | (refine wpList_load_row rfl 50 (.tmp 5) rfl (w.heap.size + 1 + 1 + 1) rfl 50 Y (0, 0) _ HY1.out Try.underlying50 rfl HI.out ?_) | (refine wpList_store_row rfl 50 (.tmp 4) (.tmp 21) rfl (w.heap.size + 1 + 1) Y rfl rfl 50 zWord HZ1.out HI.out HS.out H1.out ?_; obtain ⟨w99, hw99⟩ : ∃ w', World.setRow w1 (w.heap.size + 1 + 1) Y = w' := ⟨_, rfl⟩; have hu := upd_row HZ1.out Y; rw [hw99] at hu ⊢; have HF9 := Lib.hid hu.at_; have HBF9 := Lib.hid (hu.to (by omega) HB1.out); clear hu hw99))
    refine bodyPost_ret_by (results_cell_row rfl _ _ (w.heap.size + 1 + 1) _ Y (0, 0) _ rfl HF9.out Try.underlying50 rfl HI.out) rfl ?_
    exact ⟨Y, rfl, by rw [HE.out.1, HE.out.2.1, HE.out.2.2]; exact HF.out, HBF9.out⟩
  · have d1 : decide (k < 1) = false := decide_eq_false q1
    have d2 : decide (8 < k) = true := decide_eq_true (by omega)
    clear hk q1
    have HF := Lib.hid hYF
    have HI := Lib.hid hYF.info
    have HS := Lib.hid (show zWord.size = Y.size from zWordF.size.trans hYF.size.symm)
    have H1 := Lib.hid hYF.one
    clear hX hY hYF hg hgl hz hy hb hcs
    go_enter Try.func27, Try.ntmps27
    go_wp2_with (first | (refine wpList_box rfl rfl 50 _ _ rfl rfl (wordC k s z32 ⟨#[]⟩ 0 l1 l2 l3) zWord zeroWord rfl rfl rfl (wordF rfl).info (wordF rfl).one ?_; rw [HY.out]) | (refine wpList_allocZ rfl 50 rfl zWord zeroWord ?_) | (refine wpList_load_row rfl 50 (.tmp 5) rfl (w.heap.size + 1 + 1 + 1) rfl 50 Y (0, 0) _ HY1.out Try.underlying50 rfl HI.out ?_) | (refine wpList_store_row rfl 50 (.tmp 4) (.tmp 21) rfl (w.heap.size + 1 + 1) Y rfl rfl 50 zWord HZ1.out HI.out HS.out H1.out ?_; obtain ⟨w99, hw99⟩ : ∃ w', World.setRow w1 (w.heap.size + 1 + 1) Y = w' := ⟨_, rfl⟩; have hu := upd_row HZ1.out Y; rw [hw99] at hu ⊢; have HF9 := Lib.hid hu.at_; have HBF9 := Lib.hid (hu.to (by omega) HB1.out); clear hu hw99))
    refine bodyPost_ret_by (results_cell_row rfl _ _ (w.heap.size + 1 + 1) _ Y (0, 0) _ rfl HF9.out Try.underlying50 rfl HI.out) rfl ?_
    exact ⟨Y, rfl, by rw [HE.out.1, HE.out.2.1, HE.out.2.2]; exact HF.out, HBF9.out⟩
set_option maxRecDepth 100000 in
set_option maxHeartbeats 3200000 in
theorem refwordI (X : Array Value) (s : Nat) (d : List UInt8) (nm : ByteArray) (A : Option Addr) (l : List UInt8) (c : Nat) (n z l1 l2 l3 : Int) (w : World) (k : Int) (hk : 1 ≤ k ∧ k ≤ 8) (hX : RecF X k s d nm A l.length c n z) (hl : l.length ≤ 9223372036854775807) (hzb : -9223372036854775808 ≤ z ∧ z ≤ 9223372036854775807) :
    Calls Try.prog 27 #[.agg X, .agg #[.int .i64 l1, .int .i64 l2, .int .i64 l3]] w (Worded k s d nm l.length z l1 l2 l3 w) := by
  have d1 : decide (k < 1) = false := decide_eq_false (by omega)
  have d2 : decide (8 < k) = false := decide_eq_false (by omega)
  obtain ⟨e1, e2, e3⟩ := bare_word (k := k) (d := d) (nm := nm) (l := l) (z := z) hk
  have hzw := zW_in (k := k) hl hzb
  have hdl2 := dB_len (k := k) hX.dl
  have HBA := Lib.hid (fun (W : World) => bare_any k X s d nm A l c n z W hk hX)
  unfold Bared at HBA
  have HXI := Lib.hid hX.info
  have hsum : IntKind.i64.wrap (((lB k l).length : Int) + zB k z) = zW k l.length z := by rw [e3]; exact IntWalk.i64_in _ hzw
  have HPO := Lib.hid (show Worded k s d nm l.length z l1 l2 l3 w = fun e w' => ∃ X, e = .returned (.agg X) ∧ WordF X k s (dW k d) (nmW k nm) (zW k l.length z) l1 l2 l3 ∧ Below w.heap.size w w' from rfl)
  rw [← e1, ← e2] at HPO
  have h0 := hX.c0
  have h1 := hX.c1
  have h34 := hX.c34
  have h35 := hX.c35
  have h36 := hX.c36
  have h37 := hX.c37
  obtain ⟨Y, hY⟩ : ∃ Y, wordC k s z32 ⟨#[]⟩ 0 l1 l2 l3 = Y := ⟨_, rfl⟩
  have hYF : WordF Y k s z32 ⟨#[]⟩ 0 l1 l2 l3 := hY ▸ wordF rfl
  have HY := Lib.hid hY
  obtain ⟨w0, hw0⟩ : ∃ w0, ((w.alloc (.cells X 27)).alloc (.cells #[.int .i64 l1, .int .i64 l2, .int .i64 l3] 44)).alloc (.cells zWord 50) = w0 := ⟨_, rfl⟩
  obtain ⟨hg, hgl, hz, hy, hb⟩ := blk4 w X #[.int .i64 l1, .int .i64 l2, .int .i64 l3] zWord Y 27 44 50 50
  rw [hw0] at hg hgl hz hy hb
  have hs0 : w0.heap.size = w.heap.size + 1 + 1 + 1 := by rw [← hw0]; simp
  have hcc0 : ∀ i, w0.cell? ⟨w.heap.size, i, none⟩ = X[i]? := fun i => by rw [← hw0]; exact blk_cell (blk_below (blk_new w (.cells X 27)) (below_alloc (below_alloc (Below.refl _ _) _) _)) i
  have hcl0 : ∀ i, w0.cell? ⟨w.heap.size + 1, i, none⟩ = (#[.int .i64 l1, .int .i64 l2, .int .i64 l3] : Array Value)[i]? := fun i => by rw [← hw0]; have h := blk_new (w.alloc (.cells X 27)) (.cells #[.int .i64 l1, .int .i64 l2, .int .i64 l3] 44); rw [show (w.alloc (.cells X 27)).heap.size = w.heap.size + 1 by simp] at h; exact blk_cell (blk_below h (below_alloc (Below.refl _ _) _)) i
  obtain ⟨w1, hw1⟩ : ∃ w1, w0.alloc (.cells Y 50) = w1 := ⟨_, rfl⟩
  rw [hw1] at hg hgl hz hy hb
  have HG := Lib.hid hg
  have HL := Lib.hid hgl
  have HZ1 := Lib.hid hz
  have HY1 := Lib.hid hy
  have HB1 := Lib.hid hb
  have hcc := fun i => blk_cell HG.out i
  have hY1 := fun i => blk_cell HY1.out i
  have hff := fun i => blk_frozen HY1.out i
  obtain ⟨cs, hcs⟩ : ∃ cs, d.map encB = cs := ⟨_, rfl⟩
  have hcl : cs.length = 32 := by rw [← hcs, List.length_map]; exact hX.dl
  have HDI := Lib.hid (show (Try.prog.info? 25).map (·.size) = some cs.length by rw [hcl]; exact infoDig)
  have HDI2 := Lib.hid (show (Try.prog.info? 25).map (·.size) = some cs.toArray.size by rw [List.size_toArray, hcl]; exact infoDig)
  have HC1 := Lib.hid (show cs.toArray.all (·.oneCell') = true by rw [← hcs]; exact all_oneCell_toArray (one_encs _))
  have HD1 := Lib.hid (show w1.rangeAt w.heap.size 2 cs from hcs ▸ hX.range HG.out)
  clear hcs hcl HDI HDI2 HC1 HD1 cs
  generalize dB k d = d' at *
  generalize nmB k nm = nm' at *
  generalize (lB k l).length = m' at *
  generalize zB k z = z' at *
  generalize AB k A = A' at *
  generalize cB k c = c' at *
  generalize nB k n = n' at *
  generalize zW k l.length z = zz at *
  clear e1 e2 e3 hzw hk
  clear hX hY hg hgl hz hy hb
  go_enter Try.func27, Try.ntmps27
  go_wp2_with (first | (refine wpList_box rfl rfl 50 _ _ rfl rfl (wordC k s z32 ⟨#[]⟩ 0 l1 l2 l3) zWord zeroWord rfl rfl rfl (wordF rfl).info (wordF rfl).one ?_; rw [HY.out]) | (refine wpList_allocZ rfl 50 rfl zWord zeroWord ?_) | (refine wpList_load_row rfl 27 (.tmp 2) rfl w.heap.size rfl 27 X (0, 0) _ HG.out Try.underlying27 rfl HXI.out ?_))
  refine (HBA.out w1).mono ?_
  rintro e w2 ⟨B, rfl, hBF, hb⟩
  clear hw0 hw1
  have HG2 := Lib.hid (blk_below HG.out hb)
  have HZ2 := Lib.hid (blk_below HZ1.out hb)
  have HY2 := Lib.hid (blk_below HY1.out hb)
  have HB2 := Lib.hid (below_step' HB1.out hb)
  obtain ⟨w3, hw3⟩ : ∃ w3, w2.alloc (.cells B 27) = w3 := ⟨_, rfl⟩
  have hb3 : Below w2.heap.size w2 w3 := hw3 ▸ below_alloc (Below.refl _ _) _
  have HBB := Lib.hid (show w3.heap[w2.heap.size]? = some (.cells B 27 (0, 0)) from hw3 ▸ blk_new w2 _)
  have HZ3 := Lib.hid (blk_below HZ2.out hb3)
  have HY3 := Lib.hid (blk_below HY2.out hb3)
  have HB3 := Lib.hid (below_step' HB2.out hb3)
  have hlt := blk_lt HY2.out
  have hsz2 : w.heap.size + 1 + 1 + 1 < w2.heap.size := hlt
  obtain ⟨cs, hcs⟩ : ∃ cs, d'.map encB = cs := ⟨_, rfl⟩
  have hcl : cs.length = 32 := by rw [← hcs, List.length_map]; exact hdl2
  have HDI := Lib.hid (show (Try.prog.info? 25).map (·.size) = some cs.length by rw [hcl]; exact infoDig)
  have HDI2 := Lib.hid (show (Try.prog.info? 25).map (·.size) = some cs.toArray.size by rw [List.size_toArray, hcl]; exact infoDig)
  have HC1 := Lib.hid (show cs.toArray.all (·.oneCell') = true by rw [← hcs]; exact all_oneCell_toArray (one_encs _))
  have HDD := Lib.hid (show w3.rangeAt w2.heap.size 2 cs from hcs ▸ hBF.range HBB.out)
  have HBI := Lib.hid hBF.info
  have HBZ := Lib.hid (show zRec.size = B.size from zRecF.size.trans hBF.size.symm)
  have HB1' := Lib.hid hBF.one
  have k34 := hBF.c34
  have k35 := hBF.c35
  have k37 := hBF.c37
  have hu := upd_cells HY3.out 2 cs (by have := hYF.size; omega)
  obtain ⟨X2, hX2⟩ : ∃ Zq, (splice Y.toList 2 cs).toArray = Zq := ⟨_, rfl⟩
  obtain ⟨w4, hw4⟩ : ∃ w', World.setCells w3 (w.heap.size + 1 + 1 + 1) 2 cs = w' := ⟨_, rfl⟩
  rw [hX2, hw4] at hu
  have HWD := Lib.hid hw4
  have hX2F : WordF X2 k s d' ⟨#[]⟩ 0 l1 l2 l3 := by rw [← hX2, ← hcs]; exact hYF.setD hdl2
  have HTH := Lib.hid (there_of HY3.out 2 cs.toArray.size (by have := hYF.size; rw [List.size_toArray]; omega))
  have HBB4 := Lib.hid ((hu.off w2.heap.size (by omega)).trans HBB.out)
  have HZ4 := Lib.hid ((hu.off (w.heap.size + 1 + 1) (by omega)).trans HZ3.out)
  have HY4 := Lib.hid hu.at_
  have HB4 := Lib.hid (hu.to (by omega) HB3.out)
  have hcb4 := fun i => blk_cell HBB4.out i
  have hcy4 := fun i => blk_cell HY4.out i
  have hfy4 := fun i => blk_frozen HY4.out i
  clear hu hX2 hw4
  have g5 := hX2F.c34
  have hu := upd_cell HY4.out 34 (.string nm')
  obtain ⟨X3, hX3⟩ : ∃ Zq, X2.setIfInBounds 34 (.string nm') = Zq := ⟨_, rfl⟩
  obtain ⟨w5, hw5⟩ : ∃ w', w4.setCell ⟨w.heap.size + 1 + 1 + 1, 34, none⟩ (.string nm') = w' := ⟨_, rfl⟩
  rw [hX3, hw5] at hu
  have hX3F : WordF X3 k s d' nm' 0 l1 l2 l3 := hX3 ▸ hX2F.setName nm'
  have HBB5 := Lib.hid ((hu.off w2.heap.size (by omega)).trans HBB4.out)
  have HZ5 := Lib.hid ((hu.off (w.heap.size + 1 + 1) (by omega)).trans HZ4.out)
  have HY5 := Lib.hid hu.at_
  have HB5 := Lib.hid (hu.to (by omega) HB4.out)
  have hcb5 := fun i => blk_cell HBB5.out i
  have hcy5 := fun i => blk_cell HY5.out i
  have hfy5 := fun i => blk_frozen HY5.out i
  clear hu hX3
  have g6 := hX3F.c35
  have hu := upd_cell HY5.out 35 (.int .i64 zz)
  obtain ⟨X4, hX4⟩ : ∃ Zq, X3.setIfInBounds 35 (.int .i64 zz) = Zq := ⟨_, rfl⟩
  obtain ⟨w6, hw6⟩ : ∃ w', w5.setCell ⟨w.heap.size + 1 + 1 + 1, 35, none⟩ (.int .i64 zz) = w' := ⟨_, rfl⟩
  rw [hX4, hw6] at hu
  have hX4F : WordF X4 k s d' nm' zz l1 l2 l3 := hX4 ▸ hX3F.setZ zz
  have HBB6 := Lib.hid ((hu.off w2.heap.size (by omega)).trans HBB5.out)
  have HZ6 := Lib.hid ((hu.off (w.heap.size + 1 + 1) (by omega)).trans HZ5.out)
  have HY6 := Lib.hid hu.at_
  have HB6 := Lib.hid (hu.to (by omega) HB5.out)
  have hcb6 := fun i => blk_cell HBB6.out i
  have hcy6 := fun i => blk_cell HY6.out i
  have hfy6 := fun i => blk_frozen HY6.out i
  clear hu hX4
  have HF := Lib.hid hX4F
  have HI := Lib.hid hX4F.info
  have HS := Lib.hid (show zWord.size = X4.size from zWordF.size.trans hX4F.size.symm)
  have H1 := Lib.hid hX4F.one
  clear hYF hX2F hX3F hX4F hBF hcs hb hb3
  go_wp2_with (first | (refine wpList_box rfl rfl 27 _ _ rfl rfl B zRec zeroRec rfl rfl HBZ.out HBI.out HB1'.out ?_) | (refine wpList_load_mid rfl 25 (.tmp 24) rfl w2.heap.size 2 rfl cs _ HDD.out undDig rfl HDI.out ?_) | (refine wpList_store_mid rfl 25 (.tmp 26) (.tmp 25) rfl (w.heap.size + 1 + 1 + 1) 2 cs.toArray rfl rfl HTH.out HDI2.out HC1.out ?_; rw [show cs.toArray.toList = cs from rfl, HWD.out]) | (refine wpList_load_row rfl 50 (.tmp 5) rfl (w.heap.size + 1 + 1 + 1) rfl 50 X4 (0, 0) _ HY6.out Try.underlying50 rfl HI.out ?_) | (refine wpList_store_row rfl 50 (.tmp 4) (.tmp 37) rfl (w.heap.size + 1 + 1) X4 rfl rfl 50 zWord HZ6.out HI.out HS.out H1.out ?_; obtain ⟨w99, hw99⟩ : ∃ w', World.setRow w6 (w.heap.size + 1 + 1) X4 = w' := ⟨_, rfl⟩; have hu := upd_row HZ6.out X4; rw [hw99] at hu ⊢; have HF9 := Lib.hid hu.at_; have HBF9 := Lib.hid (hu.to (by omega) HB6.out); clear hu hw99))
  refine bodyPost_ret_by (results_cell_row rfl _ _ (w.heap.size + 1 + 1) _ X4 (0, 0) _ rfl HF9.out Try.underlying50 rfl HI.out) rfl ?_
  rw [HPO.out]
  exact ⟨X4, rfl, HF.out, HBF9.out⟩
theorem refword_any (k : Int) (X : Array Value) (s : Nat) (d : List UInt8) (nm : ByteArray) (A : Option Addr) (l : List UInt8) (c : Nat) (n z l1 l2 l3 : Int) (w : World) (hX : RecF X k s d nm A l.length c n z) (hl : l.length ≤ 9223372036854775807) (hzb : -9223372036854775808 ≤ z ∧ z ≤ 9223372036854775807) :
    Calls Try.prog 27 #[.agg X, .agg #[.int .i64 l1, .int .i64 l2, .int .i64 l3]] w (Worded k s d nm l.length z l1 l2 l3 w) := by
  by_cases hk : 1 ≤ k ∧ k ≤ 8
  · exact refwordI X s d nm A l c n z l1 l2 l3 w k hk hX hl hzb
  · exact refwordO X s d nm A l c n z l1 l2 l3 w k hk hX
end Go.Proofs.Ytceldlijbehkdaa.Rc
