/- record.Word, stillageref14.Word. -/
import Derived.Test.YtceldlijbehkdaaRcDig
set_option linter.unusedVariables false
set_option linter.unusedSimpArgs false
namespace Go.Proofs.Ytceldlijbehkdaa.Rc
open Go.RowKit Go.Proofs.YtceldlijbehkdaaW.PrintWords Go.Proofs.Ytceldlijbehkdaa.B Go.Proofs.Ytceldlijbehkdaa.Fx Go.Proofs.Ytceldlijbehkdaa.Fr
/-- a word's cells -/
def wordC (k : Int) (s : Nat) (d : List UInt8) (nm : ByteArray) (z l1 l2 l3 : Int) : Array Value :=
  (Value.int .i64 k :: .int .u64 s :: (d.map encB ++ [.string nm, .int .i64 z, .int .i64 l1, .int .i64 l2, .int .i64 l3])).toArray
structure WordF (X : Array Value) (k : Int) (s : Nat) (d : List UInt8) (nm : ByteArray) (z l1 l2 l3 : Int) : Prop where
  eq : X = wordC k s d nm z l1 l2 l3
  dl : d.length = 32
section
variable {X : Array Value} {k : Int} {s : Nat} {d : List UInt8} {nm : ByteArray} {z l1 l2 l3 : Int}
theorem wordF (hd : d.length = 32) : WordF (wordC k s d nm z l1 l2 l3) k s d nm z l1 l2 l3 := ⟨rfl, hd⟩
theorem WordF.size (h : WordF X k s d nm z l1 l2 l3) : X.size = 39 := by rw [h.eq]; simp [wordC, h.dl]
theorem WordF.one (h : WordF X k s d nm z l1 l2 l3) : X.all (·.oneCell') = true := by
  rw [h.eq, wordC]
  refine Array.all_eq_true_iff_forall_mem.2 (fun v hv => ?_)
  rw [List.mem_toArray] at hv
  rcases List.mem_cons.1 hv with rfl | hv
  · rfl
  rcases List.mem_cons.1 hv with rfl | hv
  · rfl
  rcases List.mem_append.1 hv with hv | hv
  · obtain ⟨y, -, rfl⟩ := List.mem_map.1 hv; rfl
  · simp at hv
    rcases hv with rfl | rfl | rfl | rfl | rfl <;> rfl
theorem WordF.tl (h : WordF X k s d nm z l1 l2 l3) (j : Nat) : X[2 + 32 + j]? = ([.string nm, .int .i64 z, .int .i64 l1, .int .i64 l2, .int .i64 l3] : List Value)[j]? := by
  rw [h.eq, wordC, List.getElem?_toArray, show 2 + 32 + j = (32 + j) + 1 + 1 by omega, List.getElem?_cons_succ, List.getElem?_cons_succ, List.getElem?_append_right (by simp [h.dl])]
  simp [h.dl]
theorem WordF.c0 (h : WordF X k s d nm z l1 l2 l3) : X[0]? = some (.int .i64 k) := by rw [h.eq]; simp [wordC]
theorem WordF.c1 (h : WordF X k s d nm z l1 l2 l3) : X[1]? = some (.int .u64 s) := by rw [h.eq]; simp [wordC]
theorem WordF.c34 (h : WordF X k s d nm z l1 l2 l3) : X[34]? = some (.string nm) := h.tl 0
theorem WordF.c35 (h : WordF X k s d nm z l1 l2 l3) : X[35]? = some (.int .i64 z) := h.tl 1
theorem WordF.c36 (h : WordF X k s d nm z l1 l2 l3) : X[36]? = some (.int .i64 l1) := h.tl 2
theorem WordF.c37 (h : WordF X k s d nm z l1 l2 l3) : X[37]? = some (.int .i64 l2) := h.tl 3
theorem WordF.c38 (h : WordF X k s d nm z l1 l2 l3) : X[38]? = some (.int .i64 l3) := h.tl 4
theorem WordF.set (h : WordF X k s d nm z l1 l2 l3) (j : Nat) (v : Value) : X.setIfInBounds (2 + 32 + j) v = (Value.int .i64 k :: .int .u64 s :: (d.map encB ++ ([Value.string nm, .int .i64 z, .int .i64 l1, .int .i64 l2, .int .i64 l3].set j v))).toArray := by
  rw [h.eq, wordC, List.setIfInBounds_toArray, show 2 + 32 + j = (32 + j) + 1 + 1 by omega, List.set_cons_succ, List.set_cons_succ, List.set_append_right _ _ (by simp [h.dl])]
  simp [h.dl]
theorem WordF.setName (h : WordF X k s d nm z l1 l2 l3) (nm' : ByteArray) : WordF (X.setIfInBounds 34 (.string nm')) k s d nm' z l1 l2 l3 := ⟨h.set 0 _, h.dl⟩
theorem WordF.setZ (h : WordF X k s d nm z l1 l2 l3) (z' : Int) : WordF (X.setIfInBounds 35 (.int .i64 z')) k s d nm z' l1 l2 l3 := ⟨h.set 1 _, h.dl⟩
theorem WordF.setD (h : WordF X k s d nm z l1 l2 l3) {d' : List UInt8} (hd : d'.length = 32) : WordF (splice X.toList 2 (d'.map encB)).toArray k s d' nm z l1 l2 l3 := ⟨by
  have e : splice X.toList 2 (d'.map encB) = Value.int .i64 k :: .int .u64 s :: (d'.map encB ++ [.string nm, .int .i64 z, .int .i64 l1, .int .i64 l2, .int .i64 l3]) := by
    rw [h.eq]
    show splice (Value.int .i64 k :: .int .u64 s :: (d.map encB ++ [.string nm, .int .i64 z, .int .i64 l1, .int .i64 l2, .int .i64 l3])) 2 _ = _
    unfold splice
    rw [show (2 + (d'.map encB).length) = 32 + 2 by simp [hd]]
    show [Value.int .i64 k, .int .u64 s] ++ (d'.map encB ++ ((d.map encB ++ [Value.string nm, .int .i64 z, .int .i64 l1, .int .i64 l2, .int .i64 l3]).drop 32)) = _
    rw [List.drop_left' (by simp [h.dl])]; rfl
  rw [e]; rfl, hd⟩
end
theorem infoWd : (Try.prog.info? 50).map (·.size) = some 39 := by kernel_rfl
theorem WordF.info {X : Array Value} {k : Int} {s : Nat} {d : List UInt8} {nm : ByteArray} {z l1 l2 l3 : Int} (h : WordF X k s d nm z l1 l2 l3) : (Try.prog.info? 50).map (·.size) = some X.size := by rw [h.size]; exact infoWd
theorem WordF.infoL {X : Array Value} {k : Int} {s : Nat} {d : List UInt8} {nm : ByteArray} {z l1 l2 l3 : Int} (h : WordF X k s d nm z l1 l2 l3) : (Try.prog.info? 50).map (·.size) = some X.toList.length := by rw [Array.length_toList]; exact h.info
def zWord : Array Value := wordC 0 0 z32 ⟨#[]⟩ 0 0 0 0
theorem zWordF : WordF zWord 0 0 z32 ⟨#[]⟩ 0 0 0 0 := wordF rfl
theorem zeroWord (w : World) : (zeroValue 50).run Try.prog w = .ok (.agg zWord) w := by kernel_rfl
def dW (k : Int) (d : List UInt8) : List UInt8 := if k = 1 ∨ k = 2 ∨ k = 3 ∨ k = 5 then d else z32
def nmW (k : Int) (nm : ByteArray) : ByteArray := if k = 3 ∨ k = 4 then nm else ⟨#[]⟩
def zW (k : Int) (m : Nat) (z : Int) : Int := if k = 1 ∨ k = 2 then m else if k = 6 ∨ k = 8 then z else 0
/-- the end: a word -/
def Worded (k : Int) (s : Nat) (d : List UInt8) (nm : ByteArray) (m : Nat) (z l1 l2 l3 : Int) (w : World) (e : Ending) (w' : World) : Prop := ∃ X, e = .returned (.agg X) ∧ WordF X k s (dW k d) (nmW k nm) (zW k m z) l1 l2 l3 ∧ Below w.heap.size w w'
theorem blk4 (w : World) (C0 C1 C2 C3 : Array Value) (T0 T1 T2 T3 : TypeId) : ((((w.alloc (.cells C0 T0)).alloc (.cells C1 T1)).alloc (.cells C2 T2)).alloc (.cells C3 T3)).heap[w.heap.size]? = some (.cells C0 T0 (0, 0)) ∧ ((((w.alloc (.cells C0 T0)).alloc (.cells C1 T1)).alloc (.cells C2 T2)).alloc (.cells C3 T3)).heap[w.heap.size + 1]? = some (.cells C1 T1 (0, 0)) ∧
    ((((w.alloc (.cells C0 T0)).alloc (.cells C1 T1)).alloc (.cells C2 T2)).alloc (.cells C3 T3)).heap[w.heap.size + 1 + 1]? = some (.cells C2 T2 (0, 0)) ∧ ((((w.alloc (.cells C0 T0)).alloc (.cells C1 T1)).alloc (.cells C2 T2)).alloc (.cells C3 T3)).heap[w.heap.size + 1 + 1 + 1]? = some (.cells C3 T3 (0, 0)) ∧ Below w.heap.size w ((((w.alloc (.cells C0 T0)).alloc (.cells C1 T1)).alloc (.cells C2 T2)).alloc (.cells C3 T3)) := by
  obtain ⟨h0, h1, h2⟩ := run_blk2 w C0 C1 T0 T1
  obtain ⟨g0, g1, g2⟩ := run_blk2 ((w.alloc (.cells C0 T0)).alloc (.cells C1 T1)) C2 C3 T2 T3
  rw [show ((w.alloc (.cells C0 T0)).alloc (.cells C1 T1)).heap.size = w.heap.size + 1 + 1 by simp] at g0 g1
  exact ⟨blk_below h0 g2, blk_below h1 g2, g0, g1, below_step' h2 g2⟩
set_option maxRecDepth 100000 in
set_option maxHeartbeats 3200000 in
theorem word1 (X : Array Value) (s : Nat) (d : List UInt8) (nm : ByteArray) (A : Option Addr) (l : List UInt8) (c : Nat) (n z l1 l2 l3 : Int) (w : World) (hX : RecF X 1 s d nm A l.length c n z) :
    Calls Try.prog 26 #[.agg X, .agg #[.int .i64 l1, .int .i64 l2, .int .i64 l3]] w (Worded 1 s d nm l.length z l1 l2 l3 w) := by
  have h0 := hX.c0
  have h1 := hX.c1
  have h34 := hX.c34
  have h35 := hX.c35
  have h36 := hX.c36
  have h37 := hX.c37
  obtain ⟨Y, hY⟩ : ∃ Y, wordC 1 s z32 ⟨#[]⟩ 0 l1 l2 l3 = Y := ⟨_, rfl⟩
  have hYF : WordF Y 1 s z32 ⟨#[]⟩ 0 l1 l2 l3 := hY ▸ wordF rfl
  have HY := Lib.hid hY
  obtain ⟨w0, hw0⟩ : ∃ w0, ((w.alloc (.cells X 27)).alloc (.cells #[.int .i64 l1, .int .i64 l2, .int .i64 l3] 44)).alloc (.cells zWord 50) = w0 := ⟨_, rfl⟩
  obtain ⟨hg, hgl, hz, hy, hb⟩ := blk4 w X #[.int .i64 l1, .int .i64 l2, .int .i64 l3] zWord Y 27 44 50 50
  rw [hw0] at hg hgl hz hy hb
  have hs0 : w0.heap.size = w.heap.size + 1 + 1 + 1 := by rw [← hw0]; simp
  have hcc0 : ∀ i, w0.cell? ⟨w.heap.size, i, none⟩ = X[i]? := fun i => by rw [← hw0]; exact blk_cell (blk_below (blk_new w (.cells X 27)) (below_alloc (below_alloc (Below.refl _ _) _) _)) i
  have hcl0 : ∀ i, w0.cell? ⟨w.heap.size + 1, i, none⟩ = (#[.int .i64 l1, .int .i64 l2, .int .i64 l3] : Array Value)[i]? := fun i => by rw [← hw0]; have h := blk_new (w.alloc (.cells X 27)) (.cells #[.int .i64 l1, .int .i64 l2, .int .i64 l3] 44); rw [show (w.alloc (.cells X 27)).heap.size = w.heap.size + 1 by simp] at h; exact blk_cell (blk_below h (below_alloc (Below.refl _ _) _)) i
  obtain ⟨w1, hw1⟩ : ∃ w1, w0.alloc (.cells Y 50) = w1 := ⟨_, rfl⟩
  rw [hw1] at hg hgl hz hy hb
  have HG := Lib.hid hg
  have HL := Lib.hid hgl
  have HZ1 := Lib.hid hz
  have HY1 := Lib.hid hy
  have HB1 := Lib.hid hb
  have hcc := fun i => blk_cell HG.out i
  have hY1 := fun i => blk_cell HY1.out i
  have hff := fun i => blk_frozen HY1.out i
  obtain ⟨cs, hcs⟩ : ∃ cs, d.map encB = cs := ⟨_, rfl⟩
  have hcl : cs.length = 32 := by rw [← hcs, List.length_map]; exact hX.dl
  have HDI := Lib.hid (show (Try.prog.info? 25).map (·.size) = some cs.length by rw [hcl]; exact infoDig)
  have HDI2 := Lib.hid (show (Try.prog.info? 25).map (·.size) = some cs.toArray.size by rw [List.size_toArray, hcl]; exact infoDig)
  have HC1 := Lib.hid (show cs.toArray.all (·.oneCell') = true by rw [← hcs]; exact all_oneCell_toArray (one_encs _))
  have HD1 := Lib.hid (show w1.rangeAt w.heap.size 2 cs from hcs ▸ hX.range HG.out)
  have g2 := hYF.c35
  have hu := upd_cell HY1.out 35 (.int .i64 (l.length : Int))
  obtain ⟨X2, hX2⟩ : ∃ Zq, Y.setIfInBounds 35 (.int .i64 (l.length : Int)) = Zq := ⟨_, rfl⟩
  obtain ⟨w2, hw2⟩ : ∃ w', w1.setCell ⟨w.heap.size + 1 + 1 + 1, 35, none⟩ (.int .i64 (l.length : Int)) = w' := ⟨_, rfl⟩
  rw [hX2, hw2] at hu
  have hX2F : WordF X2 1 s z32 ⟨#[]⟩ (l.length : Int) l1 l2 l3 := hX2 ▸ hYF.setZ _
  have HG2 := Lib.hid ((hu.off w.heap.size (by omega)).trans HG.out)
  have HZ2 := Lib.hid ((hu.off (w.heap.size + 1 + 1) (by omega)).trans HZ1.out)
  have HY2 := Lib.hid hu.at_
  have HB2 := Lib.hid (hu.to (by omega) HB1.out)
  have hcc2 := fun i => blk_cell HG2.out i
  have hY2 := fun i => blk_cell HY2.out i
  have hff2 := fun i => blk_frozen HY2.out i
  clear hu hX2
  have hu := upd_cells HY2.out 2 cs (by have := hX2F.size; omega)
  obtain ⟨X3, hX3⟩ : ∃ Zq, (splice X2.toList 2 cs).toArray = Zq := ⟨_, rfl⟩
  obtain ⟨w3, hw3⟩ : ∃ w', World.setCells w2 (w.heap.size + 1 + 1 + 1) 2 cs = w' := ⟨_, rfl⟩
  rw [hX3, hw3] at hu
  have HWD := Lib.hid hw3
  have hX3F : WordF X3 1 s d ⟨#[]⟩ (l.length : Int) l1 l2 l3 := by rw [← hX3, ← hcs]; exact hX2F.setD hX.dl
  have HDD := Lib.hid (show w2.rangeAt w.heap.size 2 cs from hcs ▸ hX.range HG2.out)
  have HTH := Lib.hid (there_of HY2.out 2 cs.toArray.size (by have := hX2F.size; rw [List.size_toArray]; omega))
  have HG3 := Lib.hid ((hu.off w.heap.size (by omega)).trans HG2.out)
  have HZ3 := Lib.hid ((hu.off (w.heap.size + 1 + 1) (by omega)).trans HZ2.out)
  have HY3 := Lib.hid hu.at_
  have HB3 := Lib.hid (hu.to (by omega) HB2.out)
  have hcc3 := fun i => blk_cell HG3.out i
  have hY3 := fun i => blk_cell HY3.out i
  have hff3 := fun i => blk_frozen HY3.out i
  clear hu hX3 hw3
  have HF := Lib.hid hX3F
  have HI := Lib.hid hX3F.info
  have HS := Lib.hid (show zWord.size = X3.size from zWordF.size.trans hX3F.size.symm)
  have H1 := Lib.hid hX3F.one
  clear hX hY hYF hg hgl hz hy hb hcs hX2F hX3F
  go_enter Try.func26, Try.ntmps26
  go_wp2_with (first | (refine wpList_box rfl rfl 50 _ _ rfl rfl (wordC 1 s z32 ⟨#[]⟩ 0 l1 l2 l3) zWord zeroWord rfl rfl rfl (wordF rfl).info (wordF rfl).one ?_; rw [HY.out]) | (refine wpList_allocZ rfl 50 rfl zWord zeroWord ?_) | (refine wpList_load_mid rfl 25 (.tmp 30) rfl w.heap.size 2 rfl cs _ HDD.out undDig rfl HDI.out ?_) | (refine wpList_store_mid rfl 25 (.tmp 32) (.tmp 31) rfl (w.heap.size + 1 + 1 + 1) 2 cs.toArray rfl rfl HTH.out HDI2.out HC1.out ?_; rw [show cs.toArray.toList = cs from rfl, HWD.out]) | (refine wpList_load_row rfl 50 (.tmp 5) rfl (w.heap.size + 1 + 1 + 1) rfl 50 X3 (0, 0) _ HY3.out Try.underlying50 rfl HI.out ?_) | (refine wpList_store_row rfl 50 (.tmp 4) (.tmp 42) rfl (w.heap.size + 1 + 1) X3 rfl rfl 50 zWord HZ3.out HI.out HS.out H1.out ?_; obtain ⟨w99, hw99⟩ : ∃ w', World.setRow w3 (w.heap.size + 1 + 1) X3 = w' := ⟨_, rfl⟩; have hu := upd_row HZ3.out X3; rw [hw99] at hu ⊢; have HF9 := Lib.hid hu.at_; have HBF9 := Lib.hid (hu.to (by omega) HB3.out); clear hu hw99))
  refine bodyPost_ret_by (results_cell_row rfl _ _ (w.heap.size + 1 + 1) _ X3 (0, 0) _ rfl HF9.out Try.underlying50 rfl HI.out) rfl ?_
  exact ⟨X3, rfl, HF.out, HBF9.out⟩
set_option maxRecDepth 100000 in
set_option maxHeartbeats 3200000 in
theorem word2 (X : Array Value) (s : Nat) (d : List UInt8) (nm : ByteArray) (A : Option Addr) (l : List UInt8) (c : Nat) (n z l1 l2 l3 : Int) (w : World) (hX : RecF X 2 s d nm A l.length c n z) :
    Calls Try.prog 26 #[.agg X, .agg #[.int .i64 l1, .int .i64 l2, .int .i64 l3]] w (Worded 2 s d nm l.length z l1 l2 l3 w) := by
  have h0 := hX.c0
  have h1 := hX.c1
  have h34 := hX.c34
  have h35 := hX.c35
  have h36 := hX.c36
  have h37 := hX.c37
  obtain ⟨Y, hY⟩ : ∃ Y, wordC 2 s z32 ⟨#[]⟩ 0 l1 l2 l3 = Y := ⟨_, rfl⟩
  have hYF : WordF Y 2 s z32 ⟨#[]⟩ 0 l1 l2 l3 := hY ▸ wordF rfl
  have HY := Lib.hid hY
  obtain ⟨w0, hw0⟩ : ∃ w0, ((w.alloc (.cells X 27)).alloc (.cells #[.int .i64 l1, .int .i64 l2, .int .i64 l3] 44)).alloc (.cells zWord 50) = w0 := ⟨_, rfl⟩
  obtain ⟨hg, hgl, hz, hy, hb⟩ := blk4 w X #[.int .i64 l1, .int .i64 l2, .int .i64 l3] zWord Y 27 44 50 50
  rw [hw0] at hg hgl hz hy hb
  have hs0 : w0.heap.size = w.heap.size + 1 + 1 + 1 := by rw [← hw0]; simp
  have hcc0 : ∀ i, w0.cell? ⟨w.heap.size, i, none⟩ = X[i]? := fun i => by rw [← hw0]; exact blk_cell (blk_below (blk_new w (.cells X 27)) (below_alloc (below_alloc (Below.refl _ _) _) _)) i
  have hcl0 : ∀ i, w0.cell? ⟨w.heap.size + 1, i, none⟩ = (#[.int .i64 l1, .int .i64 l2, .int .i64 l3] : Array Value)[i]? := fun i => by rw [← hw0]; have h := blk_new (w.alloc (.cells X 27)) (.cells #[.int .i64 l1, .int .i64 l2, .int .i64 l3] 44); rw [show (w.alloc (.cells X 27)).heap.size = w.heap.size + 1 by simp] at h; exact blk_cell (blk_below h (below_alloc (Below.refl _ _) _)) i
  obtain ⟨w1, hw1⟩ : ∃ w1, w0.alloc (.cells Y 50) = w1 := ⟨_, rfl⟩
  rw [hw1] at hg hgl hz hy hb
  have HG := Lib.hid hg
  have HL := Lib.hid hgl
  have HZ1 := Lib.hid hz
  have HY1 := Lib.hid hy
  have HB1 := Lib.hid hb
  have hcc := fun i => blk_cell HG.out i
  have hY1 := fun i => blk_cell HY1.out i
  have hff := fun i => blk_frozen HY1.out i
  obtain ⟨cs, hcs⟩ : ∃ cs, d.map encB = cs := ⟨_, rfl⟩
  have hcl : cs.length = 32 := by rw [← hcs, List.length_map]; exact hX.dl
  have HDI := Lib.hid (show (Try.prog.info? 25).map (·.size) = some cs.length by rw [hcl]; exact infoDig)
  have HDI2 := Lib.hid (show (Try.prog.info? 25).map (·.size) = some cs.toArray.size by rw [List.size_toArray, hcl]; exact infoDig)
  have HC1 := Lib.hid (show cs.toArray.all (·.oneCell') = true by rw [← hcs]; exact all_oneCell_toArray (one_encs _))
  have HD1 := Lib.hid (show w1.rangeAt w.heap.size 2 cs from hcs ▸ hX.range HG.out)
  have g2 := hYF.c35
  have hu := upd_cell HY1.out 35 (.int .i64 (l.length : Int))
  obtain ⟨X2, hX2⟩ : ∃ Zq, Y.setIfInBounds 35 (.int .i64 (l.length : Int)) = Zq := ⟨_, rfl⟩
  obtain ⟨w2, hw2⟩ : ∃ w', w1.setCell ⟨w.heap.size + 1 + 1 + 1, 35, none⟩ (.int .i64 (l.length : Int)) = w' := ⟨_, rfl⟩
  rw [hX2, hw2] at hu
  have hX2F : WordF X2 2 s z32 ⟨#[]⟩ (l.length : Int) l1 l2 l3 := hX2 ▸ hYF.setZ _
  have HG2 := Lib.hid ((hu.off w.heap.size (by omega)).trans HG.out)
  have HZ2 := Lib.hid ((hu.off (w.heap.size + 1 + 1) (by omega)).trans HZ1.out)
  have HY2 := Lib.hid hu.at_
  have HB2 := Lib.hid (hu.to (by omega) HB1.out)
  have hcc2 := fun i => blk_cell HG2.out i
  have hY2 := fun i => blk_cell HY2.out i
  have hff2 := fun i => blk_frozen HY2.out i
  clear hu hX2
  have hu := upd_cells HY2.out 2 cs (by have := hX2F.size; omega)
  obtain ⟨X3, hX3⟩ : ∃ Zq, (splice X2.toList 2 cs).toArray = Zq := ⟨_, rfl⟩
  obtain ⟨w3, hw3⟩ : ∃ w', World.setCells w2 (w.heap.size + 1 + 1 + 1) 2 cs = w' := ⟨_, rfl⟩
  rw [hX3, hw3] at hu
  have HWD := Lib.hid hw3
  have hX3F : WordF X3 2 s d ⟨#[]⟩ (l.length : Int) l1 l2 l3 := by rw [← hX3, ← hcs]; exact hX2F.setD hX.dl
  have HDD := Lib.hid (show w2.rangeAt w.heap.size 2 cs from hcs ▸ hX.range HG2.out)
  have HTH := Lib.hid (there_of HY2.out 2 cs.toArray.size (by have := hX2F.size; rw [List.size_toArray]; omega))
  have HG3 := Lib.hid ((hu.off w.heap.size (by omega)).trans HG2.out)
  have HZ3 := Lib.hid ((hu.off (w.heap.size + 1 + 1) (by omega)).trans HZ2.out)
  have HY3 := Lib.hid hu.at_
  have HB3 := Lib.hid (hu.to (by omega) HB2.out)
  have hcc3 := fun i => blk_cell HG3.out i
  have hY3 := fun i => blk_cell HY3.out i
  have hff3 := fun i => blk_frozen HY3.out i
  clear hu hX3 hw3
  have HF := Lib.hid hX3F
  have HI := Lib.hid hX3F.info
  have HS := Lib.hid (show zWord.size = X3.size from zWordF.size.trans hX3F.size.symm)
  have H1 := Lib.hid hX3F.one
  clear hX hY hYF hg hgl hz hy hb hcs hX2F hX3F
  go_enter Try.func26, Try.ntmps26
  go_wp2_with (first | (refine wpList_box rfl rfl 50 _ _ rfl rfl (wordC 2 s z32 ⟨#[]⟩ 0 l1 l2 l3) zWord zeroWord rfl rfl rfl (wordF rfl).info (wordF rfl).one ?_; rw [HY.out]) | (refine wpList_allocZ rfl 50 rfl zWord zeroWord ?_) | (refine wpList_load_mid rfl 25 (.tmp 30) rfl w.heap.size 2 rfl cs _ HDD.out undDig rfl HDI.out ?_) | (refine wpList_store_mid rfl 25 (.tmp 32) (.tmp 31) rfl (w.heap.size + 1 + 1 + 1) 2 cs.toArray rfl rfl HTH.out HDI2.out HC1.out ?_; rw [show cs.toArray.toList = cs from rfl, HWD.out]) | (refine wpList_load_row rfl 50 (.tmp 5) rfl (w.heap.size + 1 + 1 + 1) rfl 50 X3 (0, 0) _ HY3.out Try.underlying50 rfl HI.out ?_) | (refine wpList_store_row rfl 50 (.tmp 4) (.tmp 42) rfl (w.heap.size + 1 + 1) X3 rfl rfl 50 zWord HZ3.out HI.out HS.out H1.out ?_; obtain ⟨w99, hw99⟩ : ∃ w', World.setRow w3 (w.heap.size + 1 + 1) X3 = w' := ⟨_, rfl⟩; have hu := upd_row HZ3.out X3; rw [hw99] at hu ⊢; have HF9 := Lib.hid hu.at_; have HBF9 := Lib.hid (hu.to (by omega) HB3.out); clear hu hw99))
  refine bodyPost_ret_by (results_cell_row rfl _ _ (w.heap.size + 1 + 1) _ X3 (0, 0) _ rfl HF9.out Try.underlying50 rfl HI.out) rfl ?_
  exact ⟨X3, rfl, HF.out, HBF9.out⟩
set_option maxRecDepth 100000 in
set_option maxHeartbeats 3200000 in
theorem word3 (X : Array Value) (s : Nat) (d : List UInt8) (nm : ByteArray) (A : Option Addr) (l : List UInt8) (c : Nat) (n z l1 l2 l3 : Int) (w : World) (hX : RecF X 3 s d nm A l.length c n z) :
    Calls Try.prog 26 #[.agg X, .agg #[.int .i64 l1, .int .i64 l2, .int .i64 l3]] w (Worded 3 s d nm l.length z l1 l2 l3 w) := by
  have h0 := hX.c0
  have h1 := hX.c1
  have h34 := hX.c34
  have h35 := hX.c35
  have h36 := hX.c36
  have h37 := hX.c37
  obtain ⟨Y, hY⟩ : ∃ Y, wordC 3 s z32 ⟨#[]⟩ 0 l1 l2 l3 = Y := ⟨_, rfl⟩
  have hYF : WordF Y 3 s z32 ⟨#[]⟩ 0 l1 l2 l3 := hY ▸ wordF rfl
  have HY := Lib.hid hY
  obtain ⟨w0, hw0⟩ : ∃ w0, ((w.alloc (.cells X 27)).alloc (.cells #[.int .i64 l1, .int .i64 l2, .int .i64 l3] 44)).alloc (.cells zWord 50) = w0 := ⟨_, rfl⟩
  obtain ⟨hg, hgl, hz, hy, hb⟩ := blk4 w X #[.int .i64 l1, .int .i64 l2, .int .i64 l3] zWord Y 27 44 50 50
  rw [hw0] at hg hgl hz hy hb
  have hs0 : w0.heap.size = w.heap.size + 1 + 1 + 1 := by rw [← hw0]; simp
  have hcc0 : ∀ i, w0.cell? ⟨w.heap.size, i, none⟩ = X[i]? := fun i => by rw [← hw0]; exact blk_cell (blk_below (blk_new w (.cells X 27)) (below_alloc (below_alloc (Below.refl _ _) _) _)) i
  have hcl0 : ∀ i, w0.cell? ⟨w.heap.size + 1, i, none⟩ = (#[.int .i64 l1, .int .i64 l2, .int .i64 l3] : Array Value)[i]? := fun i => by rw [← hw0]; have h := blk_new (w.alloc (.cells X 27)) (.cells #[.int .i64 l1, .int .i64 l2, .int .i64 l3] 44); rw [show (w.alloc (.cells X 27)).heap.size = w.heap.size + 1 by simp] at h; exact blk_cell (blk_below h (below_alloc (Below.refl _ _) _)) i
  obtain ⟨w1, hw1⟩ : ∃ w1, w0.alloc (.cells Y 50) = w1 := ⟨_, rfl⟩
  rw [hw1] at hg hgl hz hy hb
  have HG := Lib.hid hg
  have HL := Lib.hid hgl
  have HZ1 := Lib.hid hz
  have HY1 := Lib.hid hy
  have HB1 := Lib.hid hb
  have hcc := fun i => blk_cell HG.out i
  have hY1 := fun i => blk_cell HY1.out i
  have hff := fun i => blk_frozen HY1.out i
  obtain ⟨cs, hcs⟩ : ∃ cs, d.map encB = cs := ⟨_, rfl⟩
  have hcl : cs.length = 32 := by rw [← hcs, List.length_map]; exact hX.dl
  have HDI := Lib.hid (show (Try.prog.info? 25).map (·.size) = some cs.length by rw [hcl]; exact infoDig)
  have HDI2 := Lib.hid (show (Try.prog.info? 25).map (·.size) = some cs.toArray.size by rw [List.size_toArray, hcl]; exact infoDig)
  have HC1 := Lib.hid (show cs.toArray.all (·.oneCell') = true by rw [← hcs]; exact all_oneCell_toArray (one_encs _))
  have HD1 := Lib.hid (show w1.rangeAt w.heap.size 2 cs from hcs ▸ hX.range HG.out)
  have hu := upd_cells HY1.out 2 cs (by have := hYF.size; omega)
  obtain ⟨X2, hX2⟩ : ∃ Zq, (splice Y.toList 2 cs).toArray = Zq := ⟨_, rfl⟩
  obtain ⟨w2, hw2⟩ : ∃ w', World.setCells w1 (w.heap.size + 1 + 1 + 1) 2 cs = w' := ⟨_, rfl⟩
  rw [hX2, hw2] at hu
  have HWD := Lib.hid hw2
  have hX2F : WordF X2 3 s d ⟨#[]⟩ 0 l1 l2 l3 := by rw [← hX2, ← hcs]; exact hYF.setD hX.dl
  have HDD := Lib.hid (show w1.rangeAt w.heap.size 2 cs from hcs ▸ hX.range HG.out)
  have HTH := Lib.hid (there_of HY1.out 2 cs.toArray.size (by have := hYF.size; rw [List.size_toArray]; omega))
  have HG2 := Lib.hid ((hu.off w.heap.size (by omega)).trans HG.out)
  have HZ2 := Lib.hid ((hu.off (w.heap.size + 1 + 1) (by omega)).trans HZ1.out)
  have HY2 := Lib.hid hu.at_
  have HB2 := Lib.hid (hu.to (by omega) HB1.out)
  have hcc2 := fun i => blk_cell HG2.out i
  have hY2 := fun i => blk_cell HY2.out i
  have hff2 := fun i => blk_frozen HY2.out i
  clear hu hX2 hw2
  have g3 := hX2F.c34
  have hu := upd_cell HY2.out 34 (.string nm)
  obtain ⟨X3, hX3⟩ : ∃ Zq, X2.setIfInBounds 34 (.string nm) = Zq := ⟨_, rfl⟩
  obtain ⟨w3, hw3⟩ : ∃ w', w2.setCell ⟨w.heap.size + 1 + 1 + 1, 34, none⟩ (.string nm) = w' := ⟨_, rfl⟩
  rw [hX3, hw3] at hu
  have hX3F : WordF X3 3 s d nm 0 l1 l2 l3 := hX3 ▸ hX2F.setName nm
  have HG3 := Lib.hid ((hu.off w.heap.size (by omega)).trans HG2.out)
  have HZ3 := Lib.hid ((hu.off (w.heap.size + 1 + 1) (by omega)).trans HZ2.out)
  have HY3 := Lib.hid hu.at_
  have HB3 := Lib.hid (hu.to (by omega) HB2.out)
  have hcc3 := fun i => blk_cell HG3.out i
  have hY3 := fun i => blk_cell HY3.out i
  have hff3 := fun i => blk_frozen HY3.out i
  clear hu hX3
  have HF := Lib.hid hX3F
  have HI := Lib.hid hX3F.info
  have HS := Lib.hid (show zWord.size = X3.size from zWordF.size.trans hX3F.size.symm)
  have H1 := Lib.hid hX3F.one
  clear hX hY hYF hg hgl hz hy hb hcs hX2F hX3F
  go_enter Try.func26, Try.ntmps26
  go_wp2_with (first | (refine wpList_box rfl rfl 50 _ _ rfl rfl (wordC 3 s z32 ⟨#[]⟩ 0 l1 l2 l3) zWord zeroWord rfl rfl rfl (wordF rfl).info (wordF rfl).one ?_; rw [HY.out]) | (refine wpList_allocZ rfl 50 rfl zWord zeroWord ?_) | (refine wpList_load_mid rfl 25 (.tmp 33) rfl w.heap.size 2 rfl cs _ HDD.out undDig rfl HDI.out ?_) | (refine wpList_store_mid rfl 25 (.tmp 35) (.tmp 34) rfl (w.heap.size + 1 + 1 + 1) 2 cs.toArray rfl rfl HTH.out HDI2.out HC1.out ?_; rw [show cs.toArray.toList = cs from rfl, HWD.out]) | (refine wpList_load_row rfl 50 (.tmp 5) rfl (w.heap.size + 1 + 1 + 1) rfl 50 X3 (0, 0) _ HY3.out Try.underlying50 rfl HI.out ?_) | (refine wpList_store_row rfl 50 (.tmp 4) (.tmp 42) rfl (w.heap.size + 1 + 1) X3 rfl rfl 50 zWord HZ3.out HI.out HS.out H1.out ?_; obtain ⟨w99, hw99⟩ : ∃ w', World.setRow w3 (w.heap.size + 1 + 1) X3 = w' := ⟨_, rfl⟩; have hu := upd_row HZ3.out X3; rw [hw99] at hu ⊢; have HF9 := Lib.hid hu.at_; have HBF9 := Lib.hid (hu.to (by omega) HB3.out); clear hu hw99))
  refine bodyPost_ret_by (results_cell_row rfl _ _ (w.heap.size + 1 + 1) _ X3 (0, 0) _ rfl HF9.out Try.underlying50 rfl HI.out) rfl ?_
  exact ⟨X3, rfl, HF.out, HBF9.out⟩
set_option maxRecDepth 100000 in
set_option maxHeartbeats 3200000 in
theorem word4 (X : Array Value) (s : Nat) (d : List UInt8) (nm : ByteArray) (A : Option Addr) (l : List UInt8) (c : Nat) (n z l1 l2 l3 : Int) (w : World) (hX : RecF X 4 s d nm A l.length c n z) :
    Calls Try.prog 26 #[.agg X, .agg #[.int .i64 l1, .int .i64 l2, .int .i64 l3]] w (Worded 4 s d nm l.length z l1 l2 l3 w) := by
  have h0 := hX.c0
  have h1 := hX.c1
  have h34 := hX.c34
  have h35 := hX.c35
  have h36 := hX.c36
  have h37 := hX.c37
  obtain ⟨Y, hY⟩ : ∃ Y, wordC 4 s z32 ⟨#[]⟩ 0 l1 l2 l3 = Y := ⟨_, rfl⟩
  have hYF : WordF Y 4 s z32 ⟨#[]⟩ 0 l1 l2 l3 := hY ▸ wordF rfl
  have HY := Lib.hid hY
  obtain ⟨w0, hw0⟩ : ∃ w0, ((w.alloc (.cells X 27)).alloc (.cells #[.int .i64 l1, .int .i64 l2, .int .i64 l3] 44)).alloc (.cells zWord 50) = w0 := ⟨_, rfl⟩
  obtain ⟨hg, hgl, hz, hy, hb⟩ := blk4 w X #[.int .i64 l1, .int .i64 l2, .int .i64 l3] zWord Y 27 44 50 50
  rw [hw0] at hg hgl hz hy hb
  have hs0 : w0.heap.size = w.heap.size + 1 + 1 + 1 := by rw [← hw0]; simp
  have hcc0 : ∀ i, w0.cell? ⟨w.heap.size, i, none⟩ = X[i]? := fun i => by rw [← hw0]; exact blk_cell (blk_below (blk_new w (.cells X 27)) (below_alloc (below_alloc (Below.refl _ _) _) _)) i
  have hcl0 : ∀ i, w0.cell? ⟨w.heap.size + 1, i, none⟩ = (#[.int .i64 l1, .int .i64 l2, .int .i64 l3] : Array Value)[i]? := fun i => by rw [← hw0]; have h := blk_new (w.alloc (.cells X 27)) (.cells #[.int .i64 l1, .int .i64 l2, .int .i64 l3] 44); rw [show (w.alloc (.cells X 27)).heap.size = w.heap.size + 1 by simp] at h; exact blk_cell (blk_below h (below_alloc (Below.refl _ _) _)) i
  obtain ⟨w1, hw1⟩ : ∃ w1, w0.alloc (.cells Y 50) = w1 := ⟨_, rfl⟩
  rw [hw1] at hg hgl hz hy hb
  have HG := Lib.hid hg
  have HL := Lib.hid hgl
  have HZ1 := Lib.hid hz
  have HY1 := Lib.hid hy
  have HB1 := Lib.hid hb
  have hcc := fun i => blk_cell HG.out i
  have hY1 := fun i => blk_cell HY1.out i
  have hff := fun i => blk_frozen HY1.out i
  obtain ⟨cs, hcs⟩ : ∃ cs, d.map encB = cs := ⟨_, rfl⟩
  have hcl : cs.length = 32 := by rw [← hcs, List.length_map]; exact hX.dl
  have HDI := Lib.hid (show (Try.prog.info? 25).map (·.size) = some cs.length by rw [hcl]; exact infoDig)
  have HDI2 := Lib.hid (show (Try.prog.info? 25).map (·.size) = some cs.toArray.size by rw [List.size_toArray, hcl]; exact infoDig)
  have HC1 := Lib.hid (show cs.toArray.all (·.oneCell') = true by rw [← hcs]; exact all_oneCell_toArray (one_encs _))
  have HD1 := Lib.hid (show w1.rangeAt w.heap.size 2 cs from hcs ▸ hX.range HG.out)
  have g2 := hYF.c34
  have hu := upd_cell HY1.out 34 (.string nm)
  obtain ⟨X2, hX2⟩ : ∃ Zq, Y.setIfInBounds 34 (.string nm) = Zq := ⟨_, rfl⟩
  obtain ⟨w2, hw2⟩ : ∃ w', w1.setCell ⟨w.heap.size + 1 + 1 + 1, 34, none⟩ (.string nm) = w' := ⟨_, rfl⟩
  rw [hX2, hw2] at hu
  have hX2F : WordF X2 4 s z32 nm 0 l1 l2 l3 := hX2 ▸ hYF.setName nm
  have HG2 := Lib.hid ((hu.off w.heap.size (by omega)).trans HG.out)
  have HZ2 := Lib.hid ((hu.off (w.heap.size + 1 + 1) (by omega)).trans HZ1.out)
  have HY2 := Lib.hid hu.at_
  have HB2 := Lib.hid (hu.to (by omega) HB1.out)
  have hcc2 := fun i => blk_cell HG2.out i
  have hY2 := fun i => blk_cell HY2.out i
  have hff2 := fun i => blk_frozen HY2.out i
  clear hu hX2
  have HF := Lib.hid hX2F
  have HI := Lib.hid hX2F.info
  have HS := Lib.hid (show zWord.size = X2.size from zWordF.size.trans hX2F.size.symm)
  have H1 := Lib.hid hX2F.one
  clear hX hY hYF hg hgl hz hy hb hcs hX2F
  go_enter Try.func26, Try.ntmps26
  go_wp2_with (first | (refine wpList_box rfl rfl 50 _ _ rfl rfl (wordC 4 s z32 ⟨#[]⟩ 0 l1 l2 l3) zWord zeroWord rfl rfl rfl (wordF rfl).info (wordF rfl).one ?_; rw [HY.out]) | (refine wpList_allocZ rfl 50 rfl zWord zeroWord ?_) | (refine wpList_load_row rfl 50 (.tmp 5) rfl (w.heap.size + 1 + 1 + 1) rfl 50 X2 (0, 0) _ HY2.out Try.underlying50 rfl HI.out ?_) | (refine wpList_store_row rfl 50 (.tmp 4) (.tmp 42) rfl (w.heap.size + 1 + 1) X2 rfl rfl 50 zWord HZ2.out HI.out HS.out H1.out ?_; obtain ⟨w99, hw99⟩ : ∃ w', World.setRow w2 (w.heap.size + 1 + 1) X2 = w' := ⟨_, rfl⟩; have hu := upd_row HZ2.out X2; rw [hw99] at hu ⊢; have HF9 := Lib.hid hu.at_; have HBF9 := Lib.hid (hu.to (by omega) HB2.out); clear hu hw99))
  refine bodyPost_ret_by (results_cell_row rfl _ _ (w.heap.size + 1 + 1) _ X2 (0, 0) _ rfl HF9.out Try.underlying50 rfl HI.out) rfl ?_
  exact ⟨X2, rfl, HF.out, HBF9.out⟩
set_option maxRecDepth 100000 in
set_option maxHeartbeats 3200000 in
theorem word5 (X : Array Value) (s : Nat) (d : List UInt8) (nm : ByteArray) (A : Option Addr) (l : List UInt8) (c : Nat) (n z l1 l2 l3 : Int) (w : World) (hX : RecF X 5 s d nm A l.length c n z) :
    Calls Try.prog 26 #[.agg X, .agg #[.int .i64 l1, .int .i64 l2, .int .i64 l3]] w (Worded 5 s d nm l.length z l1 l2 l3 w) := by
  have h0 := hX.c0
  have h1 := hX.c1
  have h34 := hX.c34
  have h35 := hX.c35
  have h36 := hX.c36
  have h37 := hX.c37
  obtain ⟨Y, hY⟩ : ∃ Y, wordC 5 s z32 ⟨#[]⟩ 0 l1 l2 l3 = Y := ⟨_, rfl⟩
  have hYF : WordF Y 5 s z32 ⟨#[]⟩ 0 l1 l2 l3 := hY ▸ wordF rfl
  have HY := Lib.hid hY
  obtain ⟨w0, hw0⟩ : ∃ w0, ((w.alloc (.cells X 27)).alloc (.cells #[.int .i64 l1, .int .i64 l2, .int .i64 l3] 44)).alloc (.cells zWord 50) = w0 := ⟨_, rfl⟩
  obtain ⟨hg, hgl, hz, hy, hb⟩ := blk4 w X #[.int .i64 l1, .int .i64 l2, .int .i64 l3] zWord Y 27 44 50 50
  rw [hw0] at hg hgl hz hy hb
  have hs0 : w0.heap.size = w.heap.size + 1 + 1 + 1 := by rw [← hw0]; simp
  have hcc0 : ∀ i, w0.cell? ⟨w.heap.size, i, none⟩ = X[i]? := fun i => by rw [← hw0]; exact blk_cell (blk_below (blk_new w (.cells X 27)) (below_alloc (below_alloc (Below.refl _ _) _) _)) i
  have hcl0 : ∀ i, w0.cell? ⟨w.heap.size + 1, i, none⟩ = (#[.int .i64 l1, .int .i64 l2, .int .i64 l3] : Array Value)[i]? := fun i => by rw [← hw0]; have h := blk_new (w.alloc (.cells X 27)) (.cells #[.int .i64 l1, .int .i64 l2, .int .i64 l3] 44); rw [show (w.alloc (.cells X 27)).heap.size = w.heap.size + 1 by simp] at h; exact blk_cell (blk_below h (below_alloc (Below.refl _ _) _)) i
  obtain ⟨w1, hw1⟩ : ∃ w1, w0.alloc (.cells Y 50) = w1 := ⟨_, rfl⟩
  rw [hw1] at hg hgl hz hy hb
  have HG := Lib.hid hg
  have HL := Lib.hid hgl
  have HZ1 := Lib.hid hz
  have HY1 := Lib.hid hy
  have HB1 := Lib.hid hb
  have hcc := fun i => blk_cell HG.out i
  have hY1 := fun i => blk_cell HY1.out i
  have hff := fun i => blk_frozen HY1.out i
  obtain ⟨cs, hcs⟩ : ∃ cs, d.map encB = cs := ⟨_, rfl⟩
  have hcl : cs.length = 32 := by rw [← hcs, List.length_map]; exact hX.dl
  have HDI := Lib.hid (show (Try.prog.info? 25).map (·.size) = some cs.length by rw [hcl]; exact infoDig)
  have HDI2 := Lib.hid (show (Try.prog.info? 25).map (·.size) = some cs.toArray.size by rw [List.size_toArray, hcl]; exact infoDig)
  have HC1 := Lib.hid (show cs.toArray.all (·.oneCell') = true by rw [← hcs]; exact all_oneCell_toArray (one_encs _))
  have HD1 := Lib.hid (show w1.rangeAt w.heap.size 2 cs from hcs ▸ hX.range HG.out)
  have hu := upd_cells HY1.out 2 cs (by have := hYF.size; omega)
  obtain ⟨X2, hX2⟩ : ∃ Zq, (splice Y.toList 2 cs).toArray = Zq := ⟨_, rfl⟩
  obtain ⟨w2, hw2⟩ : ∃ w', World.setCells w1 (w.heap.size + 1 + 1 + 1) 2 cs = w' := ⟨_, rfl⟩
  rw [hX2, hw2] at hu
  have HWD := Lib.hid hw2
  have hX2F : WordF X2 5 s d ⟨#[]⟩ 0 l1 l2 l3 := by rw [← hX2, ← hcs]; exact hYF.setD hX.dl
  have HDD := Lib.hid (show w1.rangeAt w.heap.size 2 cs from hcs ▸ hX.range HG.out)
  have HTH := Lib.hid (there_of HY1.out 2 cs.toArray.size (by have := hYF.size; rw [List.size_toArray]; omega))
  have HG2 := Lib.hid ((hu.off w.heap.size (by omega)).trans HG.out)
  have HZ2 := Lib.hid ((hu.off (w.heap.size + 1 + 1) (by omega)).trans HZ1.out)
  have HY2 := Lib.hid hu.at_
  have HB2 := Lib.hid (hu.to (by omega) HB1.out)
  have hcc2 := fun i => blk_cell HG2.out i
  have hY2 := fun i => blk_cell HY2.out i
  have hff2 := fun i => blk_frozen HY2.out i
  clear hu hX2 hw2
  have HF := Lib.hid hX2F
  have HI := Lib.hid hX2F.info
  have HS := Lib.hid (show zWord.size = X2.size from zWordF.size.trans hX2F.size.symm)
  have H1 := Lib.hid hX2F.one
  clear hX hY hYF hg hgl hz hy hb hcs hX2F
  go_enter Try.func26, Try.ntmps26
  go_wp2_with (first | (refine wpList_box rfl rfl 50 _ _ rfl rfl (wordC 5 s z32 ⟨#[]⟩ 0 l1 l2 l3) zWord zeroWord rfl rfl rfl (wordF rfl).info (wordF rfl).one ?_; rw [HY.out]) | (refine wpList_allocZ rfl 50 rfl zWord zeroWord ?_) | (refine wpList_load_mid rfl 25 (.tmp 30) rfl w.heap.size 2 rfl cs _ HDD.out undDig rfl HDI.out ?_) | (refine wpList_store_mid rfl 25 (.tmp 32) (.tmp 31) rfl (w.heap.size + 1 + 1 + 1) 2 cs.toArray rfl rfl HTH.out HDI2.out HC1.out ?_; rw [show cs.toArray.toList = cs from rfl, HWD.out]) | (refine wpList_load_row rfl 50 (.tmp 5) rfl (w.heap.size + 1 + 1 + 1) rfl 50 X2 (0, 0) _ HY2.out Try.underlying50 rfl HI.out ?_) | (refine wpList_store_row rfl 50 (.tmp 4) (.tmp 42) rfl (w.heap.size + 1 + 1) X2 rfl rfl 50 zWord HZ2.out HI.out HS.out H1.out ?_; obtain ⟨w99, hw99⟩ : ∃ w', World.setRow w2 (w.heap.size + 1 + 1) X2 = w' := ⟨_, rfl⟩; have hu := upd_row HZ2.out X2; rw [hw99] at hu ⊢; have HF9 := Lib.hid hu.at_; have HBF9 := Lib.hid (hu.to (by omega) HB2.out); clear hu hw99))
  refine bodyPost_ret_by (results_cell_row rfl _ _ (w.heap.size + 1 + 1) _ X2 (0, 0) _ rfl HF9.out Try.underlying50 rfl HI.out) rfl ?_
  exact ⟨X2, rfl, HF.out, HBF9.out⟩
set_option maxRecDepth 100000 in
set_option maxHeartbeats 3200000 in
theorem word6 (X : Array Value) (s : Nat) (d : List UInt8) (nm : ByteArray) (A : Option Addr) (l : List UInt8) (c : Nat) (n z l1 l2 l3 : Int) (w : World) (hX : RecF X 6 s d nm A l.length c n z) :
    Calls Try.prog 26 #[.agg X, .agg #[.int .i64 l1, .int .i64 l2, .int .i64 l3]] w (Worded 6 s d nm l.length z l1 l2 l3 w) := by
  have h0 := hX.c0
  have h1 := hX.c1
  have h34 := hX.c34
  have h35 := hX.c35
  have h36 := hX.c36
  have h37 := hX.c37
  obtain ⟨Y, hY⟩ : ∃ Y, wordC 6 s z32 ⟨#[]⟩ 0 l1 l2 l3 = Y := ⟨_, rfl⟩
  have hYF : WordF Y 6 s z32 ⟨#[]⟩ 0 l1 l2 l3 := hY ▸ wordF rfl
  have HY := Lib.hid hY
  obtain ⟨w0, hw0⟩ : ∃ w0, ((w.alloc (.cells X 27)).alloc (.cells #[.int .i64 l1, .int .i64 l2, .int .i64 l3] 44)).alloc (.cells zWord 50) = w0 := ⟨_, rfl⟩
  obtain ⟨hg, hgl, hz, hy, hb⟩ := blk4 w X #[.int .i64 l1, .int .i64 l2, .int .i64 l3] zWord Y 27 44 50 50
  rw [hw0] at hg hgl hz hy hb
  have hs0 : w0.heap.size = w.heap.size + 1 + 1 + 1 := by rw [← hw0]; simp
  have hcc0 : ∀ i, w0.cell? ⟨w.heap.size, i, none⟩ = X[i]? := fun i => by rw [← hw0]; exact blk_cell (blk_below (blk_new w (.cells X 27)) (below_alloc (below_alloc (Below.refl _ _) _) _)) i
  have hcl0 : ∀ i, w0.cell? ⟨w.heap.size + 1, i, none⟩ = (#[.int .i64 l1, .int .i64 l2, .int .i64 l3] : Array Value)[i]? := fun i => by rw [← hw0]; have h := blk_new (w.alloc (.cells X 27)) (.cells #[.int .i64 l1, .int .i64 l2, .int .i64 l3] 44); rw [show (w.alloc (.cells X 27)).heap.size = w.heap.size + 1 by simp] at h; exact blk_cell (blk_below h (below_alloc (Below.refl _ _) _)) i
  obtain ⟨w1, hw1⟩ : ∃ w1, w0.alloc (.cells Y 50) = w1 := ⟨_, rfl⟩
  rw [hw1] at hg hgl hz hy hb
  have HG := Lib.hid hg
  have HL := Lib.hid hgl
  have HZ1 := Lib.hid hz
  have HY1 := Lib.hid hy
  have HB1 := Lib.hid hb
  have hcc := fun i => blk_cell HG.out i
  have hY1 := fun i => blk_cell HY1.out i
  have hff := fun i => blk_frozen HY1.out i
  obtain ⟨cs, hcs⟩ : ∃ cs, d.map encB = cs := ⟨_, rfl⟩
  have hcl : cs.length = 32 := by rw [← hcs, List.length_map]; exact hX.dl
  have HDI := Lib.hid (show (Try.prog.info? 25).map (·.size) = some cs.length by rw [hcl]; exact infoDig)
  have HDI2 := Lib.hid (show (Try.prog.info? 25).map (·.size) = some cs.toArray.size by rw [List.size_toArray, hcl]; exact infoDig)
  have HC1 := Lib.hid (show cs.toArray.all (·.oneCell') = true by rw [← hcs]; exact all_oneCell_toArray (one_encs _))
  have HD1 := Lib.hid (show w1.rangeAt w.heap.size 2 cs from hcs ▸ hX.range HG.out)
  have g2 := hYF.c35
  have hu := upd_cell HY1.out 35 (.int .i64 z)
  obtain ⟨X2, hX2⟩ : ∃ Zq, Y.setIfInBounds 35 (.int .i64 z) = Zq := ⟨_, rfl⟩
  obtain ⟨w2, hw2⟩ : ∃ w', w1.setCell ⟨w.heap.size + 1 + 1 + 1, 35, none⟩ (.int .i64 z) = w' := ⟨_, rfl⟩
  rw [hX2, hw2] at hu
  have hX2F : WordF X2 6 s z32 ⟨#[]⟩ z l1 l2 l3 := hX2 ▸ hYF.setZ z
  have HG2 := Lib.hid ((hu.off w.heap.size (by omega)).trans HG.out)
  have HZ2 := Lib.hid ((hu.off (w.heap.size + 1 + 1) (by omega)).trans HZ1.out)
  have HY2 := Lib.hid hu.at_
  have HB2 := Lib.hid (hu.to (by omega) HB1.out)
  have hcc2 := fun i => blk_cell HG2.out i
  have hY2 := fun i => blk_cell HY2.out i
  have hff2 := fun i => blk_frozen HY2.out i
  clear hu hX2
  have HF := Lib.hid hX2F
  have HI := Lib.hid hX2F.info
  have HS := Lib.hid (show zWord.size = X2.size from zWordF.size.trans hX2F.size.symm)
  have H1 := Lib.hid hX2F.one
  clear hX hY hYF hg hgl hz hy hb hcs hX2F
  go_enter Try.func26, Try.ntmps26
  go_wp2_with (first | (refine wpList_box rfl rfl 50 _ _ rfl rfl (wordC 6 s z32 ⟨#[]⟩ 0 l1 l2 l3) zWord zeroWord rfl rfl rfl (wordF rfl).info (wordF rfl).one ?_; rw [HY.out]) | (refine wpList_allocZ rfl 50 rfl zWord zeroWord ?_) | (refine wpList_load_row rfl 50 (.tmp 5) rfl (w.heap.size + 1 + 1 + 1) rfl 50 X2 (0, 0) _ HY2.out Try.underlying50 rfl HI.out ?_) | (refine wpList_store_row rfl 50 (.tmp 4) (.tmp 42) rfl (w.heap.size + 1 + 1) X2 rfl rfl 50 zWord HZ2.out HI.out HS.out H1.out ?_; obtain ⟨w99, hw99⟩ : ∃ w', World.setRow w2 (w.heap.size + 1 + 1) X2 = w' := ⟨_, rfl⟩; have hu := upd_row HZ2.out X2; rw [hw99] at hu ⊢; have HF9 := Lib.hid hu.at_; have HBF9 := Lib.hid (hu.to (by omega) HB2.out); clear hu hw99))
  refine bodyPost_ret_by (results_cell_row rfl _ _ (w.heap.size + 1 + 1) _ X2 (0, 0) _ rfl HF9.out Try.underlying50 rfl HI.out) rfl ?_
  exact ⟨X2, rfl, HF.out, HBF9.out⟩
set_option maxRecDepth 100000 in
set_option maxHeartbeats 3200000 in
theorem word7 (X : Array Value) (s : Nat) (d : List UInt8) (nm : ByteArray) (A : Option Addr) (l : List UInt8) (c : Nat) (n z l1 l2 l3 : Int) (w : World) (hX : RecF X 7 s d nm A l.length c n z) :
    Calls Try.prog 26 #[.agg X, .agg #[.int .i64 l1, .int .i64 l2, .int .i64 l3]] w (Worded 7 s d nm l.length z l1 l2 l3 w) := by
  have h0 := hX.c0
  have h1 := hX.c1
  have h34 := hX.c34
  have h35 := hX.c35
  have h36 := hX.c36
  have h37 := hX.c37
  obtain ⟨Y, hY⟩ : ∃ Y, wordC 7 s z32 ⟨#[]⟩ 0 l1 l2 l3 = Y := ⟨_, rfl⟩
  have hYF : WordF Y 7 s z32 ⟨#[]⟩ 0 l1 l2 l3 := hY ▸ wordF rfl
  have HY := Lib.hid hY
  obtain ⟨w0, hw0⟩ : ∃ w0, ((w.alloc (.cells X 27)).alloc (.cells #[.int .i64 l1, .int .i64 l2, .int .i64 l3] 44)).alloc (.cells zWord 50) = w0 := ⟨_, rfl⟩
  obtain ⟨hg, hgl, hz, hy, hb⟩ := blk4 w X #[.int .i64 l1, .int .i64 l2, .int .i64 l3] zWord Y 27 44 50 50
  rw [hw0] at hg hgl hz hy hb
  have hs0 : w0.heap.size = w.heap.size + 1 + 1 + 1 := by rw [← hw0]; simp
  have hcc0 : ∀ i, w0.cell? ⟨w.heap.size, i, none⟩ = X[i]? := fun i => by rw [← hw0]; exact blk_cell (blk_below (blk_new w (.cells X 27)) (below_alloc (below_alloc (Below.refl _ _) _) _)) i
  have hcl0 : ∀ i, w0.cell? ⟨w.heap.size + 1, i, none⟩ = (#[.int .i64 l1, .int .i64 l2, .int .i64 l3] : Array Value)[i]? := fun i => by rw [← hw0]; have h := blk_new (w.alloc (.cells X 27)) (.cells #[.int .i64 l1, .int .i64 l2, .int .i64 l3] 44); rw [show (w.alloc (.cells X 27)).heap.size = w.heap.size + 1 by simp] at h; exact blk_cell (blk_below h (below_alloc (Below.refl _ _) _)) i
  obtain ⟨w1, hw1⟩ : ∃ w1, w0.alloc (.cells Y 50) = w1 := ⟨_, rfl⟩
  rw [hw1] at hg hgl hz hy hb
  have HG := Lib.hid hg
  have HL := Lib.hid hgl
  have HZ1 := Lib.hid hz
  have HY1 := Lib.hid hy
  have HB1 := Lib.hid hb
  have hcc := fun i => blk_cell HG.out i
  have hY1 := fun i => blk_cell HY1.out i
  have hff := fun i => blk_frozen HY1.out i
  obtain ⟨cs, hcs⟩ : ∃ cs, d.map encB = cs := ⟨_, rfl⟩
  have hcl : cs.length = 32 := by rw [← hcs, List.length_map]; exact hX.dl
  have HDI := Lib.hid (show (Try.prog.info? 25).map (·.size) = some cs.length by rw [hcl]; exact infoDig)
  have HDI2 := Lib.hid (show (Try.prog.info? 25).map (·.size) = some cs.toArray.size by rw [List.size_toArray, hcl]; exact infoDig)
  have HC1 := Lib.hid (show cs.toArray.all (·.oneCell') = true by rw [← hcs]; exact all_oneCell_toArray (one_encs _))
  have HD1 := Lib.hid (show w1.rangeAt w.heap.size 2 cs from hcs ▸ hX.range HG.out)
  have HF := Lib.hid hYF
  have HI := Lib.hid hYF.info
  have HS := Lib.hid (show zWord.size = Y.size from zWordF.size.trans hYF.size.symm)
  have H1 := Lib.hid hYF.one
  clear hX hY hYF hg hgl hz hy hb hcs
  go_enter Try.func26, Try.ntmps26
  go_wp2_with (first | (refine wpList_box rfl rfl 50 _ _ rfl rfl (wordC 7 s z32 ⟨#[]⟩ 0 l1 l2 l3) zWord zeroWord rfl rfl rfl (wordF rfl).info (wordF rfl).one ?_; rw [HY.out]) | (refine wpList_allocZ rfl 50 rfl zWord zeroWord ?_) | (refine wpList_load_row rfl 50 (.tmp 5) rfl (w.heap.size + 1 + 1 + 1) rfl 50 Y (0, 0) _ HY1.out Try.underlying50 rfl HI.out ?_) | (refine wpList_store_row rfl 50 (.tmp 4) (.tmp 42) rfl (w.heap.size + 1 + 1) Y rfl rfl 50 zWord HZ1.out HI.out HS.out H1.out ?_; obtain ⟨w99, hw99⟩ : ∃ w', World.setRow w1 (w.heap.size + 1 + 1) Y = w' := ⟨_, rfl⟩; have hu := upd_row HZ1.out Y; rw [hw99] at hu ⊢; have HF9 := Lib.hid hu.at_; have HBF9 := Lib.hid (hu.to (by omega) HB1.out); clear hu hw99))
  refine bodyPost_ret_by (results_cell_row rfl _ _ (w.heap.size + 1 + 1) _ Y (0, 0) _ rfl HF9.out Try.underlying50 rfl HI.out) rfl ?_
  exact ⟨Y, rfl, HF.out, HBF9.out⟩
set_option maxRecDepth 100000 in
set_option maxHeartbeats 3200000 in
theorem word8 (X : Array Value) (s : Nat) (d : List UInt8) (nm : ByteArray) (A : Option Addr) (l : List UInt8) (c : Nat) (n z l1 l2 l3 : Int) (w : World) (hX : RecF X 8 s d nm A l.length c n z) :
    Calls Try.prog 26 #[.agg X, .agg #[.int .i64 l1, .int .i64 l2, .int .i64 l3]] w (Worded 8 s d nm l.length z l1 l2 l3 w) := by
  have h0 := hX.c0
  have h1 := hX.c1
  have h34 := hX.c34
  have h35 := hX.c35
  have h36 := hX.c36
  have h37 := hX.c37
  obtain ⟨Y, hY⟩ : ∃ Y, wordC 8 s z32 ⟨#[]⟩ 0 l1 l2 l3 = Y := ⟨_, rfl⟩
  have hYF : WordF Y 8 s z32 ⟨#[]⟩ 0 l1 l2 l3 := hY ▸ wordF rfl
  have HY := Lib.hid hY
  obtain ⟨w0, hw0⟩ : ∃ w0, ((w.alloc (.cells X 27)).alloc (.cells #[.int .i64 l1, .int .i64 l2, .int .i64 l3] 44)).alloc (.cells zWord 50) = w0 := ⟨_, rfl⟩
  obtain ⟨hg, hgl, hz, hy, hb⟩ := blk4 w X #[.int .i64 l1, .int .i64 l2, .int .i64 l3] zWord Y 27 44 50 50
  rw [hw0] at hg hgl hz hy hb
  have hs0 : w0.heap.size = w.heap.size + 1 + 1 + 1 := by rw [← hw0]; simp
  have hcc0 : ∀ i, w0.cell? ⟨w.heap.size, i, none⟩ = X[i]? := fun i => by rw [← hw0]; exact blk_cell (blk_below (blk_new w (.cells X 27)) (below_alloc (below_alloc (Below.refl _ _) _) _)) i
  have hcl0 : ∀ i, w0.cell? ⟨w.heap.size + 1, i, none⟩ = (#[.int .i64 l1, .int .i64 l2, .int .i64 l3] : Array Value)[i]? := fun i => by rw [← hw0]; have h := blk_new (w.alloc (.cells X 27)) (.cells #[.int .i64 l1, .int .i64 l2, .int .i64 l3] 44); rw [show (w.alloc (.cells X 27)).heap.size = w.heap.size + 1 by simp] at h; exact blk_cell (blk_below h (below_alloc (Below.refl _ _) _)) i
  obtain ⟨w1, hw1⟩ : ∃ w1, w0.alloc (.cells Y 50) = w1 := ⟨_, rfl⟩
  rw [hw1] at hg hgl hz hy hb
  have HG := Lib.hid hg
  have HL := Lib.hid hgl
  have HZ1 := Lib.hid hz
  have HY1 := Lib.hid hy
  have HB1 := Lib.hid hb
  have hcc := fun i => blk_cell HG.out i
  have hY1 := fun i => blk_cell HY1.out i
  have hff := fun i => blk_frozen HY1.out i
  obtain ⟨cs, hcs⟩ : ∃ cs, d.map encB = cs := ⟨_, rfl⟩
  have hcl : cs.length = 32 := by rw [← hcs, List.length_map]; exact hX.dl
  have HDI := Lib.hid (show (Try.prog.info? 25).map (·.size) = some cs.length by rw [hcl]; exact infoDig)
  have HDI2 := Lib.hid (show (Try.prog.info? 25).map (·.size) = some cs.toArray.size by rw [List.size_toArray, hcl]; exact infoDig)
  have HC1 := Lib.hid (show cs.toArray.all (·.oneCell') = true by rw [← hcs]; exact all_oneCell_toArray (one_encs _))
  have HD1 := Lib.hid (show w1.rangeAt w.heap.size 2 cs from hcs ▸ hX.range HG.out)
  have g2 := hYF.c35
  have hu := upd_cell HY1.out 35 (.int .i64 z)
  obtain ⟨X2, hX2⟩ : ∃ Zq, Y.setIfInBounds 35 (.int .i64 z) = Zq := ⟨_, rfl⟩
  obtain ⟨w2, hw2⟩ : ∃ w', w1.setCell ⟨w.heap.size + 1 + 1 + 1, 35, none⟩ (.int .i64 z) = w' := ⟨_, rfl⟩
  rw [hX2, hw2] at hu
  have hX2F : WordF X2 8 s z32 ⟨#[]⟩ z l1 l2 l3 := hX2 ▸ hYF.setZ z
  have HG2 := Lib.hid ((hu.off w.heap.size (by omega)).trans HG.out)
  have HZ2 := Lib.hid ((hu.off (w.heap.size + 1 + 1) (by omega)).trans HZ1.out)
  have HY2 := Lib.hid hu.at_
  have HB2 := Lib.hid (hu.to (by omega) HB1.out)
  have hcc2 := fun i => blk_cell HG2.out i
  have hY2 := fun i => blk_cell HY2.out i
  have hff2 := fun i => blk_frozen HY2.out i
  clear hu hX2
  have HF := Lib.hid hX2F
  have HI := Lib.hid hX2F.info
  have HS := Lib.hid (show zWord.size = X2.size from zWordF.size.trans hX2F.size.symm)
  have H1 := Lib.hid hX2F.one
  clear hX hY hYF hg hgl hz hy hb hcs hX2F
  go_enter Try.func26, Try.ntmps26
  go_wp2_with (first | (refine wpList_box rfl rfl 50 _ _ rfl rfl (wordC 8 s z32 ⟨#[]⟩ 0 l1 l2 l3) zWord zeroWord rfl rfl rfl (wordF rfl).info (wordF rfl).one ?_; rw [HY.out]) | (refine wpList_allocZ rfl 50 rfl zWord zeroWord ?_) | (refine wpList_load_row rfl 50 (.tmp 5) rfl (w.heap.size + 1 + 1 + 1) rfl 50 X2 (0, 0) _ HY2.out Try.underlying50 rfl HI.out ?_) | (refine wpList_store_row rfl 50 (.tmp 4) (.tmp 42) rfl (w.heap.size + 1 + 1) X2 rfl rfl 50 zWord HZ2.out HI.out HS.out H1.out ?_; obtain ⟨w99, hw99⟩ : ∃ w', World.setRow w2 (w.heap.size + 1 + 1) X2 = w' := ⟨_, rfl⟩; have hu := upd_row HZ2.out X2; rw [hw99] at hu ⊢; have HF9 := Lib.hid hu.at_; have HBF9 := Lib.hid (hu.to (by omega) HB2.out); clear hu hw99))
  refine bodyPost_ret_by (results_cell_row rfl _ _ (w.heap.size + 1 + 1) _ X2 (0, 0) _ rfl HF9.out Try.underlying50 rfl HI.out) rfl ?_
  exact ⟨X2, rfl, HF.out, HBF9.out⟩
set_option maxRecDepth 100000 in
set_option maxHeartbeats 3200000 in
theorem wordO (X : Array Value) (s : Nat) (d : List UInt8) (nm : ByteArray) (A : Option Addr) (l : List UInt8) (c : Nat) (n z l1 l2 l3 : Int) (w : World) (k : Int) (hk : ¬ (1 ≤ k ∧ k ≤ 8)) (hX : RecF X k s d nm A l.length c n z) :
    Calls Try.prog 26 #[.agg X, .agg #[.int .i64 l1, .int .i64 l2, .int .i64 l3]] w (Worded k s d nm l.length z l1 l2 l3 w) := by
  have b1 : (k == 1) = false := beq_eq_false_iff_ne.2 (by omega)
  have b2 : (k == 2) = false := beq_eq_false_iff_ne.2 (by omega)
  have b3 : (k == 3) = false := beq_eq_false_iff_ne.2 (by omega)
  have b4 : (k == 4) = false := beq_eq_false_iff_ne.2 (by omega)
  have b5 : (k == 5) = false := beq_eq_false_iff_ne.2 (by omega)
  have b6 : (k == 6) = false := beq_eq_false_iff_ne.2 (by omega)
  have b7 : (k == 7) = false := beq_eq_false_iff_ne.2 (by omega)
  have b8 : (k == 8) = false := beq_eq_false_iff_ne.2 (by omega)
  have HE := Lib.hid (show dW k d = z32 ∧ nmW k nm = ⟨#[]⟩ ∧ zW k l.length z = 0 from ⟨if_neg (by omega), if_neg (by omega), by unfold zW; rw [if_neg (by omega), if_neg (by omega)]⟩)
  clear hk
  have h0 := hX.c0
  have h1 := hX.c1
  have h34 := hX.c34
  have h35 := hX.c35
  have h36 := hX.c36
  have h37 := hX.c37
  obtain ⟨Y, hY⟩ : ∃ Y, wordC k s z32 ⟨#[]⟩ 0 l1 l2 l3 = Y := ⟨_, rfl⟩
  have hYF : WordF Y k s z32 ⟨#[]⟩ 0 l1 l2 l3 := hY ▸ wordF rfl
  have HY := Lib.hid hY
  obtain ⟨w0, hw0⟩ : ∃ w0, ((w.alloc (.cells X 27)).alloc (.cells #[.int .i64 l1, .int .i64 l2, .int .i64 l3] 44)).alloc (.cells zWord 50) = w0 := ⟨_, rfl⟩
  obtain ⟨hg, hgl, hz, hy, hb⟩ := blk4 w X #[.int .i64 l1, .int .i64 l2, .int .i64 l3] zWord Y 27 44 50 50
  rw [hw0] at hg hgl hz hy hb
  have hs0 : w0.heap.size = w.heap.size + 1 + 1 + 1 := by rw [← hw0]; simp
  have hcc0 : ∀ i, w0.cell? ⟨w.heap.size, i, none⟩ = X[i]? := fun i => by rw [← hw0]; exact blk_cell (blk_below (blk_new w (.cells X 27)) (below_alloc (below_alloc (Below.refl _ _) _) _)) i
  have hcl0 : ∀ i, w0.cell? ⟨w.heap.size + 1, i, none⟩ = (#[.int .i64 l1, .int .i64 l2, .int .i64 l3] : Array Value)[i]? := fun i => by rw [← hw0]; have h := blk_new (w.alloc (.cells X 27)) (.cells #[.int .i64 l1, .int .i64 l2, .int .i64 l3] 44); rw [show (w.alloc (.cells X 27)).heap.size = w.heap.size + 1 by simp] at h; exact blk_cell (blk_below h (below_alloc (Below.refl _ _) _)) i
  obtain ⟨w1, hw1⟩ : ∃ w1, w0.alloc (.cells Y 50) = w1 := ⟨_, rfl⟩
  rw [hw1] at hg hgl hz hy hb
  have HG := Lib.hid hg
  have HL := Lib.hid hgl
  have HZ1 := Lib.hid hz
  have HY1 := Lib.hid hy
  have HB1 := Lib.hid hb
  have hcc := fun i => blk_cell HG.out i
  have hY1 := fun i => blk_cell HY1.out i
  have hff := fun i => blk_frozen HY1.out i
  obtain ⟨cs, hcs⟩ : ∃ cs, d.map encB = cs := ⟨_, rfl⟩
  have hcl : cs.length = 32 := by rw [← hcs, List.length_map]; exact hX.dl
  have HDI := Lib.hid (show (Try.prog.info? 25).map (·.size) = some cs.length by rw [hcl]; exact infoDig)
  have HDI2 := Lib.hid (show (Try.prog.info? 25).map (·.size) = some cs.toArray.size by rw [List.size_toArray, hcl]; exact infoDig)
  have HC1 := Lib.hid (show cs.toArray.all (·.oneCell') = true by rw [← hcs]; exact all_oneCell_toArray (one_encs _))
  have HD1 := Lib.hid (show w1.rangeAt w.heap.size 2 cs from hcs ▸ hX.range HG.out)
  have HF := Lib.hid hYF
  have HI := Lib.hid hYF.info
  have HS := Lib.hid (show zWord.size = Y.size from zWordF.size.trans hYF.size.symm)
  have H1 := Lib.hid hYF.one
  clear hX hY hYF hg hgl hz hy hb hcs
  go_enter Try.func26, Try.ntmps26
  go_wp2_with (first | (refine wpList_box rfl rfl 50 _ _ rfl rfl (wordC k s z32 ⟨#[]⟩ 0 l1 l2 l3) zWord zeroWord rfl rfl rfl (wordF rfl).info (wordF rfl).one ?_; rw [HY.out]) | (refine wpList_allocZ rfl 50 rfl zWord zeroWord ?_) | (refine wpList_load_row rfl 50 (.tmp 5) rfl (w.heap.size + 1 + 1 + 1) rfl 50 Y (0, 0) _ HY1.out Try.underlying50 rfl HI.out ?_) | (refine wpList_store_row rfl 50 (.tmp 4) (.tmp 42) rfl (w.heap.size + 1 + 1) Y rfl rfl 50 zWord HZ1.out HI.out HS.out H1.out ?_; obtain ⟨w99, hw99⟩ : ∃ w', World.setRow w1 (w.heap.size + 1 + 1) Y = w' := ⟨_, rfl⟩; have hu := upd_row HZ1.out Y; rw [hw99] at hu ⊢; have HF9 := Lib.hid hu.at_; have HBF9 := Lib.hid (hu.to (by omega) HB1.out); clear hu hw99))
  refine bodyPost_ret_by (results_cell_row rfl _ _ (w.heap.size + 1 + 1) _ Y (0, 0) _ rfl HF9.out Try.underlying50 rfl HI.out) rfl ?_
  exact ⟨Y, rfl, by rw [HE.out.1, HE.out.2.1, HE.out.2.2]; exact HF.out, HBF9.out⟩
theorem word_any (k : Int) (X : Array Value) (s : Nat) (d : List UInt8) (nm : ByteArray) (A : Option Addr) (l : List UInt8) (c : Nat) (n z l1 l2 l3 : Int) (w : World) (hX : RecF X k s d nm A l.length c n z) :
    Calls Try.prog 26 #[.agg X, .agg #[.int .i64 l1, .int .i64 l2, .int .i64 l3]] w (Worded k s d nm l.length z l1 l2 l3 w) := by
  by_cases hk : 1 ≤ k ∧ k ≤ 8
  · rcases (show k = 1 ∨ k = 2 ∨ k = 3 ∨ k = 4 ∨ k = 5 ∨ k = 6 ∨ k = 7 ∨ k = 8 by omega) with rfl | rfl | rfl | rfl | rfl | rfl | rfl | rfl
    · exact word1 X s d nm A l c n z l1 l2 l3 w hX
    · exact word2 X s d nm A l c n z l1 l2 l3 w hX
    · exact word3 X s d nm A l c n z l1 l2 l3 w hX
    · exact word4 X s d nm A l c n z l1 l2 l3 w hX
    · exact word5 X s d nm A l c n z l1 l2 l3 w hX
    · exact word6 X s d nm A l c n z l1 l2 l3 w hX
    · exact word7 X s d nm A l c n z l1 l2 l3 w hX
    · exact word8 X s d nm A l c n z l1 l2 l3 w hX
  · exact wordO X s d nm A l c n z l1 l2 l3 w k hk hX
end Go.Proofs.Ytceldlijbehkdaa.Rc
