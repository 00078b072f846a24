/- record.fill. -/
import Derived.Test.YtceldlijbehkdaaRcMake
set_option linter.unusedVariables false
set_option linter.unusedSimpArgs false
namespace Go.Proofs.Ytceldlijbehkdaa.Rc
open Go.RowKit Go.Proofs.YtceldlijbehkdaaW.PrintWords Go.Proofs.Ytceldlijbehkdaa.B Go.Proofs.Ytceldlijbehkdaa.Fx Go.Proofs.Ytceldlijbehkdaa.Fr
theorem hsz8 : (Try.prog.info? 5).map (·.size) = some 1 := by obtain ⟨i0, h1, h2⟩ := infoU8'; rw [h1]; exact congrArg some h2
theorem rd_cs {W : World} {A : Option Addr} {b : List UInt8} (h : Rd W A b) (cs : List Value) (m : Nat) (hcs : cs = (b.take m).map encB) : 0 < cs.length → ∃ ad, A = some ad ∧ ∀ j v, cs[j]? = some v → W.cell? (ad.add j) = some v := by
  intro hp
  have hbl : 0 < b.length := by rw [hcs] at hp; simp at hp; omega
  obtain ⟨ad, rfl, -⟩ := h.at_ 0 hbl
  refine ⟨ad, rfl, fun j v hv => ?_⟩
  have := h.src j v
  refine this ?_
  rw [hcs, List.map_take] at hv
  have hj : j < (List.take m (b.map encB)).length := (List.getElem?_eq_some_iff.1 hv).1
  rw [List.getElem?_take_of_lt (by rw [List.length_take] at hj; omega)] at hv
  exact hv
set_option maxRecDepth 100000 in
set_option maxHeartbeats 3200000 in
theorem fill5 (X : Array Value) (s : Nat) (A : Option Addr) (c : Nat) (b : List UInt8) (w : World) (hX : RecF X 5 s z32 ⟨#[]⟩ none 0 0 0 0) (hr : Rd w A b) (hl : b.length ≤ 65536) (hc : b.length ≤ c) :
    Calls Try.prog 44 #[.agg X, .slice A b.length c] w (FillE 5 s b w) := by
  have h0 := hX.c0
  obtain ⟨w1, hw1⟩ : ∃ w1, (w.alloc (.cells X 27)).alloc (.cells zRec 27) = w1 := ⟨_, rfl⟩
  obtain ⟨hg, hz, hb0⟩ := run_blk2 w X zRec 27 27
  rw [hw1] at hg hz hb0
  have HR := Lib.hid (hr.below hb0)
  have HG := Lib.hid hg
  have HZ := Lib.hid hz
  have HB0 := Lib.hid hb0
  have hcc := fun i => blk_cell HG.out i
  have hz1 := blk_lt HG.out
  have hz2 := blk_lt HZ.out
  have hr0 := hr
  clear hr hg hz hb0
  obtain ⟨cs, hcs⟩ : ∃ cs, cs = (b.take 32).map encB := ⟨_, rfl⟩
  have hcl : cs.length = Nat.min b.length 32 := by rw [hcs]; simp [Nat.min_comm]
  have hc32 : cs.length ≤ 32 := by rw [hcl]; exact Nat.min_le_right _ _
  have hcs1 : ∀ v ∈ cs, v.oneCell' = true := by rw [hcs]; exact one_encs _
  obtain ⟨Y, hY⟩ : ∃ Y, (splice X.toList 2 cs).toArray = Y := ⟨_, rfl⟩
  have HYS := Lib.hid (show RecS Y from hY ▸ hX.recS.splice cs hc32 hcs1)
  have HYF := Lib.hid (show b.length = 32 → RecF Y 5 s b ⟨#[]⟩ none 0 0 0 0 from fun h => by rw [← hY, hcs, List.take_of_length_le (by omega)]; exact hX.setD h)
  have HY := Lib.hid hY
  have HPOS := Lib.hid (fun hp => rd_cs HR.out cs 32 hcs hp)
  have HGL := Lib.hid (show w1.heap[w.heap.size]? = some (.cells X.toList.toArray 27 (0, 0)) from HG.out)
  have hXL : X.toList.length = 38 := by rw [Array.length_toList]; exact hX.size
  have hfit : 2 + cs.length ≤ X.toList.length := by omega
  have HC1 := Lib.hid hcs1
  have HCL := Lib.hid hcl
  have HYI := Lib.hid HYS.out.info
  have HYZ := Lib.hid (show zRec.size = Y.size from zRecF.size.trans HYS.out.size.symm)
  have HY1 := Lib.hid HYS.out.one
  clear hcs hcs1 hcl hX hY hr0
  by_cases h32 : b.length = 32
  · have HE := Lib.hid (show okF 5 b = true from decide_eq_true h32)
    have HQF := Lib.hid (HYF.out h32)
    have e32 : ((b.length : Int) == 32) = true := by rw [h32]; rfl
    clear h32 HYF
    go_enter Try.func44, Try.ntmps44
    go_wp2_with (first | (refine wpList_allocZ rfl 27 rfl zRec zeroRec ?_) | ((with_reducible refine gate_ (.call { callee := .builtin .copy, args := #[.tmp 44, .tmp 45], argTypes := #[22, 22] }) rfl ?_); refine wpList_copyU rfl (.tmp 44) (.tmp 45) 22 22 rfl 5 undB hsz8 (some ⟨w.heap.size, 2, none⟩) A 32 32 b.length c rfl rfl w.heap.size 2 X.toList 27 HGL.out cs HCL.out (fun hp => ⟨rfl, HPOS.out hp⟩) hfit HC1.out ?_; intro w2 hu; rw [HY.out] at hu; have HG2 := Lib.hid hu.at_; have HZ2 := Lib.hid ((hu.off (w.heap.size + 1) (by omega)).trans HZ.out); have HB2 := Lib.hid (hu.to (Nat.le_refl _) HB0.out); clear hu) | (refine wpList_load_row rfl 27 _ rfl w.heap.size rfl 27 Y (0, 0) _ HG2.out Try.underlying27 rfl HYI.out ?_) | (refine wpList_store_row rfl 27 (.tmp 4) (.tmp 47) rfl (w.heap.size + 1) Y rfl rfl 27 zRec HZ2.out HYI.out HYZ.out HY1.out ?_; obtain ⟨w3, hw3⟩ : ∃ w', World.setRow w2 (w.heap.size + 1) Y = w' := ⟨_, rfl⟩; have HEW3 := Lib.hid hw3; have hu := upd_row HZ2.out Y; rw [hw3] at hu ⊢; have HF3 := Lib.hid hu.at_; have HBF3 := Lib.hid (hu.to (Nat.le_succ _) HB2.out); clear hu hw3))
    refine bodyPost_ret_by (results_ct rfl _ _ (w.heap.size + 1) _ Y (0, 0) _ rfl HF3.out Try.underlying27 rfl HYI.out) rfl ?_
    exact .inl ⟨HE.out, Y, none, 0, rfl, HQF.out, Buf.nil _ _, HBF3.out⟩
  · have HE := Lib.hid (show okF 5 b = false from decide_eq_false h32)
    have e32 : ((b.length : Int) == 32) = false := by rw [beq_eq_false_iff_ne]; omega
    clear h32 HYF
    go_enter Try.func44, Try.ntmps44
    go_wp2_with (first | (refine wpList_allocZ rfl 27 rfl zRec zeroRec ?_) | ((with_reducible refine gate_ (.call { callee := .builtin .copy, args := #[.tmp 44, .tmp 45], argTypes := #[22, 22] }) rfl ?_); refine wpList_copyU rfl (.tmp 44) (.tmp 45) 22 22 rfl 5 undB hsz8 (some ⟨w.heap.size, 2, none⟩) A 32 32 b.length c rfl rfl w.heap.size 2 X.toList 27 HGL.out cs HCL.out (fun hp => ⟨rfl, HPOS.out hp⟩) hfit HC1.out ?_; intro w2 hu; rw [HY.out] at hu; have HG2 := Lib.hid hu.at_; have HZ2 := Lib.hid ((hu.off (w.heap.size + 1) (by omega)).trans HZ.out); have HB2 := Lib.hid (hu.to (Nat.le_refl _) HB0.out); clear hu) | (refine wpList_load_row rfl 27 _ rfl w.heap.size rfl 27 Y (0, 0) _ HG2.out Try.underlying27 rfl HYI.out ?_) | (refine wpList_store_row rfl 27 (.tmp 4) (.tmp 47) rfl (w.heap.size + 1) Y rfl rfl 27 zRec HZ2.out HYI.out HYZ.out HY1.out ?_; obtain ⟨w3, hw3⟩ : ∃ w', World.setRow w2 (w.heap.size + 1) Y = w' := ⟨_, rfl⟩; have HEW3 := Lib.hid hw3; have hu := upd_row HZ2.out Y; rw [hw3] at hu ⊢; have HF3 := Lib.hid hu.at_; have HBF3 := Lib.hid (hu.to (Nat.le_succ _) HB2.out); clear hu hw3))
    refine bodyPost_ret_by (results_ct rfl _ _ (w.heap.size + 1) _ Y (0, 0) _ rfl HF3.out Try.underlying27 rfl HYI.out) rfl ?_
    exact .inr ⟨HE.out, Y, rfl, HYS.out, HBF3.out⟩
set_option maxRecDepth 100000 in
set_option maxHeartbeats 3200000 in
theorem fill4 (X : Array Value) (s : Nat) (A : Option Addr) (c : Nat) (b : List UInt8) (w : World) (hX : RecF X 4 s z32 ⟨#[]⟩ none 0 0 0 0) (hr : Rd w A b) (hl : b.length ≤ 65536) (hc : b.length ≤ c) :
    Calls Try.prog 44 #[.agg X, .slice A b.length c] w (FillE 4 s b w) := by
  have h0 := hX.c0
  obtain ⟨w1, hw1⟩ : ∃ w1, (w.alloc (.cells X 27)).alloc (.cells zRec 27) = w1 := ⟨_, rfl⟩
  obtain ⟨hg, hz, hb0⟩ := run_blk2 w X zRec 27 27
  rw [hw1] at hg hz hb0
  have HR := Lib.hid (hr.below hb0)
  have HG := Lib.hid hg
  have HZ := Lib.hid hz
  have HB0 := Lib.hid hb0
  have hcc := fun i => blk_cell HG.out i
  have hz1 := blk_lt HG.out
  have hz2 := blk_lt HZ.out
  have hr0 := hr
  clear hr hg hz hb0
  have h34 := hX.c34
  have hff := fun i => blk_frozen HG.out i
  have HTT := Lib.hid (show Calls Try.prog 65 #[.slice A b.length c, .int .i64 0] w1 (Still (.tuple #[.string (textS b 0), .int .i64 (textEnd b 0), .bool (textOk b 0)]) w1) from takeText_any A c b 0 w1 (by omega) hc HR.out)
  cases hok : textOk b 0 with
  | false =>
    have HE := Lib.hid (show okF 4 b = false from by show (textOk b 0 && _) = false; rw [hok]; rfl)
    have HYS := Lib.hid hX.recS
    have HXI := Lib.hid HYS.out.info
    have HXZ := Lib.hid (show zRec.size = X.size from zRecF.size.trans HYS.out.size.symm)
    have HX1 := Lib.hid HYS.out.one
    rw [hok] at HTT
    clear hX hok hr0
    go_enter Try.func44, Try.ntmps44
    go_wp2_with (refine wpList_allocZ rfl 27 rfl zRec zeroRec ?_)
    refine HTT.out.mono ?_
    rintro e w2 ⟨rfl, hw2⟩
    rw [hw2]
    clear hw2 w2
    clear hw1
    go_wp2_with (first | (refine wpList_load_row rfl 27 _ rfl w.heap.size rfl 27 X (0, 0) _ HG.out Try.underlying27 rfl HXI.out ?_) | (refine wpList_store_row rfl 27 (.tmp 4) (.tmp 30) rfl (w.heap.size + 1) X rfl rfl 27 zRec HZ.out HXI.out HXZ.out HX1.out ?_; obtain ⟨w3, hw3⟩ : ∃ w', World.setRow w1 (w.heap.size + 1) X = w' := ⟨_, rfl⟩; have HEW3 := Lib.hid hw3; have hu := upd_row HZ.out X; rw [hw3] at hu ⊢; have HF3 := Lib.hid hu.at_; have HBF3 := Lib.hid (hu.to (Nat.le_succ _) HB0.out); clear hu hw3))
    refine bodyPost_ret_by (results_ct rfl _ _ (w.heap.size + 1) _ X (0, 0) _ rfl HF3.out Try.underlying27 rfl HXI.out) rfl ?_
    exact .inr ⟨HE.out, X, rfl, HYS.out, HBF3.out⟩
  | true =>
    have hte := textEnd_in hok
    obtain ⟨A', y, c', hy, hcut, hrd, hyc, hyl⟩ := cutF (A := A) (l := b) (c := c) (textEnd b 0) hte.1 hte.2 hc
    rw [← show restL b = b.drop (textEnd b 0).toNat from rfl] at hy
    have HY0 := Lib.hid hy.out
    obtain ⟨X2, hX2⟩ : ∃ X2, X.setIfInBounds 34 (.string (textS b 0)) = X2 := ⟨_, rfl⟩
    have HX2F := Lib.hid (show RecF X2 4 s z32 (textS b 0) none 0 0 0 0 from hX2 ▸ hX.setName _)
    have HRY := Lib.hid (hrd w1 HR.out)
    have hu := (upd_cell (w := w1) (T := 27) (X := X) HG.out 34 (.string (textS b 0))).drew
    rw [hX2] at hu
    obtain ⟨w2, hw2⟩ : ∃ w2, (w1.setCell ⟨w.heap.size, 34, none⟩ (.string (textS b 0))).drew = w2 := ⟨_, rfl⟩
    rw [hw2] at hu
    have HG2 := Lib.hid hu.at_
    have HZ2 := Lib.hid ((hu.off (w.heap.size + 1) (by omega)).trans HZ.out)
    have HB2 := Lib.hid (hu.to (Nat.le_refl _) HB0.out)
    have HR2 := Lib.hid (show Rd w2 A' y from hrd w2 (Rd.below (w := w) hr0 HB2.out))
    have hcc2 := fun i => blk_cell HG2.out i
    have k0 := HX2F.out.c0
    have HTO := Lib.hid hok
    have HX2 := Lib.hid hX2
    rw [hok] at HTT
    generalize htS : textS b 0 = nm at *
    generalize textEnd b 0 = en at *
    have HW2 := Lib.hid hw2
    have HYS := Lib.hid HX2F.out.recS
    have HXI := Lib.hid HYS.out.info
    have HXZ := Lib.hid (show zRec.size = X2.size from zRecF.size.trans HYS.out.size.symm)
    have HX1 := Lib.hid HYS.out.one
    have HNM := Lib.hid (show nmF 4 b = nm from htS)
    clear hX hX2 htS hu hy hrd hr0 hw2 hyl
    by_cases h0l : y.length = 0
    · have HE := Lib.hid (show okF 4 b = true from by show (textOk b 0 && decide ((restL b).length = 0)) = true; rw [HTO.out, ← HY0.out, decide_eq_true h0l]; rfl)
      have e0 : ((y.length : Int) == 0) = true := by rw [h0l]; rfl
      clear h0l
      go_enter Try.func44, Try.ntmps44
      go_wp2_with (refine wpList_allocZ rfl 27 rfl zRec zeroRec ?_)
      refine HTT.out.mono ?_
      rintro e w3 ⟨rfl, hw3⟩
      rw [hw3]
      clear hw3 w3
      clear hw1
      go_wp2_with fail
      refine wp_region_held_drew (S := fun _ => True) (by kernel_rfl) trivial (fun hHeld => ?_)
      refine wpAnyH_take (i := 0) (v := _) rfl (by kernel_rfl) (by kernel_rfl) (by kernel_rfl) (fun _ _ _ h => h) (Or.inl ⟨by kernel_rfl, fun w _ => by go_simp <;> with_reducible rfl⟩) hHeld ?_
      simp only [List.getElem_toArray, List.getElem_cons_succ, List.getElem_cons_zero, Act.put, List.setIfInBounds_toArray, List.set_cons_zero, List.set_cons_succ]
      refine wpAnyH_take (i := 1) (v := _) rfl (by kernel_rfl) (by kernel_rfl) (by kernel_rfl) (fun _ _ _ h => h) (Or.inl ⟨by kernel_rfl, fun w _ => by go_simp <;> with_reducible rfl⟩) hHeld ?_
      simp only [List.getElem_toArray, List.getElem_cons_succ, List.getElem_cons_zero, Act.put, List.setIfInBounds_toArray, List.set_cons_zero, List.set_cons_succ]
      refine wpAnyH_take (i := 2) (v := _) rfl (by kernel_rfl) (by kernel_rfl) (by kernel_rfl) (fun _ _ _ h => h) (Or.inl ⟨by kernel_rfl, fun w _ => by go_simp <;> with_reducible rfl⟩) hHeld ?_
      simp only [List.getElem_toArray, List.getElem_cons_succ, List.getElem_cons_zero, Act.put, List.setIfInBounds_toArray, List.set_cons_zero, List.set_cons_succ]
      refine wpAnyH_take (i := 3) (v := _) rfl (by kernel_rfl) (by kernel_rfl) (by kernel_rfl) (fun _ _ _ h => h) (Or.inl ⟨by kernel_rfl, fun w _ => by go_simp <;> with_reducible rfl⟩) hHeld ?_
      simp only [List.getElem_toArray, List.getElem_cons_succ, List.getElem_cons_zero, Act.put, List.setIfInBounds_toArray, List.set_cons_zero, List.set_cons_succ]
      refine wpAnyH_take (i := 4) (v := _) rfl (by kernel_rfl) (by kernel_rfl) (by kernel_rfl) (fun _ _ _ h => h) (Or.inl ⟨by kernel_rfl, fun w _ => by go_simp <;> with_reducible rfl⟩) hHeld ?_
      simp only [List.getElem_toArray, List.getElem_cons_succ, List.getElem_cons_zero, Act.put, List.setIfInBounds_toArray, List.set_cons_zero, List.set_cons_succ]
      refine wpAnyH_ready (rs := [5]) (by kernel_rfl) (by simp) ?_
      refine AllReadyH.cons rfl (fun K hK => ?_) AllReadyH.nil
      go_simp
      refine hK.out _ _ trivial (fun hHeld => ?_)
      clear hK K
      try simp only [List.getElem_toArray, List.getElem_cons_succ, List.getElem_cons_zero, Act.put, List.setIfInBounds_toArray, List.set_cons_zero, List.set_cons_succ]
      refine wpAnyH_take (i := 6) (v := _) rfl (by kernel_rfl) (by kernel_rfl) (by kernel_rfl) (fun _ _ _ h => h) (Or.inl ⟨by kernel_rfl, fun w _ => by go_simp <;> with_reducible rfl⟩) hHeld ?_
      simp only [List.getElem_toArray, List.getElem_cons_succ, List.getElem_cons_zero, Act.put, List.setIfInBounds_toArray, List.set_cons_zero, List.set_cons_succ]
      refine wpAnyH_done (by kernel_rfl) ?_ _
      rw [HW2.out]
      go_wp2_with (first | (refine wpList_load_row rfl 27 _ rfl w.heap.size rfl 27 X2 (0, 0) _ HG2.out Try.underlying27 rfl HXI.out ?_) | (refine wpList_store_row rfl 27 (.tmp 4) (.tmp 39) rfl (w.heap.size + 1) X2 rfl rfl 27 zRec HZ2.out HXI.out HXZ.out HX1.out ?_; obtain ⟨w3, hw3⟩ : ∃ w', World.setRow w2 (w.heap.size + 1) X2 = w' := ⟨_, rfl⟩; have HEW3 := Lib.hid hw3; have hu := upd_row HZ2.out X2; rw [hw3] at hu ⊢; have HF3 := Lib.hid hu.at_; have HBF3 := Lib.hid (hu.to (Nat.le_succ _) HB2.out); clear hu hw3))
      refine bodyPost_ret_by (results_ct rfl _ _ (w.heap.size + 1) _ X2 (0, 0) _ rfl HF3.out Try.underlying27 rfl HXI.out) rfl ?_
      refine .inl ⟨HE.out, X2, none, 0, rfl, ?_, Buf.nil _ _, HBF3.out⟩
      rw [HNM.out]
      exact HX2F.out
    · have HE := Lib.hid (show okF 4 b = false from by show (textOk b 0 && decide ((restL b).length = 0)) = false; rw [HTO.out, ← HY0.out, decide_eq_false h0l]; rfl)
      have e0 : ((y.length : Int) == 0) = false := by rw [beq_eq_false_iff_ne]; omega
      clear h0l
      go_enter Try.func44, Try.ntmps44
      go_wp2_with (refine wpList_allocZ rfl 27 rfl zRec zeroRec ?_)
      refine HTT.out.mono ?_
      rintro e w3 ⟨rfl, hw3⟩
      rw [hw3]
      clear hw3 w3
      clear hw1
      go_wp2_with fail
      refine wp_region_held_drew (S := fun _ => True) (by kernel_rfl) trivial (fun hHeld => ?_)
      refine wpAnyH_take (i := 0) (v := _) rfl (by kernel_rfl) (by kernel_rfl) (by kernel_rfl) (fun _ _ _ h => h) (Or.inl ⟨by kernel_rfl, fun w _ => by go_simp <;> with_reducible rfl⟩) hHeld ?_
      simp only [List.getElem_toArray, List.getElem_cons_succ, List.getElem_cons_zero, Act.put, List.setIfInBounds_toArray, List.set_cons_zero, List.set_cons_succ]
      refine wpAnyH_take (i := 1) (v := _) rfl (by kernel_rfl) (by kernel_rfl) (by kernel_rfl) (fun _ _ _ h => h) (Or.inl ⟨by kernel_rfl, fun w _ => by go_simp <;> with_reducible rfl⟩) hHeld ?_
      simp only [List.getElem_toArray, List.getElem_cons_succ, List.getElem_cons_zero, Act.put, List.setIfInBounds_toArray, List.set_cons_zero, List.set_cons_succ]
      refine wpAnyH_take (i := 2) (v := _) rfl (by kernel_rfl) (by kernel_rfl) (by kernel_rfl) (fun _ _ _ h => h) (Or.inl ⟨by kernel_rfl, fun w _ => by go_simp <;> with_reducible rfl⟩) hHeld ?_
      simp only [List.getElem_toArray, List.getElem_cons_succ, List.getElem_cons_zero, Act.put, List.setIfInBounds_toArray, List.set_cons_zero, List.set_cons_succ]
      refine wpAnyH_take (i := 3) (v := _) rfl (by kernel_rfl) (by kernel_rfl) (by kernel_rfl) (fun _ _ _ h => h) (Or.inl ⟨by kernel_rfl, fun w _ => by go_simp <;> with_reducible rfl⟩) hHeld ?_
      simp only [List.getElem_toArray, List.getElem_cons_succ, List.getElem_cons_zero, Act.put, List.setIfInBounds_toArray, List.set_cons_zero, List.set_cons_succ]
      refine wpAnyH_take (i := 4) (v := _) rfl (by kernel_rfl) (by kernel_rfl) (by kernel_rfl) (fun _ _ _ h => h) (Or.inl ⟨by kernel_rfl, fun w _ => by go_simp <;> with_reducible rfl⟩) hHeld ?_
      simp only [List.getElem_toArray, List.getElem_cons_succ, List.getElem_cons_zero, Act.put, List.setIfInBounds_toArray, List.set_cons_zero, List.set_cons_succ]
      refine wpAnyH_ready (rs := [5]) (by kernel_rfl) (by simp) ?_
      refine AllReadyH.cons rfl (fun K hK => ?_) AllReadyH.nil
      go_simp
      refine hK.out _ _ trivial (fun hHeld => ?_)
      clear hK K
      try simp only [List.getElem_toArray, List.getElem_cons_succ, List.getElem_cons_zero, Act.put, List.setIfInBounds_toArray, List.set_cons_zero, List.set_cons_succ]
      refine wpAnyH_take (i := 6) (v := _) rfl (by kernel_rfl) (by kernel_rfl) (by kernel_rfl) (fun _ _ _ h => h) (Or.inl ⟨by kernel_rfl, fun w _ => by go_simp <;> with_reducible rfl⟩) hHeld ?_
      simp only [List.getElem_toArray, List.getElem_cons_succ, List.getElem_cons_zero, Act.put, List.setIfInBounds_toArray, List.set_cons_zero, List.set_cons_succ]
      refine wpAnyH_done (by kernel_rfl) ?_ _
      rw [HW2.out]
      go_wp2_with (first | (refine wpList_load_row rfl 27 _ rfl w.heap.size rfl 27 X2 (0, 0) _ HG2.out Try.underlying27 rfl HXI.out ?_) | (refine wpList_store_row rfl 27 (.tmp 4) (.tmp 39) rfl (w.heap.size + 1) X2 rfl rfl 27 zRec HZ2.out HXI.out HXZ.out HX1.out ?_; obtain ⟨w3, hw3⟩ : ∃ w', World.setRow w2 (w.heap.size + 1) X2 = w' := ⟨_, rfl⟩; have HEW3 := Lib.hid hw3; have hu := upd_row HZ2.out X2; rw [hw3] at hu ⊢; have HF3 := Lib.hid hu.at_; have HBF3 := Lib.hid (hu.to (Nat.le_succ _) HB2.out); clear hu hw3))
      refine bodyPost_ret_by (results_ct rfl _ _ (w.heap.size + 1) _ X2 (0, 0) _ rfl HF3.out Try.underlying27 rfl HXI.out) rfl ?_
      exact .inr ⟨HE.out, X2, rfl, HYS.out, HBF3.out⟩
set_option maxRecDepth 100000 in
set_option maxHeartbeats 3200000 in
theorem fill3 (X : Array Value) (s : Nat) (A : Option Addr) (c : Nat) (b : List UInt8) (w : World) (hX : RecF X 3 s z32 ⟨#[]⟩ none 0 0 0 0) (hr : Rd w A b) (hl : b.length ≤ 65536) (hc : b.length ≤ c) :
    Calls Try.prog 44 #[.agg X, .slice A b.length c] w (FillE 3 s b w) := by
  have h0 := hX.c0
  obtain ⟨w1, hw1⟩ : ∃ w1, (w.alloc (.cells X 27)).alloc (.cells zRec 27) = w1 := ⟨_, rfl⟩
  obtain ⟨hg, hz, hb0⟩ := run_blk2 w X zRec 27 27
  rw [hw1] at hg hz hb0
  have HR := Lib.hid (hr.below hb0)
  have HG := Lib.hid hg
  have HZ := Lib.hid hz
  have HB0 := Lib.hid hb0
  have hcc := fun i => blk_cell HG.out i
  have hz1 := blk_lt HG.out
  have hz2 := blk_lt HZ.out
  have hr0 := hr
  clear hr hg hz hb0
  have h34 := hX.c34
  have hff := fun i => blk_frozen HG.out i
  have HTT := Lib.hid (show Calls Try.prog 65 #[.slice A b.length c, .int .i64 0] w1 (Still (.tuple #[.string (textS b 0), .int .i64 (textEnd b 0), .bool (textOk b 0)]) w1) from takeText_any A c b 0 w1 (by omega) hc HR.out)
  cases hok : textOk b 0 with
  | false =>
    have HE := Lib.hid (show okF 3 b = false from by show (textOk b 0 && _) = false; rw [hok]; rfl)
    have HYS := Lib.hid hX.recS
    have HXI := Lib.hid HYS.out.info
    have HXZ := Lib.hid (show zRec.size = X.size from zRecF.size.trans HYS.out.size.symm)
    have HX1 := Lib.hid HYS.out.one
    rw [hok] at HTT
    clear hX hok hr0
    go_enter Try.func44, Try.ntmps44
    go_wp2_with (refine wpList_allocZ rfl 27 rfl zRec zeroRec ?_)
    refine HTT.out.mono ?_
    rintro e w2 ⟨rfl, hw2⟩
    rw [hw2]
    clear hw2 w2
    clear hw1
    go_wp2_with (first | (refine wpList_load_row rfl 27 _ rfl w.heap.size rfl 27 X (0, 0) _ HG.out Try.underlying27 rfl HXI.out ?_) | (refine wpList_store_row rfl 27 (.tmp 4) (.tmp 30) rfl (w.heap.size + 1) X rfl rfl 27 zRec HZ.out HXI.out HXZ.out HX1.out ?_; obtain ⟨w3, hw3⟩ : ∃ w', World.setRow w1 (w.heap.size + 1) X = w' := ⟨_, rfl⟩; have HEW3 := Lib.hid hw3; have hu := upd_row HZ.out X; rw [hw3] at hu ⊢; have HF3 := Lib.hid hu.at_; have HBF3 := Lib.hid (hu.to (Nat.le_succ _) HB0.out); clear hu hw3))
    refine bodyPost_ret_by (results_ct rfl _ _ (w.heap.size + 1) _ X (0, 0) _ rfl HF3.out Try.underlying27 rfl HXI.out) rfl ?_
    exact .inr ⟨HE.out, X, rfl, HYS.out, HBF3.out⟩
  | true =>
    have hte := textEnd_in hok
    obtain ⟨A', y, c', hy, hcut, hrd, hyc, hyl⟩ := cutF (A := A) (l := b) (c := c) (textEnd b 0) hte.1 hte.2 hc
    rw [← show restL b = b.drop (textEnd b 0).toNat from rfl] at hy
    have HY0 := Lib.hid hy.out
    obtain ⟨X2, hX2⟩ : ∃ X2, X.setIfInBounds 34 (.string (textS b 0)) = X2 := ⟨_, rfl⟩
    have HX2F := Lib.hid (show RecF X2 3 s z32 (textS b 0) none 0 0 0 0 from hX2 ▸ hX.setName _)
    have HRY := Lib.hid (hrd w1 HR.out)
    have hu := (upd_cell (w := w1) (T := 27) (X := X) HG.out 34 (.string (textS b 0))).drew
    rw [hX2] at hu
    obtain ⟨w2, hw2⟩ : ∃ w2, (w1.setCell ⟨w.heap.size, 34, none⟩ (.string (textS b 0))).drew = w2 := ⟨_, rfl⟩
    rw [hw2] at hu
    have HG2 := Lib.hid hu.at_
    have HZ2 := Lib.hid ((hu.off (w.heap.size + 1) (by omega)).trans HZ.out)
    have HB2 := Lib.hid (hu.to (Nat.le_refl _) HB0.out)
    have HR2 := Lib.hid (show Rd w2 A' y from hrd w2 (Rd.below (w := w) hr0 HB2.out))
    have hcc2 := fun i => blk_cell HG2.out i
    have k0 := HX2F.out.c0
    have HTO := Lib.hid hok
    have HX2 := Lib.hid hX2
    rw [hok] at HTT
    generalize htS : textS b 0 = nm at *
    generalize textEnd b 0 = en at *
    have HW2 := Lib.hid hw2
    obtain ⟨cs, hcs⟩ : ∃ cs, cs = (y.take 32).map encB := ⟨_, rfl⟩
    have hcl : cs.length = Nat.min y.length 32 := by rw [hcs]; simp [Nat.min_comm]
    have hc32 : cs.length ≤ 32 := by rw [hcl]; exact Nat.min_le_right _ _
    have hcs1 : ∀ v ∈ cs, v.oneCell' = true := by rw [hcs]; exact one_encs _
    obtain ⟨Y, hY⟩ : ∃ Y, (splice X2.toList 2 cs).toArray = Y := ⟨_, rfl⟩
    have HYS := Lib.hid (show RecS Y from hY ▸ HX2F.out.recS.splice cs hc32 hcs1)
    have HYF := Lib.hid (show y.length = 32 → RecF Y 3 s y nm none 0 0 0 0 from fun h => by rw [← hY, hcs, List.take_of_length_le (by omega)]; exact HX2F.out.setD h)
    have HY := Lib.hid hY
    have HPOS := Lib.hid (fun hp => rd_cs HR2.out cs 32 hcs hp)
    have HGL := Lib.hid (show w2.heap[w.heap.size]? = some (.cells X2.toList.toArray 27 (0, 0)) from HG2.out)
    have hXL : X2.toList.length = 38 := by rw [Array.length_toList]; exact HX2F.out.size
    have hfit : 2 + cs.length ≤ X2.toList.length := by omega
    have HC1 := Lib.hid hcs1
    have HCL := Lib.hid hcl
    have HYI := Lib.hid HYS.out.info
    have HYZ := Lib.hid (show zRec.size = Y.size from zRecF.size.trans HYS.out.size.symm)
    have HY1 := Lib.hid HYS.out.one
    clear hcs hcs1 hcl hY
    have HNM := Lib.hid (show nmF 3 b = nm from htS)
    clear hX hX2 htS hu hy hrd hr0 hw2 hyl
    by_cases h32 : y.length = 32
    · have HE := Lib.hid (show okF 3 b = true from by show (textOk b 0 && decide ((restL b).length = 32)) = true; rw [HTO.out, ← HY0.out, decide_eq_true h32]; rfl)
      have HQF := Lib.hid (HYF.out h32)
      have e0 : ((y.length : Int) == 32) = true := by rw [h32]; rfl
      clear h32 HYF
      go_enter Try.func44, Try.ntmps44
      go_wp2_with (refine wpList_allocZ rfl 27 rfl zRec zeroRec ?_)
      refine HTT.out.mono ?_
      rintro e w3 ⟨rfl, hw3⟩
      rw [hw3]
      clear hw3 w3
      clear hw1
      go_wp2_with fail
      refine wp_region_held_drew (S := fun _ => True) (by kernel_rfl) trivial (fun hHeld => ?_)
      refine wpAnyH_take (i := 0) (v := _) rfl (by kernel_rfl) (by kernel_rfl) (by kernel_rfl) (fun _ _ _ h => h) (Or.inl ⟨by kernel_rfl, fun w _ => by go_simp <;> with_reducible rfl⟩) hHeld ?_
      simp only [List.getElem_toArray, List.getElem_cons_succ, List.getElem_cons_zero, Act.put, List.setIfInBounds_toArray, List.set_cons_zero, List.set_cons_succ]
      refine wpAnyH_take (i := 1) (v := _) rfl (by kernel_rfl) (by kernel_rfl) (by kernel_rfl) (fun _ _ _ h => h) (Or.inl ⟨by kernel_rfl, fun w _ => by go_simp <;> with_reducible rfl⟩) hHeld ?_
      simp only [List.getElem_toArray, List.getElem_cons_succ, List.getElem_cons_zero, Act.put, List.setIfInBounds_toArray, List.set_cons_zero, List.set_cons_succ]
      refine wpAnyH_take (i := 2) (v := _) rfl (by kernel_rfl) (by kernel_rfl) (by kernel_rfl) (fun _ _ _ h => h) (Or.inl ⟨by kernel_rfl, fun w _ => by go_simp <;> with_reducible rfl⟩) hHeld ?_
      simp only [List.getElem_toArray, List.getElem_cons_succ, List.getElem_cons_zero, Act.put, List.setIfInBounds_toArray, List.set_cons_zero, List.set_cons_succ]
      refine wpAnyH_take (i := 3) (v := _) rfl (by kernel_rfl) (by kernel_rfl) (by kernel_rfl) (fun _ _ _ h => h) (Or.inl ⟨by kernel_rfl, fun w _ => by go_simp <;> with_reducible rfl⟩) hHeld ?_
      simp only [List.getElem_toArray, List.getElem_cons_succ, List.getElem_cons_zero, Act.put, List.setIfInBounds_toArray, List.set_cons_zero, List.set_cons_succ]
      refine wpAnyH_take (i := 4) (v := _) rfl (by kernel_rfl) (by kernel_rfl) (by kernel_rfl) (fun _ _ _ h => h) (Or.inl ⟨by kernel_rfl, fun w _ => by go_simp <;> with_reducible rfl⟩) hHeld ?_
      simp only [List.getElem_toArray, List.getElem_cons_succ, List.getElem_cons_zero, Act.put, List.setIfInBounds_toArray, List.set_cons_zero, List.set_cons_succ]
      refine wpAnyH_ready (rs := [5]) (by kernel_rfl) (by simp) ?_
      refine AllReadyH.cons rfl (fun K hK => ?_) AllReadyH.nil
      go_simp
      refine hK.out _ _ trivial (fun hHeld => ?_)
      clear hK K
      try simp only [List.getElem_toArray, List.getElem_cons_succ, List.getElem_cons_zero, Act.put, List.setIfInBounds_toArray, List.set_cons_zero, List.set_cons_succ]
      refine wpAnyH_take (i := 6) (v := _) rfl (by kernel_rfl) (by kernel_rfl) (by kernel_rfl) (fun _ _ _ h => h) (Or.inl ⟨by kernel_rfl, fun w _ => by go_simp <;> with_reducible rfl⟩) hHeld ?_
      simp only [List.getElem_toArray, List.getElem_cons_succ, List.getElem_cons_zero, Act.put, List.setIfInBounds_toArray, List.set_cons_zero, List.set_cons_succ]
      refine wpAnyH_done (by kernel_rfl) ?_ _
      rw [HW2.out]
      go_wp2_with (first | ((with_reducible refine gate_ (.call { callee := .builtin .copy, args := #[.tmp 44, .tmp 45], argTypes := #[22, 22] }) rfl ?_); refine wpList_copyU rfl (.tmp 44) (.tmp 45) 22 22 rfl 5 undB hsz8 (some ⟨w.heap.size, 2, none⟩) A' 32 32 y.length c' rfl rfl w.heap.size 2 X2.toList 27 HGL.out cs HCL.out (fun hp => ⟨rfl, HPOS.out hp⟩) hfit HC1.out ?_; intro w3 hu; rw [HY.out] at hu; have HG3 := Lib.hid hu.at_; have HZ3 := Lib.hid ((hu.off (w.heap.size + 1) (by omega)).trans HZ2.out); have HB3 := Lib.hid (hu.to (Nat.le_refl _) HB2.out); clear hu) | (refine wpList_load_row rfl 27 _ rfl w.heap.size rfl 27 Y (0, 0) _ HG3.out Try.underlying27 rfl HYI.out ?_) | (refine wpList_store_row rfl 27 (.tmp 4) (.tmp 47) rfl (w.heap.size + 1) Y rfl rfl 27 zRec HZ3.out HYI.out HYZ.out HY1.out ?_; obtain ⟨w4, hw4⟩ : ∃ w', World.setRow w3 (w.heap.size + 1) Y = w' := ⟨_, rfl⟩; have HEW4 := Lib.hid hw4; have hu := upd_row HZ3.out Y; rw [hw4] at hu ⊢; have HF4 := Lib.hid hu.at_; have HBF4 := Lib.hid (hu.to (Nat.le_succ _) HB3.out); clear hu hw4))
      refine bodyPost_ret_by (results_ct rfl _ _ (w.heap.size + 1) _ Y (0, 0) _ rfl HF4.out Try.underlying27 rfl HYI.out) rfl ?_
      refine .inl ⟨HE.out, Y, none, 0, rfl, ?_, Buf.nil _ _, HBF4.out⟩
      rw [HNM.out, show dF 3 b = y from HY0.out.symm]
      exact HQF.out
    · have HE := Lib.hid (show okF 3 b = false from by show (textOk b 0 && decide ((restL b).length = 32)) = false; rw [HTO.out, ← HY0.out, decide_eq_false h32]; rfl)
      have e0 : ((y.length : Int) == 32) = false := by rw [beq_eq_false_iff_ne]; omega
      clear h32 HYF
      go_enter Try.func44, Try.ntmps44
      go_wp2_with (refine wpList_allocZ rfl 27 rfl zRec zeroRec ?_)
      refine HTT.out.mono ?_
      rintro e w3 ⟨rfl, hw3⟩
      rw [hw3]
      clear hw3 w3
      clear hw1
      go_wp2_with fail
      refine wp_region_held_drew (S := fun _ => True) (by kernel_rfl) trivial (fun hHeld => ?_)
      refine wpAnyH_take (i := 0) (v := _) rfl (by kernel_rfl) (by kernel_rfl) (by kernel_rfl) (fun _ _ _ h => h) (Or.inl ⟨by kernel_rfl, fun w _ => by go_simp <;> with_reducible rfl⟩) hHeld ?_
      simp only [List.getElem_toArray, List.getElem_cons_succ, List.getElem_cons_zero, Act.put, List.setIfInBounds_toArray, List.set_cons_zero, List.set_cons_succ]
      refine wpAnyH_take (i := 1) (v := _) rfl (by kernel_rfl) (by kernel_rfl) (by kernel_rfl) (fun _ _ _ h => h) (Or.inl ⟨by kernel_rfl, fun w _ => by go_simp <;> with_reducible rfl⟩) hHeld ?_
      simp only [List.getElem_toArray, List.getElem_cons_succ, List.getElem_cons_zero, Act.put, List.setIfInBounds_toArray, List.set_cons_zero, List.set_cons_succ]
      refine wpAnyH_take (i := 2) (v := _) rfl (by kernel_rfl) (by kernel_rfl) (by kernel_rfl) (fun _ _ _ h => h) (Or.inl ⟨by kernel_rfl, fun w _ => by go_simp <;> with_reducible rfl⟩) hHeld ?_
      simp only [List.getElem_toArray, List.getElem_cons_succ, List.getElem_cons_zero, Act.put, List.setIfInBounds_toArray, List.set_cons_zero, List.set_cons_succ]
      refine wpAnyH_take (i := 3) (v := _) rfl (by kernel_rfl) (by kernel_rfl) (by kernel_rfl) (fun _ _ _ h => h) (Or.inl ⟨by kernel_rfl, fun w _ => by go_simp <;> with_reducible rfl⟩) hHeld ?_
      simp only [List.getElem_toArray, List.getElem_cons_succ, List.getElem_cons_zero, Act.put, List.setIfInBounds_toArray, List.set_cons_zero, List.set_cons_succ]
      refine wpAnyH_take (i := 4) (v := _) rfl (by kernel_rfl) (by kernel_rfl) (by kernel_rfl) (fun _ _ _ h => h) (Or.inl ⟨by kernel_rfl, fun w _ => by go_simp <;> with_reducible rfl⟩) hHeld ?_
      simp only [List.getElem_toArray, List.getElem_cons_succ, List.getElem_cons_zero, Act.put, List.setIfInBounds_toArray, List.set_cons_zero, List.set_cons_succ]
      refine wpAnyH_ready (rs := [5]) (by kernel_rfl) (by simp) ?_
      refine AllReadyH.cons rfl (fun K hK => ?_) AllReadyH.nil
      go_simp
      refine hK.out _ _ trivial (fun hHeld => ?_)
      clear hK K
      try simp only [List.getElem_toArray, List.getElem_cons_succ, List.getElem_cons_zero, Act.put, List.setIfInBounds_toArray, List.set_cons_zero, List.set_cons_succ]
      refine wpAnyH_take (i := 6) (v := _) rfl (by kernel_rfl) (by kernel_rfl) (by kernel_rfl) (fun _ _ _ h => h) (Or.inl ⟨by kernel_rfl, fun w _ => by go_simp <;> with_reducible rfl⟩) hHeld ?_
      simp only [List.getElem_toArray, List.getElem_cons_succ, List.getElem_cons_zero, Act.put, List.setIfInBounds_toArray, List.set_cons_zero, List.set_cons_succ]
      refine wpAnyH_done (by kernel_rfl) ?_ _
      rw [HW2.out]
      go_wp2_with (first | ((with_reducible refine gate_ (.call { callee := .builtin .copy, args := #[.tmp 44, .tmp 45], argTypes := #[22, 22] }) rfl ?_); refine wpList_copyU rfl (.tmp 44) (.tmp 45) 22 22 rfl 5 undB hsz8 (some ⟨w.heap.size, 2, none⟩) A' 32 32 y.length c' rfl rfl w.heap.size 2 X2.toList 27 HGL.out cs HCL.out (fun hp => ⟨rfl, HPOS.out hp⟩) hfit HC1.out ?_; intro w3 hu; rw [HY.out] at hu; have HG3 := Lib.hid hu.at_; have HZ3 := Lib.hid ((hu.off (w.heap.size + 1) (by omega)).trans HZ2.out); have HB3 := Lib.hid (hu.to (Nat.le_refl _) HB2.out); clear hu) | (refine wpList_load_row rfl 27 _ rfl w.heap.size rfl 27 Y (0, 0) _ HG3.out Try.underlying27 rfl HYI.out ?_) | (refine wpList_store_row rfl 27 (.tmp 4) (.tmp 47) rfl (w.heap.size + 1) Y rfl rfl 27 zRec HZ3.out HYI.out HYZ.out HY1.out ?_; obtain ⟨w4, hw4⟩ : ∃ w', World.setRow w3 (w.heap.size + 1) Y = w' := ⟨_, rfl⟩; have HEW4 := Lib.hid hw4; have hu := upd_row HZ3.out Y; rw [hw4] at hu ⊢; have HF4 := Lib.hid hu.at_; have HBF4 := Lib.hid (hu.to (Nat.le_succ _) HB3.out); clear hu hw4))
      refine bodyPost_ret_by (results_ct rfl _ _ (w.heap.size + 1) _ Y (0, 0) _ rfl HF4.out Try.underlying27 rfl HYI.out) rfl ?_
      exact .inr ⟨HE.out, Y, rfl, HYS.out, HBF4.out⟩
set_option maxRecDepth 100000 in
set_option maxHeartbeats 3200000 in
theorem fill1 (X : Array Value) (s : Nat) (A : Option Addr) (c : Nat) (b : List UInt8) (w : World) (hX : RecF X 1 s z32 ⟨#[]⟩ none 0 0 0 0) (hr : Rd w A b) (hl : b.length ≤ 65536) (hc : b.length ≤ c) :
    Calls Try.prog 44 #[.agg X, .slice A b.length c] w (FillE 1 s b w) := by
  have h0 := hX.c0
  obtain ⟨w1, hw1⟩ : ∃ w1, (w.alloc (.cells X 27)).alloc (.cells zRec 27) = w1 := ⟨_, rfl⟩
  obtain ⟨hg, hz, hb0⟩ := run_blk2 w X zRec 27 27
  rw [hw1] at hg hz hb0
  have HR := Lib.hid (hr.below hb0)
  have HG := Lib.hid hg
  have HZ := Lib.hid hz
  have HB0 := Lib.hid hb0
  have hcc := fun i => blk_cell HG.out i
  have hz1 := blk_lt HG.out
  have hz2 := blk_lt HZ.out
  have hr0 := hr
  clear hr hg hz hb0
  obtain ⟨cs, hcs⟩ : ∃ cs, cs = (b.take 32).map encB := ⟨_, rfl⟩
  have hcl : cs.length = Nat.min b.length 32 := by rw [hcs]; simp [Nat.min_comm]
  have hc32 : cs.length ≤ 32 := by rw [hcl]; exact Nat.min_le_right _ _
  have hcs1 : ∀ v ∈ cs, v.oneCell' = true := by rw [hcs]; exact one_encs _
  obtain ⟨Y, hY⟩ : ∃ Y, (splice X.toList 2 cs).toArray = Y := ⟨_, rfl⟩
  have HYS := Lib.hid (show RecS Y from hY ▸ hX.recS.splice cs hc32 hcs1)
  have HYF := Lib.hid (show 32 ≤ b.length → RecF Y 1 s (b.take 32) ⟨#[]⟩ none 0 0 0 0 from fun h => by rw [← hY, hcs]; exact hX.setD (by rw [List.length_take]; omega))
  have HY := Lib.hid hY
  have HPOS := Lib.hid (fun hp => rd_cs HR.out cs 32 hcs hp)
  have HGL := Lib.hid (show w1.heap[w.heap.size]? = some (.cells X.toList.toArray 27 (0, 0)) from HG.out)
  have hXL : X.toList.length = 38 := by rw [Array.length_toList]; exact hX.size
  have hfit : 2 + cs.length ≤ X.toList.length := by omega
  have HC1 := Lib.hid hcs1
  have HCL := Lib.hid hcl
  have HYI := Lib.hid HYS.out.info
  have HYZ := Lib.hid (show zRec.size = Y.size from zRecF.size.trans HYS.out.size.symm)
  have HY1 := Lib.hid HYS.out.one
  clear hcs hcs1 hcl hY
  obtain ⟨m, hm⟩ : ∃ m, Nat.min b.length 32 = m := ⟨_, rfl⟩
  have hm2 : m ≤ b.length ∧ m ≤ 32 := by rw [← hm]; exact ⟨Nat.min_le_left _ _, Nat.min_le_right _ _⟩
  obtain ⟨A', y, c', hy, hcut, hrd, hyc, hyl⟩ := cutF (A := A) (l := b) (c := c) (m : Int) (by omega) (by omega) hc
  have HCM := Lib.hid (HCL.out.trans hm)
  rw [Int.toNat_natCast] at hy
  have hyb : y.length ≤ 140737488355328 := by omega
  have HY0 := Lib.hid (show 32 ≤ b.length → y = b.drop 32 from fun h => by rw [hy.out, ← hm, show b.length.min 32 = 32 from Nat.min_eq_right h])
  have HRY := Lib.hid (fun (W : World) (h : Below w.heap.size w W) => hrd W (Rd.below (w := w) hr0 h))
  have HCLN := Lib.hid (fun (W : World) (h : Below w.heap.size w W) => Cl.clone_any A' c' y W hyb (hrd W (Rd.below (w := w) hr0 h)))
  clear hX hy hrd hr0 hyl
  by_cases h32 : 32 ≤ b.length
  · have HE := Lib.hid (show okF 1 b = true from decide_eq_true h32)
    have HQF := Lib.hid (HYF.out h32)
    have HYD := Lib.hid (HY0.out h32)
    have e0 : ((m : Int) == 32) = true := by rw [ ← hm, show b.length.min 32 = 32 from Nat.min_eq_right h32]; rfl
    have hcm : ((cs.length : Nat) : Int) = (m : Int) := by rw [HCM.out]
    clear h32 HYF HY0 hm
    go_enter Try.func44, Try.ntmps44
    go_wp2_with (first | (refine wpList_allocZ rfl 27 rfl zRec zeroRec ?_) | ((with_reducible refine gate_ (.call { callee := .builtin .copy, args := #[.tmp 52, .tmp 53], argTypes := #[22, 22] }) rfl ?_); refine wpList_copyU rfl (.tmp 52) (.tmp 53) 22 22 rfl 5 undB hsz8 (some ⟨w.heap.size, 2, none⟩) A 32 32 b.length c rfl rfl w.heap.size 2 X.toList 27 HGL.out cs HCL.out (fun hp => ⟨rfl, HPOS.out hp⟩) hfit HC1.out ?_; intro w2 hu; rw [HY.out] at hu; have HG2 := Lib.hid hu.at_; have HZ2 := Lib.hid ((hu.off (w.heap.size + 1) (by omega)).trans HZ.out); have HB2 := Lib.hid (hu.to (Nat.le_refl _) HB0.out); clear hu))
    refine (HCLN.out w2 HB2.out).mono ?_
    rintro e w3 ⟨v3, rfl, ho, hb⟩
    obtain ⟨A3, c3, rfl, hc3, -⟩ := ho.reads
    have HG3 := Lib.hid (blk_below HG2.out hb)
    have HZ3 := Lib.hid (blk_below HZ2.out hb)
    have HB3 := Lib.hid (below_step' HB2.out hb)
    have HO3 := Lib.hid (show Buf w3 w.heap.size (.slice A3 y.length c3) y from (Buf.of_own ho).lower HB2.out.size)
    have hcc3 := fun i => blk_cell HG3.out i
    have hff3 := fun i => blk_frozen HG3.out i
    obtain ⟨v35, h35⟩ := HYS.out.cell (j := 35) (by decide)
    obtain ⟨Z, hZ⟩ : ∃ Z, Y.setIfInBounds 35 (.slice A3 y.length c3) = Z := ⟨_, rfl⟩
    have hu := upd_cell HG3.out 35 (.slice A3 y.length c3)
    obtain ⟨w4, hw4⟩ : ∃ w4, w3.setCell ⟨w.heap.size, 35, none⟩ (.slice A3 y.length c3) = w4 := ⟨_, rfl⟩
    rw [hZ, hw4] at hu
    have HG4 := Lib.hid hu.at_
    have HZ4 := Lib.hid ((hu.off (w.heap.size + 1) (by omega)).trans HZ3.out)
    have HB4 := Lib.hid (hu.to (Nat.le_refl _) HB3.out)
    have HO4 := Lib.hid (Rc.Buf.upd HO3.out hu HG3.out (by decide))
    have HZS := Lib.hid (show RecS Z from hZ ▸ HYS.out.set 35 _ rfl)
    have HZF := Lib.hid (show RecF Z 1 s (b.take 32) ⟨#[]⟩ A3 y.length c3 0 0 from hZ ▸ HQF.out.setData A3 y.length c3)
    have HQI := Lib.hid HZS.out.info
    have HQZ := Lib.hid (show zRec.size = Z.size from zRecF.size.trans HZS.out.size.symm)
    have HQ1 := Lib.hid HZS.out.one
    have HO5 := Lib.hid (Rc.Buf.upd HO4.out (upd_row HZ4.out Z) HZ4.out (by decide))
    clear ho hb hu hZ hcc hcm
    go_wp2_with (first | (refine wpList_load_row rfl 27 _ rfl w.heap.size rfl 27 Z (0, 0) _ HG4.out Try.underlying27 rfl HQI.out ?_) | (refine wpList_store_row rfl 27 (.tmp 4) (.tmp 60) rfl (w.heap.size + 1) Z rfl rfl 27 zRec HZ4.out HQI.out HQZ.out HQ1.out ?_; obtain ⟨w5, hw5⟩ : ∃ w', World.setRow w4 (w.heap.size + 1) Z = w' := ⟨_, rfl⟩; have HEW5 := Lib.hid hw5; have hu := upd_row HZ4.out Z; rw [hw5] at hu ⊢; have HF5 := Lib.hid hu.at_; have HBF5 := Lib.hid (hu.to (Nat.le_succ _) HB4.out); clear hu hw5; rw [show w4.setRow (w.heap.size + 1) Z = w5 from HEW5.out] at HO5))
    refine bodyPost_ret_by (results_ct rfl _ _ (w.heap.size + 1) _ Z (0, 0) _ rfl HF5.out Try.underlying27 rfl HQI.out) rfl ?_
    refine .inl ⟨HE.out, Z, A3, c3, ?_, ?_, ?_, HBF5.out⟩
    · rfl
    · rw [show lF 1 b = y from HYD.out.symm]; exact HZF.out
    · rw [show lF 1 b = y from HYD.out.symm]; exact HO5.out
  · have HE := Lib.hid (show okF 1 b = false from decide_eq_false h32)
    have hm32 : b.length.min 32 = b.length := Nat.min_eq_left (by omega)
    have e0 : ((m : Int) == 32) = false := by rw [beq_eq_false_iff_ne, ← hm, hm32]; omega
    have hcm : ((cs.length : Nat) : Int) = (m : Int) := by rw [HCM.out]
    clear h32 HYF HY0 hm hm32
    go_enter Try.func44, Try.ntmps44
    go_wp2_with (first | (refine wpList_allocZ rfl 27 rfl zRec zeroRec ?_) | ((with_reducible refine gate_ (.call { callee := .builtin .copy, args := #[.tmp 52, .tmp 53], argTypes := #[22, 22] }) rfl ?_); refine wpList_copyU rfl (.tmp 52) (.tmp 53) 22 22 rfl 5 undB hsz8 (some ⟨w.heap.size, 2, none⟩) A 32 32 b.length c rfl rfl w.heap.size 2 X.toList 27 HGL.out cs HCL.out (fun hp => ⟨rfl, HPOS.out hp⟩) hfit HC1.out ?_; intro w2 hu; rw [HY.out] at hu; have HG2 := Lib.hid hu.at_; have HZ2 := Lib.hid ((hu.off (w.heap.size + 1) (by omega)).trans HZ.out); have HB2 := Lib.hid (hu.to (Nat.le_refl _) HB0.out); clear hu))
    refine (HCLN.out w2 HB2.out).mono ?_
    rintro e w3 ⟨v3, rfl, ho, hb⟩
    obtain ⟨A3, c3, rfl, hc3, -⟩ := ho.reads
    have HG3 := Lib.hid (blk_below HG2.out hb)
    have HZ3 := Lib.hid (blk_below HZ2.out hb)
    have HB3 := Lib.hid (below_step' HB2.out hb)
    have HO3 := Lib.hid (show Buf w3 w.heap.size (.slice A3 y.length c3) y from (Buf.of_own ho).lower HB2.out.size)
    have hcc3 := fun i => blk_cell HG3.out i
    have hff3 := fun i => blk_frozen HG3.out i
    obtain ⟨v35, h35⟩ := HYS.out.cell (j := 35) (by decide)
    obtain ⟨Z, hZ⟩ : ∃ Z, Y.setIfInBounds 35 (.slice A3 y.length c3) = Z := ⟨_, rfl⟩
    have hu := upd_cell HG3.out 35 (.slice A3 y.length c3)
    obtain ⟨w4, hw4⟩ : ∃ w4, w3.setCell ⟨w.heap.size, 35, none⟩ (.slice A3 y.length c3) = w4 := ⟨_, rfl⟩
    rw [hZ, hw4] at hu
    have HG4 := Lib.hid hu.at_
    have HZ4 := Lib.hid ((hu.off (w.heap.size + 1) (by omega)).trans HZ3.out)
    have HB4 := Lib.hid (hu.to (Nat.le_refl _) HB3.out)
    have HO4 := Lib.hid (Rc.Buf.upd HO3.out hu HG3.out (by decide))
    have HZS := Lib.hid (show RecS Z from hZ ▸ HYS.out.set 35 _ rfl)
    have HQI := Lib.hid HZS.out.info
    have HQZ := Lib.hid (show zRec.size = Z.size from zRecF.size.trans HZS.out.size.symm)
    have HQ1 := Lib.hid HZS.out.one
    have HO5 := Lib.hid (Rc.Buf.upd HO4.out (upd_row HZ4.out Z) HZ4.out (by decide))
    clear ho hb hu hZ hcc hcm
    go_wp2_with (first | (refine wpList_load_row rfl 27 _ rfl w.heap.size rfl 27 Z (0, 0) _ HG4.out Try.underlying27 rfl HQI.out ?_) | (refine wpList_store_row rfl 27 (.tmp 4) (.tmp 60) rfl (w.heap.size + 1) Z rfl rfl 27 zRec HZ4.out HQI.out HQZ.out HQ1.out ?_; obtain ⟨w5, hw5⟩ : ∃ w', World.setRow w4 (w.heap.size + 1) Z = w' := ⟨_, rfl⟩; have HEW5 := Lib.hid hw5; have hu := upd_row HZ4.out Z; rw [hw5] at hu ⊢; have HF5 := Lib.hid hu.at_; have HBF5 := Lib.hid (hu.to (Nat.le_succ _) HB4.out); clear hu hw5; rw [show w4.setRow (w.heap.size + 1) Z = w5 from HEW5.out] at HO5))
    refine bodyPost_ret_by (results_ct rfl _ _ (w.heap.size + 1) _ Z (0, 0) _ rfl HF5.out Try.underlying27 rfl HQI.out) rfl ?_
    exact .inr ⟨HE.out, Z, rfl, HZS.out, HBF5.out⟩
set_option maxRecDepth 100000 in
set_option maxHeartbeats 3200000 in
theorem fill2 (X : Array Value) (s : Nat) (A : Option Addr) (c : Nat) (b : List UInt8) (w : World) (hX : RecF X 2 s z32 ⟨#[]⟩ none 0 0 0 0) (hr : Rd w A b) (hl : b.length ≤ 65536) (hc : b.length ≤ c) :
    Calls Try.prog 44 #[.agg X, .slice A b.length c] w (FillE 2 s b w) := by
  have h0 := hX.c0
  obtain ⟨w1, hw1⟩ : ∃ w1, (w.alloc (.cells X 27)).alloc (.cells zRec 27) = w1 := ⟨_, rfl⟩
  obtain ⟨hg, hz, hb0⟩ := run_blk2 w X zRec 27 27
  rw [hw1] at hg hz hb0
  have HR := Lib.hid (hr.below hb0)
  have HG := Lib.hid hg
  have HZ := Lib.hid hz
  have HB0 := Lib.hid hb0
  have hcc := fun i => blk_cell HG.out i
  have hz1 := blk_lt HG.out
  have hz2 := blk_lt HZ.out
  have hr0 := hr
  clear hr hg hz hb0
  obtain ⟨cs, hcs⟩ : ∃ cs, cs = (b.take 32).map encB := ⟨_, rfl⟩
  have hcl : cs.length = Nat.min b.length 32 := by rw [hcs]; simp [Nat.min_comm]
  have hc32 : cs.length ≤ 32 := by rw [hcl]; exact Nat.min_le_right _ _
  have hcs1 : ∀ v ∈ cs, v.oneCell' = true := by rw [hcs]; exact one_encs _
  obtain ⟨Y, hY⟩ : ∃ Y, (splice X.toList 2 cs).toArray = Y := ⟨_, rfl⟩
  have HYS := Lib.hid (show RecS Y from hY ▸ hX.recS.splice cs hc32 hcs1)
  have HYF := Lib.hid (show 32 ≤ b.length → RecF Y 2 s (b.take 32) ⟨#[]⟩ none 0 0 0 0 from fun h => by rw [← hY, hcs]; exact hX.setD (by rw [List.length_take]; omega))
  have HY := Lib.hid hY
  have HPOS := Lib.hid (fun hp => rd_cs HR.out cs 32 hcs hp)
  have HGL := Lib.hid (show w1.heap[w.heap.size]? = some (.cells X.toList.toArray 27 (0, 0)) from HG.out)
  have hXL : X.toList.length = 38 := by rw [Array.length_toList]; exact hX.size
  have hfit : 2 + cs.length ≤ X.toList.length := by omega
  have HC1 := Lib.hid hcs1
  have HCL := Lib.hid hcl
  have HYI := Lib.hid HYS.out.info
  have HYZ := Lib.hid (show zRec.size = Y.size from zRecF.size.trans HYS.out.size.symm)
  have HY1 := Lib.hid HYS.out.one
  clear hcs hcs1 hcl hY
  obtain ⟨m, hm⟩ : ∃ m, Nat.min b.length 32 = m := ⟨_, rfl⟩
  have hm2 : m ≤ b.length ∧ m ≤ 32 := by rw [← hm]; exact ⟨Nat.min_le_left _ _, Nat.min_le_right _ _⟩
  obtain ⟨A', y, c', hy, hcut, hrd, hyc, hyl⟩ := cutF (A := A) (l := b) (c := c) (m : Int) (by omega) (by omega) hc
  have HCM := Lib.hid (HCL.out.trans hm)
  rw [Int.toNat_natCast] at hy
  have hyb : y.length ≤ 140737488355328 := by omega
  have HY0 := Lib.hid (show 32 ≤ b.length → y = b.drop 32 from fun h => by rw [hy.out, ← hm, show b.length.min 32 = 32 from Nat.min_eq_right h])
  have HRY := Lib.hid (fun (W : World) (h : Below w.heap.size w W) => hrd W (Rd.below (w := w) hr0 h))
  have HCLN := Lib.hid (fun (W : World) (h : Below w.heap.size w W) => Cl.clone_any A' c' y W hyb (hrd W (Rd.below (w := w) hr0 h)))
  clear hX hy hrd hr0 hyl
  by_cases h32 : 32 ≤ b.length
  · have HE := Lib.hid (show okF 2 b = true from decide_eq_true h32)
    have HQF := Lib.hid (HYF.out h32)
    have HYD := Lib.hid (HY0.out h32)
    have e0 : ((m : Int) == 32) = true := by rw [ ← hm, show b.length.min 32 = 32 from Nat.min_eq_right h32]; rfl
    have hcm : ((cs.length : Nat) : Int) = (m : Int) := by rw [HCM.out]
    clear h32 HYF HY0 hm
    go_enter Try.func44, Try.ntmps44
    go_wp2_with (first | (refine wpList_allocZ rfl 27 rfl zRec zeroRec ?_) | ((with_reducible refine gate_ (.call { callee := .builtin .copy, args := #[.tmp 52, .tmp 53], argTypes := #[22, 22] }) rfl ?_); refine wpList_copyU rfl (.tmp 52) (.tmp 53) 22 22 rfl 5 undB hsz8 (some ⟨w.heap.size, 2, none⟩) A 32 32 b.length c rfl rfl w.heap.size 2 X.toList 27 HGL.out cs HCL.out (fun hp => ⟨rfl, HPOS.out hp⟩) hfit HC1.out ?_; intro w2 hu; rw [HY.out] at hu; have HG2 := Lib.hid hu.at_; have HZ2 := Lib.hid ((hu.off (w.heap.size + 1) (by omega)).trans HZ.out); have HB2 := Lib.hid (hu.to (Nat.le_refl _) HB0.out); clear hu))
    refine (HCLN.out w2 HB2.out).mono ?_
    rintro e w3 ⟨v3, rfl, ho, hb⟩
    obtain ⟨A3, c3, rfl, hc3, -⟩ := ho.reads
    have HG3 := Lib.hid (blk_below HG2.out hb)
    have HZ3 := Lib.hid (blk_below HZ2.out hb)
    have HB3 := Lib.hid (below_step' HB2.out hb)
    have HO3 := Lib.hid (show Buf w3 w.heap.size (.slice A3 y.length c3) y from (Buf.of_own ho).lower HB2.out.size)
    have hcc3 := fun i => blk_cell HG3.out i
    have hff3 := fun i => blk_frozen HG3.out i
    obtain ⟨v35, h35⟩ := HYS.out.cell (j := 35) (by decide)
    obtain ⟨Z, hZ⟩ : ∃ Z, Y.setIfInBounds 35 (.slice A3 y.length c3) = Z := ⟨_, rfl⟩
    have hu := upd_cell HG3.out 35 (.slice A3 y.length c3)
    obtain ⟨w4, hw4⟩ : ∃ w4, w3.setCell ⟨w.heap.size, 35, none⟩ (.slice A3 y.length c3) = w4 := ⟨_, rfl⟩
    rw [hZ, hw4] at hu
    have HG4 := Lib.hid hu.at_
    have HZ4 := Lib.hid ((hu.off (w.heap.size + 1) (by omega)).trans HZ3.out)
    have HB4 := Lib.hid (hu.to (Nat.le_refl _) HB3.out)
    have HO4 := Lib.hid (Rc.Buf.upd HO3.out hu HG3.out (by decide))
    have HZS := Lib.hid (show RecS Z from hZ ▸ HYS.out.set 35 _ rfl)
    have HZF := Lib.hid (show RecF Z 2 s (b.take 32) ⟨#[]⟩ A3 y.length c3 0 0 from hZ ▸ HQF.out.setData A3 y.length c3)
    have HQI := Lib.hid HZS.out.info
    have HQZ := Lib.hid (show zRec.size = Z.size from zRecF.size.trans HZS.out.size.symm)
    have HQ1 := Lib.hid HZS.out.one
    have HO5 := Lib.hid (Rc.Buf.upd HO4.out (upd_row HZ4.out Z) HZ4.out (by decide))
    clear ho hb hu hZ hcc hcm
    go_wp2_with (first | (refine wpList_load_row rfl 27 _ rfl w.heap.size rfl 27 Z (0, 0) _ HG4.out Try.underlying27 rfl HQI.out ?_) | (refine wpList_store_row rfl 27 (.tmp 4) (.tmp 60) rfl (w.heap.size + 1) Z rfl rfl 27 zRec HZ4.out HQI.out HQZ.out HQ1.out ?_; obtain ⟨w5, hw5⟩ : ∃ w', World.setRow w4 (w.heap.size + 1) Z = w' := ⟨_, rfl⟩; have HEW5 := Lib.hid hw5; have hu := upd_row HZ4.out Z; rw [hw5] at hu ⊢; have HF5 := Lib.hid hu.at_; have HBF5 := Lib.hid (hu.to (Nat.le_succ _) HB4.out); clear hu hw5; rw [show w4.setRow (w.heap.size + 1) Z = w5 from HEW5.out] at HO5))
    refine bodyPost_ret_by (results_ct rfl _ _ (w.heap.size + 1) _ Z (0, 0) _ rfl HF5.out Try.underlying27 rfl HQI.out) rfl ?_
    refine .inl ⟨HE.out, Z, A3, c3, ?_, ?_, ?_, HBF5.out⟩
    · rfl
    · rw [show lF 2 b = y from HYD.out.symm]; exact HZF.out
    · rw [show lF 2 b = y from HYD.out.symm]; exact HO5.out
  · have HE := Lib.hid (show okF 2 b = false from decide_eq_false h32)
    have hm32 : b.length.min 32 = b.length := Nat.min_eq_left (by omega)
    have e0 : ((m : Int) == 32) = false := by rw [beq_eq_false_iff_ne, ← hm, hm32]; omega
    have hcm : ((cs.length : Nat) : Int) = (m : Int) := by rw [HCM.out]
    clear h32 HYF HY0 hm hm32
    go_enter Try.func44, Try.ntmps44
    go_wp2_with (first | (refine wpList_allocZ rfl 27 rfl zRec zeroRec ?_) | ((with_reducible refine gate_ (.call { callee := .builtin .copy, args := #[.tmp 52, .tmp 53], argTypes := #[22, 22] }) rfl ?_); refine wpList_copyU rfl (.tmp 52) (.tmp 53) 22 22 rfl 5 undB hsz8 (some ⟨w.heap.size, 2, none⟩) A 32 32 b.length c rfl rfl w.heap.size 2 X.toList 27 HGL.out cs HCL.out (fun hp => ⟨rfl, HPOS.out hp⟩) hfit HC1.out ?_; intro w2 hu; rw [HY.out] at hu; have HG2 := Lib.hid hu.at_; have HZ2 := Lib.hid ((hu.off (w.heap.size + 1) (by omega)).trans HZ.out); have HB2 := Lib.hid (hu.to (Nat.le_refl _) HB0.out); clear hu))
    refine (HCLN.out w2 HB2.out).mono ?_
    rintro e w3 ⟨v3, rfl, ho, hb⟩
    obtain ⟨A3, c3, rfl, hc3, -⟩ := ho.reads
    have HG3 := Lib.hid (blk_below HG2.out hb)
    have HZ3 := Lib.hid (blk_below HZ2.out hb)
    have HB3 := Lib.hid (below_step' HB2.out hb)
    have HO3 := Lib.hid (show Buf w3 w.heap.size (.slice A3 y.length c3) y from (Buf.of_own ho).lower HB2.out.size)
    have hcc3 := fun i => blk_cell HG3.out i
    have hff3 := fun i => blk_frozen HG3.out i
    obtain ⟨v35, h35⟩ := HYS.out.cell (j := 35) (by decide)
    obtain ⟨Z, hZ⟩ : ∃ Z, Y.setIfInBounds 35 (.slice A3 y.length c3) = Z := ⟨_, rfl⟩
    have hu := upd_cell HG3.out 35 (.slice A3 y.length c3)
    obtain ⟨w4, hw4⟩ : ∃ w4, w3.setCell ⟨w.heap.size, 35, none⟩ (.slice A3 y.length c3) = w4 := ⟨_, rfl⟩
    rw [hZ, hw4] at hu
    have HG4 := Lib.hid hu.at_
    have HZ4 := Lib.hid ((hu.off (w.heap.size + 1) (by omega)).trans HZ3.out)
    have HB4 := Lib.hid (hu.to (Nat.le_refl _) HB3.out)
    have HO4 := Lib.hid (Rc.Buf.upd HO3.out hu HG3.out (by decide))
    have HZS := Lib.hid (show RecS Z from hZ ▸ HYS.out.set 35 _ rfl)
    have HQI := Lib.hid HZS.out.info
    have HQZ := Lib.hid (show zRec.size = Z.size from zRecF.size.trans HZS.out.size.symm)
    have HQ1 := Lib.hid HZS.out.one
    have HO5 := Lib.hid (Rc.Buf.upd HO4.out (upd_row HZ4.out Z) HZ4.out (by decide))
    clear ho hb hu hZ hcc hcm
    go_wp2_with (first | (refine wpList_load_row rfl 27 _ rfl w.heap.size rfl 27 Z (0, 0) _ HG4.out Try.underlying27 rfl HQI.out ?_) | (refine wpList_store_row rfl 27 (.tmp 4) (.tmp 60) rfl (w.heap.size + 1) Z rfl rfl 27 zRec HZ4.out HQI.out HQZ.out HQ1.out ?_; obtain ⟨w5, hw5⟩ : ∃ w', World.setRow w4 (w.heap.size + 1) Z = w' := ⟨_, rfl⟩; have HEW5 := Lib.hid hw5; have hu := upd_row HZ4.out Z; rw [hw5] at hu ⊢; have HF5 := Lib.hid hu.at_; have HBF5 := Lib.hid (hu.to (Nat.le_succ _) HB4.out); clear hu hw5; rw [show w4.setRow (w.heap.size + 1) Z = w5 from HEW5.out] at HO5))
    refine bodyPost_ret_by (results_ct rfl _ _ (w.heap.size + 1) _ Z (0, 0) _ rfl HF5.out Try.underlying27 rfl HQI.out) rfl ?_
    exact .inr ⟨HE.out, Z, rfl, HZS.out, HBF5.out⟩
set_option maxRecDepth 100000 in
set_option maxHeartbeats 3200000 in
theorem fill6 (X : Array Value) (s : Nat) (A : Option Addr) (c : Nat) (b : List UInt8) (w : World) (hX : RecF X 6 s z32 ⟨#[]⟩ none 0 0 0 0) (hr : Rd w A b) (hl : b.length ≤ 65536) (hc : b.length ≤ c) :
    Calls Try.prog 44 #[.agg X, .slice A b.length c] w (FillE 6 s b w) := by
  have h0 := hX.c0
  obtain ⟨w1, hw1⟩ : ∃ w1, (w.alloc (.cells X 27)).alloc (.cells zRec 27) = w1 := ⟨_, rfl⟩
  obtain ⟨hg, hz, hb0⟩ := run_blk2 w X zRec 27 27
  rw [hw1] at hg hz hb0
  have HR := Lib.hid (hr.below hb0)
  have HG := Lib.hid hg
  have HZ := Lib.hid hz
  have HB0 := Lib.hid hb0
  have hcc := fun i => blk_cell HG.out i
  have hz1 := blk_lt HG.out
  have hz2 := blk_lt HZ.out
  have hr0 := hr
  clear hr hg hz hb0
  have h36 := hX.c36
  have hff := fun i => blk_frozen HG.out i
  have HN1 := Lib.hid (number_any A c b 0 4 w1 (by omega) HR.out)
  have HN2 := Lib.hid (number_any A c b 4 4 w1 (by omega) HR.out)
  have HNF := Lib.hid (show nF 6 b = numN b 0 4 ∧ zF 6 b = numN b 4 4 from ⟨rfl, rfl⟩)
  generalize numN b 0 4 = n1 at *
  generalize numN b 4 4 = n2 at *
  obtain ⟨X2, hX2⟩ : ∃ Z, X.setIfInBounds 36 (.int .i64 n1) = Z := ⟨_, rfl⟩
  have hu := upd_cell HG.out 36 (.int .i64 n1)
  obtain ⟨w2, hw2⟩ : ∃ w', w1.setCell ⟨w.heap.size, 36, none⟩ (.int .i64 n1) = w' := ⟨_, rfl⟩
  rw [hX2, hw2] at hu
  have HG2 := Lib.hid hu.at_
  have HZ2 := Lib.hid ((hu.off (w.heap.size + 1) (by omega)).trans HZ.out)
  have HB2 := Lib.hid (hu.to (Nat.le_refl _) HB0.out)
  have HX2F := Lib.hid (show RecF X2 6 s z32 ⟨#[]⟩ none 0 0 n1 0 from hX2 ▸ hX.setN n1)
  clear hu hX2
  have hcc2 := fun i => blk_cell HG2.out i
  have hff2 := fun i => blk_frozen HG2.out i
  have h37 := HX2F.out.c37
  obtain ⟨X3, hX3⟩ : ∃ Z, X2.setIfInBounds 37 (.int .i64 n2) = Z := ⟨_, rfl⟩
  have hu := upd_cell HG2.out 37 (.int .i64 n2)
  obtain ⟨w3, hw3⟩ : ∃ w', w2.setCell ⟨w.heap.size, 37, none⟩ (.int .i64 n2) = w' := ⟨_, rfl⟩
  rw [hX3, hw3] at hu
  have HG3 := Lib.hid hu.at_
  have HZ3 := Lib.hid ((hu.off (w.heap.size + 1) (by omega)).trans HZ2.out)
  have HB3 := Lib.hid (hu.to (Nat.le_refl _) HB2.out)
  have HX3F := Lib.hid (show RecF X3 6 s z32 ⟨#[]⟩ none 0 0 n1 n2 from hX3 ▸ HX2F.out.setZ n2)
  clear hu hX3
  have HYS := Lib.hid HX3F.out.recS
  have HXI := Lib.hid HYS.out.info
  have HXZ := Lib.hid (show zRec.size = X3.size from zRecF.size.trans HYS.out.size.symm)
  have HX1 := Lib.hid HYS.out.one
  clear hX hr0
  by_cases h8 : b.length = 8
  · have HE := Lib.hid (show okF 6 b = true from decide_eq_true h8)
    have e0 : ((b.length : Int) == 8) = true := by rw [h8]; rfl
    clear h8
    go_enter Try.func44, Try.ntmps44
    go_wp2_with (refine wpList_allocZ rfl 27 rfl zRec zeroRec ?_)
    refine HN1.out.mono ?_
    rintro e w4 ⟨rfl, hw4⟩
    rw [hw4]
    clear hw4 w4
    go_wp2_with fail
    refine HN2.out.mono ?_
    rintro e w4 ⟨rfl, hw4⟩
    rw [hw4]
    clear hw4 w4
    go_wp2_with (first | (refine wpList_load_row rfl 27 _ rfl w.heap.size rfl 27 X3 (0, 0) _ HG3.out Try.underlying27 rfl HXI.out ?_) | (refine wpList_store_row rfl 27 (.tmp 4) (.tmp 83) rfl (w.heap.size + 1) X3 rfl rfl 27 zRec HZ3.out HXI.out HXZ.out HX1.out ?_; obtain ⟨w5, hw5⟩ : ∃ w', World.setRow w3 (w.heap.size + 1) X3 = w' := ⟨_, rfl⟩; have HEW5 := Lib.hid hw5; have hu := upd_row HZ3.out X3; rw [hw5] at hu ⊢; have HF5 := Lib.hid hu.at_; have HBF5 := Lib.hid (hu.to (Nat.le_succ _) HB3.out); clear hu hw5))
    refine bodyPost_ret_by (results_ct rfl _ _ (w.heap.size + 1) _ X3 (0, 0) _ rfl HF5.out Try.underlying27 rfl HXI.out) rfl ?_
    refine .inl ⟨HE.out, X3, none, 0, rfl, ?_, Buf.nil _ _, HBF5.out⟩
    rw [HNF.out.1, HNF.out.2]
    exact HX3F.out
  · have HE := Lib.hid (show okF 6 b = false from decide_eq_false h8)
    have e0 : ((b.length : Int) == 8) = false := by rw [beq_eq_false_iff_ne]; omega
    clear h8
    go_enter Try.func44, Try.ntmps44
    go_wp2_with (refine wpList_allocZ rfl 27 rfl zRec zeroRec ?_)
    refine HN1.out.mono ?_
    rintro e w4 ⟨rfl, hw4⟩
    rw [hw4]
    clear hw4 w4
    go_wp2_with fail
    refine HN2.out.mono ?_
    rintro e w4 ⟨rfl, hw4⟩
    rw [hw4]
    clear hw4 w4
    go_wp2_with (first | (refine wpList_load_row rfl 27 _ rfl w.heap.size rfl 27 X3 (0, 0) _ HG3.out Try.underlying27 rfl HXI.out ?_) | (refine wpList_store_row rfl 27 (.tmp 4) (.tmp 83) rfl (w.heap.size + 1) X3 rfl rfl 27 zRec HZ3.out HXI.out HXZ.out HX1.out ?_; obtain ⟨w5, hw5⟩ : ∃ w', World.setRow w3 (w.heap.size + 1) X3 = w' := ⟨_, rfl⟩; have HEW5 := Lib.hid hw5; have hu := upd_row HZ3.out X3; rw [hw5] at hu ⊢; have HF5 := Lib.hid hu.at_; have HBF5 := Lib.hid (hu.to (Nat.le_succ _) HB3.out); clear hu hw5))
    refine bodyPost_ret_by (results_ct rfl _ _ (w.heap.size + 1) _ X3 (0, 0) _ rfl HF5.out Try.underlying27 rfl HXI.out) rfl ?_
    exact .inr ⟨HE.out, X3, rfl, HYS.out, HBF5.out⟩
set_option maxRecDepth 100000 in
set_option maxHeartbeats 3200000 in
theorem fill8 (X : Array Value) (s : Nat) (A : Option Addr) (c : Nat) (b : List UInt8) (w : World) (hX : RecF X 8 s z32 ⟨#[]⟩ none 0 0 0 0) (hr : Rd w A b) (hl : b.length ≤ 65536) (hc : b.length ≤ c) :
    Calls Try.prog 44 #[.agg X, .slice A b.length c] w (FillE 8 s b w) := by
  have h0 := hX.c0
  obtain ⟨w1, hw1⟩ : ∃ w1, (w.alloc (.cells X 27)).alloc (.cells zRec 27) = w1 := ⟨_, rfl⟩
  obtain ⟨hg, hz, hb0⟩ := run_blk2 w X zRec 27 27
  rw [hw1] at hg hz hb0
  have HR := Lib.hid (hr.below hb0)
  have HG := Lib.hid hg
  have HZ := Lib.hid hz
  have HB0 := Lib.hid hb0
  have hcc := fun i => blk_cell HG.out i
  have hz1 := blk_lt HG.out
  have hz2 := blk_lt HZ.out
  have hr0 := hr
  clear hr hg hz hb0
  have h36 := hX.c36
  have hff := fun i => blk_frozen HG.out i
  have HN1 := Lib.hid (number_any A c b 0 4 w1 (by omega) HR.out)
  have HN2 := Lib.hid (number_any A c b 4 4 w1 (by omega) HR.out)
  have HNF := Lib.hid (show nF 8 b = numN b 0 4 ∧ zF 8 b = numN b 4 4 from ⟨rfl, rfl⟩)
  generalize numN b 0 4 = n1 at *
  generalize numN b 4 4 = n2 at *
  obtain ⟨X2, hX2⟩ : ∃ Z, X.setIfInBounds 36 (.int .i64 n1) = Z := ⟨_, rfl⟩
  have hu := upd_cell HG.out 36 (.int .i64 n1)
  obtain ⟨w2, hw2⟩ : ∃ w', w1.setCell ⟨w.heap.size, 36, none⟩ (.int .i64 n1) = w' := ⟨_, rfl⟩
  rw [hX2, hw2] at hu
  have HG2 := Lib.hid hu.at_
  have HZ2 := Lib.hid ((hu.off (w.heap.size + 1) (by omega)).trans HZ.out)
  have HB2 := Lib.hid (hu.to (Nat.le_refl _) HB0.out)
  have HX2F := Lib.hid (show RecF X2 8 s z32 ⟨#[]⟩ none 0 0 n1 0 from hX2 ▸ hX.setN n1)
  clear hu hX2
  have hcc2 := fun i => blk_cell HG2.out i
  have hff2 := fun i => blk_frozen HG2.out i
  have h37 := HX2F.out.c37
  obtain ⟨X3, hX3⟩ : ∃ Z, X2.setIfInBounds 37 (.int .i64 n2) = Z := ⟨_, rfl⟩
  have hu := upd_cell HG2.out 37 (.int .i64 n2)
  obtain ⟨w3, hw3⟩ : ∃ w', w2.setCell ⟨w.heap.size, 37, none⟩ (.int .i64 n2) = w' := ⟨_, rfl⟩
  rw [hX3, hw3] at hu
  have HG3 := Lib.hid hu.at_
  have HZ3 := Lib.hid ((hu.off (w.heap.size + 1) (by omega)).trans HZ2.out)
  have HB3 := Lib.hid (hu.to (Nat.le_refl _) HB2.out)
  have HX3F := Lib.hid (show RecF X3 8 s z32 ⟨#[]⟩ none 0 0 n1 n2 from hX3 ▸ HX2F.out.setZ n2)
  clear hu hX3
  have HYS := Lib.hid HX3F.out.recS
  have HXI := Lib.hid HYS.out.info
  have HXZ := Lib.hid (show zRec.size = X3.size from zRecF.size.trans HYS.out.size.symm)
  have HX1 := Lib.hid HYS.out.one
  clear hX hr0
  by_cases h8 : b.length = 8
  · have HE := Lib.hid (show okF 8 b = true from decide_eq_true h8)
    have e0 : ((b.length : Int) == 8) = true := by rw [h8]; rfl
    clear h8
    go_enter Try.func44, Try.ntmps44
    go_wp2_with (refine wpList_allocZ rfl 27 rfl zRec zeroRec ?_)
    refine HN1.out.mono ?_
    rintro e w4 ⟨rfl, hw4⟩
    rw [hw4]
    clear hw4 w4
    go_wp2_with fail
    refine HN2.out.mono ?_
    rintro e w4 ⟨rfl, hw4⟩
    rw [hw4]
    clear hw4 w4
    go_wp2_with (first | (refine wpList_load_row rfl 27 _ rfl w.heap.size rfl 27 X3 (0, 0) _ HG3.out Try.underlying27 rfl HXI.out ?_) | (refine wpList_store_row rfl 27 (.tmp 4) (.tmp 83) rfl (w.heap.size + 1) X3 rfl rfl 27 zRec HZ3.out HXI.out HXZ.out HX1.out ?_; obtain ⟨w5, hw5⟩ : ∃ w', World.setRow w3 (w.heap.size + 1) X3 = w' := ⟨_, rfl⟩; have HEW5 := Lib.hid hw5; have hu := upd_row HZ3.out X3; rw [hw5] at hu ⊢; have HF5 := Lib.hid hu.at_; have HBF5 := Lib.hid (hu.to (Nat.le_succ _) HB3.out); clear hu hw5))
    refine bodyPost_ret_by (results_ct rfl _ _ (w.heap.size + 1) _ X3 (0, 0) _ rfl HF5.out Try.underlying27 rfl HXI.out) rfl ?_
    refine .inl ⟨HE.out, X3, none, 0, rfl, ?_, Buf.nil _ _, HBF5.out⟩
    rw [HNF.out.1, HNF.out.2]
    exact HX3F.out
  · have HE := Lib.hid (show okF 8 b = false from decide_eq_false h8)
    have e0 : ((b.length : Int) == 8) = false := by rw [beq_eq_false_iff_ne]; omega
    clear h8
    go_enter Try.func44, Try.ntmps44
    go_wp2_with (refine wpList_allocZ rfl 27 rfl zRec zeroRec ?_)
    refine HN1.out.mono ?_
    rintro e w4 ⟨rfl, hw4⟩
    rw [hw4]
    clear hw4 w4
    go_wp2_with fail
    refine HN2.out.mono ?_
    rintro e w4 ⟨rfl, hw4⟩
    rw [hw4]
    clear hw4 w4
    go_wp2_with (first | (refine wpList_load_row rfl 27 _ rfl w.heap.size rfl 27 X3 (0, 0) _ HG3.out Try.underlying27 rfl HXI.out ?_) | (refine wpList_store_row rfl 27 (.tmp 4) (.tmp 83) rfl (w.heap.size + 1) X3 rfl rfl 27 zRec HZ3.out HXI.out HXZ.out HX1.out ?_; obtain ⟨w5, hw5⟩ : ∃ w', World.setRow w3 (w.heap.size + 1) X3 = w' := ⟨_, rfl⟩; have HEW5 := Lib.hid hw5; have hu := upd_row HZ3.out X3; rw [hw5] at hu ⊢; have HF5 := Lib.hid hu.at_; have HBF5 := Lib.hid (hu.to (Nat.le_succ _) HB3.out); clear hu hw5))
    refine bodyPost_ret_by (results_ct rfl _ _ (w.heap.size + 1) _ X3 (0, 0) _ rfl HF5.out Try.underlying27 rfl HXI.out) rfl ?_
    exact .inr ⟨HE.out, X3, rfl, HYS.out, HBF5.out⟩
set_option maxRecDepth 100000 in
set_option maxHeartbeats 3200000 in
theorem fill7 (X : Array Value) (s : Nat) (A : Option Addr) (c : Nat) (b : List UInt8) (w : World) (hX : RecF X 7 s z32 ⟨#[]⟩ none 0 0 0 0) (hr : Rd w A b) (hl : b.length ≤ 65536) (hc : b.length ≤ c) :
    Calls Try.prog 44 #[.agg X, .slice A b.length c] w (FillE 7 s b w) := by
  have h0 := hX.c0
  obtain ⟨w1, hw1⟩ : ∃ w1, (w.alloc (.cells X 27)).alloc (.cells zRec 27) = w1 := ⟨_, rfl⟩
  obtain ⟨hg, hz, hb0⟩ := run_blk2 w X zRec 27 27
  rw [hw1] at hg hz hb0
  have HR := Lib.hid (hr.below hb0)
  have HG := Lib.hid hg
  have HZ := Lib.hid hz
  have HB0 := Lib.hid hb0
  have hcc := fun i => blk_cell HG.out i
  have hz1 := blk_lt HG.out
  have hz2 := blk_lt HZ.out
  have hr0 := hr
  clear hr hg hz hb0
  have h36 := hX.c36
  have hff := fun i => blk_frozen HG.out i
  have HXS := Lib.hid hX.recS
  have HXI := Lib.hid HXS.out.info
  have HXZ := Lib.hid (show zRec.size = X.size from zRecF.size.trans HXS.out.size.symm)
  have HX1 := Lib.hid HXS.out.one
  by_cases h16 : b.length = 16
  · have e16 : ((b.length : Int) != 16) = false := by rw [h16]; rfl
    obtain ⟨y, hy, hcut, hrd, hyc, hyl⟩ := cutTo (A := A) (l := b) (c := c) 8 (by decide) (by omega) hc
    have HSTR := Lib.hid (string_run c (hrd w1 HR.out))
    have HY0 := Lib.hid hy.out
    by_cases hm : y = magicL
    · have HE := Lib.hid (show okF 7 b = true from decide_eq_true ⟨h16, by rw [← hm, hy.out]; rfl⟩)
      have hq : (y == [115, 116, 105, 108, 108, 97, 103, 101]) = true := by rw [hm]; rfl
      have HN1 := Lib.hid (number_any A c b 8 8 w1 (by omega) HR.out)
      have HNF := Lib.hid (show nF 7 b = numN b 8 8 from rfl)
      generalize numN b 8 8 = n1 at *
      obtain ⟨X2, hX2⟩ : ∃ Z, X.setIfInBounds 36 (.int .i64 n1) = Z := ⟨_, rfl⟩
      have hu := upd_cell HG.out 36 (.int .i64 n1)
      obtain ⟨w2, hw2⟩ : ∃ w', w1.setCell ⟨w.heap.size, 36, none⟩ (.int .i64 n1) = w' := ⟨_, rfl⟩
      rw [hX2, hw2] at hu
      have HG2 := Lib.hid hu.at_
      have HZ2 := Lib.hid ((hu.off (w.heap.size + 1) (by omega)).trans HZ.out)
      have HB2 := Lib.hid (hu.to (Nat.le_refl _) HB0.out)
      have HX2F := Lib.hid (show RecF X2 7 s z32 ⟨#[]⟩ none 0 0 n1 0 from hX2 ▸ hX.setN n1)
      clear hu hX2
      have HYS := Lib.hid HX2F.out.recS
      have HYI := Lib.hid HYS.out.info
      have HYZ := Lib.hid (show zRec.size = X2.size from zRecF.size.trans HYS.out.size.symm)
      have HY1 := Lib.hid HYS.out.one
      have hst := HSTR.out
      clear hX hr0 hm hy hrd hyl h16
      go_enter Try.func44, Try.ntmps44
      go_wp2_with (refine wpList_allocZ rfl 27 rfl zRec zeroRec ?_)
      refine HN1.out.mono ?_
      rintro e w4 ⟨rfl, hw4⟩
      rw [hw4]
      clear hw4 w4
      go_wp2_with (first | (refine wpList_load_row rfl 27 _ rfl w.heap.size rfl 27 X2 (0, 0) _ HG2.out Try.underlying27 rfl HYI.out ?_) | (refine wpList_store_row rfl 27 (.tmp 4) (.tmp 76) rfl (w.heap.size + 1) X2 rfl rfl 27 zRec HZ2.out HYI.out HYZ.out HY1.out ?_; obtain ⟨w5, hw5⟩ : ∃ w', World.setRow w2 (w.heap.size + 1) X2 = w' := ⟨_, rfl⟩; have HEW5 := Lib.hid hw5; have hu := upd_row HZ2.out X2; rw [hw5] at hu ⊢; have HF5 := Lib.hid hu.at_; have HBF5 := Lib.hid (hu.to (Nat.le_succ _) HB2.out); clear hu hw5))
      refine bodyPost_ret_by (results_ct rfl _ _ (w.heap.size + 1) _ X2 (0, 0) _ rfl HF5.out Try.underlying27 rfl HYI.out) rfl ?_
      refine .inl ⟨HE.out, X2, none, 0, rfl, ?_, Buf.nil _ _, HBF5.out⟩
      rw [HNF.out]
      exact HX2F.out
    · have HE := Lib.hid (show okF 7 b = false from decide_eq_false (fun h => hm (by rw [hy.out]; exact h.2)))
      have hq : (y == [115, 116, 105, 108, 108, 97, 103, 101]) = false := by rw [beq_eq_false_iff_ne]; exact hm
      have hst := HSTR.out
      clear hX hr0 hm hy hrd hyl h16
      go_enter Try.func44, Try.ntmps44
      go_wp2_with (first | (refine wpList_allocZ rfl 27 rfl zRec zeroRec ?_) | (refine wpList_load_row rfl 27 _ rfl w.heap.size rfl 27 X (0, 0) _ HG.out Try.underlying27 rfl HXI.out ?_) | (refine wpList_store_row rfl 27 (.tmp 4) (.tmp 72) rfl (w.heap.size + 1) X rfl rfl 27 zRec HZ.out HXI.out HXZ.out HX1.out ?_; obtain ⟨w5, hw5⟩ : ∃ w', World.setRow w1 (w.heap.size + 1) X = w' := ⟨_, rfl⟩; have HEW5 := Lib.hid hw5; have hu := upd_row HZ.out X; rw [hw5] at hu ⊢; have HF5 := Lib.hid hu.at_; have HBF5 := Lib.hid (hu.to (Nat.le_succ _) HB0.out); clear hu hw5))
      refine bodyPost_ret_by (results_ct rfl _ _ (w.heap.size + 1) _ X (0, 0) _ rfl HF5.out Try.underlying27 rfl HXI.out) rfl ?_
      exact .inr ⟨HE.out, X, rfl, HXS.out, HBF5.out⟩
  · have e16 : ((b.length : Int) != 16) = true := by rw [bne_iff_ne]; omega
    have HE := Lib.hid (show okF 7 b = false from decide_eq_false (fun h => h16 h.1))
    clear hX hr0 h16
    go_enter Try.func44, Try.ntmps44
    go_wp2_with (first | (refine wpList_allocZ rfl 27 rfl zRec zeroRec ?_) | (refine wpList_load_row rfl 27 _ rfl w.heap.size rfl 27 X (0, 0) _ HG.out Try.underlying27 rfl HXI.out ?_) | (refine wpList_store_row rfl 27 (.tmp 4) (.tmp 72) rfl (w.heap.size + 1) X rfl rfl 27 zRec HZ.out HXI.out HXZ.out HX1.out ?_; obtain ⟨w5, hw5⟩ : ∃ w', World.setRow w1 (w.heap.size + 1) X = w' := ⟨_, rfl⟩; have HEW5 := Lib.hid hw5; have hu := upd_row HZ.out X; rw [hw5] at hu ⊢; have HF5 := Lib.hid hu.at_; have HBF5 := Lib.hid (hu.to (Nat.le_succ _) HB0.out); clear hu hw5))
    refine bodyPost_ret_by (results_ct rfl _ _ (w.heap.size + 1) _ X (0, 0) _ rfl HF5.out Try.underlying27 rfl HXI.out) rfl ?_
    exact .inr ⟨HE.out, X, rfl, HXS.out, HBF5.out⟩
theorem fill_any (k : Int) (s : Nat) (X : Array Value) (A : Option Addr) (c : Nat) (b : List UInt8) (w : World) (hk : 1 ≤ k ∧ k ≤ 8) (hX : RecF X k s z32 ⟨#[]⟩ none 0 0 0 0) (hr : Rd w A b) (hl : b.length ≤ 65536) (hc : b.length ≤ c) :
    Calls Try.prog 44 #[.agg X, .slice A b.length c] w (FillE k s b w) := by
  rcases (show k = 1 ∨ k = 2 ∨ k = 3 ∨ k = 4 ∨ k = 5 ∨ k = 6 ∨ k = 7 ∨ k = 8 by omega) with rfl | rfl | rfl | rfl | rfl | rfl | rfl | rfl
  · exact fill1 X s A c b w hX hr hl hc
  · exact fill2 X s A c b w hX hr hl hc
  · exact fill3 X s A c b w hX hr hl hc
  · exact fill4 X s A c b w hX hr hl hc
  · exact fill5 X s A c b w hX hr hl hc
  · exact fill6 X s A c b w hX hr hl hc
  · exact fill7 X s A c b w hX hr hl hc
  · exact fill8 X s A c b w hX hr hl hc
end Go.Proofs.Ytceldlijbehkdaa.Rc
