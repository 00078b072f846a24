/- record.Parse. -/
import Derived.Test.YtceldlijbehkdaaRcFill
set_option linter.unusedVariables false
set_option linter.unusedSimpArgs false
namespace Go.Proofs.Ytceldlijbehkdaa.Rc
open Go.RowKit Go.Proofs.YtceldlijbehkdaaW.PrintWords Go.Proofs.Ytceldlijbehkdaa.B Go.Proofs.Ytceldlijbehkdaa.Fx Go.Proofs.Ytceldlijbehkdaa.Fr
/-- what is wrong with the record at a place -/
def formE (k : Int) (b : List UInt8) : Nat := if okF k b = false then 3 else rightE k (lF k b).length (nmF k b).data.toList (nF k b) (zF k b)
def recE (b : List UInt8) (at_ : Int) : Nat := if pErr b at_ ≠ 0 then pErr b at_ else formE (pKind b at_) (pData b at_)
/-- the end: the record at a place -/
def RParsed (b : List UInt8) (at_ : Int) (w : World) (e : Ending) (w' : World) : Prop :=
  (recE b at_ = 0 ∧ ∃ X A c, e = .returned (.tuple #[.agg X, .int .i64 (pEnd b at_), .int .i64 0]) ∧ RecF X (pKind b at_) (pSeq b at_) (dF (pKind b at_) (pData b at_)) (nmF (pKind b at_) (pData b at_)) A (lF (pKind b at_) (pData b at_)).length c (nF (pKind b at_) (pData b at_)) (zF (pKind b at_) (pData b at_)) ∧ Buf w' w.heap.size (.slice A (lF (pKind b at_) (pData b at_)).length c) (lF (pKind b at_) (pData b at_)) ∧ Below w.heap.size w w') ∨
  (recE b at_ ≠ 0 ∧ e = .returned (.tuple #[.agg zRec, .int .i64 0, .int .i64 (recE b at_)]) ∧ Below w.heap.size w w')
theorem kind_of {b : List UInt8} {at_ : Int} (h : pErr b at_ = 0) : 1 ≤ (pKind b at_ : Int) ∧ (pKind b at_ : Int) ≤ 8 := by
  have h1 := (pErrX_ok (pErr_ok h).2.2).2.2.1
  unfold pKind; rw [if_pos h]; omega
theorem nm_size (k : Int) (b : List UInt8) (hb : b.length ≤ 65536) : (nmF k b).size ≤ 140737488355328 := by
  unfold nmF textS
  split
  · split
    · simp [ByteArray.size]; omega
    · decide
  · decide
theorem seq_lt (b : List UInt8) (at_ : Int) : pSeq b at_ < 18446744073709551616 := by
  unfold pSeq; split
  · exact fs_lt _
  · decide
theorem infoFr : (Try.prog.info? 82).map (·.size) = some 4 := infoFrame
set_option maxRecDepth 100000 in
set_option maxHeartbeats 3200000 in
theorem parse_any (A : Option Addr) (c : Nat) (b : List UInt8) (at_ : Int) (w : World) (hl : b.length ≤ 140737488354000) (hc : b.length ≤ c) (hr : Rd w A b) (hb : -9223372036854775808 ≤ at_ ∧ at_ ≤ 9223372036854775807) :
    Calls Try.prog 14 #[.slice A b.length c, .int .i64 at_] w (RParsed b at_ w) := by
  obtain ⟨w1, hw1⟩ : ∃ w1, w.alloc (.cells zRec 27) = w1 := ⟨_, rfl⟩
  have hz : w1.heap[w.heap.size]? = some (.cells zRec 27 (0, 0)) := hw1 ▸ blk_new w _
  have hb0 : Below w.heap.size w w1 := hw1 ▸ below_alloc (Below.refl _ _) _
  have HZ := Lib.hid hz
  have HB0 := Lib.hid hb0
  have HP := Lib.hid (Fr.parse_own A c b at_ w1 hl hc (hr.below hb0) hb)
  have HK := Lib.hid (fun h : pErr b at_ = 0 => kind_of h)
  have HRE := Lib.hid (show ∀ er, pErr b at_ = er → recE b at_ = if er ≠ 0 then er else formE (pKind b at_) (pData b at_) from fun er h => by unfold recE; rw [h])
  have hdl := pData_le b at_
  have hsl := seq_lt b at_
  have HPO := Lib.hid (show ∀ Q : Prop, (RParsed b at_ w = RParsed b at_ w) → True from fun _ _ => trivial)
  have HDF := Lib.hid (show RParsed b at_ = fun w e w' => (recE b at_ = 0 ∧ ∃ X A c, e = .returned (.tuple #[.agg X, .int .i64 (pEnd b at_), .int .i64 0]) ∧ RecF X (pKind b at_) (pSeq b at_) (dF (pKind b at_) (pData b at_)) (nmF (pKind b at_) (pData b at_)) A (lF (pKind b at_) (pData b at_)).length c (nF (pKind b at_) (pData b at_)) (zF (pKind b at_) (pData b at_)) ∧ Buf w' w.heap.size (.slice A (lF (pKind b at_) (pData b at_)).length c) (lF (pKind b at_) (pData b at_)) ∧ Below w.heap.size w w') ∨
  (recE b at_ ≠ 0 ∧ e = .returned (.tuple #[.agg zRec, .int .i64 0, .int .i64 (recE b at_)]) ∧ Below w.heap.size w w') from rfl)
  unfold ParsedO at HP
  clear hz hb0 hr hb HPO
  generalize pErr b at_ = er at *
  generalize pKind b at_ = k at *
  generalize pSeq b at_ = s at *
  generalize pData b at_ = y at *
  generalize pEnd b at_ = en at *
  generalize recE b at_ = re at *
  by_cases he : er = 0
  · subst he
    have HRE0 := Lib.hid (show re = formE k y from by rw [HRE.out 0 rfl, if_neg (by decide)])
    have hk := HK.out rfl
    have HFL := Lib.hid (fun (W : World) (A2 : Option Addr) (c2 : Nat) (hc2 : y.length ≤ c2) (h : Rd W A2 y) => fill_any k s _ A2 c2 y W hk (recF (d := z32) rfl) h hdl hc2)
    clear HRE HK
    go_enter Try.func14, Try.ntmps14
    go_wp2_with (refine wpList_allocZ rfl 27 rfl zRec zeroRec ?_)
    refine HP.out.mono ?_
    rintro e w2 ⟨A2, c2, rfl, hc2, ho, hb⟩
    obtain ⟨w3, hw3⟩ : ∃ w3, w2.alloc (.cells #[.int .i64 (k : Int), .int .u64 (s : Int), .slice A2 y.length c2, .int .i64 en] 82) = w3 := ⟨_, rfl⟩
    have HF3 := Lib.hid (show w3.heap[w2.heap.size]? = some (.cells #[.int .i64 (k : Int), .int .u64 (s : Int), .slice A2 y.length c2, .int .i64 en] 82 (0, 0)) from hw3 ▸ blk_new w2 _)
    have hb3 : Below w2.heap.size w2 w3 := hw3 ▸ below_alloc (Below.refl _ _) _
    have HZ3 := Lib.hid (blk_below (blk_below HZ.out hb) hb3)
    have HB3 := Lib.hid (below_step' (below_step' HB0.out hb) hb3)
    have HO3 := Lib.hid (show Rd w3 A2 y from ho.rd.below hb3)
    have hlt2 : w.heap.size < w2.heap.size := blk_lt (blk_below HZ.out hb)
    have hcf := fun i => blk_cell HF3.out i
    clear ho hb hb3 hw1
    go_wp2_with fail
    refine (HFL.out w3 A2 c2 hc2 HO3.out).mono ?_
    rintro e w4 (⟨hok, X, A4, c4, rfl, hX, hB4, hb⟩ | ⟨hok, X, rfl, hX, hb⟩)
    · have HOK := Lib.hid hok
      have HXF := Lib.hid hX
      have HXI := Lib.hid hX.info
      have HXZ := Lib.hid (show zRec.size = X.size from zRecF.size.trans hX.size.symm)
      have HX1 := Lib.hid hX.one
      have HF4 := Lib.hid (blk_below HF3.out hb)
      have HZ4 := Lib.hid (blk_below HZ3.out hb)
      have HB4 := Lib.hid (below_step' HB3.out hb)
      obtain ⟨w5, hw5⟩ : ∃ w5, w4.alloc (.cells X 27) = w5 := ⟨_, rfl⟩
      have hb5 : Below w4.heap.size w4 w5 := hw5 ▸ below_alloc (Below.refl _ _) _
      have HG5 := Lib.hid (show w5.heap[w4.heap.size]? = some (.cells X 27 (0, 0)) from hw5 ▸ blk_new w4 _)
      have HF5 := Lib.hid (blk_below HF4.out hb5)
      have HZ5 := Lib.hid (blk_below HZ4.out hb5)
      have HB5 := Lib.hid (below_step' HB4.out hb5)
      have HBU5 := Lib.hid (show Buf w5 w.heap.size (.slice A4 (lF k y).length c4) (lF k y) from (hB4.lower HB3.out.size).below hb5)
      have hll : (lF k y).length ≤ 9223372036854775807 := by unfold lF; split <;> simp <;> omega
      have HRT := Lib.hid (fun (W : World) => right_any X k s (dF k y) (nmF k y) A4 (lF k y).length c4 (nF k y) (zF k y) W hX hll (nm_size k y hdl))
      have HRE1 := Lib.hid (show re = rightE k (lF k y).length (nmF k y).data.toList (nF k y) (zF k y) from by rw [HRE0.out]; unfold formE; rw [hok]; rfl)
      rw [← HRE1.out] at HRT
      clear hok hX hB4 hb hb5 hcf hw3 hll
      by_cases hre : re = 0
      · subst hre
        go_wp2_with (first | (refine wpList_box rfl rfl 27 _ _ rfl rfl X zRec zeroRec rfl rfl HXZ.out HXI.out HX1.out ?_) | (refine wpList_load_row rfl 27 _ rfl w4.heap.size rfl 27 X (0, 0) _ HG5.out Try.underlying27 rfl HXI.out ?_))
        refine (HRT.out w5).mono ?_
        rintro e w6 ⟨rfl, hb⟩
        have HF6 := Lib.hid (blk_below HF5.out hb)
        have HZ6 := Lib.hid (blk_below HZ5.out hb)
        have HG6 := Lib.hid (blk_below HG5.out hb)
        have HB6 := Lib.hid (below_step' HB5.out hb)
        have HBU6 := Lib.hid (HBU5.out.below hb)
        clear hb hw5
        go_wp2_with fail
        have HXL := Lib.hid HXF.out.infoL
        have hne1 : w.heap.size ≠ w4.heap.size := by have := blk_lt HZ4.out; omega
        have hne2 : w.heap.size ≠ w2.heap.size := by omega
        have hs0 : w6.drew.heap[w4.heap.size]? = some (.cells X 27 (0, 0)) ∧ w6.drew.heap[w2.heap.size]? = some (.cells #[.int .i64 (k : Int), .int .u64 (s : Int), .slice A2 y.length c2, .int .i64 en] 82 (0, 0)) := ⟨HG6.out, HF6.out⟩
        refine wp_region_held_drew (S := fun W => W.heap[w4.heap.size]? = some (.cells X 27 (0, 0)) ∧ W.heap[w2.heap.size]? = some (.cells #[.int .i64 (k : Int), .int .u64 (s : Int), .slice A2 y.length c2, .int .i64 en] 82 (0, 0))) (by kernel_rfl) hs0 (fun hHeld => ?_)
        refine wpAnyH_take (i := 0) (v := .agg X.toList.toArray) rfl (by kernel_rfl) (by kernel_rfl) (by kernel_rfl) (fun _ _ _ h => h) (yieldsIf_load_mid (by kernel_rfl) 27 _ rfl _ 0 rfl X.toList _ (fun W h => range_row h.1) Try.underlying27 rfl HXL.out) hHeld ?_
        simp only [List.getElem_toArray, List.getElem_cons_succ, List.getElem_cons_zero, Act.put, List.setIfInBounds_toArray, List.set_cons_zero, List.set_cons_succ]
        refine wpAnyH_take (i := 1) (v := _) rfl (by kernel_rfl) (by kernel_rfl) (by kernel_rfl) (fun _ _ _ h => h) (Or.inl ⟨by kernel_rfl, fun w _ => by go_simp <;> with_reducible rfl⟩) hHeld ?_
        simp only [List.getElem_toArray, List.getElem_cons_succ, List.getElem_cons_zero, Act.put, List.setIfInBounds_toArray, List.set_cons_zero, List.set_cons_succ]
        refine wpAnyH_take (i := 2) (v := .int .i64 en) rfl (by kernel_rfl) (by kernel_rfl) (by kernel_rfl) (fun _ _ _ h => h) (Or.inl ⟨by kernel_rfl, fun W h => by have q0 := blk_cell h.2 3; go_simp <;> with_reducible rfl⟩) hHeld ?_
        simp only [List.getElem_toArray, List.getElem_cons_succ, List.getElem_cons_zero, Act.put, List.setIfInBounds_toArray, List.set_cons_zero, List.set_cons_succ]
        refine wpAnyH_ready (rs := [3]) (by kernel_rfl) (by simp) ?_
        refine AllReadyH.cons rfl (fun K hK => ?_) AllReadyH.nil
        rw [if_pos (by rfl)]
        refine wp_store_row 27 (.tmp 4) (.tmp 42) rfl w.heap.size X rfl rfl 27 zRec HZ6.out HXI.out HXZ.out HX1.out ?_
        have hu := (upd_row (show w6.drew.heap[w.heap.size]? = some (.cells zRec 27 (0, 0)) from HZ6.out) X)
        have hs1 : (w6.drew.setRow w.heap.size X).heap[w4.heap.size]? = some (.cells X 27 (0, 0)) ∧ (w6.drew.setRow w.heap.size X).heap[w2.heap.size]? = some (.cells #[.int .i64 (k : Int), .int .u64 (s : Int), .slice A2 y.length c2, .int .i64 en] 82 (0, 0)) := ⟨(hu.off _ hne1.symm).trans HG6.out, (hu.off _ hne2.symm).trans HF6.out⟩
        obtain ⟨w7, hw7⟩ : ∃ w7, w6.drew.setRow w.heap.size X = w7 := ⟨_, rfl⟩
        rw [hw7] at hu hs1 ⊢
        have HF7 := Lib.hid hu.at_
        have HBF7 := Lib.hid (hu.to (Nat.le_refl _) (below_drew HB6.out))
        have HBU7 := Lib.hid (Rc.Buf.upd (show Buf w6.drew w.heap.size _ _ from HBU6.out) hu HZ6.out (by decide))
        clear hu hw7
        refine hK.out _ _ hs1 (fun hHeld => ?_)
        clear hK K
        try simp only [List.getElem_toArray, List.getElem_cons_succ, List.getElem_cons_zero, Act.put, List.setIfInBounds_toArray, List.set_cons_zero, List.set_cons_succ]
        refine wpAnyH_take (i := 4) (v := _) rfl (by kernel_rfl) (by kernel_rfl) (by kernel_rfl) (fun _ _ _ h => h) (Or.inl ⟨by kernel_rfl, fun w _ => by go_simp <;> with_reducible rfl⟩) hHeld ?_
        simp only [List.getElem_toArray, List.getElem_cons_succ, List.getElem_cons_zero, Act.put, List.setIfInBounds_toArray, List.set_cons_zero, List.set_cons_succ]
        refine wpAnyH_take (i := 5) (v := _) rfl (by kernel_rfl) (by kernel_rfl) (by kernel_rfl) (fun _ _ _ h => h) (Or.inl ⟨by kernel_rfl, fun w _ => by go_simp <;> with_reducible rfl⟩) hHeld ?_
        simp only [List.getElem_toArray, List.getElem_cons_succ, List.getElem_cons_zero, Act.put, List.setIfInBounds_toArray, List.set_cons_zero, List.set_cons_succ]
        refine wpAnyH_done (by kernel_rfl) ?_ _
        go_wp2_with fail
        refine bodyPost_ret_by (results_ctt rfl _ _ w.heap.size _ X (0, 0) _ rfl HF7.out Try.underlying27 rfl HXI.out) rfl ?_
        rw [HDF.out]
        exact .inl ⟨by trivial, X, A4, c4, rfl, HXF.out, HBU7.out, HBF7.out⟩
      · have hne : ((re : Int) != 0) = true := by rw [bne_iff_ne]; omega
        have HNE := Lib.hid hre
        clear hre
        go_wp2_with (first | (refine wpList_box rfl rfl 27 _ _ rfl rfl X zRec zeroRec rfl rfl HXZ.out HXI.out HX1.out ?_) | (refine wpList_load_row rfl 27 _ rfl w4.heap.size rfl 27 X (0, 0) _ HG5.out Try.underlying27 rfl HXI.out ?_))
        refine (HRT.out w5).mono ?_
        rintro e w6 ⟨rfl, hb⟩
        have HF6 := Lib.hid (blk_below HF5.out hb)
        have HZ6 := Lib.hid (blk_below HZ5.out hb)
        have HG6 := Lib.hid (blk_below HG5.out hb)
        have HB6 := Lib.hid (below_step' HB5.out hb)
        have HBU6 := Lib.hid (HBU5.out.below hb)
        clear hb hw5
        go_wp2_with (refine wpList_store_row rfl 27 (.tmp 4) (.tmp 40) rfl w.heap.size zRec rfl rfl 27 zRec HZ6.out zRecF.info rfl zRecF.one ?_; obtain ⟨w7, hw7⟩ : ∃ w', World.setRow w6 w.heap.size zRec = w' := ⟨_, rfl⟩; have hu := upd_row HZ6.out zRec; rw [hw7] at hu ⊢; have HF7 := Lib.hid hu.at_; have HBF7 := Lib.hid (hu.to (Nat.le_refl _) HB6.out); clear hu hw7)
        refine bodyPost_ret_by (results_ctt rfl _ _ w.heap.size _ zRec (0, 0) _ rfl HF7.out Try.underlying27 rfl zRecF.info) rfl ?_
        rw [HDF.out]
        exact .inr ⟨HNE.out, rfl, HBF7.out⟩
    · have HXI := Lib.hid hX.info
      have HXZ := Lib.hid (show zRec.size = X.size from zRecF.size.trans hX.size.symm)
      have HX1 := Lib.hid hX.one
      have HRE1 := Lib.hid (show re = 3 from by rw [HRE0.out]; unfold formE; rw [hok]; rfl)
      have HF4 := Lib.hid (blk_below HF3.out hb)
      have HZ4 := Lib.hid (blk_below HZ3.out hb)
      have HB4 := Lib.hid (below_step' HB3.out hb)
      obtain ⟨w5, hw5⟩ : ∃ w5, w4.alloc (.cells X 27) = w5 := ⟨_, rfl⟩
      have hb5 : Below w4.heap.size w4 w5 := hw5 ▸ below_alloc (Below.refl _ _) _
      have HG5 := Lib.hid (show w5.heap[w4.heap.size]? = some (.cells X 27 (0, 0)) from hw5 ▸ blk_new w4 _)
      have HF5 := Lib.hid (blk_below HF4.out hb5)
      have HZ5 := Lib.hid (blk_below HZ4.out hb5)
      have HB5 := Lib.hid (below_step' HB4.out hb5)
      clear hok hX hb hb5 hcf hw3
      go_wp2_with (first | (refine wpList_box rfl rfl 27 _ _ rfl rfl X zRec zeroRec rfl rfl HXZ.out HXI.out HX1.out ?_) | (refine wpList_store_row rfl 27 (.tmp 4) (.tmp 35) rfl w.heap.size zRec rfl rfl 27 zRec HZ5.out zRecF.info rfl zRecF.one ?_; obtain ⟨w7, hw7⟩ : ∃ w', World.setRow w5 w.heap.size zRec = w' := ⟨_, rfl⟩; have hu := upd_row HZ5.out zRec; rw [hw7] at hu ⊢; have HF7 := Lib.hid hu.at_; have HBF7 := Lib.hid (hu.to (Nat.le_refl _) HB5.out); clear hu hw7))
      refine bodyPost_ret_by (results_ctt rfl _ _ w.heap.size _ zRec (0, 0) _ rfl HF7.out Try.underlying27 rfl zRecF.info) rfl ?_
      rw [HDF.out, HRE1.out]
      exact .inr ⟨by decide, rfl, HBF7.out⟩
  · have hne : ((er : Int) != 0) = true := by rw [bne_iff_ne]; omega
    have HRE1 := Lib.hid (show re = er ∧ re ≠ 0 from by have h := HRE.out er rfl; rw [if_pos he] at h; exact ⟨h, by omega⟩)
    clear HRE HK he
    go_enter Try.func14, Try.ntmps14
    go_wp2_with (refine wpList_allocZ rfl 27 rfl zRec zeroRec ?_)
    refine HP.out.mono ?_
    rintro e w2 ⟨A2, c2, rfl, hc2, ho, hb⟩
    obtain ⟨w3, hw3⟩ : ∃ w3, w2.alloc (.cells #[.int .i64 (k : Int), .int .u64 (s : Int), .slice A2 y.length c2, .int .i64 en] 82) = w3 := ⟨_, rfl⟩
    have HF3 := Lib.hid (show w3.heap[w2.heap.size]? = some (.cells #[.int .i64 (k : Int), .int .u64 (s : Int), .slice A2 y.length c2, .int .i64 en] 82 (0, 0)) from hw3 ▸ blk_new w2 _)
    have hb3 : Below w2.heap.size w2 w3 := hw3 ▸ below_alloc (Below.refl _ _) _
    have HZ3 := Lib.hid (blk_below (blk_below HZ.out hb) hb3)
    have HB3 := Lib.hid (below_step' (below_step' HB0.out hb) hb3)
    have HO3 := Lib.hid (show Rd w3 A2 y from ho.rd.below hb3)
    have hlt2 : w.heap.size < w2.heap.size := blk_lt (blk_below HZ.out hb)
    have hcf := fun i => blk_cell HF3.out i
    clear ho hb hb3 hw1
    clear hcf
    go_wp2_with (refine wpList_store_row rfl 27 (.tmp 4) (.tmp 20) rfl w.heap.size zRec rfl rfl 27 zRec HZ3.out zRecF.info rfl zRecF.one ?_; obtain ⟨w7, hw7⟩ : ∃ w', World.setRow w3 w.heap.size zRec = w' := ⟨_, rfl⟩; have hu := upd_row HZ3.out zRec; rw [hw7] at hu ⊢; have HF7 := Lib.hid hu.at_; have HBF7 := Lib.hid (hu.to (Nat.le_refl _) HB3.out); clear hu hw7)
    refine bodyPost_ret_by (results_ctt rfl _ _ w.heap.size _ zRec (0, 0) _ rfl HF7.out Try.underlying27 rfl zRecF.info) rfl ?_
    rw [HDF.out]
    refine .inr ⟨HRE1.out.2, ?_, HBF7.out⟩
    rw [HRE1.out.1]
    rfl
end Go.Proofs.Ytceldlijbehkdaa.Rc
