/- law14: RecordBack. -/
import Derived.Test.YtceldlijbehkdaaRcMakes
set_option linter.unusedVariables false
set_option linter.unusedSimpArgs false
namespace Go.Proofs.Ytceldlijbehkdaa.Rc
open Go.RowKit Go.Proofs.YtceldlijbehkdaaW.PrintWords Go.Proofs.Ytceldlijbehkdaa.B Go.Proofs.Ytceldlijbehkdaa.Fx Go.Proofs.Ytceldlijbehkdaa.Fr
theorem rd_bare {k : Int} {w : World} {A : Option Addr} {l : List UInt8} (h : Rd w A l) : Rd w (AB k A) (lB k l) := by
  unfold AB lB
  split
  · exact h
  · exact Rd.nil w
theorem fback {k : Int} {s : Nat} {d l : List UInt8} {nm : ByteArray} {n z : Int} (hs : s < 18446744073709551616) (hd : d.length = 32) (h : rightE k l.length nm.data.toList n z = 0) (m : List UInt8) (hm : makeR k s d nm.data.toList l n z = m) :
    recE m 0 = 0 ∧ fK m 0 = k ∧ fS m 0 = s ∧ fD m 0 = dB k d ∧ fNm m 0 = nmB k nm ∧ fL m 0 = lB k l ∧ fN m 0 = nB k n ∧ fZ m 0 = zB k z ∧ fEnd m 0 = m.length := by
  obtain ⟨h1, h2, h3, h4, h5⟩ := parse_back (a := []) (t := []) hs hd h m (by rw [List.append_nil, List.nil_append]; exact hm.symm)
  obtain ⟨-, g2, g3, g4, g5, g6⟩ := data_back hd h
  rw [show ((([] : List UInt8).length : Nat) : Int) = 0 from rfl] at h1 h2 h3 h4 h5
  refine ⟨h1, ?_, ?_, ?_, ?_, ?_, ?_, ?_, ?_⟩
  · unfold fK; rw [if_pos h1]; exact h2
  · unfold fS; rw [if_pos h1]; exact h3
  · unfold fD; rw [if_pos h1, h2, h4, g2]
  · unfold fNm; rw [if_pos h1, h2, h4, g3]
  · unfold fL; rw [if_pos h1, h2, h4, g4]
  · unfold fN; rw [if_pos h1, h2, h4, g5]
  · unfold fZ; rw [if_pos h1, h2, h4, g6]
  · unfold fEnd; rw [if_pos h1, h5, hm]; omega
theorem fmake {b : List UInt8} {p : Int} (h : recE b p = 0) : rightE (fK b p) (fL b p).length (fNm b p).data.toList (fN b p) (fZ b p) = 0 ∧ makeR (fK b p) (fS b p) (fD b p) (fNm b p).data.toList (fL b p) (fN b p) (fZ b p) = (b.take (fEnd b p).toNat).drop p.toNat ∧ 0 ≤ p ∧ p ≤ fEnd b p ∧ fEnd b p ≤ b.length := by
  obtain ⟨h1, h2, h3⟩ := rec_ok h
  obtain ⟨q1, q2, q3, q4⟩ := back_make h
  unfold fK fS fD fNm fL fN fZ fEnd
  simp only [h, if_true]
  exact ⟨h3, q4, q1, q2, q3⟩
theorem fS_lt (b : List UInt8) (p : Int) : fS b p < 18446744073709551616 := by
  unfold fS; split
  · exact seq_lt b p
  · decide
theorem fNm_size (b : List UInt8) (p : Int) : (fNm b p).size ≤ 140737488355328 := by
  unfold fNm; split
  · exact nm_size _ _ (pData_le b p)
  · decide
set_option maxRecDepth 100000 in
set_option maxHeartbeats 6400000 in
theorem back_any (X : Array Value) (k : Int) (s : Nat) (d : List UInt8) (nm : ByteArray) (A : Option Addr) (l : List UInt8) (c : Nat) (n z : Int) (Ab : Option Addr) (cb : Nat) (b : List UInt8) (p : Int) (w : World) (hX : RecF X k s d nm A l.length c n z) (hr : Rd w A l) (hs : s < 18446744073709551616) (hnm : nm.size ≤ 140737488355328) (hll : l.length ≤ 140737488355328) (hrb : Rd w Ab b) (hcb : b.length ≤ cb) (hlb : b.length ≤ 140737488354000) (hp : -9223372036854775808 ≤ p ∧ p ≤ 9223372036854775807) :
    Calls Try.prog 5 #[.agg X, .slice Ab b.length cb, .int .i64 p] w (Kept (.bool true) w) := by
  obtain ⟨w1, hw1⟩ : ∃ w1, w.alloc (.cells X 27) = w1 := ⟨_, rfl⟩
  have hg : w1.heap[w.heap.size]? = some (.cells X 27 (0, 0)) := hw1 ▸ blk_new w _
  have hb0 : Below w.heap.size w w1 := hw1 ▸ below_alloc (Below.refl _ _) _
  have HG := Lib.hid hg
  have HB1 := Lib.hid hb0
  have HX := Lib.hid hX
  have HXI := Lib.hid hX.info
  have HXL := Lib.hid hX.infoL
  have HR := Lib.hid (hr.below hb0)
  have HRB := Lib.hid hrb
  have hml := makeR_len (k := k) (s := s) (nm := nm.data.toList) (l := l) (n := n) (z := z) hX.dl
  have HM1 := Lib.hid (make_any X k s d nm A l c n z w1 hX (hr.below hb0) hs hnm)
  have HKI := Lib.hid (fun (h : rightE k l.length nm.data.toList n z = 0) => kind_in h)
  have HFB := Lib.hid (fun (h : rightE k l.length nm.data.toList n z = 0) (m : List UInt8) (hm : makeR k s d nm.data.toList l n z = m) => fback hs hX.dl h m hm)
  have HPB := Lib.hid (fun (W : World) (h : Rd W Ab b) => (parse_any Ab cb b p W hlb hcb h hp).mono fun e w' h => h.all)
  unfold RAll at HPB
  have HFM := Lib.hid (fun (h : recE b p = 0) => fmake h)
  have hfl := fL_len b p
  have hfs := fS_lt b p
  have hfn := fNm_size b p
  clear hg hb0 hr hs hnm hX hrb hp
  obtain ⟨m, hm⟩ : ∃ m, makeR k s d nm.data.toList l n z = m := ⟨_, rfl⟩
  have HME := Lib.hid hm
  rw [hm] at HM1 hml
  generalize rightE k l.length nm.data.toList n z = er at *
  generalize fK b p = bk at *
  generalize fS b p = bs at *
  generalize fD b p = bd at *
  generalize fNm b p = bn at *
  generalize fL b p = bl at *
  generalize fN b p = bN at *
  generalize fZ b p = bZ at *
  generalize fEnd b p = be at *
  generalize recE b p = br at *
  clear hm
  by_cases he : er = 0
  · subst he
    obtain ⟨f1, f2, f3, f4, f5, f6, f7, f8, f9⟩ := HFB.out rfl m HME.out
    have hki := HKI.out rfl
    go_enter Try.func5, Try.ntmps5
    go_wp2_with (refine wpList_load_row rfl 27 (.tmp 3) rfl w.heap.size rfl 27 X (0, 0) _ HG.out Try.underlying27 rfl HXI.out ?_)
    refine HM1.out.mono ?_
    rintro e w2 ⟨v2, rfl, ho, hb⟩
    obtain ⟨A2, c2, rfl, hc2, hr2⟩ := ho.reads
    have HR2 := Lib.hid (HR.out.below hb)
    have HG2 := Lib.hid (blk_below HG.out hb)
    have HB2 := Lib.hid (below_step' HB1.out hb)
    have HQ2 := Lib.hid hr2
    clear ho hb hr2 hw1
    have HPM := Lib.hid ((parse_any A2 c2 m 0 w2 (by omega) hc2 HQ2.out (by decide)).mono fun e w' h => h.all)
    unfold RAll at HPM
    rw [f1, f2, f3, f4, f5, f6, f7, f8, f9] at HPM
    clear f1 f2 f3 f4 f5 f6 f7 f8 f9
    go_wp2_with fail
    refine HPM.out.mono ?_
    rintro e w3 ⟨X3, A3, c3, rfl, hX3, hB3, hb⟩
    obtain ⟨w4, hw4⟩ : ∃ w', World.alloc w3 (.cells X3 27) = w' := ⟨_, rfl⟩
    have hbw4 : Below w3.heap.size w3 w4 := hw4 ▸ below_alloc (Below.refl _ _) _
    have HUI := Lib.hid hX3.info
    have HUZ := Lib.hid (show zRec.size = X3.size from zRecF.size.trans hX3.size.symm)
    have HU1 := Lib.hid hX3.one
    have HUL := Lib.hid hX3.infoL
    have HUF := Lib.hid hX3
    have HUG := Lib.hid (show w4.heap[w3.heap.size]? = some (.cells X3 27 (0, 0)) from hw4 ▸ blk_new w3 _)
    have HG4 := Lib.hid (blk_below (blk_below HG2.out hb) hbw4)
    have HB4 := Lib.hid (below_step' (below_step' HB2.out hb) hbw4)
    have HRD4 := Lib.hid ((Buf.rd hB3).below hbw4)
    have HR4 := Lib.hid ((HR2.out.below hb).below hbw4)
    have hlb2 : (lB k l).length ≤ 140737488355328 := by unfold lB; split; exact hll; simp
    have HBA := Lib.hid (fun (W : World) => bare_any k X s d nm A l c n z W hki HX.out)
    unfold Bared at HBA
    clear hX3 hB3 hb hbw4
    go_wp2_with (refine wpList_box rfl rfl 27 _ _ rfl rfl X3 zRec zeroRec rfl rfl HUZ.out HUI.out HU1.out ?_)
    clear hw4
    have hx0 : Below w4.heap.size w4 w4.drew := below_drew (Below.refl _ _)
    refine wp_region_held_drew (S := fun W => Below w4.heap.size w4 W) (by kernel_rfl) hx0 (fun hHeld => ?_)
    refine wpAnyH_take (i := 0) (v := _) rfl (by kernel_rfl) (by kernel_rfl) (by kernel_rfl) (fun _ _ _ h => h) (Or.inl ⟨by kernel_rfl, fun w _ => by go_simp <;> with_reducible rfl⟩) hHeld ?_
    simp only [List.getElem_toArray, List.getElem_cons_succ, List.getElem_cons_zero, Act.put, List.setIfInBounds_toArray, List.set_cons_zero, List.set_cons_succ]
    refine wpAnyH_take (i := 1) (v := _) rfl (by kernel_rfl) (by kernel_rfl) (by kernel_rfl) (fun _ _ _ h => h) (Or.inl ⟨by kernel_rfl, fun w _ => by go_simp <;> with_reducible rfl⟩) hHeld ?_
    simp only [List.getElem_toArray, List.getElem_cons_succ, List.getElem_cons_zero, Act.put, List.setIfInBounds_toArray, List.set_cons_zero, List.set_cons_succ]
    refine wpAnyH_take (i := 2) (v := _) rfl (by kernel_rfl) (by kernel_rfl) (by kernel_rfl) (fun _ _ _ h => h) (Or.inl ⟨by kernel_rfl, fun w _ => by go_simp <;> with_reducible rfl⟩) hHeld ?_
    simp only [List.getElem_toArray, List.getElem_cons_succ, List.getElem_cons_zero, Act.put, List.setIfInBounds_toArray, List.set_cons_zero, List.set_cons_succ]
    refine wpAnyH_take (i := 3) (v := _) rfl (by kernel_rfl) (by kernel_rfl) (by kernel_rfl) (fun _ _ _ h => h) (Or.inl ⟨by kernel_rfl, fun w _ => by go_simp <;> with_reducible rfl⟩) hHeld ?_
    simp only [List.getElem_toArray, List.getElem_cons_succ, List.getElem_cons_zero, Act.put, List.setIfInBounds_toArray, List.set_cons_zero, List.set_cons_succ]
    refine wpAnyH_take (i := 4) (v := _) rfl (by kernel_rfl) (by kernel_rfl) (by kernel_rfl) (fun _ _ _ h => h) (Or.inl ⟨by kernel_rfl, fun w _ => by go_simp <;> with_reducible rfl⟩) hHeld ?_
    simp only [List.getElem_toArray, List.getElem_cons_succ, List.getElem_cons_zero, Act.put, List.setIfInBounds_toArray, List.set_cons_zero, List.set_cons_succ]
    refine wpAnyH_take (i := 5) (v := _) rfl (by kernel_rfl) (by kernel_rfl) (by kernel_rfl) (fun _ _ _ h => h) (Or.inl ⟨by kernel_rfl, fun w _ => by go_simp <;> with_reducible rfl⟩) hHeld ?_
    simp only [List.getElem_toArray, List.getElem_cons_succ, List.getElem_cons_zero, Act.put, List.setIfInBounds_toArray, List.set_cons_zero, List.set_cons_succ]
    refine wpAnyH_take (i := 6) (v := _) rfl (by kernel_rfl) (by kernel_rfl) (by kernel_rfl) (fun _ _ _ h => h) (Or.inl ⟨by kernel_rfl, fun w _ => by go_simp <;> with_reducible rfl⟩) hHeld ?_
    simp only [List.getElem_toArray, List.getElem_cons_succ, List.getElem_cons_zero, Act.put, List.setIfInBounds_toArray, List.set_cons_zero, List.set_cons_succ]
    refine wpAnyH_take (i := 7) (v := _) rfl (by kernel_rfl) (by kernel_rfl) (by kernel_rfl) (fun _ _ _ h => h) (Or.inl ⟨by kernel_rfl, fun w _ => by go_simp <;> with_reducible rfl⟩) hHeld ?_
    simp only [List.getElem_toArray, List.getElem_cons_succ, List.getElem_cons_zero, Act.put, List.setIfInBounds_toArray, List.set_cons_zero, List.set_cons_succ]
    refine wpAnyH_take (i := 8) (v := _) rfl (by kernel_rfl) (by kernel_rfl) (by kernel_rfl) (fun _ _ _ h => h) (Or.inl ⟨by kernel_rfl, fun w _ => by go_simp <;> with_reducible rfl⟩) hHeld ?_
    simp only [List.getElem_toArray, List.getElem_cons_succ, List.getElem_cons_zero, Act.put, List.setIfInBounds_toArray, List.set_cons_zero, List.set_cons_succ]
    refine wpAnyH_take (i := 9) (v := .agg X3.toList.toArray) rfl (by kernel_rfl) (by kernel_rfl) (by kernel_rfl) (fun _ _ _ h => h) (yieldsIf_load_mid (by kernel_rfl) 27 _ rfl _ 0 rfl X3.toList _ (fun W h => range_row (blk_below HUG.out h)) Try.underlying27 rfl HUL.out) hHeld ?_
    simp only [List.getElem_toArray, List.getElem_cons_succ, List.getElem_cons_zero, Act.put, List.setIfInBounds_toArray, List.set_cons_zero, List.set_cons_succ]
    refine wpAnyH_take (i := 10) (v := .agg X.toList.toArray) rfl (by kernel_rfl) (by kernel_rfl) (by kernel_rfl) (fun _ _ _ h => h) (yieldsIf_load_mid (by kernel_rfl) 27 _ rfl _ 0 rfl X.toList _ (fun W h => range_row (blk_below HG4.out h)) Try.underlying27 rfl HXL.out) hHeld ?_
    simp only [List.getElem_toArray, List.getElem_cons_succ, List.getElem_cons_zero, Act.put, List.setIfInBounds_toArray, List.set_cons_zero, List.set_cons_succ]
    refine wpAnyH_ready (rs := [11]) (by kernel_rfl) (by simp) ?_
    refine AllReadyH.cons rfl (fun K hK => ?_) ?_
    case refine_2 => exact AllReadyH.nil
    go_simp
    refine (HBA.out _).mono ?_
    rintro e x2 ⟨B, rfl, hBF, hb⟩
    have HBF := Lib.hid hBF
    refine hK.out _ _ (below_step' hHeld hb) (fun hHeld => ?_)
    clear hK K
    try simp only [List.getElem_toArray, List.getElem_cons_succ, List.getElem_cons_zero, Act.put, List.setIfInBounds_toArray, List.set_cons_zero, List.set_cons_succ]
    clear hb hBF
    refine wpAnyH_ready (rs := [12]) (by kernel_rfl) (by simp) ?_
    refine AllReadyH.cons rfl (fun K hK => ?_) ?_
    case refine_2 => exact AllReadyH.nil
    go_simp
    refine (same_yes X3 B k s (dB k d) (nmB k nm) A3 (AB k A) (lB k l) c3 (cB k c) (nB k n) (zB k z) _ HUF.out HBF.out (HRD4.out.below hHeld) (rd_bare (HR4.out.below hHeld)) hlb2).mono ?_
    rintro e x3 ⟨rfl, hb⟩
    refine hK.out _ _ (below_step' hHeld hb) (fun hHeld => ?_)
    clear hK K
    try simp only [List.getElem_toArray, List.getElem_cons_succ, List.getElem_cons_zero, Act.put, List.setIfInBounds_toArray, List.set_cons_zero, List.set_cons_succ]
    clear hb
    refine wpAnyH_take (i := 13) (v := _) rfl (by kernel_rfl) (by kernel_rfl) (by kernel_rfl) (fun _ _ _ h => h) (Or.inl ⟨by kernel_rfl, fun w _ => by go_simp <;> with_reducible rfl⟩) hHeld ?_
    simp only [List.getElem_toArray, List.getElem_cons_succ, List.getElem_cons_zero, Act.put, List.setIfInBounds_toArray, List.set_cons_zero, List.set_cons_succ]
    refine wpAnyH_take (i := 14) (v := _) rfl (by kernel_rfl) (by kernel_rfl) (by kernel_rfl) (fun _ _ _ h => h) (Or.inl ⟨by kernel_rfl, fun w _ => by go_simp <;> with_reducible rfl⟩) hHeld ?_
    simp only [List.getElem_toArray, List.getElem_cons_succ, List.getElem_cons_zero, Act.put, List.setIfInBounds_toArray, List.set_cons_zero, List.set_cons_succ]
    refine wpAnyH_done (by kernel_rfl) ?_ _
    have HB5' := Lib.hid (below_step' HB4.out hHeld)
    go_wp2_with fail
    have HRW := Lib.hid (HRB.out.below HB5'.out)
    refine (HPB.out _ HRW.out).mono ?_
    rintro e y1 ⟨X5, A5, c5, rfl, hX5, hB5, hb⟩
    obtain ⟨y2, hy2⟩ : ∃ w', World.alloc y1 (.cells X5 27) = w' := ⟨_, rfl⟩
    have hby2 : Below y1.heap.size y1 y2 := hy2 ▸ below_alloc (Below.refl _ _) _
    have HVI := Lib.hid hX5.info
    have HVZ := Lib.hid (show zRec.size = X5.size from zRecF.size.trans hX5.size.symm)
    have HV1 := Lib.hid hX5.one
    have HVL := Lib.hid hX5.infoL
    have HVF := Lib.hid hX5
    have HVG := Lib.hid (show y2.heap[y1.heap.size]? = some (.cells X5 27 (0, 0)) from hy2 ▸ blk_new y1 _)
    have HB5 := Lib.hid (below_step' (below_step' HB5'.out hb) hby2)
    have HRD5 := Lib.hid ((Buf.rd hB5).below hby2)
    by_cases hbr : br = 0
    · subst hbr
      obtain ⟨r1, r2, r3, r4, r5⟩ := HFM.out rfl
      have HMB := Lib.hid (fun (W : World) (h : Rd W A5 bl) => make_any X5 bk bs bd bn A5 bl c5 bN bZ W HVF.out h hfs hfn)
      obtain ⟨A6, y6, c6, hy6, hcut6, hrd6, hyc6, hyl6⟩ := cutM (A := Ab) (l := b) (c := cb) p be r3 r4 r5 hcb
      rw [r2, ← hy6.out] at HMB
      rw [r1] at HMB
      have hy6l : y6.length ≤ 140737488355328 := by omega
      have HR6 := Lib.hid (fun (W : World) (h : Below w.heap.size w W) => hrd6 W (HRB.out.below h))
      clear hX5 hB5 hb hby2 r1 r2 r3 r4 r5 hy6 hrd6 hyl6
      go_wp2_with (first | (refine wpList_box rfl rfl 27 _ _ rfl rfl X5 zRec zeroRec rfl rfl HVZ.out HVI.out HV1.out ?_) | (refine wpList_load_row rfl 27 (.tmp 12) rfl y1.heap.size rfl 27 X5 (0, 0) _ HVG.out Try.underlying27 rfl HVI.out ?_))
      refine (HMB.out y2 HRD5.out).mono ?_
      rintro e y3 ⟨v3, rfl, ho, hb⟩
      obtain ⟨A7, c7, rfl, -, hr7⟩ := ho.reads
      have HB7 := Lib.hid (below_step' HB5.out hb)
      have HS7 := Lib.hid (show Calls Try.prog 21 #[.slice A7 y6.length c7, .slice A6 y6.length c6] y3 (Quiet (.bool true) y3) from by have h := R01.same_any A7 c7 y6 A6 c6 y6 y3 hy6l hr7 (HR6.out y3 HB7.out); rwa [show R01.sameB y6 y6 = true from decide_eq_true rfl] at h)
      clear ho hb hr7 hy2
      go_wp2_with fail
      refine HS7.out.mono ?_
      rintro e y4 ⟨rfl, q4, hy4⟩
      have HB8 := Lib.hid (show Below w.heap.size w y4 from hy4 ▸ pw_below_drewN HB7.out q4)
      clear hy4
      go_wp2_with fail
      refine (lives_any y4).mono ?_
      rintro e y5 ⟨rfl, hb⟩
      have HB9 := Lib.hid (below_step' HB8.out hb)
      clear hb
      go_wp2_with fail
      go_ret
      exact ⟨rfl, HB9.out⟩
    · have hne : ((br : Int) != 0) = true := by rw [bne_iff_ne]; omega
      clear hX5 hB5 hb hby2 hbr
      go_wp2_with (refine wpList_box rfl rfl 27 _ _ rfl rfl X5 zRec zeroRec rfl rfl HVZ.out HVI.out HV1.out ?_)
      refine (lives_any y2).mono ?_
      rintro e y5 ⟨rfl, hb⟩
      have HB9 := Lib.hid (below_step' HB5.out hb)
      clear hb
      go_wp2_with fail
      go_ret
      exact ⟨rfl, HB9.out⟩
  · have hne0 : ((er : Int) == 0) = false := by rw [beq_eq_false_iff_ne]; omega
    clear HFB HKI he
    go_enter Try.func5, Try.ntmps5
    go_wp2_with (refine wpList_load_row rfl 27 (.tmp 3) rfl w.heap.size rfl 27 X (0, 0) _ HG.out Try.underlying27 rfl HXI.out ?_)
    refine HM1.out.mono ?_
    rintro e w2 ⟨v2, rfl, ho, hb⟩
    obtain ⟨A2, c2, rfl, hc2, hr2⟩ := ho.reads
    have HR2 := Lib.hid (HR.out.below hb)
    have HG2 := Lib.hid (blk_below HG.out hb)
    have HB2 := Lib.hid (below_step' HB1.out hb)
    have HQ2 := Lib.hid hr2
    clear ho hb hr2 hw1
    go_wp2_with fail
    have HRW := Lib.hid (HRB.out.below HB2.out)
    refine (HPB.out _ HRW.out).mono ?_
    rintro e y1 ⟨X5, A5, c5, rfl, hX5, hB5, hb⟩
    obtain ⟨y2, hy2⟩ : ∃ w', World.alloc y1 (.cells X5 27) = w' := ⟨_, rfl⟩
    have hby2 : Below y1.heap.size y1 y2 := hy2 ▸ below_alloc (Below.refl _ _) _
    have HVI := Lib.hid hX5.info
    have HVZ := Lib.hid (show zRec.size = X5.size from zRecF.size.trans hX5.size.symm)
    have HV1 := Lib.hid hX5.one
    have HVL := Lib.hid hX5.infoL
    have HVF := Lib.hid hX5
    have HVG := Lib.hid (show y2.heap[y1.heap.size]? = some (.cells X5 27 (0, 0)) from hy2 ▸ blk_new y1 _)
    have HB5 := Lib.hid (below_step' (below_step' HB2.out hb) hby2)
    have HRD5 := Lib.hid ((Buf.rd hB5).below hby2)
    by_cases hbr : br = 0
    · subst hbr
      obtain ⟨r1, r2, r3, r4, r5⟩ := HFM.out rfl
      have HMB := Lib.hid (fun (W : World) (h : Rd W A5 bl) => make_any X5 bk bs bd bn A5 bl c5 bN bZ W HVF.out h hfs hfn)
      obtain ⟨A6, y6, c6, hy6, hcut6, hrd6, hyc6, hyl6⟩ := cutM (A := Ab) (l := b) (c := cb) p be r3 r4 r5 hcb
      rw [r2, ← hy6.out] at HMB
      rw [r1] at HMB
      have hy6l : y6.length ≤ 140737488355328 := by omega
      have HR6 := Lib.hid (fun (W : World) (h : Below w.heap.size w W) => hrd6 W (HRB.out.below h))
      clear hX5 hB5 hb hby2 r1 r2 r3 r4 r5 hy6 hrd6 hyl6
      go_wp2_with (first | (refine wpList_box rfl rfl 27 _ _ rfl rfl X5 zRec zeroRec rfl rfl HVZ.out HVI.out HV1.out ?_) | (refine wpList_load_row rfl 27 (.tmp 12) rfl y1.heap.size rfl 27 X5 (0, 0) _ HVG.out Try.underlying27 rfl HVI.out ?_))
      refine (HMB.out y2 HRD5.out).mono ?_
      rintro e y3 ⟨v3, rfl, ho, hb⟩
      obtain ⟨A7, c7, rfl, -, hr7⟩ := ho.reads
      have HB7 := Lib.hid (below_step' HB5.out hb)
      have HS7 := Lib.hid (show Calls Try.prog 21 #[.slice A7 y6.length c7, .slice A6 y6.length c6] y3 (Quiet (.bool true) y3) from by have h := R01.same_any A7 c7 y6 A6 c6 y6 y3 hy6l hr7 (HR6.out y3 HB7.out); rwa [show R01.sameB y6 y6 = true from decide_eq_true rfl] at h)
      clear ho hb hr7 hy2
      go_wp2_with fail
      refine HS7.out.mono ?_
      rintro e y4 ⟨rfl, q4, hy4⟩
      have HB8 := Lib.hid (show Below w.heap.size w y4 from hy4 ▸ pw_below_drewN HB7.out q4)
      clear hy4
      go_wp2_with fail
      refine (lives_any y4).mono ?_
      rintro e y5 ⟨rfl, hb⟩
      have HB9 := Lib.hid (below_step' HB8.out hb)
      clear hb
      go_wp2_with fail
      go_ret
      exact ⟨rfl, HB9.out⟩
    · have hne : ((br : Int) != 0) = true := by rw [bne_iff_ne]; omega
      clear hX5 hB5 hb hby2 hbr
      go_wp2_with (refine wpList_box rfl rfl 27 _ _ rfl rfl X5 zRec zeroRec rfl rfl HVZ.out HVI.out HV1.out ?_)
      refine (lives_any y2).mono ?_
      rintro e y5 ⟨rfl, hb⟩
      have HB9 := Lib.hid (below_step' HB5.out hb)
      clear hb
      go_wp2_with fail
      go_ret
      exact ⟨rfl, HB9.out⟩
theorem back_row (cs : Array Value) (x : RecV) (Ab : Option Addr) (cb : Nat) (b : List UInt8) (p : Int) (w : World) (hK : kRec.K w x cs.toList)
    (hS : ∀ nm, cs.toList[34]? = some (.string nm) → nm.size ≤ 140737488351232) (hY : ∀ A n k, cs.toList[35]? = some (.slice A n k) → n * 1 ≤ 140737488351232) (hrb : Rd w Ab b) (hcb : b.length ≤ cb) (hlb : b.length ≤ 140737488354000) (hp : -9223372036854775808 ≤ p ∧ p ≤ 9223372036854775807) :
    Calls Try.prog 5 #[.agg cs, .slice Ab b.length cb, .int .i64 p] w (Kept (.bool true) w) := by
  obtain ⟨A, c, hF, hc, hr⟩ := kRec_cells hK
  have h1 := hS _ (by rw [Array.getElem?_toList]; exact hF.c34)
  have h2 := hY _ _ _ (by rw [Array.getElem?_toList]; exact hF.c35)
  exact back_any _ _ _ _ _ _ _ _ _ _ _ _ _ _ _ hF hr x.2.1.toNat_lt (by omega) (by omega) hrb hcb hlb hp
end Go.Proofs.Ytceldlijbehkdaa.Rc
