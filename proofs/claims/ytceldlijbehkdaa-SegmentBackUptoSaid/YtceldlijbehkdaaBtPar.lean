/- batches: the walk of Parse. -/
import Derived.Test.YtceldlijbehkdaaBtPk
set_option linter.unusedVariables false
set_option linter.unusedSimpArgs false
namespace Go.Proofs.Ytceldlijbehkdaa.Bt
open Go.RowKit Go.Proofs.YtceldlijbehkdaaW.PrintWords Go.Proofs.Ytceldlijbehkdaa.B Go.Proofs.Ytceldlijbehkdaa.Fx Go.Proofs.Ytceldlijbehkdaa.Fr Go.Proofs.Ytceldlijbehkdaa.O Go.Proofs.Ytceldlijbehkdaa.Rc
set_option maxRecDepth 100000 in
set_option maxHeartbeats 6400000 in
theorem bparse_any (A : Option Addr) (c : Nat) (b : List UInt8) (at_ sg : Int) (w : World) (hl : b.length ≤ 1000000000000) (hc : b.length ≤ c) (hr : Rd w A b) (hb : -9223372036854775808 ≤ at_ ∧ at_ ≤ 9223372036854775807) :
    Calls Try.prog 33 #[.slice A b.length c, .int .i64 at_, .int .i64 sg] w (BParsed (parL b at_ sg) w) := by
  obtain ⟨R, hR⟩ : ∃ R, parL b at_ sg = R := ⟨_, rfl⟩
  rw [hR]
  have HRD := Lib.hid hr
  have HPA := Lib.hid (fun (W : World) (p : Int) (h : Rd W A b) (hp : -9223372036854775808 ≤ p ∧ p ≤ 9223372036854775807) => Rc.parse_any A c b p W (by omega) hc h hp)
  have HST := Lib.hid (show parF b at_ sg (b.length + 1) at_ [] = R from hR)
  have HDF := Lib.hid (show BParsed R w = fun e w' => ∃ v, e = .returned (.tuple #[v, .int .i64 R.2.1, .int .u64 R.2.2.1, .int .i64 R.2.2.2]) ∧ OwnW w' w.heap.size v R.1 ∧ Below w.heap.size w w' from rfl)
  clear hr hR
  go_enter Try.func33, Try.ntmps33
  go_wp2
  go_step3
  go_wp2
  go_step3
  go_wp2
  go_loopw [1, 10, 12, 13] (fun a o ls e wr => ∃ (f : Nat) (p : Int) (ow : List Wd), a = .int .i64 p ∧ ls = .int .u64 (lastS ow) ∧ e = .int .i64 3 ∧ Hid (OwnW wr w.heap.size o ow) ∧ Hid (Below w.heap.size w wr) ∧ Hid (parF b at_ sg (f + 1) p ow = R) ∧ Hid (b.length ≤ f + p.toNat) ∧ Hid ((ow.length = 0 ∧ p = at_) ∨ (0 ≤ at_ ∧ at_ + 21 * (ow.length : Int) ≤ p ∧ p ≤ (b.length : Int)))) (fun a _ _ _ _ => b.length - (intOf a).toNat)
  case atStart => exact ⟨b.length, at_, [], rfl, rfl, rfl, Lib.hid (OwnW.nil _ _), Lib.hid (by first | exact Below.refl _ _ | exact below_drew (Below.refl _ _)), HST, Lib.hid (by omega), Lib.hid (Or.inl ⟨rfl, rfl⟩)⟩
  case round =>
    clear HST
    obtain ⟨f, p, ow, rfl, rfl, rfl, HO, HB, HF, HFU, HINV⟩ := hrel
    have hpb : -9223372036854775808 ≤ p ∧ p ≤ 9223372036854775807 := by
      rcases HINV.out with h | h <;> omega
    obtain ⟨A1, c1, rfl, -, -⟩ := HO.out.reads
    go_wp2_with fail
    refine (HPA.out _ p (HRD.out.below HB.out) hpb).mono ?_
    rintro e w1 (⟨hre, X, A2, c2, rfl, hX, -, hb1⟩ | ⟨hre, rfl, hb1⟩)
    · have HB1 := Lib.hid (below_step' HB.out hb1)
      have HO1 := Lib.hid (HO.out.below hb1)
      have HRI := Lib.hid (rec_in hre)
      have hri := rec_in hre
      have hsl := seq_lt b p
      have HI := Lib.hid hX.info
      have HSZ := Lib.hid (show zRec.size = X.size by rw [hX.size]; rfl)
      have HONE := Lib.hid hX.one
      have h0 := hX.c0
      have h1 := hX.c1
      have h36 := hX.c36
      have h37 := hX.c37
      have HWD := Lib.hid (fun W => word_any _ X _ _ _ _ _ _ _ _ sg p (pEnd b p - p) W hX)
      have HMY := Lib.hid (fun W => may_still (pKind b p) W)
      obtain ⟨W1, hW1⟩ : ∃ W, w1.alloc (.cells X 27) = W := ⟨_, rfl⟩
      have HG1 := Lib.hid (show W1.heap[w1.heap.size]? = some (.cells X 27 (0, 0)) from hW1 ▸ blk_new w1 _)
      have hbw : Below w1.heap.size w1 W1 := hW1 ▸ below_alloc (Below.refl _ _) _
      have HB2 := Lib.hid (below_step' HB1.out hbw)
      have HO2 := Lib.hid (HO1.out.below hbw)
      have hcc := fun i => blk_cell HG1.out i
      have hff := fun i => blk_frozen HG1.out i
      have hzz := blk_lt HG1.out
      have HGO := Lib.hid (parF_go (frm := at_) (sg := sg) (f := f) (o := ow) hre)
      have HSQ := Lib.hid (parF_seq (frm := at_) (sg := sg) (f := f) (o := ow) hre)
      have HEN := Lib.hid (parF_end (frm := at_) (sg := sg) (f := f) (o := ow) hre)
      have HNO := Lib.hid (parF_no (frm := at_) (sg := sg) (f := f) (o := ow) hre)
      have HLS := Lib.hid (show lastS (ow ++ [wdOf b p sg]) = pSeq b p from lastS_snoc ow _)
      have HWF := Lib.hid (fun (Y : Array Value) (h : WordF Y (pKind b p) (pSeq b p) (dW (pKind b p) (dF (pKind b p) (pData b p))) (nmW (pKind b p) (nmF (pKind b p) (pData b p))) (zW (pKind b p) (lF (pKind b p) (pData b p)).length (zF (pKind b p) (pData b p))) sg p (pEnd b p - p)) => (show WdC (wdOf b p sg) Y.toList from h))
      have HLEN := Lib.hid (show (ow.length + 1) * 96 ≤ 140737488355328 by rcases HINV.out with h | h <;> omega)
      have hpf : 0 ≤ p - at_ ∧ p - at_ ≤ 1000000000000 ∨ True := Or.inr trivial
      clear hX hbw hb1 hre hpf
      generalize wdOf b p sg = x at *
      generalize dF (pKind b p) (pData b p) = df at *
      generalize nmF (pKind b p) (pData b p) = nmf at *
      generalize lF (pKind b p) (pData b p) = lf at *
      generalize nF (pKind b p) (pData b p) = n at *
      generalize zF (pKind b p) (pData b p) = z at *
      generalize pKind b p = k at *
      generalize pSeq b p = s at *
      generalize pEnd b p = en at *
      by_cases hz : ow.length = 0
      · have q0 : ((ow.length : Int) == 0) = true := by simp [hz]
        by_cases hmb : mayB k = true
        · have HF2 := Lib.hid (show parF b at_ sg f en (ow ++ [x]) = R from by rw [← HF.out]; exact (HGO.out (by simp [hz, hmb]) hmb).symm)
          have HMT := Lib.hid (fun W => (show Calls Try.prog 57 #[.int .i64 k] W (Still (.bool true) W) from by rw [← hmb]; exact HMY.out W))
          clear hmb
          clear HSQ HEN HNO HGO hz
          go_wp2_with (first | (refine wpList_box rfl rfl 27 _ _ rfl rfl X zRec zeroRec rfl rfl HSZ.out HI.out HONE.out ?_; rw [hW1]))
          refine (HMT.out _).mono ?_
          rintro e w99 ⟨rfl, hw99⟩
          rw [hw99]
          clear hw99
          go_wp2_with fail
          refine (HMT.out _).mono ?_
          rintro e w99 ⟨rfl, hw99⟩
          rw [hw99]
          clear hw99
          have HG2 := fun (W : World) (h : Below W1.heap.size W1 W) => blk_below HG1.out h
          go_wp2_with (first | (refine wpList_load_row rfl 27 (.tmp 14) rfl w1.heap.size rfl 27 X (0, 0) _ HG1.out Try.underlying27 rfl HI.out ?_))
          refine (HWD.out _).mono ?_
          rintro e w3 ⟨Y, rfl, hY, hb3⟩
          have HYC := Lib.hid (HWF.out Y hY)
          have HYI := Lib.hid hY.info
          have HYZ := Lib.hid hY.size
          have HB3 := Lib.hid (below_step' HB2.out hb3)
          have HO3 := Lib.hid (HO2.out.below hb3)
          have hg3 := blk_below HG1.out hb3
          have HG3 := Lib.hid hg3
          have HG4 := Lib.hid (fun (w4 : World) (h : w3.grownBy w4 (Value.slice A1 ow.length c1).ownBlock) => (h.block _ (blk_lt hg3) (Kd.R_ne HO3.out hg3 (by decide))).trans hg3)
          clear hY hb3 hg3 HG2 hcc hff hzz hW1
          go_wp2_with (first | (refine wpList_buildOne rfl 62 50 (.tmp 69) rfl undWd Y zWord rfl HYI.out (by rw [HYZ.out]; decide) zeroWord ?_) | (at_builtin; go_loud (refine Kd.R_append kW (w0 := w) w.heap.size rfl (.tmp 61) (.tmp 70) 62 50 _ _ rfl undWd infoWdB rfl (by decide) (by decide) _ ow x Y.toList (fun _ => True) (fun _ => False) rfl rfl HYC.out (fun _ h => h.elim) (fun _ _ => trivial) HO3.out HB3.out HB3.out.size HLEN.out ?_); intro v4 w4 hown hb4 hg4 _; have HO4 := Lib.hid hown; have HB4 := Lib.hid hb4; have HX4 := Lib.hid (HG4.out w4 hg4); clear hown hb4 hg4; have hcc := fun i => blk_cell HX4.out i; have hff := fun i => blk_frozen HX4.out i; have hzz := blk_lt HX4.out))
          go_roundw
          case rel =>
            obtain ⟨f, rfl⟩ : ∃ g, f = g + 1 := ⟨f - 1, by have h1 := HFU.out; have h2 := HRI.out; omega⟩
            exact ⟨f, en, ow ++ [x], rfl, by rw [HLS.out], rfl, HO4, HB4, HF2, Lib.hid (by have h1 := HFU.out; have h2 := HRI.out; omega), Lib.hid (Or.inr (by have h2 := HRI.out; rw [List.length_append]; rcases HINV.out with h | h <;> simp <;> omega))⟩
          case measure => have h2 := HRI.out; simp [intOf]; omega
        · have hmb : mayB k = false := by simpa using hmb
          have HF2 := Lib.hid (show ([], 0, 0, 3) = R from by rw [← HF.out]; exact (HSQ.out (Or.inl ⟨hz, hmb⟩)).symm)
          have HMT := Lib.hid (fun W => (show Calls Try.prog 57 #[.int .i64 k] W (Still (.bool false) W) from by rw [← hmb]; exact HMY.out W))
          clear hmb
          clear HSQ HEN HNO HGO hz
          go_wp2_with (first | (refine wpList_box rfl rfl 27 _ _ rfl rfl X zRec zeroRec rfl rfl HSZ.out HI.out HONE.out ?_; rw [hW1]))
          refine (HMT.out _).mono ?_
          rintro e w99 ⟨rfl, hw99⟩
          rw [hw99]
          clear hw99
          go_wp2_with fail
          (try rw [Exit.noGoto_ret])
          refine bodyPost_ret (results_tmp4 rfl _ _ _) rfl ?_
          rw [HDF.out]
          rw [← HF2.out]
          exact ⟨_, rfl, OwnW.nil _ _, HB2.out⟩
      · have q0 : ((ow.length : Int) == 0) = false := beq_eq_false_iff_ne.2 (by omega)
        by_cases hs : s = 0
        · have HF2 := Lib.hid (show ([], 0, 0, 3) = R from by rw [← HF.out]; exact (HSQ.out (Or.inr ⟨hz, Or.inl hs⟩)).symm)
          have q1 : ((s : Int) == 0) = true := by simp [hs]
          clear HSQ HEN HNO HGO hz hs
          go_wp2_with (first | (refine wpList_box rfl rfl 27 _ _ rfl rfl X zRec zeroRec rfl rfl HSZ.out HI.out HONE.out ?_; rw [hW1]))
          (try rw [Exit.noGoto_ret])
          refine bodyPost_ret (results_tmp4 rfl _ _ _) rfl ?_
          rw [HDF.out]
          rw [← HF2.out]
          exact ⟨_, rfl, OwnW.nil _ _, HB2.out⟩
        · have q1 : ((s : Int) == 0) = false := beq_eq_false_iff_ne.2 (by omega)
          have hs1 : 1 ≤ s := by omega
          by_cases hq : s - 1 = lastS ow
          · have q2 : (((s : Int) - 1) != (lastS ow : Int)) = false := by rw [bne_eq_false_iff_eq]; omega
            have hnn : ¬ ((ow.length = 0 ∧ mayB k = false) ∨ (ow.length ≠ 0 ∧ (s = 0 ∨ s - 1 ≠ lastS ow))) := by rintro (⟨h, -⟩ | ⟨-, h | h⟩) <;> omega
            by_cases hmb : mayB k = true
            · have HF2 := Lib.hid (show parF b at_ sg f en (ow ++ [x]) = R from by rw [← HF.out]; exact (HGO.out hnn hmb).symm)
              have HMT := Lib.hid (fun W => (show Calls Try.prog 57 #[.int .i64 k] W (Still (.bool true) W) from by rw [← hmb]; exact HMY.out W))
              clear hmb
              clear HSQ HEN HNO HGO hz hs hq hnn
              go_wp2_with (first | (refine wpList_box rfl rfl 27 _ _ rfl rfl X zRec zeroRec rfl rfl HSZ.out HI.out HONE.out ?_; rw [hW1]))
              refine (HMT.out _).mono ?_
              rintro e w99 ⟨rfl, hw99⟩
              rw [hw99]
              clear hw99
              have HG2 := fun (W : World) (h : Below W1.heap.size W1 W) => blk_below HG1.out h
              go_wp2_with (first | (refine wpList_load_row rfl 27 (.tmp 14) rfl w1.heap.size rfl 27 X (0, 0) _ HG1.out Try.underlying27 rfl HI.out ?_))
              refine (HWD.out _).mono ?_
              rintro e w3 ⟨Y, rfl, hY, hb3⟩
              have HYC := Lib.hid (HWF.out Y hY)
              have HYI := Lib.hid hY.info
              have HYZ := Lib.hid hY.size
              have HB3 := Lib.hid (below_step' HB2.out hb3)
              have HO3 := Lib.hid (HO2.out.below hb3)
              have hg3 := blk_below HG1.out hb3
              have HG3 := Lib.hid hg3
              have HG4 := Lib.hid (fun (w4 : World) (h : w3.grownBy w4 (Value.slice A1 ow.length c1).ownBlock) => (h.block _ (blk_lt hg3) (Kd.R_ne HO3.out hg3 (by decide))).trans hg3)
              clear hY hb3 hg3 HG2 hcc hff hzz hW1
              go_wp2_with (first | (refine wpList_buildOne rfl 62 50 (.tmp 69) rfl undWd Y zWord rfl HYI.out (by rw [HYZ.out]; decide) zeroWord ?_) | (at_builtin; go_loud (refine Kd.R_append kW (w0 := w) w.heap.size rfl (.tmp 61) (.tmp 70) 62 50 _ _ rfl undWd infoWdB rfl (by decide) (by decide) _ ow x Y.toList (fun _ => True) (fun _ => False) rfl rfl HYC.out (fun _ h => h.elim) (fun _ _ => trivial) HO3.out HB3.out HB3.out.size HLEN.out ?_); intro v4 w4 hown hb4 hg4 _; have HO4 := Lib.hid hown; have HB4 := Lib.hid hb4; have HX4 := Lib.hid (HG4.out w4 hg4); clear hown hb4 hg4; have hcc := fun i => blk_cell HX4.out i; have hff := fun i => blk_frozen HX4.out i; have hzz := blk_lt HX4.out))
              go_roundw
              case rel =>
                obtain ⟨f, rfl⟩ : ∃ g, f = g + 1 := ⟨f - 1, by have h1 := HFU.out; have h2 := HRI.out; omega⟩
                exact ⟨f, en, ow ++ [x], rfl, by rw [HLS.out], rfl, HO4, HB4, HF2, Lib.hid (by have h1 := HFU.out; have h2 := HRI.out; omega), Lib.hid (Or.inr (by have h2 := HRI.out; rw [List.length_append]; rcases HINV.out with h | h <;> simp <;> omega))⟩
              case measure => have h2 := HRI.out; simp [intOf]; omega
            · have hmb : mayB k = false := by simpa using hmb
              have hmb2 := hmb
              have HMT := Lib.hid (fun W => (show Calls Try.prog 57 #[.int .i64 k] W (Still (.bool false) W) from by rw [← hmb]; exact HMY.out W))
              clear hmb
              by_cases h6 : (k : Int) = 6 ∧ n = (ow.length : Int) ∧ z = p - at_
              · have HF2 := Lib.hid (show (ow, en, s, 0) = R from by rw [← HF.out]; exact (HEN.out hnn hmb2 h6).symm)
                have q3 : ((k : Int) != 6) = false := by rw [bne_eq_false_iff_eq]; exact h6.1
                have q4 : (n != (ow.length : Int)) = false := by rw [bne_eq_false_iff_eq]; exact h6.2.1
                have q5 : (z != IntKind.i64.wrap (p - at_)) = false := by rw [bne_eq_false_iff_eq, IntWalk.i64_in _ (by rcases HINV.out with h | h <;> omega)]; exact h6.2.2
                have q6 : IntKind.i64.wrap (p - at_) = p - at_ := IntWalk.i64_in _ (by rcases HINV.out with h | h <;> omega)
                clear HSQ HEN HNO HGO hz hs hq hnn h6 hmb2
                go_wp2_with (first | (refine wpList_box rfl rfl 27 _ _ rfl rfl X zRec zeroRec rfl rfl HSZ.out HI.out HONE.out ?_; rw [hW1]))
                refine (HMT.out _).mono ?_
                rintro e w99 ⟨rfl, hw99⟩
                rw [hw99]
                clear hw99
                go_wp2_with fail
                go_quiet (fail)
                try rw [World.drewN_drewN]
                go_wp2_with fail
                (try rw [Exit.noGoto_ret])
                refine bodyPost_ret (results_tmp4 rfl _ _ _) rfl ?_
                rw [HDF.out, ← HF2.out]
                exact ⟨_, rfl, HO2.out.below (pw_below_drewN (Below.refl _ _) _), pw_below_drewN HB2.out _⟩
              · have HF2 := Lib.hid (show ([], 0, 0, 3) = R from by rw [← HF.out]; exact (HNO.out hnn hmb2 h6).symm)
                have q6 : IntKind.i64.wrap (p - at_) = p - at_ := IntWalk.i64_in _ (by rcases HINV.out with h | h <;> omega)
                clear HSQ HEN HNO HGO hs hq hnn hmb2
                by_cases h61 : (k : Int) = 6
                · have q3 : ((k : Int) != 6) = false := by rw [bne_eq_false_iff_eq]; exact h61
                  by_cases h62 : n = (ow.length : Int)
                  · have q4 : (n != (ow.length : Int)) = false := by rw [bne_eq_false_iff_eq]; exact h62
                    have q5 : (z != p - at_) = true := bne_iff_ne.2 (fun h => h6 ⟨h61, h62, h⟩)
                    clear h6 h61 h62 hz
                    go_wp2_with (first | (refine wpList_box rfl rfl 27 _ _ rfl rfl X zRec zeroRec rfl rfl HSZ.out HI.out HONE.out ?_; rw [hW1]))
                    refine (HMT.out _).mono ?_
                    rintro e w99 ⟨rfl, hw99⟩
                    rw [hw99]
                    clear hw99
                    go_wp2_with fail
                    (try rw [Exit.noGoto_ret])
                    refine bodyPost_ret (results_tmp4 rfl _ _ _) rfl ?_
                    rw [HDF.out]
                    rw [← HF2.out]
                    exact ⟨_, rfl, OwnW.nil _ _, HB2.out⟩
                  · have q4 : (n != (ow.length : Int)) = true := bne_iff_ne.2 h62
                    clear h6 h61 h62 hz
                    go_wp2_with (first | (refine wpList_box rfl rfl 27 _ _ rfl rfl X zRec zeroRec rfl rfl HSZ.out HI.out HONE.out ?_; rw [hW1]))
                    refine (HMT.out _).mono ?_
                    rintro e w99 ⟨rfl, hw99⟩
                    rw [hw99]
                    clear hw99
                    go_wp2_with fail
                    (try rw [Exit.noGoto_ret])
                    refine bodyPost_ret (results_tmp4 rfl _ _ _) rfl ?_
                    rw [HDF.out]
                    rw [← HF2.out]
                    exact ⟨_, rfl, OwnW.nil _ _, HB2.out⟩
                · have q3 : ((k : Int) != 6) = true := bne_iff_ne.2 h61
                  clear h6 h61 hz
                  go_wp2_with (first | (refine wpList_box rfl rfl 27 _ _ rfl rfl X zRec zeroRec rfl rfl HSZ.out HI.out HONE.out ?_; rw [hW1]))
                  refine (HMT.out _).mono ?_
                  rintro e w99 ⟨rfl, hw99⟩
                  rw [hw99]
                  clear hw99
                  go_wp2_with fail
                  (try rw [Exit.noGoto_ret])
                  refine bodyPost_ret (results_tmp4 rfl _ _ _) rfl ?_
                  rw [HDF.out]
                  rw [← HF2.out]
                  exact ⟨_, rfl, OwnW.nil _ _, HB2.out⟩
          · have q2 : (((s : Int) - 1) != (lastS ow : Int)) = true := bne_iff_ne.2 (by omega)
            have HF2 := Lib.hid (show ([], 0, 0, 3) = R from by rw [← HF.out]; exact (HSQ.out (Or.inr ⟨hz, Or.inr hq⟩)).symm)
            clear HSQ HEN HNO HGO hz hs hq
            go_wp2_with (first | (refine wpList_box rfl rfl 27 _ _ rfl rfl X zRec zeroRec rfl rfl HSZ.out HI.out HONE.out ?_; rw [hW1]))
            (try rw [Exit.noGoto_ret])
            refine bodyPost_ret (results_tmp4 rfl _ _ _) rfl ?_
            rw [HDF.out]
            rw [← HF2.out]
            exact ⟨_, rfl, OwnW.nil _ _, HB2.out⟩
    · have HF2 := Lib.hid (show ([], 0, 0, recE b p) = R from by rw [← HF.out]; exact (parF_err hre).symm)
      have HB1 := Lib.hid (below_step' HB.out hb1)
      have HBA := Lib.hid (below_step' HB1.out (below_alloc (Below.refl w1.heap.size w1) (.cells zRec 27)))
      generalize recE b p = re at *
      have hne : ((re : Int) != 0) = true := bne_iff_ne.2 (by omega)
      have HI := Lib.hid zRecF.info
      have HONE := Lib.hid zRecF.one
      clear hre hb1
      go_wp2_with (first | (refine wpList_box rfl rfl 27 _ _ rfl rfl zRec zRec zeroRec rfl rfl rfl HI.out HONE.out ?_))
      (try rw [Exit.noGoto_ret])
      refine bodyPost_ret (results_tmp4 rfl _ _ _) rfl ?_
      rw [HDF.out, ← HF2.out]
      exact ⟨_, rfl, OwnW.nil _ _, HBA.out⟩
end Go.Proofs.Ytceldlijbehkdaa.Bt
