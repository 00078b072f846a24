/- batches: the reference's Parse. -/
import Derived.Test.YtceldlijbehkdaaBtPar
import Derived.Test.YtceldlijbehkdaaRcRWord
import Derived.Test.YtceldlijbehkdaaRcRParse
set_option linter.unusedVariables false
set_option linter.unusedSimpArgs false
namespace Go.Proofs.Ytceldlijbehkdaa.Bt
open Go.RowKit Go.Proofs.YtceldlijbehkdaaW.PrintWords Go.Proofs.Ytceldlijbehkdaa.B Go.Proofs.Ytceldlijbehkdaa.Fx Go.Proofs.Ytceldlijbehkdaa.Fr Go.Proofs.Ytceldlijbehkdaa.O Go.Proofs.Ytceldlijbehkdaa.Rc
theorem zF_in (k : Int) (b : List UInt8) : 0 ≤ zF k b ∧ zF k b ≤ 4294967295 := by
  unfold zF numN
  split
  · split <;> omega
  · omega
set_option maxRecDepth 100000 in
set_option maxHeartbeats 6400000 in
theorem refbparse_any (A : Option Addr) (c : Nat) (b : List UInt8) (at_ sg : Int) (w : World) (hl : b.length ≤ 1000000000000) (hc : b.length ≤ c) (hr : Rd w A b) (hb : -9223372036854775808 ≤ at_ ∧ at_ ≤ 9223372036854775807) :
    Calls Try.prog 61 #[.slice A b.length c, .int .i64 at_, .int .i64 sg] w (BParsed (parL b at_ sg) w) := by
  obtain ⟨R, hR⟩ : ∃ R, parL b at_ sg = R := ⟨_, rfl⟩
  rw [hR]
  have HRD := Lib.hid hr
  have HPA := Lib.hid (fun (W : World) (p : Int) (h : Rd W A b) (hp : -9223372036854775808 ≤ p ∧ p ≤ 9223372036854775807) => Rc.refparse_any A c b p W (by omega) hc h hp)
  have HST := Lib.hid (show parF b at_ sg (b.length + 1) at_ [] = R from hR)
  have HDF := Lib.hid (show BParsed R w = fun e w' => ∃ v, e = .returned (.tuple #[v, .int .i64 R.2.1, .int .u64 R.2.2.1, .int .i64 R.2.2.2]) ∧ OwnW w' w.heap.size v R.1 ∧ Below w.heap.size w w' from rfl)
  clear hr hR
  go_enter Try.func61, Try.ntmps61
  go_wp2
  go_loopw [1, 10, 12] (fun a o nn wr => ∃ (q : Nat) (p : Int) (ow : List Wd), q ≤ b.length + 1 ∧ a = .int .i64 p ∧ nn = .int .i64 q ∧ Hid (OwnW wr w.heap.size o ow) ∧ Hid (Below w.heap.size w wr) ∧ Hid (parF b at_ sg (b.length + 1 - q) p ow = R) ∧ Hid ((ow.length = 0 ∧ p = at_) ∨ (0 ≤ at_ ∧ at_ + 21 * (ow.length : Int) ≤ p ∧ p ≤ (b.length : Int)))) (fun _ _ nn _ => b.length + 1 - (intOf nn).toNat)
  case atStart => exact ⟨0, at_, [], by omega, rfl, rfl, Lib.hid (OwnW.nil _ _), Lib.hid (by first | exact Below.refl _ _ | exact below_drew (Below.refl _ _)), HST, Lib.hid (Or.inl ⟨rfl, rfl⟩)⟩
  case round =>
    clear HST
    obtain ⟨q, p, ow, hq, rfl, rfl, HO, HB, HF, HINV⟩ := hrel
    have hpb : -9223372036854775808 ≤ p ∧ p ≤ 9223372036854775807 := by
      rcases HINV.out with h | h <;> omega
    by_cases hqb : q ≤ b.length
    · obtain ⟨f, hf⟩ : ∃ f, b.length + 1 - q = f + 1 := ⟨b.length - q, by omega⟩
      have HFQ := Lib.hid (show b.length + 1 - (q + 1) = f by omega)
      replace HF := Lib.hid (show parF b at_ sg (f + 1) p ow = R from hf ▸ HF.out)
      clear hf
      obtain ⟨A1, c1, rfl, -, hrw⟩ := HO.out.reads
      have HRW := Lib.hid hrw
      clear hrw
      go_wp2_with fail
      refine (HPA.out _ p (HRD.out.below HB.out) hpb).mono ?_
      rintro e w1 (⟨hre, X, A2, c2, rfl, hX, -, hb1⟩ | ⟨hre, rfl, hb1⟩)
      · have HB1 := Lib.hid (below_step' HB.out hb1)
        have HO1 := Lib.hid (HO.out.below hb1)
        have HRI := Lib.hid (rec_in hre)
        have hri := rec_in hre
        have hsl := seq_lt b p
        have hzb := zF_in (pKind b p) (pData b p)
        have hdl := pData_le b p
        have hkk := kind_of (rec_p hre)
        have HI := Lib.hid hX.info
        have HSZ := Lib.hid (show zRec.size = X.size by rw [hX.size]; rfl)
        have HONE := Lib.hid hX.one
        have h0 := hX.c0
        have h1 := hX.c1
        have h36 := hX.c36
        have h37 := hX.c37
        have HWD := Lib.hid (fun W => refword_any _ X _ _ _ _ _ _ _ _ sg p (pEnd b p - p) W hX (by have := lF_le (pKind b p) (pData b p); omega) (by omega))
        obtain ⟨W1, hW1⟩ : ∃ W, w1.alloc (.cells X 27) = W := ⟨_, rfl⟩
        have HG1 := Lib.hid (show W1.heap[w1.heap.size]? = some (.cells X 27 (0, 0)) from hW1 ▸ blk_new w1 _)
        have hbw : Below w1.heap.size w1 W1 := hW1 ▸ below_alloc (Below.refl _ _) _
        have HB2 := Lib.hid (below_step' HB1.out hbw)
        have HO2 := Lib.hid (HO1.out.below hbw)
        have HRW2 := Lib.hid ((HRW.out.below hb1).below hbw)
        have hcc := fun i => blk_cell HG1.out i
        have hff := fun i => blk_frozen HG1.out i
        have hzz := blk_lt HG1.out
        have HMB := Lib.hid (show mayB (pKind b p) = decide (((pKind b p : Nat) : Int) ≤ 5) by unfold mayB; simp [hkk.1])
        have HGO := Lib.hid (parF_go (frm := at_) (sg := sg) (f := f) (o := ow) hre)
        have HSQ := Lib.hid (parF_seq (frm := at_) (sg := sg) (f := f) (o := ow) hre)
        have HEN := Lib.hid (parF_end (frm := at_) (sg := sg) (f := f) (o := ow) hre)
        have HNO := Lib.hid (parF_no (frm := at_) (sg := sg) (f := f) (o := ow) hre)
        have HWF := Lib.hid (fun (Y : Array Value) (h : WordF Y (pKind b p) (pSeq b p) (dW (pKind b p) (dF (pKind b p) (pData b p))) (nmW (pKind b p) (nmF (pKind b p) (pData b p))) (zW (pKind b p) (lF (pKind b p) (pData b p)).length (zF (pKind b p) (pData b p))) sg p (pEnd b p - p)) => (show WdC (wdOf b p sg) Y.toList from h))
        have HLEN := Lib.hid (show (ow.length + 1) * 96 ≤ 140737488355328 by rcases HINV.out with h | h <;> omega)
        clear hX hbw hb1 hre hzb hdl
        generalize wdOf b p sg = x at *
        generalize dF (pKind b p) (pData b p) = df at *
        generalize nmF (pKind b p) (pData b p) = nmf at *
        generalize lF (pKind b p) (pData b p) = lf at *
        generalize nF (pKind b p) (pData b p) = n at *
        generalize zF (pKind b p) (pData b p) = z at *
        generalize pKind b p = k at *
        generalize pSeq b p = s at *
        generalize pEnd b p = en at *
        by_cases hz : ow.length = 0
        · have d0 : decide (0 < ow.length) = false := decide_eq_false (by omega)
          have hz2 : ¬ 0 < ow.length := by omega
          by_cases hk5 : (k : Int) ≤ 5
          · have hmb : mayB k = true := by rw [HMB.out]; exact decide_eq_true hk5
            have HF2 := Lib.hid (show parF b at_ sg f en (ow ++ [x]) = R from by rw [← HF.out]; exact (HGO.out (by simp [hz, hmb]) hmb).symm)
            have q3 : ((k : Int) == 6) = false := beq_eq_false_iff_ne.2 (by omega)
            have hk5n : ¬ (5 : Int) < (k : Int) := by omega
            clear HSQ HEN HNO HGO HMB hmb hz
            go_wp2_with (first | (refine wpList_box rfl rfl 27 _ _ rfl rfl X zRec zeroRec rfl rfl HSZ.out HI.out HONE.out ?_; rw [hW1]))
            go_quiet (fail)
            try rw [World.drewN_drewN]
            go_wp2_with (first | (refine wpList_box rfl rfl 27 _ _ rfl rfl X zRec zeroRec rfl rfl HSZ.out HI.out HONE.out ?_; rw [hW1]) | (refine wpList_load_row rfl 27 (.tmp 13) rfl w1.heap.size rfl 27 X (0, 0) _ HG1.out Try.underlying27 rfl HI.out ?_))
            refine (HWD.out _).mono ?_
            rintro e w3 ⟨Y, rfl, hY, hb3⟩
            have HYC := Lib.hid (HWF.out Y hY)
            have HYI := Lib.hid hY.info
            have HYZ := Lib.hid hY.size
            have HB3 := Lib.hid (below_step' (pw_below_drewN HB2.out _) hb3)
            have HO3 := Lib.hid ((HO2.out.below (pw_below_drewN (Below.refl _ _) _)).below hb3)
            clear hY hb3 hcc hff hzz hW1
            go_wp2_with (first | (refine wpList_buildOne rfl 62 50 (.tmp 92) rfl undWd Y zWord rfl HYI.out (by rw [HYZ.out]; decide) zeroWord ?_) | (at_builtin; go_loud (refine Kd.R_append kW (w0 := w) w.heap.size rfl (.tmp 84) (.tmp 93) 62 50 _ _ rfl undWd infoWdB rfl (by decide) (by decide) _ ow x Y.toList (fun _ => True) (fun _ => False) rfl rfl HYC.out (fun _ h => h.elim) (fun _ _ => trivial) HO3.out HB3.out HB3.out.size HLEN.out ?_); intro v4 w4 hown hb4 hg4 _; have HO4 := Lib.hid hown; have HB4 := Lib.hid hb4; clear hown hb4 hg4))
            go_roundw
            case rel =>
              exact ⟨q + 1, en, ow ++ [x], by omega, rfl, by go_num, HO4, HB4, Lib.hid (by rw [HFQ.out]; exact HF2.out), Lib.hid (Or.inr (by have h2 := HRI.out; rw [List.length_append]; rcases HINV.out with h | h <;> simp <;> omega))⟩
            case measure => simp [intOf]; omega
          · have hmb : mayB k = false := by rw [HMB.out]; exact decide_eq_false hk5
            have HF2 := Lib.hid (show ([], 0, 0, 3) = R from by rw [← HF.out]; exact (HSQ.out (Or.inl ⟨hz, hmb⟩)).symm)
            have hk5n : (5 : Int) < (k : Int) := by omega
            clear HSQ HEN HNO HGO HMB hmb hz
            by_cases h6 : (k : Int) = 6
            · have q3 : ((k : Int) == 6) = true := beq_iff_eq.2 h6
              clear h6
              go_wp2_with (first | (refine wpList_box rfl rfl 27 _ _ rfl rfl X zRec zeroRec rfl rfl HSZ.out HI.out HONE.out ?_; rw [hW1]))
              go_quiet (fail)
              try rw [World.drewN_drewN]
              go_wp2_with fail
              refine bodyPost_ret (results_tmp4 rfl _ _ _) rfl ?_
              rw [HDF.out]
              rw [← HF2.out]
              exact ⟨_, rfl, OwnW.nil _ _, pw_below_drewN HB2.out _⟩
            · have q3 : ((k : Int) == 6) = false := beq_eq_false_iff_ne.2 h6
              clear h6
              go_wp2_with (first | (refine wpList_box rfl rfl 27 _ _ rfl rfl X zRec zeroRec rfl rfl HSZ.out HI.out HONE.out ?_; rw [hW1]))
              go_quiet (fail)
              try rw [World.drewN_drewN]
              go_wp2_with fail
              refine bodyPost_ret (results_tmp4 rfl _ _ _) rfl ?_
              rw [HDF.out]
              rw [← HF2.out]
              exact ⟨_, rfl, OwnW.nil _ _, pw_below_drewN HB2.out _⟩
        · have d0 : decide (0 < ow.length) = true := decide_eq_true (by omega)
          have hz2 : 0 < ow.length := by omega
          by_cases hs : s = 0
          · have HF2 := Lib.hid (show ([], 0, 0, 3) = R from by rw [← HF.out]; exact (HSQ.out (Or.inr ⟨hz, Or.inl hs⟩)).symm)
            have q1 : decide (s < 1) = true := decide_eq_true (by omega)
            have q1b : decide (s = 0) = true := decide_eq_true (by omega)
            have q1c : decide ((s : Int) < 1) = true := decide_eq_true (by omega)
            clear HSQ HEN HNO HGO HMB hz hs
            go_wp2_with (first | (refine wpList_box rfl rfl 27 _ _ rfl rfl X zRec zeroRec rfl rfl HSZ.out HI.out HONE.out ?_; rw [hW1]))
            go_quiet (fail)
            try rw [World.drewN_drewN]
            go_wp2_with fail
            refine bodyPost_ret (results_tmp4 rfl _ _ _) rfl ?_
            rw [HDF.out]
            rw [← HF2.out]
            exact ⟨_, rfl, OwnW.nil _ _, pw_below_drewN HB2.out _⟩
          · have q1 : decide (s < 1) = false := decide_eq_false (by omega)
            have q1b : decide (s = 0) = false := decide_eq_false (by omega)
            have q1c : decide ((s : Int) < 1) = false := decide_eq_false (by omega)
            have hs1 : 1 ≤ s := by omega
            obtain ⟨m, hm⟩ : ∃ m, ow.length = m + 1 := ⟨ow.length - 1, by omega⟩
            have hml : m < ow.length := by omega
            have hmi : (ow.length : Int) - 1 = (m : Int) := by omega
            have hws : IntKind.u64.wrap ((s : Int) - 1) = (s : Int) - 1 := IntWalk.u64_in _ (by omega)
            have hwm : IntKind.i64.wrap (m : Int) = (m : Int) := IntWalk.i64_in _ (by rcases HINV.out with h | h <;> omega)
            obtain ⟨ad, XW, rfl, hXW, hcw, -, -, -⟩ := HRW2.out.walk m hml
            have hlast : (wd ow m).s = lastS ow := by unfold lastS; rw [hm]; rfl
            have hw1 := field_cell' (hcw 1 _ (show XW[1]? = some (.int .u64 ((lastS ow : Nat) : Int)) from by have h := WordF.c1 hXW; rw [hlast] at h; simpa using h))
            rw [Nat.zero_add] at hw1
            have HM1 := Lib.hid hm
            clear hm hXW hcw hlast
            by_cases hq : s - 1 = lastS ow
            · have q2 : (((s : Int) - 1) != (lastS ow : Int)) = false := by rw [bne_eq_false_iff_eq]; omega
              have hnn : ¬ ((ow.length = 0 ∧ mayB k = false) ∨ (ow.length ≠ 0 ∧ (s = 0 ∨ s - 1 ≠ lastS ow))) := by rintro (⟨h, -⟩ | ⟨-, h | h⟩) <;> omega
              by_cases hk5 : (k : Int) ≤ 5
              · have hmb : mayB k = true := by rw [HMB.out]; exact decide_eq_true hk5
                have HF2 := Lib.hid (show parF b at_ sg f en (ow ++ [x]) = R from by rw [← HF.out]; exact (HGO.out hnn hmb).symm)
                have q3 : ((k : Int) == 6) = false := beq_eq_false_iff_ne.2 (by omega)
                have hk5n : ¬ (5 : Int) < (k : Int) := by omega
                clear HSQ HEN HNO HGO HMB hmb hz hs hq hnn
                go_wp2_with (first | (refine wpList_box rfl rfl 27 _ _ rfl rfl X zRec zeroRec rfl rfl HSZ.out HI.out HONE.out ?_; rw [hW1]))
                go_quiet (fail)
                try rw [World.drewN_drewN]
                go_wp2_with (first | (refine wpList_box rfl rfl 27 _ _ rfl rfl X zRec zeroRec rfl rfl HSZ.out HI.out HONE.out ?_; rw [hW1]) | (refine wpList_load_row rfl 27 (.tmp 13) rfl w1.heap.size rfl 27 X (0, 0) _ HG1.out Try.underlying27 rfl HI.out ?_))
                refine (HWD.out _).mono ?_
                rintro e w3 ⟨Y, rfl, hY, hb3⟩
                have HYC := Lib.hid (HWF.out Y hY)
                have HYI := Lib.hid hY.info
                have HYZ := Lib.hid hY.size
                have HB3 := Lib.hid (below_step' (pw_below_drewN HB2.out _) hb3)
                have HO3 := Lib.hid ((HO2.out.below (pw_below_drewN (Below.refl _ _) _)).below hb3)
                clear hY hb3 hcc hff hzz hW1
                go_wp2_with (first | (refine wpList_buildOne rfl 62 50 (.tmp 92) rfl undWd Y zWord rfl HYI.out (by rw [HYZ.out]; decide) zeroWord ?_) | (at_builtin; go_loud (refine Kd.R_append kW (w0 := w) w.heap.size rfl (.tmp 84) (.tmp 93) 62 50 _ _ rfl undWd infoWdB rfl (by decide) (by decide) _ ow x Y.toList (fun _ => True) (fun _ => False) rfl rfl HYC.out (fun _ h => h.elim) (fun _ _ => trivial) HO3.out HB3.out HB3.out.size HLEN.out ?_); intro v4 w4 hown hb4 hg4 _; have HO4 := Lib.hid hown; have HB4 := Lib.hid hb4; clear hown hb4 hg4))
                go_roundw
                case rel =>
                  exact ⟨q + 1, en, ow ++ [x], by omega, rfl, by go_num, HO4, HB4, Lib.hid (by rw [HFQ.out]; exact HF2.out), Lib.hid (Or.inr (by have h2 := HRI.out; rw [List.length_append]; rcases HINV.out with h | h <;> simp <;> omega))⟩
                case measure => simp [intOf]; omega
              · have hmb : mayB k = false := by rw [HMB.out]; exact decide_eq_false hk5
                have hk5n : (5 : Int) < (k : Int) := by omega
                have hatp : 0 ≤ at_ ∧ at_ ≤ p := by rcases HINV.out with h | h <;> omega
                by_cases h6 : (k : Int) = 6 ∧ n = (ow.length : Int) ∧ z = p - at_
                · have HF2 := Lib.hid (show (ow, en, s, 0) = R from by rw [← HF.out]; exact (HEN.out hnn hmb h6).symm)
                  have q3 : ((k : Int) == 6) = true := beq_iff_eq.2 h6.1
                  have q4 : (n == (ow.length : Int)) = true := beq_iff_eq.2 h6.2.1
                  have q5 : (z == p - at_) = true := beq_iff_eq.2 h6.2.2
                  clear HSQ HEN HNO HGO HMB hz hs hq hnn h6 hmb
                  go_wp2_with (first | (refine wpList_box rfl rfl 27 _ _ rfl rfl X zRec zeroRec rfl rfl HSZ.out HI.out HONE.out ?_; rw [hW1]))
                  go_quiet (fail)
                  try rw [World.drewN_drewN]
                  go_wp2_with fail
                  go_quiet (fail)
                  try rw [World.drewN_drewN]
                  go_wp2_with fail
                  refine bodyPost_ret (results_tmp4 rfl _ _ _) rfl ?_
                  rw [HDF.out, ← HF2.out]
                  exact ⟨_, rfl, HO2.out.below (pw_below_drewN (Below.refl _ _) _), pw_below_drewN HB2.out _⟩
                · have HF2 := Lib.hid (show ([], 0, 0, 3) = R from by rw [← HF.out]; exact (HNO.out hnn hmb h6).symm)
                  clear HSQ HEN HNO HGO HMB hs hq hnn hmb hz
                  by_cases h61 : (k : Int) = 6
                  · have q3 : ((k : Int) == 6) = true := beq_iff_eq.2 h61
                    by_cases h62 : n = (ow.length : Int)
                    · have q4 : (n == (ow.length : Int)) = true := beq_iff_eq.2 h62
                      have q5 : (z == p - at_) = false := beq_eq_false_iff_ne.2 (fun h => h6 ⟨h61, h62, h⟩)
                      clear h6 h61 h62
                      go_wp2_with (first | (refine wpList_box rfl rfl 27 _ _ rfl rfl X zRec zeroRec rfl rfl HSZ.out HI.out HONE.out ?_; rw [hW1]))
                      go_quiet (fail)
                      try rw [World.drewN_drewN]
                      go_wp2_with fail
                      refine bodyPost_ret (results_tmp4 rfl _ _ _) rfl ?_
                      rw [HDF.out]
                      rw [← HF2.out]
                      exact ⟨_, rfl, OwnW.nil _ _, pw_below_drewN HB2.out _⟩
                    · have q4 : (n == (ow.length : Int)) = false := beq_eq_false_iff_ne.2 h62
                      clear h6 h61 h62
                      go_wp2_with (first | (refine wpList_box rfl rfl 27 _ _ rfl rfl X zRec zeroRec rfl rfl HSZ.out HI.out HONE.out ?_; rw [hW1]))
                      go_quiet (fail)
                      try rw [World.drewN_drewN]
                      go_wp2_with fail
                      refine bodyPost_ret (results_tmp4 rfl _ _ _) rfl ?_
                      rw [HDF.out]
                      rw [← HF2.out]
                      exact ⟨_, rfl, OwnW.nil _ _, pw_below_drewN HB2.out _⟩
                  · have q3 : ((k : Int) == 6) = false := beq_eq_false_iff_ne.2 h61
                    clear h6 h61
                    go_wp2_with (first | (refine wpList_box rfl rfl 27 _ _ rfl rfl X zRec zeroRec rfl rfl HSZ.out HI.out HONE.out ?_; rw [hW1]))
                    go_quiet (fail)
                    try rw [World.drewN_drewN]
                    go_wp2_with fail
                    refine bodyPost_ret (results_tmp4 rfl _ _ _) rfl ?_
                    rw [HDF.out]
                    rw [← HF2.out]
                    exact ⟨_, rfl, OwnW.nil _ _, pw_below_drewN HB2.out _⟩
            · have q2 : (((s : Int) - 1) != (lastS ow : Int)) = true := bne_iff_ne.2 (by omega)
              have HF2 := Lib.hid (show ([], 0, 0, 3) = R from by rw [← HF.out]; exact (HSQ.out (Or.inr ⟨hz, Or.inr hq⟩)).symm)
              clear HSQ HEN HNO HGO HMB hz hs hq
              go_wp2_with (first | (refine wpList_box rfl rfl 27 _ _ rfl rfl X zRec zeroRec rfl rfl HSZ.out HI.out HONE.out ?_; rw [hW1]))
              go_quiet (fail)
              try rw [World.drewN_drewN]
              go_wp2_with fail
              refine bodyPost_ret (results_tmp4 rfl _ _ _) rfl ?_
              rw [HDF.out]
              rw [← HF2.out]
              exact ⟨_, rfl, OwnW.nil _ _, pw_below_drewN HB2.out _⟩
      · have HF2 := Lib.hid (show ([], 0, 0, recE b p) = R from by rw [← HF.out]; exact (parF_err hre).symm)
        have HB1 := Lib.hid (below_step' HB.out hb1)
        have HBA := Lib.hid (below_step' HB1.out (below_alloc (Below.refl w1.heap.size w1) (.cells zRec 27)))
        generalize recE b p = re at *
        have hne : ((re : Int) != 0) = true := bne_iff_ne.2 (by omega)
        have HI := Lib.hid zRecF.info
        have HONE := Lib.hid zRecF.one
        clear hre hb1
        go_wp2_with (first | (refine wpList_box rfl rfl 27 _ _ rfl rfl zRec zRec zeroRec rfl rfl rfl HI.out HONE.out ?_))
        refine bodyPost_ret (results_tmp4 rfl _ _ _) rfl ?_
        rw [HDF.out, ← HF2.out]
        exact ⟨_, rfl, OwnW.nil _ _, HBA.out⟩
    · have HF2 := Lib.hid (show ([], 0, 0, 3) = R from by rw [← HF.out, show b.length + 1 - q = 0 by omega]; rfl)
      go_wp2_with fail
      refine bodyPost_ret (results_tmp4 rfl _ _ _) rfl ?_
      rw [HDF.out, ← HF2.out]
      exact ⟨_, rfl, OwnW.nil _ _, HB.out⟩
end Go.Proofs.Ytceldlijbehkdaa.Bt
