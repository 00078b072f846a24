/- stillageref16.Scan. -/
import Derived.Test.YtceldlijbehkdaaSgScan
import Derived.Test.YtceldlijbehkdaaBtRPar
set_option linter.unusedVariables false
set_option linter.unusedSimpArgs false
namespace Go.Proofs.Ytceldlijbehkdaa.Sg
open Go.RowKit Go.Proofs.YtceldlijbehkdaaW.PrintWords Go.Proofs.Ytceldlijbehkdaa.B Go.Proofs.Ytceldlijbehkdaa.Fx Go.Proofs.Ytceldlijbehkdaa.Fr Go.Proofs.Ytceldlijbehkdaa.O Go.Proofs.Ytceldlijbehkdaa.Rc Go.Proofs.Ytceldlijbehkdaa.Bt
theorem foot_good {b : List UInt8} {x : Sc} (h : isFoot b x.en = true) (h2 : x.q < pSeq b x.en ∧ nF (pKind b x.en) (pData b x.en) = (x.ws.length : Int) ∧ zF (pKind b x.en) (pData b x.en) = x.en ∧ pEnd b x.en = (b.length : Int)) : footS b x = ⟨x.ws, pSeq b x.en, pEnd b x.en, true, pEnd b x.en, x.er⟩ := by
  unfold footS; rw [if_neg (by simp [h]), if_pos (show goodFoot b x = true from decide_eq_true h2)]
theorem foot_bad {b : List UInt8} {x : Sc} (h : isFoot b x.en = true) (h2 : ¬ (x.q < pSeq b x.en ∧ nF (pKind b x.en) (pData b x.en) = (x.ws.length : Int) ∧ zF (pKind b x.en) (pData b x.en) = x.en ∧ pEnd b x.en = (b.length : Int))) : footS b x = ⟨x.ws, x.q, x.en, x.sl, x.at_, 3⟩ := by
  unfold footS; rw [if_neg (by simp [h]), if_neg (by rw [show goodFoot b x = false from decide_eq_false h2]; decide)]
set_option maxRecDepth 100000 in
set_option maxHeartbeats 25600000 in
theorem refscan_any (A : Option Addr) (c : Nat) (b : List UInt8) (n : Int) (w : World) (hl : b.length ≤ 1000000000000) (hc : b.length ≤ c) (hr : Rd w A b) :
    Calls Try.prog 37 #[.slice A b.length c, .int .i64 n] w (Scanned (scanL b n) w) := by
  obtain ⟨R, hR⟩ : ∃ R, scanL b n = R := ⟨_, rfl⟩
  rw [hR]
  have HDF := Lib.hid (show Scanned R w = fun e w' => ∃ v, e = .returned (.agg (ScC v R)) ∧ OwnW w' w.heap.size v R.ws ∧ Below w.heap.size w w' from rfl)
  obtain ⟨w1, hw1⟩ : ∃ w1, (w.alloc (.cells #[.slice none 0 0, .int .u64 0, .int .i64 0, .bool false, .int .i64 0, .int .i64 0] 69)).alloc (.cells #[.slice none 0 0, .int .u64 0, .int .i64 0, .bool false, .int .i64 0, .int .i64 0] 69) = w1 := ⟨_, rfl⟩
  obtain ⟨hz, hg, hb0⟩ := run_blk2 w #[.slice none 0 0, .int .u64 0, .int .i64 0, .bool false, .int .i64 0, .int .i64 0] #[.slice none 0 0, .int .u64 0, .int .i64 0, .bool false, .int .i64 0, .int .i64 0] 69 69
  rw [hw1] at hg hz hb0
  have HG1 := Lib.hid hg
  have HZ1 := Lib.hid hz
  have HB1 := Lib.hid hb0
  have HO1 := Lib.hid (OwnW.nil w1 w.heap.size)
  have HLE := Lib.hid (show w.heap.size ≤ w.heap.size + 1 by omega)
  have HNE := Lib.hid (show w.heap.size ≠ w.heap.size + 1 by omega)
  have HPA := Lib.hid (fun (W : World) (p : Int) (h : Rd W A b) (hp : -9223372036854775808 ≤ p ∧ p ≤ 9223372036854775807) => Rc.refparse_any A c b p W (by omega) hc h hp)
  have HPB := Lib.hid (fun (W : World) (p : Int) (h : Rd W A b) (hp : -9223372036854775808 ≤ p ∧ p ≤ 9223372036854775807) => refbparse_any A c b p n W hl hc h hp)
  have HP0 := Lib.hid (HPA.out w1 0 (hr.below hb0) (by decide))
  have HRD := Lib.hid hr
  have HE1 := Lib.hid (fun h : recE b 0 ≠ 0 => (show (⟨[], 0, 0, false, 0, recE b 0⟩ : Sc) = R from by rw [← hR]; unfold scanL begS; rw [if_pos h, if_pos h]))
  have HE3 := Lib.hid (fun (h : recE b 0 = 0) (h2 : ¬ ((pKind b 0 : Int) = 7 ∧ nF (pKind b 0) (pData b 0) = n)) => (show (⟨[], 0, 0, false, 0, 3⟩ : Sc) = R from by
    rw [← hR]
    have hb : begS b n = ⟨[], 0, 0, false, 0, 3⟩ := by unfold begS; rw [if_neg (by simp [h]), if_neg h2]
    unfold scanL
    rw [hb, if_pos (by simp)]))
  have HE2 := Lib.hid (fun (h : recE b 0 = 0) (h2 : (pKind b 0 : Int) = 7 ∧ nF (pKind b 0) (pData b 0) = n) => (show scanF b n (b.length + 1) ⟨[], pSeq b 0, pEnd b 0, false, pEnd b 0, 0⟩ = R from by
    rw [← hR]
    have hb : begS b n = ⟨[], pSeq b 0, pEnd b 0, false, pEnd b 0, 0⟩ := by unfold begS; rw [if_neg (by simp [h]), if_pos h2]
    unfold scanL
    rw [hb, if_neg (by simp)]))
  clear hr hb0 hR hg hz
  have hsl0 := seq_lt b 0
  go_enter Try.func37, Try.ntmps37
  go_wp2_with fail
  try rw [hw1]
  refine HP0.out.mono ?_
  rintro e w2 (⟨hre, X, A2, c2, rfl, hX, -, hb⟩ | ⟨hre, rfl, hb⟩)
  · have hri := rec_in hre
    have E2 := HE2.out hre
    have E3 := HE3.out hre
    obtain ⟨W3, hW3⟩ : ∃ W, World.alloc w2 (.cells X 27) = W := ⟨_, rfl⟩
    have hbw : Below w2.heap.size w2 W3 := hW3 ▸ below_alloc (Below.refl _ _) _
    have HG3 := Lib.hid (blk_below (blk_below HG1.out hb) hbw)
    have HZ3 := Lib.hid (blk_below (blk_below HZ1.out hb) hbw)
    have HB3 := Lib.hid (below_step' (below_step' HB1.out hb) hbw)
    have HO3 := Lib.hid ((HO1.out.below hb).below hbw)
    have HX3 := Lib.hid (show W3.heap[w2.heap.size]? = some (.cells X 27 (0, 0)) from hW3 ▸ blk_new w2 _)
    have HNX := Lib.hid (show w2.heap.size ≠ w.heap.size + 1 by have := blk_lt (blk_below HG1.out hb); omega)
    have HI := Lib.hid hX.info
    have HSZ := Lib.hid (show zRec.size = X.size by rw [hX.size]; rfl)
    have HONE := Lib.hid hX.one
    have h0 := hX.c0
    have h1 := hX.c1
    have h36 := hX.c36
    have h37 := hX.c37
    have hcx := fun i => blk_cell HX3.out i
    clear hX hb hbw hw1 hre HE1 HE2 HE3 HP0
    generalize nF (pKind b 0) (pData b 0) = nn at *
    generalize zF (pKind b 0) (pData b 0) = zz at *
    generalize dF (pKind b 0) (pData b 0) = dd at *
    generalize nmF (pKind b 0) (pData b 0) = nmn at *
    generalize lF (pKind b 0) (pData b 0) = ll at *
    generalize pKind b 0 = k at *
    generalize pSeq b 0 = s at *
    generalize pEnd b 0 = pe at *
    by_cases hk : (k : Int) = 7
    · have q1 : ((k : Int) != 7) = false := by rw [bne_eq_false_iff_eq]; exact hk
      by_cases hn : nn = n
      · have q2 : (nn != n) = false := by rw [bne_eq_false_iff_eq]; exact hn
        have HF0 := Lib.hid (E2 ⟨hk, hn⟩)
        clear E2 E3 hk hn
        obtain ⟨V1, hV1⟩ : ∃ W, World.setCell W3 ⟨w.heap.size + 1, 1, none⟩ (.int .u64 s) = W := ⟨_, rfl⟩
        have huV1 := upd_cell HG3.out 1 (.int .u64 s)
        rw [hV1] at huV1
        have HGV1 := Lib.hid (show V1.heap[w.heap.size + 1]? = some (.cells #[.slice none 0 0, .int .u64 s, .int .i64 0, .bool false, .int .i64 0, .int .i64 0] 69 (0, 0)) from huV1.at_)
        have HBV1 := Lib.hid (huV1.to HLE.out HB3.out)
        have HOV1 := Lib.hid (OwnW.step HO3.out HG3.out (fun k _ hne => huV1.off k hne))
        have HZV1 := Lib.hid ((huV1.off w.heap.size HNE.out).trans HZ3.out)
        clear huV1
        obtain ⟨V2, hV2⟩ : ∃ W, World.setCell V1 ⟨w.heap.size + 1, 2, none⟩ (.int .i64 pe) = W := ⟨_, rfl⟩
        have huV2 := upd_cell HGV1.out 2 (.int .i64 pe)
        rw [hV2] at huV2
        have HGV2 := Lib.hid (show V2.heap[w.heap.size + 1]? = some (.cells #[.slice none 0 0, .int .u64 s, .int .i64 pe, .bool false, .int .i64 0, .int .i64 0] 69 (0, 0)) from huV2.at_)
        have HBV2 := Lib.hid (huV2.to HLE.out HBV1.out)
        have HOV2 := Lib.hid (OwnW.step HOV1.out HGV1.out (fun k _ hne => huV2.off k hne))
        have HZV2 := Lib.hid ((huV2.off w.heap.size HNE.out).trans HZV1.out)
        clear huV2
        obtain ⟨V3, hV3⟩ : ∃ W, World.setCell V2 ⟨w.heap.size + 1, 4, none⟩ (.int .i64 pe) = W := ⟨_, rfl⟩
        have huV3 := upd_cell HGV2.out 4 (.int .i64 pe)
        rw [hV3] at huV3
        have HGV3 := Lib.hid (show V3.heap[w.heap.size + 1]? = some (.cells #[.slice none 0 0, .int .u64 s, .int .i64 pe, .bool false, .int .i64 pe, .int .i64 0] 69 (0, 0)) from huV3.at_)
        have HBV3 := Lib.hid (huV3.to HLE.out HBV2.out)
        have HOV3 := Lib.hid (OwnW.step HOV2.out HGV2.out (fun k _ hne => huV3.off k hne))
        have HZV3 := Lib.hid ((huV3.off w.heap.size HNE.out).trans HZV2.out)
        clear huV3
        have hcg3 := fun i => blk_cell HG3.out i
        have hfg3 := fun i => blk_frozen HG3.out i
        have hzg3 := blk_lt HG3.out
        have hcgV1 := fun i => blk_cell HGV1.out i
        have hfgV1 := fun i => blk_frozen HGV1.out i
        have hzgV1 := blk_lt HGV1.out
        have hcgV2 := fun i => blk_cell HGV2.out i
        have hfgV2 := fun i => blk_frozen HGV2.out i
        have hzgV2 := blk_lt HGV2.out
        go_wp2_with (first | (refine wpList_box rfl rfl 27 _ _ rfl rfl X zRec zeroRec rfl rfl HSZ.out HI.out HONE.out ?_; rw [hW3]))
        clear hW3 hcx hcg3 hfg3 hzg3 hcgV1 hfgV1 hzgV1 hcgV2 hfgV2 hzgV2 hV1 hV2 hV3 h0 h1 h36 h37
        go_loopw [15] (fun e wr => ∃ (f : Nat) (v : Value) (ws : List Wd) (q : Nat) (en at_ : Int), Hid (wr.heap[w.heap.size + 1]? = some (.cells #[v, .int .u64 q, .int .i64 en, .bool false, .int .i64 at_, .int .i64 0] 69 (0, 0))) ∧ Hid (wr.heap[w.heap.size]? = some (.cells #[.slice none 0 0, .int .u64 0, .int .i64 0, .bool false, .int .i64 0, .int .i64 0] 69 (0, 0))) ∧ Hid (OwnW wr w.heap.size v ws) ∧ Hid (Below w.heap.size w wr) ∧ Hid (scanF b n (f + 1) ⟨ws, q, en, false, at_, 0⟩ = R) ∧ Hid (b.length ≤ f + en.toNat) ∧ (21 ≤ en ∧ en ≤ (b.length : Int) ∧ q < 18446744073709551616) ∧ Hid (21 * (ws.length : Int) ≤ en)) (fun _ wr => b.length - enOf (w.heap.size + 1) wr)
        case atStart => exact ⟨b.length, _, [], s, pe, pe, HGV3, HZV3, HOV3, HBV3, HF0, Lib.hid (by omega), ⟨by omega, hri.2.2, hsl0⟩, Lib.hid (by simp; omega)⟩
        case round =>
          obtain ⟨f, v, ws, q, en, at_, HG, HZ, HO, HB, HF, HFU, ⟨hen1, hen2, hqb⟩, HWL⟩ := hrel
          obtain ⟨Av, cv, rfl, -, -⟩ := HO.out.reads
          have HEN := Lib.hid (enOf_at rfl HG.out)
          have hcg := fun i => blk_cell HG.out i
          by_cases hx : (b.length : Int) ≤ en
          · have HEQ := Lib.hid ((scanF_end (x := ⟨ws, q, en, false, at_, 0⟩) hx).symm.trans HF.out)
            go_wp2_with (first | (refine wpList_load_row rfl 69 (.tmp 5) rfl (w.heap.size + 1) rfl 69 (#[.slice Av ws.length cv, .int .u64 q, .int .i64 en, .bool false, .int .i64 at_, .int .i64 0]) (0, 0) _ HG.out Try.underlying69 rfl infoSc ?_) | (refine wpList_store_row rfl 69 (.tmp 4) (.tmp 144) rfl w.heap.size (#[.slice Av ws.length cv, .int .u64 q, .int .i64 en, .bool false, .int .i64 at_, .int .i64 0]) rfl rfl 69 _ HZ.out infoSc rfl (scC_one' _ _ _ _ _ _ rfl) ?_; obtain ⟨w9, hw9⟩ : ∃ w', World.setRow wr w.heap.size (#[.slice Av ws.length cv, .int .u64 q, .int .i64 en, .bool false, .int .i64 at_, .int .i64 0]) = w' := ⟨_, rfl⟩; have hu := upd_row HZ.out (#[.slice Av ws.length cv, .int .u64 q, .int .i64 en, .bool false, .int .i64 at_, .int .i64 0]); rw [hw9] at hu ⊢; have HF9 := Lib.hid hu.at_; have HK9 := Lib.hid hu.off; have HBF9 := Lib.hid (hu.to (Nat.le_refl _) HB.out); clear hu hw9))
            refine bodyPost_ret_by (results_cell_row rfl _ _ w.heap.size _ (#[.slice Av ws.length cv, .int .u64 q, .int .i64 en, .bool false, .int .i64 at_, .int .i64 0]) (0, 0) _ rfl HF9.out Try.underlying69 rfl infoSc) rfl ?_
            rw [HDF.out, ← HEQ.out]
            exact ⟨_, rfl, OwnW.step HO.out HZ.out (fun k _ hne => HK9.out k hne), HBF9.out⟩
          · have HC := Lib.hid (HPA.out wr en (HRD.out.below HB.out) (by omega))
            have HFN := Lib.hid (scanF_foot (b := b) (n := n) (f := f) (x := ⟨ws, q, en, false, at_, 0⟩) hx)
            have HER := Lib.hid (scanF_err (b := b) (n := n) (f := f) (x := ⟨ws, q, en, false, at_, 0⟩) hx)
            have HSQ := Lib.hid (scanF_seq (b := b) (n := n) (f := f) (x := ⟨ws, q, en, false, at_, 0⟩) hx)
            have HGO := Lib.hid (scanF_go (b := b) (n := n) (f := f) (x := ⟨ws, q, en, false, at_, 0⟩) hx)
            have HIT := Lib.hid (fun (h : recE b en = 0) (h2 : (pKind b en : Int) = 8) => (show isFoot b en = true from decide_eq_true ⟨h, h2⟩))
            have HIF := Lib.hid (fun (h : recE b en = 0) (h2 : ¬ (pKind b en : Int) = 8) => (show isFoot b en = false from decide_eq_false (fun q => h2 q.2)))
            have HIE := Lib.hid (fun (h : recE b en ≠ 0) => (show isFoot b en = false from decide_eq_false (fun q => h q.1)))
            go_wp2_with fail
            refine HC.out.mono ?_
            rintro e w2' (⟨hre, X, A2, c2, rfl, hX, -, hb⟩ | ⟨hre, rfl, hb⟩)
            · have hsl := seq_lt b en
              obtain ⟨W3, hW3⟩ : ∃ W, World.alloc w2' (.cells X 27) = W := ⟨_, rfl⟩
              have hbw : Below w2'.heap.size w2' W3 := hW3 ▸ below_alloc (Below.refl _ _) _
              have HG3 := Lib.hid (blk_below (blk_below HG.out hb) hbw)
              have HZ3 := Lib.hid (blk_below (blk_below HZ.out hb) hbw)
              have HB3 := Lib.hid (below_step' (below_step' HB.out hb) hbw)
              have HO3 := Lib.hid ((HO.out.below hb).below hbw)
              have HX3 := Lib.hid (show W3.heap[w2'.heap.size]? = some (.cells X 27 (0, 0)) from hW3 ▸ blk_new w2' _)
              have HNX := Lib.hid (show w2'.heap.size ≠ w.heap.size + 1 by have := blk_lt (blk_below HG.out hb); omega)
              have HI := Lib.hid hX.info
              have HSZ := Lib.hid (show zRec.size = X.size by rw [hX.size]; rfl)
              have HONE := Lib.hid hX.one
              have h0 := hX.c0
              have h1 := hX.c1
              have h36 := hX.c36
              have h37 := hX.c37
              have hcx := fun i => blk_cell HX3.out i
              clear hX hb hbw hcg
              by_cases hk : (pKind b en : Int) = 8
              · have IT := HIT.out hre hk
                have E1 := HFN.out IT
                have E2 := foot_good (b := b) (x := ⟨ws, q, en, false, at_, 0⟩) IT
                have E3 := foot_bad (b := b) (x := ⟨ws, q, en, false, at_, 0⟩) IT
                simp only at E2 E3
                have q1 : ((pKind b en : Int) == 8) = true := beq_iff_eq.2 hk
                clear HIT HIF HIE HER HSQ HGO HFN IT hk hre
                generalize nF (pKind b en) (pData b en) = nn at *
                generalize zF (pKind b en) (pData b en) = zz at *
                generalize dF (pKind b en) (pData b en) = dd at *
                generalize nmF (pKind b en) (pData b en) = nmn at *
                generalize lF (pKind b en) (pData b en) = ll at *
                generalize pKind b en = k at *
                generalize pSeq b en = s at *
                generalize pEnd b en = pe at *
                have hcg3 := fun i => blk_cell HG3.out i
                by_cases hq : q < s
                · have d1 : ¬ s ≤ q := by omega
                  by_cases hn : nn = (ws.length : Int)
                  · have q2 : (nn != (ws.length : Int)) = false := by rw [bne_eq_false_iff_eq]; exact hn
                    by_cases hz : zz = en
                    · have q3 : (zz != en) = false := by rw [bne_eq_false_iff_eq]; exact hz
                      by_cases hpe : pe = (b.length : Int)
                      · have q4 : (pe != (b.length : Int)) = false := by rw [bne_eq_false_iff_eq]; exact hpe
                        have HEQ := Lib.hid ((E2 ⟨hq, hn, hz, hpe⟩).symm.trans (E1.symm.trans HF.out))
                        clear E1 E2 E3 hn hz hpe hcg3
                        obtain ⟨V1, hV1⟩ : ∃ W, World.setCell W3 ⟨w.heap.size + 1, 3, none⟩ (.bool true) = W := ⟨_, rfl⟩
                        have huV1 := upd_cell HG3.out 3 (.bool true)
                        rw [hV1] at huV1
                        have HGV1 := Lib.hid (show V1.heap[w.heap.size + 1]? = some (.cells #[.slice Av ws.length cv, .int .u64 q, .int .i64 en, .bool true, .int .i64 at_, .int .i64 0] 69 (0, 0)) from huV1.at_)
                        have HBV1 := Lib.hid (huV1.to HLE.out HB3.out)
                        have HOV1 := Lib.hid (OwnW.step HO3.out HG3.out (fun k _ hne => huV1.off k hne))
                        have HZV1 := Lib.hid ((huV1.off w.heap.size HNE.out).trans HZ3.out)
                        have HXV1 := Lib.hid ((huV1.off _ HNX.out).trans HX3.out)
                        clear huV1
                        obtain ⟨V2, hV2⟩ : ∃ W, World.setCell V1 ⟨w.heap.size + 1, 1, none⟩ (.int .u64 s) = W := ⟨_, rfl⟩
                        have huV2 := upd_cell HGV1.out 1 (.int .u64 s)
                        rw [hV2] at huV2
                        have HGV2 := Lib.hid (show V2.heap[w.heap.size + 1]? = some (.cells #[.slice Av ws.length cv, .int .u64 s, .int .i64 en, .bool true, .int .i64 at_, .int .i64 0] 69 (0, 0)) from huV2.at_)
                        have HBV2 := Lib.hid (huV2.to HLE.out HBV1.out)
                        have HOV2 := Lib.hid (OwnW.step HOV1.out HGV1.out (fun k _ hne => huV2.off k hne))
                        have HZV2 := Lib.hid ((huV2.off w.heap.size HNE.out).trans HZV1.out)
                        clear huV2
                        obtain ⟨V3, hV3⟩ : ∃ W, World.setCell V2 ⟨w.heap.size + 1, 2, none⟩ (.int .i64 pe) = W := ⟨_, rfl⟩
                        have huV3 := upd_cell HGV2.out 2 (.int .i64 pe)
                        rw [hV3] at huV3
                        have HGV3 := Lib.hid (show V3.heap[w.heap.size + 1]? = some (.cells #[.slice Av ws.length cv, .int .u64 s, .int .i64 pe, .bool true, .int .i64 at_, .int .i64 0] 69 (0, 0)) from huV3.at_)
                        have HBV3 := Lib.hid (huV3.to HLE.out HBV2.out)
                        have HOV3 := Lib.hid (OwnW.step HOV2.out HGV2.out (fun k _ hne => huV3.off k hne))
                        have HZV3 := Lib.hid ((huV3.off w.heap.size HNE.out).trans HZV2.out)
                        clear huV3
                        obtain ⟨V4, hV4⟩ : ∃ W, World.setCell V3 ⟨w.heap.size + 1, 4, none⟩ (.int .i64 pe) = W := ⟨_, rfl⟩
                        have huV4 := upd_cell HGV3.out 4 (.int .i64 pe)
                        rw [hV4] at huV4
                        have HGV4 := Lib.hid (show V4.heap[w.heap.size + 1]? = some (.cells #[.slice Av ws.length cv, .int .u64 s, .int .i64 pe, .bool true, .int .i64 pe, .int .i64 0] 69 (0, 0)) from huV4.at_)
                        have HBV4 := Lib.hid (huV4.to HLE.out HBV3.out)
                        have HOV4 := Lib.hid (OwnW.step HOV3.out HGV3.out (fun k _ hne => huV4.off k hne))
                        have HZV4 := Lib.hid ((huV4.off w.heap.size HNE.out).trans HZV3.out)
                        clear huV4
                        have hcg3 := fun i => blk_cell HG3.out i
                        have hfg3 := fun i => blk_frozen HG3.out i
                        have hzg3 := blk_lt HG3.out
                        have hcgV1 := fun i => blk_cell HGV1.out i
                        have hfgV1 := fun i => blk_frozen HGV1.out i
                        have hzgV1 := blk_lt HGV1.out
                        have hcgV2 := fun i => blk_cell HGV2.out i
                        have hfgV2 := fun i => blk_frozen HGV2.out i
                        have hzgV2 := blk_lt HGV2.out
                        have hcgV3 := fun i => blk_cell HGV3.out i
                        have hfgV3 := fun i => blk_frozen HGV3.out i
                        have hzgV3 := blk_lt HGV3.out
                        have hcxV1 := fun i => blk_cell HXV1.out i
                        go_wp2_with (first | (refine wpList_box rfl rfl 27 _ _ rfl rfl X zRec zeroRec rfl rfl HSZ.out HI.out HONE.out ?_; rw [hW3]) | (refine wpList_load_row rfl 69 (.tmp 5) rfl (w.heap.size + 1) rfl 69 (#[.slice Av ws.length cv, .int .u64 s, .int .i64 pe, .bool true, .int .i64 pe, .int .i64 0]) (0, 0) _ HGV4.out Try.underlying69 rfl infoSc ?_) | (refine wpList_store_row rfl 69 (.tmp 4) (.tmp 106) rfl w.heap.size (#[.slice Av ws.length cv, .int .u64 s, .int .i64 pe, .bool true, .int .i64 pe, .int .i64 0]) rfl rfl 69 _ HZV4.out infoSc rfl (scC_one' _ _ _ _ _ _ rfl) ?_; obtain ⟨w9, hw9⟩ : ∃ w', World.setRow V4 w.heap.size (#[.slice Av ws.length cv, .int .u64 s, .int .i64 pe, .bool true, .int .i64 pe, .int .i64 0]) = w' := ⟨_, rfl⟩; have hu := upd_row HZV4.out (#[.slice Av ws.length cv, .int .u64 s, .int .i64 pe, .bool true, .int .i64 pe, .int .i64 0]); rw [hw9] at hu ⊢; have HF9 := Lib.hid hu.at_; have HK9 := Lib.hid hu.off; have HBF9 := Lib.hid (hu.to (Nat.le_refl _) HBV4.out); clear hu hw9))
                        refine bodyPost_ret_by (results_cell_row rfl _ _ w.heap.size _ (#[.slice Av ws.length cv, .int .u64 s, .int .i64 pe, .bool true, .int .i64 pe, .int .i64 0]) (0, 0) _ rfl HF9.out Try.underlying69 rfl infoSc) rfl ?_
                        rw [HDF.out, ← HEQ.out]
                        exact ⟨_, rfl, OwnW.step HOV4.out HZV4.out (fun k _ hne => HK9.out k hne), HBF9.out⟩
                      · have q4 : (pe != (b.length : Int)) = true := bne_iff_ne.2 hpe
                        have HEQ := Lib.hid ((E3 (fun h => hpe h.2.2.2)).symm.trans (E1.symm.trans HF.out))
                        clear E1 E2 E3 hn hz hpe hcg3
                        obtain ⟨V1, hV1⟩ : ∃ W, World.setCell W3 ⟨w.heap.size + 1, 5, none⟩ (.int .i64 3) = W := ⟨_, rfl⟩
                        have huV1 := upd_cell HG3.out 5 (.int .i64 3)
                        rw [hV1] at huV1
                        have HGV1 := Lib.hid (show V1.heap[w.heap.size + 1]? = some (.cells #[.slice Av ws.length cv, .int .u64 q, .int .i64 en, .bool false, .int .i64 at_, .int .i64 3] 69 (0, 0)) from huV1.at_)
                        have HBV1 := Lib.hid (huV1.to HLE.out HB3.out)
                        have HOV1 := Lib.hid (OwnW.step HO3.out HG3.out (fun k _ hne => huV1.off k hne))
                        have HZV1 := Lib.hid ((huV1.off w.heap.size HNE.out).trans HZ3.out)
                        clear huV1
                        have hcg3 := fun i => blk_cell HG3.out i
                        have hfg3 := fun i => blk_frozen HG3.out i
                        have hzg3 := blk_lt HG3.out
                        go_wp2_with (first | (refine wpList_box rfl rfl 27 _ _ rfl rfl X zRec zeroRec rfl rfl HSZ.out HI.out HONE.out ?_; rw [hW3]) | (refine wpList_load_row rfl 69 (.tmp 5) rfl (w.heap.size + 1) rfl 69 (#[.slice Av ws.length cv, .int .u64 q, .int .i64 en, .bool false, .int .i64 at_, .int .i64 3]) (0, 0) _ HGV1.out Try.underlying69 rfl infoSc ?_) | (refine wpList_store_row rfl 69 (.tmp 4) (.tmp 97) rfl w.heap.size (#[.slice Av ws.length cv, .int .u64 q, .int .i64 en, .bool false, .int .i64 at_, .int .i64 3]) rfl rfl 69 _ HZV1.out infoSc rfl (scC_one' _ _ _ _ _ _ rfl) ?_; obtain ⟨w9, hw9⟩ : ∃ w', World.setRow V1 w.heap.size (#[.slice Av ws.length cv, .int .u64 q, .int .i64 en, .bool false, .int .i64 at_, .int .i64 3]) = w' := ⟨_, rfl⟩; have hu := upd_row HZV1.out (#[.slice Av ws.length cv, .int .u64 q, .int .i64 en, .bool false, .int .i64 at_, .int .i64 3]); rw [hw9] at hu ⊢; have HF9 := Lib.hid hu.at_; have HK9 := Lib.hid hu.off; have HBF9 := Lib.hid (hu.to (Nat.le_refl _) HBV1.out); clear hu hw9))
                        refine bodyPost_ret_by (results_cell_row rfl _ _ w.heap.size _ (#[.slice Av ws.length cv, .int .u64 q, .int .i64 en, .bool false, .int .i64 at_, .int .i64 3]) (0, 0) _ rfl HF9.out Try.underlying69 rfl infoSc) rfl ?_
                        rw [HDF.out, ← HEQ.out]
                        exact ⟨_, rfl, OwnW.step HOV1.out HZV1.out (fun k _ hne => HK9.out k hne), HBF9.out⟩
                    · have q3 : (zz != en) = true := bne_iff_ne.2 hz
                      have HEQ := Lib.hid ((E3 (fun h => hz h.2.2.1)).symm.trans (E1.symm.trans HF.out))
                      clear E1 E2 E3 hn hz hcg3
                      obtain ⟨V1, hV1⟩ : ∃ W, World.setCell W3 ⟨w.heap.size + 1, 5, none⟩ (.int .i64 3) = W := ⟨_, rfl⟩
                      have huV1 := upd_cell HG3.out 5 (.int .i64 3)
                      rw [hV1] at huV1
                      have HGV1 := Lib.hid (show V1.heap[w.heap.size + 1]? = some (.cells #[.slice Av ws.length cv, .int .u64 q, .int .i64 en, .bool false, .int .i64 at_, .int .i64 3] 69 (0, 0)) from huV1.at_)
                      have HBV1 := Lib.hid (huV1.to HLE.out HB3.out)
                      have HOV1 := Lib.hid (OwnW.step HO3.out HG3.out (fun k _ hne => huV1.off k hne))
                      have HZV1 := Lib.hid ((huV1.off w.heap.size HNE.out).trans HZ3.out)
                      clear huV1
                      have hcg3 := fun i => blk_cell HG3.out i
                      have hfg3 := fun i => blk_frozen HG3.out i
                      have hzg3 := blk_lt HG3.out
                      go_wp2_with (first | (refine wpList_box rfl rfl 27 _ _ rfl rfl X zRec zeroRec rfl rfl HSZ.out HI.out HONE.out ?_; rw [hW3]) | (refine wpList_load_row rfl 69 (.tmp 5) rfl (w.heap.size + 1) rfl 69 (#[.slice Av ws.length cv, .int .u64 q, .int .i64 en, .bool false, .int .i64 at_, .int .i64 3]) (0, 0) _ HGV1.out Try.underlying69 rfl infoSc ?_) | (refine wpList_store_row rfl 69 (.tmp 4) (.tmp 97) rfl w.heap.size (#[.slice Av ws.length cv, .int .u64 q, .int .i64 en, .bool false, .int .i64 at_, .int .i64 3]) rfl rfl 69 _ HZV1.out infoSc rfl (scC_one' _ _ _ _ _ _ rfl) ?_; obtain ⟨w9, hw9⟩ : ∃ w', World.setRow V1 w.heap.size (#[.slice Av ws.length cv, .int .u64 q, .int .i64 en, .bool false, .int .i64 at_, .int .i64 3]) = w' := ⟨_, rfl⟩; have hu := upd_row HZV1.out (#[.slice Av ws.length cv, .int .u64 q, .int .i64 en, .bool false, .int .i64 at_, .int .i64 3]); rw [hw9] at hu ⊢; have HF9 := Lib.hid hu.at_; have HK9 := Lib.hid hu.off; have HBF9 := Lib.hid (hu.to (Nat.le_refl _) HBV1.out); clear hu hw9))
                      refine bodyPost_ret_by (results_cell_row rfl _ _ w.heap.size _ (#[.slice Av ws.length cv, .int .u64 q, .int .i64 en, .bool false, .int .i64 at_, .int .i64 3]) (0, 0) _ rfl HF9.out Try.underlying69 rfl infoSc) rfl ?_
                      rw [HDF.out, ← HEQ.out]
                      exact ⟨_, rfl, OwnW.step HOV1.out HZV1.out (fun k _ hne => HK9.out k hne), HBF9.out⟩
                  · have q2 : (nn != (ws.length : Int)) = true := bne_iff_ne.2 hn
                    have HEQ := Lib.hid ((E3 (fun h => hn h.2.1)).symm.trans (E1.symm.trans HF.out))
                    clear E1 E2 E3 hn hcg3
                    obtain ⟨V1, hV1⟩ : ∃ W, World.setCell W3 ⟨w.heap.size + 1, 5, none⟩ (.int .i64 3) = W := ⟨_, rfl⟩
                    have huV1 := upd_cell HG3.out 5 (.int .i64 3)
                    rw [hV1] at huV1
                    have HGV1 := Lib.hid (show V1.heap[w.heap.size + 1]? = some (.cells #[.slice Av ws.length cv, .int .u64 q, .int .i64 en, .bool false, .int .i64 at_, .int .i64 3] 69 (0, 0)) from huV1.at_)
                    have HBV1 := Lib.hid (huV1.to HLE.out HB3.out)
                    have HOV1 := Lib.hid (OwnW.step HO3.out HG3.out (fun k _ hne => huV1.off k hne))
                    have HZV1 := Lib.hid ((huV1.off w.heap.size HNE.out).trans HZ3.out)
                    clear huV1
                    have hcg3 := fun i => blk_cell HG3.out i
                    have hfg3 := fun i => blk_frozen HG3.out i
                    have hzg3 := blk_lt HG3.out
                    go_wp2_with (first | (refine wpList_box rfl rfl 27 _ _ rfl rfl X zRec zeroRec rfl rfl HSZ.out HI.out HONE.out ?_; rw [hW3]) | (refine wpList_load_row rfl 69 (.tmp 5) rfl (w.heap.size + 1) rfl 69 (#[.slice Av ws.length cv, .int .u64 q, .int .i64 en, .bool false, .int .i64 at_, .int .i64 3]) (0, 0) _ HGV1.out Try.underlying69 rfl infoSc ?_) | (refine wpList_store_row rfl 69 (.tmp 4) (.tmp 97) rfl w.heap.size (#[.slice Av ws.length cv, .int .u64 q, .int .i64 en, .bool false, .int .i64 at_, .int .i64 3]) rfl rfl 69 _ HZV1.out infoSc rfl (scC_one' _ _ _ _ _ _ rfl) ?_; obtain ⟨w9, hw9⟩ : ∃ w', World.setRow V1 w.heap.size (#[.slice Av ws.length cv, .int .u64 q, .int .i64 en, .bool false, .int .i64 at_, .int .i64 3]) = w' := ⟨_, rfl⟩; have hu := upd_row HZV1.out (#[.slice Av ws.length cv, .int .u64 q, .int .i64 en, .bool false, .int .i64 at_, .int .i64 3]); rw [hw9] at hu ⊢; have HF9 := Lib.hid hu.at_; have HK9 := Lib.hid hu.off; have HBF9 := Lib.hid (hu.to (Nat.le_refl _) HBV1.out); clear hu hw9))
                    refine bodyPost_ret_by (results_cell_row rfl _ _ w.heap.size _ (#[.slice Av ws.length cv, .int .u64 q, .int .i64 en, .bool false, .int .i64 at_, .int .i64 3]) (0, 0) _ rfl HF9.out Try.underlying69 rfl infoSc) rfl ?_
                    rw [HDF.out, ← HEQ.out]
                    exact ⟨_, rfl, OwnW.step HOV1.out HZV1.out (fun k _ hne => HK9.out k hne), HBF9.out⟩
                · have d1 : s ≤ q := by omega
                  have HEQ := Lib.hid ((E3 (fun h => hq h.1)).symm.trans (E1.symm.trans HF.out))
                  clear E1 E2 E3 hcg3
                  obtain ⟨V1, hV1⟩ : ∃ W, World.setCell W3 ⟨w.heap.size + 1, 5, none⟩ (.int .i64 3) = W := ⟨_, rfl⟩
                  have huV1 := upd_cell HG3.out 5 (.int .i64 3)
                  rw [hV1] at huV1
                  have HGV1 := Lib.hid (show V1.heap[w.heap.size + 1]? = some (.cells #[.slice Av ws.length cv, .int .u64 q, .int .i64 en, .bool false, .int .i64 at_, .int .i64 3] 69 (0, 0)) from huV1.at_)
                  have HBV1 := Lib.hid (huV1.to HLE.out HB3.out)
                  have HOV1 := Lib.hid (OwnW.step HO3.out HG3.out (fun k _ hne => huV1.off k hne))
                  have HZV1 := Lib.hid ((huV1.off w.heap.size HNE.out).trans HZ3.out)
                  clear huV1
                  have hcg3 := fun i => blk_cell HG3.out i
                  have hfg3 := fun i => blk_frozen HG3.out i
                  have hzg3 := blk_lt HG3.out
                  go_wp2_with (first | (refine wpList_box rfl rfl 27 _ _ rfl rfl X zRec zeroRec rfl rfl HSZ.out HI.out HONE.out ?_; rw [hW3]) | (refine wpList_load_row rfl 69 (.tmp 5) rfl (w.heap.size + 1) rfl 69 (#[.slice Av ws.length cv, .int .u64 q, .int .i64 en, .bool false, .int .i64 at_, .int .i64 3]) (0, 0) _ HGV1.out Try.underlying69 rfl infoSc ?_) | (refine wpList_store_row rfl 69 (.tmp 4) (.tmp 97) rfl w.heap.size (#[.slice Av ws.length cv, .int .u64 q, .int .i64 en, .bool false, .int .i64 at_, .int .i64 3]) rfl rfl 69 _ HZV1.out infoSc rfl (scC_one' _ _ _ _ _ _ rfl) ?_; obtain ⟨w9, hw9⟩ : ∃ w', World.setRow V1 w.heap.size (#[.slice Av ws.length cv, .int .u64 q, .int .i64 en, .bool false, .int .i64 at_, .int .i64 3]) = w' := ⟨_, rfl⟩; have hu := upd_row HZV1.out (#[.slice Av ws.length cv, .int .u64 q, .int .i64 en, .bool false, .int .i64 at_, .int .i64 3]); rw [hw9] at hu ⊢; have HF9 := Lib.hid hu.at_; have HK9 := Lib.hid hu.off; have HBF9 := Lib.hid (hu.to (Nat.le_refl _) HBV1.out); clear hu hw9))
                  refine bodyPost_ret_by (results_cell_row rfl _ _ w.heap.size _ (#[.slice Av ws.length cv, .int .u64 q, .int .i64 en, .bool false, .int .i64 at_, .int .i64 3]) (0, 0) _ rfl HF9.out Try.underlying69 rfl infoSc) rfl ?_
                  rw [HDF.out, ← HEQ.out]
                  exact ⟨_, rfl, OwnW.step HOV1.out HZV1.out (fun k _ hne => HK9.out k hne), HBF9.out⟩
              · have IS := HIF.out hre hk
                have q1 : ((pKind b en : Int) == 8) = false := beq_eq_false_iff_ne.2 hk
                clear HIT HIF HIE hk hre
                generalize pKind b en = k at *
                have HPC := Lib.hid (HPB.out W3 en (HRD.out.below HB3.out) (by omega))
                have HOK := Lib.hid (fun h => parL_ok (b := b) (p := en) (sg := n) h)
                have ER := HER.out IS
                have SQ := HSQ.out IS
                have GO := HGO.out IS
                unfold BParsed at HPC
                clear HER HSQ HGO HFN IS
                generalize parL b en n = rr at *
                obtain ⟨wn, e9, s9, er9⟩ := rr
                simp only at ER SQ GO HOK HPC
                have hcg3 := fun i => blk_cell HG3.out i
                go_wp2_with (first | (refine wpList_box rfl rfl 27 _ _ rfl rfl X zRec zeroRec rfl rfl HSZ.out HI.out HONE.out ?_; rw [hW3]))
                refine HPC.out.mono ?_
                rintro e w6 ⟨v6, rfl, ho6, hb⟩
                obtain ⟨A6, c6, rfl, -, hr6⟩ := ho6.reads
                have HG6 := Lib.hid (blk_below HG3.out hb)
                have HZ6 := Lib.hid (blk_below HZ3.out hb)
                have HB6 := Lib.hid (below_step' HB3.out hb)
                have HO6 := Lib.hid (HO3.out.below hb)
                have HR6 := Lib.hid hr6
                have hcg6 := fun i => blk_cell HG6.out i
                clear ho6 hb hr6 hcg3 hW3
                by_cases h9 : er9 = 0
                · subst h9
                  obtain ⟨o1, o2, o3, o4, o5⟩ := HOK.out rfl
                  have HO34 := Lib.hid (show en + 21 + 21 * (wn.length : Int) ≤ e9 ∧ e9 ≤ (b.length : Int) from ⟨o3, o4⟩)
                  obtain ⟨ad, XW, rfl, hXW, hcw, -, -, -⟩ := HR6.out.walk 0 o1
                  have hcs := field_cell' (hcw 1 _ (show XW[1]? = some (.int .u64 ((wd wn 0).s : Nat)) from by have h := WordF.c1 hXW; simpa using h))
                  rw [Nat.zero_add, Nat.zero_mul, show ad.add 0 = ad by unfold Addr.add; simp] at hcs
                  have hln : (0 : Int) < (wn.length : Int) := by omega
                  have hln2 : 0 < wn.length := o1
                  have SQ1 := SQ rfl
                  have GO1 := GO rfl
                  clear ER SQ GO HOK hXW hcw o1 o3 o4
                  generalize (wd wn 0).s = ww at *
                  have q9 : (((0 : Nat) : Int) == 0) = true := by decide
                  by_cases hss : ww ≤ q
                  · have d0 : decide (ww ≤ q) = true := decide_eq_true hss
                    have HEQ := Lib.hid ((SQ1 hss).symm.trans HF.out)
                    clear SQ1 GO1
                    go_wp2_with fail
                    go_quiet (fail)
                    try rw [World.drewN_drewN]
                    obtain ⟨w7, hw7⟩ : ∃ W, World.drewN w6 nq = W := ⟨_, rfl⟩
                    have hb7 : Below w6.heap.size w6 w7 := hw7 ▸ pw_below_drewN (Below.refl _ _) nq
                    rw [hw7]
                    have HG7 := Lib.hid (blk_below HG6.out hb7)
                    have HZ7 := Lib.hid (blk_below HZ6.out hb7)
                    have HB7 := Lib.hid (below_step' HB6.out hb7)
                    have HO7 := Lib.hid (HO6.out.below hb7)
                    have HR7 := Lib.hid (HR6.out.below hb7)
                    clear hb7 hw7 hcg6
                    clear hcs
                    obtain ⟨V1, hV1⟩ : ∃ W, World.setCell w7 ⟨w.heap.size + 1, 5, none⟩ (.int .i64 3) = W := ⟨_, rfl⟩
                    have huV1 := upd_cell HG7.out 5 (.int .i64 3)
                    rw [hV1] at huV1
                    have HGV1 := Lib.hid (show V1.heap[w.heap.size + 1]? = some (.cells #[.slice Av ws.length cv, .int .u64 q, .int .i64 en, .bool false, .int .i64 at_, .int .i64 3] 69 (0, 0)) from huV1.at_)
                    have HBV1 := Lib.hid (huV1.to HLE.out HB7.out)
                    have HOV1 := Lib.hid (OwnW.step HO7.out HG7.out (fun k _ hne => huV1.off k hne))
                    have HZV1 := Lib.hid ((huV1.off w.heap.size HNE.out).trans HZ7.out)
                    clear huV1
                    have hcg7 := fun i => blk_cell HG7.out i
                    have hfg7 := fun i => blk_frozen HG7.out i
                    have hzg7 := blk_lt HG7.out
                    go_wp2_with (first | (refine wpList_load_row rfl 69 (.tmp 5) rfl (w.heap.size + 1) rfl 69 (#[.slice Av ws.length cv, .int .u64 q, .int .i64 en, .bool false, .int .i64 at_, .int .i64 3]) (0, 0) _ HGV1.out Try.underlying69 rfl infoSc ?_) | (refine wpList_store_row rfl 69 (.tmp 4) (.tmp 132) rfl w.heap.size (#[.slice Av ws.length cv, .int .u64 q, .int .i64 en, .bool false, .int .i64 at_, .int .i64 3]) rfl rfl 69 _ HZV1.out infoSc rfl (scC_one' _ _ _ _ _ _ rfl) ?_; obtain ⟨w9, hw9⟩ : ∃ w', World.setRow V1 w.heap.size (#[.slice Av ws.length cv, .int .u64 q, .int .i64 en, .bool false, .int .i64 at_, .int .i64 3]) = w' := ⟨_, rfl⟩; have hu := upd_row HZV1.out (#[.slice Av ws.length cv, .int .u64 q, .int .i64 en, .bool false, .int .i64 at_, .int .i64 3]); rw [hw9] at hu ⊢; have HF9 := Lib.hid hu.at_; have HK9 := Lib.hid hu.off; have HBF9 := Lib.hid (hu.to (Nat.le_refl _) HBV1.out); clear hu hw9))
                    refine bodyPost_ret_by (results_cell_row rfl _ _ w.heap.size _ (#[.slice Av ws.length cv, .int .u64 q, .int .i64 en, .bool false, .int .i64 at_, .int .i64 3]) (0, 0) _ rfl HF9.out Try.underlying69 rfl infoSc) rfl ?_
                    rw [HDF.out, ← HEQ.out]
                    exact ⟨_, rfl, OwnW.step HOV1.out HZV1.out (fun k _ hne => HK9.out k hne), HBF9.out⟩
                  · have d0 : decide (ww ≤ q) = false := decide_eq_false hss
                    have HF2 := Lib.hid ((GO1 hss).symm.trans HF.out)
                    clear SQ1 GO1
                    go_wp2_with fail
                    go_quiet (fail)
                    try rw [World.drewN_drewN]
                    obtain ⟨w7, hw7⟩ : ∃ W, World.drewN w6 nq = W := ⟨_, rfl⟩
                    have hb7 : Below w6.heap.size w6 w7 := hw7 ▸ pw_below_drewN (Below.refl _ _) nq
                    rw [hw7]
                    have HG7 := Lib.hid (blk_below HG6.out hb7)
                    have HZ7 := Lib.hid (blk_below HZ6.out hb7)
                    have HB7 := Lib.hid (below_step' HB6.out hb7)
                    have HO7 := Lib.hid (HO6.out.below hb7)
                    have HR7 := Lib.hid (HR6.out.below hb7)
                    clear hb7 hw7 hcg6
                    clear hcs
                    have HLN := Lib.hid (show (ws.length + wn.length) * 96 ≤ 140737488355328 from by have h1 := HWL.out; have h2 := HO34.out; omega)
                    have hcg7 := fun i => blk_cell HG7.out i
                    obtain ⟨wx, hwx⟩ : ∃ wx, ws ++ wn = wx := ⟨_, rfl⟩
                    go_wp2_with (first | (at_builtin; go_loud (refine Kd.R_append_rows kW (w0 := w) w.heap.size rfl (.tmp 134) (.tmp 135) 62 50 _ _ rfl undWd infoWdB rfl (by decide) (by decide) _ ws wn (some ad) wn.length c6 (fun _ => True) (fun _ => False) rfl rfl HO7.out HR7.out (fun x cs h => h) (fun _ h => h.elim) (fun _ _ => trivial) HB7.out HB7.out.size HLN.out ?_); intro v8 w8 hown hb8 hg8 _; rw [hwx] at hown; obtain ⟨A8, c8, rfl, -, -⟩ := OwnW.reads hown; have HO8 := Lib.hid hown; have HB8 := Lib.hid hb8; have HG8 := Lib.hid (OwnW.grown HO7.out HG7.out hg8); have HZ8 := Lib.hid (OwnW.grown HO7.out HZ7.out hg8); clear hown hb8 hg8; obtain ⟨V1, hV1⟩ : ∃ W, World.setCell w8 ⟨w.heap.size + 1, 0, none⟩ (.slice A8 wx.length c8) = W := ⟨_, rfl⟩; have huV1 := upd_cell HG8.out 0 (.slice A8 wx.length c8); rw [hV1] at huV1; have HGV1 := Lib.hid (show V1.heap[w.heap.size + 1]? = some (.cells #[.slice A8 wx.length c8, .int .u64 q, .int .i64 en, .bool false, .int .i64 at_, .int .i64 0] 69 (0, 0)) from huV1.at_); have HBV1 := Lib.hid (huV1.to HLE.out HB8.out); have HOV1 := Lib.hid (OwnW.step HO8.out HG8.out (fun k _ hne => huV1.off k hne)); have HZV1 := Lib.hid ((huV1.off w.heap.size HNE.out).trans HZ8.out); clear huV1; obtain ⟨V2, hV2⟩ : ∃ W, World.setCell V1 ⟨w.heap.size + 1, 1, none⟩ (.int .u64 s9) = W := ⟨_, rfl⟩; have huV2 := upd_cell HGV1.out 1 (.int .u64 s9); rw [hV2] at huV2; have HGV2 := Lib.hid (show V2.heap[w.heap.size + 1]? = some (.cells #[.slice A8 wx.length c8, .int .u64 s9, .int .i64 en, .bool false, .int .i64 at_, .int .i64 0] 69 (0, 0)) from huV2.at_); have HBV2 := Lib.hid (huV2.to HLE.out HBV1.out); have HOV2 := Lib.hid (OwnW.step HOV1.out HGV1.out (fun k _ hne => huV2.off k hne)); have HZV2 := Lib.hid ((huV2.off w.heap.size HNE.out).trans HZV1.out); clear huV2; obtain ⟨V3, hV3⟩ : ∃ W, World.setCell V2 ⟨w.heap.size + 1, 2, none⟩ (.int .i64 e9) = W := ⟨_, rfl⟩; have huV3 := upd_cell HGV2.out 2 (.int .i64 e9); rw [hV3] at huV3; have HGV3 := Lib.hid (show V3.heap[w.heap.size + 1]? = some (.cells #[.slice A8 wx.length c8, .int .u64 s9, .int .i64 e9, .bool false, .int .i64 at_, .int .i64 0] 69 (0, 0)) from huV3.at_); have HBV3 := Lib.hid (huV3.to HLE.out HBV2.out); have HOV3 := Lib.hid (OwnW.step HOV2.out HGV2.out (fun k _ hne => huV3.off k hne)); have HZV3 := Lib.hid ((huV3.off w.heap.size HNE.out).trans HZV2.out); clear huV3; obtain ⟨V4, hV4⟩ : ∃ W, World.setCell V3 ⟨w.heap.size + 1, 4, none⟩ (.int .i64 e9) = W := ⟨_, rfl⟩; have huV4 := upd_cell HGV3.out 4 (.int .i64 e9); rw [hV4] at huV4; have HGV4 := Lib.hid (show V4.heap[w.heap.size + 1]? = some (.cells #[.slice A8 wx.length c8, .int .u64 s9, .int .i64 e9, .bool false, .int .i64 e9, .int .i64 0] 69 (0, 0)) from huV4.at_); have HBV4 := Lib.hid (huV4.to HLE.out HBV3.out); have HOV4 := Lib.hid (OwnW.step HOV3.out HGV3.out (fun k _ hne => huV4.off k hne)); have HZV4 := Lib.hid ((huV4.off w.heap.size HNE.out).trans HZV3.out); clear huV4; have hcg8 := fun i => blk_cell HG8.out i; have hfg8 := fun i => blk_frozen HG8.out i; have hzg8 := blk_lt HG8.out; have hcgV1 := fun i => blk_cell HGV1.out i; have hfgV1 := fun i => blk_frozen HGV1.out i; have hzgV1 := blk_lt HGV1.out; have hcgV2 := fun i => blk_cell HGV2.out i; have hfgV2 := fun i => blk_frozen HGV2.out i; have hzgV2 := blk_lt HGV2.out; have hcgV3 := fun i => blk_cell HGV3.out i; have hfgV3 := fun i => blk_frozen HGV3.out i; have hzgV3 := blk_lt HGV3.out))
                    go_roundw
                    case rel =>
                      obtain ⟨f, rfl⟩ : ∃ g, f = g + 1 := ⟨f - 1, by have h1 := HFU.out; omega⟩
                      exact ⟨f, _, wx, s9, e9, e9, HGV4, HZV4, HOV4, HBV4, Lib.hid (by rw [← hwx]; exact HF2.out), Lib.hid (by have h1 := HFU.out; have h2 := HO34.out; omega), ⟨by have h2 := HO34.out; omega, by have h2 := HO34.out; omega, o5⟩, Lib.hid (by rw [← hwx, List.length_append]; have h1 := HWL.out; have h2 := HO34.out; omega)⟩
                    case measure =>
                      have h1 := HEN.out
                      have h2 := enOf_at rfl HGV4.out
                      have h3 := HO34.out
                      rw [h1, h2]
                      omega
                · have q9 : ((er9 : Int) == 0) = false := beq_eq_false_iff_ne.2 (by omega)
                  have q9b : ((er9 : Int) != 0) = true := bne_iff_ne.2 (by omega)
                  have HEQ := Lib.hid ((ER h9).symm.trans HF.out)
                  clear ER SQ GO HOK h9
                  go_wp2_with fail
                  go_quiet (fail)
                  try rw [World.drewN_drewN]
                  obtain ⟨w7, hw7⟩ : ∃ W, World.drewN w6 nq = W := ⟨_, rfl⟩
                  have hb7 : Below w6.heap.size w6 w7 := hw7 ▸ pw_below_drewN (Below.refl _ _) nq
                  rw [hw7]
                  have HG7 := Lib.hid (blk_below HG6.out hb7)
                  have HZ7 := Lib.hid (blk_below HZ6.out hb7)
                  have HB7 := Lib.hid (below_step' HB6.out hb7)
                  have HO7 := Lib.hid (HO6.out.below hb7)
                  have HR7 := Lib.hid (HR6.out.below hb7)
                  clear hb7 hw7 hcg6
                  obtain ⟨V1, hV1⟩ : ∃ W, World.setCell w7 ⟨w.heap.size + 1, 5, none⟩ (.int .i64 er9) = W := ⟨_, rfl⟩
                  have huV1 := upd_cell HG7.out 5 (.int .i64 er9)
                  rw [hV1] at huV1
                  have HGV1 := Lib.hid (show V1.heap[w.heap.size + 1]? = some (.cells #[.slice Av ws.length cv, .int .u64 q, .int .i64 en, .bool false, .int .i64 at_, .int .i64 er9] 69 (0, 0)) from huV1.at_)
                  have HBV1 := Lib.hid (huV1.to HLE.out HB7.out)
                  have HOV1 := Lib.hid (OwnW.step HO7.out HG7.out (fun k _ hne => huV1.off k hne))
                  have HZV1 := Lib.hid ((huV1.off w.heap.size HNE.out).trans HZ7.out)
                  clear huV1
                  have hcg7 := fun i => blk_cell HG7.out i
                  have hfg7 := fun i => blk_frozen HG7.out i
                  have hzg7 := blk_lt HG7.out
                  go_wp2_with (first | (refine wpList_load_row rfl 69 (.tmp 5) rfl (w.heap.size + 1) rfl 69 (#[.slice Av ws.length cv, .int .u64 q, .int .i64 en, .bool false, .int .i64 at_, .int .i64 er9]) (0, 0) _ HGV1.out Try.underlying69 rfl infoSc ?_) | (refine wpList_store_row rfl 69 (.tmp 4) (.tmp 132) rfl w.heap.size (#[.slice Av ws.length cv, .int .u64 q, .int .i64 en, .bool false, .int .i64 at_, .int .i64 er9]) rfl rfl 69 _ HZV1.out infoSc rfl (scC_one' _ _ _ _ _ _ rfl) ?_; obtain ⟨w9, hw9⟩ : ∃ w', World.setRow V1 w.heap.size (#[.slice Av ws.length cv, .int .u64 q, .int .i64 en, .bool false, .int .i64 at_, .int .i64 er9]) = w' := ⟨_, rfl⟩; have hu := upd_row HZV1.out (#[.slice Av ws.length cv, .int .u64 q, .int .i64 en, .bool false, .int .i64 at_, .int .i64 er9]); rw [hw9] at hu ⊢; have HF9 := Lib.hid hu.at_; have HK9 := Lib.hid hu.off; have HBF9 := Lib.hid (hu.to (Nat.le_refl _) HBV1.out); clear hu hw9))
                  refine bodyPost_ret_by (results_cell_row rfl _ _ w.heap.size _ (#[.slice Av ws.length cv, .int .u64 q, .int .i64 en, .bool false, .int .i64 at_, .int .i64 er9]) (0, 0) _ rfl HF9.out Try.underlying69 rfl infoSc) rfl ?_
                  rw [HDF.out, ← HEQ.out]
                  exact ⟨_, rfl, OwnW.step HOV1.out HZV1.out (fun k _ hne => HK9.out k hne), HBF9.out⟩
            · have IS := HIE.out hre
              clear HIT HIF HIE
              obtain ⟨W3, hW3⟩ : ∃ W, World.alloc w2' (.cells zRec 27) = W := ⟨_, rfl⟩
              have hbw : Below w2'.heap.size w2' W3 := hW3 ▸ below_alloc (Below.refl _ _) _
              have HG3 := Lib.hid (blk_below (blk_below HG.out hb) hbw)
              have HZ3 := Lib.hid (blk_below (blk_below HZ.out hb) hbw)
              have HB3 := Lib.hid (below_step' (below_step' HB.out hb) hbw)
              have HO3 := Lib.hid ((HO.out.below hb).below hbw)
              have HI := Lib.hid zRecF.info
              have HONE := Lib.hid zRecF.one
              clear hb hbw hcg
              generalize recE b en = re at *
              have hne : ((re : Int) == 0) = false := beq_eq_false_iff_ne.2 (by omega)
              clear hre
              have HPC := Lib.hid (HPB.out W3 en (HRD.out.below HB3.out) (by omega))
              have HOK := Lib.hid (fun h => parL_ok (b := b) (p := en) (sg := n) h)
              have ER := HER.out IS
              have SQ := HSQ.out IS
              have GO := HGO.out IS
              unfold BParsed at HPC
              clear HER HSQ HGO HFN IS
              generalize parL b en n = rr at *
              obtain ⟨wn, e9, s9, er9⟩ := rr
              simp only at ER SQ GO HOK HPC
              have hcg3 := fun i => blk_cell HG3.out i
              go_wp2_with (first | (refine wpList_box rfl rfl 27 _ _ rfl rfl zRec zRec zeroRec rfl rfl rfl HI.out HONE.out ?_; rw [hW3]))
              refine HPC.out.mono ?_
              rintro e w6 ⟨v6, rfl, ho6, hb⟩
              obtain ⟨A6, c6, rfl, -, hr6⟩ := ho6.reads
              have HG6 := Lib.hid (blk_below HG3.out hb)
              have HZ6 := Lib.hid (blk_below HZ3.out hb)
              have HB6 := Lib.hid (below_step' HB3.out hb)
              have HO6 := Lib.hid (HO3.out.below hb)
              have HR6 := Lib.hid hr6
              have hcg6 := fun i => blk_cell HG6.out i
              clear ho6 hb hr6 hcg3 hW3
              by_cases h9 : er9 = 0
              · subst h9
                obtain ⟨o1, o2, o3, o4, o5⟩ := HOK.out rfl
                have HO34 := Lib.hid (show en + 21 + 21 * (wn.length : Int) ≤ e9 ∧ e9 ≤ (b.length : Int) from ⟨o3, o4⟩)
                obtain ⟨ad, XW, rfl, hXW, hcw, -, -, -⟩ := HR6.out.walk 0 o1
                have hcs := field_cell' (hcw 1 _ (show XW[1]? = some (.int .u64 ((wd wn 0).s : Nat)) from by have h := WordF.c1 hXW; simpa using h))
                rw [Nat.zero_add, Nat.zero_mul, show ad.add 0 = ad by unfold Addr.add; simp] at hcs
                have hln : (0 : Int) < (wn.length : Int) := by omega
                have hln2 : 0 < wn.length := o1
                have SQ1 := SQ rfl
                have GO1 := GO rfl
                clear ER SQ GO HOK hXW hcw o1 o3 o4
                generalize (wd wn 0).s = ww at *
                have q9 : (((0 : Nat) : Int) == 0) = true := by decide
                by_cases hss : ww ≤ q
                · have d0 : decide (ww ≤ q) = true := decide_eq_true hss
                  have HEQ := Lib.hid ((SQ1 hss).symm.trans HF.out)
                  clear SQ1 GO1
                  go_wp2_with fail
                  go_quiet (fail)
                  try rw [World.drewN_drewN]
                  obtain ⟨w7, hw7⟩ : ∃ W, World.drewN w6 nq = W := ⟨_, rfl⟩
                  have hb7 : Below w6.heap.size w6 w7 := hw7 ▸ pw_below_drewN (Below.refl _ _) nq
                  rw [hw7]
                  have HG7 := Lib.hid (blk_below HG6.out hb7)
                  have HZ7 := Lib.hid (blk_below HZ6.out hb7)
                  have HB7 := Lib.hid (below_step' HB6.out hb7)
                  have HO7 := Lib.hid (HO6.out.below hb7)
                  have HR7 := Lib.hid (HR6.out.below hb7)
                  clear hb7 hw7 hcg6
                  clear hcs
                  obtain ⟨V1, hV1⟩ : ∃ W, World.setCell w7 ⟨w.heap.size + 1, 5, none⟩ (.int .i64 3) = W := ⟨_, rfl⟩
                  have huV1 := upd_cell HG7.out 5 (.int .i64 3)
                  rw [hV1] at huV1
                  have HGV1 := Lib.hid (show V1.heap[w.heap.size + 1]? = some (.cells #[.slice Av ws.length cv, .int .u64 q, .int .i64 en, .bool false, .int .i64 at_, .int .i64 3] 69 (0, 0)) from huV1.at_)
                  have HBV1 := Lib.hid (huV1.to HLE.out HB7.out)
                  have HOV1 := Lib.hid (OwnW.step HO7.out HG7.out (fun k _ hne => huV1.off k hne))
                  have HZV1 := Lib.hid ((huV1.off w.heap.size HNE.out).trans HZ7.out)
                  clear huV1
                  have hcg7 := fun i => blk_cell HG7.out i
                  have hfg7 := fun i => blk_frozen HG7.out i
                  have hzg7 := blk_lt HG7.out
                  go_wp2_with (first | (refine wpList_load_row rfl 69 (.tmp 5) rfl (w.heap.size + 1) rfl 69 (#[.slice Av ws.length cv, .int .u64 q, .int .i64 en, .bool false, .int .i64 at_, .int .i64 3]) (0, 0) _ HGV1.out Try.underlying69 rfl infoSc ?_) | (refine wpList_store_row rfl 69 (.tmp 4) (.tmp 132) rfl w.heap.size (#[.slice Av ws.length cv, .int .u64 q, .int .i64 en, .bool false, .int .i64 at_, .int .i64 3]) rfl rfl 69 _ HZV1.out infoSc rfl (scC_one' _ _ _ _ _ _ rfl) ?_; obtain ⟨w9, hw9⟩ : ∃ w', World.setRow V1 w.heap.size (#[.slice Av ws.length cv, .int .u64 q, .int .i64 en, .bool false, .int .i64 at_, .int .i64 3]) = w' := ⟨_, rfl⟩; have hu := upd_row HZV1.out (#[.slice Av ws.length cv, .int .u64 q, .int .i64 en, .bool false, .int .i64 at_, .int .i64 3]); rw [hw9] at hu ⊢; have HF9 := Lib.hid hu.at_; have HK9 := Lib.hid hu.off; have HBF9 := Lib.hid (hu.to (Nat.le_refl _) HBV1.out); clear hu hw9))
                  refine bodyPost_ret_by (results_cell_row rfl _ _ w.heap.size _ (#[.slice Av ws.length cv, .int .u64 q, .int .i64 en, .bool false, .int .i64 at_, .int .i64 3]) (0, 0) _ rfl HF9.out Try.underlying69 rfl infoSc) rfl ?_
                  rw [HDF.out, ← HEQ.out]
                  exact ⟨_, rfl, OwnW.step HOV1.out HZV1.out (fun k _ hne => HK9.out k hne), HBF9.out⟩
                · have d0 : decide (ww ≤ q) = false := decide_eq_false hss
                  have HF2 := Lib.hid ((GO1 hss).symm.trans HF.out)
                  clear SQ1 GO1
                  go_wp2_with fail
                  go_quiet (fail)
                  try rw [World.drewN_drewN]
                  obtain ⟨w7, hw7⟩ : ∃ W, World.drewN w6 nq = W := ⟨_, rfl⟩
                  have hb7 : Below w6.heap.size w6 w7 := hw7 ▸ pw_below_drewN (Below.refl _ _) nq
                  rw [hw7]
                  have HG7 := Lib.hid (blk_below HG6.out hb7)
                  have HZ7 := Lib.hid (blk_below HZ6.out hb7)
                  have HB7 := Lib.hid (below_step' HB6.out hb7)
                  have HO7 := Lib.hid (HO6.out.below hb7)
                  have HR7 := Lib.hid (HR6.out.below hb7)
                  clear hb7 hw7 hcg6
                  clear hcs
                  have HLN := Lib.hid (show (ws.length + wn.length) * 96 ≤ 140737488355328 from by have h1 := HWL.out; have h2 := HO34.out; omega)
                  have hcg7 := fun i => blk_cell HG7.out i
                  obtain ⟨wx, hwx⟩ : ∃ wx, ws ++ wn = wx := ⟨_, rfl⟩
                  go_wp2_with (first | (at_builtin; go_loud (refine Kd.R_append_rows kW (w0 := w) w.heap.size rfl (.tmp 134) (.tmp 135) 62 50 _ _ rfl undWd infoWdB rfl (by decide) (by decide) _ ws wn (some ad) wn.length c6 (fun _ => True) (fun _ => False) rfl rfl HO7.out HR7.out (fun x cs h => h) (fun _ h => h.elim) (fun _ _ => trivial) HB7.out HB7.out.size HLN.out ?_); intro v8 w8 hown hb8 hg8 _; rw [hwx] at hown; obtain ⟨A8, c8, rfl, -, -⟩ := OwnW.reads hown; have HO8 := Lib.hid hown; have HB8 := Lib.hid hb8; have HG8 := Lib.hid (OwnW.grown HO7.out HG7.out hg8); have HZ8 := Lib.hid (OwnW.grown HO7.out HZ7.out hg8); clear hown hb8 hg8; obtain ⟨V1, hV1⟩ : ∃ W, World.setCell w8 ⟨w.heap.size + 1, 0, none⟩ (.slice A8 wx.length c8) = W := ⟨_, rfl⟩; have huV1 := upd_cell HG8.out 0 (.slice A8 wx.length c8); rw [hV1] at huV1; have HGV1 := Lib.hid (show V1.heap[w.heap.size + 1]? = some (.cells #[.slice A8 wx.length c8, .int .u64 q, .int .i64 en, .bool false, .int .i64 at_, .int .i64 0] 69 (0, 0)) from huV1.at_); have HBV1 := Lib.hid (huV1.to HLE.out HB8.out); have HOV1 := Lib.hid (OwnW.step HO8.out HG8.out (fun k _ hne => huV1.off k hne)); have HZV1 := Lib.hid ((huV1.off w.heap.size HNE.out).trans HZ8.out); clear huV1; obtain ⟨V2, hV2⟩ : ∃ W, World.setCell V1 ⟨w.heap.size + 1, 1, none⟩ (.int .u64 s9) = W := ⟨_, rfl⟩; have huV2 := upd_cell HGV1.out 1 (.int .u64 s9); rw [hV2] at huV2; have HGV2 := Lib.hid (show V2.heap[w.heap.size + 1]? = some (.cells #[.slice A8 wx.length c8, .int .u64 s9, .int .i64 en, .bool false, .int .i64 at_, .int .i64 0] 69 (0, 0)) from huV2.at_); have HBV2 := Lib.hid (huV2.to HLE.out HBV1.out); have HOV2 := Lib.hid (OwnW.step HOV1.out HGV1.out (fun k _ hne => huV2.off k hne)); have HZV2 := Lib.hid ((huV2.off w.heap.size HNE.out).trans HZV1.out); clear huV2; obtain ⟨V3, hV3⟩ : ∃ W, World.setCell V2 ⟨w.heap.size + 1, 2, none⟩ (.int .i64 e9) = W := ⟨_, rfl⟩; have huV3 := upd_cell HGV2.out 2 (.int .i64 e9); rw [hV3] at huV3; have HGV3 := Lib.hid (show V3.heap[w.heap.size + 1]? = some (.cells #[.slice A8 wx.length c8, .int .u64 s9, .int .i64 e9, .bool false, .int .i64 at_, .int .i64 0] 69 (0, 0)) from huV3.at_); have HBV3 := Lib.hid (huV3.to HLE.out HBV2.out); have HOV3 := Lib.hid (OwnW.step HOV2.out HGV2.out (fun k _ hne => huV3.off k hne)); have HZV3 := Lib.hid ((huV3.off w.heap.size HNE.out).trans HZV2.out); clear huV3; obtain ⟨V4, hV4⟩ : ∃ W, World.setCell V3 ⟨w.heap.size + 1, 4, none⟩ (.int .i64 e9) = W := ⟨_, rfl⟩; have huV4 := upd_cell HGV3.out 4 (.int .i64 e9); rw [hV4] at huV4; have HGV4 := Lib.hid (show V4.heap[w.heap.size + 1]? = some (.cells #[.slice A8 wx.length c8, .int .u64 s9, .int .i64 e9, .bool false, .int .i64 e9, .int .i64 0] 69 (0, 0)) from huV4.at_); have HBV4 := Lib.hid (huV4.to HLE.out HBV3.out); have HOV4 := Lib.hid (OwnW.step HOV3.out HGV3.out (fun k _ hne => huV4.off k hne)); have HZV4 := Lib.hid ((huV4.off w.heap.size HNE.out).trans HZV3.out); clear huV4; have hcg8 := fun i => blk_cell HG8.out i; have hfg8 := fun i => blk_frozen HG8.out i; have hzg8 := blk_lt HG8.out; have hcgV1 := fun i => blk_cell HGV1.out i; have hfgV1 := fun i => blk_frozen HGV1.out i; have hzgV1 := blk_lt HGV1.out; have hcgV2 := fun i => blk_cell HGV2.out i; have hfgV2 := fun i => blk_frozen HGV2.out i; have hzgV2 := blk_lt HGV2.out; have hcgV3 := fun i => blk_cell HGV3.out i; have hfgV3 := fun i => blk_frozen HGV3.out i; have hzgV3 := blk_lt HGV3.out))
                  go_roundw
                  case rel =>
                    obtain ⟨f, rfl⟩ : ∃ g, f = g + 1 := ⟨f - 1, by have h1 := HFU.out; omega⟩
                    exact ⟨f, _, wx, s9, e9, e9, HGV4, HZV4, HOV4, HBV4, Lib.hid (by rw [← hwx]; exact HF2.out), Lib.hid (by have h1 := HFU.out; have h2 := HO34.out; omega), ⟨by have h2 := HO34.out; omega, by have h2 := HO34.out; omega, o5⟩, Lib.hid (by rw [← hwx, List.length_append]; have h1 := HWL.out; have h2 := HO34.out; omega)⟩
                  case measure =>
                    have h1 := HEN.out
                    have h2 := enOf_at rfl HGV4.out
                    have h3 := HO34.out
                    rw [h1, h2]
                    omega
              · have q9 : ((er9 : Int) == 0) = false := beq_eq_false_iff_ne.2 (by omega)
                have q9b : ((er9 : Int) != 0) = true := bne_iff_ne.2 (by omega)
                have HEQ := Lib.hid ((ER h9).symm.trans HF.out)
                clear ER SQ GO HOK h9
                go_wp2_with fail
                go_quiet (fail)
                try rw [World.drewN_drewN]
                obtain ⟨w7, hw7⟩ : ∃ W, World.drewN w6 nq = W := ⟨_, rfl⟩
                have hb7 : Below w6.heap.size w6 w7 := hw7 ▸ pw_below_drewN (Below.refl _ _) nq
                rw [hw7]
                have HG7 := Lib.hid (blk_below HG6.out hb7)
                have HZ7 := Lib.hid (blk_below HZ6.out hb7)
                have HB7 := Lib.hid (below_step' HB6.out hb7)
                have HO7 := Lib.hid (HO6.out.below hb7)
                have HR7 := Lib.hid (HR6.out.below hb7)
                clear hb7 hw7 hcg6
                obtain ⟨V1, hV1⟩ : ∃ W, World.setCell w7 ⟨w.heap.size + 1, 5, none⟩ (.int .i64 er9) = W := ⟨_, rfl⟩
                have huV1 := upd_cell HG7.out 5 (.int .i64 er9)
                rw [hV1] at huV1
                have HGV1 := Lib.hid (show V1.heap[w.heap.size + 1]? = some (.cells #[.slice Av ws.length cv, .int .u64 q, .int .i64 en, .bool false, .int .i64 at_, .int .i64 er9] 69 (0, 0)) from huV1.at_)
                have HBV1 := Lib.hid (huV1.to HLE.out HB7.out)
                have HOV1 := Lib.hid (OwnW.step HO7.out HG7.out (fun k _ hne => huV1.off k hne))
                have HZV1 := Lib.hid ((huV1.off w.heap.size HNE.out).trans HZ7.out)
                clear huV1
                have hcg7 := fun i => blk_cell HG7.out i
                have hfg7 := fun i => blk_frozen HG7.out i
                have hzg7 := blk_lt HG7.out
                go_wp2_with (first | (refine wpList_load_row rfl 69 (.tmp 5) rfl (w.heap.size + 1) rfl 69 (#[.slice Av ws.length cv, .int .u64 q, .int .i64 en, .bool false, .int .i64 at_, .int .i64 er9]) (0, 0) _ HGV1.out Try.underlying69 rfl infoSc ?_) | (refine wpList_store_row rfl 69 (.tmp 4) (.tmp 132) rfl w.heap.size (#[.slice Av ws.length cv, .int .u64 q, .int .i64 en, .bool false, .int .i64 at_, .int .i64 er9]) rfl rfl 69 _ HZV1.out infoSc rfl (scC_one' _ _ _ _ _ _ rfl) ?_; obtain ⟨w9, hw9⟩ : ∃ w', World.setRow V1 w.heap.size (#[.slice Av ws.length cv, .int .u64 q, .int .i64 en, .bool false, .int .i64 at_, .int .i64 er9]) = w' := ⟨_, rfl⟩; have hu := upd_row HZV1.out (#[.slice Av ws.length cv, .int .u64 q, .int .i64 en, .bool false, .int .i64 at_, .int .i64 er9]); rw [hw9] at hu ⊢; have HF9 := Lib.hid hu.at_; have HK9 := Lib.hid hu.off; have HBF9 := Lib.hid (hu.to (Nat.le_refl _) HBV1.out); clear hu hw9))
                refine bodyPost_ret_by (results_cell_row rfl _ _ w.heap.size _ (#[.slice Av ws.length cv, .int .u64 q, .int .i64 en, .bool false, .int .i64 at_, .int .i64 er9]) (0, 0) _ rfl HF9.out Try.underlying69 rfl infoSc) rfl ?_
                rw [HDF.out, ← HEQ.out]
                exact ⟨_, rfl, OwnW.step HOV1.out HZV1.out (fun k _ hne => HK9.out k hne), HBF9.out⟩
      · have q2 : (nn != n) = true := bne_iff_ne.2 hn
        have HEQ := Lib.hid (E3 (fun h => hn h.2))
        clear E2 E3 hk hn
        obtain ⟨V1, hV1⟩ : ∃ W, World.setCell W3 ⟨w.heap.size + 1, 5, none⟩ (.int .i64 3) = W := ⟨_, rfl⟩
        have huV1 := upd_cell HG3.out 5 (.int .i64 3)
        rw [hV1] at huV1
        have HGV1 := Lib.hid (show V1.heap[w.heap.size + 1]? = some (.cells #[.slice none 0 0, .int .u64 0, .int .i64 0, .bool false, .int .i64 0, .int .i64 3] 69 (0, 0)) from huV1.at_)
        have HBV1 := Lib.hid (huV1.to HLE.out HB3.out)
        have HOV1 := Lib.hid (OwnW.step HO3.out HG3.out (fun k _ hne => huV1.off k hne))
        have HZV1 := Lib.hid ((huV1.off w.heap.size HNE.out).trans HZ3.out)
        clear huV1
        have hcg3 := fun i => blk_cell HG3.out i
        have hfg3 := fun i => blk_frozen HG3.out i
        have hzg3 := blk_lt HG3.out
        go_wp2_with (first | (refine wpList_box rfl rfl 27 _ _ rfl rfl X zRec zeroRec rfl rfl HSZ.out HI.out HONE.out ?_; rw [hW3]) | (refine wpList_load_row rfl 69 (.tmp 5) rfl (w.heap.size + 1) rfl 69 (#[.slice none 0 0, .int .u64 0, .int .i64 0, .bool false, .int .i64 0, .int .i64 3]) (0, 0) _ HGV1.out Try.underlying69 rfl infoSc ?_) | (refine wpList_store_row rfl 69 (.tmp 4) (.tmp 37) rfl w.heap.size (#[.slice none 0 0, .int .u64 0, .int .i64 0, .bool false, .int .i64 0, .int .i64 3]) rfl rfl 69 _ HZV1.out infoSc rfl (scC_one' _ _ _ _ _ _ rfl) ?_; obtain ⟨w9, hw9⟩ : ∃ w', World.setRow V1 w.heap.size (#[.slice none 0 0, .int .u64 0, .int .i64 0, .bool false, .int .i64 0, .int .i64 3]) = w' := ⟨_, rfl⟩; have hu := upd_row HZV1.out (#[.slice none 0 0, .int .u64 0, .int .i64 0, .bool false, .int .i64 0, .int .i64 3]); rw [hw9] at hu ⊢; have HF9 := Lib.hid hu.at_; have HK9 := Lib.hid hu.off; have HBF9 := Lib.hid (hu.to (Nat.le_refl _) HBV1.out); clear hu hw9))
        refine bodyPost_ret_by (results_cell_row rfl _ _ w.heap.size _ (#[.slice none 0 0, .int .u64 0, .int .i64 0, .bool false, .int .i64 0, .int .i64 3]) (0, 0) _ rfl HF9.out Try.underlying69 rfl infoSc) rfl ?_
        rw [HDF.out, ← HEQ.out]
        exact ⟨_, rfl, OwnW.step HOV1.out HZV1.out (fun k _ hne => HK9.out k hne), HBF9.out⟩
    · have q1 : ((k : Int) != 7) = true := bne_iff_ne.2 hk
      have HEQ := Lib.hid (E3 (fun h => hk h.1))
      clear E2 E3 hk
      obtain ⟨V1, hV1⟩ : ∃ W, World.setCell W3 ⟨w.heap.size + 1, 5, none⟩ (.int .i64 3) = W := ⟨_, rfl⟩
      have huV1 := upd_cell HG3.out 5 (.int .i64 3)
      rw [hV1] at huV1
      have HGV1 := Lib.hid (show V1.heap[w.heap.size + 1]? = some (.cells #[.slice none 0 0, .int .u64 0, .int .i64 0, .bool false, .int .i64 0, .int .i64 3] 69 (0, 0)) from huV1.at_)
      have HBV1 := Lib.hid (huV1.to HLE.out HB3.out)
      have HOV1 := Lib.hid (OwnW.step HO3.out HG3.out (fun k _ hne => huV1.off k hne))
      have HZV1 := Lib.hid ((huV1.off w.heap.size HNE.out).trans HZ3.out)
      clear huV1
      have hcg3 := fun i => blk_cell HG3.out i
      have hfg3 := fun i => blk_frozen HG3.out i
      have hzg3 := blk_lt HG3.out
      go_wp2_with (first | (refine wpList_box rfl rfl 27 _ _ rfl rfl X zRec zeroRec rfl rfl HSZ.out HI.out HONE.out ?_; rw [hW3]) | (refine wpList_load_row rfl 69 (.tmp 5) rfl (w.heap.size + 1) rfl 69 (#[.slice none 0 0, .int .u64 0, .int .i64 0, .bool false, .int .i64 0, .int .i64 3]) (0, 0) _ HGV1.out Try.underlying69 rfl infoSc ?_) | (refine wpList_store_row rfl 69 (.tmp 4) (.tmp 37) rfl w.heap.size (#[.slice none 0 0, .int .u64 0, .int .i64 0, .bool false, .int .i64 0, .int .i64 3]) rfl rfl 69 _ HZV1.out infoSc rfl (scC_one' _ _ _ _ _ _ rfl) ?_; obtain ⟨w9, hw9⟩ : ∃ w', World.setRow V1 w.heap.size (#[.slice none 0 0, .int .u64 0, .int .i64 0, .bool false, .int .i64 0, .int .i64 3]) = w' := ⟨_, rfl⟩; have hu := upd_row HZV1.out (#[.slice none 0 0, .int .u64 0, .int .i64 0, .bool false, .int .i64 0, .int .i64 3]); rw [hw9] at hu ⊢; have HF9 := Lib.hid hu.at_; have HK9 := Lib.hid hu.off; have HBF9 := Lib.hid (hu.to (Nat.le_refl _) HBV1.out); clear hu hw9))
      refine bodyPost_ret_by (results_cell_row rfl _ _ w.heap.size _ (#[.slice none 0 0, .int .u64 0, .int .i64 0, .bool false, .int .i64 0, .int .i64 3]) (0, 0) _ rfl HF9.out Try.underlying69 rfl infoSc) rfl ?_
      rw [HDF.out, ← HEQ.out]
      exact ⟨_, rfl, OwnW.step HOV1.out HZV1.out (fun k _ hne => HK9.out k hne), HBF9.out⟩
  · have HEQ := Lib.hid (HE1.out hre)
    obtain ⟨W3, hW3⟩ : ∃ W, World.alloc w2 (.cells zRec 27) = W := ⟨_, rfl⟩
    have hbw : Below w2.heap.size w2 W3 := hW3 ▸ below_alloc (Below.refl _ _) _
    have HG3 := Lib.hid (blk_below (blk_below HG1.out hb) hbw)
    have HZ3 := Lib.hid (blk_below (blk_below HZ1.out hb) hbw)
    have HB3 := Lib.hid (below_step' (below_step' HB1.out hb) hbw)
    have HO3 := Lib.hid ((HO1.out.below hb).below hbw)
    have HI := Lib.hid zRecF.info
    have HONE := Lib.hid zRecF.one
    clear hb hbw hw1 HE1 HE2 HE3 HP0
    generalize recE b 0 = re at *
    have hne : ((re : Int) != 0) = true := bne_iff_ne.2 (by omega)
    clear hre
    obtain ⟨V1, hV1⟩ : ∃ W, World.setCell W3 ⟨w.heap.size + 1, 5, none⟩ (.int .i64 re) = W := ⟨_, rfl⟩
    have huV1 := upd_cell HG3.out 5 (.int .i64 re)
    rw [hV1] at huV1
    have HGV1 := Lib.hid (show V1.heap[w.heap.size + 1]? = some (.cells #[.slice none 0 0, .int .u64 0, .int .i64 0, .bool false, .int .i64 0, .int .i64 re] 69 (0, 0)) from huV1.at_)
    have HBV1 := Lib.hid (huV1.to HLE.out HB3.out)
    have HOV1 := Lib.hid (OwnW.step HO3.out HG3.out (fun k _ hne => huV1.off k hne))
    have HZV1 := Lib.hid ((huV1.off w.heap.size HNE.out).trans HZ3.out)
    clear huV1
    have hcg3 := fun i => blk_cell HG3.out i
    have hfg3 := fun i => blk_frozen HG3.out i
    have hzg3 := blk_lt HG3.out
    go_wp2_with (first | (refine wpList_box rfl rfl 27 _ _ rfl rfl zRec zRec zeroRec rfl rfl rfl HI.out HONE.out ?_; rw [hW3]) | (refine wpList_load_row rfl 69 (.tmp 5) rfl (w.heap.size + 1) rfl 69 (#[.slice none 0 0, .int .u64 0, .int .i64 0, .bool false, .int .i64 0, .int .i64 re]) (0, 0) _ HGV1.out Try.underlying69 rfl infoSc ?_) | (refine wpList_store_row rfl 69 (.tmp 4) (.tmp 26) rfl w.heap.size (#[.slice none 0 0, .int .u64 0, .int .i64 0, .bool false, .int .i64 0, .int .i64 re]) rfl rfl 69 _ HZV1.out infoSc rfl (scC_one' _ _ _ _ _ _ rfl) ?_; obtain ⟨w9, hw9⟩ : ∃ w', World.setRow V1 w.heap.size (#[.slice none 0 0, .int .u64 0, .int .i64 0, .bool false, .int .i64 0, .int .i64 re]) = w' := ⟨_, rfl⟩; have hu := upd_row HZV1.out (#[.slice none 0 0, .int .u64 0, .int .i64 0, .bool false, .int .i64 0, .int .i64 re]); rw [hw9] at hu ⊢; have HF9 := Lib.hid hu.at_; have HK9 := Lib.hid hu.off; have HBF9 := Lib.hid (hu.to (Nat.le_refl _) HBV1.out); clear hu hw9))
    refine bodyPost_ret_by (results_cell_row rfl _ _ w.heap.size _ (#[.slice none 0 0, .int .u64 0, .int .i64 0, .bool false, .int .i64 0, .int .i64 re]) (0, 0) _ rfl HF9.out Try.underlying69 rfl infoSc) rfl ?_
    rw [HDF.out, ← HEQ.out]
    exact ⟨_, rfl, OwnW.step HOV1.out HZV1.out (fun k _ hne => HK9.out k hne), HBF9.out⟩
end Go.Proofs.Ytceldlijbehkdaa.Sg
