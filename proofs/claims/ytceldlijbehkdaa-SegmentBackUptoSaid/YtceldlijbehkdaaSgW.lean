/- segment: begin, foot, and the closure that stops. -/
import Derived.Test.YtceldlijbehkdaaSgPk
set_option linter.unusedVariables false
set_option linter.unusedSimpArgs false
namespace Go.Proofs.Ytceldlijbehkdaa.Sg
open Go.RowKit Go.Proofs.YtceldlijbehkdaaW.PrintWords Go.Proofs.Ytceldlijbehkdaa.B Go.Proofs.Ytceldlijbehkdaa.Fx Go.Proofs.Ytceldlijbehkdaa.Fr Go.Proofs.Ytceldlijbehkdaa.O Go.Proofs.Ytceldlijbehkdaa.Rc Go.Proofs.Ytceldlijbehkdaa.Bt
theorem scC_one' (v : Value) (q : Nat) (en : Int) (sl : Bool) (at_ er : Int) (h : v.oneCell' = true) : (#[v, .int .u64 q, .int .i64 en, .bool sl, .int .i64 at_, .int .i64 er] : Array Value).all (·.oneCell') = true := by
  rw [Array.all_eq_true_iff_forall_mem]
  intro u hu
  simp at hu
  rcases hu with rfl | rfl | rfl | rfl | rfl | rfl
  · exact h
  all_goals rfl
set_option maxRecDepth 100000 in
set_option maxHeartbeats 3200000 in
theorem begin_any (A : Option Addr) (c : Nat) (b : List UInt8) (n : Int) (w : World) (hl : b.length ≤ 1000000000000) (hc : b.length ≤ c) (hr : Rd w A b) :
    Calls Try.prog 58 #[.slice A b.length c, .int .i64 n] w (Scanned (begS b n) w) := by
  obtain ⟨w1, hw1⟩ : ∃ w1, w.alloc (.cells (ScC (.slice none 0 0) zSc) 69) = w1 := ⟨_, rfl⟩
  have HZ := Lib.hid (show w1.heap[w.heap.size]? = some (.cells (ScC (.slice none 0 0) zSc) 69 (0, 0)) from hw1 ▸ blk_new w _)
  have hb0 : Below w.heap.size w w1 := hw1 ▸ below_alloc (Below.refl _ _) _
  have HB1 := Lib.hid hb0
  have HP := Lib.hid (Rc.parse_any A c b 0 w1 (by omega) hc (hr.below hb0) (by decide))
  have HDF := Lib.hid (show ∀ x, begS b n = x → Scanned (begS b n) w = fun e w' => ∃ v, e = .returned (.agg (ScC v x)) ∧ OwnW w' w.heap.size v x.ws ∧ Below w.heap.size w w' from fun x h => by rw [h]; rfl)
  have HE1 := Lib.hid (fun h : recE b 0 ≠ 0 => (show begS b n = ⟨[], 0, 0, false, 0, recE b 0⟩ from by unfold begS; rw [if_pos h]))
  have HE2 := Lib.hid (fun (h : recE b 0 = 0) (h2 : (pKind b 0 : Int) = 7 ∧ nF (pKind b 0) (pData b 0) = n) => (show begS b n = ⟨[], pSeq b 0, pEnd b 0, false, pEnd b 0, 0⟩ from by unfold begS; rw [if_neg (by simp [h]), if_pos h2]))
  have HE3 := Lib.hid (fun (h : recE b 0 = 0) (h2 : ¬ ((pKind b 0 : Int) = 7 ∧ nF (pKind b 0) (pData b 0) = n)) => (show begS b n = ⟨[], 0, 0, false, 0, 3⟩ from by unfold begS; rw [if_neg (by simp [h]), if_neg h2]))
  clear hr hb0
  go_enter Try.func58, Try.ntmps58
  go_wp2_with (refine wpList_allocZ rfl 69 rfl (ScC (.slice none 0 0) zSc) zeroSc ?_; rw [hw1])
  refine HP.out.mono ?_
  rintro e w2 (⟨hre, X, A2, c2, rfl, hX, -, hb⟩ | ⟨hre, rfl, hb⟩)
  · obtain ⟨W3, hW3⟩ : ∃ W, w2.alloc (.cells X 27) = W := ⟨_, rfl⟩
    have hbw : Below w2.heap.size w2 W3 := hW3 ▸ below_alloc (Below.refl _ _) _
    have HG3 := Lib.hid (show W3.heap[w2.heap.size]? = some (.cells X 27 (0, 0)) from hW3 ▸ blk_new w2 _)
    have HZ3 := Lib.hid (blk_below (blk_below HZ.out hb) hbw)
    have HB3 := Lib.hid (below_step' (below_step' HB1.out hb) hbw)
    have HI := Lib.hid hX.info
    have HSZ := Lib.hid (show zRec.size = X.size by rw [hX.size]; rfl)
    have HONE := Lib.hid hX.one
    have h0 := hX.c0
    have h1 := hX.c1
    have h36 := hX.c36
    have hsl := seq_lt b 0
    have hcc := fun i => blk_cell HG3.out i
    have E2 := HE2.out hre
    have E3 := HE3.out hre
    clear hX hb hbw hw1 hre HE1 HE2 HE3
    generalize nF (pKind b 0) (pData b 0) = nn at *
    generalize zF (pKind b 0) (pData b 0) = zz at *
    generalize dF (pKind b 0) (pData b 0) = dd at *
    generalize nmF (pKind b 0) (pData b 0) = nmn at *
    generalize lF (pKind b 0) (pData b 0) = ll at *
    generalize pKind b 0 = k at *
    generalize pSeq b 0 = s at *
    generalize pEnd b 0 = en at *
    by_cases hk : (k : Int) = 7
    · have q1 : ((k : Int) != 7) = false := by rw [bne_eq_false_iff_eq]; exact hk
      by_cases hn : nn = n
      · have q2 : (nn != n) = false := by rw [bne_eq_false_iff_eq]; exact hn
        have HEQ := Lib.hid (HDF.out _ (E2 ⟨hk, hn⟩))
        clear E2 E3 hk hn
        go_wp2_with (first | (refine wpList_box rfl rfl 27 _ _ rfl rfl X zRec zeroRec rfl rfl HSZ.out HI.out HONE.out ?_; rw [hW3]) | (refine wpList_store_row rfl 69 (.tmp 4) (.tmp 34) rfl w.heap.size (ScC (.slice none 0 0) ⟨[], s, en, false, en, 0⟩) rfl rfl 69 _ HZ3.out infoSc rfl (by first | rfl | exact scC_one _ _ (by assumption) | exact scC_one _ _ rfl) ?_; obtain ⟨w9, hw9⟩ : ∃ w', World.setRow W3 (w.heap.size) (ScC (.slice none 0 0) ⟨[], s, en, false, en, 0⟩) = w' := ⟨_, rfl⟩; have hu := upd_row HZ3.out (ScC (.slice none 0 0) ⟨[], s, en, false, en, 0⟩); rw [hw9] at hu ⊢; have HF9 := Lib.hid hu.at_; have HBF9 := Lib.hid (hu.to (Nat.le_refl _) HB3.out); clear hu hw9))
        refine bodyPost_ret_by (results_cell_row rfl _ _ w.heap.size _ (ScC (.slice none 0 0) ⟨[], s, en, false, en, 0⟩) (0, 0) _ rfl HF9.out Try.underlying69 rfl infoSc) rfl ?_
        rw [HEQ.out]
        exact ⟨_, rfl, OwnW.nil _ _, HBF9.out⟩
      · have q2 : (nn != n) = true := bne_iff_ne.2 hn
        have HEQ := Lib.hid (HDF.out _ (E3 (fun h => hn h.2)))
        clear E2 E3 hk hn
        go_wp2_with (first | (refine wpList_box rfl rfl 27 _ _ rfl rfl X zRec zeroRec rfl rfl HSZ.out HI.out HONE.out ?_; rw [hW3]) | (refine wpList_store_row rfl 69 (.tmp 4) (.tmp 29) rfl w.heap.size (ScC (.slice none 0 0) ⟨[], 0, 0, false, 0, 3⟩) rfl rfl 69 _ HZ3.out infoSc rfl (by first | rfl | exact scC_one _ _ (by assumption) | exact scC_one _ _ rfl) ?_; obtain ⟨w9, hw9⟩ : ∃ w', World.setRow W3 (w.heap.size) (ScC (.slice none 0 0) ⟨[], 0, 0, false, 0, 3⟩) = w' := ⟨_, rfl⟩; have hu := upd_row HZ3.out (ScC (.slice none 0 0) ⟨[], 0, 0, false, 0, 3⟩); rw [hw9] at hu ⊢; have HF9 := Lib.hid hu.at_; have HBF9 := Lib.hid (hu.to (Nat.le_refl _) HB3.out); clear hu hw9))
        refine bodyPost_ret_by (results_cell_row rfl _ _ w.heap.size _ (ScC (.slice none 0 0) ⟨[], 0, 0, false, 0, 3⟩) (0, 0) _ rfl HF9.out Try.underlying69 rfl infoSc) rfl ?_
        rw [HEQ.out]
        exact ⟨_, rfl, OwnW.nil _ _, HBF9.out⟩
    · have q1 : ((k : Int) != 7) = true := bne_iff_ne.2 hk
      have HEQ := Lib.hid (HDF.out _ (E3 (fun h => hk h.1)))
      clear E2 E3 hk
      go_wp2_with (first | (refine wpList_box rfl rfl 27 _ _ rfl rfl X zRec zeroRec rfl rfl HSZ.out HI.out HONE.out ?_; rw [hW3]) | (refine wpList_store_row rfl 69 (.tmp 4) (.tmp 29) rfl w.heap.size (ScC (.slice none 0 0) ⟨[], 0, 0, false, 0, 3⟩) rfl rfl 69 _ HZ3.out infoSc rfl (by first | rfl | exact scC_one _ _ (by assumption) | exact scC_one _ _ rfl) ?_; obtain ⟨w9, hw9⟩ : ∃ w', World.setRow W3 (w.heap.size) (ScC (.slice none 0 0) ⟨[], 0, 0, false, 0, 3⟩) = w' := ⟨_, rfl⟩; have hu := upd_row HZ3.out (ScC (.slice none 0 0) ⟨[], 0, 0, false, 0, 3⟩); rw [hw9] at hu ⊢; have HF9 := Lib.hid hu.at_; have HBF9 := Lib.hid (hu.to (Nat.le_refl _) HB3.out); clear hu hw9))
      refine bodyPost_ret_by (results_cell_row rfl _ _ w.heap.size _ (ScC (.slice none 0 0) ⟨[], 0, 0, false, 0, 3⟩) (0, 0) _ rfl HF9.out Try.underlying69 rfl infoSc) rfl ?_
      rw [HEQ.out]
      exact ⟨_, rfl, OwnW.nil _ _, HBF9.out⟩
  · obtain ⟨W3, hW3⟩ : ∃ W, w2.alloc (.cells zRec 27) = W := ⟨_, rfl⟩
    have hbw : Below w2.heap.size w2 W3 := hW3 ▸ below_alloc (Below.refl _ _) _
    have HZ3 := Lib.hid (blk_below (blk_below HZ.out hb) hbw)
    have HB3 := Lib.hid (below_step' (below_step' HB1.out hb) hbw)
    have HI := Lib.hid zRecF.info
    have HONE := Lib.hid zRecF.one
    have HEQ := Lib.hid (HDF.out _ (HE1.out hre))
    clear hb hbw hw1 HE1 HE2 HE3
    generalize recE b 0 = re at *
    have hne : ((re : Int) != 0) = true := bne_iff_ne.2 (by omega)
    clear hre
    go_wp2_with (first | (refine wpList_box rfl rfl 27 _ _ rfl rfl zRec zRec zeroRec rfl rfl rfl HI.out HONE.out ?_; rw [hW3]) | (refine wpList_store_row rfl 69 (.tmp 4) (.tmp 18) rfl w.heap.size (ScC (.slice none 0 0) ⟨[], 0, 0, false, 0, re⟩) rfl rfl 69 _ HZ3.out infoSc rfl (by first | rfl | exact scC_one _ _ (by assumption) | exact scC_one _ _ rfl) ?_; obtain ⟨w9, hw9⟩ : ∃ w', World.setRow W3 (w.heap.size) (ScC (.slice none 0 0) ⟨[], 0, 0, false, 0, re⟩) = w' := ⟨_, rfl⟩; have hu := upd_row HZ3.out (ScC (.slice none 0 0) ⟨[], 0, 0, false, 0, re⟩); rw [hw9] at hu ⊢; have HF9 := Lib.hid hu.at_; have HBF9 := Lib.hid (hu.to (Nat.le_refl _) HB3.out); clear hu hw9))
    refine bodyPost_ret_by (results_cell_row rfl _ _ w.heap.size _ (ScC (.slice none 0 0) ⟨[], 0, 0, false, 0, re⟩) (0, 0) _ rfl HF9.out Try.underlying69 rfl infoSc) rfl ?_
    rw [HEQ.out]
    exact ⟨_, rfl, OwnW.nil _ _, HBF9.out⟩
/-- the end of foot -/
def FootE (b : List UInt8) (v : Value) (x : Sc) (w : World) (e : Ending) (w' : World) : Prop := e = .returned (.tuple #[.agg (ScC v (footS b x)), .bool (isFoot b x.en)]) ∧ Below w.heap.size w w'
set_option maxRecDepth 100000 in
set_option maxHeartbeats 6400000 in
theorem foot_any (Av : Option Addr) (cv : Nat) (ws : List Wd) (q : Nat) (en : Int) (sl : Bool) (at_ : Int) (er : Nat) (A : Option Addr) (c : Nat) (b : List UInt8) (w : World) (hl : b.length ≤ 1000000000000) (hc : b.length ≤ c) (hr : Rd w A b) (hen : -9223372036854775808 ≤ en ∧ en ≤ 9223372036854775807) :
    Calls Try.prog 60 #[.agg #[.slice Av ws.length cv, .int .u64 q, .int .i64 en, .bool sl, .int .i64 at_, .int .i64 er], .slice A b.length c] w (FootE b (.slice Av ws.length cv) ⟨ws, q, en, sl, at_, er⟩ w) := by
  obtain ⟨w1, hw1⟩ : ∃ w1, (w.alloc (.cells #[.slice Av ws.length cv, .int .u64 q, .int .i64 en, .bool sl, .int .i64 at_, .int .i64 er] 69)).alloc (.cells #[.slice none 0 0, .int .u64 0, .int .i64 0, .bool false, .int .i64 0, .int .i64 0] 69) = w1 := ⟨_, rfl⟩
  obtain ⟨hg, hz, hb0⟩ := run_blk2 w #[.slice Av ws.length cv, .int .u64 q, .int .i64 en, .bool sl, .int .i64 at_, .int .i64 er] #[.slice none 0 0, .int .u64 0, .int .i64 0, .bool false, .int .i64 0, .int .i64 0] 69 69
  rw [hw1] at hg hz hb0
  have HG := Lib.hid hg
  have HZ := Lib.hid hz
  have HB1 := Lib.hid hb0
  have HP := Lib.hid (Rc.parse_any A c b en w1 (by omega) hc (hr.below hb0) hen)
  have HDF := Lib.hid (show ∀ y t, footS b ⟨ws, q, en, sl, at_, er⟩ = y → isFoot b en = t → FootE b (.slice Av ws.length cv) ⟨ws, q, en, sl, at_, er⟩ w = fun e w' => e = .returned (.tuple #[.agg (ScC (.slice Av ws.length cv) y), .bool t]) ∧ Below w.heap.size w w' from fun y t h h2 => by subst h h2; rfl)
  have HE1 := Lib.hid (fun h : isFoot b en = false => (show footS b ⟨ws, q, en, sl, at_, er⟩ = ⟨ws, q, en, sl, at_, er⟩ from by unfold footS; rw [if_pos h]))
  have HE2 := Lib.hid (fun (h : isFoot b en = true) (h2 : q < pSeq b en ∧ nF (pKind b en) (pData b en) = (ws.length : Int) ∧ zF (pKind b en) (pData b en) = en ∧ pEnd b en = (b.length : Int)) => (show footS b ⟨ws, q, en, sl, at_, er⟩ = ⟨ws, pSeq b en, pEnd b en, true, pEnd b en, er⟩ from by unfold footS; rw [if_neg (by simp [h]), if_pos (show goodFoot b ⟨ws, q, en, sl, at_, er⟩ = true from decide_eq_true h2)]))
  have HE3 := Lib.hid (fun (h : isFoot b en = true) (h2 : ¬ (q < pSeq b en ∧ nF (pKind b en) (pData b en) = (ws.length : Int) ∧ zF (pKind b en) (pData b en) = en ∧ pEnd b en = (b.length : Int))) => (show footS b ⟨ws, q, en, sl, at_, er⟩ = ⟨ws, q, en, sl, at_, 3⟩ from by unfold footS; rw [if_neg (by simp [h]), if_neg (by rw [show goodFoot b ⟨ws, q, en, sl, at_, er⟩ = false from decide_eq_false h2]; decide)]))
  have HIT := Lib.hid (fun (h : recE b en = 0) (h2 : (pKind b en : Int) = 8) => (show isFoot b en = true from decide_eq_true ⟨h, h2⟩))
  have HIF := Lib.hid (fun (h : recE b en = 0) (h2 : ¬ (pKind b en : Int) = 8) => (show isFoot b en = false from decide_eq_false (fun q => h2 q.2)))
  have HIE := Lib.hid (fun (h : recE b en ≠ 0) => (show isFoot b en = false from decide_eq_false (fun q => h q.1)))
  clear hr hb0 hg hz
  have hsl := seq_lt b en
  have hcg1 := fun i => blk_cell HG.out i
  go_enter Try.func60, Try.ntmps60
  go_wp2_with fail
  try rw [hw1]
  clear hcg1
  refine HP.out.mono ?_
  rintro e w2 (⟨hre, X, A2, c2, rfl, hX, -, hb⟩ | ⟨hre, rfl, hb⟩)
  · obtain ⟨W3, hW3⟩ : ∃ W, w2.alloc (.cells X 27) = W := ⟨_, rfl⟩
    have hbw : Below w2.heap.size w2 W3 := hW3 ▸ below_alloc (Below.refl _ _) _
    have HX3 := Lib.hid (show W3.heap[w2.heap.size]? = some (.cells X 27 (0, 0)) from hW3 ▸ blk_new w2 _)
    have HG3 := Lib.hid (blk_below (blk_below HG.out hb) hbw)
    have HZ3 := Lib.hid (blk_below (blk_below HZ.out hb) hbw)
    have HB3 := Lib.hid (below_step' (below_step' HB1.out hb) hbw)
    have HI := Lib.hid hX.info
    have HSZ := Lib.hid (show zRec.size = X.size by rw [hX.size]; rfl)
    have HONE := Lib.hid hX.one
    have h0 := hX.c0
    have h1 := hX.c1
    have h36 := hX.c36
    have h37 := hX.c37
    have hcx := fun i => blk_cell HX3.out i
    have hcg := fun i => blk_cell HG3.out i
    have hfg := fun i => blk_frozen HG3.out i
    have hzg := blk_lt HG3.out
    clear hX hb hbw hw1
    by_cases hk : (pKind b en : Int) = 8
    · have IT := HIT.out hre hk
      have E2 := HE2.out IT
      have E3 := HE3.out IT
      have q1 : ((pKind b en : Int) != 8) = false := by rw [bne_eq_false_iff_eq]; exact hk
      clear HE1 HE2 HE3 HIF HIE HIT hk hre
      generalize nF (pKind b en) (pData b en) = nn at *
      generalize zF (pKind b en) (pData b en) = zz at *
      generalize dF (pKind b en) (pData b en) = dd at *
      generalize nmF (pKind b en) (pData b en) = nmn at *
      generalize lF (pKind b en) (pData b en) = ll at *
      generalize pKind b en = k at *
      generalize pSeq b en = s at *
      generalize pEnd b en = pe at *
      by_cases hq : q < s
      · have d1 : ¬ s ≤ q := by omega
        by_cases hn : nn = (ws.length : Int)
        · have q2 : (nn != (ws.length : Int)) = false := by rw [bne_eq_false_iff_eq]; exact hn
          by_cases hz : zz = en
          · have q3 : (zz != en) = false := by rw [bne_eq_false_iff_eq]; exact hz
            by_cases hpe : pe = (b.length : Int)
            · have q4 : (pe != (b.length : Int)) = false := by rw [bne_eq_false_iff_eq]; exact hpe
              have HEQ := Lib.hid (HDF.out _ _ (E2 ⟨hq, hn, hz, hpe⟩) IT)
              clear E2 E3 hn hz hpe
              obtain ⟨V1, hV1⟩ : ∃ W, World.setCell W3 ⟨w.heap.size, 1, none⟩ (.int .u64 (s : Int)) = W := ⟨_, rfl⟩
              have huV1 := upd_cell HG3.out 1 (.int .u64 (s : Int))
              rw [hV1] at huV1
              have HGV1 := Lib.hid (show V1.heap[w.heap.size]? = some (.cells #[.slice Av ws.length cv, .int .u64 (s : Int), .int .i64 en, .bool sl, .int .i64 at_, .int .i64 er] 69 (0, 0)) from huV1.at_)
              have HBV1 := Lib.hid (huV1.to (Nat.le_refl _) HB3.out)
              obtain ⟨V2, hV2⟩ : ∃ W, World.setCell V1 ⟨w.heap.size, 2, none⟩ (.int .i64 pe) = W := ⟨_, rfl⟩
              have huV2 := upd_cell HGV1.out 2 (.int .i64 pe)
              rw [hV2] at huV2
              have HGV2 := Lib.hid (show V2.heap[w.heap.size]? = some (.cells #[.slice Av ws.length cv, .int .u64 (s : Int), .int .i64 pe, .bool sl, .int .i64 at_, .int .i64 er] 69 (0, 0)) from huV2.at_)
              have HBV2 := Lib.hid (huV2.to (Nat.le_refl _) HBV1.out)
              obtain ⟨V3, hV3⟩ : ∃ W, World.setCell V2 ⟨w.heap.size, 4, none⟩ (.int .i64 pe) = W := ⟨_, rfl⟩
              have huV3 := upd_cell HGV2.out 4 (.int .i64 pe)
              rw [hV3] at huV3
              have HGV3 := Lib.hid (show V3.heap[w.heap.size]? = some (.cells #[.slice Av ws.length cv, .int .u64 (s : Int), .int .i64 pe, .bool sl, .int .i64 pe, .int .i64 er] 69 (0, 0)) from huV3.at_)
              have HBV3 := Lib.hid (huV3.to (Nat.le_refl _) HBV2.out)
              obtain ⟨V4, hV4⟩ : ∃ W, World.setCell V3 ⟨w.heap.size, 3, none⟩ (.bool true) = W := ⟨_, rfl⟩
              have huV4 := upd_cell HGV3.out 3 (.bool true)
              rw [hV4] at huV4
              have HGV4 := Lib.hid (show V4.heap[w.heap.size]? = some (.cells #[.slice Av ws.length cv, .int .u64 (s : Int), .int .i64 pe, .bool true, .int .i64 pe, .int .i64 er] 69 (0, 0)) from huV4.at_)
              have HBV4 := Lib.hid (huV4.to (Nat.le_refl _) HBV3.out)
              have HZV1 := Lib.hid ((huV1.off (w.heap.size + 1) (by omega)).trans HZ3.out)
              have HZV2 := Lib.hid ((huV2.off (w.heap.size + 1) (by omega)).trans HZV1.out)
              have HZV3 := Lib.hid ((huV3.off (w.heap.size + 1) (by omega)).trans HZV2.out)
              have HZV4 := Lib.hid ((huV4.off (w.heap.size + 1) (by omega)).trans HZV3.out)
              clear huV1 huV2 huV3 huV4
              have hcgV1 := fun i => blk_cell HGV1.out i
              have hfgV1 := fun i => blk_frozen HGV1.out i
              have hzgV1 := blk_lt HGV1.out
              have hcgV2 := fun i => blk_cell HGV2.out i
              have hfgV2 := fun i => blk_frozen HGV2.out i
              have hzgV2 := blk_lt HGV2.out
              have hcgV3 := fun i => blk_cell HGV3.out i
              have hfgV3 := fun i => blk_frozen HGV3.out i
              have hzgV3 := blk_lt HGV3.out
              have hcgV4 := fun i => blk_cell HGV4.out i
              have hfgV4 := fun i => blk_frozen HGV4.out i
              have hzgV4 := blk_lt HGV4.out
              go_wp2_with (first | (refine wpList_box rfl rfl 27 _ _ rfl rfl X zRec zeroRec rfl rfl HSZ.out HI.out HONE.out ?_; rw [hW3]) | (refine wpList_load_row rfl 69 (.tmp 2) rfl w.heap.size rfl 69 (#[.slice Av ws.length cv, .int .u64 (s : Int), .int .i64 pe, .bool true, .int .i64 pe, .int .i64 er]) (0, 0) _ HGV4.out Try.underlying69 rfl infoSc ?_) | (refine wpList_store_row rfl 69 (.tmp 4) (.tmp 61) rfl (w.heap.size + 1) (#[.slice Av ws.length cv, .int .u64 (s : Int), .int .i64 pe, .bool true, .int .i64 pe, .int .i64 er]) rfl rfl 69 _ HZV4.out infoSc rfl (scC_one' _ _ _ _ _ _ rfl) ?_; obtain ⟨w9, hw9⟩ : ∃ w', World.setRow V4 (w.heap.size + 1) (#[.slice Av ws.length cv, .int .u64 (s : Int), .int .i64 pe, .bool true, .int .i64 pe, .int .i64 er]) = w' := ⟨_, rfl⟩; have hu := upd_row HZV4.out (#[.slice Av ws.length cv, .int .u64 (s : Int), .int .i64 pe, .bool true, .int .i64 pe, .int .i64 er]); rw [hw9] at hu ⊢; have HF9 := Lib.hid hu.at_; have HBF9 := Lib.hid (hu.to (by omega) HBV4.out); clear hu hw9))
              refine bodyPost_ret_by (results_ct rfl _ _ (w.heap.size + 1) _ (#[.slice Av ws.length cv, .int .u64 (s : Int), .int .i64 pe, .bool true, .int .i64 pe, .int .i64 er]) (0, 0) _ rfl HF9.out Try.underlying69 rfl infoSc) rfl ?_
              rw [HEQ.out]
              exact ⟨rfl, HBF9.out⟩
            · have q4 : (pe != (b.length : Int)) = true := bne_iff_ne.2 hpe
              have HEQ := Lib.hid (HDF.out _ _ (E3 (fun h => hpe h.2.2.2)) IT)
              clear E2 E3 hn hz hpe
              obtain ⟨V1, hV1⟩ : ∃ W, World.setCell W3 ⟨w.heap.size, 5, none⟩ (.int .i64 3) = W := ⟨_, rfl⟩
              have huV1 := upd_cell HG3.out 5 (.int .i64 3)
              rw [hV1] at huV1
              have HGV1 := Lib.hid (show V1.heap[w.heap.size]? = some (.cells #[.slice Av ws.length cv, .int .u64 q, .int .i64 en, .bool sl, .int .i64 at_, .int .i64 3] 69 (0, 0)) from huV1.at_)
              have HBV1 := Lib.hid (huV1.to (Nat.le_refl _) HB3.out)
              have HZV1 := Lib.hid ((huV1.off (w.heap.size + 1) (by omega)).trans HZ3.out)
              clear huV1
              have hcgV1 := fun i => blk_cell HGV1.out i
              have hfgV1 := fun i => blk_frozen HGV1.out i
              have hzgV1 := blk_lt HGV1.out
              go_wp2_with (first | (refine wpList_box rfl rfl 27 _ _ rfl rfl X zRec zeroRec rfl rfl HSZ.out HI.out HONE.out ?_; rw [hW3]) | (refine wpList_load_row rfl 69 (.tmp 2) rfl w.heap.size rfl 69 (#[.slice Av ws.length cv, .int .u64 q, .int .i64 en, .bool sl, .int .i64 at_, .int .i64 3]) (0, 0) _ HGV1.out Try.underlying69 rfl infoSc ?_) | (refine wpList_store_row rfl 69 (.tmp 4) (.tmp 52) rfl (w.heap.size + 1) (#[.slice Av ws.length cv, .int .u64 q, .int .i64 en, .bool sl, .int .i64 at_, .int .i64 3]) rfl rfl 69 _ HZV1.out infoSc rfl (scC_one' _ _ _ _ _ _ rfl) ?_; obtain ⟨w9, hw9⟩ : ∃ w', World.setRow V1 (w.heap.size + 1) (#[.slice Av ws.length cv, .int .u64 q, .int .i64 en, .bool sl, .int .i64 at_, .int .i64 3]) = w' := ⟨_, rfl⟩; have hu := upd_row HZV1.out (#[.slice Av ws.length cv, .int .u64 q, .int .i64 en, .bool sl, .int .i64 at_, .int .i64 3]); rw [hw9] at hu ⊢; have HF9 := Lib.hid hu.at_; have HBF9 := Lib.hid (hu.to (by omega) HBV1.out); clear hu hw9))
              refine bodyPost_ret_by (results_ct rfl _ _ (w.heap.size + 1) _ (#[.slice Av ws.length cv, .int .u64 q, .int .i64 en, .bool sl, .int .i64 at_, .int .i64 3]) (0, 0) _ rfl HF9.out Try.underlying69 rfl infoSc) rfl ?_
              rw [HEQ.out]
              exact ⟨rfl, HBF9.out⟩
          · have q3 : (zz != en) = true := bne_iff_ne.2 hz
            have HEQ := Lib.hid (HDF.out _ _ (E3 (fun h => hz h.2.2.1)) IT)
            clear E2 E3 hn hz
            obtain ⟨V1, hV1⟩ : ∃ W, World.setCell W3 ⟨w.heap.size, 5, none⟩ (.int .i64 3) = W := ⟨_, rfl⟩
            have huV1 := upd_cell HG3.out 5 (.int .i64 3)
            rw [hV1] at huV1
            have HGV1 := Lib.hid (show V1.heap[w.heap.size]? = some (.cells #[.slice Av ws.length cv, .int .u64 q, .int .i64 en, .bool sl, .int .i64 at_, .int .i64 3] 69 (0, 0)) from huV1.at_)
            have HBV1 := Lib.hid (huV1.to (Nat.le_refl _) HB3.out)
            have HZV1 := Lib.hid ((huV1.off (w.heap.size + 1) (by omega)).trans HZ3.out)
            clear huV1
            have hcgV1 := fun i => blk_cell HGV1.out i
            have hfgV1 := fun i => blk_frozen HGV1.out i
            have hzgV1 := blk_lt HGV1.out
            go_wp2_with (first | (refine wpList_box rfl rfl 27 _ _ rfl rfl X zRec zeroRec rfl rfl HSZ.out HI.out HONE.out ?_; rw [hW3]) | (refine wpList_load_row rfl 69 (.tmp 2) rfl w.heap.size rfl 69 (#[.slice Av ws.length cv, .int .u64 q, .int .i64 en, .bool sl, .int .i64 at_, .int .i64 3]) (0, 0) _ HGV1.out Try.underlying69 rfl infoSc ?_) | (refine wpList_store_row rfl 69 (.tmp 4) (.tmp 52) rfl (w.heap.size + 1) (#[.slice Av ws.length cv, .int .u64 q, .int .i64 en, .bool sl, .int .i64 at_, .int .i64 3]) rfl rfl 69 _ HZV1.out infoSc rfl (scC_one' _ _ _ _ _ _ rfl) ?_; obtain ⟨w9, hw9⟩ : ∃ w', World.setRow V1 (w.heap.size + 1) (#[.slice Av ws.length cv, .int .u64 q, .int .i64 en, .bool sl, .int .i64 at_, .int .i64 3]) = w' := ⟨_, rfl⟩; have hu := upd_row HZV1.out (#[.slice Av ws.length cv, .int .u64 q, .int .i64 en, .bool sl, .int .i64 at_, .int .i64 3]); rw [hw9] at hu ⊢; have HF9 := Lib.hid hu.at_; have HBF9 := Lib.hid (hu.to (by omega) HBV1.out); clear hu hw9))
            refine bodyPost_ret_by (results_ct rfl _ _ (w.heap.size + 1) _ (#[.slice Av ws.length cv, .int .u64 q, .int .i64 en, .bool sl, .int .i64 at_, .int .i64 3]) (0, 0) _ rfl HF9.out Try.underlying69 rfl infoSc) rfl ?_
            rw [HEQ.out]
            exact ⟨rfl, HBF9.out⟩
        · have q2 : (nn != (ws.length : Int)) = true := bne_iff_ne.2 hn
          have HEQ := Lib.hid (HDF.out _ _ (E3 (fun h => hn h.2.1)) IT)
          clear E2 E3 hn
          obtain ⟨V1, hV1⟩ : ∃ W, World.setCell W3 ⟨w.heap.size, 5, none⟩ (.int .i64 3) = W := ⟨_, rfl⟩
          have huV1 := upd_cell HG3.out 5 (.int .i64 3)
          rw [hV1] at huV1
          have HGV1 := Lib.hid (show V1.heap[w.heap.size]? = some (.cells #[.slice Av ws.length cv, .int .u64 q, .int .i64 en, .bool sl, .int .i64 at_, .int .i64 3] 69 (0, 0)) from huV1.at_)
          have HBV1 := Lib.hid (huV1.to (Nat.le_refl _) HB3.out)
          have HZV1 := Lib.hid ((huV1.off (w.heap.size + 1) (by omega)).trans HZ3.out)
          clear huV1
          have hcgV1 := fun i => blk_cell HGV1.out i
          have hfgV1 := fun i => blk_frozen HGV1.out i
          have hzgV1 := blk_lt HGV1.out
          go_wp2_with (first | (refine wpList_box rfl rfl 27 _ _ rfl rfl X zRec zeroRec rfl rfl HSZ.out HI.out HONE.out ?_; rw [hW3]) | (refine wpList_load_row rfl 69 (.tmp 2) rfl w.heap.size rfl 69 (#[.slice Av ws.length cv, .int .u64 q, .int .i64 en, .bool sl, .int .i64 at_, .int .i64 3]) (0, 0) _ HGV1.out Try.underlying69 rfl infoSc ?_) | (refine wpList_store_row rfl 69 (.tmp 4) (.tmp 52) rfl (w.heap.size + 1) (#[.slice Av ws.length cv, .int .u64 q, .int .i64 en, .bool sl, .int .i64 at_, .int .i64 3]) rfl rfl 69 _ HZV1.out infoSc rfl (scC_one' _ _ _ _ _ _ rfl) ?_; obtain ⟨w9, hw9⟩ : ∃ w', World.setRow V1 (w.heap.size + 1) (#[.slice Av ws.length cv, .int .u64 q, .int .i64 en, .bool sl, .int .i64 at_, .int .i64 3]) = w' := ⟨_, rfl⟩; have hu := upd_row HZV1.out (#[.slice Av ws.length cv, .int .u64 q, .int .i64 en, .bool sl, .int .i64 at_, .int .i64 3]); rw [hw9] at hu ⊢; have HF9 := Lib.hid hu.at_; have HBF9 := Lib.hid (hu.to (by omega) HBV1.out); clear hu hw9))
          refine bodyPost_ret_by (results_ct rfl _ _ (w.heap.size + 1) _ (#[.slice Av ws.length cv, .int .u64 q, .int .i64 en, .bool sl, .int .i64 at_, .int .i64 3]) (0, 0) _ rfl HF9.out Try.underlying69 rfl infoSc) rfl ?_
          rw [HEQ.out]
          exact ⟨rfl, HBF9.out⟩
      · have d1 : s ≤ q := by omega
        have HEQ := Lib.hid (HDF.out _ _ (E3 (fun h => hq h.1)) IT)
        clear E2 E3
        obtain ⟨V1, hV1⟩ : ∃ W, World.setCell W3 ⟨w.heap.size, 5, none⟩ (.int .i64 3) = W := ⟨_, rfl⟩
        have huV1 := upd_cell HG3.out 5 (.int .i64 3)
        rw [hV1] at huV1
        have HGV1 := Lib.hid (show V1.heap[w.heap.size]? = some (.cells #[.slice Av ws.length cv, .int .u64 q, .int .i64 en, .bool sl, .int .i64 at_, .int .i64 3] 69 (0, 0)) from huV1.at_)
        have HBV1 := Lib.hid (huV1.to (Nat.le_refl _) HB3.out)
        have HZV1 := Lib.hid ((huV1.off (w.heap.size + 1) (by omega)).trans HZ3.out)
        clear huV1
        have hcgV1 := fun i => blk_cell HGV1.out i
        have hfgV1 := fun i => blk_frozen HGV1.out i
        have hzgV1 := blk_lt HGV1.out
        go_wp2_with (first | (refine wpList_box rfl rfl 27 _ _ rfl rfl X zRec zeroRec rfl rfl HSZ.out HI.out HONE.out ?_; rw [hW3]) | (refine wpList_load_row rfl 69 (.tmp 2) rfl w.heap.size rfl 69 (#[.slice Av ws.length cv, .int .u64 q, .int .i64 en, .bool sl, .int .i64 at_, .int .i64 3]) (0, 0) _ HGV1.out Try.underlying69 rfl infoSc ?_) | (refine wpList_store_row rfl 69 (.tmp 4) (.tmp 52) rfl (w.heap.size + 1) (#[.slice Av ws.length cv, .int .u64 q, .int .i64 en, .bool sl, .int .i64 at_, .int .i64 3]) rfl rfl 69 _ HZV1.out infoSc rfl (scC_one' _ _ _ _ _ _ rfl) ?_; obtain ⟨w9, hw9⟩ : ∃ w', World.setRow V1 (w.heap.size + 1) (#[.slice Av ws.length cv, .int .u64 q, .int .i64 en, .bool sl, .int .i64 at_, .int .i64 3]) = w' := ⟨_, rfl⟩; have hu := upd_row HZV1.out (#[.slice Av ws.length cv, .int .u64 q, .int .i64 en, .bool sl, .int .i64 at_, .int .i64 3]); rw [hw9] at hu ⊢; have HF9 := Lib.hid hu.at_; have HBF9 := Lib.hid (hu.to (by omega) HBV1.out); clear hu hw9))
        refine bodyPost_ret_by (results_ct rfl _ _ (w.heap.size + 1) _ (#[.slice Av ws.length cv, .int .u64 q, .int .i64 en, .bool sl, .int .i64 at_, .int .i64 3]) (0, 0) _ rfl HF9.out Try.underlying69 rfl infoSc) rfl ?_
        rw [HEQ.out]
        exact ⟨rfl, HBF9.out⟩
    · have IT := HIF.out hre hk
      have HEQ := Lib.hid (HDF.out _ _ (HE1.out IT) IT)
      have q1 : ((pKind b en : Int) != 8) = true := bne_iff_ne.2 hk
      clear HE1 HE2 HE3 HIF HIE HIT hk hre
      generalize pKind b en = k at *
      go_wp2_with (first | (refine wpList_box rfl rfl 27 _ _ rfl rfl X zRec zeroRec rfl rfl HSZ.out HI.out HONE.out ?_; rw [hW3]) | (refine wpList_load_row rfl 69 (.tmp 2) rfl w.heap.size rfl 69 (#[.slice Av ws.length cv, .int .u64 q, .int .i64 en, .bool sl, .int .i64 at_, .int .i64 er]) (0, 0) _ HG3.out Try.underlying69 rfl infoSc ?_) | (refine wpList_store_row rfl 69 (.tmp 4) (.tmp 24) rfl (w.heap.size + 1) (#[.slice Av ws.length cv, .int .u64 q, .int .i64 en, .bool sl, .int .i64 at_, .int .i64 er]) rfl rfl 69 _ HZ3.out infoSc rfl (scC_one' _ _ _ _ _ _ rfl) ?_; obtain ⟨w9, hw9⟩ : ∃ w', World.setRow W3 (w.heap.size + 1) (#[.slice Av ws.length cv, .int .u64 q, .int .i64 en, .bool sl, .int .i64 at_, .int .i64 er]) = w' := ⟨_, rfl⟩; have hu := upd_row HZ3.out (#[.slice Av ws.length cv, .int .u64 q, .int .i64 en, .bool sl, .int .i64 at_, .int .i64 er]); rw [hw9] at hu ⊢; have HF9 := Lib.hid hu.at_; have HBF9 := Lib.hid (hu.to (by omega) HB3.out); clear hu hw9))
      refine bodyPost_ret_by (results_ct rfl _ _ (w.heap.size + 1) _ (#[.slice Av ws.length cv, .int .u64 q, .int .i64 en, .bool sl, .int .i64 at_, .int .i64 er]) (0, 0) _ rfl HF9.out Try.underlying69 rfl infoSc) rfl ?_
      rw [HEQ.out]
      exact ⟨rfl, HBF9.out⟩
  · obtain ⟨W3, hW3⟩ : ∃ W, w2.alloc (.cells zRec 27) = W := ⟨_, rfl⟩
    have hbw : Below w2.heap.size w2 W3 := hW3 ▸ below_alloc (Below.refl _ _) _
    have HG3 := Lib.hid (blk_below (blk_below HG.out hb) hbw)
    have HZ3 := Lib.hid (blk_below (blk_below HZ.out hb) hbw)
    have HB3 := Lib.hid (below_step' (below_step' HB1.out hb) hbw)
    have HI := Lib.hid zRecF.info
    have HONE := Lib.hid zRecF.one
    have IT := HIE.out hre
    have HEQ := Lib.hid (HDF.out _ _ (HE1.out IT) IT)
    clear hb hbw hw1 HE1 HE2 HE3 HIF HIE HIT
    generalize recE b en = re at *
    have hne : ((re : Int) != 0) = true := bne_iff_ne.2 (by omega)
    clear hre
    go_wp2_with (first | (refine wpList_box rfl rfl 27 _ _ rfl rfl zRec zRec zeroRec rfl rfl rfl HI.out HONE.out ?_; rw [hW3]) | (refine wpList_load_row rfl 69 (.tmp 2) rfl w.heap.size rfl 69 (#[.slice Av ws.length cv, .int .u64 q, .int .i64 en, .bool sl, .int .i64 at_, .int .i64 er]) (0, 0) _ HG3.out Try.underlying69 rfl infoSc ?_) | (refine wpList_store_row rfl 69 (.tmp 4) (.tmp 24) rfl (w.heap.size + 1) (#[.slice Av ws.length cv, .int .u64 q, .int .i64 en, .bool sl, .int .i64 at_, .int .i64 er]) rfl rfl 69 _ HZ3.out infoSc rfl (scC_one' _ _ _ _ _ _ rfl) ?_; obtain ⟨w9, hw9⟩ : ∃ w', World.setRow W3 (w.heap.size + 1) (#[.slice Av ws.length cv, .int .u64 q, .int .i64 en, .bool sl, .int .i64 at_, .int .i64 er]) = w' := ⟨_, rfl⟩; have hu := upd_row HZ3.out (#[.slice Av ws.length cv, .int .u64 q, .int .i64 en, .bool sl, .int .i64 at_, .int .i64 er]); rw [hw9] at hu ⊢; have HF9 := Lib.hid hu.at_; have HBF9 := Lib.hid (hu.to (by omega) HB3.out); clear hu hw9))
    refine bodyPost_ret_by (results_ct rfl _ _ (w.heap.size + 1) _ (#[.slice Av ws.length cv, .int .u64 q, .int .i64 en, .bool sl, .int .i64 at_, .int .i64 er]) (0, 0) _ rfl HF9.out Try.underlying69 rfl infoSc) rfl ?_
    rw [HEQ.out]
    exact ⟨rfl, HBF9.out⟩
theorem OwnW.step {w w' : World} {base g : Nat} {v : Value} {l : List Wd} {cells : Array Value} (h : OwnW w base v l) (hg : w.heap[g]? = some (.cells cells 69 (0, 0))) (hm : ∀ k, k < w.heap.size → k ≠ g → w'.heap[k]? = w.heap[k]?) : OwnW w' base v l :=
  Kd.R_mono (Kd.R_step (Kd.R_types h hg (fun q hq => by
    have : q = 50 := by simpa [kW] using hq
    rw [this]; decide)) (fun k hk hlt => hm k hlt hk.2)) (fun _ hk => hk.1)
/-- the end of the closure: its box has the error, all else stays -/
def StopE (g : Nat) (cs : Array Value) (w : World) (e : Ending) (w' : World) : Prop := e = .returned (.agg cs) ∧ Below g w w' ∧ ∀ k, k < w.heap.size → k ≠ g → w'.heap[k]? = w.heap[k]?
set_option maxRecDepth 100000 in
set_option maxHeartbeats 3200000 in
theorem stop_any (g : Nat) (v : Value) (q : Nat) (en : Int) (sl : Bool) (at_ : Int) (er e2 : Int) (w : World) (hv : v.oneCell' = true) (hg : w.heap[g]? = some (.cells #[v, .int .u64 q, .int .i64 en, .bool sl, .int .i64 at_, .int .i64 er] 69 (0, 0))) :
    Calls Try.prog 59 #[.int .i64 e2, .pointer (some ⟨g, 0, none⟩)] w (StopE g #[v, .int .u64 q, .int .i64 en, .bool sl, .int .i64 at_, .int .i64 e2] w) := by
  obtain ⟨w1, hw1⟩ : ∃ w1, w.alloc (.cells (ScC (.slice none 0 0) zSc) 69) = w1 := ⟨_, rfl⟩
  have hb0 : Below w.heap.size w w1 := hw1 ▸ below_alloc (Below.refl _ _) _
  have hgl := blk_lt hg
  have HZ := Lib.hid (show w1.heap[w.heap.size]? = some (.cells (ScC (.slice none 0 0) zSc) 69 (0, 0)) from hw1 ▸ blk_new w _)
  have HG1 := Lib.hid (blk_below hg hb0)
  have hu := upd_cell HG1.out 5 (.int .i64 e2)
  obtain ⟨w2, hw2⟩ : ∃ W, World.setCell w1 ⟨g, 5, none⟩ (.int .i64 e2) = W := ⟨_, rfl⟩
  rw [hw2] at hu
  have HG2 := Lib.hid (show w2.heap[g]? = some (.cells #[v, .int .u64 q, .int .i64 en, .bool sl, .int .i64 at_, .int .i64 e2] 69 (0, 0)) from hu.at_)
  have HZ2 := Lib.hid ((hu.off w.heap.size (by omega)).trans HZ.out)
  have HB2 := Lib.hid (hu.to (Nat.le_refl g) (hb0.mono (by omega)))
  have HK2 := Lib.hid (fun k (hk : k < w.heap.size) (hne : k ≠ g) => (hu.off k hne).trans (hb0.block k hk))
  have HO1 := Lib.hid (show (#[v, .int .u64 q, .int .i64 en, .bool sl, .int .i64 at_, .int .i64 e2] : Array Value).all (·.oneCell') = true from scC_one' v q en sl at_ e2 hv)
  have hcc := fun i => blk_cell HG1.out i
  have hff := fun i => blk_frozen HG1.out i
  have hzz := blk_lt HG1.out
  clear hb0 hg hu hv
  go_enter Try.func59, Try.ntmps59
  go_wp2_with (first | (refine wpList_allocZ rfl 69 rfl (ScC (.slice none 0 0) zSc) zeroSc ?_; rw [hw1]) | (refine wpList_load_row rfl 69 (.tmp 1) rfl g rfl 69 #[v, .int .u64 q, .int .i64 en, .bool sl, .int .i64 at_, .int .i64 e2] (0, 0) _ HG2.out Try.underlying69 rfl infoSc ?_) | (refine wpList_store_row rfl 69 (.tmp 3) (.tmp 6) rfl w.heap.size #[v, .int .u64 q, .int .i64 en, .bool sl, .int .i64 at_, .int .i64 e2] rfl rfl 69 _ HZ2.out infoSc rfl HO1.out ?_; obtain ⟨w9, hw9⟩ : ∃ w', World.setRow w2 w.heap.size #[v, .int .u64 q, .int .i64 en, .bool sl, .int .i64 at_, .int .i64 e2] = w' := ⟨_, rfl⟩; have hu := upd_row HZ2.out #[v, .int .u64 q, .int .i64 en, .bool sl, .int .i64 at_, .int .i64 e2]; rw [hw9] at hu ⊢; have HF9 := Lib.hid hu.at_; have HBF9 := Lib.hid (hu.to (by omega) HB2.out); have HKF := Lib.hid (fun k (hk : k < w.heap.size) (hne : k ≠ g) => (hu.off k (by omega)).trans (HK2.out k hk hne)); clear hu hw9))
  refine bodyPost_ret_by (results_cell_row rfl _ _ w.heap.size _ #[v, .int .u64 q, .int .i64 en, .bool sl, .int .i64 at_, .int .i64 e2] (0, 0) _ rfl HF9.out Try.underlying69 rfl infoSc) rfl ?_
  exact ⟨rfl, HBF9.out, HKF.out⟩
end Go.Proofs.Ytceldlijbehkdaa.Sg
