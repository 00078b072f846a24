/- segment.Scan. -/
import Derived.Test.YtceldlijbehkdaaSgW
import Derived.Test.YtceldlijbehkdaaBtPar
import Derived.BigQuiet
set_option linter.unusedVariables false
set_option linter.unusedSimpArgs false
namespace Go.Proofs.Ytceldlijbehkdaa.Sg
open Go.RowKit Go.Proofs.YtceldlijbehkdaaW.PrintWords Go.Proofs.Ytceldlijbehkdaa.B Go.Proofs.Ytceldlijbehkdaa.Fx Go.Proofs.Ytceldlijbehkdaa.Fr Go.Proofs.Ytceldlijbehkdaa.O Go.Proofs.Ytceldlijbehkdaa.Rc Go.Proofs.Ytceldlijbehkdaa.Bt
theorem begS_ok {b : List UInt8} {n : Int} (h : (begS b n).er = 0) : 21 ≤ (begS b n).en ∧ (begS b n).en ≤ (b.length : Int) ∧ (begS b n).ws = [] ∧ (begS b n).sl = false ∧ (begS b n).q < 18446744073709551616 := by
  unfold begS at h ⊢
  split
  · rename_i h1; rw [if_pos h1] at h; exact absurd h h1
  · rename_i h1
    rw [if_neg h1] at h
    split
    · have hri := rec_in (by simpa using h1 : recE b 0 = 0)
      exact ⟨by show 21 ≤ pEnd b 0; omega, hri.2.2, rfl, rfl, seq_lt b 0⟩
    · rename_i h2; rw [if_neg h2] at h; simp at h
/-- where a box's scan ends, as a measure -/
def enOf (g : Nat) (w : World) : Nat := (intOf ((w.cell? ⟨g, 2, none⟩).getD (.bool false))).toNat
theorem enOf_at {g : Nat} {w : World} {v : Value} {q en at_ er : Value} {sl : Value} {e : Int} (he : en = .int .i64 e) (h : w.heap[g]? = some (.cells #[v, q, en, sl, at_, er] 69 (0, 0))) : enOf g w = e.toNat := by
  have h1 := blk_cell h 2
  unfold enOf
  rw [h1, he]; rfl
theorem OwnW.grown {w w' : World} {base g : Nat} {v : Value} {l : List Wd} {cells : Array Value} (h : OwnW w base v l) (hg : w.heap[g]? = some (.cells cells 69 (0, 0))) (hgr : w.grownBy w' v.ownBlock) : w'.heap[g]? = some (.cells cells 69 (0, 0)) :=
  (hgr.block _ (blk_lt hg) (Kd.R_ne h hg (by decide))).trans hg
set_option maxRecDepth 100000 in
set_option maxHeartbeats 12800000 in
theorem scan_any (A : Option Addr) (c : Nat) (b : List UInt8) (n : Int) (w : World) (hl : b.length ≤ 1000000000000) (hc : b.length ≤ c) (hr : Rd w A b) :
    Calls Try.prog 36 #[.slice A b.length c, .int .i64 n] w (Scanned (scanL b n) w) := by
  obtain ⟨R, hR⟩ : ∃ R, scanL b n = R := ⟨_, rfl⟩
  rw [hR]
  have HDF := Lib.hid (show Scanned R w = fun e w' => ∃ v, e = .returned (.agg (ScC v R)) ∧ OwnW w' w.heap.size v R.ws ∧ Below w.heap.size w w' from rfl)
  obtain ⟨w1, hw1⟩ : ∃ w1, w.alloc (.cells #[.slice none 0 0, .int .u64 0, .int .i64 0, .bool false, .int .i64 0, .int .i64 0] 69) = w1 := ⟨_, rfl⟩
  have HZ1 := Lib.hid (show w1.heap[w.heap.size]? = some (.cells #[.slice none 0 0, .int .u64 0, .int .i64 0, .bool false, .int .i64 0, .int .i64 0] 69 (0, 0)) from hw1 ▸ blk_new w _)
  have hb0 : Below w.heap.size w w1 := hw1 ▸ below_alloc (Below.refl _ _) _
  have HB1 := Lib.hid hb0
  have HBG := Lib.hid (begin_any A c b n w1 hl hc (hr.below hb0))
  have HFT := Lib.hid (fun (W : World) (Av : Option Addr) (cv : Nat) (ws : List Wd) (q : Nat) (en : Int) (at_ : Int) (h : Rd W A b) (hen : -9223372036854775808 ≤ en ∧ en ≤ 9223372036854775807) => (show Calls Try.prog 60 #[.agg #[.slice Av ws.length cv, .int .u64 q, .int .i64 en, .bool false, .int .i64 at_, .int .i64 0], .slice A b.length c] W (FootE b (.slice Av ws.length cv) ⟨ws, q, en, false, at_, 0⟩ W) from foot_any Av cv ws q en false at_ 0 A c b W hl hc h hen))
  have HPA := Lib.hid (fun (W : World) (p : Int) (h : Rd W A b) (hp : -9223372036854775808 ≤ p ∧ p ≤ 9223372036854775807) => bparse_any A c b p n W hl hc h hp)
  have HRD := Lib.hid hr
  have HX0 := Lib.hid (fun h => begS_ok (b := b) (n := n) h)
  have HE0 := Lib.hid (fun h : (begS b n).er ≠ 0 => (show begS b n = R from by rw [← hR]; unfold scanL; rw [if_pos h]))
  have HG0 := Lib.hid (fun h : (begS b n).er = 0 => (show scanF b n (b.length + 1) (begS b n) = R from by rw [← hR]; unfold scanL; rw [if_neg (by simp [h])]))
  unfold Scanned at HBG
  clear hr hb0 hR
  generalize begS b n = x0 at *
  obtain ⟨ws0, q0, en0, sl0, at0, er0⟩ := x0
  go_enter Try.func36, Try.ntmps36
  go_wp2_with fail
  go_step3
  go_wp2_with fail
  try rw [hw1]
  refine HBG.out.mono ?_
  rintro e w2 ⟨v0, rfl, ho, hb⟩
  obtain ⟨A0, c0, rfl, -, -⟩ := ho.reads
  have HZ2 := Lib.hid (blk_below HZ1.out hb)
  have hgl := blk_lt HZ2.out
  have HB2 := Lib.hid (below_step' HB1.out hb)
  have HO2 := Lib.hid (show OwnW w2 w.heap.size (.slice A0 ws0.length c0) ws0 from Kd.R_lower ho (by have := HB1.out.size; omega))
  rw [show ScC (.slice A0 ws0.length c0) ⟨ws0, q0, en0, sl0, at0, er0⟩ = #[.slice A0 ws0.length c0, .int .u64 q0, .int .i64 en0, .bool sl0, .int .i64 at0, .int .i64 er0] from rfl]
  obtain ⟨m0, hm0⟩ : ∃ m, ws0.length = m := ⟨_, rfl⟩
  obtain ⟨ei, hei⟩ : ∃ e : Int, (er0 : Int) = e := ⟨_, rfl⟩
  rw [hm0, hei]
  rw [hm0] at HO2
  obtain ⟨W3, hW3⟩ : ∃ W, w2.alloc (.cells #[.slice A0 m0 c0, .int .u64 q0, .int .i64 en0, .bool sl0, .int .i64 at0, .int .i64 ei] 69) = W := ⟨_, rfl⟩
  have hbw : Below w2.heap.size w2 W3 := hW3 ▸ below_alloc (Below.refl _ _) _
  have HG3 := Lib.hid (show W3.heap[w2.heap.size]? = some (.cells #[.slice A0 m0 c0, .int .u64 q0, .int .i64 en0, .bool sl0, .int .i64 at0, .int .i64 ei] 69 (0, 0)) from hW3 ▸ blk_new w2 _)
  have HZ3 := Lib.hid (blk_below HZ2.out hbw)
  have HB3 := Lib.hid (below_step' HB2.out hbw)
  have HO3 := Lib.hid (HO2.out.below hbw)
  have HONE := Lib.hid (scC_one' (.slice A0 m0 c0) q0 en0 sl0 at0 ei rfl)
  have hcg3 := fun i => blk_cell HG3.out i
  clear ho hb hbw hw1 HBG
  by_cases her : er0 = 0
  · subst her
    obtain ⟨x1, x2, x3, x4, x5⟩ := HX0.out rfl
    try simp only at x1 x2 x3 x4 x5
    subst x3 x4
    obtain rfl : m0 = 0 := by simpa using hm0.symm
    obtain rfl : ei = 0 := by simpa using hei.symm
    clear hm0 hei
    have HG1 := Lib.hid (HG0.out rfl)
    clear HX0 HE0 HG0
    go_wp2_with (first | (refine wpList_box rfl rfl 69 _ _ rfl rfl (#[.slice A0 0 c0, .int .u64 q0, .int .i64 en0, .bool false, .int .i64 at0, .int .i64 0]) #[.slice none 0 0, .int .u64 0, .int .i64 0, .bool false, .int .i64 0, .int .i64 0] zeroSc rfl rfl rfl infoSc HONE.out ?_; rw [hW3]))
    go_step3
    go_wp2
    clear hcg3
    go_loopw [12] (fun e wr => ∃ (f : Nat) (v : Value) (ws : List Wd) (q : Nat) (en at_ : Int), Hid (wr.heap[w2.heap.size]? = some (.cells #[v, .int .u64 q, .int .i64 en, .bool false, .int .i64 at_, .int .i64 0] 69 (0, 0))) ∧ Hid (wr.heap[w.heap.size]? = some (.cells #[.slice none 0 0, .int .u64 0, .int .i64 0, .bool false, .int .i64 0, .int .i64 0] 69 (0, 0))) ∧ Hid (OwnW wr w.heap.size v ws) ∧ Hid (Below w.heap.size w wr) ∧ Hid (scanF b n (f + 1) ⟨ws, q, en, false, at_, 0⟩ = R) ∧ Hid (b.length ≤ f + en.toNat) ∧ (21 ≤ en ∧ en ≤ (b.length : Int) ∧ q < 18446744073709551616) ∧ Hid (21 * (ws.length : Int) ≤ en)) (fun _ wr => b.length - enOf w2.heap.size wr)
    case atStart => exact ⟨b.length, _, [], q0, en0, at0, HG3, HZ3, HO3, HB3, HG1, Lib.hid (by omega), ⟨x1, x2, x5⟩, Lib.hid (by simp; omega)⟩
    case round =>
      obtain ⟨f, v, ws, q, en, at_, HG, HZ, HO, HB, HF, HFU, ⟨hen1, hen2, hqb⟩, HWL⟩ := hrel
      obtain ⟨Av, cv, rfl, -, -⟩ := HO.out.reads
      have HEN := Lib.hid (enOf_at rfl HG.out)
      have HON := Lib.hid (scC_one' (.slice Av ws.length cv) q en false at_ 0 rfl)
      have hcg := fun i => blk_cell HG.out i
      by_cases hx : (b.length : Int) ≤ en
      · have HEQ := Lib.hid ((scanF_end (x := ⟨ws, q, en, false, at_, 0⟩) hx).symm.trans HF.out)
        go_wp2_with (first | (refine wpList_load_row rfl 69 (.tmp 5) rfl w2.heap.size rfl 69 (#[.slice Av ws.length cv, .int .u64 q, .int .i64 en, .bool false, .int .i64 at_, .int .i64 0]) (0, 0) _ HG.out Try.underlying69 rfl infoSc ?_) | (refine wpList_store_row rfl 69 (.tmp 4) (.tmp 71) rfl w.heap.size (#[.slice Av ws.length cv, .int .u64 q, .int .i64 en, .bool false, .int .i64 at_, .int .i64 0]) rfl rfl 69 _ HZ.out infoSc rfl HON.out ?_; obtain ⟨w9, hw9⟩ : ∃ w', World.setRow wr w.heap.size (#[.slice Av ws.length cv, .int .u64 q, .int .i64 en, .bool false, .int .i64 at_, .int .i64 0]) = w' := ⟨_, rfl⟩; have hu := upd_row HZ.out (#[.slice Av ws.length cv, .int .u64 q, .int .i64 en, .bool false, .int .i64 at_, .int .i64 0]); rw [hw9] at hu ⊢; have HF9 := Lib.hid hu.at_; have HK9 := Lib.hid hu.off; have HBF9 := Lib.hid (hu.to (Nat.le_refl _) HB.out); clear hu hw9))
        (try rw [Exit.noGoto_ret])
        refine bodyPost_ret_by (results_cell_row rfl _ _ w.heap.size _ (#[.slice Av ws.length cv, .int .u64 q, .int .i64 en, .bool false, .int .i64 at_, .int .i64 0]) (0, 0) _ rfl HF9.out Try.underlying69 rfl infoSc) rfl ?_
        rw [HDF.out, ← HEQ.out]
        exact ⟨_, rfl, OwnW.step HO.out HZ.out (fun k _ hne => HK9.out k hne), HBF9.out⟩
      · have hrx := HRD.out.below HB.out
        have HC := Lib.hid (HFT.out wr Av cv ws q en at_ hrx (by omega))
        unfold FootE at HC
        have HFN := Lib.hid (scanF_foot (b := b) (n := n) (f := f) (x := ⟨ws, q, en, false, at_, 0⟩) hx)
        have HER := Lib.hid (scanF_err (b := b) (n := n) (f := f) (x := ⟨ws, q, en, false, at_, 0⟩) hx)
        have HSQ := Lib.hid (scanF_seq (b := b) (n := n) (f := f) (x := ⟨ws, q, en, false, at_, 0⟩) hx)
        have HGO := Lib.hid (scanF_go (b := b) (n := n) (f := f) (x := ⟨ws, q, en, false, at_, 0⟩) hx)
        have hft : ∃ q2 en2 sl2 at2 er2, footS b ⟨ws, q, en, false, at_, 0⟩ = ⟨ws, q2, en2, sl2, at2, er2⟩ := by
          unfold footS
          split
          · exact ⟨_, _, _, _, _, rfl⟩
          · split <;> exact ⟨_, _, _, _, _, rfl⟩
        obtain ⟨q2, en2, sl2, at2, er2, hfe⟩ := hft
        have HFE := Lib.hid hfe
        rw [hfe] at HC
        clear hfe hrx
        go_wp2_with (first | (refine wpList_load_row rfl 69 (.tmp 5) rfl w2.heap.size rfl 69 (#[.slice Av ws.length cv, .int .u64 q, .int .i64 en, .bool false, .int .i64 at_, .int .i64 0]) (0, 0) _ HG.out Try.underlying69 rfl infoSc ?_))
        refine HC.out.mono ?_
        rintro e w4 ⟨rfl, hb⟩
        rw [show ScC (.slice Av ws.length cv) ⟨ws, q2, en2, sl2, at2, er2⟩ = #[.slice Av ws.length cv, .int .u64 q2, .int .i64 en2, .bool sl2, .int .i64 at2, .int .i64 er2] from rfl]
        obtain ⟨W5, hW5⟩ : ∃ W, w4.alloc (.cells #[.slice Av ws.length cv, .int .u64 q2, .int .i64 en2, .bool sl2, .int .i64 at2, .int .i64 er2] 69) = W := ⟨_, rfl⟩
        have hbw : Below w4.heap.size w4 W5 := hW5 ▸ below_alloc (Below.refl _ _) _
        have HT5 := Lib.hid (show W5.heap[w4.heap.size]? = some (.cells #[.slice Av ws.length cv, .int .u64 q2, .int .i64 en2, .bool sl2, .int .i64 at2, .int .i64 er2] 69 (0, 0)) from hW5 ▸ blk_new w4 _)
        have HG5 := Lib.hid (blk_below (blk_below HG.out hb) hbw)
        have HZ5 := Lib.hid (blk_below (blk_below HZ.out hb) hbw)
        have HB5 := Lib.hid (below_step' (below_step' HB.out hb) hbw)
        have HO5 := Lib.hid ((HO.out.below hb).below hbw)
        have HONF := Lib.hid (scC_one' (.slice Av ws.length cv) q2 en2 sl2 at2 er2 rfl)
        clear hb hbw hcg
        have hcg5 := fun i => blk_cell HG5.out i
        cases hif : isFoot b en
        · have HPC := Lib.hid (HPA.out W5 en (HRD.out.below HB5.out) (by omega))
          have HOK := Lib.hid (fun h => parL_ok (b := b) (p := en) (sg := n) h)
          have ER := HER.out hif
          have SQ := HSQ.out hif
          have GO := HGO.out hif
          unfold BParsed at HPC
          clear HER HSQ HGO HFN hif HFE
          generalize parL b en n = rr at *
          obtain ⟨wn, e9, s9, er9⟩ := rr
          simp only at ER SQ GO HOK HPC
          go_wp2_with (first | (refine wpList_box rfl rfl 69 _ _ rfl rfl (#[.slice Av ws.length cv, .int .u64 q2, .int .i64 en2, .bool sl2, .int .i64 at2, .int .i64 er2]) #[.slice none 0 0, .int .u64 0, .int .i64 0, .bool false, .int .i64 0, .int .i64 0] zeroSc rfl rfl rfl infoSc HONF.out ?_; rw [hW5]))
          refine HPC.out.mono ?_
          rintro e w6 ⟨v6, rfl, ho6, hb⟩
          obtain ⟨A6, c6, rfl, -, hr6⟩ := ho6.reads
          have HG6 := Lib.hid (blk_below HG5.out hb)
          have HZ6 := Lib.hid (blk_below HZ5.out hb)
          have HB6 := Lib.hid (below_step' HB5.out hb)
          have HO6 := Lib.hid (HO5.out.below hb)
          have HR6 := Lib.hid hr6
          have hcg6 := fun i => blk_cell HG6.out i
          clear ho6 hb hr6 hcg5 hW5
          by_cases h9 : er9 = 0
          · subst h9
            obtain ⟨o1, o2, o3, o4, o5⟩ := HOK.out rfl
            have HO1 := Lib.hid o1
            have HO34 := Lib.hid (show en + 21 + 21 * (wn.length : Int) ≤ e9 ∧ e9 ≤ (b.length : Int) from ⟨o3, o4⟩)
            obtain ⟨ad, XW, rfl, hXW, hcw, -, -, -⟩ := HR6.out.walk 0 o1
            have hcs := field_cell' (hcw 1 _ (show XW[1]? = some (.int .u64 ((wd wn 0).s : Nat)) from by have h := WordF.c1 hXW; simpa using h))
            rw [Nat.zero_add, Nat.zero_mul, show ad.add 0 = ad by unfold Addr.add; simp] at hcs
            have hln : (0 : Int) < (wn.length : Int) := by omega
            have hln2 : 0 < wn.length := o1
            have SQ1 := SQ rfl
            have GO1 := GO rfl
            clear ER SQ GO HOK hXW hcw o1 o3 o4
            generalize (wd wn 0).s = ww at *
            have q9 : (((0 : Nat) : Int) != 0) = false := by decide
            by_cases hss : ww ≤ q
            · have d0 : decide (ww ≤ q) = true := decide_eq_true hss
              have HEQ := Lib.hid ((SQ1 hss).symm.trans HF.out)
              clear SQ1 GO1
              go_wp2_with fail
              go_quiet (fail)
              try rw [World.drewN_drewN]
              obtain ⟨w7, hw7⟩ : ∃ W, World.drewN w6 nq = W := ⟨_, rfl⟩
              have hb7 : Below w6.heap.size w6 w7 := hw7 ▸ pw_below_drewN (Below.refl _ _) nq
              rw [hw7]
              have HG7 := Lib.hid (blk_below HG6.out hb7)
              have HZ7 := Lib.hid (blk_below HZ6.out hb7)
              have HB7 := Lib.hid (below_step' HB6.out hb7)
              have HO7 := Lib.hid (HO6.out.below hb7)
              have HC7 := Lib.hid (stop_any w2.heap.size (.slice Av ws.length cv) q en false at_ 0 3 w7 rfl HG7.out)
              clear hb7 hw7 hcg6 hcs
              go_wp2_with fail
              refine HC7.out.mono ?_
              rintro e w8 ⟨rfl, hb8, hk8⟩
              have HB8 := Lib.hid (HB7.out.trans (hb8.mono (by omega)))
              have HZ8 := Lib.hid ((hk8 w.heap.size (blk_lt HZ7.out) (by omega)).trans HZ7.out)
              have HO8 := Lib.hid (OwnW.step HO7.out HG7.out hk8)
              have HON8 := Lib.hid (scC_one' (.slice Av ws.length cv) q en false at_ 3 rfl)
              clear hb8 hk8
              go_wp2_with (first | (refine wpList_store_row rfl 69 (.tmp 4) (.tmp 59) rfl w.heap.size (#[.slice Av ws.length cv, .int .u64 q, .int .i64 en, .bool false, .int .i64 at_, .int .i64 3]) rfl rfl 69 _ HZ8.out infoSc rfl HON8.out ?_; obtain ⟨w9, hw9⟩ : ∃ w', World.setRow w8 w.heap.size (#[.slice Av ws.length cv, .int .u64 q, .int .i64 en, .bool false, .int .i64 at_, .int .i64 3]) = w' := ⟨_, rfl⟩; have hu := upd_row HZ8.out (#[.slice Av ws.length cv, .int .u64 q, .int .i64 en, .bool false, .int .i64 at_, .int .i64 3]); rw [hw9] at hu ⊢; have HF9 := Lib.hid hu.at_; have HK9 := Lib.hid hu.off; have HBF9 := Lib.hid (hu.to (Nat.le_refl _) HB8.out); clear hu hw9))
              (try rw [Exit.noGoto_ret])
              refine bodyPost_ret_by (results_cell_row rfl _ _ w.heap.size _ (#[.slice Av ws.length cv, .int .u64 q, .int .i64 en, .bool false, .int .i64 at_, .int .i64 3]) (0, 0) _ rfl HF9.out Try.underlying69 rfl infoSc) rfl ?_
              rw [HDF.out, ← HEQ.out]
              exact ⟨_, rfl, OwnW.step HO8.out HZ8.out (fun k _ hne => HK9.out k hne), HBF9.out⟩
            · have d0 : decide (ww ≤ q) = false := decide_eq_false hss
              have HF2 := Lib.hid ((GO1 hss).symm.trans HF.out)
              clear SQ1 GO1
              go_wp2_with fail
              go_quiet (fail)
              try rw [World.drewN_drewN]
              obtain ⟨w7, hw7⟩ : ∃ W, World.drewN w6 nq = W := ⟨_, rfl⟩
              have hb7 : Below w6.heap.size w6 w7 := hw7 ▸ pw_below_drewN (Below.refl _ _) nq
              rw [hw7]
              have HG7 := Lib.hid (blk_below HG6.out hb7)
              have HZ7 := Lib.hid (blk_below HZ6.out hb7)
              have HB7 := Lib.hid (below_step' HB6.out hb7)
              have HO7 := Lib.hid (HO6.out.below hb7)
              have HR7 := Lib.hid (HR6.out.below hb7)
              have HLN := Lib.hid (show (ws.length + wn.length) * 96 ≤ 140737488355328 from by have h1 := HWL.out; have h2 := HO34.out; omega)
              have hcg7 := fun i => blk_cell HG7.out i
              obtain ⟨wx, hwx⟩ : ∃ wx, ws ++ wn = wx := ⟨_, rfl⟩
              have HLE := Lib.hid (show w.heap.size ≤ w2.heap.size by omega)
              have HNE := Lib.hid (show w.heap.size ≠ w2.heap.size by omega)
              clear hb7 hw7 hcg6 hcs
              go_wp2_with (first | (at_builtin; go_loud (refine Kd.R_append_rows kW (w0 := w) w.heap.size rfl (.tmp 61) (.tmp 62) 62 50 _ _ rfl undWd infoWdB rfl (by decide) (by decide) _ ws wn (some ad) wn.length c6 (fun _ => True) (fun _ => False) rfl rfl HO7.out HR7.out (fun x cs h => h) (fun _ h => h.elim) (fun _ _ => trivial) HB7.out HB7.out.size HLN.out ?_); intro v8 w8 hown hb8 hg8 _; rw [hwx] at hown; obtain ⟨A8, c8, rfl, -, -⟩ := OwnW.reads hown; have HO8 := Lib.hid hown; have HB8 := Lib.hid hb8; have HG8 := Lib.hid (OwnW.grown HO7.out HG7.out hg8); have HZ8 := Lib.hid (OwnW.grown HO7.out HZ7.out hg8); clear hown hb8 hg8; obtain ⟨V1, hV1⟩ : ∃ W, World.setCell w8 ⟨w2.heap.size, 0, none⟩ (.slice A8 wx.length c8) = W := ⟨_, rfl⟩; have huV1 := upd_cell HG8.out 0 (.slice A8 wx.length c8); rw [hV1] at huV1; have HGV1 := Lib.hid (show V1.heap[w2.heap.size]? = some (.cells #[.slice A8 wx.length c8, .int .u64 q, .int .i64 en, .bool false, .int .i64 at_, .int .i64 0] 69 (0, 0)) from huV1.at_); have HBV1 := Lib.hid (huV1.to HLE.out HB8.out); have HOV1 := Lib.hid (OwnW.step HO8.out HG8.out (fun k _ hne => huV1.off k hne)); have HZV1 := Lib.hid ((huV1.off w.heap.size HNE.out).trans HZ8.out); clear huV1; obtain ⟨V2, hV2⟩ : ∃ W, World.setCell V1 ⟨w2.heap.size, 1, none⟩ (.int .u64 s9) = W := ⟨_, rfl⟩; have huV2 := upd_cell HGV1.out 1 (.int .u64 s9); rw [hV2] at huV2; have HGV2 := Lib.hid (show V2.heap[w2.heap.size]? = some (.cells #[.slice A8 wx.length c8, .int .u64 s9, .int .i64 en, .bool false, .int .i64 at_, .int .i64 0] 69 (0, 0)) from huV2.at_); have HBV2 := Lib.hid (huV2.to HLE.out HBV1.out); have HOV2 := Lib.hid (OwnW.step HOV1.out HGV1.out (fun k _ hne => huV2.off k hne)); have HZV2 := Lib.hid ((huV2.off w.heap.size HNE.out).trans HZV1.out); clear huV2; obtain ⟨V3, hV3⟩ : ∃ W, World.setCell V2 ⟨w2.heap.size, 2, none⟩ (.int .i64 e9) = W := ⟨_, rfl⟩; have huV3 := upd_cell HGV2.out 2 (.int .i64 e9); rw [hV3] at huV3; have HGV3 := Lib.hid (show V3.heap[w2.heap.size]? = some (.cells #[.slice A8 wx.length c8, .int .u64 s9, .int .i64 e9, .bool false, .int .i64 at_, .int .i64 0] 69 (0, 0)) from huV3.at_); have HBV3 := Lib.hid (huV3.to HLE.out HBV2.out); have HOV3 := Lib.hid (OwnW.step HOV2.out HGV2.out (fun k _ hne => huV3.off k hne)); have HZV3 := Lib.hid ((huV3.off w.heap.size HNE.out).trans HZV2.out); clear huV3; obtain ⟨V4, hV4⟩ : ∃ W, World.setCell V3 ⟨w2.heap.size, 4, none⟩ (.int .i64 e9) = W := ⟨_, rfl⟩; have huV4 := upd_cell HGV3.out 4 (.int .i64 e9); rw [hV4] at huV4; have HGV4 := Lib.hid (show V4.heap[w2.heap.size]? = some (.cells #[.slice A8 wx.length c8, .int .u64 s9, .int .i64 e9, .bool false, .int .i64 e9, .int .i64 0] 69 (0, 0)) from huV4.at_); have HBV4 := Lib.hid (huV4.to HLE.out HBV3.out); have HOV4 := Lib.hid (OwnW.step HOV3.out HGV3.out (fun k _ hne => huV4.off k hne)); have HZV4 := Lib.hid ((huV4.off w.heap.size HNE.out).trans HZV3.out); clear huV4; have hcg8 := fun i => blk_cell HG8.out i; have hfg8 := fun i => blk_frozen HG8.out i; have hzg8 := blk_lt HG8.out; have hcgV1 := fun i => blk_cell HGV1.out i; have hfgV1 := fun i => blk_frozen HGV1.out i; have hzgV1 := blk_lt HGV1.out; have hcgV2 := fun i => blk_cell HGV2.out i; have hfgV2 := fun i => blk_frozen HGV2.out i; have hzgV2 := blk_lt HGV2.out; have hcgV3 := fun i => blk_cell HGV3.out i; have hfgV3 := fun i => blk_frozen HGV3.out i; have hzgV3 := blk_lt HGV3.out))
              go_roundw
              case rel =>
                obtain ⟨f, rfl⟩ : ∃ g, f = g + 1 := ⟨f - 1, by have h1 := HFU.out; omega⟩
                exact ⟨f, _, wx, s9, e9, e9, HGV4, HZV4, HOV4, HBV4, Lib.hid (by rw [← hwx]; exact HF2.out), Lib.hid (by have h1 := HFU.out; have h2 := HO34.out; omega), ⟨by have h2 := HO34.out; omega, by have h2 := HO34.out; omega, o5⟩, Lib.hid (by rw [← hwx, List.length_append]; have h1 := HWL.out; have h2 := HO34.out; omega)⟩
              case measure =>
                have h1 := HEN.out
                have h2 := enOf_at rfl HGV4.out
                have h3 := HO34.out
                rw [h1, h2]
                omega
          · have q9 : ((er9 : Int) != 0) = true := bne_iff_ne.2 (by omega)
            have HEQ := Lib.hid ((ER h9).symm.trans HF.out)
            clear ER SQ GO HOK h9
            have HC7 := Lib.hid (stop_any w2.heap.size (.slice Av ws.length cv) q en false at_ 0 er9 w6 rfl HG6.out)
            go_wp2_with fail
            refine HC7.out.mono ?_
            rintro e w8 ⟨rfl, hb8, hk8⟩
            have HB8 := Lib.hid (HB6.out.trans (hb8.mono (by omega)))
            have HZ8 := Lib.hid ((hk8 w.heap.size (blk_lt HZ6.out) (by omega)).trans HZ6.out)
            have HO8 := Lib.hid (OwnW.step HO6.out HG6.out hk8)
            have HON8 := Lib.hid (scC_one' (.slice Av ws.length cv) q en false at_ er9 rfl)
            clear hb8 hk8
            go_wp2_with (first | (refine wpList_store_row rfl 69 (.tmp 4) (.tmp 49) rfl w.heap.size (#[.slice Av ws.length cv, .int .u64 q, .int .i64 en, .bool false, .int .i64 at_, .int .i64 er9]) rfl rfl 69 _ HZ8.out infoSc rfl HON8.out ?_; obtain ⟨w9, hw9⟩ : ∃ w', World.setRow w8 w.heap.size (#[.slice Av ws.length cv, .int .u64 q, .int .i64 en, .bool false, .int .i64 at_, .int .i64 er9]) = w' := ⟨_, rfl⟩; have hu := upd_row HZ8.out (#[.slice Av ws.length cv, .int .u64 q, .int .i64 en, .bool false, .int .i64 at_, .int .i64 er9]); rw [hw9] at hu ⊢; have HF9 := Lib.hid hu.at_; have HK9 := Lib.hid hu.off; have HBF9 := Lib.hid (hu.to (Nat.le_refl _) HB8.out); clear hu hw9))
            (try rw [Exit.noGoto_ret])
            refine bodyPost_ret_by (results_cell_row rfl _ _ w.heap.size _ (#[.slice Av ws.length cv, .int .u64 q, .int .i64 en, .bool false, .int .i64 at_, .int .i64 er9]) (0, 0) _ rfl HF9.out Try.underlying69 rfl infoSc) rfl ?_
            rw [HDF.out, ← HEQ.out]
            exact ⟨_, rfl, OwnW.step HO8.out HZ8.out (fun k _ hne => HK9.out k hne), HBF9.out⟩
        · have HEQ := Lib.hid ((HFE.out.symm.trans (HFN.out hif).symm).trans HF.out)
          clear HFN HER HSQ HGO
          have HTX := HT5
          go_wp2_with (first | (refine wpList_box rfl rfl 69 _ _ rfl rfl (#[.slice Av ws.length cv, .int .u64 q2, .int .i64 en2, .bool sl2, .int .i64 at2, .int .i64 er2]) #[.slice none 0 0, .int .u64 0, .int .i64 0, .bool false, .int .i64 0, .int .i64 0] zeroSc rfl rfl rfl infoSc HONF.out ?_; rw [hW5]) | (refine wpList_load_row rfl 69 (.tmp 7) rfl w4.heap.size rfl 69 (#[.slice Av ws.length cv, .int .u64 q2, .int .i64 en2, .bool sl2, .int .i64 at2, .int .i64 er2]) (0, 0) _ HT5.out Try.underlying69 rfl infoSc ?_) | (refine wpList_store_row rfl 69 (.tmp 5) (.tmp 33) rfl w2.heap.size (#[.slice Av ws.length cv, .int .u64 q2, .int .i64 en2, .bool sl2, .int .i64 at2, .int .i64 er2]) rfl rfl 69 _ HG5.out infoSc rfl HONF.out ?_; obtain ⟨w8, hw8⟩ : ∃ w', World.setRow W5 w2.heap.size (#[.slice Av ws.length cv, .int .u64 q2, .int .i64 en2, .bool sl2, .int .i64 at2, .int .i64 er2]) = w' := ⟨_, rfl⟩; have hu := upd_row HG5.out (#[.slice Av ws.length cv, .int .u64 q2, .int .i64 en2, .bool sl2, .int .i64 at2, .int .i64 er2]); rw [hw8] at hu ⊢; have HF8 := Lib.hid hu.at_; have HK8 := Lib.hid hu.off; have HBF8 := Lib.hid (hu.to (by omega) HB5.out); clear hu hw8) | (refine wpList_load_row rfl 69 (.tmp 5) rfl w2.heap.size rfl 69 (#[.slice Av ws.length cv, .int .u64 q2, .int .i64 en2, .bool sl2, .int .i64 at2, .int .i64 er2]) (0, 0) _ HF8.out Try.underlying69 rfl infoSc ?_) | (refine wpList_store_row rfl 69 (.tmp 4) (.tmp 71) rfl w.heap.size (#[.slice Av ws.length cv, .int .u64 q2, .int .i64 en2, .bool sl2, .int .i64 at2, .int .i64 er2]) rfl rfl 69 _ ((HK8.out w.heap.size (by omega)).trans HZ5.out) infoSc rfl HONF.out ?_; obtain ⟨w9, hw9⟩ : ∃ w', World.setRow w8 w.heap.size (#[.slice Av ws.length cv, .int .u64 q2, .int .i64 en2, .bool sl2, .int .i64 at2, .int .i64 er2]) = w' := ⟨_, rfl⟩; have hu := upd_row ((HK8.out w.heap.size (by omega)).trans HZ5.out) (#[.slice Av ws.length cv, .int .u64 q2, .int .i64 en2, .bool sl2, .int .i64 at2, .int .i64 er2]); rw [hw9] at hu ⊢; have HF9 := Lib.hid hu.at_; have HK9 := Lib.hid hu.off; have HBF9 := Lib.hid (hu.to (Nat.le_refl _) HBF8.out); clear hu hw9))
          (try rw [Exit.noGoto_ret])
          refine bodyPost_ret_by (results_cell_row rfl _ _ w.heap.size _ (#[.slice Av ws.length cv, .int .u64 q2, .int .i64 en2, .bool sl2, .int .i64 at2, .int .i64 er2]) (0, 0) _ rfl HF9.out Try.underlying69 rfl infoSc) rfl ?_
          rw [HDF.out, ← HEQ.out]
          exact ⟨_, rfl, OwnW.step (OwnW.step HO5.out HG5.out (fun k _ hne => HK8.out k hne)) ((HK8.out w.heap.size (by omega)).trans HZ5.out) (fun k _ hne => HK9.out k hne), HBF9.out⟩
  · have q0' : ((er0 : Int) != 0) = true := bne_iff_ne.2 (by omega)
    have HEQ := Lib.hid (HE0.out her)
    subst hm0 hei
    clear HX0 HE0 HG0 her
    go_wp2_with (first | (refine wpList_box rfl rfl 69 _ _ rfl rfl (#[.slice A0 ws0.length c0, .int .u64 q0, .int .i64 en0, .bool sl0, .int .i64 at0, .int .i64 er0]) #[.slice none 0 0, .int .u64 0, .int .i64 0, .bool false, .int .i64 0, .int .i64 0] zeroSc rfl rfl rfl infoSc HONE.out ?_; rw [hW3]) | (refine wpList_load_row rfl 69 (.tmp 5) rfl w2.heap.size rfl 69 (#[.slice A0 ws0.length c0, .int .u64 q0, .int .i64 en0, .bool sl0, .int .i64 at0, .int .i64 er0]) (0, 0) _ HG3.out Try.underlying69 rfl infoSc ?_) | (refine wpList_store_row rfl 69 (.tmp 4) (.tmp 20) rfl w.heap.size (#[.slice A0 ws0.length c0, .int .u64 q0, .int .i64 en0, .bool sl0, .int .i64 at0, .int .i64 er0]) rfl rfl 69 _ HZ3.out infoSc rfl HONE.out ?_; obtain ⟨w9, hw9⟩ : ∃ w', World.setRow W3 w.heap.size (#[.slice A0 ws0.length c0, .int .u64 q0, .int .i64 en0, .bool sl0, .int .i64 at0, .int .i64 er0]) = w' := ⟨_, rfl⟩; have hu := upd_row HZ3.out (#[.slice A0 ws0.length c0, .int .u64 q0, .int .i64 en0, .bool sl0, .int .i64 at0, .int .i64 er0]); rw [hw9] at hu ⊢; have HF9 := Lib.hid hu.at_; have HK9 := Lib.hid hu.off; have HBF9 := Lib.hid (hu.to (Nat.le_refl _) HB3.out); clear hu hw9))
    (try rw [Exit.noGoto_ret])
    refine bodyPost_ret_by (results_cell_row rfl _ _ w.heap.size _ (#[.slice A0 ws0.length c0, .int .u64 q0, .int .i64 en0, .bool sl0, .int .i64 at0, .int .i64 er0]) (0, 0) _ rfl HF9.out Try.underlying69 rfl infoSc) rfl ?_
    rw [HDF.out, ← HEQ.out]
    exact ⟨_, rfl, OwnW.step HO3.out HZ3.out (fun k _ hne => HK9.out k hne), HBF9.out⟩
end Go.Proofs.Ytceldlijbehkdaa.Sg
