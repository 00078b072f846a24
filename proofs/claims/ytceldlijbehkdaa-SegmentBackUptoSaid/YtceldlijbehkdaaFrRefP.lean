/- stillageref13: the walk of Parse. -/
import Derived.Test.YtceldlijbehkdaaFrm
set_option linter.unusedVariables false
set_option linter.unusedSimpArgs false
namespace Go.Proofs.Ytceldlijbehkdaa.Fr
open Go.RowKit Go.Proofs.YtceldlijbehkdaaW.PrintWords Go.Proofs.Ytceldlijbehkdaa.B Go.Proofs.Ytceldlijbehkdaa.Fx Go.Proofs.Ytceldlijbehkdaa.CrcW

theorem infoRFrame : (Try.prog.info? 87).map (·.size) = some 4 := by kernel_rfl
theorem ref_pErr {x : List UInt8} (h : 17 ≤ x.length) : pErrX x = if le ((x.drop 13).take 4) ≠ csum (x.take 13) then 5 else if fk x < 1 ∨ 8 < fk x ∨ 65536 < fn x then 3 else if x.length < 21 + fn x then 4 else if R01.sameB (makeL (fk x) (fs x) ((x.drop 17).take (fn x))) (x.take (21 + fn x)) = false then 5 else 0 := by
  have hw := whole_take (x := x) (m := 13) (by omega)
  unfold pErrX
  rw [if_neg (by omega)]
  by_cases h1 : le ((x.drop 13).take 4) = csum (x.take 13)
  · have hw' : wholeB (x.take 17) = true := by rw [hw]; exact decide_eq_true h1
    have hn1 : ¬ (le ((x.drop 13).take 4) ≠ csum (x.take 13)) := fun h => h h1
    rw [if_neg (by rw [hw']; decide), if_neg hn1]
    by_cases h3 : fk x < 1 ∨ 8 < fk x ∨ 65536 < fn x
    · rw [if_pos h3, if_pos h3]
    rw [if_neg h3, if_neg h3]
    by_cases h4 : x.length < 21 + fn x
    · rw [if_pos h4, if_pos h4]
    rw [if_neg h4, if_neg h4]
    have hm := make_is (x := x) (by omega) hw'
    have : (wholeB (x.take (21 + fn x)) = false) ↔ (R01.sameB (makeL (fk x) (fs x) ((x.drop 17).take (fn x))) (x.take (21 + fn x)) = false) := by
      unfold R01.sameB
      rw [decide_eq_false_iff_not, hm]
      simp
    by_cases h5 : wholeB (x.take (21 + fn x)) = false
    · rw [if_pos h5, if_pos (this.1 h5)]
    · rw [if_neg h5, if_neg (fun h => h5 (this.2 h))]
  · have hw' : wholeB (x.take 17) = false := by rw [hw]; exact decide_eq_false h1
    rw [if_pos hw', if_pos (by simpa using h1)]
theorem fk_bt {x : List UInt8} (h : 1 ≤ x.length) : B.bt x 0 = (fk x : Int) := by
  match x, h with
  | c :: t, _ => simp [B.bt, fk, le]
set_option maxRecDepth 100000 in
set_option maxHeartbeats 3000000 in
theorem refparse_any (A : Option Addr) (c : Nat) (l : List UInt8) (at_ : Int) (w : World) (hl : l.length ≤ 140737488354000) (hc : l.length ≤ c) (hr : Rd w A l) (hb : -9223372036854775808 ≤ at_ ∧ at_ ≤ 9223372036854775807) :
    Calls Try.prog 45 #[.slice A l.length c, .int .i64 at_] w (Parsed l at_ w) := by
  have HR := Lib.hid hr
  clear hr
  by_cases hat : at_ < 0 ∨ (l.length : Int) < at_
  · have HE := Lib.hid (show pErr l at_ = 2 by unfold pErr; rw [if_pos hat])
    have hcase : at_ < 0 ∨ (¬ at_ < 0 ∧ (l.length : Int) < at_) := by omega
    clear hat
    rcases hcase with h1 | ⟨h1, h2⟩
    all_goals
      go_enter Try.func45, Try.ntmps45
      go_wp2_with fail
      refine bodyPost_ret_by (results_ct rfl _ _ w.heap.size _ _ (0, 0) _ rfl (blk_new w _) Try.underlying87 rfl infoRFrame) rfl ?_
      exact parsed_no HE.out (by decide) (below_alloc (Below.refl _ _) _)
  · have h1 : 0 ≤ at_ := by omega
    have h2 : at_ ≤ (l.length : Int) := by omega
    have h1' : ¬ at_ < 0 := by omega
    have h2' : ¬ (l.length : Int) < at_ := by omega
    obtain ⟨X, x, cx, hx, hcut, hrx, hxc, hxl⟩ := cutF (A := A) (l := l) (c := c) at_ h1 h2 hc
    have HPE := Lib.hid (show pErr l at_ = pErrX x by unfold pErr; rw [if_neg hat, hx.out])
    have HX := Lib.hid (show x = l.drop at_.toNat from hx.out)
    have HRX := Lib.hid (hrx w HR.out)
    have hxb : x.length ≤ l.length := by omega
    have hxm : x.length ≤ 140737488354000 := by omega
    have hxa : at_ + (x.length : Int) ≤ 140737488354000 := by omega
    clear hat hx hrx hxl
    by_cases h17 : x.length < 17
    · have HE := Lib.hid (show pErr l at_ = 4 by rw [HPE.out]; unfold pErrX; rw [if_pos h17])
      go_enter Try.func45, Try.ntmps45
      go_wp2_with fail
      refine bodyPost_ret_by (results_ct rfl _ _ w.heap.size _ _ (0, 0) _ rfl (blk_new w _) Try.underlying87 rfl infoRFrame) rfl ?_
      exact parsed_no HE.out (by decide) (below_alloc (Below.refl _ _) _)
    · have h17' : 17 ≤ x.length := by omega
      have hpe := ref_pErr h17'
      obtain ⟨k, hk⟩ : ∃ k, fk x = k := ⟨_, rfl⟩
      obtain ⟨q, hq⟩ : ∃ q, fs x = q := ⟨_, rfl⟩
      obtain ⟨n, hn⟩ : ∃ n, fn x = n := ⟨_, rfl⟩
      obtain ⟨g, hg⟩ : ∃ g, le ((x.drop 13).take 4) = g := ⟨_, rfl⟩
      have hkl := fk_lt x
      have hql := fs_lt x
      have hnl := fn_lt x
      have hgl : le ((x.drop 13).take 4) < 4294967296 := le_take_lt _ 4
      have K2 := takeN_at (l := x) (p := 1) (k := 8) (by omega) (by omega) (by omega)
      have K3 := takeN_at (l := x) (p := 9) (k := 4) (by omega) (by omega) (by omega)
      have K4 := takeN_at (l := x) (p := 13) (k := 4) (by omega) (by omega) (by omega)
      have T2 := Lib.hid (show takeN x 1 8 = q by rw [← hq]; exact K2.2)
      have T3 := Lib.hid (show takeN x 9 4 = n by rw [← hn]; exact K3.2)
      have T4 := Lib.hid (show takeN x 13 4 = g by rw [← hg]; exact K4.2)
      have O2 := Lib.hid (show takeOk x 1 8 = true from K2.1)
      have O3 := Lib.hid (show takeOk x 9 4 = true from K3.1)
      have O4 := Lib.hid (show takeOk x 13 4 = true from K4.1)
      obtain ⟨y, hy, hcuty, hry, hyc, hyl⟩ := cutTo (A := X) (l := x) (c := cx) 13 (by omega) (by omega) hxc
      have hsl := csum_lt y
      obtain ⟨s, hs⟩ : ∃ s, csum y = s := ⟨_, rfl⟩
      have hyx : y = x.take 13 := hy.out
      have HRY := Lib.hid (hry w HRX.out)
      have HCS := Lib.hid (fun (W : World) (h : Rd W X y) => (show Calls Try.prog 48 #[.slice X y.length cx] W (Kept (.int .u32 (s : Nat)) W) from hs ▸ refcsum_any X cx y W h (by omega)))
      rw [hk, hq, hn, hg, ← hyx, hs] at hpe
      rw [hk] at hkl
      rw [hq] at hql
      rw [hn] at hnl
      rw [hg] at hgl
      rw [hs] at hsl
      have HBT := Lib.hid (show B.bt x 0 = (k : Int) by rw [fk_bt (by omega), hk])
      have HK := Lib.hid hk
      have HS := Lib.hid hq
      have HNN := Lib.hid hn
      have HPX := Lib.hid hpe
      obtain ⟨adx, rfl, -⟩ := HRX.out.at_ 0 (by omega)
      have HSR := Lib.hid (fun (W : World) (h : Rd W (some adx) x) => h.cell 0 (by omega))
      clear hk hq hn hg hs hyx hy hry hyl K2 K3 K4 hpe h17
      by_cases hgs : g = s
      · have hb1 : ((g : Int) != (s : Int)) = false := by simp [hgs]
        have HPX2 := Lib.hid (by have := HPX.out; rwa [if_neg (show ¬ (g ≠ s) from fun h => h hgs)] at this)
        clear hgs
        by_cases hf : k < 1 ∨ 8 < k ∨ 65536 < n
        · have HE := Lib.hid (show pErr l at_ = 3 by rw [HPE.out, HPX2.out, if_pos hf])
          have hcase : ((k : Int) == 0) = true ∨ (((k : Int) == 0) = false ∧ 8 < (k : Int)) ∨ (((k : Int) == 0) = false ∧ ¬ 8 < (k : Int) ∧ 65536 < (n : Int)) := by
            simp only [beq_iff_eq, beq_eq_false_iff_ne, ne_eq]; omega
          clear hf
          rcases hcase with e1 | ⟨e1, e2⟩ | ⟨e1, e2, e3⟩
          all_goals
            go_enter Try.func45, Try.ntmps45
            go_wp2_with fail
            refine (R01.take_any (some adx) cx x 1 8 _ (by omega) (HRX.out.below (below_alloc (Below.refl _ _) _))).mono ?_
            rintro e w1 ⟨rfl, rfl⟩
            rw [T2.out, O2.out]
            go_wp2_with fail
            refine (R01.take_any (some adx) cx x 9 4 _ (by omega) (HRX.out.below (below_alloc (Below.refl _ _) _))).mono ?_
            rintro e w1 ⟨rfl, rfl⟩
            rw [T3.out, O3.out]
            go_wp2_with fail
            refine (R01.take_any (some adx) cx x 13 4 _ (by omega) (HRX.out.below (below_alloc (Below.refl _ _) _))).mono ?_
            rintro e w1 ⟨rfl, rfl⟩
            rw [T4.out, O4.out]
            go_wp2_with fail
            refine (HCS.out _ (HRY.out.below (below_alloc (Below.refl _ _) _))).mono ?_
            rintro e w1 ⟨rfl, hb⟩
            have HB := Lib.hid (below_then (below_alloc (Below.refl _ _) _) (by simp <;> omega) hb)
            have HG := Lib.hid (show w1.heap[w.heap.size]? = some (.cells #[.int .i64 0, .int .u64 0, .slice none 0 0, .int .i64 0] 87 (0, 0)) from blk_below (blk_new w _) hb)
            have hcc := fun i => blk_cell HG.out i
            have hff := fun i => blk_frozen HG.out i
            have hz := blk_lt HG.out
            have hcx := HSR.out w1 (HRX.out.below HB.out)
            rw [HBT.out, Addr.add_zero'] at hcx
            clear hb
            go_wp2_with fail
            refine bodyPost_ret_by (results_ct rfl _ _ w.heap.size _ _ (0, 0) _ rfl (blk_set (blk_set (blk_set (blk_set (HG.out) 0 _) 1 _) 2 _) 3 _) Try.underlying87 rfl infoRFrame) rfl ?_
            exact parsed_no HE.out (by decide) (below_set (below_set (below_set (below_set (HB.out) (Nat.le_refl _)) (Nat.le_refl _)) (Nat.le_refl _)) (Nat.le_refl _))
        · have hk8 : k ≤ 8 := by omega
          have hn6 : n ≤ 65536 := by omega
          have e1 : ((k : Int) == 0) = false := by simp only [beq_eq_false_iff_ne, ne_eq]; omega
          have HPX3 := Lib.hid (by have := HPX2.out; rwa [if_neg hf] at this)
          clear hf
          by_cases hs : x.length < 21 + n
          · have HE := Lib.hid (show pErr l at_ = 4 by rw [HPE.out, HPX3.out, if_pos hs])
            have hs' : (x.length : Int) - 21 < (n : Int) := by omega
            clear hs
            go_enter Try.func45, Try.ntmps45
            go_wp2_with fail
            refine (R01.take_any (some adx) cx x 1 8 _ (by omega) (HRX.out.below (below_alloc (Below.refl _ _) _))).mono ?_
            rintro e w1 ⟨rfl, rfl⟩
            rw [T2.out, O2.out]
            go_wp2_with fail
            refine (R01.take_any (some adx) cx x 9 4 _ (by omega) (HRX.out.below (below_alloc (Below.refl _ _) _))).mono ?_
            rintro e w1 ⟨rfl, rfl⟩
            rw [T3.out, O3.out]
            go_wp2_with fail
            refine (R01.take_any (some adx) cx x 13 4 _ (by omega) (HRX.out.below (below_alloc (Below.refl _ _) _))).mono ?_
            rintro e w1 ⟨rfl, rfl⟩
            rw [T4.out, O4.out]
            go_wp2_with fail
            refine (HCS.out _ (HRY.out.below (below_alloc (Below.refl _ _) _))).mono ?_
            rintro e w1 ⟨rfl, hb⟩
            have HB := Lib.hid (below_then (below_alloc (Below.refl _ _) _) (by simp <;> omega) hb)
            have HG := Lib.hid (show w1.heap[w.heap.size]? = some (.cells #[.int .i64 0, .int .u64 0, .slice none 0 0, .int .i64 0] 87 (0, 0)) from blk_below (blk_new w _) hb)
            have hcc := fun i => blk_cell HG.out i
            have hff := fun i => blk_frozen HG.out i
            have hz := blk_lt HG.out
            have hcx := HSR.out w1 (HRX.out.below HB.out)
            rw [HBT.out, Addr.add_zero'] at hcx
            clear hb
            go_wp2_with fail
            refine bodyPost_ret_by (results_ct rfl _ _ w.heap.size _ _ (0, 0) _ rfl (blk_set (blk_set (blk_set (blk_set (HG.out) 0 _) 1 _) 2 _) 3 _) Try.underlying87 rfl infoRFrame) rfl ?_
            exact parsed_no HE.out (by decide) (below_set (below_set (below_set (below_set (HB.out) (Nat.le_refl _)) (Nat.le_refl _)) (Nat.le_refl _)) (Nat.le_refl _))
          · have hs' : ¬ (x.length : Int) - 21 < (n : Int) := by omega
            obtain ⟨D, d, cd, hd, hcutd, hrd, hdc, hdl⟩ := cutM (A := some adx) (l := x) (c := cx) 17 (17 + (n : Int)) (by omega) (by omega) (by omega) hxc
            obtain ⟨z, hz0, hcutz, hrz, hzc, hzl⟩ := cutTo (A := some adx) (l := x) (c := cx) (21 + (n : Int)) (by omega) (by omega) hxc
            have HRD := Lib.hid (fun (W : World) (h : Rd W (some adx) x) => hrd W h)
            have HRZ := Lib.hid (fun (W : World) (h : Rd W (some adx) x) => hrz W h)
            have hde : d = (x.drop 17).take n := by
              rw [hd.out, List.drop_take, show (17 + (n : Int)).toNat - (17 : Int).toNat = n by omega]; rfl
            have hze : z = x.take (21 + n) := by rw [hz0.out, show (21 + (n : Int)).toNat = 21 + n by omega]
            have HM := Lib.hid (fun (W : World) (h : Rd W D d) => (show Calls Try.prog 18 #[.int .i64 k, .int .u64 q, .slice D d.length cd] W (Made W (makeL k q d)) from by
              have := refmake_any (k : Int) q D cd d W (by omega) hql (by omega) h
              rwa [kindN_of (by omega) (by omega), Int.toNat_natCast] at this))
            obtain ⟨m, hm⟩ : ∃ m, makeL k q d = m := ⟨_, rfl⟩
            have hml : m.length ≤ 140737488355328 := by rw [← hm, makeL_len]; omega
            have HPX4 := Lib.hid (by have := HPX3.out; rwa [if_neg hs, ← hde, ← hze, hm] at this)
            rw [hm] at HM
            have HD := Lib.hid hde
            have hdb : d.length ≤ 65536 := by omega
            have hzb : z.length ≤ 140737488355328 := by omega
            have hab : at_ + 21 + (n : Int) ≤ 140737488354000 := by omega
            clear hs hd hz0 hrd hrz hde hze hm hdl hzl
            have wn : ∀ n : Nat, n = n := fun _ => rfl
            clear wn
            cases hsb : R01.sameB m z with
            | false =>
              have HE := Lib.hid (show pErr l at_ = 5 by rw [HPE.out, HPX4.out, if_pos hsb])
              have HSB := Lib.hid hsb
              clear hsb
              go_enter Try.func45, Try.ntmps45
              go_wp2_with fail
              refine (R01.take_any (some adx) cx x 1 8 _ (by omega) (HRX.out.below (below_alloc (Below.refl _ _) _))).mono ?_
              rintro e w1 ⟨rfl, rfl⟩
              rw [T2.out, O2.out]
              go_wp2_with fail
              refine (R01.take_any (some adx) cx x 9 4 _ (by omega) (HRX.out.below (below_alloc (Below.refl _ _) _))).mono ?_
              rintro e w1 ⟨rfl, rfl⟩
              rw [T3.out, O3.out]
              go_wp2_with fail
              refine (R01.take_any (some adx) cx x 13 4 _ (by omega) (HRX.out.below (below_alloc (Below.refl _ _) _))).mono ?_
              rintro e w1 ⟨rfl, rfl⟩
              rw [T4.out, O4.out]
              go_wp2_with fail
              refine (HCS.out _ (HRY.out.below (below_alloc (Below.refl _ _) _))).mono ?_
              rintro e w1 ⟨rfl, hb⟩
              have HB := Lib.hid (below_then (below_alloc (Below.refl _ _) _) (by simp <;> omega) hb)
              have HG := Lib.hid (show w1.heap[w.heap.size]? = some (.cells #[.int .i64 0, .int .u64 0, .slice none 0 0, .int .i64 0] 87 (0, 0)) from blk_below (blk_new w _) hb)
              have hcc := fun i => blk_cell HG.out i
              have hff := fun i => blk_frozen HG.out i
              have hz := blk_lt HG.out
              have hcx := HSR.out w1 (HRX.out.below HB.out)
              rw [HBT.out, Addr.add_zero'] at hcx
              clear hb
              go_wp2_with fail
              have wf1 : IntKind.i64.wrap (17 + (n : Int)) = 17 + (n : Int) := IntWalk.i64_in _ (by omega)
              have wf2 : IntKind.i64.wrap (21 + (n : Int)) = 21 + (n : Int) := IntWalk.i64_in _ (by omega)
              go_region_held3 (fun _ => True) (trivial) (first
                | (go_at_call 18; refine (HM.out _ (HRD.out _ (Rd.drewN (HRX.out.below HB.out) 1))).mono ?_; rintro e w2 ⟨v2, rfl, hown, hb2⟩; obtain ⟨A2, c2, rfl, hc2, hr2⟩ := hown.reads; have HR2 := Lib.hid hr2; have HB2 := Lib.hid (below_then (pw_below_drewN HB.out 1) (pw_below_drewN HB.out 1).size hb2); have HZ2 := Lib.hid (HRZ.out _ (HRX.out.below HB2.out)); have HG2 := Lib.hid (blk_below (blk_drewN HG.out 1) hb2); clear hown hb2 hr2 hc2)
                | (go_at_call 21; refine (R01.same_any A2 c2 m (some adx) cx z _ hml HR2.out HZ2.out).mono ?_; rintro e w3 ⟨rfl, nn, rfl⟩; rw [HSB.out]))
              clear wf1 wf2
              have HB3 := Lib.hid (pw_below_drewN HB2.out nn)
              have HG3 := Lib.hid (blk_drewN HG2.out nn)
              obtain ⟨w3, hw3⟩ : ∃ w3, w2.drewN nn = w3 := ⟨_, rfl⟩
              rw [hw3] at HB3 HG3 ⊢
              clear hw3
              have hcc3 := fun i => blk_cell HG3.out i
              have hff3 := fun i => blk_frozen HG3.out i
              go_wp2_with fail
              refine bodyPost_ret_by (results_ct rfl _ _ w.heap.size _ _ (0, 0) _ rfl (blk_set (blk_set (blk_set (blk_set (HG3.out) 0 _) 1 _) 2 _) 3 _) Try.underlying87 rfl infoRFrame) rfl ?_
              exact parsed_no HE.out (by decide) (below_set (below_set (below_set (below_set (HB3.out) (Nat.le_refl _)) (Nat.le_refl _)) (Nat.le_refl _)) (Nat.le_refl _))
            | true =>
              have HE := Lib.hid (show pErr l at_ = 0 by rw [HPE.out, HPX4.out, if_neg (by rw [hsb]; decide)])
              have HSB := Lib.hid hsb
              have HD' := Lib.hid (show pData l at_ = d by unfold pData; rw [if_pos HE.out, ← HX.out, HNN.out, HD.out])
              have HK' := Lib.hid (show pKind l at_ = k by unfold pKind; rw [if_pos HE.out, ← HX.out, HK.out])
              have HS' := Lib.hid (show pSeq l at_ = q by unfold pSeq; rw [if_pos HE.out, ← HX.out, HS.out])
              have HEnd := Lib.hid (show pEnd l at_ = at_ + 21 + (n : Int) by unfold pEnd; rw [if_pos HE.out, ← HX.out, HNN.out])
              clear hsb
              go_enter Try.func45, Try.ntmps45
              go_wp2_with fail
              refine (R01.take_any (some adx) cx x 1 8 _ (by omega) (HRX.out.below (below_alloc (Below.refl _ _) _))).mono ?_
              rintro e w1 ⟨rfl, rfl⟩
              rw [T2.out, O2.out]
              go_wp2_with fail
              refine (R01.take_any (some adx) cx x 9 4 _ (by omega) (HRX.out.below (below_alloc (Below.refl _ _) _))).mono ?_
              rintro e w1 ⟨rfl, rfl⟩
              rw [T3.out, O3.out]
              go_wp2_with fail
              refine (R01.take_any (some adx) cx x 13 4 _ (by omega) (HRX.out.below (below_alloc (Below.refl _ _) _))).mono ?_
              rintro e w1 ⟨rfl, rfl⟩
              rw [T4.out, O4.out]
              go_wp2_with fail
              refine (HCS.out _ (HRY.out.below (below_alloc (Below.refl _ _) _))).mono ?_
              rintro e w1 ⟨rfl, hb⟩
              have HB := Lib.hid (below_then (below_alloc (Below.refl _ _) _) (by simp <;> omega) hb)
              have HG := Lib.hid (show w1.heap[w.heap.size]? = some (.cells #[.int .i64 0, .int .u64 0, .slice none 0 0, .int .i64 0] 87 (0, 0)) from blk_below (blk_new w _) hb)
              have hcc := fun i => blk_cell HG.out i
              have hff := fun i => blk_frozen HG.out i
              have hz := blk_lt HG.out
              have hcx := HSR.out w1 (HRX.out.below HB.out)
              rw [HBT.out, Addr.add_zero'] at hcx
              clear hb
              go_wp2_with fail
              have wf1 : IntKind.i64.wrap (17 + (n : Int)) = 17 + (n : Int) := IntWalk.i64_in _ (by omega)
              have wf2 : IntKind.i64.wrap (21 + (n : Int)) = 21 + (n : Int) := IntWalk.i64_in _ (by omega)
              go_region_held3 (fun _ => True) (trivial) (first
                | (go_at_call 18; refine (HM.out _ (HRD.out _ (Rd.drewN (HRX.out.below HB.out) 1))).mono ?_; rintro e w2 ⟨v2, rfl, hown, hb2⟩; obtain ⟨A2, c2, rfl, hc2, hr2⟩ := hown.reads; have HR2 := Lib.hid hr2; have HB2 := Lib.hid (below_then (pw_below_drewN HB.out 1) (pw_below_drewN HB.out 1).size hb2); have HZ2 := Lib.hid (HRZ.out _ (HRX.out.below HB2.out)); have HG2 := Lib.hid (blk_below (blk_drewN HG.out 1) hb2); clear hown hb2 hr2 hc2)
                | (go_at_call 21; refine (R01.same_any A2 c2 m (some adx) cx z _ hml HR2.out HZ2.out).mono ?_; rintro e w3 ⟨rfl, nn, rfl⟩; rw [HSB.out]))
              clear wf1 wf2
              have HB3 := Lib.hid (pw_below_drewN HB2.out nn)
              have HG3 := Lib.hid (blk_drewN HG2.out nn)
              obtain ⟨w3, hw3⟩ : ∃ w3, w2.drewN nn = w3 := ⟨_, rfl⟩
              rw [hw3] at HB3 HG3 ⊢
              clear hw3
              have hcc3 := fun i => blk_cell HG3.out i
              have hff3 := fun i => blk_frozen HG3.out i
              go_wp2_with fail
              have HBF := Lib.hid (below_set (v := .int .i64 (at_ + 21 + (n : Int))) (g := w.heap.size) (j := 3) (below_set (v := .slice D d.length cd) (g := w.heap.size) (j := 2) (below_set (v := .int .u64 q) (g := w.heap.size) (j := 1) (below_set (v := .int .i64 k) (g := w.heap.size) (j := 0) HB3.out (Nat.le_refl _)) (Nat.le_refl _)) (Nat.le_refl _)) (Nat.le_refl _))
              refine bodyPost_ret_by (results_ct rfl _ _ w.heap.size _ _ (0, 0) _ rfl (blk_set (blk_set (blk_set (blk_set (HG3.out) 0 _) 1 _) 2 _) 3 _) Try.underlying87 rfl infoRFrame) rfl ?_
              refine ⟨D, cd, by rw [HD'.out, HK'.out, HS'.out, HEnd.out, HE.out]; rfl, by rw [HD'.out]; exact hdc, ?_, HBF.out⟩
              rw [HD'.out]
              exact HRD.out _ (HRX.out.below HBF.out)
      · have hb1 : ((g : Int) != (s : Int)) = true := by simp; omega
        have HE := Lib.hid (show pErr l at_ = 5 by rw [HPE.out, HPX.out, if_pos hgs])
        clear hgs
        go_enter Try.func45, Try.ntmps45
        go_wp2_with fail
        refine (R01.take_any (some adx) cx x 1 8 _ (by omega) (HRX.out.below (below_alloc (Below.refl _ _) _))).mono ?_
        rintro e w1 ⟨rfl, rfl⟩
        rw [T2.out, O2.out]
        go_wp2_with fail
        refine (R01.take_any (some adx) cx x 9 4 _ (by omega) (HRX.out.below (below_alloc (Below.refl _ _) _))).mono ?_
        rintro e w1 ⟨rfl, rfl⟩
        rw [T3.out, O3.out]
        go_wp2_with fail
        refine (R01.take_any (some adx) cx x 13 4 _ (by omega) (HRX.out.below (below_alloc (Below.refl _ _) _))).mono ?_
        rintro e w1 ⟨rfl, rfl⟩
        rw [T4.out, O4.out]
        go_wp2_with fail
        refine (HCS.out _ (HRY.out.below (below_alloc (Below.refl _ _) _))).mono ?_
        rintro e w1 ⟨rfl, hb⟩
        have HB := Lib.hid (below_then (below_alloc (Below.refl _ _) _) (by simp <;> omega) hb)
        have HG := Lib.hid (show w1.heap[w.heap.size]? = some (.cells #[.int .i64 0, .int .u64 0, .slice none 0 0, .int .i64 0] 87 (0, 0)) from blk_below (blk_new w _) hb)
        have hcc := fun i => blk_cell HG.out i
        have hff := fun i => blk_frozen HG.out i
        have hz := blk_lt HG.out
        have hcx := HSR.out w1 (HRX.out.below HB.out)
        rw [HBT.out, Addr.add_zero'] at hcx
        clear hb
        go_wp2_with fail
        refine bodyPost_ret_by (results_ct rfl _ _ w.heap.size _ _ (0, 0) _ rfl (blk_set (blk_set (blk_set (blk_set (HG.out) 0 _) 1 _) 2 _) 3 _) Try.underlying87 rfl infoRFrame) rfl ?_
        exact parsed_no HE.out (by decide) (below_set (below_set (below_set (below_set (HB.out) (Nat.le_refl _)) (Nat.le_refl _)) (Nat.le_refl _)) (Nat.le_refl _))
end Go.Proofs.Ytceldlijbehkdaa.Fr
