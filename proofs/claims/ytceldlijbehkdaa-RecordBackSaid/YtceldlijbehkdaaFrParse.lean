/- frame: the walk of Parse. -/
import Derived.Test.YtceldlijbehkdaaFrMake
import Derived.Test.YtceldlijbehkdaaCut
set_option linter.unusedVariables false
set_option linter.unusedSimpArgs false
namespace Go.Proofs.Ytceldlijbehkdaa.Fr
open Go.RowKit Go.Proofs.YtceldlijbehkdaaW.PrintWords Go.Proofs.Ytceldlijbehkdaa.B Go.Proofs.Ytceldlijbehkdaa.Fx Go.Proofs.Ytceldlijbehkdaa.CrcW

/-- the end: the frame that stands at a place -/
def Parsed (l : List UInt8) (at_ : Int) (w : World) (e : Ending) (w' : World) : Prop :=
  ∃ A c, e = .returned (.tuple #[.agg #[.int .i64 (pKind l at_), .int .u64 (pSeq l at_), .slice A (pData l at_).length c, .int .i64 (pEnd l at_)], .int .i64 (pErr l at_)]) ∧ (pData l at_).length ≤ c ∧ Rd w' A (pData l at_) ∧ Below w.heap.size w w'
/-- likewise; the data is the call's own -/
def ParsedO (l : List UInt8) (at_ : Int) (w : World) (e : Ending) (w' : World) : Prop :=
  ∃ A c, e = .returned (.tuple #[.agg #[.int .i64 (pKind l at_), .int .u64 (pSeq l at_), .slice A (pData l at_).length c, .int .i64 (pEnd l at_)], .int .i64 (pErr l at_)]) ∧ (pData l at_).length ≤ c ∧ Own w' w.heap.size (.slice A (pData l at_).length c) (pData l at_) ∧ Below w.heap.size w w'
def noFrame (e : Nat) : Value := .tuple #[.agg #[.int .i64 0, .int .u64 0, .slice none 0 0, .int .i64 0], .int .i64 e]
theorem parsed_no {l : List UInt8} {at_ : Int} {w w' : World} {e : Nat} (h : pErr l at_ = e) (h0 : e ≠ 0) (hb : Below w.heap.size w w') : Parsed l at_ w (.returned (noFrame e)) w' := by
  have hd : pData l at_ = [] := by unfold pData; rw [if_neg (by omega)]
  refine ⟨none, 0, ?_, by rw [hd]; simp, by rw [hd]; exact Rd.nil _, hb⟩
  have h1 : pKind l at_ = 0 := by unfold pKind; rw [if_neg (by omega)]
  have h2 : pSeq l at_ = 0 := by unfold pSeq; rw [if_neg (by omega)]
  have h3 : pEnd l at_ = 0 := by unfold pEnd; rw [if_neg (by omega)]
  rw [hd, h1, h2, h3, h]; rfl
theorem parsedO_no {l : List UInt8} {at_ : Int} {w w' : World} {e : Nat} (h : pErr l at_ = e) (h0 : e ≠ 0) (hb : Below w.heap.size w w') : ParsedO l at_ w (.returned (noFrame e)) w' := by
  have hd : pData l at_ = [] := by unfold pData; rw [if_neg (by omega)]
  refine ⟨none, 0, ?_, by rw [hd]; simp, by rw [hd]; exact Own.nil _ _, hb⟩
  have h1 : pKind l at_ = 0 := by unfold pKind; rw [if_neg (by omega)]
  have h2 : pSeq l at_ = 0 := by unfold pSeq; rw [if_neg (by omega)]
  have h3 : pEnd l at_ = 0 := by unfold pEnd; rw [if_neg (by omega)]
  rw [hd, h1, h2, h3, h]; rfl
theorem infoFrame : (Try.prog.info? 82).map (·.size) = some 4 := by kernel_rfl
theorem begin_no {x : List UInt8} (h : bErr x ≠ 0) : pErrX x = bErr x := by
  unfold bErr at h ⊢
  unfold pErrX
  by_cases h1 : x.length < 17
  · rw [if_pos h1, if_pos h1]
  rw [if_neg h1] at h ⊢
  rw [if_neg h1]
  by_cases h2 : wholeB (x.take 17) = false
  · rw [if_pos h2, if_pos h2]
  rw [if_neg h2] at h ⊢
  rw [if_neg h2]
  by_cases h3 : fk x < 1 ∨ 8 < fk x ∨ 65536 < fn x
  · rw [if_pos h3, if_pos h3]
  · rw [if_neg h3] at h; omega
theorem begin_yes {x : List UInt8} (h : bErr x = 0) : pErrX x = (if x.length < 21 + fn x then 4 else if wholeB (x.take (21 + fn x)) = false then 5 else 0) ∧ 17 ≤ x.length ∧ fn x ≤ 65536 ∧ fk x ≤ 8 := by
  unfold bErr at h
  unfold pErrX
  by_cases h1 : x.length < 17
  · rw [if_pos h1] at h; omega
  rw [if_neg h1] at h ⊢
  by_cases h2 : wholeB (x.take 17) = false
  · rw [if_pos h2] at h; omega
  rw [if_neg h2] at h ⊢
  by_cases h3 : fk x < 1 ∨ 8 < fk x ∨ 65536 < fn x
  · rw [if_pos h3] at h; omega
  rw [if_neg h3]
  exact ⟨rfl, by omega, by omega, by omega⟩
set_option maxRecDepth 100000 in
set_option maxHeartbeats 1000000 in
theorem parse_own (A : Option Addr) (c : Nat) (l : List UInt8) (at_ : Int) (w : World) (hl : l.length ≤ 140737488354000) (hc : l.length ≤ c) (hr : Rd w A l) (hb : -9223372036854775808 ≤ at_ ∧ at_ ≤ 9223372036854775807) :
    Calls Try.prog 43 #[.slice A l.length c, .int .i64 at_] w (ParsedO l at_ w) := by
  have HR := Lib.hid hr
  clear hr
  by_cases hat : at_ < 0 ∨ (l.length : Int) < at_
  · have HE := Lib.hid (show pErr l at_ = 2 by unfold pErr; rw [if_pos hat])
    have hcase : at_ < 0 ∨ (¬ at_ < 0 ∧ (l.length : Int) < at_) := by omega
    clear hat
    rcases hcase with h1 | ⟨h1, h2⟩
    all_goals
      go_enter Try.func43, Try.ntmps43
      go_wp2_with fail
      refine bodyPost_ret_by (results_ct rfl _ _ w.heap.size _ _ (0, 0) _ rfl (blk_new w _) Try.underlying82 rfl infoFrame) rfl ?_
      exact parsedO_no HE.out (by decide) (below_alloc (Below.refl _ _) _)
  · have h1 : 0 ≤ at_ := by omega
    have h2 : at_ ≤ (l.length : Int) := by omega
    have h1' : ¬ at_ < 0 := by omega
    have h2' : ¬ (l.length : Int) < at_ := by omega
    obtain ⟨X, x, cx, hx, hcut, hrx, hxc, hxl⟩ := cutF (A := A) (l := l) (c := c) at_ h1 h2 hc
    have HPE := Lib.hid (show pErr l at_ = pErrX x by unfold pErr; rw [if_neg hat, hx.out])
    have HX := Lib.hid (show x = l.drop at_.toNat from hx.out)
    have HRX := Lib.hid (hrx w HR.out)
    have HBG := Lib.hid (fun (W : World) (h : Rd W X x) => begin_any X cx x W (by omega) hxc h)
    have hxb : x.length ≤ l.length := by omega
    have hxa : at_ + (x.length : Int) ≤ 140737488354000 := by omega
    clear hat hx hrx hxl
    by_cases hbe : bErr x = 0
    · obtain ⟨hpe, h17, hn6, hk8⟩ := begin_yes hbe
      obtain ⟨k, hk⟩ : ∃ k, fk x = k := ⟨_, rfl⟩
      obtain ⟨q, hq⟩ : ∃ q, fs x = q := ⟨_, rfl⟩
      obtain ⟨n, hn⟩ : ∃ n, fn x = n := ⟨_, rfl⟩
      have HV := Lib.hid (show beginV x = startV k q n 0 by unfold beginV; rw [if_pos hbe, hk, hq, hn])
      have hql := fs_lt x
      rw [hq] at hql
      rw [hn] at hn6 hpe
      rw [hk] at hk8
      have HQ := Lib.hid hql
      have HPX := Lib.hid hpe
      have HK := Lib.hid hk
      have HS := Lib.hid hq
      have HNN := Lib.hid hn
      clear hbe hk hq hn hpe hql
      by_cases hs : x.length < 21 + n
      · have HE := Lib.hid (show pErr l at_ = 4 by rw [HPE.out, HPX.out, if_pos hs])
        have hs' : (x.length : Int) < (n : Int) + 21 := by omega
        clear hs
        go_enter Try.func43, Try.ntmps43
        go_wp2_with fail
        refine (HBG.out _ (HRX.out.below (below_alloc (Below.refl _ _) _))).mono ?_
        rintro e w1 ⟨rfl, hb⟩
        rw [HV.out]
        unfold startV
        have HB := Lib.hid (below_then (below_alloc (Below.refl _ _) _) (by simp <;> omega) hb)
        have HG := Lib.hid (show w1.heap[w.heap.size]? = some (.cells #[.int .i64 0, .int .u64 0, .slice none 0 0, .int .i64 0] 82 (0, 0)) from blk_below (blk_new w _) hb)
        have hcc := fun i => blk_cell HG.out i
        have hff := fun i => blk_frozen HG.out i
        have hz := blk_lt HG.out
        clear hb
        go_wp2_with fail
        refine (size_any n _ (by omega) (by omega)).mono ?_
        rintro e w' ⟨rfl, rfl⟩
        go_wp2_with fail
        refine bodyPost_ret_by (results_ct rfl _ _ w.heap.size _ _ (0, 0) _ rfl (blk_alloc (blk_set (blk_set (blk_set (blk_set HG.out 0 _) 1 _) 2 _) 3 _) _) Try.underlying82 rfl infoFrame) rfl ?_
        exact parsedO_no HE.out (by decide) (below_alloc (below_set (below_set (below_set (below_set (HB.out) (Nat.le_refl _)) (Nat.le_refl _)) (Nat.le_refl _)) (Nat.le_refl _)) _)
      · obtain ⟨y, hy, hcuty, hry, hyc, hyl⟩ := cutTo (A := X) (l := x) (c := cx) ((n : Int) + 21) (by omega) (by omega) hxc
        have HY := Lib.hid (show y = x.take (21 + n) by rw [hy.out]; congr 1; omega)
        have HRY := Lib.hid (hry w HRX.out)
        have hs' : ¬ (x.length : Int) < (n : Int) + 21 := by omega
        have hy4 : 4 ≤ y.length := by omega
        have hyb : y.length ≤ 140737488355328 := by omega
        have HWH := Lib.hid (fun (W : World) (h : Rd W X y) => whole_any X cx y W hyb hy4 hyc h)
        clear hy hry
        cases hw : wholeB y with
        | false =>
          have HE := Lib.hid (show pErr l at_ = 5 by rw [HPE.out, HPX.out, if_neg hs, ← HY.out, if_pos hw])
          have HW := Lib.hid hw
          clear hs hw hyl
          go_enter Try.func43, Try.ntmps43
          go_wp2_with fail
          refine (HBG.out _ (HRX.out.below (below_alloc (Below.refl _ _) _))).mono ?_
          rintro e w1 ⟨rfl, hb⟩
          rw [HV.out]
          unfold startV
          have HB := Lib.hid (below_then (below_alloc (Below.refl _ _) _) (by simp <;> omega) hb)
          have HG := Lib.hid (show w1.heap[w.heap.size]? = some (.cells #[.int .i64 0, .int .u64 0, .slice none 0 0, .int .i64 0] 82 (0, 0)) from blk_below (blk_new w _) hb)
          have hcc := fun i => blk_cell HG.out i
          have hff := fun i => blk_frozen HG.out i
          have hz := blk_lt HG.out
          clear hb
          go_wp2_with fail
          refine (size_any n _ (by omega) (by omega)).mono ?_
          rintro e w' ⟨rfl, rfl⟩
          go_wp2_with fail
          refine (size_any n _ (by omega) (by omega)).mono ?_
          rintro e w' ⟨rfl, rfl⟩
          go_wp2_with fail
          refine (HWH.out _ ((HRY.out.below HB.out).below (below_alloc (Below.refl _ _) _))).mono ?_
          rintro e w2 ⟨rfl, hb2⟩
          rw [HW.out]
          have HB2 := Lib.hid (below_then (below_alloc HB.out _) (by have := HB.out.size; simp <;> omega) hb2)
          have HG2 := Lib.hid (show w2.heap[w.heap.size]? = some (.cells #[.int .i64 0, .int .u64 0, .slice none 0 0, .int .i64 0] 82 (0, 0)) from blk_below (blk_alloc HG.out _) hb2)
          have hcc2 := fun i => blk_cell HG2.out i
          have hff2 := fun i => blk_frozen HG2.out i
          have hz2 := blk_lt HG2.out
          clear hb2
          go_wp2_with fail
          refine bodyPost_ret_by (results_ct rfl _ _ w.heap.size _ _ (0, 0) _ rfl (blk_set (blk_set (blk_set (blk_set (HG2.out) 0 _) 1 _) 2 _) 3 _) Try.underlying82 rfl infoFrame) rfl ?_
          exact parsedO_no HE.out (by decide) (below_set (below_set (below_set (below_set (HB2.out) (Nat.le_refl _)) (Nat.le_refl _)) (Nat.le_refl _)) (Nat.le_refl _))
        | true =>
          have HE := Lib.hid (show pErr l at_ = 0 by rw [HPE.out, HPX.out, if_neg hs, ← HY.out, if_neg (by rw [hw]; decide)])
          have HW := Lib.hid hw
          obtain ⟨D, d, cd, hd, hcutd, hrd, hdc, hdl⟩ := cutM (A := X) (l := y) (c := cx) 17 (17 + (n : Int)) (by omega) (by omega) (by omega) hyc
          have HRD := Lib.hid (hrd w HRY.out)
          have HD := Lib.hid (show pData l at_ = d by
            unfold pData
            rw [if_pos HE.out, ← HX.out, HNN.out, hd.out, HY.out, List.take_take, List.drop_take]
            rw [show min ((17 + (n : Int)).toNat) (21 + n) - (17 : Int).toNat = n by omega]; rfl)
          have HK' := Lib.hid (show pKind l at_ = k by unfold pKind; rw [if_pos HE.out, ← HX.out, HK.out])
          have HS' := Lib.hid (show pSeq l at_ = q by unfold pSeq; rw [if_pos HE.out, ← HX.out, HS.out])
          have HEnd := Lib.hid (show pEnd l at_ = at_ + (y.length : Int) by unfold pEnd; rw [if_pos HE.out, ← HX.out, HNN.out]; omega)
          have hdb : d.length ≤ 140737488355328 := by omega
          have hab : at_ + (y.length : Int) ≤ 140737488354000 := by omega
          have hyn : 17 + n ≤ y.length := by omega
          clear hs hw hd hrd hyl hdl
          go_enter Try.func43, Try.ntmps43
          go_wp2_with fail
          refine (HBG.out _ (HRX.out.below (below_alloc (Below.refl _ _) _))).mono ?_
          rintro e w1 ⟨rfl, hb⟩
          rw [HV.out]
          unfold startV
          have HB := Lib.hid (below_then (below_alloc (Below.refl _ _) _) (by simp <;> omega) hb)
          have HG := Lib.hid (show w1.heap[w.heap.size]? = some (.cells #[.int .i64 0, .int .u64 0, .slice none 0 0, .int .i64 0] 82 (0, 0)) from blk_below (blk_new w _) hb)
          have hcc := fun i => blk_cell HG.out i
          have hff := fun i => blk_frozen HG.out i
          have hz := blk_lt HG.out
          clear hb
          go_wp2_with fail
          refine (size_any n _ (by omega) (by omega)).mono ?_
          rintro e w' ⟨rfl, rfl⟩
          go_wp2_with fail
          refine (size_any n _ (by omega) (by omega)).mono ?_
          rintro e w' ⟨rfl, rfl⟩
          go_wp2_with fail
          refine (HWH.out _ ((HRY.out.below HB.out).below (below_alloc (Below.refl _ _) _))).mono ?_
          rintro e w2 ⟨rfl, hb2⟩
          rw [HW.out]
          have HB2 := Lib.hid (below_then (below_alloc HB.out _) (by have := HB.out.size; simp <;> omega) hb2)
          have HG2 := Lib.hid (show w2.heap[w.heap.size]? = some (.cells #[.int .i64 0, .int .u64 0, .slice none 0 0, .int .i64 0] 82 (0, 0)) from blk_below (blk_alloc HG.out _) hb2)
          have hcc2 := fun i => blk_cell HG2.out i
          have hff2 := fun i => blk_frozen HG2.out i
          have hz2 := blk_lt HG2.out
          have HT := Lib.hid (show w2.heap[w1.heap.size]? = some (.cells #[.int .i64 k, .int .u64 q, .slice none 0 0, .int .i64 0, .int .i64 n] 106 (0, 0)) from blk_below (blk_new w1 _) hb2)
          have hct2 := fun i => blk_cell HT.out i
          have hft2 := fun i => blk_frozen HT.out i
          have hz3 := blk_lt HT.out
          clear hb2
          go_wp2_with fail
          refine (Cl.clone_any D cd d _ hdb ((HRD.out.below HB2.out))).mono ?_
          rintro e w3 ⟨v3, rfl, hown, hb3⟩
          obtain ⟨A3, c3, rfl, hc3, hr3⟩ := hown.reads
          have HO3 := Lib.hid hown
          have HB3 := Lib.hid (below_then HB2.out HB2.out.size hb3)
          have HG3 := Lib.hid (blk_below HG2.out hb3)
          have HT3 := Lib.hid (blk_below HT.out hb3)
          have hcc3 := fun i => blk_cell HG3.out i
          have hff3 := fun i => blk_frozen HG3.out i
          have hct3 := fun i => blk_cell HT3.out i
          have hft3 := fun i => blk_frozen HT3.out i
          have hzz : w.heap.size < w3.heap.size := blk_lt HG3.out
          have hzt : w1.heap.size < w3.heap.size := blk_lt HT3.out
          clear hown hb3 hr3 hcc2 hff2 hct2 hft2 hcc hff
          go_wp2_with fail
          have hne : w.heap.size ≠ w1.heap.size := by omega
          have hb0 := HB.out.size
          have HO4 := ((((((HO3.out.far (p := ⟨w1.heap.size, 2, none⟩) hz3 (.slice A3 d.length c3)).far (p := ⟨w1.heap.size, 3, none⟩) hz3 (.int .i64 (at_ + (y.length : Int)))).far (p := ⟨w.heap.size, 0, none⟩) hz2 (.int .i64 k)).far (p := ⟨w.heap.size, 1, none⟩) hz2 (.int .u64 q)).far (p := ⟨w.heap.size, 2, none⟩) hz2 (.slice A3 d.length c3)).far (p := ⟨w.heap.size, 3, none⟩) hz2 (.int .i64 (at_ + (y.length : Int))))
          refine bodyPost_ret_by (results_ct rfl _ _ w.heap.size _ _ (0, 0) _ rfl (blk_set (blk_set (blk_set (blk_set (blk_far (blk_far HG3.out hne _) hne _) 0 _) 1 _) 2 _) 3 _) Try.underlying82 rfl infoFrame) rfl ?_
          refine ⟨A3, c3, by rw [HD.out, HK'.out, HS'.out, HEnd.out, HE.out]; rfl, by rw [HD.out]; exact hc3, ?_, ?_⟩
          · rw [HD.out]; exact HO4.lower HB2.out.size
          · exact below_set (below_set (below_set (below_set (below_set (below_set HB3.out hb0) hb0) (Nat.le_refl _)) (Nat.le_refl _)) (Nat.le_refl _)) (Nat.le_refl _)
    · have HE := Lib.hid (show pErr l at_ = bErr x by rw [HPE.out]; exact begin_no hbe)
      obtain ⟨er, her⟩ : ∃ er, bErr x = er := ⟨_, rfl⟩
      have HV := Lib.hid (show beginV x = startV 0 0 0 er by unfold beginV; rw [if_neg hbe, her])
      rw [her] at HE hbe
      have he0 : ((er : Int) != 0) = true := by simp; omega
      clear her
      go_enter Try.func43, Try.ntmps43
      go_wp2_with fail
      refine (HBG.out _ (HRX.out.below (below_alloc (Below.refl _ _) _))).mono ?_
      rintro e w1 ⟨rfl, hb⟩
      rw [HV.out]
      unfold startV
      have HB := Lib.hid (below_then (below_alloc (Below.refl _ _) _) (by simp <;> omega) hb)
      have HG := Lib.hid (show w1.heap[w.heap.size]? = some (.cells #[.int .i64 0, .int .u64 0, .slice none 0 0, .int .i64 0] 82 (0, 0)) from blk_below (blk_new w _) hb)
      have hcc := fun i => blk_cell HG.out i
      have hff := fun i => blk_frozen HG.out i
      have hz := blk_lt HG.out
      clear hb
      go_wp2_with fail
      refine bodyPost_ret_by (results_ct rfl _ _ w.heap.size _ _ (0, 0) _ rfl (blk_alloc (blk_set (blk_set (blk_set (blk_set HG.out 0 _) 1 _) 2 _) 3 _) _) Try.underlying82 rfl infoFrame) rfl ?_
      exact parsedO_no HE.out hbe (below_alloc (below_set (below_set (below_set (below_set (HB.out) (Nat.le_refl _)) (Nat.le_refl _)) (Nat.le_refl _)) (Nat.le_refl _)) _)
theorem parse_any (A : Option Addr) (c : Nat) (l : List UInt8) (at_ : Int) (w : World) (hl : l.length ≤ 140737488354000) (hc : l.length ≤ c) (hr : Rd w A l) (hb : -9223372036854775808 ≤ at_ ∧ at_ ≤ 9223372036854775807) :
    Calls Try.prog 43 #[.slice A l.length c, .int .i64 at_] w (Parsed l at_ w) :=
  (parse_own A c l at_ w hl hc hr hb).mono fun e w' ⟨A1, c1, h1, h2, h3, h4⟩ => ⟨A1, c1, h1, h2, h3.rd, h4⟩
end Go.Proofs.Ytceldlijbehkdaa.Fr
