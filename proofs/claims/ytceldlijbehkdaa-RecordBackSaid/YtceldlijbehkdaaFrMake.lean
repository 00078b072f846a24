/- frame: the walks of sealed, Make, whole, begin. -/
import Derived.Test.YtceldlijbehkdaaFrPure
import Derived.Test.YtceldlijbehkdaaClone
set_option linter.unusedVariables false
set_option linter.unusedSimpArgs false
namespace Go.Proofs.Ytceldlijbehkdaa.Fr
open Go.RowKit Go.Proofs.YtceldlijbehkdaaW.PrintWords Go.Proofs.Ytceldlijbehkdaa.B Go.Proofs.Ytceldlijbehkdaa.Fx Go.Proofs.Ytceldlijbehkdaa.CrcW

set_option maxRecDepth 100000 in
theorem size_any (n : Int) (w : World) (h0 : 0 ≤ n) (h1 : n ≤ 140737488355328) : Calls Try.prog 54 #[.int .i64 n] w (Still (.int .i64 (n + 21)) w) := by
  go_enter Try.func54, Try.ntmps54
  go_wp2
  go_ret
  exact ⟨ret_eq (congrArg (Value.int .i64) (by omega)), rfl⟩
set_option maxRecDepth 100000 in
theorem sealed_any (A : Option Addr) (c : Nat) (l : List UInt8) (w : World) (hl : l.length ≤ 140737488354000) (hr : Rd w A l) :
    Calls Try.prog 71 #[.slice A l.length c] w (Made w (seal4 l)) := by
  have HR := Lib.hid hr
  clear hr
  have hlt := csum_lt l
  have HL := Lib.hid (show putL l (csum l) 4 = seal4 l from putL4 l (csum l))
  have HS := Lib.hid (fun (W : World) (h : Rd W A l) => (show Calls Try.prog 77 #[.slice A l.length c] W (Kept (.int .u32 (csum l : Nat)) W) from sum_any A c l W h))
  generalize csum l = s at *
  go_enter Try.func71, Try.ntmps71
  go_wp2_with fail
  refine (HS.out w HR.out).mono ?_
  rintro e w1 ⟨rfl, hb⟩
  have HB1 := Lib.hid hb
  clear hb
  go_wp2_with fail
  refine (put_any A c l s 4 w1 (by omega) (by omega) (HR.out.below HB1.out)).mono ?_
  rintro e w2 ⟨v2, rfl, hown, hb⟩
  rw [HL.out] at hown
  have HO2 := Lib.hid (hown.lower HB1.out.size)
  have HB2 := Lib.hid (below_step' HB1.out hb)
  clear hown hb
  go_wp2_with fail
  go_ret
  exact ⟨v2, rfl, HO2.out, HB2.out⟩
theorem wrap_u64 (k : Int) : IntKind.u64.wrap k = k % 18446744073709551616 := by simp [IntKind.wrap, IntKind.bits, IntKind.signed]
/-- a kind's number as 64 bits -/
def kindN (k : Int) : Nat := (k % 18446744073709551616).toNat
theorem kindN_of {k : Int} (h0 : 0 ≤ k) (h1 : k < 18446744073709551616) : kindN k = k.toNat := by unfold kindN; omega
set_option maxRecDepth 100000 in
set_option maxHeartbeats 400000 in
theorem make_any (k : Int) (s : Nat) (A : Option Addr) (c : Nat) (d : List UInt8) (w : World) (hk : -9223372036854775808 ≤ k ∧ k ≤ 9223372036854775807) (hs : s < 18446744073709551616) (hd : d.length ≤ 140737488353000) (hr : Rd w A d) :
    Calls Try.prog 49 #[.int .i64 k, .int .u64 s, .slice A d.length c] w (Made w (makeL (kindN k) s d)) := by
  have HR := Lib.hid hr
  clear hr
  obtain ⟨q, hq⟩ : ∃ q : Nat, kindN k = q := ⟨_, rfl⟩
  have hqk : IntKind.u64.wrap k = (q : Int) := by rw [wrap_u64]; unfold kindN at hq; omega
  have hql : q < 18446744073709551616 := by unfold kindN at hq; omega
  obtain ⟨y1, hy1⟩ : ∃ y, putL [] q 1 = y := ⟨_, rfl⟩
  obtain ⟨y2, hy2⟩ : ∃ y, putL y1 s 8 = y := ⟨_, rfl⟩
  obtain ⟨y3, hy3⟩ : ∃ y, putL y2 d.length 4 = y := ⟨_, rfl⟩
  obtain ⟨y4, hy4⟩ : ∃ y, seal4 y3 = y := ⟨_, rfl⟩
  obtain ⟨y5, hy5⟩ : ∃ y, y4 ++ d = y := ⟨_, rfl⟩
  have HF := Lib.hid (show seal4 y5 = makeL (kindN k) s d from by
    rw [hq, ← hy5, ← hy4, ← hy3, ← hy2, ← hy1, putL1, putL8, putL4]; rfl)
  have hl1 : y1.length = 1 := by rw [← hy1, putL1, List.nil_append, putB_length]
  have hl2 : y2.length = 9 := by rw [← hy2, putL8, List.length_append, putB_length, hl1]
  have hl3 : y3.length = 13 := by rw [← hy3, putL4, List.length_append, putB_length, hl2]
  have hl4 : y4.length = 17 := by rw [← hy4, seal4_len, hl3]
  have hl5 : y5.length = 17 + d.length := by rw [← hy5, List.length_append, hl4]
  have k1 : y1.length ≤ 17 := by omega
  have k2 : y2.length ≤ 17 := by omega
  have k3 : y3.length ≤ 17 := by omega
  have k4 : y4.length ≤ 17 := by omega
  have k5 : y5.length ≤ 140737488354000 := by omega
  have H1 := Lib.hid hy1
  have H2 := Lib.hid hy2
  have H3 := Lib.hid hy3
  have H4 := Lib.hid hy4
  have H5 := Lib.hid hy5
  clear hy1 hy2 hy3 hy4 hy5 hl1 hl2 hl3 hl4 hl5 hq
  go_enter Try.func49, Try.ntmps49
  go_wp2_with fail
  refine (put_any none 0 [] q 1 w (by simp) (by omega) (Rd.nil w)).mono ?_
  rintro e w1 ⟨v1, rfl, hown, hb⟩
  rw [H1.out] at hown
  obtain ⟨A1, c1, rfl, hc1, hr1⟩ := hown.reads
  have HR1 := Lib.hid hr1
  have HB1 := Lib.hid hb
  clear hown hb hr1
  go_wp2_with fail
  refine (put_any A1 c1 y1 s 8 w1 (by omega) (by omega) HR1.out).mono ?_
  rintro e w2 ⟨v2, rfl, hown, hb⟩
  rw [H2.out] at hown
  obtain ⟨A2, c2, rfl, hc2, hr2⟩ := hown.reads
  have HR2 := Lib.hid hr2
  have HB2 := Lib.hid (below_step' HB1.out hb)
  clear hown hb hr2
  go_wp2_with fail
  refine (put_any A2 c2 y2 d.length 4 w2 (by omega) (by omega) HR2.out).mono ?_
  rintro e w3 ⟨v3, rfl, hown, hb⟩
  rw [H3.out] at hown
  obtain ⟨A3, c3, rfl, hc3, hr3⟩ := hown.reads
  have HR3 := Lib.hid hr3
  have HB3 := Lib.hid (below_step' HB2.out hb)
  clear hown hb hr3
  go_wp2_with fail
  refine (sealed_any A3 c3 y3 w3 (by omega) HR3.out).mono ?_
  rintro e w4 ⟨v4, rfl, hown, hb⟩
  rw [H4.out] at hown
  have HB4 := Lib.hid (below_step' HB3.out hb)
  have HO4 := Lib.hid (hown.lower HB3.out.size)
  clear hown hb
  go_wp2_with (at_builtin; refine appRow (w0 := w) w.heap.size rfl (.tmp 20) (.tmp 21) rfl v4 y4 d A d.length c rfl rfl rfl HO4.out (HR.out.below HB4.out) HB4.out HB4.out.size (by omega) ?_; intro v5 w5 hown hb _ _; rw [H5.out] at hown; have HO5 := Lib.hid hown; have HB5 := Lib.hid hb; clear hown hb)
  obtain ⟨A5, c5, rfl, hc5, hr5⟩ := HO5.out.reads
  have HR5 := Lib.hid hr5
  clear hr5
  refine (sealed_any A5 c5 y5 w5 k5 HR5.out).mono ?_
  rintro e w6 ⟨v6, rfl, hown, hb⟩
  rw [HF.out] at hown
  have HO6 := Lib.hid (hown.lower HB5.out.size)
  have HB6 := Lib.hid (below_step' HB5.out hb)
  clear hown hb
  go_wp2_with fail
  go_ret
  exact ⟨v6, rfl, HO6.out, HB6.out⟩
set_option maxRecDepth 100000 in
set_option maxHeartbeats 400000 in
theorem whole_any (A : Option Addr) (c : Nat) (l : List UInt8) (w : World) (hl : l.length ≤ 140737488355328) (h4 : 4 ≤ l.length) (hc : l.length ≤ c) (hr : Rd w A l) :
    Calls Try.prog 63 #[.slice A l.length c] w (Kept (.bool (wholeB l)) w) := by
  have HR := Lib.hid hr
  clear hr
  obtain ⟨g, hg⟩ : ∃ g, le (l.drop (l.length - 4)) = g := ⟨_, rfl⟩
  have hgl : g < 4294967296 := by
    have := le_lt (l.drop (l.length - 4))
    rw [hg, List.length_drop, show l.length - (l.length - 4) = 4 by omega] at this
    exact this
  have hok : takeOk l ((l.length : Int) - 4) 4 = true := by unfold takeOk; exact decide_eq_true (by omega)
  have HOK := Lib.hid hok
  have HN := Lib.hid (show takeN l ((l.length : Int) - 4) 4 = g by
    unfold takeN; rw [if_pos hok, ← hg, show ((l.length : Int) - 4).toNat = l.length - 4 by omega, show Int.toNat 4 = 4 from rfl, List.take_of_length_le (by rw [List.length_drop]; omega)])
  obtain ⟨y, hy, hcut, hry, hyc, hyl⟩ := cutTo (A := A) (l := l) (c := c) ((l.length : Int) - 4) (by omega) (by omega) hc
  have hlt := csum_lt y
  have HW := Lib.hid (show ((g : Int) == (csum y : Int)) = wholeB l by
    have e : y = l.take (l.length - 4) := by rw [hy.out]; congr 1; omega
    unfold wholeB
    rw [hg, ← e]
    by_cases h : g = csum y
    · simp [h]
    · have : ¬ (g : Int) = (csum y : Int) := by omega
      simp [h, this])
  have HS := Lib.hid (fun (W : World) (h : Rd W A y) => (show Calls Try.prog 77 #[.slice A y.length c] W (Kept (.int .u32 (csum y : Nat)) W) from sum_any A c y W h))
  have HRY := Lib.hid (hry w HR.out)
  generalize csum y = s at *
  clear hg hok hy hry hyl
  go_enter Try.func63, Try.ntmps63
  go_wp2_with fail
  refine (take_any A c l ((l.length : Int) - 4) 4 w hl HR.out).mono ?_
  rintro e w1 ⟨rfl, rfl⟩
  rw [HN.out, HOK.out]
  go_wp2_with fail
  refine (HS.out w1 HRY.out).mono ?_
  rintro e w2 ⟨rfl, hb⟩
  have HB := Lib.hid hb
  clear hb
  go_wp2_with fail
  go_ret
  exact ⟨ret_eq (congrArg Value.bool HW.out), HB.out⟩
theorem bcell {W w1 : World} (hb : Below W.heap.size W w1) : (∀ b o, b < W.heap.size → w1.cell? ⟨b, o, none⟩ = W.cell? ⟨b, o, none⟩) ∧ (∀ b o, b < W.heap.size → w1.frozen? ⟨b, o, none⟩ = W.frozen? ⟨b, o, none⟩) :=
  ⟨fun b o h => hb.cell (p := ⟨b, o, none⟩) h, fun b o h => hb.frozen (p := ⟨b, o, none⟩) h⟩
theorem infoStart : (Try.prog.info? 106).map (·.size) = some 5 := by kernel_rfl
/-- what is wrong with a head -/
def bErr (x : List UInt8) : Nat := if x.length < 17 then 4 else if wholeB (x.take 17) = false then 5 else if fk x < 1 ∨ 8 < fk x ∨ 65536 < fn x then 3 else 0
def startV (k s n e : Nat) : Value := .tuple #[.agg #[.int .i64 k, .int .u64 s, .slice none 0 0, .int .i64 0, .int .i64 n], .int .i64 e]
def beginV (x : List UInt8) : Value := if bErr x = 0 then startV (fk x) (fs x) (fn x) 0 else startV 0 0 0 (bErr x)
theorem takeN_at {l : List UInt8} {p k : Nat} (h : p + k ≤ l.length) (h1 : 1 ≤ k) (h8 : k ≤ 8) : takeOk l p k = true ∧ takeN l p k = le ((l.drop p).take k) := by
  have hok : takeOk l p k = true := by unfold takeOk; exact decide_eq_true (by omega)
  refine ⟨hok, ?_⟩
  unfold takeN; rw [if_pos hok, Int.toNat_natCast, Int.toNat_natCast]
set_option maxRecDepth 100000 in
set_option maxHeartbeats 400000 in
theorem begin_any (A : Option Addr) (c : Nat) (l : List UInt8) (w : World) (hl : l.length ≤ 140737488355328) (hc : l.length ≤ c) (hr : Rd w A l) :
    Calls Try.prog 62 #[.slice A l.length c] w (Kept (beginV l) w) := by
  have HR := Lib.hid hr
  clear hr
  by_cases h17 : l.length < 17
  · have HV := Lib.hid (show beginV l = startV 0 0 0 4 by
      have : bErr l = 4 := by unfold bErr; rw [if_pos h17]
      unfold beginV; rw [this]; rfl)
    go_enter Try.func62, Try.ntmps62
    go_wp2
    exact bodyPost_ret (v := startV 0 0 0 4) (by simp [startV, results, Try.results62, go_sem]) rfl ⟨ret_eq HV.out.symm, below_alloc (Below.refl _ _) _⟩
  · obtain ⟨k, hk⟩ : ∃ k, fk l = k := ⟨_, rfl⟩
    obtain ⟨q, hq⟩ : ∃ q, fs l = q := ⟨_, rfl⟩
    obtain ⟨n, hn⟩ : ∃ n, fn l = n := ⟨_, rfl⟩
    have hkl := fk_lt l
    have hql := fs_lt l
    have hnl := fn_lt l
    have K1 := takeN_at (l := l) (p := 0) (k := 1) (by omega) (by omega) (by omega)
    have K2 := takeN_at (l := l) (p := 1) (k := 8) (by omega) (by omega) (by omega)
    have K3 := takeN_at (l := l) (p := 9) (k := 4) (by omega) (by omega) (by omega)
    have H1 := Lib.hid (show takeN l 0 1 = k by rw [← hk]; exact K1.2)
    have H2 := Lib.hid (show takeN l 1 8 = q by rw [← hq]; exact K2.2)
    have H3 := Lib.hid (show takeN l 9 4 = n by rw [← hn]; exact K3.2)
    have O1 := Lib.hid (show takeOk l 0 1 = true from K1.1)
    have O2 := Lib.hid (show takeOk l 1 8 = true from K2.1)
    have O3 := Lib.hid (show takeOk l 9 4 = true from K3.1)
    rw [hk] at hkl
    rw [hq] at hql
    rw [hn] at hnl
    obtain ⟨y, hy, hcut, hry, hyc, hyl⟩ := cutTo (A := A) (l := l) (c := c) 17 (by omega) (by omega) hc
    have HY := Lib.hid (show y = l.take 17 from hy.out)
    have HRY := Lib.hid (hry w HR.out)
    have hy4 : 4 ≤ y.length := by omega
    have hyb : y.length ≤ 140737488355328 := by omega
    have HV := Lib.hid (show beginV l = if wholeB y = false then startV 0 0 0 5 else if k < 1 ∨ 8 < k ∨ 65536 < n then startV 0 0 0 3 else startV k q n 0 by
      unfold beginV bErr
      rw [if_neg h17, HY.out, hk, hn, hq]
      by_cases hw : wholeB (l.take 17) = false
      · simp [hw]
      · by_cases hf : k < 1 ∨ 8 < k ∨ 65536 < n
        · rw [if_neg hw, if_pos hf, if_neg (by decide), if_neg hw, if_pos hf]
        · rw [if_neg hw, if_neg hf, if_pos rfl, if_neg hw, if_neg hf])
    have h17' : 17 ≤ l.length := by omega
    clear hk hq hn K1 K2 K3 hy hry hyl h17
    cases hw : wholeB y with
    | false =>
      have HVV := Lib.hid (show beginV l = startV 0 0 0 5 by rw [HV.out, if_pos hw])
      have HW := Lib.hid hw
      clear hw
      go_enter Try.func62, Try.ntmps62
      go_wp2_with fail
      refine (take_any A c l 0 1 _ hl (HR.out.below (below_alloc (Below.refl _ _) _))).mono ?_
      rintro e w1 ⟨rfl, rfl⟩
      rw [H1.out, O1.out]
      go_wp2_with fail
      refine (take_any A c l 1 8 _ hl (HR.out.below (below_alloc (Below.refl _ _) _))).mono ?_
      rintro e w1 ⟨rfl, rfl⟩
      rw [H2.out, O2.out]
      go_wp2_with fail
      refine (take_any A c l 9 4 _ hl (HR.out.below (below_alloc (Below.refl _ _) _))).mono ?_
      rintro e w1 ⟨rfl, rfl⟩
      rw [H3.out, O3.out]
      go_wp2_with fail
      refine (whole_any A c y _ hyb hy4 hyc (HRY.out.below (below_alloc (below_alloc (Below.refl _ _) _) _))).mono ?_
      rintro e w1 ⟨rfl, hb⟩
      rw [HW.out]
      have HB := Lib.hid (below_then (below_alloc (below_alloc (Below.refl _ _) _) _) (by simp; omega) hb)
      have HG := Lib.hid (blk_below (blk_alloc (blk_new w (.cells #[.int .i64 0, .int .u64 0, .slice none 0 0, .int .i64 0, .int .i64 0] 106)) _) hb)
      have hcc := fun i => blk_cell HG.out i
      have hff := fun i => blk_frozen HG.out i
      clear hb
      go_wp2_with fail
      refine bodyPost_ret_by (results_ct rfl _ _ w.heap.size _ _ (0, 0) _ rfl (blk_set (blk_set (blk_set (blk_set (blk_set HG.out 0 _) 1 _) 2 _) 3 _) 4 _) Try.underlying106 rfl infoStart) rfl ?_
      exact ⟨ret_eq (by rw [HVV.out]; rfl), below_set (below_set (below_set (below_set (below_set HB.out (Nat.le_refl _)) (Nat.le_refl _)) (Nat.le_refl _)) (Nat.le_refl _)) (Nat.le_refl _)⟩
    | true =>
      have HW := Lib.hid hw
      by_cases hf : k < 1 ∨ 8 < k ∨ 65536 < n
      · have HVV := Lib.hid (show beginV l = startV 0 0 0 3 by rw [HV.out, if_neg (by rw [hw]; decide), if_pos hf])
        have hcase : (k : Int) < 1 ∨ (¬ (k : Int) < 1 ∧ 8 < (k : Int)) ∨ (¬ (k : Int) < 1 ∧ ¬ 8 < (k : Int) ∧ 65536 < (n : Int)) := by omega
        clear hw hf
        rcases hcase with h1 | ⟨h1, h2⟩ | ⟨h1, h2, h3⟩
        all_goals
          go_enter Try.func62, Try.ntmps62
          go_wp2_with fail
          refine (take_any A c l 0 1 _ hl (HR.out.below (below_alloc (Below.refl _ _) _))).mono ?_
          rintro e w1 ⟨rfl, rfl⟩
          rw [H1.out, O1.out]
          go_wp2_with fail
          refine (take_any A c l 1 8 _ hl (HR.out.below (below_alloc (Below.refl _ _) _))).mono ?_
          rintro e w1 ⟨rfl, rfl⟩
          rw [H2.out, O2.out]
          go_wp2_with fail
          refine (take_any A c l 9 4 _ hl (HR.out.below (below_alloc (Below.refl _ _) _))).mono ?_
          rintro e w1 ⟨rfl, rfl⟩
          rw [H3.out, O3.out]
          go_wp2_with fail
          refine (whole_any A c y _ hyb hy4 hyc (HRY.out.below (below_alloc (below_alloc (Below.refl _ _) _) _))).mono ?_
          rintro e w1 ⟨rfl, hb⟩
          rw [HW.out]
          have HB := Lib.hid (below_then (below_alloc (below_alloc (Below.refl _ _) _) _) (by simp; omega) hb)
          have HG := Lib.hid (blk_below (blk_alloc (blk_new w (.cells #[.int .i64 0, .int .u64 0, .slice none 0 0, .int .i64 0, .int .i64 0] 106)) _) hb)
          have hcc := fun i => blk_cell HG.out i
          have hff := fun i => blk_frozen HG.out i
          have HG2 := Lib.hid (show w1.heap[w.heap.size + 1]? = some (.cells #[.int .i64 k, .int .u64 q, .slice none 0 0, .int .i64 0, .int .i64 n] 106 (0, 0)) from blk_below (by have := blk_new (w.alloc (.cells #[.int .i64 0, .int .u64 0, .slice none 0 0, .int .i64 0, .int .i64 0] 106)) (.cells #[.int .i64 k, .int .u64 q, .slice none 0 0, .int .i64 0, .int .i64 n] 106); simpa using this) hb)
          have hcc2 := fun i => blk_cell HG2.out i
          clear hb
          go_wp2_with fail
          refine bodyPost_ret_by (results_ct rfl _ _ w.heap.size _ _ (0, 0) _ rfl (blk_set (blk_set (blk_set (blk_set (blk_set HG.out 0 _) 1 _) 2 _) 3 _) 4 _) Try.underlying106 rfl infoStart) rfl ?_
          exact ⟨ret_eq (by rw [HVV.out]; rfl), below_set (below_set (below_set (below_set (below_set HB.out (Nat.le_refl _)) (Nat.le_refl _)) (Nat.le_refl _)) (Nat.le_refl _)) (Nat.le_refl _)⟩
      · have HVV := Lib.hid (show beginV l = startV k q n 0 by rw [HV.out, if_neg (by rw [hw]; decide), if_neg hf])
        have h1 : ¬ (k : Int) < 1 := by omega
        have h2 : ¬ 8 < (k : Int) := by omega
        have h3 : ¬ 65536 < (n : Int) := by omega
        clear hw hf
        go_enter Try.func62, Try.ntmps62
        go_wp2_with fail
        refine (take_any A c l 0 1 _ hl (HR.out.below (below_alloc (Below.refl _ _) _))).mono ?_
        rintro e w1 ⟨rfl, rfl⟩
        rw [H1.out, O1.out]
        go_wp2_with fail
        refine (take_any A c l 1 8 _ hl (HR.out.below (below_alloc (Below.refl _ _) _))).mono ?_
        rintro e w1 ⟨rfl, rfl⟩
        rw [H2.out, O2.out]
        go_wp2_with fail
        refine (take_any A c l 9 4 _ hl (HR.out.below (below_alloc (Below.refl _ _) _))).mono ?_
        rintro e w1 ⟨rfl, rfl⟩
        rw [H3.out, O3.out]
        go_wp2_with fail
        refine (whole_any A c y _ hyb hy4 hyc (HRY.out.below (below_alloc (below_alloc (Below.refl _ _) _) _))).mono ?_
        rintro e w1 ⟨rfl, hb⟩
        rw [HW.out]
        have HB := Lib.hid (below_then (below_alloc (below_alloc (Below.refl _ _) _) _) (by simp; omega) hb)
        have HG := Lib.hid (blk_below (blk_alloc (blk_new w (.cells #[.int .i64 0, .int .u64 0, .slice none 0 0, .int .i64 0, .int .i64 0] 106)) _) hb)
        have hcc := fun i => blk_cell HG.out i
        have hff := fun i => blk_frozen HG.out i
        have HG2 := Lib.hid (show w1.heap[w.heap.size + 1]? = some (.cells #[.int .i64 k, .int .u64 q, .slice none 0 0, .int .i64 0, .int .i64 n] 106 (0, 0)) from blk_below (by have := blk_new (w.alloc (.cells #[.int .i64 0, .int .u64 0, .slice none 0 0, .int .i64 0, .int .i64 0] 106)) (.cells #[.int .i64 k, .int .u64 q, .slice none 0 0, .int .i64 0, .int .i64 n] 106); simpa using this) hb)
        have hcc2 := fun i => blk_cell HG2.out i
        clear hb
        go_wp2_with fail
        refine bodyPost_ret_by (results_ct rfl _ _ w.heap.size _ _ (0, 0) _ rfl (blk_set (blk_set (blk_set (blk_set (blk_set HG.out 0 _) 1 _) 2 _) 3 _) 4 _) Try.underlying106 rfl infoStart) rfl ?_
        exact ⟨ret_eq (by rw [HVV.out]; rfl), below_set (below_set (below_set (below_set (below_set HB.out (Nat.le_refl _)) (Nat.le_refl _)) (Nat.le_refl _)) (Nat.le_refl _)) (Nat.le_refl _)⟩
end Go.Proofs.Ytceldlijbehkdaa.Fr
