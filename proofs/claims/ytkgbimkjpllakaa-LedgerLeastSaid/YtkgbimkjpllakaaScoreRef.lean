/- stillageref07: the walks of rank, Order. -/
import Derived.Test.YtkgbimkjpllakaaScore
set_option linter.unusedVariables false
set_option linter.unusedSimpArgs false
namespace Go.Proofs.Ytkgbimkjpllakaa.Sc
open Go.RowKit Go.Proofs.YtkgbimkjpllakaaW.PrintWords Go.Proofs.Ytkgbimkjpllakaa.B

theorem rank_bd (b : Nat) : 0 ≤ Flo.rankN b ∧ Flo.rankN b ≤ 6 := by
  unfold Flo.rankN; repeat' split
  all_goals omega
theorem mul_two {b r : Nat} (h : Ieee.double.mul b 4611686018427387904 = some r) : floatBits .mul .f64 b 4611686018427387904 = some r := h
set_option maxRecDepth 100000 in
set_option maxHeartbeats 800000 in
theorem rank_any (b : Nat) (w : World) (hb : b < 18446744073709551616) : Calls Try.prog 58 #[.float .f64 b] w (Still (.int .i64 (Flo.rankN b)) w) := by
  have hbb := ord b b
  have hb0 := ord b 0
  cases hn : Flo.nan b
  · rw [fcmp_num hn hn, cmp_eq rfl] at hbb
    have hI : Flo.rg b ≤ Flo.I := by unfold Flo.nan at hn; have := of_decide_eq_false hn; omega
    by_cases h0 : Flo.rg b = 0
    · obtain ⟨r, hr, ho⟩ := minus_facts b hb h0
      have hq := fun (W : World) => run_float_arith (P := Try.prog) W .quo 50 .f64 4607182418800017408 b r hr
      rw [fcmp_num hn nan0, cmp_eq ((key_zero.2 h0).trans key0.symm)] at hb0
      cases hs : Flo.sg b
      · have HR := Lib.hid (show Flo.rankN b = 3 by unfold Flo.rankN; rw [hn, h0, hs]; rfl)
        rw [hs, if_neg (by decide)] at ho
        clear hb h0 hr hn hs hI
        go_enter Try.func58, Try.ntmps58
        go_wp2
        go_ret
        exact ⟨ret_eq (by rw [HR.out]; rfl), rfl⟩
      · have HR := Lib.hid (show Flo.rankN b = 2 by unfold Flo.rankN; rw [hn, h0, hs]; rfl)
        rw [hs, if_pos rfl] at ho
        clear hb h0 hr hn hs hI
        go_enter Try.func58, Try.ntmps58
        go_wp2
        go_ret
        exact ⟨ret_eq (by rw [HR.out]; rfl), rfl⟩
    · have hk0 : Flo.key b ≠ 0 := fun h => h0 (key_zero.1 h)
      rw [fcmp_num hn nan0, key0] at hb0
      obtain ⟨r, hr, hd⟩ : ∃ r, Ieee.double.mul b 4611686018427387904 = some r ∧ (FloatKind.f64.format.order b r == some .eq) = decide (Flo.rg b = Flo.I) := by
        rcases Nat.lt_or_ge (Flo.rg b) Flo.I with h | h
        · obtain ⟨r, h1, h2⟩ := Flo.double_ne h0 h
          refine ⟨r, h1, ?_⟩
          rw [ord, decide_eq_false (by omega)]
          simpa using h2
        · obtain ⟨r, h1, h2⟩ := Flo.double_inf (b := b) (by omega)
          refine ⟨r, h1, ?_⟩
          rw [ord, decide_eq_true (by omega), h2]; rfl
      have hq := fun (W : World) => run_float_arith (P := Try.prog) W .mul 50 .f64 b 4611686018427387904 r (mul_two hr)
      by_cases hi : Flo.rg b = Flo.I
      · rw [decide_eq_true hi] at hd
        cases hs : Flo.sg b
        · have HR := Lib.hid (show Flo.rankN b = 5 by unfold Flo.rankN; rw [hn, if_neg (by simp), if_neg h0, if_pos hi, hs]; rfl)
          rw [cmp_gt (show 0 < Flo.key b by unfold Flo.key at *; rw [hs] at *; simp at *; omega)] at hb0
          clear hb h0 hr hn hs hI hi hk0
          go_enter Try.func58, Try.ntmps58
          go_wp2
          go_ret
          exact ⟨ret_eq (by rw [HR.out]; rfl), rfl⟩
        · have HR := Lib.hid (show Flo.rankN b = 0 by unfold Flo.rankN; rw [hn, if_neg (by simp), if_neg h0, if_pos hi, hs]; rfl)
          rw [cmp_lt (show Flo.key b < 0 by unfold Flo.key at *; rw [hs] at *; simp at *; omega)] at hb0
          clear hb h0 hr hn hs hI hi hk0
          go_enter Try.func58, Try.ntmps58
          go_wp2
          go_ret
          exact ⟨ret_eq (by rw [HR.out]; rfl), rfl⟩
      · rw [decide_eq_false hi] at hd
        cases hs : Flo.sg b
        · have HR := Lib.hid (show Flo.rankN b = 4 by unfold Flo.rankN; rw [hn, if_neg (by simp), if_neg h0, if_neg hi, hs]; rfl)
          rw [cmp_gt (show 0 < Flo.key b by unfold Flo.key at *; rw [hs] at *; simp at *; omega)] at hb0
          clear hb h0 hr hn hs hI hi hk0
          go_enter Try.func58, Try.ntmps58
          go_wp2
          go_ret
          exact ⟨ret_eq (by rw [HR.out]; rfl), rfl⟩
        · have HR := Lib.hid (show Flo.rankN b = 1 by unfold Flo.rankN; rw [hn, if_neg (by simp), if_neg h0, if_neg hi, hs]; rfl)
          rw [cmp_lt (show Flo.key b < 0 by unfold Flo.key at *; rw [hs] at *; simp at *; omega)] at hb0
          clear hb h0 hr hn hs hI hi hk0
          go_enter Try.func58, Try.ntmps58
          go_wp2
          go_ret
          exact ⟨ret_eq (by rw [HR.out]; rfl), rfl⟩
  · rw [fcmp_nan (.inl hn)] at hbb hb0
    have HR := Lib.hid (show Flo.rankN b = 6 by unfold Flo.rankN; rw [hn]; rfl)
    clear hn hb
    go_enter Try.func58, Try.ntmps58
    go_wp2
    go_ret
    exact ⟨ret_eq (by rw [HR.out]; rfl), rfl⟩
def refN (x y : Int) (p q : Bool) : Int := if x < y then -1 else if x = y then (if p then -1 else if q then 1 else 0) else 1
theorem rank_le {a b : Nat} (ha : Flo.nan a = false) (hb : Flo.nan b = false) (h : Flo.key b < Flo.key a) : Flo.rankN b ≤ Flo.rankN a := by
  have h1 : Flo.rg a ≤ Flo.I := by unfold Flo.nan at ha; have := of_decide_eq_false ha; omega
  have h2 : Flo.rg b ≤ Flo.I := by unfold Flo.nan at hb; have := of_decide_eq_false hb; omega
  have hI : Flo.I = 9218868437227405312 := rfl
  unfold Flo.key at h
  unfold Flo.rankN
  rw [ha, hb]
  revert h
  cases Flo.sg a <;> cases Flo.sg b <;> simp only [Bool.false_eq_true, if_false, if_true] <;> intro h <;> repeat' split
  all_goals omega
theorem refN_eq (a b : Nat) : refN (Flo.rankN a) (Flo.rankN b) (Flo.fcmp a b == some .lt) (Flo.fcmp a b == some .gt) = Flo.ordN a b := by
  have r6 : ∀ x, Flo.nan x = true → Flo.rankN x = 6 := by intro x h; unfold Flo.rankN; rw [h]; rfl
  have r5 : ∀ x, Flo.nan x = false → Flo.rankN x ≤ 5 := by
    intro x h; unfold Flo.rankN; rw [h]; repeat' split
    all_goals first | omega | contradiction
  rcases ordN_cases a b with ⟨h1, h2, h3⟩ | ⟨h1, h2, h3⟩ | ⟨h1, h2, h3⟩ | ⟨h1, h2, h4, h3⟩ | ⟨h1, h2, h4, h3⟩ | ⟨h1, h2, h4, h5, h3⟩ | ⟨h1, h2, h4, h5, h3⟩
  all_goals rw [h3]; unfold refN
  · rw [r6 a h1, r6 b h2, fcmp_nan (.inl h1)]; decide
  · have := r5 b h2
    rw [r6 a h1, if_neg (by omega), if_neg (by omega)]
  · have := r5 a h1
    rw [r6 b h2, if_pos (by omega)]
  · have h := rank_le h1 h2 h4
    rw [fcmp_num h1 h2, cmp_gt h4, if_neg (by omega)]
    split <;> rfl
  · have h := rank_le h2 h1 h4
    rw [fcmp_num h1 h2, cmp_lt h4]
    split
    · rfl
    · rw [if_pos (by omega)]; rfl
  · obtain ⟨e1, e2⟩ := rg_of_key h4 h5
    have e : Flo.rankN a = Flo.rankN b := by unfold Flo.rankN; rw [h1, h2, e1, e2]
    rw [fcmp_num h1 h2, cmp_eq h4, e, if_neg (by omega), if_pos rfl]; rfl
  · rw [fcmp_num h1 h2, cmp_eq ((key_zero.2 h4).trans (key_zero.2 h5).symm)]
    unfold Flo.rankN
    rw [h1, h2, h4, h5]
    cases Flo.sg a <;> cases Flo.sg b <;> decide
set_option maxRecDepth 100000 in
set_option maxHeartbeats 800000 in
theorem reforder_any (a b : Nat) (w : World) (hla : a < 18446744073709551616) (hlb : b < 18446744073709551616) : Calls Try.prog 36 #[.float .f64 a, .float .f64 b] w (Still (.int .i64 (Flo.ordN a b)) w) := by
  have Ha := Lib.hid (rank_any a w hla)
  have Hb := Lib.hid (rank_any b w hlb)
  have HN := Lib.hid (refN_eq a b)
  have ba := rank_bd a
  have bb := rank_bd b
  obtain ⟨p, hp⟩ : ∃ p, (FloatKind.f64.format.order a b == some .lt) = p := ⟨_, rfl⟩
  obtain ⟨q, hq⟩ : ∃ q, (FloatKind.f64.format.order a b == some .gt) = q := ⟨_, rfl⟩
  rw [← ord, hp, hq] at HN
  clear hla hlb
  generalize Flo.rankN a = x at *
  generalize Flo.rankN b = y at *
  have harms : x < y ∨ x = y ∨ y < x := Int.lt_trichotomy x y
  rcases harms with h | h | h
  · have HV := Lib.hid (show Flo.ordN a b = -1 by rw [← HN.out]; unfold refN; rw [if_pos h])
    go_enter Try.func36, Try.ntmps36
    go_wp2_with fail
    refine Ha.out.mono ?_; rintro e w1 ⟨rfl, rfl⟩
    go_wp2_with fail
    refine Hb.out.mono ?_; rintro e w1 ⟨rfl, rfl⟩
    go_wp2
    go_ret
    exact ⟨ret_eq (by rw [HV.out]; rfl), rfl⟩
  · subst h
    cases p
    · cases q
      · have HV := Lib.hid (show Flo.ordN a b = 0 by rw [← HN.out]; unfold refN; rw [if_neg (by omega), if_pos rfl]; rfl)
        go_enter Try.func36, Try.ntmps36
        go_wp2_with fail
        refine Ha.out.mono ?_; rintro e w1 ⟨rfl, rfl⟩
        go_wp2_with fail
        refine Hb.out.mono ?_; rintro e w1 ⟨rfl, rfl⟩
        go_wp2
        go_ret
        exact ⟨ret_eq (by rw [HV.out]; rfl), rfl⟩
      · have HV := Lib.hid (show Flo.ordN a b = 1 by rw [← HN.out]; unfold refN; rw [if_neg (by omega), if_pos rfl]; rfl)
        go_enter Try.func36, Try.ntmps36
        go_wp2_with fail
        refine Ha.out.mono ?_; rintro e w1 ⟨rfl, rfl⟩
        go_wp2_with fail
        refine Hb.out.mono ?_; rintro e w1 ⟨rfl, rfl⟩
        go_wp2
        go_ret
        exact ⟨ret_eq (by rw [HV.out]; rfl), rfl⟩
    · have HV := Lib.hid (show Flo.ordN a b = -1 by rw [← HN.out]; unfold refN; rw [if_neg (by omega), if_pos rfl]; rfl)
      go_enter Try.func36, Try.ntmps36
      go_wp2_with fail
      refine Ha.out.mono ?_; rintro e w1 ⟨rfl, rfl⟩
      go_wp2_with fail
      refine Hb.out.mono ?_; rintro e w1 ⟨rfl, rfl⟩
      go_wp2
      go_ret
      exact ⟨ret_eq (by rw [HV.out]; rfl), rfl⟩
  · have HV := Lib.hid (show Flo.ordN a b = 1 by rw [← HN.out]; unfold refN; rw [if_neg (by omega), if_neg (by omega)])
    go_enter Try.func36, Try.ntmps36
    go_wp2_with fail
    refine Ha.out.mono ?_; rintro e w1 ⟨rfl, rfl⟩
    go_wp2_with fail
    refine Hb.out.mono ?_; rintro e w1 ⟨rfl, rfl⟩
    go_wp2
    go_ret
    exact ⟨ret_eq (by rw [HV.out]; rfl), rfl⟩
end Go.Proofs.Ytkgbimkjpllakaa.Sc
