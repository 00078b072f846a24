/- score: the walks of odd, minus, Order; stillageref07: rank, Order. -/
import Derived.Test.YtkgbimkjpllakaaBase
import Derived.Test.YtkgbimkjpllakaaFlo
import Derived.Laws.FloatArith
import Derived.WalkLawsBesides
set_option linter.unusedVariables false
set_option linter.unusedSimpArgs false
namespace Go.Proofs.Ytkgbimkjpllakaa.Sc
open Go.RowKit Go.Proofs.YtkgbimkjpllakaaW.PrintWords Go.Proofs.Ytkgbimkjpllakaa.B

theorem ord (a b : Nat) : FloatKind.f64.format.order a b = Flo.fcmp a b := Flo.order_eq a b
theorem fcmp_nan {a b : Nat} (h : Flo.nan a = true ∨ Flo.nan b = true) : Flo.fcmp a b = none := by
  unfold Flo.fcmp; rcases h with h | h <;> rw [h] <;> simp
theorem fcmp_num {a b : Nat} (ha : Flo.nan a = false) (hb : Flo.nan b = false) : Flo.fcmp a b = some (compare (Flo.key a) (Flo.key b)) := by
  unfold Flo.fcmp; rw [ha, hb]; rfl
theorem cmp_lt {x y : Int} (h : x < y) : compare x y = .lt := by simp only [compare, compareOfLessAndEq]; rw [if_pos h]
theorem cmp_gt {x y : Int} (h : y < x) : compare x y = .gt := by simp only [compare, compareOfLessAndEq]; rw [if_neg (by omega), if_neg (by omega)]
theorem cmp_eq {x y : Int} (h : x = y) : compare x y = .eq := by simp only [compare, compareOfLessAndEq]; rw [if_neg (by omega), if_pos h]
theorem nan0 : Flo.nan 0 = false := by decide
theorem key0 : Flo.key 0 = 0 := by decide
theorem odd_any (b : Nat) (w : World) : Calls Try.prog 65 #[.float .f64 b] w (Still (.bool (Flo.nan b)) w) := by
  have h := ord b b
  cases hn : Flo.nan b with
  | true =>
    rw [fcmp_nan (.inl hn)] at h
    go_enter Try.func65, Try.ntmps65
    go_wp2
    go_ret
    exact ⟨rfl, rfl⟩
  | false =>
    rw [fcmp_num hn hn, cmp_eq rfl] at h
    go_enter Try.func65, Try.ntmps65
    go_wp2
    go_ret
    exact ⟨rfl, rfl⟩
theorem inv_pos : floatBits .quo .f64 4607182418800017408 0 = some 9218868437227405312 := by decide +kernel
theorem inv_neg : floatBits .quo .f64 4607182418800017408 9223372036854775808 = some 18442240474082181120 := by decide +kernel
theorem zero_of {b : Nat} (hb : b < 18446744073709551616) (h : Flo.rg b = 0) : (b = 0 ∧ Flo.sg b = false) ∨ (b = 9223372036854775808 ∧ Flo.sg b = true) := by
  unfold Flo.rg Flo.S at h
  have : b = 0 ∨ b = 9223372036854775808 := by omega
  rcases this with rfl | rfl
  · left; decide
  · right; decide
theorem minus_facts (b : Nat) (hb : b < 18446744073709551616) (h0 : Flo.rg b = 0) : ∃ r, floatBits .quo .f64 4607182418800017408 b = some r ∧ FloatKind.f64.format.order r 0 = some (if Flo.sg b then .lt else .gt) := by
  rcases zero_of hb h0 with ⟨rfl, hs⟩ | ⟨rfl, hs⟩
  · exact ⟨_, inv_pos, by rw [ord, hs]; decide⟩
  · exact ⟨_, inv_neg, by rw [ord, hs]; decide⟩
set_option maxRecDepth 100000 in
theorem minus_any (b : Nat) (w : World) (hb : b < 18446744073709551616) (h0 : Flo.rg b = 0) : Calls Try.prog 66 #[.float .f64 b] w (Still (.bool (Flo.sg b)) w) := by
  obtain ⟨r, hr, ho⟩ := minus_facts b hb h0
  have hq := fun (W : World) => run_float_arith (P := Try.prog) W .quo 50 .f64 4607182418800017408 b r hr
  clear hb h0 hr
  cases hs : Flo.sg b
  all_goals rw [hs] at ho
  · rw [if_neg (by decide)] at ho
    clear hs
    go_enter Try.func66, Try.ntmps66
    go_wp2
    go_ret
    exact ⟨rfl, rfl⟩
  · rw [if_pos rfl] at ho
    clear hs
    go_enter Try.func66, Try.ntmps66
    go_wp2
    go_ret
    exact ⟨rfl, rfl⟩
theorem key_zero {b : Nat} : Flo.key b = 0 ↔ Flo.rg b = 0 := by
  unfold Flo.key; cases Flo.sg b <;> simp <;> omega
theorem rg_of_key {a b : Nat} (h : Flo.key a = Flo.key b) (h0 : Flo.key a ≠ 0) : Flo.rg a = Flo.rg b ∧ Flo.sg a = Flo.sg b := by
  unfold Flo.key at h h0
  revert h h0
  cases Flo.sg a <;> cases Flo.sg b <;> simp only [Bool.false_eq_true, if_false, if_true] <;> intro h h0
  · exact ⟨by omega, trivial⟩
  · omega
  · omega
  · exact ⟨by omega, trivial⟩
/-- how the order says it -/
theorem ordN_cases (a b : Nat) : (Flo.nan a = true ∧ Flo.nan b = true ∧ Flo.ordN a b = 0) ∨ (Flo.nan a = true ∧ Flo.nan b = false ∧ Flo.ordN a b = 1) ∨ (Flo.nan a = false ∧ Flo.nan b = true ∧ Flo.ordN a b = -1) ∨
    (Flo.nan a = false ∧ Flo.nan b = false ∧ Flo.key b < Flo.key a ∧ Flo.ordN a b = 1) ∨ (Flo.nan a = false ∧ Flo.nan b = false ∧ Flo.key a < Flo.key b ∧ Flo.ordN a b = -1) ∨
    (Flo.nan a = false ∧ Flo.nan b = false ∧ Flo.key a = Flo.key b ∧ Flo.key a ≠ 0 ∧ Flo.ordN a b = 0) ∨
    (Flo.nan a = false ∧ Flo.nan b = false ∧ Flo.rg a = 0 ∧ Flo.rg b = 0 ∧ Flo.ordN a b = (if Flo.sg a == Flo.sg b then 0 else if Flo.sg a then -1 else 1)) := by
  have hra : ∀ x, Flo.nan x = false → Flo.rg x ≤ 9218868437227405312 := by
    intro x h; unfold Flo.nan Flo.I at h; have := of_decide_eq_false h; omega
  cases ha : Flo.nan a <;> cases hb : Flo.nan b
  · have h1 := hra a ha
    have h2 := hra b hb
    rcases Int.lt_trichotomy (Flo.key a) (Flo.key b) with h | h | h
    · refine .inr (.inr (.inr (.inr (.inl ⟨rfl, rfl, h, ?_⟩))))
      unfold Flo.ordN Flo.pl; rw [ha, hb]
      unfold Flo.key at h
      revert h
      cases Flo.sg a <;> cases Flo.sg b <;> simp only [Bool.false_eq_true, if_false, if_true] <;> intro h <;> rw [if_pos (by omega)]
    · by_cases h0 : Flo.key a = 0
      · refine .inr (.inr (.inr (.inr (.inr (.inr ⟨rfl, rfl, key_zero.1 h0, key_zero.1 (h ▸ h0), ?_⟩)))))
        have e1 := key_zero.1 h0
        have e2 := key_zero.1 (h ▸ h0)
        unfold Flo.ordN Flo.pl
        rw [ha, hb, e1, e2]
        cases Flo.sg a <;> cases Flo.sg b <;> rfl
      · refine .inr (.inr (.inr (.inr (.inr (.inl ⟨rfl, rfl, h, h0, ?_⟩)))))
        obtain ⟨e1, e2⟩ := rg_of_key h h0
        unfold Flo.ordN Flo.pl
        rw [ha, hb, e1, e2]
        simp
    · refine .inr (.inr (.inr (.inl ⟨rfl, rfl, h, ?_⟩)))
      unfold Flo.ordN Flo.pl; rw [ha, hb]
      unfold Flo.key at h
      revert h
      cases Flo.sg a <;> cases Flo.sg b <;> simp only [Bool.false_eq_true, if_false, if_true] <;> intro h <;> rw [if_neg (by omega), if_pos (by omega)]
  · refine .inr (.inr (.inl ⟨rfl, rfl, ?_⟩))
    have h1 := hra a ha
    unfold Flo.ordN Flo.pl; rw [ha, hb]
    cases Flo.sg a <;> simp only [Bool.false_eq_true, if_false, if_true] <;> rw [if_pos (by omega)]
  · refine .inr (.inl ⟨rfl, rfl, ?_⟩)
    have h1 := hra b hb
    unfold Flo.ordN Flo.pl; rw [ha, hb]
    cases Flo.sg b <;> simp only [Bool.false_eq_true, if_false, if_true] <;> rw [if_neg (by omega), if_pos (by omega)]
  · refine .inl ⟨rfl, rfl, ?_⟩
    unfold Flo.ordN Flo.pl; rw [ha, hb]; simp
set_option maxRecDepth 100000 in
set_option maxHeartbeats 800000 in
theorem order_any (a b : Nat) (w : World) (hla : a < 18446744073709551616) (hlb : b < 18446744073709551616) : Calls Try.prog 63 #[.float .f64 a, .float .f64 b] w (Still (.int .i64 (Flo.ordN a b)) w) := by
  have Ha := Lib.hid (odd_any a w)
  have Hb := Lib.hid (odd_any b w)
  have hab := ord a b
  have ha0 := ord a 0
  have Ma := Lib.hid (fun h => minus_any a w hla h)
  have Mb := Lib.hid (fun h => minus_any b w hlb h)
  clear hla hlb
  rcases ordN_cases a b with ⟨h1, h2, h3⟩ | ⟨h1, h2, h3⟩ | ⟨h1, h2, h3⟩ | ⟨h1, h2, h4, h3⟩ | ⟨h1, h2, h4, h3⟩ | ⟨h1, h2, h4, h5, h3⟩ | ⟨h1, h2, h4, h5, h3⟩
  all_goals rw [h1] at Ha
  all_goals rw [h2] at Hb
  all_goals rw [h3]
  · rw [fcmp_nan (.inl h1)] at hab ha0
    clear h1 h2 h3 Ma Mb
    go_enter Try.func63, Try.ntmps63
    go_wp2_with (first | (go_at_call 65; refine Ha.out.mono ?_; rintro e w1 ⟨rfl, rfl⟩) | (go_at_call 65; refine Hb.out.mono ?_; rintro e w1 ⟨rfl, rfl⟩))
    go_ret
    exact ⟨rfl, rfl⟩
  · rw [fcmp_nan (.inl h1)] at hab ha0
    clear h1 h2 h3 Ma Mb
    go_enter Try.func63, Try.ntmps63
    go_wp2_with (first | (go_at_call 65; refine Ha.out.mono ?_; rintro e w1 ⟨rfl, rfl⟩) | (go_at_call 65; refine Hb.out.mono ?_; rintro e w1 ⟨rfl, rfl⟩))
    go_ret
    exact ⟨rfl, rfl⟩
  · rw [fcmp_nan (.inr h2)] at hab
    clear h1 h2 h3 Ma Mb ha0
    go_enter Try.func63, Try.ntmps63
    go_wp2_with (first | (go_at_call 65; refine Ha.out.mono ?_; rintro e w1 ⟨rfl, rfl⟩) | (go_at_call 65; refine Hb.out.mono ?_; rintro e w1 ⟨rfl, rfl⟩))
    go_ret
    exact ⟨rfl, rfl⟩
  · rw [fcmp_num h1 h2, cmp_gt h4] at hab
    clear h1 h2 h3 h4 Ma Mb ha0
    go_enter Try.func63, Try.ntmps63
    go_wp2_with (first | (go_at_call 65; refine Ha.out.mono ?_; rintro e w1 ⟨rfl, rfl⟩) | (go_at_call 65; refine Hb.out.mono ?_; rintro e w1 ⟨rfl, rfl⟩))
    go_ret
    exact ⟨rfl, rfl⟩
  · rw [fcmp_num h1 h2, cmp_lt h4] at hab
    clear h1 h2 h3 h4 Ma Mb ha0
    go_enter Try.func63, Try.ntmps63
    go_wp2_with (first | (go_at_call 65; refine Ha.out.mono ?_; rintro e w1 ⟨rfl, rfl⟩) | (go_at_call 65; refine Hb.out.mono ?_; rintro e w1 ⟨rfl, rfl⟩))
    go_ret
    exact ⟨rfl, rfl⟩
  · rw [fcmp_num h1 h2, cmp_eq h4] at hab
    have hne : (FloatKind.f64.format.order a 0 != some Ordering.eq) = true := by
      rw [ha0, fcmp_num h1 nan0, key0]
      rcases Int.lt_or_gt_of_ne h5 with h | h
      · rw [cmp_lt h]; rfl
      · rw [cmp_gt h]; rfl
    clear h1 h2 h3 h4 h5 Ma Mb ha0
    go_enter Try.func63, Try.ntmps63
    go_wp2_with (first | (go_at_call 65; refine Ha.out.mono ?_; rintro e w1 ⟨rfl, rfl⟩) | (go_at_call 65; refine Hb.out.mono ?_; rintro e w1 ⟨rfl, rfl⟩))
    go_ret
    exact ⟨rfl, rfl⟩
  · have Ma2 := Lib.hid (Ma.out h4)
    have Mb2 := Lib.hid (Mb.out h5)
    rw [fcmp_num h1 h2, cmp_eq ((key_zero.2 h4).trans (key_zero.2 h5).symm)] at hab
    rw [fcmp_num h1 nan0, cmp_eq ((key_zero.2 h4).trans key0.symm)] at ha0
    clear h1 h2 h3 h4 h5 Ma Mb
    generalize Flo.sg a = sa at *
    generalize Flo.sg b = sb at *
    cases sa <;> cases sb
    all_goals
      go_enter Try.func63, Try.ntmps63
      go_wp2_with (first | (go_at_call 65; refine Ha.out.mono ?_; rintro e w1 ⟨rfl, rfl⟩) | (go_at_call 65; refine Hb.out.mono ?_; rintro e w1 ⟨rfl, rfl⟩) | (go_at_call 66; refine Ma2.out.mono ?_; rintro e w1 ⟨rfl, rfl⟩) | (go_at_call 66; refine Mb2.out.mono ?_; rintro e w1 ⟨rfl, rfl⟩))
      go_ret
      exact ⟨rfl, rfl⟩
end Go.Proofs.Ytkgbimkjpllakaa.Sc
