/- stillagelaw07: the walk of ScoreOrder. -/
import Derived.Test.YtcgjngcogdmbaaaScoreShare
set_option linter.unusedVariables false
set_option linter.unusedSimpArgs false
namespace Go.Proofs.Ytcgjngcogdmbaaa.Sc
open Go.RowKit Go.Proofs.YtcgjngcogdmbaaaW.PrintWords Go.Proofs.Ytcgjngcogdmbaaa.B

theorem ordN_three (a b : Nat) : Flo.ordN a b = -1 ∨ Flo.ordN a b = 0 ∨ Flo.ordN a b = 1 := by
  unfold Flo.ordN; repeat' split
  all_goals simp
theorem ordN_neg (a b : Nat) : Flo.ordN b a = -Flo.ordN a b := by
  unfold Flo.ordN
  rcases Int.lt_trichotomy (Flo.pl a) (Flo.pl b) with h | h | h
  · rw [if_neg (by omega), if_pos h, if_pos h]; rfl
  · rw [if_neg (by omega), if_neg (by omega), if_neg (by omega), if_neg (by omega)]; rfl
  · rw [if_pos h, if_neg (by omega), if_pos h]
theorem ordN_trans {a b c : Nat} (h : Flo.ordN a b ≤ 0) (k : Flo.ordN b c ≤ 0) : Flo.ordN a c ≤ 0 := by
  have le : ∀ x y, Flo.ordN x y ≤ 0 ↔ Flo.pl x ≤ Flo.pl y := by
    intro x y
    unfold Flo.ordN
    repeat' split
    all_goals omega
  rw [le] at *
  omega
theorem lt_ordN {a b : Nat} (h : 0 ≤ Flo.ordN a b) : (FloatKind.f64.format.order a b == some .lt) = false := by
  rw [ord]
  rcases ordN_cases a b with ⟨h1, h2, h3⟩ | ⟨h1, h2, h3⟩ | ⟨h1, h2, h3⟩ | ⟨h1, h2, h4, h3⟩ | ⟨h1, h2, h4, h3⟩ | ⟨h1, h2, h4, h5, h3⟩ | ⟨h1, h2, h4, h5, h3⟩
  · rw [fcmp_nan (.inl h1)]; rfl
  · rw [fcmp_nan (.inl h1)]; rfl
  · rw [fcmp_nan (.inr h2)]; rfl
  · rw [fcmp_num h1 h2, cmp_gt h4]; rfl
  · rw [h3] at h; omega
  · rw [fcmp_num h1 h2, cmp_eq h4]; rfl
  · rw [fcmp_num h1 h2, cmp_eq ((key_zero.2 h4).trans (key_zero.2 h5).symm)]; rfl
set_option maxRecDepth 100000 in
set_option maxHeartbeats 1600000 in
theorem scoreorder_any (a b c : Nat) (w : World) (ha : a < 18446744073709551616) (hb : b < 18446744073709551616) (hc : c < 18446744073709551616) :
    Calls Try.prog 5 #[.float .f64 a, .float .f64 b, .float .f64 c] w (Kept (.bool true) w) := by
  have H1 := Lib.hid (order_any a b w ha hb)
  have H2 := Lib.hid (reforder_any a b w ha hb)
  have H3 := Lib.hid (order_any b a w hb ha)
  have H4 := Lib.hid (order_any b c w hb hc)
  have H5 := Lib.hid (order_any a c w ha hc)
  rw [ordN_neg a b] at H3
  have HT := Lib.hid (@ordN_trans a b c)
  have HL := Lib.hid (@lt_ordN a b)
  have c1 := ordN_three a b
  have c2 := ordN_three b c
  have c3 := ordN_three a c
  obtain ⟨p, hp⟩ : ∃ p, (FloatKind.f64.format.order a b == some .lt) = p := ⟨_, rfl⟩
  rw [hp] at HL
  clear ha hb hc
  generalize Flo.ordN a b = x at *
  generalize Flo.ordN b c = z at *
  generalize Flo.ordN a c = t at *
  have fin : ∀ {e : Ending} {w' : World}, Quiet (.bool true) w e w' → Kept (.bool true) w e w' := by
    rintro e w' ⟨h, n, rfl⟩; exact ⟨h, pw_below_drewN (Below.refl _ _) n⟩
  rcases c1 with rfl | rfl | rfl
  · rcases c2 with rfl | rfl | rfl
    · have c4 : t = -1 ∨ t = 0 := by have := HT.out (by omega) (by omega); omega
      clear c3
      cases p <;> rcases c4 with rfl | rfl
      all_goals
        go_enter Try.func5, Try.ntmps5
        go_wp2_with fail
        refine H1.out.mono ?_; rintro e w1 ⟨rfl, rfl⟩
        go_wp2_with fail
        refine H2.out.mono ?_; rintro e w1 ⟨rfl, rfl⟩
        go_wp2_with fail
        refine H3.out.mono ?_; rintro e w1 ⟨rfl, rfl⟩
        go_wp2_with fail
        refine H4.out.mono ?_; rintro e w1 ⟨rfl, rfl⟩
        go_wp2_with fail
        refine H5.out.mono ?_; rintro e w1 ⟨rfl, rfl⟩
        go_wp2_with fail
        refine (lives_any _).mono ?_; rintro e w1 ⟨rfl, n, rfl⟩
        go_wp2_with fail
        go_ret
        exact ⟨rfl, pw_below_drewN (Below.refl _ _) n⟩
    · have c4 : t = -1 ∨ t = 0 := by have := HT.out (by omega) (by omega); omega
      clear c3
      cases p <;> rcases c4 with rfl | rfl
      all_goals
        go_enter Try.func5, Try.ntmps5
        go_wp2_with fail
        refine H1.out.mono ?_; rintro e w1 ⟨rfl, rfl⟩
        go_wp2_with fail
        refine H2.out.mono ?_; rintro e w1 ⟨rfl, rfl⟩
        go_wp2_with fail
        refine H3.out.mono ?_; rintro e w1 ⟨rfl, rfl⟩
        go_wp2_with fail
        refine H4.out.mono ?_; rintro e w1 ⟨rfl, rfl⟩
        go_wp2_with fail
        refine H5.out.mono ?_; rintro e w1 ⟨rfl, rfl⟩
        go_wp2_with fail
        refine (lives_any _).mono ?_; rintro e w1 ⟨rfl, n, rfl⟩
        go_wp2_with fail
        go_ret
        exact ⟨rfl, pw_below_drewN (Below.refl _ _) n⟩
    · clear c3
      cases p
      all_goals
        go_enter Try.func5, Try.ntmps5
        go_wp2_with fail
        refine H1.out.mono ?_; rintro e w1 ⟨rfl, rfl⟩
        go_wp2_with fail
        refine H2.out.mono ?_; rintro e w1 ⟨rfl, rfl⟩
        go_wp2_with fail
        refine H3.out.mono ?_; rintro e w1 ⟨rfl, rfl⟩
        go_wp2_with fail
        refine H4.out.mono ?_; rintro e w1 ⟨rfl, rfl⟩
        go_wp2_with fail
        refine (lives_any _).mono ?_; rintro e w1 ⟨rfl, n, rfl⟩
        go_wp2_with fail
        go_ret
        exact ⟨rfl, pw_below_drewN (Below.refl _ _) n⟩
  · obtain rfl : p = false := HL.out (by omega)
    rcases c2 with rfl | rfl | rfl
    · have c4 : t = -1 ∨ t = 0 := by have := HT.out (by omega) (by omega); omega
      clear c3
      rcases c4 with rfl | rfl
      all_goals
        go_enter Try.func5, Try.ntmps5
        go_wp2_with fail
        refine H1.out.mono ?_; rintro e w1 ⟨rfl, rfl⟩
        go_wp2_with fail
        refine H2.out.mono ?_; rintro e w1 ⟨rfl, rfl⟩
        go_wp2_with fail
        refine H3.out.mono ?_; rintro e w1 ⟨rfl, rfl⟩
        go_wp2_with fail
        refine H4.out.mono ?_; rintro e w1 ⟨rfl, rfl⟩
        go_wp2_with fail
        refine H5.out.mono ?_; rintro e w1 ⟨rfl, rfl⟩
        go_wp2_with fail
        refine (lives_any _).mono ?_; rintro e w1 ⟨rfl, n, rfl⟩
        go_wp2_with fail
        go_ret
        exact ⟨rfl, pw_below_drewN (Below.refl _ _) n⟩
    · have c4 : t = -1 ∨ t = 0 := by have := HT.out (by omega) (by omega); omega
      clear c3
      rcases c4 with rfl | rfl
      all_goals
        go_enter Try.func5, Try.ntmps5
        go_wp2_with fail
        refine H1.out.mono ?_; rintro e w1 ⟨rfl, rfl⟩
        go_wp2_with fail
        refine H2.out.mono ?_; rintro e w1 ⟨rfl, rfl⟩
        go_wp2_with fail
        refine H3.out.mono ?_; rintro e w1 ⟨rfl, rfl⟩
        go_wp2_with fail
        refine H4.out.mono ?_; rintro e w1 ⟨rfl, rfl⟩
        go_wp2_with fail
        refine H5.out.mono ?_; rintro e w1 ⟨rfl, rfl⟩
        go_wp2_with fail
        refine (lives_any _).mono ?_; rintro e w1 ⟨rfl, n, rfl⟩
        go_wp2_with fail
        go_ret
        exact ⟨rfl, pw_below_drewN (Below.refl _ _) n⟩
    · clear c3
      go_enter Try.func5, Try.ntmps5
      go_wp2_with fail
      refine H1.out.mono ?_; rintro e w1 ⟨rfl, rfl⟩
      go_wp2_with fail
      refine H2.out.mono ?_; rintro e w1 ⟨rfl, rfl⟩
      go_wp2_with fail
      refine H3.out.mono ?_; rintro e w1 ⟨rfl, rfl⟩
      go_wp2_with fail
      refine H4.out.mono ?_; rintro e w1 ⟨rfl, rfl⟩
      go_wp2_with fail
      refine (lives_any _).mono ?_; rintro e w1 ⟨rfl, n, rfl⟩
      go_wp2_with fail
      go_ret
      exact ⟨rfl, pw_below_drewN (Below.refl _ _) n⟩
  · obtain rfl : p = false := HL.out (by omega)
    clear c2 c3
    go_enter Try.func5, Try.ntmps5
    go_wp2_with fail
    refine H1.out.mono ?_; rintro e w1 ⟨rfl, rfl⟩
    go_wp2_with fail
    refine H2.out.mono ?_; rintro e w1 ⟨rfl, rfl⟩
    go_wp2_with fail
    refine H3.out.mono ?_; rintro e w1 ⟨rfl, rfl⟩
    go_wp2_with fail
    refine (lives_any _).mono ?_; rintro e w1 ⟨rfl, n, rfl⟩
    go_wp2_with fail
    go_ret
    exact ⟨rfl, pw_below_drewN (Below.refl _ _) n⟩
end Go.Proofs.Ytcgjngcogdmbaaa.Sc
