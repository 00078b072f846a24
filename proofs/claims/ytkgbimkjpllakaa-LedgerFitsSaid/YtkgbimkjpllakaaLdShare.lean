/- score: Share, Below, May; stillageref07: Share; lives; ScoreShares. -/
import Derived.Test.YtkgbimkjpllakaaScoreRef
set_option linter.unusedVariables false
set_option linter.unusedSimpArgs false
namespace Go.Proofs.Ytkgbimkjpllakaa.Sc
open Go.RowKit Go.Proofs.YtkgbimkjpllakaaW.PrintWords Go.Proofs.Ytkgbimkjpllakaa.B

/-- an operation without an answer: some NaN is drawn -/
def nanOf (x y : Nat) (W : World) : Nat := (Question.nanBits .f64 x y).cut (W.tape W.drawn (.nanBits .f64 x y))
theorem nan_arith (u v : Nat) (hu : u < 2 ^ 52 - 1) (hv : v < 2) : 9218868437227405312 < (v * 2 ^ 63 + 0x7ff0000000000000 + 1 + u) % 9223372036854775808 ∧ v * 2 ^ 63 + 0x7ff0000000000000 + 1 + u < 18446744073709551616 := by omega
theorem nanOf_nan (x y : Nat) (W : World) : Flo.nan (nanOf x y W) = true ∧ nanOf x y W < 18446744073709551616 := by
  have h := nan_arith (W.tape W.drawn (.nanBits .f64 x y) / 2 % (2 ^ 52 - 1)) (W.tape W.drawn (.nanBits .f64 x y) % 2) (Nat.mod_lt _ (by decide)) (Nat.mod_lt _ (by decide))
  exact ⟨decide_eq_true h.1, h.2⟩
theorem run_quo_nan (x y : Nat) (h : floatBits .quo .f64 x y = none) (W : World) : (binOp .quo 50 (.float .f64 x) (.float .f64 y)).run Try.prog W = .ok (.float .f64 (nanOf x y W)) W.drew := by
  have h' : FloatKind.f64.format.div x y = none := h
  simp [binOp, Op.floatArith, h', choose]
  rfl
/-- what a share is -/
def IsShare (x y : Nat) (r : Nat) : Prop := r < 18446744073709551616 ∧ (floatBits .quo .f64 x y = some r ∨ (floatBits .quo .f64 x y = none ∧ Flo.nan r = true))
/-- the end: a share; orders drawn -/
def Shared (x y : Nat) (w : World) (e : Ending) (w' : World) : Prop := ∃ r n, e = .returned (.float .f64 r) ∧ IsShare x y r ∧ w' = w.drewN n
theorem quo_lt {x y r : Nat} (h : floatBits .quo .f64 x y = some r) : r < 18446744073709551616 := FloatKind.f64.format.div_lt h
theorem share_any (l a : Int) (w : World) : Calls Try.prog 50 #[.int .i64 l, .int .i64 a] w (Shared (floatOfInt .f64 l) (floatOfInt .f64 a) w) := by
  generalize hx : floatOfInt .f64 l = x
  generalize hy : floatOfInt .f64 a = y
  rcases hq : floatBits .quo .f64 x y with _ | r
  · have hr := run_quo_nan x y hq
    have HQ := Lib.hid hq
    clear hq
    go_enter Try.func50, Try.ntmps50
    go_wp2
    go_ret
    exact ⟨_, 1, rfl, ⟨(nanOf_nan x y w).2, .inr ⟨HQ.out, (nanOf_nan x y w).1⟩⟩, rfl⟩
  · have hr := fun (W : World) => run_float_arith (P := Try.prog) W .quo 50 .f64 x y r hq
    have HQ := Lib.hid hq
    clear hq
    go_enter Try.func50, Try.ntmps50
    go_wp2
    go_ret
    exact ⟨_, 0, rfl, ⟨quo_lt HQ.out, .inl HQ.out⟩, rfl⟩
theorem fi_facts {n : Int} (h : n ≠ 0) : Flo.B ≤ Flo.rg (floatOfInt .f64 n) ∧ Flo.rg (floatOfInt .f64 n) ≤ Flo.I ∧ Flo.sg (floatOfInt .f64 n) = decide (n < 0) := by
  have hm : n.natAbs ≠ 0 := by omega
  obtain ⟨k, hk, e⟩ : ∃ k, Flo.B ≤ k ∧ floatOfInt .f64 n = Ieee.double.word (decide (n < 0)) (min k Flo.I) := by
    refine ⟨(max ((0 : Int) + (n.natAbs.log2 : Nat) - (Ieee.double.fractionBits : Nat)) Ieee.double.leastPlace - Ieee.double.leastPlace).toNat * Ieee.double.binade + Ieee.Toward.even.cut (decide (n < 0)) (n.natAbs <<< ((0 : Int) - max ((0 : Int) + (n.natAbs.log2 : Nat) - (Ieee.double.fractionBits : Nat)) Ieee.double.leastPlace).toNat) (max ((0 : Int) + (n.natAbs.log2 : Nat) - (Ieee.double.fractionBits : Nat)) Ieee.double.leastPlace - 0).toNat, ?_, ?_⟩
    · rw [Flo.lp, Flo.bd, show Ieee.double.fractionBits = 52 from rfl]
      have : 1 ≤ (max ((0 : Int) + (n.natAbs.log2 : Nat) - ((52 : Nat) : Int)) (-1074) - (-1074)).toNat := by omega
      have h2 := Nat.mul_le_mul_right Flo.B this
      omega
    · show Ieee.double.nearest (decide (n < 0)) n.natAbs 0 = _
      unfold Ieee.Format.nearest
      rw [if_neg hm, Flo.ir]
  have hI : Flo.B ≤ Flo.I := by decide
  obtain ⟨e1, e2⟩ := Flo.word_rg (s := decide (n < 0)) (r := min k Flo.I) (Nat.min_le_right _ _)
  rw [e]
  exact ⟨by rw [e1]; omega, by rw [e1]; omega, e2⟩
theorem read_zero : Ieee.double.read 0 = .number false 0 (-1074) := by decide
/-- a share of nothing -/
theorem fi_zero {n : Int} (h : n ≠ 0) : floatBits .quo .f64 (floatOfInt .f64 n) 0 = some (Ieee.double.word (decide (n < 0)) Flo.I) := by
  obtain ⟨h1, h2, h3⟩ := fi_facts h
  show Ieee.double.div _ _ = _
  unfold Ieee.Format.div
  rw [read_zero]
  rcases Nat.lt_or_ge (Flo.rg (floatOfInt .f64 n)) Flo.I with hlt | hge
  · have e : ∃ m i, Ieee.double.read (floatOfInt .f64 n) = .number (decide (n < 0)) m i ∧ m ≠ 0 := by
      have hB0 : 0 < Flo.B := by decide
      refine ⟨Flo.B + Flo.rg (floatOfInt .f64 n) % Flo.B, -1074 + (Flo.rg (floatOfInt .f64 n) / Flo.B - 1 : Nat), ?_, by omega⟩
      unfold Ieee.Format.read
      simp only [Flo.sw, Flo.ir, Flo.bd, Flo.lp]
      unfold Flo.rg at h1 hlt ⊢
      rw [if_neg (by omega), if_pos hlt, ← h3]; rfl
    obtain ⟨m, i, e, hm⟩ := e
    rw [e]
    unfold Ieee.Datum.quotient
    simp only [if_pos, hm, if_false]
    show some (Ieee.double.word (decide (n < 0) ^^ false) Ieee.double.infRung) = _
    rw [Bool.xor_false, Flo.ir]
  · rw [Flo.read_inf (by omega), h3]
    show some (Ieee.double.word (decide (n < 0) ^^ false) Ieee.double.infRung) = _
    rw [Bool.xor_false, Flo.ir]
theorem fi0 : floatOfInt .f64 0 = 0 := by decide +kernel
theorem quo00 : floatBits .quo .f64 0 0 = none := by decide +kernel
theorem quoM0 : floatBits .quo .f64 13830554455654793216 0 = some (Ieee.double.word true Flo.I) := by decide +kernel
theorem quoP0 : floatBits .quo .f64 4607182418800017408 0 = some (Ieee.double.word false Flo.I) := by decide +kernel
set_option maxRecDepth 100000 in
set_option maxHeartbeats 400000 in
theorem refshare_any (l a : Int) (w : World) : Calls Try.prog 35 #[.int .i64 l, .int .i64 a] w (Shared (floatOfInt .f64 l) (floatOfInt .f64 a) w) := by
  by_cases ha : a = 0
  · subst ha
    have ha' : ((0 : Int) != 0) = false := rfl
    by_cases hl : l = 0
    · subst hl
      have HI := Lib.hid (fun r => (show floatBits .quo .f64 0 0 = none ∧ Flo.nan r = true → r < 18446744073709551616 → IsShare (floatOfInt .f64 0) (floatOfInt .f64 0) r from fun h h2 => by rw [fi0]; exact ⟨h2, .inr h⟩))
      have hr := run_quo_nan 0 0 quo00
      go_enter Try.func35, Try.ntmps35
      go_wp2
      go_ret
      exact ⟨_, 1, rfl, HI.out _ ⟨quo00, (nanOf_nan 0 0 w).1⟩ (nanOf_nan 0 0 w).2, rfl⟩
    · have hz := fi_zero hl
      have hl0 : (l == 0) = false := by simpa using hl
      by_cases hn : l < 0
      · rw [decide_eq_true hn] at hz
        have HI := Lib.hid (show IsShare (floatOfInt .f64 l) (floatOfInt .f64 0) (Ieee.double.word true Flo.I) from by rw [fi0]; exact ⟨quo_lt hz, .inl hz⟩)
        have hr := fun (W : World) => run_float_arith (P := Try.prog) W .quo 50 .f64 13830554455654793216 0 _ quoM0
        clear hz
        generalize Ieee.double.word true Flo.I = r at *
        go_enter Try.func35, Try.ntmps35
        go_wp2
        go_ret
        exact ⟨_, 0, rfl, HI.out, rfl⟩
      · rw [decide_eq_false hn] at hz
        have HI := Lib.hid (show IsShare (floatOfInt .f64 l) (floatOfInt .f64 0) (Ieee.double.word false Flo.I) from by rw [fi0]; exact ⟨quo_lt hz, .inl hz⟩)
        have hr := fun (W : World) => run_float_arith (P := Try.prog) W .quo 50 .f64 4607182418800017408 0 _ quoP0
        clear hz
        generalize Ieee.double.word false Flo.I = r at *
        go_enter Try.func35, Try.ntmps35
        go_wp2
        go_ret
        exact ⟨_, 0, rfl, HI.out, rfl⟩
  · have ha' : (a != 0) = true := by simpa using ha
    generalize hx : floatOfInt .f64 l = x
    generalize hy : floatOfInt .f64 a = y
    rcases hq : floatBits .quo .f64 x y with _ | r
    · have hr := run_quo_nan x y hq
      have HQ := Lib.hid hq
      clear hq ha
      go_enter Try.func35, Try.ntmps35
      go_wp2
      go_ret
      exact ⟨_, 1, rfl, ⟨(nanOf_nan x y w).2, .inr ⟨HQ.out, (nanOf_nan x y w).1⟩⟩, rfl⟩
    · have hr := fun (W : World) => run_float_arith (P := Try.prog) W .quo 50 .f64 x y r hq
      have HQ := Lib.hid hq
      clear hq ha
      go_enter Try.func35, Try.ntmps35
      go_wp2
      go_ret
      exact ⟨_, 0, rfl, ⟨quo_lt HQ.out, .inl HQ.out⟩, rfl⟩
theorem below_any (x l : Nat) (p : Bool) (hp : (FloatKind.f64.format.order x l == some .lt) = p) (w : World) : Calls Try.prog 55 #[.float .f64 x, .float .f64 l] w (Still (.bool p) w) := by
  go_enter Try.func55, Try.ntmps55
  go_wp2
  go_ret
  exact ⟨rfl, rfl⟩
end Go.Proofs.Ytkgbimkjpllakaa.Sc
