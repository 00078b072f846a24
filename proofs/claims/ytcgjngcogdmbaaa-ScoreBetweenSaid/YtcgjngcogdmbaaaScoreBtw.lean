/- stillagelaw07: ScoreBetween. -/
import Derived.Test.YtcgjngcogdmbaaaScoreShare
import Derived.Test.YtcgjngcogdmbaaaFloQ
import Derived.Test.YtcgjngcogdmbaaaOpen
set_option linter.unusedVariables false
set_option linter.unusedSimpArgs false
namespace Go.Proofs.Ytcgjngcogdmbaaa.Sc
open Go.RowKit Go.Proofs.YtcgjngcogdmbaaaW.PrintWords Go.Proofs.Ytcgjngcogdmbaaa.B

theorem fi_nat (a : Nat) : floatOfInt .f64 (a : Int) = Ieee.double.nearest false a 0 := by
  show Ieee.double.nearest (decide ((a : Int) < 0)) (a : Int).natAbs 0 = _
  rw [decide_eq_false (by omega), Int.natAbs_natCast]
theorem quo_self {b : Nat} (hb : b ≠ 0) (hb2 : b ≤ 1073741824) : Ieee.double.div (Ieee.double.nearest false b 0) (Ieee.double.nearest false b 0) = some Flo.R1 := by
  obtain ⟨L, k, hL, e, h1, h2, hr⟩ := Flo.read_small hb hb2
  have hk0 : k ≠ 0 := Flo.pos_of_B h1
  unfold Ieee.Format.div
  rw [hr]
  unfold Ieee.Datum.quotient
  simp only [hk0, if_false]
  rw [show Ieee.double.fractionBits + 2 + k.log2 - k.log2 = 54 by rw [Nat.add_sub_cancel]; decide, Nat.shiftLeft_eq, Nat.mul_div_cancel_left _ (Nat.pos_of_ne_zero hk0), Nat.mul_mod_right]
  show some (Ieee.double.nearest (false ^^ false) (2 * 2 ^ 54 + (0 != 0).toNat) ((L : Int) - 52 - ((L : Int) - 52) - ((54 : Nat) : Int) - 1)) = _
  rw [show (L : Int) - 52 - ((L : Int) - 52) - ((54 : Nat) : Int) - 1 = -55 by omega]
  decide
theorem quo_zero {b : Nat} (hb : b ≠ 0) (hb2 : b ≤ 1073741824) : Ieee.double.div (Ieee.double.nearest false 0 0) (Ieee.double.nearest false b 0) = some 0 := by
  obtain ⟨L, k, hL, e, h1, h2, hr⟩ := Flo.read_small hb hb2
  have hk0 : k ≠ 0 := Flo.pos_of_B h1
  unfold Ieee.Format.div
  rw [hr, show Ieee.double.nearest false 0 0 = 0 by decide, read_zero]
  unfold Ieee.Datum.quotient
  simp only [hk0, if_false, Nat.zero_shiftLeft, Nat.zero_div, Nat.zero_mod]
  rfl
/-- a share of small numbers -/
theorem small_share {a b r : Nat} (hb : b ≠ 0) (hb2 : b ≤ 1073741824) (hab : a ≤ b) (h : IsShare (floatOfInt .f64 (a : Int)) (floatOfInt .f64 (b : Int)) r) :
    r < Flo.I ∧ r ≤ Flo.R1 ∧ (r = 0 ↔ a = 0) ∧ (r = Flo.R1 ↔ a = b) ∧ (a ≠ 0 → a ≠ b → ∃ fl, Flo.Stands a b fl r) ∧ Ieee.double.div (Ieee.double.nearest false a 0) (Ieee.double.nearest false b 0) = some r ∧ (a ≠ 0 → ∃ fl, Flo.Stands a b fl r) := by
  unfold IsShare at h
  rw [fi_nat, fi_nat] at h
  have hRI : Flo.R1 < Flo.I := by decide
  have hR0 : 0 < Flo.R1 := by decide
  have key : ∀ q, Ieee.double.div (Ieee.double.nearest false a 0) (Ieee.double.nearest false b 0) = some q → q = r := by
    intro q hq
    rcases h.2 with h1 | ⟨h1, -⟩
    · have h1' : Ieee.double.div (Ieee.double.nearest false a 0) (Ieee.double.nearest false b 0) = some r := h1
      rw [hq] at h1'; injection h1'
    · have h1' : Ieee.double.div (Ieee.double.nearest false a 0) (Ieee.double.nearest false b 0) = none := h1
      rw [hq] at h1'; cases h1'
  by_cases ha : a = 0
  · subst ha
    have h0 := quo_zero hb hb2
    obtain rfl := key 0 h0
    exact ⟨by omega, by omega, by simp, by omega, fun h => absurd rfl h, h0, fun h => absurd rfl h⟩
  · obtain ⟨fl, q, hq, hs⟩ := Flo.quot_stands ha (by omega) hb hb2 hab
    obtain rfl := key q hq
    have hB : Flo.B ≤ q := by obtain ⟨h1, -, -, -, h2, -⟩ := hs; omega
    have hB0 : 0 < Flo.B := by decide
    have hqI := hs.2.2.2.2.2
    by_cases hab2 : a = b
    · subst hab2
      rw [quo_self hb hb2] at hq
      injection hq with hq
      subst hq
      exact ⟨hqI, Nat.le_refl _, by omega, by simp, fun _ h => absurd rfl h, quo_self hb hb2, fun _ => ⟨fl, hs⟩⟩
    · have hlt := Flo.stands_lt_one hs (by omega) hb2
      exact ⟨hqI, by omega, by omega, by omega, fun _ _ => ⟨fl, hs⟩, hq, fun _ => ⟨fl, hs⟩⟩
theorem ord_small {r s : Nat} (hr : r < Flo.I) (hs : s < Flo.I) : FloatKind.f64.format.order r s = some (compare (r : Int) (s : Int)) := by
  have h : ∀ x, x < Flo.I → Flo.nan x = false ∧ Flo.key x = (x : Int) := by
    intro x hx
    have hIS : Flo.I < Flo.S := by decide
    have h1 : Flo.rg x = x := Nat.mod_eq_of_lt (by omega)
    have h2 : Flo.sg x = false := by unfold Flo.sg; rw [Nat.div_eq_of_lt (by omega)]; rfl
    refine ⟨by unfold Flo.nan; rw [h1]; exact decide_eq_false (by omega), by unfold Flo.key; rw [h1, h2]; rfl⟩
  rw [ord, fcmp_num (h r hr).1 (h s hs).1, (h r hr).2, (h s hs).2]
theorem le_small {r s : Nat} (hr : r < Flo.I) (hs : s < Flo.I) (h : r ≤ s) : (FloatKind.f64.format.order r s == some .lt || FloatKind.f64.format.order r s == some .eq) = true := by
  rw [ord_small hr hs]
  rcases Nat.lt_or_eq_of_le h with h | h
  · rw [cmp_lt (by omega)]; rfl
  · rw [cmp_eq (by omega)]; rfl
theorem ge_small {r s : Nat} (hr : r < Flo.I) (hs : s < Flo.I) (h : s ≤ r) : (FloatKind.f64.format.order r s == some .gt || FloatKind.f64.format.order r s == some .eq) = true := by
  rw [ord_small hr hs]
  rcases Nat.lt_or_eq_of_le h with h | h
  · rw [cmp_gt (by omega)]; rfl
  · rw [cmp_eq (by omega)]; rfl
theorem eq_small {r s : Nat} (hr : r < Flo.I) (hs : s < Flo.I) (p : Bool) (h : (r = s) ↔ p = true) : (FloatKind.f64.format.order r s == some .eq) = p := by
  rw [ord_small hr hs]
  rcases Nat.lt_trichotomy r s with h1 | h1 | h1
  · rw [cmp_lt (by omega)]; cases p
    · rfl
    · have := h.2 rfl; omega
  · rw [cmp_eq (by omega), h.1 h1]; rfl
  · rw [cmp_gt (by omega)]; cases p
    · rfl
    · have := h.2 rfl; omega
theorem mulB {u v : Nat} (h : u < v) (hu : u ≤ 1073741824) : u * (Flo.B + 1) ≤ v * Flo.B := by
  have h1 : (u + 1) * Flo.B ≤ v * Flo.B := Nat.mul_le_mul_right _ h
  have h2 : u ≤ Flo.B := by unfold Flo.B; omega
  rw [Nat.add_mul, Nat.one_mul] at h1
  rw [Nat.mul_add, Nat.mul_one]
  omega
/-- THE LAW -/
theorem between {l m a s x y z : Nat} (h1 : l ≤ m) (h2 : m ≤ a) (h3 : a ≤ 1073741824) (h4 : m ≤ s) (h5 : s ≤ a) (h6 : 1 ≤ s)
    (hx : IsShare (floatOfInt .f64 (l : Int)) (floatOfInt .f64 (a : Int)) x) (hy : IsShare (floatOfInt .f64 (m : Int)) (floatOfInt .f64 (a : Int)) y) (hz : IsShare (floatOfInt .f64 (m : Int)) (floatOfInt .f64 (s : Int)) z) :
    ((l = 0 ∧ FloatKind.f64.format.order x 0 = some .eq) ∨ (l ≠ 0 ∧ FloatKind.f64.format.order x 0 = some .gt)) ∧
    ((m = s ∧ FloatKind.f64.format.order z 4607182418800017408 = some .eq) ∨ (m ≠ s ∧ FloatKind.f64.format.order z 4607182418800017408 = some .lt)) ∧
    (FloatKind.f64.format.order x y = some .lt ∨ FloatKind.f64.format.order x y = some .eq) ∧
    (FloatKind.f64.format.order y z = some .lt ∨ FloatKind.f64.format.order y z = some .eq) := by
  obtain ⟨x1, x2, x3, x4, x5, x6, x7⟩ := small_share (by omega) h3 (by omega) hx
  obtain ⟨y1, y2, y3, y4, y5, y6, y7⟩ := small_share (by omega) h3 h2 hy
  obtain ⟨z1, z2, z3, z4, z5, z6, z7⟩ := small_share (by omega) (by omega) h4 hz
  have h0I : 0 < Flo.I := by decide
  have hRI : Flo.R1 < Flo.I := by decide
  have hxy : x ≤ y := by
    by_cases l0 : l = 0
    · have := x3.2 l0; omega
    · by_cases lm : l = m
      · subst lm; rw [x6] at y6; injection y6 with y6; omega
      · obtain ⟨f1, s1⟩ := x7 l0
        obtain ⟨f2, s2⟩ := y7 (by omega)
        refine Flo.stands_le s1 s2 (by omega) (by omega) ?_
        have := Nat.mul_le_mul_right a (mulB (show l < m by omega) (by omega))
        rw [show l * (Flo.B + 1) * a = l * a * (Flo.B + 1) by ac_rfl, show m * Flo.B * a = m * a * Flo.B by ac_rfl] at this
        exact this
  have hyz : y ≤ z := by
    by_cases m0 : m = 0
    · have := y3.2 m0; omega
    · by_cases sa : s = a
      · subst sa; rw [y6] at z6; injection z6 with z6; omega
      · obtain ⟨f1, s1⟩ := y7 m0
        obtain ⟨f2, s2⟩ := z7 m0
        refine Flo.stands_le s1 s2 (by omega) (by omega) ?_
        have := Nat.mul_le_mul_right m (mulB (show s < a by omega) (by omega))
        rw [show s * (Flo.B + 1) * m = m * s * (Flo.B + 1) by ac_rfl, show a * Flo.B * m = m * a * Flo.B by ac_rfl] at this
        exact this
  have le2 : ∀ {r t : Nat}, r < Flo.I → t < Flo.I → r ≤ t → FloatKind.f64.format.order r t = some .lt ∨ FloatKind.f64.format.order r t = some .eq := by
    intro r t hr ht h
    rw [ord_small hr ht]
    rcases Nat.lt_or_eq_of_le h with h | h
    · left; rw [cmp_lt (by omega)]
    · right; rw [cmp_eq (by omega)]
  refine ⟨?_, ?_, le2 x1 y1 hxy, le2 y1 z1 hyz⟩
  · rw [ord_small x1 h0I]
    by_cases h : l = 0
    · left; exact ⟨h, by rw [cmp_eq (by have := x3.2 h; omega)]⟩
    · right; exact ⟨h, by rw [cmp_gt (by have : ¬ x = 0 := fun e => h (x3.1 e); omega)]⟩
  · rw [show (4607182418800017408 : Nat) = Flo.R1 from rfl, ord_small z1 hRI]
    by_cases h : m = s
    · left; exact ⟨h, by rw [cmp_eq (by have := z4.2 h; omega)]⟩
    · right; exact ⟨h, by rw [cmp_lt (by have : ¬ z = Flo.R1 := fun e => h (z4.1 e); omega)]⟩
/-! ### the walk -/
set_option maxRecDepth 100000 in
set_option maxHeartbeats 1600000 in
theorem between_walk (l m a s : Int) (w : World) (_ : -9223372036854775808 ≤ l ∧ l ≤ 9223372036854775807) (_ : -9223372036854775808 ≤ m ∧ m ≤ 9223372036854775807) (_ : -9223372036854775808 ≤ a ∧ a ≤ 9223372036854775807) (_ : -9223372036854775808 ≤ s ∧ s ≤ 9223372036854775807) :
    Calls Try.prog 4 #[.agg #[.int .i64 l, .int .i64 m, .int .i64 a, .int .i64 s]] w (Kept (.bool true) w) := by
  have hc : l < 0 ∨ (¬ l < 0 ∧ m < l) ∨ (¬ l < 0 ∧ ¬ m < l ∧ a < m) ∨ (¬ l < 0 ∧ ¬ m < l ∧ ¬ a < m ∧ 1073741824 < a) ∨ (¬ l < 0 ∧ ¬ m < l ∧ ¬ a < m ∧ ¬ 1073741824 < a ∧ s < m) ∨ (¬ l < 0 ∧ ¬ m < l ∧ ¬ a < m ∧ ¬ 1073741824 < a ∧ ¬ s < m ∧ a < s) ∨ (¬ l < 0 ∧ ¬ m < l ∧ ¬ a < m ∧ ¬ 1073741824 < a ∧ ¬ s < m ∧ ¬ a < s ∧ s < 1) ∨ (¬ l < 0 ∧ ¬ m < l ∧ ¬ a < m ∧ ¬ 1073741824 < a ∧ ¬ s < m ∧ ¬ a < s ∧ ¬ s < 1) := by omega
  have HE : ∀ n, Hid (Below w.heap.size w ((w.alloc (.cells #[.int .i64 l, .int .i64 m, .int .i64 a, .int .i64 s] 30)).drewN n)) := fun n => Lib.hid (pw_below_drewN (below_alloc (Below.refl _ _) _) n)
  rcases hc with c1 | ⟨c1, c2⟩ | ⟨c1, c2, c3⟩ | ⟨c1, c2, c3, c4⟩ | ⟨c1, c2, c3, c4, c5⟩ | ⟨c1, c2, c3, c4, c5, c6⟩ | ⟨c1, c2, c3, c4, c5, c6, c7⟩ | ⟨c1, c2, c3, c4, c5, c6, c7⟩
  iterate 7
    · go_enter Try.func4, Try.ntmps4
      go_wp2_with fail
      go_quiet (fail)
      go_wp2_with fail
      refine (lives_any _).mono ?_
      rintro e w1 ⟨rfl, n, rfl⟩
      go_wp2_with fail
      go_ret
      exact ⟨rfl, (HE _).out⟩
  obtain ⟨l', rfl⟩ := Int.eq_ofNat_of_zero_le (show 0 ≤ l by omega)
  obtain ⟨m', rfl⟩ := Int.eq_ofNat_of_zero_le (show 0 ≤ m by omega)
  obtain ⟨a', rfl⟩ := Int.eq_ofNat_of_zero_le (show 0 ≤ a by omega)
  obtain ⟨s', rfl⟩ := Int.eq_ofNat_of_zero_le (show 0 ≤ s by omega)
  have HBT := Lib.hid (fun (x y z : Nat) => @between l' m' a' s' x y z (by omega) (by omega) (by omega) (by omega) (by omega) (by omega))
  go_enter Try.func4, Try.ntmps4
  go_wp2_with fail
  go_quiet (fail)
  go_wp2_with fail
  refine (share_any l' a' _).mono ?_
  rintro e w1 ⟨x, n1, rfl, hx, rfl⟩
  have HX := Lib.hid hx
  clear hx
  go_wp2_with fail
  refine (share_any m' a' _).mono ?_
  rintro e w1 ⟨y, n2, rfl, hy, rfl⟩
  have HY := Lib.hid hy
  clear hy
  go_wp2_with fail
  refine (share_any m' s' _).mono ?_
  rintro e w1 ⟨z, n3, rfl, hz, rfl⟩
  obtain ⟨p1, p2, p3, p4⟩ := HBT.out x y z HX.out HY.out hz
  clear hz HX HY HBT
  have p1' : (((l' : Int) == 0) = true ∧ FloatKind.f64.format.order x 0 = some .eq) ∨ (((l' : Int) == 0) = false ∧ FloatKind.f64.format.order x 0 = some .gt) := by
    rcases p1 with ⟨h, k⟩ | ⟨h, k⟩
    · exact .inl ⟨by simpa using h, k⟩
    · exact .inr ⟨by simpa using h, k⟩
  have p2' : (((m' : Int) == (s' : Int)) = true ∧ FloatKind.f64.format.order z 4607182418800017408 = some .eq) ∨ (((m' : Int) == (s' : Int)) = false ∧ FloatKind.f64.format.order z 4607182418800017408 = some .lt) := by
    rcases p2 with ⟨h, k⟩ | ⟨h, k⟩
    · exact .inl ⟨by subst h; simp, k⟩
    · exact .inr ⟨by simp; omega, k⟩
  clear p1 p2 c1 c2 c3 c4 c5 c6 c7
  rcases p1' with ⟨a1, a2⟩ | ⟨a1, a2⟩ <;> rcases p2' with ⟨b1, b2⟩ | ⟨b1, b2⟩ <;> rcases p3 with p3 | p3 <;> rcases p4 with p4 | p4
  all_goals
    go_wp2_with fail
    refine (lives_any _).mono ?_
    rintro e w1 ⟨rfl, n4, rfl⟩
    go_wp2_with fail
    go_ret
    exact ⟨rfl, (HE _).out⟩
/-! ### what the argument's reading gives -/
open Go.Proofs.Ytcgjngcogdmbaaa.O
abbrev Four : Type := Int64 × Int64 × Int64 × Int64
def kFour : Kd Four := Kd.pair O.i64 (Kd.pair O.i64 (Kd.pair O.i64 O.i64))
def m1 (x : Int64) : Nat := 1
def mFour (x : Four) : Nat := m1 x.1 + (m1 x.2.1 + (m1 x.2.2.1 + m1 x.2.2.2)) + 1
theorem opnInt : Opn Try.prog 3 O.i64 m1 := opn_i64 Try.underlying3 (by kernel_rfl)
theorem opnFour : Opn Try.prog 30 kFour mFour :=
  opn_struct Try.underlying30 (by kernel_rfl) (opnF_cons rfl opnInt (opnF_cons rfl opnInt (opnF_cons rfl opnInt (opnF_one rfl opnInt))))
theorem i64_bd (x : Int64) : -9223372036854775808 ≤ x.toInt ∧ x.toInt ≤ 9223372036854775807 := by
  have h1 := x.le_toInt
  have h2 := x.toInt_lt
  omega
theorem between_any (cs : Array Value) (x : Four) (w : World) (hK : kFour.K w x cs.toList) :
    Calls Try.prog 4 #[.agg cs] w (Kept (.bool true) w) := by
  obtain ⟨l, m, a, s⟩ := x
  obtain ⟨c0, r0, e0, rfl, c1, r1, rfl, rfl, c2, r2, rfl, rfl, rfl⟩ := hK
  have e : cs = #[.int .i64 l.toInt, .int .i64 m.toInt, .int .i64 a.toInt, .int .i64 s.toInt] := by
    apply Array.ext'; rw [e0]; rfl
  subst e
  exact between_walk _ _ _ _ w (i64_bd l) (i64_bd m) (i64_bd a) (i64_bd s)
end Go.Proofs.Ytcgjngcogdmbaaa.Sc
