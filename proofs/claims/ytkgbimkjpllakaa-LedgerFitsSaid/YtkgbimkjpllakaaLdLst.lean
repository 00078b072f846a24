/- score.Least, stillageref07.Least, ScoreLeast. -/
import Derived.Test.YtkgbimkjpllakaaLdShare
import Derived.Test.YtkgbimkjpllakaaOpen
set_option linter.unusedVariables false
set_option linter.unusedSimpArgs false
namespace Go.Proofs.Ytkgbimkjpllakaa.Sc
open Go.RowKit Go.Proofs.YtkgbimkjpllakaaW.PrintWords Go.Proofs.Ytkgbimkjpllakaa.B

/-- floats that are read -/
def RdF (w : World) (A : Option Addr) (l : List UInt64) : Prop := O.f64.C w A l.length l
def ft (l : List UInt64) (i : Nat) : Nat := (l.getD i 0).toNat
theorem ft_lt (l : List UInt64) (i : Nat) : ft l i < 18446744073709551616 := (l.getD i 0).toNat_lt
theorem RdF.len {w : World} {A : Option Addr} {l : List UInt64} (h : RdF w A l) : l.length ≤ 9223372036854775807 := h.2.1
theorem RdF.at_ {w : World} {A : Option Addr} {l : List UInt64} (h : RdF w A l) (i : Nat) (hi : i < l.length) : ∃ ad, A = some ad ∧ w.cell? (ad.add i) = some (.float .f64 (ft l i)) := by
  obtain ⟨ad, h1, h2⟩ := ReadsOf.at_ (Kd.reads_of_C (enc := fun x : UInt64 => Value.float .f64 x.toNat) (d := (0 : UInt64)) (h1 := fun _ => rfl) h) i (by omega) (by omega)
  exact ⟨ad, h1, by simpa [rdOf, ft] using h2⟩
theorem RdF.drewN {w : World} {A : Option Addr} {l : List UInt64} (h : RdF w A l) (n : Nat) : RdF (w.drewN n) A l := Kd.C_drewN h n
/-- which place is the least one's -/
def IsLeast (l : List UInt64) (r : Int) : Prop := (l = [] ∧ r = -1) ∨ ∃ k : Nat, r = k ∧ k < l.length ∧ (∀ j, j < l.length → Flo.pl (ft l k) ≤ Flo.pl (ft l j)) ∧ ∀ j, j < k → Flo.pl (ft l k) < Flo.pl (ft l j)
/-- the end -/
def Leasted (l : List UInt64) (w : World) (e : Ending) (w' : World) : Prop := ∃ r n, e = .returned (.int .i64 r) ∧ IsLeast l r ∧ w' = w.drewN n
theorem IsLeast.one {l : List UInt64} {r s : Int} (h : IsLeast l r) (k : IsLeast l s) : r = s := by
  rcases h with ⟨rfl, rfl⟩ | ⟨i, rfl, hi, h1, h2⟩
  · rcases k with ⟨-, rfl⟩ | ⟨j, -, hj, -⟩
    · rfl
    · simp at hj
  · rcases k with ⟨rfl, -⟩ | ⟨j, rfl, hj, k1, k2⟩
    · simp at hi
    · rcases Nat.lt_trichotomy i j with h | h | h
      · have := k2 i h; have := h1 j hj; omega
      · rw [h]
      · have := h2 j h; have := k1 i hi; omega
theorem has_min (l : List UInt64) : ∀ n : Nat, 0 < n → ∃ k, k < n ∧ ∀ j, j < n → Flo.pl (ft l k) ≤ Flo.pl (ft l j)
  | 0, h => absurd h (Nat.lt_irrefl 0)
  | 1, _ => ⟨0, by omega, fun j hj => by rw [show j = 0 by omega]; exact Int.le_refl _⟩
  | n + 2, _ => by
    obtain ⟨k, hk, h⟩ := has_min l (n + 1) (by omega)
    by_cases hc : Flo.pl (ft l k) ≤ Flo.pl (ft l (n + 1))
    · refine ⟨k, by omega, fun j hj => ?_⟩
      rcases Nat.lt_or_ge j (n + 1) with h1 | h1
      · exact h j h1
      · rw [show j = n + 1 by omega]; exact hc
    · refine ⟨n + 1, by omega, fun j hj => ?_⟩
      rcases Nat.lt_or_ge j (n + 1) with h1 | h1
      · have := h j h1; omega
      · rw [show j = n + 1 by omega]; exact Int.le_refl _
theorem ordN_lt (a b : Nat) : Flo.ordN a b < 0 ↔ Flo.pl a < Flo.pl b := by
  unfold Flo.ordN; repeat' split
  all_goals omega
set_option maxRecDepth 100000 in
set_option maxHeartbeats 400000 in
theorem least_any (A : Option Addr) (c : Nat) (l : List UInt64) (w : World) (hr : RdF w A l) : Calls Try.prog 56 #[.slice A l.length c] w (Leasted l w) := by
  have HR := Lib.hid hr
  have hln := hr.len
  clear hr
  go_enter Try.func56, Try.ntmps56
  go_wp2
  go_step3
  go_wp2
  go_step3
  go_wp2
  go_loop [3, 9] (fun m i => ∃ (k : Nat), k ≤ l.length ∧ i = .int .i64 k ∧ m = .int .i64 (-1) ∧ Hid (∀ j, j < k → ∃ q, q < l.length ∧ Flo.pl (ft l q) < Flo.pl (ft l j))) (fun _ i => l.length - (intOf i).toNat)
  case atStart => exact ⟨0, by omega, rfl, rfl, Lib.hid (fun j h => by omega)⟩
  case round =>
    obtain ⟨k, hk, rfl, rfl, HI⟩ := hrel
    by_cases hlt : k < l.length
    · obtain ⟨ad, rfl, hc1⟩ := HR.out.at_ k hlt
      go_wp2
      go_loop [14] (fun i => ∃ (j : Nat), j ≤ l.length ∧ i = .int .i64 j ∧ Hid (∀ i, i < j → ¬ Flo.pl (ft l i) < Flo.pl (ft l k))) (fun i => l.length - (intOf i).toNat)
      case atStart => exact ⟨0, by omega, rfl, Lib.hid (fun j h => by omega)⟩
      case round =>
        obtain ⟨j, hj, rfl, HJ⟩ := hrel
        by_cases hlj : j < l.length
        · obtain ⟨ad', hh, hc2⟩ := HR.out.at_ j hlj
          injection hh with hh
          subst hh
          have HZ := Lib.hid (ordN_lt (ft l j) (ft l k))
          have hx := ft_lt l j
          have hy := ft_lt l k
          obtain ⟨x, hxe⟩ : ∃ x, x = ft l j := ⟨_, rfl⟩
          obtain ⟨y, hye⟩ : ∃ y, y = ft l k := ⟨_, rfl⟩
          have HC1 := Lib.hid hc1
          rw [← hye] at hc1 hy HZ
          rw [← hxe] at hc2 hx HZ
          have HXE := Lib.hid hxe
          have HYE := Lib.hid hye
          have HO := Lib.hid (order_any x y w hx hy)
          clear hxe hye hx hy
          generalize Flo.ordN x y = z at *
          by_cases hz : z < 0
          · have HP := Lib.hid (show Flo.pl (ft l j) < Flo.pl (ft l k) from by rw [← HXE.out, ← HYE.out]; exact HZ.out.1 hz)
            go_wp2_with ((go_at_call 63; refine HO.out.mono ?_; rintro e w1 ⟨rfl, rfl⟩))
            go_round
            case rel => exact ⟨k + 1, by omega, by go_num, rfl, Lib.hid (fun i hi => by
              rcases Nat.lt_or_ge i k with h | h
              · exact HI.out i h
              · exact ⟨j, hlj, by rw [show i = k by omega]; exact HP.out⟩)⟩
            case measure => simp [intOf]; omega
          · have HP := Lib.hid (show ¬ Flo.pl (ft l j) < Flo.pl (ft l k) from by rw [← HXE.out, ← HYE.out]; exact fun h => hz (HZ.out.2 h))
            go_wp2_with ((go_at_call 63; refine HO.out.mono ?_; rintro e w1 ⟨rfl, rfl⟩))
            go_round
            case rel => exact ⟨j + 1, by omega, by go_num, Lib.hid (fun i hi => by
              rcases Nat.lt_or_ge i j with h | h
              · have := HJ.out i h; omega
              · rw [show i = j by omega]; have := HP.out; omega)⟩
            case measure => simp [intOf]; omega
        · have hj2 : j = l.length := by omega
          subst hj2
          have HM := Lib.hid (show IsLeast l k from by
            refine .inr ⟨k, rfl, hlt, fun j hj => by have := HJ.out j hj; omega, fun j hj => ?_⟩
            obtain ⟨q, h1, h2⟩ := HI.out j hj
            have := HJ.out q h1
            omega)
          go_wp2
          (try rw [Exit.noGoto_ret])
          go_ret
          exact ⟨k, 0, rfl, HM.out, rfl⟩
    · have hk2 : k = l.length := by omega
      subst hk2
      have HL := Lib.hid (show IsLeast l (-1) from by
        rcases Nat.eq_zero_or_pos l.length with h | h
        · exact .inl ⟨List.length_eq_zero_iff.1 h, rfl⟩
        · obtain ⟨k, h1, h2⟩ := has_min l l.length h
          obtain ⟨q, h3, h4⟩ := HI.out k h1
          have := h2 q h3
          omega)
      clear HI
      go_wp2
      (try rw [Exit.noGoto_ret])
      go_ret
      exact ⟨-1, 0, rfl, HL.out, rfl⟩
end Go.Proofs.Ytkgbimkjpllakaa.Sc
