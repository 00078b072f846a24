/- stillageref09.Survive, Peak; writes.Peak. -/
import Derived.Test.YtkgbimkjpllakaaWrMore
set_option linter.unusedVariables false
set_option linter.unusedSimpArgs false
namespace Go.Proofs.Ytkgbimkjpllakaa.Wr
open Go.RowKit Go.Proofs.YtkgbimkjpllakaaW.PrintWords Go.Proofs.Ytkgbimkjpllakaa.B

theorem right_less {off : Int} {n m : Nat} (h : rightB off n = true) (hm : m ≤ n) : rightB off m = true := by
  have := right_of h
  unfold rightB; exact decide_eq_true (by omega)
theorem layL_apply (b : List UInt8) (off : Int) (d : List UInt8) (m : Nat) (hm : m ≤ d.length) (hr : rightB off d.length = true) : layL b off.toNat d m = applyL b false off (d.take m) := by
  have hl : (d.take m).length = m := by rw [List.length_take]; omega
  have h1 : rightB off (d.take m).length = true := right_less hr (by omega)
  by_cases h0 : m = 0
  · subst h0
    rw [layL_zero]
    unfold applyL
    rw [if_pos (.inr ⟨rfl, by simp⟩)]
  · have hd : d.take m ≠ [] := by intro h; rw [h] at hl; simp at hl; omega
    unfold applyL layL
    rw [if_neg h0, if_neg (show ¬ (rightB off (d.take m).length = false ∨ false = false ∧ d.take m = []) by rw [h1]; simp [hd]), if_neg (by decide), hl]
theorem ref_surv (b : List UInt8) (cut : Bool) (off : Int) (d : List UInt8) (x : UInt8) (hx : x ≠ 0) (m : Nat) (hm : m = if x.toNat = 255 then d.length else x.toNat) : refApplyL b cut off d m = if rightB off d.length = false then b else applyL b cut off (someL x d) := by
  unfold refApplyL
  by_cases hr : rightB off d.length = false
  · rw [if_pos hr, if_pos hr]
  · have hr' : rightB off d.length = true := by simpa using hr
    rw [if_neg hr, if_neg hr]
    have hs : someL x d = d.take (min d.length m) := by
      have hx1 := x.toNat_lt
      unfold someL
      by_cases h : x.toNat < 255 ∧ x.toNat < d.length
      · rw [if_pos h, hm, if_neg (by omega), Nat.min_eq_right (by omega)]
      · rw [if_neg h, hm]
        by_cases h5 : x.toNat = 255
        · rw [if_pos h5, Nat.min_self, List.take_length]
        · rw [if_neg h5, Nat.min_eq_left (by omega), List.take_length]
    rw [Int.toNat_natCast, hs]
    cases cut with
    | true =>
      rw [if_pos rfl]
      unfold applyL
      have h1 : rightB off (d.take (min d.length m)).length = true := right_less hr' (by rw [List.length_take]; omega)
      rw [if_neg (by rw [h1]; simp), if_pos rfl]
    | false => rw [if_neg (by decide), layL_apply _ _ _ _ (by omega) hr']
set_option maxRecDepth 100000 in
set_option maxHeartbeats 1600000 in
theorem refsurvive_any (A : Option Addr) (c : Nat) (b : List UInt8) (A2 : Option Addr) (c2 : Nat) (l : List Wt) (Ac : Option Addr) (cc : Nat) (ch : List UInt8) (w : World) (hl : b.length ≤ 140737488355000) (hc : b.length ≤ c) (hr : Rd w A b) (hr2 : RdW w A2 l) (hrc : Rd w Ac ch) :
    Calls Try.prog 21 #[.slice A b.length c, .slice A2 l.length c2, .slice Ac ch.length cc] w (Made w (survL b l ch)) := by
  have HR := Lib.hid hr
  have HR2 := Lib.hid hr2
  have HRC := Lib.hid hrc
  have hll : l.length ≤ 9223372036854775807 := hr2.2.1
  have hcl : ch.length ≤ 9223372036854775807 := hrc.len
  clear hr hr2 hrc
  go_enter Try.func21, Try.ntmps21
  go_wp2_with (at_builtin; refine appRow (w0 := w) w.heap.size rfl (.const (.slice none 0 0)) (.tmp 10) rfl _ [] b A b.length c rfl rfl rfl (Own.nil _ _) HR.out (Below.refl _ _) (Nat.le_refl _) (by simp; omega) ?_; intro v2 w2 hown hb2 _ _; rw [List.nil_append] at hown; have HO2 := Lib.hid hown; have HB2 := Lib.hid hb2; clear hown hb2)
  go_loopw [7, 8] (fun v i wr => ∃ k : Nat, k ≤ l.length ∧ k ≤ ch.length ∧ i = .int .i64 k ∧ Hid (Own wr w.heap.size v (survL b (l.take k) (ch.take k))) ∧ Hid (Below w.heap.size w wr)) (fun _ i _ => l.length - (intOf i).toNat)
  case atStart => exact ⟨0, by omega, by omega, rfl, HO2, HB2⟩
  case round =>
    obtain ⟨k, hk, hkc, rfl, HO, HBk⟩ := hrel
    by_cases hlt : k < l.length
    · by_cases hltc : k < ch.length
      · have HRk := Lib.hid (show RdW wr A2 l from Kd.C_below HR2.out HBk.out)
        have HCk := Lib.hid (HRC.out.below HBk.out)
        obtain ⟨ad, -, -, rfl, -⟩ := HRk.out.at_ k hlt
        obtain ⟨adc, rfl, hcx⟩ := HCk.out.at_ k hltc
        obtain ⟨A3, c3, hdc, h2, e0, e1, e2⟩ := HRk.out.cells k hlt
        have hoff := Int64.toInt_lt (wt l k).2.1
        have hoff' := Int64.le_toInt (wt l k).2.1
        have hdl : (wt l k).2.2.length ≤ 9223372036854775807 := h2.len
        have HYL := survL_len b (l.take k) (ch.take k)
        have HN0 := Lib.hid (survL_next (b := b) hlt hltc)
        have HRS := Lib.hid (fun y x hx m hm => ref_surv y (wt l k).1 (wt l k).2.1.toInt (wt l k).2.2 x hx m hm)
        have HSS := Lib.hid (fun y x => (show survStep y x (wt l k) = if x = 0 ∨ rightB (wt l k).2.1.toInt (wt l k).2.2.length = false then y else applyL y (wt l k).1 (wt l k).2.1.toInt (someL x (wt l k).2.2) from rfl))
        generalize hwt : wt l k = t at *
        obtain ⟨cu, of64, d⟩ := t
        dsimp only at *
        generalize of64.toInt = off at *
        obtain ⟨y, hy⟩ : ∃ y, y = survL b (l.take k) (ch.take k) := ⟨_, rfl⟩
        rw [← hy] at HYL HO HN0
        obtain ⟨x, hx⟩ : ∃ x, ch.getD k 0 = x := ⟨_, rfl⟩
        have hqb : B.bt ch k = (x.toNat : Int) := by unfold B.bt; rw [hx]
        rw [hx] at HN0
        rw [hqb] at hcx
        have HRD := Lib.hid h2
        have hob : -9223372036854775808 ≤ off ∧ off ≤ 9223372036854775807 := by omega
        have hyb : y.length ≤ 140737488355000 := by omega
        obtain ⟨A4, c4, rfl, hc4, hr4⟩ := HO.out.reads
        have HRY := Lib.hid hr4
        have hxl := x.toNat_lt
        clear h2 hy HYL hr4 hoff hoff' hwt hqb
        by_cases hx0 : x = 0
        · have HN := Lib.hid (show survL b (l.take (k + 1)) (ch.take (k + 1)) = y by rw [HN0.out, HSS.out, if_pos (.inl hx0)])
          subst hx0
          clear hx
          go_wp2_with fail
          go_roundw
          case rel => exact ⟨k + 1, by omega, by omega, by go_num, by rw [HN.out]; exact HO, HBk⟩
          case measure => simp [intOf]; omega
        · have HN := Lib.hid (show survL b (l.take (k + 1)) (ch.take (k + 1)) = refApplyL y cu off d ((if x.toNat = 255 then d.length else x.toNat : Nat) : Int) by
            rw [HN0.out, HSS.out, HRS.out y x hx0 _ rfl]
            by_cases hrb : rightB off d.length = false
            · rw [if_pos (.inr hrb), if_pos hrb]
            · rw [if_neg hrb, if_neg (by rintro (h | h); · exact hx0 h
                                         · exact hrb h)])
          have hxp : 0 < x.toNat := by
            rcases Nat.eq_zero_or_pos x.toNat with h | h
            · exact absurd (UInt8.toNat_inj.1 (by simpa using h)) hx0
            · exact h
          have hxp' : (0 : Int) < (x.toNat : Int) := by omega
          obtain ⟨q, hq⟩ : ∃ q, x.toNat = q := ⟨_, rfl⟩
          rw [hq] at HN hxp hcx hxl hxp'
          obtain ⟨m, hm⟩ : ∃ m, (if q = 255 then d.length else q) = m := ⟨_, rfl⟩
          have hmb : m ≤ 9223372036854775807 := by rw [← hm]; split <;> omega
          rw [hm] at HN
          have HA := Lib.hid (fun (W : World) (h1 : Rd W A4 y) (h2 : Rd W A3 d) => (show Calls Try.prog 16 #[.slice A4 y.length c4, .agg #[.bool cu, .int .i64 off, .slice A3 d.length c3], .int .i64 m] W (Made W (refApplyL y cu off d m)) from refapply_any A4 c4 y cu off A3 c3 d m W hyb hc4 h1 hdl h2 hob (by omega)))
          have hcase : (((q : Int) == 255) = true ∧ m = d.length) ∨ (((q : Int) == 255) = false ∧ m = q) := by
            by_cases h : q = 255
            · left; rw [← hm, if_pos h]; exact ⟨by simp [h], rfl⟩
            · right; rw [← hm, if_neg h]; refine ⟨?_, rfl⟩; simp only [beq_eq_false_iff_ne, ne_eq]; omega
          clear hq hm hx hx0
          rcases hcase with ⟨hq5, rfl⟩ | ⟨hq5, rfl⟩
          all_goals
            go_wp2_with fail
            refine (HA.out _ HRY.out HRD.out).mono ?_
            rintro e w3 ⟨v3, rfl, hown, hb3⟩
            have HB3 := Lib.hid (below_step' HBk.out hb3)
            have HO3 := Lib.hid (hown.lower HBk.out.size)
            rw [← HN.out] at HO3
            clear hown hb3
            go_wp2_with fail
            go_roundw
            case rel => exact ⟨k + 1, by omega, by omega, by go_num, HO3, HB3⟩
            case measure => simp [intOf]; omega
      · obtain rfl : k = ch.length := by omega
        have HO' := HO
        rw [survL_stay (Nat.le_refl _)] at HO'
        go_wp2
        go_ret
        exact ⟨_, rfl, HO'.out, HBk.out⟩
    · obtain rfl : k = l.length := by omega
      have HO' := HO
      rw [survL_full (Nat.le_refl _)] at HO'
      go_wp2
      go_ret
      exact ⟨_, rfl, HO'.out, HBk.out⟩
end Go.Proofs.Ytkgbimkjpllakaa.Wr
