/- varint.Take, stillageref02.Take: what each call answers. -/
import Derived.Test.YteeemiacibjaoaaVarPut
import Derived.BigQuiet
import Derived.Deep.QuietTactic
set_option linter.unusedVariables false
set_option linter.unusedSimpArgs false
namespace Go.Proofs.Yteeemiacibjaoaa.Vr
open Go.RowKit Go.Proofs.YteeemiacibjaoaaW.PrintWords Go.Proofs.Yteeemiacibjaoaa.B Go.Proofs.Yteeemiacibjaoaa.Fx

def tV (l : List UInt8) (pos : Int) : Value := .tuple #[.int .u64 (V.tNum l pos), .int .i64 (V.tEnd l pos), .int .i64 (V.tErr l pos)]
theorem tV_err {l : List UInt8} {pos : Int} {e : Nat} (h : V.tErr l pos = e) (h0 : e ≠ 0) : Value.tuple #[.int .u64 0, .int .i64 0, .int .i64 (e : Int)] = tV l pos := by
  unfold tV V.tNum V.tEnd; rw [h, if_neg h0, if_neg h0]; rfl
theorem tErr_in {l y : List UInt8} {p : Nat} (hp : p ≤ l.length) (hy : y = l.drop p) : V.tErr l p = V.vErr y := by
  unfold V.tErr; rw [if_neg (by omega), hy, Int.toNat_natCast]
theorem tV_ok {l y : List UInt8} {p i : Nat} (hp : p ≤ l.length) (hy : y = l.drop p) (h : V.vErr y = 0) (hi : V.lead y = i) : Value.tuple #[.int .u64 (V.v7 (y.take (i + 1))), .int .i64 ((p : Int) + i + 1), .int .i64 0] = tV l p := by
  have h1 := tErr_in hp hy
  unfold tV V.tNum V.tEnd V.vNum V.vLen; rw [h1, h, if_pos rfl, if_pos rfl, Int.toNat_natCast, ← hy, h, if_pos rfl, hi]
  simp; omega
theorem bt_at8 (y : List UInt8) (i : Nat) : B.bt y i = (V.at8 y i : Int) := rfl
theorem or_v7 {y : List UInt8} {i : Nat} (hi : i < y.length) (h9 : i ≤ 9) (hr : i = 9 → V.at8 y 9 ≤ 1) : bits .or .u64 (V.v7 (y.take i) : Int) (IntKind.u64.wrap ((V.at8 y i : Int) % 128 * 2 ^ (7 * i))) = (V.v7 (y.take (i + 1)) : Int) := by
  have hw : ∀ n : Int, 0 ≤ n → n < 2 ^ 64 → IntKind.u64.wrap n = n := by
    intro n h0 h1; exact IntWalk.u64_in n (by omega)
  have hp : (128 : Nat) ^ i = 2 ^ (7 * i) := by rw [Nat.pow_mul]
  have ha := V.v7_take_lt y i
  obtain ⟨d, hd⟩ : ∃ d, d = V.at8 y i % 128 := ⟨_, rfl⟩
  have hd1 : d < 128 := by omega
  have e1 : (V.at8 y i : Int) % 128 * 2 ^ (7 * i) = ((d * 2 ^ (7 * i) : Nat) : Int) := by rw [hd]; push_cast; rfl
  have hx : d * 2 ^ (7 * i) < 2 ^ 64 := by
    rcases Nat.lt_or_ge i 9 with h | h
    · have : d * 2 ^ (7 * i) < 2 ^ 7 * 2 ^ (7 * i) := Nat.mul_lt_mul_of_pos_right (by omega) (Nat.pow_pos (by omega))
      rw [← Nat.pow_add] at this
      exact Nat.lt_of_lt_of_le this (Nat.pow_le_pow_right (by omega) (by omega))
    · obtain rfl : i = 9 := by omega
      have := hr rfl
      have hd2 : d ≤ 1 := by omega
      exact Nat.lt_of_le_of_lt (Nat.mul_le_mul_right (2 ^ (7 * 9)) hd2) (by decide)
  rw [e1, hw _ (by omega) (by exact_mod_cast hx)]
  rw [(bits_nat .u64 64 (by decide) hw (V.v7 (y.take i)) (d * 2 ^ (7 * i)) (by rw [hp] at ha; exact Nat.lt_of_lt_of_le ha (Nat.pow_le_pow_right (by omega) (by omega))) hx).2]
  congr 1
  rw [V.v7_snoc y i hi, ← hd, hp, Nat.mul_comm d, Nat.or_comm, ← Nat.two_pow_add_eq_or_of_lt (by rw [← hp]; exact ha)]
  omega
theorem and127 (x : Nat) (h : x < 256) : bits .and .u8 (x : Int) 127 = (x : Int) % 128 := bits_mask .u8 8 (by decide) wraps_u8 7 (by decide) x (by omega) (by omega)

set_option maxRecDepth 100000 in
set_option maxHeartbeats 400000 in
theorem take_any (A : Option Addr) (c : Nat) (l : List UInt8) (pos : Int) (w : World) (hl : l.length ≤ 140737488355328) (hc : l.length ≤ c) (hr : Rd w A l) :
    Calls Try.prog 86 #[.slice A l.length c, .int .i64 pos] w (Still (tV l pos) w) := by
  have HR := Lib.hid hr
  clear hr
  by_cases h1 : pos < 0
  · have HE := Lib.hid (tV_err (l := l) (pos := pos) (e := 2) (by unfold V.tErr; rw [if_pos (.inl h1)]) (by omega))
    go_enter Try.func86, Try.ntmps86
    go_wp2
    go_step3
    go_wp2
    (try rw [Exit.noGoto_ret])
    go_ret3
    exact ⟨ret_eq HE.out, rfl⟩
  by_cases h2 : (l.length : Int) < pos
  · have HE := Lib.hid (tV_err (l := l) (pos := pos) (e := 2) (by unfold V.tErr; rw [if_pos (.inr h2)]) (by omega))
    go_enter Try.func86, Try.ntmps86
    go_wp2
    go_step3
    go_wp2
    (try rw [Exit.noGoto_ret])
    go_ret3
    exact ⟨ret_eq HE.out, rfl⟩
  obtain ⟨p, rfl⟩ := Int.eq_ofNat_of_zero_le (show 0 ≤ pos by omega)
  have hpl : p ≤ l.length := by omega
  obtain ⟨A', y, hy, hcut, hrd, hyc, hyl⟩ := cutFrom (A := A) (c := c) (p : Int) (by omega) (by omega) hc
  have HRy := Lib.hid (hrd w HR.out)
  have HY := Lib.hid (show y = l.drop p from by have := hy.out; simpa using this)
  have hyn : y.length ≤ 140737488355328 := by omega
  have hyp : p + y.length ≤ 140737488355328 := by have : ((p : Int)).toNat = p := by omega
                                                  omega
  clear hrd hy hyl hyc
  go_enter Try.func86, Try.ntmps86
  go_wp2
  go_step3
  go_wp2
  go_step3
  go_wp2
  go_loop [7, 8, 9, 25] (fun n e d i => ∃ k : Nat, k ≤ y.length ∧ k ≤ 9 ∧ i = .int .i64 k ∧ e = .int .i64 4 ∧ d = .int .i64 ((p : Int) + k) ∧ n = .int .u64 (V.v7 (y.take k)) ∧ Hid (∀ j, j < k → 128 ≤ V.at8 y j)) (fun _ _ _ i => y.length - (intOf i).toNat)
  case atStart => exact ⟨0, by omega, by omega, rfl, rfl, by simp, by simp [V.v7], Lib.hid (fun j h => by omega)⟩
  case round =>
    obtain ⟨k, hk, hk9, rfl, rfl, rfl, rfl, HK⟩ := hrel
    by_cases hlt : k < y.length
    · obtain ⟨ad, rfl, hcell⟩ := HRy.out.at_ k hlt
      have hb := V.at8_lt y k
      rw [bt_at8] at hcell
      obtain ⟨b, hbe⟩ : ∃ b, b = V.at8 y k := ⟨_, rfl⟩
      have hA := and127 b (by omega)
      rw [← hbe] at hb hcell
      have HBE := Lib.hid hbe
      clear hbe
      have hbi : (b : Int) ≤ 255 := by omega
      have HV := Lib.hid (fun (h : k = 9 → b ≤ 1) => or_v7 (y := y) (i := k) hlt hk9 (fun e => by subst e; rw [← HBE.out]; exact h rfl))
      rw [← HBE.out] at HV
      by_cases h9 : k = 9
      · by_cases hb1 : 1 < b
        · have HE := Lib.hid (tV_err (l := l) (pos := p) (e := 20) ((tErr_in hpl HY.out).trans (V.err_range (h9 ▸ HK.out) (h9 ▸ hlt) (by have := HBE.out; rw [h9] at this; rw [← this]; exact hb1))) (by omega))
          have h9' : ((k : Int) == 9) = true := by simp; omega
          clear h9
          go_wp2
          (try rw [Exit.noGoto_ret])
          go_ret3
          exact ⟨ret_eq HE.out, rfl⟩
        · have h128 : ¬ 128 ≤ (b : Int) := by omega
          have h9' : ((k : Int) == 9) = true := by simp; omega
          by_cases h0 : b = 0
          · have HE := Lib.hid (tV_err (l := l) (pos := p) (e := 3) ((tErr_in hpl HY.out).trans (V.err_form HK.out hlt (by rw [← HBE.out]; exact h0) (by omega) hk9)) (by omega))
            have h0' : ((b : Int) == 0) = true := by simp; omega
            have hkp : 0 < (k : Int) := by omega
            clear h9 h0
            go_wp2
            (try rw [Exit.noGoto_ret])
            go_ret3
            exact ⟨ret_eq HE.out, rfl⟩
          · have HO := V.err_ok HK.out hlt (by rw [← HBE.out]; omega) hk9 (fun e => by have := HBE.out; rw [e] at this; omega) (fun _ => by rw [← HBE.out]; exact h0)
            have HE := Lib.hid (tV_ok hpl HY.out HO.1 HO.2)
            have HV2 := Lib.hid (HV.out (fun _ => by omega))
            have h0' : ((b : Int) == 0) = false := by simp; omega
            clear h9 h0 HO
            go_wp2
            (try rw [Exit.noGoto_ret])
            go_ret3
            exact ⟨ret_eq (by rw [← HE.out, ← HV2.out]; rfl), rfl⟩
      · have h9' : ((k : Int) == 9) = false := by simp; omega
        have HV2 := Lib.hid (HV.out (fun e => absurd e h9))
        by_cases h128 : 128 ≤ b
        · have HK2 := Lib.hid (show ∀ j, j < k + 1 → 128 ≤ V.at8 y j from fun j hj => by
            rcases Nat.lt_or_ge j k with h | h
            · exact HK.out j h
            · rw [show j = k by omega, ← HBE.out]; exact h128)
          have hk8 : k + 1 ≤ 9 := by omega
          clear h9
          go_wp2
          go_round
          case rel => exact ⟨k + 1, by omega, hk8, by go_num, rfl, by go_num, congrArg (Value.int .u64) HV2.out, HK2⟩
          case measure => simp [intOf]; omega
        · by_cases h0 : b = 0
          · by_cases hkp : 0 < k
            · have HE := Lib.hid (tV_err (l := l) (pos := p) (e := 3) ((tErr_in hpl HY.out).trans (V.err_form HK.out hlt (by rw [← HBE.out]; exact h0) (by omega) hk9)) (by omega))
              have h0' : ((b : Int) == 0) = true := by simp; omega
              clear h9 h0
              go_wp2
              (try rw [Exit.noGoto_ret])
              go_ret3
              exact ⟨ret_eq HE.out, rfl⟩
            · have HO := V.err_ok HK.out hlt (by rw [← HBE.out]; omega) hk9 (fun e => absurd e h9) (fun h => absurd h hkp)
              have HE := Lib.hid (tV_ok hpl HY.out HO.1 HO.2)
              have h0' : ((b : Int) == 0) = true := by simp; omega
              clear h9 h0 HO
              go_wp2
              (try rw [Exit.noGoto_ret])
              go_ret3
              exact ⟨ret_eq (by rw [← HE.out, ← HV2.out]; rfl), rfl⟩
          · have HO := V.err_ok HK.out hlt (by rw [← HBE.out]; omega) hk9 (fun e => absurd e h9) (fun _ => by rw [← HBE.out]; exact h0)
            have HE := Lib.hid (tV_ok hpl HY.out HO.1 HO.2)
            have h0' : ((b : Int) == 0) = false := by simp; omega
            clear h9 h0 HO
            go_wp2
            (try rw [Exit.noGoto_ret])
            go_ret3
            exact ⟨ret_eq (by rw [← HE.out, ← HV2.out]; rfl), rfl⟩
    · have HE := Lib.hid (tV_err (l := l) (pos := p) (e := 4) ((tErr_in hpl HY.out).trans (V.err_short (fun j hj => HK.out j (by omega)) (by omega))) (by omega))
      go_wp2
      (try rw [Exit.noGoto_ret])
      go_ret3
      exact ⟨ret_eq HE.out, rfl⟩
theorem cell9 {w : World} {ad : Addr} {p : Nat} {v : Value} (h : w.cell? (ad.add (p + 9)) = some v) : w.cell? { block := ad.block, off := ad.off + (p + 8 + 1) } = some v := by
  rw [← h]; simp [Addr.add]
theorem step128 {x : List UInt8} {i : Nat} (hi : i < x.length) (h : V.v7 x < 18446744073709551616) :
    IntKind.u64.wrap (IntKind.u64.wrap ((V.v7 (x.drop (i + 1)) : Int) * 128) + (V.at8 x i : Int) % 128) = (V.v7 (x.drop i) : Int) := by
  have h1 := V.v7_drop x i hi
  have h2 := V.v7_drop_le x i
  rw [IntWalk.u64_in ((V.v7 (x.drop (i + 1)) : Int) * 128) (by omega), IntWalk.u64_in _ (by omega)]
  omega
set_option maxRecDepth 100000 in
set_option maxHeartbeats 800000 in
theorem rtake_any (A : Option Addr) (c : Nat) (l : List UInt8) (pos : Int) (w : World) (hl : l.length ≤ 140737488355328) (hr : Rd w A l) :
    Calls Try.prog 72 #[.slice A l.length c, .int .i64 pos] w (Still (tV l pos) w) := by
  have HR := Lib.hid hr
  clear hr
  by_cases h1 : pos < 0
  · have HE := Lib.hid (tV_err (l := l) (pos := pos) (e := 2) (by unfold V.tErr; rw [if_pos (.inl h1)]) (by omega))
    go_enter Try.func72, Try.ntmps72
    go_wp2
    go_ret3
    exact ⟨ret_eq HE.out, rfl⟩
  by_cases h2 : (l.length : Int) < pos
  · have HE := Lib.hid (tV_err (l := l) (pos := pos) (e := 2) (by unfold V.tErr; rw [if_pos (.inr h2)]) (by omega))
    go_enter Try.func72, Try.ntmps72
    go_wp2
    go_ret3
    exact ⟨ret_eq HE.out, rfl⟩
  obtain ⟨p, rfl⟩ := Int.eq_ofNat_of_zero_le (show 0 ≤ pos by omega)
  have hpl : p ≤ l.length := by omega
  obtain ⟨y, hy⟩ : ∃ y, y = l.drop p := ⟨_, rfl⟩
  have hyl : p + y.length = l.length := by rw [hy, List.length_drop]; omega
  have HYL := Lib.hid hyl
  have HY := Lib.hid hy
  have hy1 : p + y.length ≤ l.length := by omega
  have hy2 : l.length ≤ p + y.length := by omega
  have HC : Hid (∀ i, i < y.length → ∃ ad, A = some ad ∧ w.cell? (ad.add (p + i)) = some (.int .u8 (V.at8 y i))) := Lib.hid (fun i hi => by
    obtain ⟨ad, h1, h2⟩ := HR.out.at_ (p + i) (by omega)
    exact ⟨ad, h1, by rw [h2, bt_at8, HY.out, V.at8_drop]⟩)
  have HE20 : Hid (∀ k, (∀ j, j < k → 128 ≤ V.at8 y j) → 9 ≤ k → 9 < y.length → 1 < V.at8 y 9 → Value.tuple #[.int .u64 0, .int .i64 0, .int .i64 20] = tV l p) := Lib.hid (fun k HK h9 hl9 hb => tV_err (l := l) (pos := p) (e := 20) ((tErr_in hpl HY.out).trans (V.err_range (fun j hj => HK j (by omega)) hl9 hb)) (by omega))
  clear hy hyl
  go_enter Try.func72, Try.ntmps72
  go_wp2
  go_loop [7] (fun n => ∃ k : Nat, k ≤ y.length ∧ k ≤ 10 ∧ n = .int .i64 k ∧ Hid (∀ j, j < k → 128 ≤ V.at8 y j)) (fun n => y.length - (intOf n).toNat)
  case atStart => exact ⟨0, by omega, by omega, rfl, Lib.hid (fun j h => by omega)⟩
  case round =>
    obtain ⟨k, hk, hk10, rfl, HK⟩ := hrel
    rcases Nat.lt_or_ge k y.length with hlt | hge
    · obtain ⟨ad, rfl, hcell⟩ := HC.out k hlt
      have hb := V.at8_lt y k
      obtain ⟨b, hbe⟩ : ∃ b, b = V.at8 y k := ⟨_, rfl⟩
      rw [← hbe] at hb hcell
      have HBE := Lib.hid hbe
      have hbi : (b : Int) ≤ 255 := by omega
      clear hbe
      rcases Nat.lt_or_ge k 10 with hk9 | hk9
      · rcases Nat.lt_or_ge 127 b with hb1 | hb1
        · -- on
          have HK2 := Lib.hid (show ∀ j, j < k + 1 → 128 ≤ V.at8 y j from fun j hj => by
            rcases Nat.lt_or_ge j k with h | h
            · exact HK.out j h
            · rw [show j = k by omega, ← HBE.out]; exact hb1)
          go_wp2
          go_round
          case rel => exact ⟨k + 1, by omega, by omega, by go_num, HK2⟩
          case measure => simp [intOf]; omega
        · -- the last byte
          by_cases h9 : k = 9 ∧ 1 < b
          · have HE := Lib.hid (HE20.out k HK.out (by omega) (by omega) (by have := HBE.out; rw [h9.1] at this; omega))
            have hcell9 := cell9 (show w.cell? (ad.add (p + 9)) = some (.int .u8 b) by rw [← hcell, h9.1])
            have h9a : 9 ≤ k := by omega
            have h9b : 1 < b := h9.2
            clear h9
            go_wp2
            go_ret3
            exact ⟨ret_eq HE.out, rfl⟩
          · by_cases h0 : 0 < k ∧ b = 0
            · have HE := Lib.hid (tV_err (l := l) (pos := p) (e := 3) ((tErr_in hpl HY.out).trans (V.err_form HK.out hlt (by rw [← HBE.out]; exact h0.2) h0.1 (by omega))) (by omega))
              have h0' : ((b : Int) == 0) = true := by simp; omega
              have hkp := h0.1
              by_cases hk8 : 9 ≤ k
              · have hcell9 := cell9 (show w.cell? (ad.add (p + 9)) = some (.int .u8 b) by rw [← hcell, show k = 9 by omega])
                have hb1' : ¬ 1 < (b : Int) := by omega
                clear h0 h9
                go_wp2
                go_ret3
                exact ⟨ret_eq HE.out, rfl⟩
              · clear h0 h9
                go_wp2
                go_ret3
                exact ⟨ret_eq HE.out, rfl⟩
            · have HO := V.err_ok HK.out hlt (by rw [← HBE.out]; omega) (by omega) (fun e => by have := HBE.out; rw [e] at this; omega) (fun h => by rw [← HBE.out]; intro h2; exact h0 ⟨h, h2⟩)
              have HE := Lib.hid (tV_ok hpl HY.out HO.1 HO.2)
              have hv := (V.v7_ok HO.1).2.1
              rw [HO.2] at hv
              obtain ⟨x, hx⟩ : ∃ x, x = y.take (k + 1) := ⟨_, rfl⟩
              have hxl : x.length = k + 1 := by rw [hx, List.length_take]; omega
              rw [← hx] at hv HE
              have HV := Lib.hid hv
              have HXL := Lib.hid hxl
              have HX := Lib.hid hx
              have h0' : 0 < k → ((b : Int) == 0) = false := fun h => by simp; intro h2; exact h0 ⟨h, by omega⟩
              have hb1' : 9 ≤ k → ¬ 1 < (b : Int) := fun h => by omega
              have hcell9 := fun (h : 9 ≤ k) => cell9 (show w.cell? (ad.add (p + 9)) = some (.int .u8 b) by rw [← hcell, show k = 9 by omega])
              have HH9 := Lib.hid hb1'
              have HHC := Lib.hid hcell9
              have HH0 := Lib.hid h0'
              clear hv hxl hx h0 h9 HO h0' hb1' hcell9
              rcases Nat.lt_or_ge k 9 with hk8 | hk8
              all_goals by_cases hkp : 0 < k
              all_goals first | (exfalso; omega) | skip
              all_goals first | (have hb1' := HH9.out hk8; have hcell9 := HHC.out hk8) | skip
              all_goals first | (have h0' := HH0.out hkp) | skip
              all_goals
                go_wp2
                go_loop [8, 9] (fun n i => ∃ j : Nat, j ≤ k + 1 ∧ i = .int .i64 ((j : Int) - 1) ∧ n = .int .u64 (V.v7 (x.drop j))) (fun _ i => (intOf i + 1).toNat)
                case atStart => exact ⟨k + 1, by omega, by congr 1; omega, by rw [List.drop_eq_nil_of_le (by rw [HXL.out]; exact Nat.le_refl _)]; rfl⟩
                case round =>
                  obtain ⟨j, hj, rfl, rfl⟩ := hrel
                  by_cases hlt2 : 1 ≤ j
                  · obtain ⟨j, rfl⟩ : ∃ i, j = i + 1 := ⟨j - 1, by omega⟩
                    obtain ⟨ad2, hae, hc2⟩ := HC.out j (by omega)
                    injection hae with hae
                    subst hae
                    have hj8 := V.at8_lt y j
                    have HS := Lib.hid (step128 (x := x) (i := j) (by rw [HXL.out]; omega) HV.out)
                    rw [HX.out, V.at8_take (by omega), ← HX.out] at HS
                    rw [show ((j + 1 : Nat) : Int) - 1 = j by omega]
                    go_wp2
                    go_round
                    case rel => exact ⟨j, by omega, rfl, congrArg (Value.int .u64) HS.out⟩
                    case measure => simp [intOf]
                  · obtain rfl : j = 0 := by omega
                    rw [show ((0 : Nat) : Int) - 1 = -1 by omega]
                    go_wp2
                    go_ret3
                    exact ⟨ret_eq HE.out, rfl⟩
      · -- ten bytes
        obtain ⟨ad9, hae, hcell9⟩ := HC.out 9 (by omega)
        injection hae with hae
        subst hae
        replace hcell9 := cell9 hcell9
        have h9b : 127 < V.at8 y 9 := HK.out 9 (by omega)
        have HE := Lib.hid (HE20.out k HK.out (by omega) (by omega) (by omega))
        have h9c : (1 : Int) < (V.at8 y 9 : Int) := by omega
        have h9a : 9 ≤ k := by omega
        go_wp2
        go_ret3
        exact ⟨ret_eq HE.out, rfl⟩
    · rcases Nat.lt_or_ge y.length 10 with h10 | h10
      · have HE := Lib.hid (tV_err (l := l) (pos := p) (e := 4) ((tErr_in hpl HY.out).trans (V.err_short (fun j hj => HK.out j (by omega)) (by omega))) (by omega))
        by_cases h9 : 9 ≤ k
        all_goals
          go_wp2
          go_ret3
          exact ⟨ret_eq HE.out, rfl⟩
      · obtain ⟨ad, rfl, hcell9⟩ := HC.out 9 (by omega)
        replace hcell9 := cell9 hcell9
        have h9b : 127 < V.at8 y 9 := HK.out 9 (by omega)
        have HE := Lib.hid (HE20.out k HK.out (by omega) (by omega) (by omega))
        have h9c : (1 : Int) < (V.at8 y 9 : Int) := by omega
        have h9a : 9 ≤ k := by omega
        go_wp2
        go_ret3
        exact ⟨ret_eq HE.out, rfl⟩
end Go.Proofs.Yteeemiacibjaoaa.Vr
