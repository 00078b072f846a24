/- stillagelaw02: the walks of lives, VarintTakes, VarintPuts, VarintBack. -/
import Derived.Test.YtcgjngcogdmbaaaVarTake
import Derived.Deep.RegionHeld3
set_option linter.unusedVariables false
set_option linter.unusedSimpArgs false
namespace Go.Proofs.Ytcgjngcogdmbaaa.L02
open Go.RowKit Go.Proofs.YtcgjngcogdmbaaaW.PrintWords Go.Proofs.Ytcgjngcogdmbaaa.B Go.Proofs.Ytcgjngcogdmbaaa.Fx Go.Proofs.Ytcgjngcogdmbaaa.Vr

theorem enc300 : V.enc 300 = [172, 2] := by
  rw [V.enc_big (by omega), V.enc_small (by omega)]; decide
theorem tV300 : tV [172, 2] 0 = .tuple #[.int .u64 300, .int .i64 2, .int .i64 0] := by
  unfold tV
  rw [show V.tNum [172, 2] 0 = 300 by decide, show V.tEnd [172, 2] 0 = 2 by decide, show V.tErr [172, 2] 0 = 0 by decide]; rfl
set_option maxRecDepth 100000 in
set_option maxHeartbeats 400000 in
theorem lives_any (w : World) : Calls Try.prog 37 #[] w (Kept (.bool true) w) := by
  go_enter Try.func37, Try.ntmps37
  go_wp2_with fail
  refine (take_any (some ⟨w.heap.size, 0, none⟩) 2 [172, 2] 0 _ (by simp) (by simp) (rd_lit w [172, 2] _ rfl (by simp))).mono ?_
  rintro e w1 ⟨rfl, rfl⟩
  rw [tV300]
  go_wp2_with fail
  refine (put_any none 0 [] 300 _ (by simp) (by omega) (Rd.nil _)).mono ?_
  rintro e w2 ⟨v1, rfl, hown, hb⟩
  rw [enc300, List.nil_append] at hown
  obtain ⟨A, c, rfl, hc, hrd⟩ := hown.reads
  have HR := Lib.hid hrd
  have HB := Lib.hid (below_step' (below_alloc (Below.refl _ _) _) hb)
  clear hown hrd hb hc
  go_wp2_with fail
  refine (R01.same_any A c [172, 2] (some ⟨w2.heap.size, 0, none⟩) 2 [172, 2] _ (by simp) (HR.out.below (below_alloc (Below.refl _ _) _)) (rd_lit w2 [172, 2] _ rfl (by simp))).mono ?_
  rintro e w3 ⟨rfl, n, rfl⟩
  rw [show R01.sameB [172, 2] [172, 2] = true by decide]
  go_wp2
  go_ret
  exact ⟨rfl, below_step' HB.out (pw_below_drewN (below_alloc (Below.refl _ _) _) n)⟩

set_option maxRecDepth 100000 in
set_option maxHeartbeats 400000 in
theorem takes_any (A : Option Addr) (c : Nat) (l : List UInt8) (pos : Int) (w : World) (hr : Rd w A l) (hc : l.length ≤ c) (hl : l.length ≤ 140737488351232) (_ : -9223372036854775808 ≤ pos ∧ pos ≤ 9223372036854775807) :
    Calls Try.prog 11 #[.slice A l.length c, .int .i64 pos] w (Kept (.bool true) w) := by
  have H1 := Lib.hid (take_any A c l pos w (by omega) hc hr)
  have H2 := Lib.hid (rtake_any A c l pos w (by omega) hr)
  clear hr hc
  rw [show tV l pos = .tuple #[.int .u64 (V.tNum l pos), .int .i64 (V.tEnd l pos), .int .i64 (V.tErr l pos)] from rfl] at H1 H2
  generalize V.tNum l pos = n at *
  generalize V.tEnd l pos = d at *
  generalize V.tErr l pos = e at *
  go_enter Try.func11, Try.ntmps11
  go_wp2_with (first
    | (go_at_call 35; refine H1.out.mono ?_; rintro e w' ⟨rfl, rfl⟩)
    | (go_at_call 36; refine H2.out.mono ?_; rintro e w' ⟨rfl, rfl⟩)
    | (go_at_call 37; refine (lives_any _).mono ?_; rintro e w' ⟨rfl, hb⟩; have HB := Lib.hid hb; clear hb))
  go_ret
  exact ⟨rfl, HB.out⟩

set_option maxRecDepth 100000 in
set_option maxHeartbeats 400000 in
theorem puts_any (A : Option Addr) (c : Nat) (l : List UInt8) (n : Nat) (w : World) (hr : Rd w A l) (hc : l.length ≤ c) (hl : l.length ≤ 140737488351232) (hn : n < 18446744073709551616) :
    Calls Try.prog 14 #[.slice A l.length c, .int .u64 n] w (Kept (.bool true) w) := by
  have HR := Lib.hid hr
  have HN := Lib.hid hn
  clear hr hc hn
  have hen := V.enc_len10 HN.out
  obtain ⟨x, hx⟩ : ∃ x, x = l ++ V.enc n := ⟨_, rfl⟩
  have hln : x.length ≤ 140737488355328 := by rw [hx, List.length_append]; omega
  obtain ⟨y, hy⟩ : ∃ y, y = V.enc n := ⟨_, rfl⟩
  have H1 := Lib.hid (put_any A c l n w (by omega) HN.out HR.out)
  have H2 := Lib.hid (fun (w1 : World) (h : Rd w1 A l) => rput_any A c l n w1 (by omega) HN.out h)
  have H3 := Lib.hid (fun (w1 : World) => rput_any none 0 [] n w1 (by simp) HN.out (Rd.nil _))
  have H4 := Lib.hid (fun (w1 : World) => size_any n w1 HN.out)
  rw [← hx] at H1 H2
  rw [List.nil_append, ← hy] at H3
  rw [← hy] at H4
  clear hx hy hen
  go_enter Try.func14, Try.ntmps14
  go_wp2_with fail
  refine H1.out.mono ?_
  rintro e w1 ⟨v1, rfl, hown, hb⟩
  obtain ⟨A1, c1, rfl, -, hrd⟩ := hown.reads
  have HR1 := Lib.hid hrd
  have HB1 := Lib.hid hb
  clear hown hrd hb
  go_wp2_with fail
  refine (H2.out w1 (HR.out.below HB1.out)).mono ?_
  rintro e w2 ⟨v2, rfl, hown, hb⟩
  obtain ⟨A2, c2, rfl, -, hrd⟩ := hown.reads
  have HR2 := Lib.hid hrd
  have HB2 := Lib.hid hb
  clear hown hrd hb
  go_wp2_with fail
  refine (R01.same_any A1 c1 x A2 c2 x w2 hln (HR1.out.below HB2.out) HR2.out).mono ?_
  rintro e w3 ⟨rfl, m, rfl⟩
  rw [show R01.sameB x x = true by simp [R01.sameB]]
  have HB3 := Lib.hid (below_step' HB1.out (below_step' HB2.out (pw_below_drewN (Below.refl _ _) m)))
  go_wp2_with fail
  refine (H4.out _).mono ?_
  rintro e w3 ⟨rfl, rfl⟩
  go_wp2_with fail
  refine (H3.out _).mono ?_
  rintro e w4 ⟨v4, rfl, hown, hb⟩
  obtain ⟨A4, c4, rfl, -, -⟩ := hown.reads
  have HB4 := Lib.hid (below_step' HB3.out hb)
  clear hown hb
  go_wp2_with (go_at_call 37; refine (lives_any _).mono ?_; rintro e w' ⟨rfl, hb⟩; have HB := Lib.hid (below_step' HB4.out hb); clear hb)
  go_ret
  exact ⟨rfl, HB.out⟩

theorem back_end (l : List UInt8) (n : Nat) (h : n < 18446744073709551616) : tV (l ++ V.enc n) l.length = .tuple #[.int .u64 n, .int .i64 ((l ++ V.enc n).length : Nat), .int .i64 0] := by
  have h1 := V.take_enc h []
  rw [List.append_nil] at h1
  have h2 : (l ++ V.enc n).drop l.length = V.enc n := List.drop_left' rfl
  have h3 : V.tErr (l ++ V.enc n) l.length = 0 := by
    unfold V.tErr; rw [if_neg (by rw [List.length_append]; omega), Int.toNat_natCast, h2, h1.1]
  unfold tV V.tNum V.tEnd
  rw [h3, if_pos rfl, if_pos rfl, Int.toNat_natCast, h2, h1.2.1, h1.2.2]
  simp
theorem back_enc {l : List UInt8} {pos : Int} (h : V.tErr l pos = 0) : 0 ≤ pos ∧ pos ≤ V.tEnd l pos ∧ V.tEnd l pos ≤ l.length ∧ V.tNum l pos < 18446744073709551616 ∧ V.enc (V.tNum l pos) = (l.take (V.tEnd l pos).toNat).drop pos.toNat := by
  have h0 : ¬ (pos < 0 ∨ (l.length : Int) < pos) := by intro h2; unfold V.tErr at h; rw [if_pos h2] at h; cases h
  obtain ⟨p, rfl⟩ := Int.eq_ofNat_of_zero_le (show 0 ≤ pos by omega)
  have hv : V.vErr (l.drop p) = 0 := by unfold V.tErr at h; rwa [if_neg h0, Int.toNat_natCast] at h
  obtain ⟨h1, h2, h3, h4, h5⟩ := V.v7_ok hv
  have e1 : V.tNum l p = V.v7 ((l.drop p).take (V.lead (l.drop p) + 1)) := by unfold V.tNum V.vNum; rw [h, if_pos rfl, Int.toNat_natCast, hv, if_pos rfl]
  have e2 : V.tEnd l p = (p : Int) + (V.lead (l.drop p) + 1 : Nat) := by unfold V.tEnd V.vLen; rw [h, if_pos rfl, Int.toNat_natCast]
  rw [List.length_drop] at h3
  refine ⟨by omega, by rw [e2]; omega, by rw [e2]; omega, by rw [e1]; exact h2, ?_⟩
  rw [e1, e2, V.enc_v7 _ (by rw [List.length_drop]; exact h3) h5, List.drop_take]
  congr 1
  omega

/-- what is kept while a region's order is drawn -/
structure Held (w : World) (A : Option Addr) (l : List UInt8) (W : World) : Prop where
  rd : Rd W A l
  below : Below w.heap.size w W
theorem Held.step {w : World} {A : Option Addr} {l : List UInt8} {W W' : World} (h : Held w A l W) (hb : Below W.heap.size W W') : Held w A l W' := ⟨h.rd.below hb, below_step' h.below hb⟩
set_option maxRecDepth 100000 in
set_option maxHeartbeats 400000 in
theorem back_any (A : Option Addr) (c : Nat) (l : List UInt8) (n : Nat) (pos : Int) (w : World) (hr : Rd w A l) (hc : l.length ≤ c) (hl : l.length ≤ 140737488351232) (hn : n < 18446744073709551616) (_ : -9223372036854775808 ≤ pos ∧ pos ≤ 9223372036854775807) :
    Calls Try.prog 12 #[.slice A l.length c, .int .u64 n, .int .i64 pos] w (Kept (.bool true) w) := by
  have HR := Lib.hid hr
  have HN := Lib.hid hn
  have HC := Lib.hid hc
  clear hr hc hn
  have hen := V.enc_len10 HN.out
  have H2 := Lib.hid (back_end l n HN.out)
  obtain ⟨x, hx⟩ : ∃ x, x = l ++ V.enc n := ⟨_, rfl⟩
  have hln : x.length ≤ 140737488355328 := by rw [hx, List.length_append]; omega
  have H1 := Lib.hid (put_any A c l n w (by omega) HN.out HR.out)
  rw [← hx] at H1 H2
  have H3 := Lib.hid (fun (w1 : World) (h : Rd w1 A l) => take_any A c l pos w1 (by omega) HC.out h)
  rw [show tV l pos = .tuple #[.int .u64 (V.tNum l pos), .int .i64 (V.tEnd l pos), .int .i64 (V.tErr l pos)] from rfl] at H3
  clear hx hen
  by_cases he : V.tErr l pos = 0
  · have HE := Lib.hid he
    obtain ⟨b1, b2, b3, b4, b5⟩ := back_enc he
    clear he
    rw [HE.out] at H3
    obtain ⟨A', y, hy, hcut, hrd, -, hyl⟩ := cutMid (A := A) (c := c) pos (V.tEnd l pos) b1 b2 b3 HC.out
    have H4 := Lib.hid (fun (w1 : World) => put_any none 0 [] (V.tNum l pos) w1 (by simp) b4 (Rd.nil _))
    rw [List.nil_append, b5, ← hy.out] at H4
    have hyb : y.length ≤ 140737488355328 := by omega
    have HRD := Lib.hid hrd
    clear b4 b5 hyl hrd
    generalize V.tEnd l pos = d at *
    generalize V.tNum l pos = k at *
    obtain ⟨p, rfl⟩ := Int.eq_ofNat_of_zero_le b1
    obtain ⟨q, rfl⟩ := Int.eq_ofNat_of_zero_le (show 0 ≤ d by omega)
    simp only [Int.toNat_natCast] at hcut
    go_enter Try.func12, Try.ntmps12
    go_wp2_with fail
    refine H1.out.mono ?_
    rintro e w1 ⟨v1, rfl, hown, hb⟩
    obtain ⟨A1, c1, rfl, hc1, hrd⟩ := hown.reads
    have HR1 := Lib.hid hrd
    have HB1 := Lib.hid hb
    have HC1 := Lib.hid hc1
    clear hown hrd hb hc1
    go_wp2_with fail
    refine (take_any A1 c1 x l.length w1 hln HC1.out HR1.out).mono ?_
    rintro e w2 ⟨rfl, rfl⟩
    rw [H2.out]
    go_wp2_with fail
    refine (H3.out _ (HR.out.below HB1.out)).mono ?_
    rintro e w2 ⟨rfl, rfl⟩
    go_wp2_with fail
    have HS : Held w A l w2.drew := ⟨HR.out.below (below_drew (W := w2) HB1.out), below_drew (W := w2) HB1.out⟩
    go_region_held3 (fun W => Held w A l W) ((first | assumption | exact Held.step (by assumption) (by assumption)))
      (first
      | (go_at_call 38; refine (H4.out _).mono ?_; rintro e w3 ⟨v3, rfl, hown, hb⟩; obtain ⟨A3, c3, rfl, -, hrd⟩ := hown.reads; have HR3 := Lib.hid hrd; clear hown hrd)
      | (go_at_call 27; (have hx : Held w A l w3 := by assumption); refine (R01.same_any A3 c3 y A' (c - p) y w3 hyb HR3.out (HRD.out w3 hx.rd)).mono ?_; clear hx; rintro e w4 ⟨rfl, m, rfl⟩; have hb : Below w3.heap.size w3 (w3.drewN m) := pw_below_drewN (Below.refl _ _) m; rw [show R01.sameB y y = true by simp [R01.sameB]])
      | (go_at_call 37; refine (lives_any _).mono ?_; rintro e w5 ⟨rfl, hb⟩))
    all_goals go_wp2
    all_goals go_ret
    all_goals refine ⟨rfl, Held.below (A := A) (l := l) ?_⟩
    all_goals assumption
  · obtain ⟨e0, hx, he0⟩ : ∃ e : Nat, ((e : Int) != 0) = true ∧ e = V.tErr l pos := ⟨_, by simpa using he, rfl⟩
    have HX := Lib.hid hx
    rw [← he0] at H3
    clear he he0 hx
    generalize V.tEnd l pos = d at *
    generalize V.tNum l pos = k at *
    go_enter Try.func12, Try.ntmps12
    go_wp2_with fail
    refine H1.out.mono ?_
    rintro e w1 ⟨v1, rfl, hown, hb⟩
    obtain ⟨A1, c1, rfl, hc1, hrd⟩ := hown.reads
    have HR1 := Lib.hid hrd
    have HB1 := Lib.hid hb
    have HC1 := Lib.hid hc1
    clear hown hrd hb hc1
    go_wp2_with fail
    refine (take_any A1 c1 x l.length w1 hln HC1.out HR1.out).mono ?_
    rintro e w2 ⟨rfl, rfl⟩
    rw [H2.out]
    go_wp2_with fail
    refine (H3.out _ (HR.out.below HB1.out)).mono ?_
    rintro e w2 ⟨rfl, rfl⟩
    go_wp2_with fail
    have HS : Held w A l w2.drew := ⟨HR.out.below (below_drew (W := w2) HB1.out), below_drew (W := w2) HB1.out⟩
    have hx := HX.out
    refine wp_region_held_drew (S := fun W => Held w A l W) (by kernel_rfl) HS (fun hHeld => ?_)
    refine wpAnyH_take (i := 0) (v := _) rfl (by kernel_rfl) (by kernel_rfl) (by kernel_rfl) (fun _ _ _ h => h) (Or.inl ⟨by kernel_rfl, fun w _ => by go_simp <;> with_reducible rfl⟩) hHeld ?_
    simp only [List.getElem_toArray, List.getElem_cons_succ, List.getElem_cons_zero, Act.put, List.setIfInBounds_toArray, List.set_cons_zero, List.set_cons_succ]
    refine wpAnyH_take (i := 1) (v := .bool true) rfl (by kernel_rfl) (by kernel_rfl) (by kernel_rfl) (fun _ _ _ h => h) (Or.inl ⟨by kernel_rfl, fun w _ => by go_simp <;> with_reducible rfl⟩) hHeld ?_
    simp only [List.getElem_toArray, List.getElem_cons_succ, List.getElem_cons_zero, Act.put, List.setIfInBounds_toArray, List.set_cons_zero, List.set_cons_succ]
    refine wpAnyH_take (i := 2) (v := .bool true) rfl (by kernel_rfl) (by kernel_rfl) (by kernel_rfl) (fun _ _ _ h => h) (Or.inl ⟨by kernel_rfl, fun w _ => by go_simp <;> with_reducible rfl⟩) hHeld ?_
    simp only [List.getElem_toArray, List.getElem_cons_succ, List.getElem_cons_zero, Act.put, List.setIfInBounds_toArray, List.set_cons_zero, List.set_cons_succ]
    refine wpAnyH_take (i := 3) (v := undef) rfl (by kernel_rfl) (by kernel_rfl) (by kernel_rfl) (fun _ _ _ h => h) (Or.inr ⟨by kernel_rfl, rfl⟩) hHeld ?_
    simp only [List.getElem_toArray, List.getElem_cons_succ, List.getElem_cons_zero, Act.put, List.setIfInBounds_toArray, List.set_cons_zero, List.set_cons_succ]
    refine wpAnyH_take (i := 4) (v := undef) rfl (by kernel_rfl) (by kernel_rfl) (by kernel_rfl) (fun _ _ _ h => h) (Or.inr ⟨by kernel_rfl, rfl⟩) hHeld ?_
    simp only [List.getElem_toArray, List.getElem_cons_succ, List.getElem_cons_zero, Act.put, List.setIfInBounds_toArray, List.set_cons_zero, List.set_cons_succ]
    refine wpAnyH_take (i := 5) (v := undef) rfl (by kernel_rfl) (by kernel_rfl) (by kernel_rfl) (fun _ _ _ h => h) (Or.inr ⟨by kernel_rfl, rfl⟩) hHeld ?_
    simp only [List.getElem_toArray, List.getElem_cons_succ, List.getElem_cons_zero, Act.put, List.setIfInBounds_toArray, List.set_cons_zero, List.set_cons_succ]
    refine wpAnyH_take (i := 6) (v := undef) rfl (by kernel_rfl) (by kernel_rfl) (by kernel_rfl) (fun _ _ _ h => h) (Or.inr ⟨by kernel_rfl, rfl⟩) hHeld ?_
    simp only [List.getElem_toArray, List.getElem_cons_succ, List.getElem_cons_zero, Act.put, List.setIfInBounds_toArray, List.set_cons_zero, List.set_cons_succ]
    refine wpAnyH_take (i := 7) (v := undef) rfl (by kernel_rfl) (by kernel_rfl) (by kernel_rfl) (fun _ _ _ h => h) (Or.inr ⟨by kernel_rfl, rfl⟩) hHeld ?_
    simp only [List.getElem_toArray, List.getElem_cons_succ, List.getElem_cons_zero, Act.put, List.setIfInBounds_toArray, List.set_cons_zero, List.set_cons_succ]
    refine wpAnyH_take (i := 8) (v := undef) rfl (by kernel_rfl) (by kernel_rfl) (by kernel_rfl) (fun _ _ _ h => h) (Or.inr ⟨by kernel_rfl, rfl⟩) hHeld ?_
    simp only [List.getElem_toArray, List.getElem_cons_succ, List.getElem_cons_zero, Act.put, List.setIfInBounds_toArray, List.set_cons_zero, List.set_cons_succ]
    refine wpAnyH_take (i := 9) (v := undef) rfl (by kernel_rfl) (by kernel_rfl) (by kernel_rfl) (fun _ _ _ h => h) (Or.inr ⟨by kernel_rfl, rfl⟩) hHeld ?_
    simp only [List.getElem_toArray, List.getElem_cons_succ, List.getElem_cons_zero, Act.put, List.setIfInBounds_toArray, List.set_cons_zero, List.set_cons_succ]
    refine wpAnyH_take (i := 10) (v := .bool true) rfl (by kernel_rfl) (by kernel_rfl) (by kernel_rfl) (fun _ _ _ h => h) (Or.inl ⟨by kernel_rfl, fun w _ => by go_simp <;> with_reducible rfl⟩) hHeld ?_
    simp only [List.getElem_toArray, List.getElem_cons_succ, List.getElem_cons_zero, Act.put, List.setIfInBounds_toArray, List.set_cons_zero, List.set_cons_succ]
    refine wpAnyH_take (i := 11) (v := .bool true) rfl (by kernel_rfl) (by kernel_rfl) (by kernel_rfl) (fun _ _ _ h => h) (Or.inl ⟨by kernel_rfl, fun w _ => by go_simp <;> with_reducible rfl⟩) hHeld ?_
    simp only [List.getElem_toArray, List.getElem_cons_succ, List.getElem_cons_zero, Act.put, List.setIfInBounds_toArray, List.set_cons_zero, List.set_cons_succ]
    refine wpAnyH_ready (rs := [12]) (by kernel_rfl) (by simp) ?_
    refine AllReadyH.cons rfl (fun K hK => ?_) ?_
    case refine_2 => exact AllReadyH.nil
    go_simp
    refine (lives_any _).mono ?_; rintro e w5 ⟨rfl, hb⟩
    refine hK.out _ _ (Held.step hHeld hb) (fun hHeld => ?_)
    clear hK K
    try simp only [List.getElem_toArray, List.getElem_cons_succ, List.getElem_cons_zero, Act.put, List.setIfInBounds_toArray, List.set_cons_zero, List.set_cons_succ]
    refine wpAnyH_take (i := 13) (v := .bool true) rfl (by kernel_rfl) (by kernel_rfl) (by kernel_rfl) (fun _ _ _ h => h) (Or.inl ⟨by kernel_rfl, fun w _ => by go_simp <;> with_reducible rfl⟩) hHeld ?_
    simp only [List.getElem_toArray, List.getElem_cons_succ, List.getElem_cons_zero, Act.put, List.setIfInBounds_toArray, List.set_cons_zero, List.set_cons_succ]
    refine wpAnyH_take (i := 14) (v := .bool true) rfl (by kernel_rfl) (by kernel_rfl) (by kernel_rfl) (fun _ _ _ h => h) (Or.inl ⟨by kernel_rfl, fun w _ => by go_simp <;> with_reducible rfl⟩) hHeld ?_
    simp only [List.getElem_toArray, List.getElem_cons_succ, List.getElem_cons_zero, Act.put, List.setIfInBounds_toArray, List.set_cons_zero, List.set_cons_succ]
    refine wpAnyH_done (by kernel_rfl) ?_ _
    go_wp2
    all_goals go_ret
    all_goals refine ⟨by kernel_rfl, Held.below (A := A) (l := l) ?_⟩
    all_goals assumption
end Go.Proofs.Ytcgjngcogdmbaaa.L02
