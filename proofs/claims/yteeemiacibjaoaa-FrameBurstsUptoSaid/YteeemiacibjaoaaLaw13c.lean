/- stillagelaw13: FrameBursts. -/
import Derived.Test.YteeemiacibjaoaaLaw13y
set_option linter.unusedVariables false
set_option linter.unusedSimpArgs false
namespace Go.Proofs.Yteeemiacibjaoaa.L13
open Go.RowKit Go.Proofs.YteeemiacibjaoaaW.PrintWords Go.Proofs.Yteeemiacibjaoaa.B Go.Proofs.Yteeemiacibjaoaa.Fx Go.Proofs.Yteeemiacibjaoaa.CrcW Go.Proofs.Yteeemiacibjaoaa.Fr

set_option maxRecDepth 100000 in
set_option maxHeartbeats 3000000 in
theorem bursts_walk (k : Int) (s : Nat) (A : Option Addr) (c : Nat) (d : List UInt8) (A2 : Option Addr) (c2 : Nat) (ah : List UInt8) (A3 : Option Addr) (c3 : Nat) (t : List UInt8) (bit : Int) (mask : Nat) (w : World)
    (hk : -9223372036854775808 ≤ k ∧ k ≤ 9223372036854775807) (hs : s < 18446744073709551616) (hd : d.length ≤ 1048576) (ha : ah.length ≤ 1048576) (ht : t.length ≤ 1048576) (hr : Rd w A d) (hr2 : Rd w A2 ah) (hr3 : Rd w A3 t)
    (hbt : -9223372036854775808 ≤ bit ∧ bit ≤ 9223372036854775807) (hm : mask < 4294967296) :
    Calls Try.prog 5 #[.agg #[.int .i64 k, .int .u64 s, .slice A d.length c, .slice A2 ah.length c2, .slice A3 t.length c3], .int .i64 bit, .int .u32 mask] w (Kept (.bool true) w) := by
  obtain ⟨z, hz⟩ : ∃ z, ah ++ makeL (kindN k) s d ++ t = z := ⟨_, rfl⟩
  have hzl : z.length = ah.length + (21 + d.length) + t.length := by rw [← hz, List.length_append, List.length_append, makeL_len]
  have HBY := Lib.hid (fun (W : World) (h : Rd W A d) (h2 : Rd W A2 ah) (h3 : Rd W A3 t) => (show Calls Try.prog 21 #[.agg #[.int .i64 k, .int .u64 s, .slice A d.length c, .slice A2 ah.length c2, .slice A3 t.length c3]] W (Made W z) from hz ▸ bytes_any k s A c d A2 c2 ah A3 c3 t W hk hs hd ha ht h h2 h3))
  have HFB := Lib.hid (fun (y : List UInt8) (h : Burst z y) => frame_burst (a := ah) (t := t) (d := d) (c := y) (k := kindN k) (s := s) (by omega) z hz.symm h.2)
  have HZL := Lib.hid hzl
  have hzb : z.length ≤ 3145800 := by omega
  have hza : ah.length + t.length ≤ z.length := by omega
  have HR := Lib.hid hr
  have HR2 := Lib.hid hr2
  have HR3 := Lib.hid hr3
  clear hr hr2 hr3 hz hzl
  have hb0 : Below w.heap.size w (w.alloc (.cells #[.int .i64 k, .int .u64 s, .slice A d.length c, .slice A2 ah.length c2, .slice A3 t.length c3] 36)) := below_alloc (Below.refl _ _) _
  have HB0 := Lib.hid hb0
  have HG := Lib.hid (blk_new w (.cells #[.int .i64 k, .int .u64 s, .slice A d.length c, .slice A2 ah.length c2, .slice A3 t.length c3] 36))
  clear hb0
  go_enter Try.func5, Try.ntmps5
  go_wp2_with fail
  refine (HBY.out _ (HR.out.below HB0.out) (HR2.out.below HB0.out) (HR3.out.below HB0.out)).mono ?_
  rintro e w1 ⟨v1, rfl, hown, hb⟩
  obtain ⟨A4, c4, rfl, hc4, hr4⟩ := hown.reads
  have HR4 := Lib.hid hr4
  have HB1 := Lib.hid (below_then HB0.out HB0.out.size hb)
  have HG1 := Lib.hid (blk_below HG.out hb)
  clear hown hr4 hb
  go_wp2_with fail
  refine (turn_burst A4 c4 z bit mask w1 HR4.out (by omega) hm hbt).mono ?_
  rintro e w2 ⟨v2, y, rfl, hown, hbu, hb⟩
  obtain ⟨A5, c5, rfl, hc5, hr5⟩ := hown.reads
  have HR5 := Lib.hid hr5
  have HR42 := Lib.hid (HR4.out.below hb)
  have HB2 := Lib.hid (below_then HB1.out HB1.out.size hb)
  have HG2 := Lib.hid (blk_below HG1.out hb)
  have hyl : y.length = z.length := hbu.1
  have hylz : ((y.length : Int) != (z.length : Int)) = false := by simp [hyl]
  obtain ⟨D1, x1, d1, hx1, hcut1, hrx1, hxc1, hxl1⟩ := cutM (A := A4) (l := z) (c := c4) (ah.length : Int) ((z.length : Int) - t.length) (by omega) (by omega) (by omega) hc4
  obtain ⟨D2, x2, d2, hx2, hcut2, hrx2, hxc2, hxl2⟩ := cutM (A := A5) (l := y) (c := c5) (ah.length : Int) ((z.length : Int) - t.length) (by omega) (by omega) (by omega) hc5
  have HF := HFB.out y hbu
  have e1 : x1 = (z.drop ah.length).take (21 + d.length) := by
    rw [hx1.out, List.drop_take, Int.toNat_natCast]; congr 1; have := HZL.out; omega
  have e2 : x2 = (y.drop ah.length).take (21 + d.length) := by
    rw [hx2.out, List.drop_take, Int.toNat_natCast]; congr 1; have := HZL.out; omega
  rw [← e1, ← e2] at HF
  have HP := Lib.hid (fun (W : World) (h : Rd W A5 y) => (show Calls Try.prog 13 #[.slice A5 y.length c5, .int .i64 ah.length] W (PAs (pKind y ah.length) (pSeq y ah.length) (pData y ah.length) (pEnd y ah.length) (pErr y ah.length) W) from parse_any A5 c5 y ah.length W (by omega) hc5 h (by omega)))
  generalize pKind y ah.length = k' at *
  generalize pSeq y ah.length = q' at *
  generalize pData y ah.length = d' at *
  generalize pEnd y ah.length = en' at *
  generalize pErr y ah.length = er' at *
  have HSO : R01.sameB x1 x2 = true ∨ er' ≠ 0 := by
    rcases HF with h | h
    · left; rw [h]; simp [R01.sameB]
    · exact .inr h
  have HSB := Lib.hid (fun (W : World) (h1 : Rd W D1 x1) (h2 : Rd W D2 x2) => R01.same_any D1 d1 x1 D2 d2 x2 W (by omega) h1 h2)
  have HRX1 := Lib.hid (fun (W : World) (h : Rd W A4 z) => hrx1 W h)
  have HRX2 := Lib.hid (fun (W : World) (h : Rd W A5 y) => hrx2 W h)
  have hyb : y.length ≤ 3145800 := by omega
  have hae : ¬ (ah.length : Int) > (z.length : Int) - t.length := by omega
  obtain ⟨p, hp⟩ : ∃ p, R01.sameB x1 x2 = p := ⟨_, rfl⟩
  rw [hp] at HSO HSB
  clear hown hr5 hb hbu hyl hx1 hx2 hrx1 hrx2 hxl1 hxl2 HF e1 e2 hp
  have hcb := fun i => blk_cell HG2.out i
  go_wp2_with fail
  go_quiet (fail)
  go_wp2_with fail
  refine (HP.out _ (HR5.out.drewN nq)).mono ?_
  rintro e w3 ⟨A6, c6, rfl, -, -, hb⟩
  have HB3 := Lib.hid (below_then (pw_below_drewN HB2.out nq) (pw_below_drewN HB2.out nq).size hb)
  have HR43 := Lib.hid ((HR42.out.drewN nq).below hb)
  have HR53 := Lib.hid ((HR5.out.drewN nq).below hb)
  clear hb
  go_wp2_with fail
  have HX := Lib.hid (below_alloc HB3.out (.cells #[.int .i64 k', .int .u64 q', .slice A6 d'.length c6, .int .i64 en'] 25))
  have HY1 := Lib.hid (HRX1.out _ ((HR43.out.below (below_alloc (Below.refl _ _) (.cells #[.int .i64 k', .int .u64 q', .slice A6 d'.length c6, .int .i64 en'] 25))).drewN 1))
  have HY2 := Lib.hid (HRX2.out _ ((HR53.out.below (below_alloc (Below.refl _ _) (.cells #[.int .i64 k', .int .u64 q', .slice A6 d'.length c6, .int .i64 en'] 25))).drewN 1))
  have hx0 := below_drew HX.out
  cases p with
  | true =>
    refine wp_region_held_drew (S := fun W => Below w.heap.size w W) (by kernel_rfl) hx0 (fun hHeld => ?_)
    refine wpAnyH_take (i := 0) (v := _) rfl (by kernel_rfl) (by kernel_rfl) (by kernel_rfl) (fun _ _ _ h => h) (Or.inl ⟨by kernel_rfl, fun w _ => by go_simp <;> with_reducible rfl⟩) hHeld ?_
    simp only [List.getElem_toArray, List.getElem_cons_succ, List.getElem_cons_zero, Act.put, List.setIfInBounds_toArray, List.set_cons_zero, List.set_cons_succ]
    refine wpAnyH_take (i := 1) (v := _) rfl (by kernel_rfl) (by kernel_rfl) (by kernel_rfl) (fun _ _ _ h => h) (Or.inl ⟨by kernel_rfl, fun w _ => by go_simp <;> with_reducible rfl⟩) hHeld ?_
    simp only [List.getElem_toArray, List.getElem_cons_succ, List.getElem_cons_zero, Act.put, List.setIfInBounds_toArray, List.set_cons_zero, List.set_cons_succ]
    refine wpAnyH_take (i := 2) (v := _) rfl (by kernel_rfl) (by kernel_rfl) (by kernel_rfl) (fun _ _ _ h => h) (Or.inl ⟨by kernel_rfl, fun w _ => by go_simp <;> with_reducible rfl⟩) hHeld ?_
    simp only [List.getElem_toArray, List.getElem_cons_succ, List.getElem_cons_zero, Act.put, List.setIfInBounds_toArray, List.set_cons_zero, List.set_cons_succ]
    refine wpAnyH_take (i := 3) (v := _) rfl (by kernel_rfl) (by kernel_rfl) (by kernel_rfl) (fun _ _ _ h => h) (Or.inl ⟨by kernel_rfl, fun w _ => by go_simp <;> with_reducible rfl⟩) hHeld ?_
    simp only [List.getElem_toArray, List.getElem_cons_succ, List.getElem_cons_zero, Act.put, List.setIfInBounds_toArray, List.set_cons_zero, List.set_cons_succ]
    refine wpAnyH_take (i := 4) (v := _) rfl (by kernel_rfl) (by kernel_rfl) (by kernel_rfl) (fun _ _ _ h => h) (Or.inl ⟨by kernel_rfl, fun w _ => by go_simp <;> with_reducible rfl⟩) hHeld ?_
    simp only [List.getElem_toArray, List.getElem_cons_succ, List.getElem_cons_zero, Act.put, List.setIfInBounds_toArray, List.set_cons_zero, List.set_cons_succ]
    refine wpAnyH_take (i := 5) (v := _) rfl (by kernel_rfl) (by kernel_rfl) (by kernel_rfl) (fun _ _ _ h => h) (Or.inl ⟨by kernel_rfl, fun w _ => by go_simp <;> with_reducible rfl⟩) hHeld ?_
    simp only [List.getElem_toArray, List.getElem_cons_succ, List.getElem_cons_zero, Act.put, List.setIfInBounds_toArray, List.set_cons_zero, List.set_cons_succ]
    refine wpAnyH_take (i := 6) (v := _) rfl (by kernel_rfl) (by kernel_rfl) (by kernel_rfl) (fun _ _ _ h => h) (Or.inl ⟨by kernel_rfl, fun w _ => by go_simp <;> with_reducible rfl⟩) hHeld ?_
    simp only [List.getElem_toArray, List.getElem_cons_succ, List.getElem_cons_zero, Act.put, List.setIfInBounds_toArray, List.set_cons_zero, List.set_cons_succ]
    refine wpAnyH_take (i := 7) (v := _) rfl (by kernel_rfl) (by kernel_rfl) (by kernel_rfl) (fun _ _ _ h => h) (Or.inl ⟨by kernel_rfl, fun w _ => by go_simp <;> with_reducible rfl⟩) hHeld ?_
    simp only [List.getElem_toArray, List.getElem_cons_succ, List.getElem_cons_zero, Act.put, List.setIfInBounds_toArray, List.set_cons_zero, List.set_cons_succ]
    refine wpAnyH_ready (rs := [8]) (by kernel_rfl) (by simp) ?_
    refine AllReadyH.cons rfl (fun K hK => ?_) ?_
    case refine_2 => exact AllReadyH.nil
    go_simp
    refine (HSB.out _ HY1.out HY2.out).mono ?_
    rintro e w4 ⟨rfl, n4, rfl⟩
    refine hK.out _ _ (pw_below_drewN hHeld n4) (fun hHeld => ?_)
    clear hK K
    try simp only [List.getElem_toArray, List.getElem_cons_succ, List.getElem_cons_zero, Act.put, List.setIfInBounds_toArray, List.set_cons_zero, List.set_cons_succ]
    refine wpAnyH_take (i := 9) (v := _) rfl (by kernel_rfl) (by kernel_rfl) (by kernel_rfl) (fun _ _ _ h => h) (Or.inl ⟨by kernel_rfl, fun w _ => by go_simp <;> with_reducible rfl⟩) hHeld ?_
    simp only [List.getElem_toArray, List.getElem_cons_succ, List.getElem_cons_zero, Act.put, List.setIfInBounds_toArray, List.set_cons_zero, List.set_cons_succ]
    refine wpAnyH_take (i := 10) (v := undef) rfl (by kernel_rfl) (by kernel_rfl) (by kernel_rfl) (fun _ _ _ h => h) (Or.inr ⟨by kernel_rfl, rfl⟩) hHeld ?_
    simp only [List.getElem_toArray, List.getElem_cons_succ, List.getElem_cons_zero, Act.put, List.setIfInBounds_toArray, List.set_cons_zero, List.set_cons_succ]
    refine wpAnyH_take (i := 11) (v := undef) rfl (by kernel_rfl) (by kernel_rfl) (by kernel_rfl) (fun _ _ _ h => h) (Or.inr ⟨by kernel_rfl, rfl⟩) hHeld ?_
    simp only [List.getElem_toArray, List.getElem_cons_succ, List.getElem_cons_zero, Act.put, List.setIfInBounds_toArray, List.set_cons_zero, List.set_cons_succ]
    refine wpAnyH_take (i := 12) (v := .bool true) rfl (by kernel_rfl) (by kernel_rfl) (by kernel_rfl) (fun _ _ _ h => h) (Or.inl ⟨by kernel_rfl, fun w _ => by go_simp <;> with_reducible rfl⟩) hHeld ?_
    simp only [List.getElem_toArray, List.getElem_cons_succ, List.getElem_cons_zero, Act.put, List.setIfInBounds_toArray, List.set_cons_zero, List.set_cons_succ]
    refine wpAnyH_take (i := 13) (v := .bool true) rfl (by kernel_rfl) (by kernel_rfl) (by kernel_rfl) (fun _ _ _ h => h) (Or.inl ⟨by kernel_rfl, fun w _ => by go_simp <;> with_reducible rfl⟩) hHeld ?_
    simp only [List.getElem_toArray, List.getElem_cons_succ, List.getElem_cons_zero, Act.put, List.setIfInBounds_toArray, List.set_cons_zero, List.set_cons_succ]
    refine wpAnyH_ready (rs := [14]) (by kernel_rfl) (by simp) ?_
    refine AllReadyH.cons rfl (fun K hK => ?_) ?_
    case refine_2 => exact AllReadyH.nil
    go_simp
    refine (lives_any _).mono ?_
    rintro e w5 ⟨rfl, hb5⟩
    refine hK.out _ _ (below_step' (pw_below_drewN HX.out (1 + n4)) hb5) (fun hHeld => ?_)
    clear hK K
    try simp only [List.getElem_toArray, List.getElem_cons_succ, List.getElem_cons_zero, Act.put, List.setIfInBounds_toArray, List.set_cons_zero, List.set_cons_succ]
    refine wpAnyH_take (i := 15) (v := .bool true) rfl (by kernel_rfl) (by kernel_rfl) (by kernel_rfl) (fun _ _ _ h => h) (Or.inl ⟨by kernel_rfl, fun w _ => by go_simp <;> with_reducible rfl⟩) hHeld ?_
    simp only [List.getElem_toArray, List.getElem_cons_succ, List.getElem_cons_zero, Act.put, List.setIfInBounds_toArray, List.set_cons_zero, List.set_cons_succ]
    refine wpAnyH_take (i := 16) (v := .bool true) rfl (by kernel_rfl) (by kernel_rfl) (by kernel_rfl) (fun _ _ _ h => h) (Or.inl ⟨by kernel_rfl, fun w _ => by go_simp <;> with_reducible rfl⟩) hHeld ?_
    simp only [List.getElem_toArray, List.getElem_cons_succ, List.getElem_cons_zero, Act.put, List.setIfInBounds_toArray, List.set_cons_zero, List.set_cons_succ]
    refine wpAnyH_done (by kernel_rfl) ?_ _
    go_wp2_with fail
    go_ret
    exact ⟨rfl, hHeld⟩
  | false =>
    have her : ((er' : Int) != 0) = true := by
      have : er' ≠ 0 := by rcases HSO with h | h; · cases h
                           · exact h
      simp; omega
    go_region_held3 (fun W => Below w.heap.size w W) (first | assumption | exact pw_below_drewN HX.out _)
      (first
        | (go_at_call 18; refine (HSB.out _ HY1.out HY2.out).mono ?_; rintro e w4 ⟨rfl, n4, rfl⟩; have hx4 := pw_below_drewN HX.out (1 + n4))
        | (go_at_call 16; refine (lives_any _).mono ?_; rintro e w5 ⟨rfl, hb5⟩; have hx5 := below_step' hx4 hb5)
        | fail)
    go_wp2_with fail
    go_ret
    exact ⟨rfl, by assumption⟩
theorem bursts_any (cs : Array Value) (x : MdT) (bit : Int) (mask : Nat) (w : World) (hK : kMd.K w x cs.toList) (hm : mMd x ≤ 1048576) (hbt : -9223372036854775808 ≤ bit ∧ bit ≤ 9223372036854775807) (hmk : mask < 4294967296) :
    Calls Try.prog 5 #[.agg cs, .int .i64 bit, .int .u32 mask] w (Kept (.bool true) w) := by
  obtain ⟨k, s, d, a, t⟩ := x
  obtain ⟨A, c, A2, c2, A3, c3, rfl, h1, h2, h3⟩ := md_open hK
  obtain ⟨l1, l2, l3⟩ := mMd_len hm
  have hk := Int64.toInt_lt k
  have hk' := Int64.le_toInt k
  exact bursts_walk k.toInt s.toNat A c d A2 c2 a A3 c3 t bit mask w (by omega) s.toNat_lt l1 l2 l3 h1 h2 h3 hbt hmk
end Go.Proofs.Yteeemiacibjaoaa.L13
