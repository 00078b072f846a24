/- law23: Write. -/
import Derived.Test.YteeemiacibjaoaaCoPt
import Derived.Test.YteeemiacibjaoaaEqY
set_option linter.unusedVariables false
set_option linter.unusedSimpArgs false
namespace Go.Proofs.Yteeemiacibjaoaa.Co
open Go.RowKit Go.Proofs.YteeemiacibjaoaaW.PrintWords Go.Proofs.Yteeemiacibjaoaa.B Go.Proofs.Yteeemiacibjaoaa.Fx Go.Proofs.Yteeemiacibjaoaa.Fr Go.Proofs.Yteeemiacibjaoaa.O

set_option maxRecDepth 100000 in
set_option maxHeartbeats 800000 in
theorem write_any (s : ByteArray) (A : Option Addr) (c : Nat) (l : List Pt) (w : World) (hs : s.size ≤ 1048576) (hm : ms mPt l ≤ 1048576) (hr : RdP w A l) :
    Calls Try.prog 34 #[.string s, .slice A l.length c] w (BytesR (wrB s.data.toList l) (!okL l) w) := by
  have HR := Lib.hid hr
  have HN := Lib.hid (neww_any s w (by omega))
  have hll := ms_len (m := mPt) (fun x => by unfold mPt; omega) l
  have hlen : l.length ≤ 1048576 := by omega
  obtain ⟨m, hm0⟩ : ∃ m, s.data.toList = m := ⟨_, rfl⟩
  have hml : m.length ≤ 1048576 := by rw [← hm0]; simpa using hs
  rw [hm0] at HN ⊢
  have HLEN := Lib.hid (fun k : Nat => (show (wrB m (l.take k)).length ≤ 140737488354000 from by
    have h1 := wrB_len m (l.take k)
    have h2 := ms_take l k
    omega))
  clear hr hm0 hll
  go_enter Try.func34, Try.ntmps34
  go_wp2_with fail
  refine HN.out.mono ?_
  rintro e w1 ⟨g, rfl, hs1, hb1⟩
  have HS1 := Lib.hid hs1
  have HB1 := Lib.hid hb1
  clear hs1 hb1
  go_wp2_with fail
  go_loopw [7] (fun i wr => ∃ k : Nat, k ≤ l.length ∧ i = .int .i64 k ∧ Hid (WrS wr w.heap.size g (wrB m (l.take k)) (!okL (l.take k))) ∧ Hid (Below w.heap.size w wr)) (fun i _ => l.length - (intOf i).toNat)
  case atStart => exact ⟨0, by omega, rfl, by simpa [wrB_nil, okL] using HS1, HB1⟩
  case round =>
    obtain ⟨k, hk, rfl, HSk, HBk⟩ := hrel
    by_cases hlt : k < l.length
    · obtain ⟨ad, rfl, hd, c0, c1, c2, c3, hrD, -, -⟩ := (HR.out.below HBk.out).walk k hlt
      obtain ⟨p, hp⟩ : ∃ p, pt l k = p := ⟨_, rfl⟩
      have HE := Lib.hid (show wrB m (l.take (k + 1)) = wrB m (l.take k) ++ encP p by rw [take_snoc l k hlt, wrB_snoc, hp])
      have HO := Lib.hid (show (!okL (l.take (k + 1))) = ((!okL (l.take k)) || !okP p) by rw [take_snoc l k hlt, okL_snoc, hp, Bool.not_and])
      rw [hp] at hd c0 c1 c2 c3 hrD
      have HD := Lib.hid hd
      obtain ⟨x, hx⟩ : ∃ x, wrB m (l.take k) = x := ⟨_, rfl⟩
      have HXL := Lib.hid (hx ▸ HLEN.out k)
      have HXP := Lib.hid (show x.length + p.2.2.2.1.size ≤ 140737488355000 from by
        have h1 := HXL.out
        have h2 : mPt p ≤ ms mPt l := by
          have h3 : l.drop k = p :: l.drop (k + 1) := by rw [List.drop_eq_getElem_cons hlt, ← hp]; simp [pt, hlt]
          have h4 := ms_take l k
          have h5 : (l.map mPt).sum = ((l.take k).map mPt).sum + ((l.drop k).map mPt).sum := by rw [← List.sum_append, ← List.map_append, List.take_append_drop]
          rw [h3, List.map_cons, List.sum_cons] at h5
          unfold ms; omega
        have h6 : p.2.2.2.1.size + 1 ≤ mPt p := by unfold mPt mS; omega
        have h7 : (wrB m (l.take k)).length + 2 * mPt p ≤ 140737488354000 := by
          have h8 := wrB_len m (l.take k)
          have h9 := ms_take l k
          omega
        rw [hx] at h7
        omega)
      obtain ⟨od, ho⟩ : ∃ od, (!okL (l.take k)) = od := ⟨_, rfl⟩
      rw [hx] at HSk HE
      rw [ho] at HSk HO
      have HSS := HSk
      clear hp hx ho hd HSk
      obtain ⟨kd, hkd⟩ : ∃ kd, p.1.toInt = kd := ⟨_, rfl⟩
      rw [hkd] at c0
      have HKD := Lib.hid hkd
      clear hkd
      by_cases k0 : kd = 0
      · have q0 : (kd == 0) = true := by simp [k0]
        have HF := Lib.hid (show encP p = V.enc p.2.1.toInt.toNat ∧ okP p = decide (0 ≤ p.2.1.toInt) by unfold encP okP; rw [HKD.out, if_pos k0, if_pos k0]; exact ⟨rfl, rfl⟩)
        clear k0
        go_wp2_with fail
        refine (wnum_any w.heap.size g x od p.2.1.toInt _ ⟨p.2.1.le_toInt, by have := p.2.1.toInt_lt; omega⟩ (by have := HXL.out; omega) HSS.out).mono ?_
        rintro e w2 ⟨rfl, hs2, hb2⟩
        have HS2 := Lib.hid hs2
        have HB2 := Lib.hid (HBk.out.trans hb2)
        clear hs2 hb2
        go_wp2_with fail
        go_roundw
        case rel => exact ⟨k + 1, by omega, by go_num, Lib.hid (by rw [HE.out, HO.out, HF.out.1, HF.out.2]; have := HS2.out; rwa [show (!decide (0 ≤ p.2.1.toInt)) = decide (p.2.1.toInt < 0) by rw [← decide_not]; congr 1; simp]), HB2⟩
        case measure => simp [intOf]; omega
      · have q0 : (kd == 0) = false := by simp [k0]
        by_cases k1 : kd = 1
        · have q1 : (kd == 1) = true := by simp [k1]
          have HF := Lib.hid (show encP p = V.enc p.2.2.1.toNat ∧ okP p = true by unfold encP okP; rw [HKD.out, if_neg k0, if_pos k1, if_neg k0, if_pos k1]; exact ⟨rfl, rfl⟩)
          clear k0 k1
          go_wp2_with fail
          refine (wseq_any w.heap.size g x od p.2.2.1.toNat _ p.2.2.1.toNat_lt (by have := HXL.out; omega) HSS.out).mono ?_
          rintro e w2 ⟨rfl, hs2, hb2⟩
          have HS2 := Lib.hid hs2
          have HB2 := Lib.hid (HBk.out.trans hb2)
          clear hs2 hb2
          go_wp2_with fail
          go_roundw
          case rel => exact ⟨k + 1, by omega, by go_num, Lib.hid (by rw [HE.out, HO.out, HF.out.1, HF.out.2, Bool.not_true, Bool.or_false]; exact HS2.out), HB2⟩
          case measure => simp [intOf]; omega
        · have q1 : (kd == 1) = false := by simp [k1]
          by_cases k2 : kd = 2
          · have q2 : (kd == 2) = true := by simp [k2]
            have HF := Lib.hid (show putTextL x p.2.2.2.1.data.toList = x ++ encP p ∧ okP p = decide (p.2.2.2.1.size ≤ 255) by unfold encP okP; rw [HKD.out, if_neg k0, if_neg k1, if_pos k2, if_neg k0, if_neg k1, if_pos k2]; exact ⟨putText_enc _ _, rfl⟩)
            clear k0 k1 k2
            go_wp2_with fail
            refine (wtext_any w.heap.size g x od p.2.2.2.1 _ HXP.out HSS.out).mono ?_
            rintro e w2 ⟨rfl, hs2, hb2⟩
            have HS2 := Lib.hid hs2
            have HB2 := Lib.hid (HBk.out.trans hb2)
            clear hs2 hb2
            go_wp2_with fail
            go_roundw
            case rel => exact ⟨k + 1, by omega, by go_num, Lib.hid (by rw [HE.out, HO.out, ← HF.out.1, HF.out.2]; exact HS2.out), HB2⟩
            case measure => simp [intOf]; omega
          · have q2 : (kd == 2) = false := by simp [k2]
            have HF := Lib.hid (show encP p = p.2.2.2.2 ∧ okP p = true by unfold encP okP; rw [HKD.out, if_neg k0, if_neg k1, if_neg k2, if_neg k0, if_neg k1, if_neg k2]; exact ⟨rfl, rfl⟩)
            clear k0 k1 k2
            go_wp2_with (refine wpList_load_mid rfl 52 _ rfl _ _ rfl (p.2.2.2.2.map encB) _ hrD Try.underlying52 rfl (by rw [List.length_map, HD.out]; kernel_rfl) ?_)
            refine (wdigest_any w.heap.size g x od p.2.2.2.2 (p.2.2.2.2.map encB).toArray _ rfl HD.out (by have := HXL.out; omega) HSS.out).mono ?_
            rintro e w2 ⟨rfl, hs2, hb2⟩
            have HS2 := Lib.hid hs2
            have HB2 := Lib.hid (HBk.out.trans hb2)
            clear hs2 hb2
            go_wp2_with fail
            go_roundw
            case rel => exact ⟨k + 1, by omega, by go_num, Lib.hid (by rw [HE.out, HO.out, HF.out.1, HF.out.2, Bool.not_true, Bool.or_false]; exact HS2.out), HB2⟩
            case measure => simp [intOf]; omega
    · obtain rfl : k = l.length := by omega
      have HS2 := Lib.hid (show WrS _ w.heap.size g (wrB m l) (!okL l) from by have := HSk.out; rwa [List.take_length] at this)
      have HLL := Lib.hid (show (wrB m l).length ≤ 140737488354000 from by have := HLEN.out l.length; rwa [List.take_length] at this)
      clear HSk
      generalize wrB m l = x at *
      generalize (!okL l) = od at *
      have HWB := Lib.hid (wbytes_any w.heap.size g x od _ HLL.out HS2.out)
      cases od
      all_goals
        go_wp2_with fail
        refine HWB.out.mono ?_
        rintro e w2 ⟨v, rfl, hown, hb⟩
        have HO2 := Lib.hid (hown.lower HBk.out.size)
        have HB2 := Lib.hid (below_step' HBk.out hb)
        clear hown hb
        go_wp2_with fail
        go_ret2
        exact ⟨v, rfl, HO2.out, HB2.out⟩
theorem bytesR_of {b : List UInt8} {od : Bool} {w w' : World} {e : Ending} (h : BytesR b od w e w') : ∃ A c x, e = .returned (.tuple #[.slice A x.length c, .int .i64 (if od = true then 2 else 0)]) ∧ Hid (x = if od = true then [] else seal4 b) ∧ x.length ≤ c ∧ Own w' w.heap.size (.slice A x.length c) x ∧ Below w.heap.size w w' := by
  obtain ⟨v, rfl, hown, hb⟩ := h
  obtain ⟨x, hx⟩ : ∃ x, (if od = true then [] else seal4 b) = x := ⟨_, rfl⟩
  rw [hx] at hown
  obtain ⟨A, c, rfl, hc, -⟩ := hown.reads
  exact ⟨A, c, x, rfl, hx.symm, hc, hown, hb⟩
theorem seal_le (b : List UInt8) (od : Bool) : (if od = true then [] else seal4 b).length ≤ b.length + 4 := by
  split
  · simp
  · rw [seal4_len]; exact Nat.le_refl _
end Go.Proofs.Yteeemiacibjaoaa.Co
