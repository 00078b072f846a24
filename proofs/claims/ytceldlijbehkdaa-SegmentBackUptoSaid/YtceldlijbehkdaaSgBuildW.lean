/- stillageref16.Build: the walk. -/
import Derived.Test.YtceldlijbehkdaaSgBuild
import Derived.Test.YtceldlijbehkdaaBtMake
set_option linter.unusedVariables false
set_option linter.unusedSimpArgs false
namespace Go.Proofs.Ytceldlijbehkdaa.Sg
open Go.RowKit Go.Proofs.YtceldlijbehkdaaW.PrintWords Go.Proofs.Ytceldlijbehkdaa.B Go.Proofs.Ytceldlijbehkdaa.Fx Go.Proofs.Ytceldlijbehkdaa.Fr Go.Proofs.Ytceldlijbehkdaa.O Go.Proofs.Ytceldlijbehkdaa.Rc Go.Proofs.Ytceldlijbehkdaa.Bt
theorem RdLL.walkB {w : World} {A : Option Addr} {ls : List (List RecV)} (h : RdLL w A ls) (i : Nat) (hi : i < ls.length) :
    ∃ ad A2 c2, A = some ad ∧ (rl ls i).length ≤ c2 ∧ (∀ W, Below w.heap.size w W → W.cell? (ad.add i) = some (.slice A2 (rl ls i).length c2)) ∧ (∀ W, Below w.heap.size w W → RdR W A2 (rl ls i)) := by
  obtain ⟨ad, A2, c2, e, h0, h1, h2⟩ := h.walk i hi
  exact ⟨ad, A2, c2, e, h1, fun W hb => (hb.cell (lt_of_cell h0)).trans h0, fun W hb => h2.below hb⟩
theorem batB_pos {q : Nat} {l : List RecV} (h : batE q l = 0) : 0 < (batB q l).length := by
  obtain ⟨w1, -⟩ := bat_ok h
  have hne := (wrong_all w1).1
  unfold batB
  rw [if_pos h, List.length_append]
  cases l with
  | nil => exact absurd rfl hne
  | cons x l =>
    have := bR_pos (s := q) (eR_of w1 x (by simp))
    rw [allR, List.length_append]; omega
theorem batN_ok {q : Nat} {l : List RecV} (h : batE q l = 0) : batN q l = q + l.length + 1 := by unfold batN; rw [if_pos h]
theorem rl_split (ls : List (List RecV)) (k : Nat) (hk : k < ls.length) : ls = ls.take k ++ (rl ls k :: ls.drop (k + 1)) := by
  have h := List.take_append_drop k ls
  rw [List.drop_eq_getElem_cons hk] at h
  rw [show rl ls k = ls[k] by unfold rl; simp [hk]]
  exact h.symm
theorem batsE_bad {ls : List (List RecV)} {q k : Nat} (hk : k < ls.length) (h0 : batsE q (ls.take k) = 0) (h : batE (batsN q (ls.take k)) (rl ls k) ≠ 0) : batsE q ls = batE (batsN q (ls.take k)) (rl ls k) := by
  have h1 := batsE_app (ls.take k) (rl ls k :: ls.drop (k + 1)) q h0
  rw [← rl_split ls k hk] at h1
  rw [h1, batsE, if_pos h]
theorem batsE_snoc {ls : List (List RecV)} {q k : Nat} (hk : k < ls.length) (h0 : batsE q (ls.take k) = 0) (h : batE (batsN q (ls.take k)) (rl ls k) = 0) : batsE q (ls.take (k + 1)) = 0 := by
  rw [rl_take ls k hk, batsE_app _ _ _ h0, batsE, if_neg (by simp [h])]; rfl
theorem batsB_snoc {ls : List (List RecV)} (q : Nat) {k : Nat} (hk : k < ls.length) : batsB q (ls.take (k + 1)) = batsB q (ls.take k) ++ batB (batsN q (ls.take k)) (rl ls k) := by
  rw [rl_take ls k hk, batsB_app, batsB, batsB, List.append_nil]
theorem batsN_snoc {ls : List (List RecV)} (q : Nat) {k : Nat} (hk : k < ls.length) : batsN q (ls.take (k + 1)) = batsN q (ls.take k) + (rl ls k).length + 1 := by
  rw [rl_take ls k hk, batsN_app, batsN, batsN]
theorem manyL_snoc {ls : List (List RecV)} {k : Nat} (hk : k < ls.length) : manyL (ls.take (k + 1)) = manyL (ls.take k) + (rl ls k).length := by
  rw [rl_take ls k hk, manyL_app, manyL, manyL]; omega
theorem manyL_take (ls : List (List RecV)) (k : Nat) : manyL (ls.take k) ≤ manyL ls := by
  have h := manyL_app (ls.take k) (ls.drop k)
  rw [List.take_append_drop] at h; omega
theorem row_le {ls : List (List RecV)} (k : Nat) (h : k < ls.length) : (rl ls k).length ≤ manyL ls := by
  have h1 := manyL_app (ls.take k) (rl ls k :: ls.drop (k + 1))
  rw [← rl_split ls k h, manyL] at h1; omega
theorem mem_le : ∀ (ls : List (List RecV)) (l : List RecV), l ∈ ls → l.length ≤ manyL ls
  | x :: ls, l, h => by
    rw [manyL]
    rcases List.mem_cons.1 h with rfl | h
    · omega
    · have := mem_le ls l h; omega
theorem wrap_next (s : Nat) (hs : s < 18446744073709551616) : IntKind.u64.wrap ((s : Int) + 1) = (((s + 1) % 18446744073709551616 : Nat) : Int) := by
  simp only [IntKind.wrap, IntKind.bits, IntKind.signed]
  simp
set_option maxRecDepth 100000 in
set_option maxHeartbeats 6400000 in
theorem build_any (n : Int) (s : Nat) (A : Option Addr) (c : Nat) (ls : List (List RecV)) (sl : Bool) (w : World) (hr : RdLL w A ls) (hm : ms (ms mRec) ls ≤ 1048576) (hs : s < 18446744073709551616) (hn : -9223372036854775808 ≤ n ∧ n ≤ 9223372036854775807) :
    Calls Try.prog 39 #[.int .i64 n, .int .u64 s, .slice A ls.length c, .bool sl] w (Built n s ls sl w) := by
  have hd := hr.d32
  have hbulk : 39 * manyL ls + ls.length ≤ 1048575 := by
    have h := many_le ls hd
    have h9 : ms (ms mRec) ls = (ls.map (ms mRec)).sum + 1 := rfl
    omega
  have HR := Lib.hid hr
  have HRW := Lib.hid (fun k => ms_row hm k)
  have HQW := Lib.hid (wrap_next s hs)
  obtain ⟨q0, hq0⟩ : ∃ q, (s + 1) % 18446744073709551616 = q := ⟨_, rfl⟩
  have hq0b : q0 < 18446744073709551616 := by omega
  have HM7 := Lib.hid (refhmake 7 n 0 s w hs)
  rw [show makeR 7 s z32 [] [] n 0 = headR n s from rfl] at HM7
  have HDF := Lib.hid (show ∀ er bb, bldE n s ls sl = er → bldB n s ls sl = bb → Built n s ls sl w = fun e w' => ∃ v, e = .returned (.tuple #[v, .int .i64 er]) ∧ Buf w' w.heap.size v bb ∧ Below w.heap.size w w' from fun er bb h h2 => by subst h h2; rfl)
  have HE7 := Lib.hid (fun h : rightE 7 0 [] n 0 ≠ 0 => (show bldE n s ls sl = rightE 7 0 [] n 0 from by unfold bldE; rw [if_pos h]))
  have HB0 := Lib.hid (fun h : bldE n s ls sl ≠ 0 => (show bldB n s ls sl = [] from by unfold bldB; rw [if_neg h]))
  clear hr
  by_cases h7 : rightE 7 0 [] n 0 = 0
  · have hne7 : ((0 : Int) != 0) = false := rfl
    have HE1 := Lib.hid (fun (h : batsE q0 ls ≠ 0) => (show bldE n s ls sl = batsE q0 ls from by unfold bldE; rw [if_neg (by omega), hq0, if_pos h]))
    have HE2 := Lib.hid (fun (h : batsE q0 ls = 0) => (show bldE n s ls sl = if sl then rightE 8 0 [] (manyL ls) ((headR n s ++ batsB q0 ls).length : Nat) else 0 from by unfold bldE; rw [if_neg (by omega), hq0, if_neg (by omega)]))
    have HBB := Lib.hid (fun (h : bldE n s ls sl = 0) => (show bldB n s ls sl = headR n s ++ batsB q0 ls ++ (if sl then footR (manyL ls) ((headR n s ++ batsB q0 ls).length : Nat) (batsN q0 ls) else []) from by unfold bldB; rw [if_pos h, hq0]))
    have HLE := Lib.hid (fun k => (show (headR n s ++ batsB q0 (ls.take k)).length ≤ 1800000000 from by
      have h1 := batsB_le (ls.take k) q0 (fun l hl => ⟨fun x hx => hd l (List.mem_of_mem_take hl) x hx, by have := mem_le ls l (List.mem_of_mem_take hl); omega⟩)
      have h2 := manyL_take ls k
      have h3 : (headR n s).length ≤ 65557 := makeR_len rfl
      have h4 : (ls.take k).length ≤ ls.length := by rw [List.length_take]; omega
      rw [List.length_append]; omega))
    have HMN := Lib.hid (fun k => (show manyL (ls.take k) ≤ 26886 from by have := manyL_take ls k; omega))
    have HLN := Lib.hid (fun (k : Nat) (hk : k < ls.length) => (show (rl ls k).length ≤ 26886 from by have := row_le k hk; omega))
    have hlsl : ls.length ≤ 1048575 := by omega
    have HFP := Lib.hid (fun (m z : Int) (q : Nat) (h : rightE 8 0 [] m z = 0) => (show 0 < (footR m z q).length ∧ (footR m z q).length ≤ 65557 from ⟨by unfold footR makeR; rw [if_pos (show rightE 8 ([] : List UInt8).length [] m z = 0 from h), makeL_len]; omega, makeR_len rfl⟩))
    have HM8 := Lib.hid (fun (m z : Int) (q : Nat) (hq : q < 18446744073709551616) (W : World) => (show Calls Try.prog 22 #[.agg (hArr 8 q m z)] W (MadeE W (footR m z q) (rightE 8 0 [] m z)) from refhmake 8 m z q W hq))
    rw [h7] at HM7
    have HQI := Lib.hid (show ((s : Int) + 1) % 18446744073709551616 = (q0 : Int) from by rw [← hq0]; omega)
    clear HE7 hd hbulk h7 hq0
    generalize headR n s = hh at *
    go_enter Try.func39, Try.ntmps39
    go_wp2_with fail
    refine HM7.out.mono ?_
    rintro e w2 ⟨v2, rfl, ho, hb⟩
    have HO2 := Lib.hid (Buf.of_own ho)
    have HB2 := Lib.hid hb
    clear ho hb
    obtain ⟨A0, c0, rfl, -, -⟩ := HO2.out.reads
    go_wp2_with fail
    go_loopw [10, 12, 13, 14] (fun v nx mn i wr => ∃ k q m : Nat, k ≤ ls.length ∧ i = .int .i64 k ∧ nx = .int .u64 q ∧ mn = .int .i64 m ∧ q < 18446744073709551616 ∧ m ≤ 26886 ∧ Hid (Buf wr w.heap.size v (hh ++ batsB q0 (ls.take k))) ∧ Hid (batsE q0 (ls.take k) = 0) ∧ Hid (q = batsN q0 (ls.take k)) ∧ Hid (m = manyL (ls.take k)) ∧ Hid (Below w.heap.size w wr)) (fun _ _ _ i _ => ls.length - (intOf i).toNat)
    case atStart => exact ⟨0, q0, 0, by omega, rfl, congrArg (Value.int .u64) HQI.out, rfl, hq0b, by omega, Lib.hid (by have := HO2.out; simpa [batsB] using this), Lib.hid rfl, Lib.hid rfl, Lib.hid rfl, HB2⟩
    case round =>
      clear HB2 HO2
      obtain ⟨k, q, m, hk, rfl, rfl, rfl, hqb, hmb, HO, HE, HQ, HM, HB⟩ := hrel
      by_cases hlt : k < ls.length
      · obtain ⟨ad, A2, c2, rfl, hc2, hcl, hr2⟩ := HR.out.walkB k hlt
        have HC := Lib.hid hcl
        have hc0 := hcl wr HB.out
        have HBK := Lib.hid (refbmake_any q A2 c2 (rl ls k) wr (hr2 wr HB.out) hqb (HRW.out k))
        unfold BMade at HBK
        have hln := HLN.out k hlt
        clear hcl hr2
        by_cases hbe : batE q (rl ls k) = 0
        · have HPOS := Lib.hid (batB_pos hbe)
          have hqn := (bat_ok hbe).2
          have HE4 := Lib.hid (batsE_snoc hlt HE.out (by rw [← HQ.out]; exact hbe))
          have HB4' := Lib.hid (batsB_snoc q0 hlt)
          rw [← HQ.out] at HB4'
          have HQ4 := Lib.hid (batsN_snoc q0 hlt)
          rw [← HQ.out] at HQ4
          have HM4 := Lib.hid (manyL_snoc hlt)
          rw [← HM.out] at HM4
          have HL4 := Lib.hid (HLE.out (k + 1))
          rw [HB4'.out, ← List.append_assoc, List.length_append] at HL4
          have hmn := HMN.out (k + 1)
          rw [HM4.out] at hmn
          rw [hbe, batN_ok hbe] at HBK
          clear hbe
          generalize batB q (rl ls k) = bb at *
          generalize (rl ls k).length = rn at *
          go_wp2_with fail
          refine HBK.out.mono ?_
          rintro e w3 ⟨v3, rfl, ho, hb⟩
          obtain ⟨A3, c3, rfl, hc3, hr3⟩ := ho.reads
          obtain ⟨ad3, rfl, -⟩ := hr3.2.2 HPOS.out
          have HR3 := Lib.hid hr3
          have HB3 := Lib.hid (below_step' HB.out hb)
          have HO3 := Lib.hid (HO.out.below hb)
          clear ho hb hr3 hc0
          obtain ⟨bf, hbf⟩ : ∃ bf, hh ++ batsB q0 (ls.take k) = bf := ⟨_, rfl⟩
          rw [hbf] at HO3 HL4
          have HBF := Lib.hid hbf
          clear hbf
          go_wp2_with (at_builtin; refine appBuf (w0 := w) w.heap.size rfl (.tmp 51) (.tmp 52) rfl _ bf bb ad3 bb.length c3 rfl rfl rfl HPOS.out HO3.out HR3.out HB3.out HB3.out.size (by have := HL4.out; omega) ?_; intro A4 c4 w4 hbuf hbel _; have HO4 := Lib.hid hbuf; have HB4 := Lib.hid hbel; have hc4 := HC.out w4 hbel; clear hbuf hbel)
          go_roundw
          case rel => exact ⟨k + 1, q + rn + 1, m + rn, by omega, by go_num, by go_num, by go_num, by omega, by omega, Lib.hid (by rw [HB4'.out, ← List.append_assoc, HBF.out]; have h := HO4.out; rwa [List.length_append] at h), HE4, Lib.hid HQ4.out.symm, Lib.hid HM4.out.symm, HB4⟩
          case measure => simp [intOf]; omega
        · have HEB := Lib.hid (HE1.out (by rw [batsE_bad hlt HE.out (by rw [← HQ.out]; exact hbe), ← HQ.out]; exact hbe))
          rw [batsE_bad hlt HE.out (by rw [← HQ.out]; exact hbe), ← HQ.out] at HEB
          have hqe : ((batE q (rl ls k) : Int) != 0) = true := bne_iff_ne.2 (by omega)
          have HEQ := Lib.hid (HDF.out _ _ HEB.out (HB0.out (by rw [HEB.out]; exact hbe)))
          clear hbe
          generalize batE q (rl ls k) = rk at *
          go_wp2_with fail
          refine HBK.out.mono ?_
          rintro e w3 ⟨v3, rfl, ho, hb⟩
          have HB3 := Lib.hid (below_step' HB.out hb)
          clear ho hb hc0
          go_wp2_with fail
          go_ret2
          rw [HEQ.out]
          exact ⟨_, rfl, Rc.Buf.nil _ _, HB3.out⟩
      · obtain rfl : k = ls.length := by omega
        have HO2 := HO
        have HE2' := HE
        have HL := HLE.out ls.length
        rw [List.take_length] at HO2 HE2' HQ HM HL
        have HEE := Lib.hid (HE2.out HE2'.out)
        clear HO HE HE2' HE2 HE1 HLE
        cases sl with
        | false =>
          have HZ := Lib.hid (show bldE n s ls false = 0 from HEE.out)
          have HEQ := Lib.hid (HDF.out _ _ HZ.out (HBB.out HZ.out))
          clear HEE
          go_wp2_with fail
          go_ret2
          rw [HEQ.out]
          exact ⟨_, rfl, by have := HO2.out; simpa using this, HB.out⟩
        | true =>
          have HEE2 := Lib.hid (show bldE n s ls true = rightE 8 0 [] (m : Nat) ((hh ++ batsB q0 ls).length : Nat) from by rw [HM.out]; exact HEE.out)
          have HBB2 := Lib.hid (fun h => (show bldB n s ls true = (hh ++ batsB q0 ls) ++ footR (m : Nat) ((hh ++ batsB q0 ls).length : Nat) q from by rw [HM.out, HQ.out]; exact HBB.out h))
          clear HEE HBB
          generalize hh ++ batsB q0 ls = bf at *
          have HF8 := Lib.hid (HFP.out (m : Nat) (bf.length : Nat) q)
          have HM8' := Lib.hid (fun W => HM8.out (m : Nat) (bf.length : Nat) q hqb W)
          clear HFP HM8
          obtain ⟨A1, c1, rfl, -, -⟩ := HO2.out.reads
          by_cases hr8 : rightE 8 0 [] (m : Nat) (bf.length : Nat) = 0
          · have hf8 := HF8.out hr8
            have HEQ := Lib.hid (HDF.out _ _ (HEE2.out.trans hr8) (HBB2.out (HEE2.out.trans hr8)))
            rw [hr8] at HM8'
            have HFA := Lib.hid hf8
            clear hf8 hr8 HBB2 HEE2 HF8
            generalize footR (m : Nat) (bf.length : Nat) q = ft at *
            go_wp2_with fail
            refine (HM8'.out _).mono ?_
            rintro e w4 ⟨v4, rfl, ho, hb⟩
            obtain ⟨A4, c4, rfl, hc4, hr4⟩ := ho.reads
            obtain ⟨ad4, rfl, -⟩ := hr4.2.2 HFA.out.1
            have HR4 := Lib.hid hr4
            have HB4 := Lib.hid (below_step' HB.out hb)
            have HO4 := Lib.hid (HO2.out.below hb)
            clear ho hb hr4
            go_wp2_with (at_builtin; refine appBuf (w0 := w) w.heap.size rfl (.tmp 75) (.tmp 76) rfl _ bf ft ad4 ft.length c4 rfl rfl rfl HFA.out.1 HO4.out HR4.out HB4.out HB4.out.size (by have := HFA.out.2; omega) ?_; intro A5 c5 w5 hbuf hbel _; have HO5 := Lib.hid hbuf; have HB5 := Lib.hid hbel; clear hbuf hbel)
            go_ret2
            rw [HEQ.out]
            exact ⟨_, rfl, by have h := HO5.out; rw [List.length_append] at h; exact h, HB5.out⟩
          · have hq8 : ((rightE 8 0 [] (m : Nat) (bf.length : Nat) : Int) != 0) = true := bne_iff_ne.2 (by omega)
            have HEQ := Lib.hid (HDF.out _ _ HEE2.out (HB0.out (by rw [HEE2.out]; exact hr8)))
            clear hr8 HBB2 HEE2 HF8
            generalize rightE 8 0 [] (m : Nat) (bf.length : Nat) = r8 at *
            go_wp2_with fail
            refine (HM8'.out _).mono ?_
            rintro e w4 ⟨v4, rfl, ho, hb⟩
            have HB4 := Lib.hid (below_step' HB.out hb)
            clear ho hb
            go_wp2_with fail
            go_ret2
            rw [HEQ.out]
            exact ⟨_, rfl, Rc.Buf.nil _ _, HB4.out⟩
  · have hq7 : ((rightE 7 0 [] n 0 : Int) != 0) = true := bne_iff_ne.2 (by omega)
    have HEQ := Lib.hid (HDF.out _ _ (HE7.out h7) (HB0.out (by rw [HE7.out h7]; exact h7)))
    clear h7
    generalize rightE 7 0 [] n 0 = r7 at *
    go_enter Try.func39, Try.ntmps39
    go_wp2_with fail
    refine HM7.out.mono ?_
    rintro e w2 ⟨v2, rfl, ho, hb⟩
    have HB := Lib.hid hb
    clear ho hb
    go_wp2_with fail
    go_ret2
    rw [HEQ.out]
    exact ⟨_, rfl, Rc.Buf.nil _ _, HB.out⟩
end Go.Proofs.Ytceldlijbehkdaa.Sg
