/- law15: BatchTorn. -/
import Derived.Test.YtceldlijbehkdaaBtLiv
set_option linter.unusedVariables false
set_option linter.unusedSimpArgs false
namespace Go.Proofs.Ytceldlijbehkdaa.Bt
open Go.RowKit Go.Proofs.YtceldlijbehkdaaW.PrintWords Go.Proofs.Ytceldlijbehkdaa.B Go.Proofs.Ytceldlijbehkdaa.Fx Go.Proofs.Ytceldlijbehkdaa.Fr Go.Proofs.Ytceldlijbehkdaa.O Go.Proofs.Ytceldlijbehkdaa.Rc
set_option maxRecDepth 100000 in
set_option maxHeartbeats 3200000 in
theorem btorn_any (A : Option Addr) (c : Nat) (l : List RecV) (s : Nat) (n : Int) (w : World) (hr : RdR w A l) (_ : l.length ≤ c) (hm : ms mRec l ≤ 1048576) (hs : s < 18446744073709551616) (hn : -9223372036854775808 ≤ n ∧ n ≤ 9223372036854775807) :
    Calls Try.prog 9 #[.slice A l.length c, .int .u64 s, .int .i64 n] w (Kept (.bool true) w) := by
  have hd := hr.d32
  have h39 := ms_ge l hd
  have hlen : l.length ≤ 26886 := by unfold ms at hm; omega
  have hal := allR_le l s hd
  have HR := Lib.hid hr
  have HM1 := Lib.hid (bmake_any s A c l w hr hs hm)
  have HLV := Lib.hid (fun W => blives_any W)
  have HBL : (batB s l).length ≤ 1763000029 := by
    unfold batB
    split
    · rw [List.length_append, cmt_len (by omega) (by omega)]; omega
    · simp
  have HTN := Lib.hid (fun (h : batE s l = 0) (m : Nat) (hm : m < (batB s l).length) => par_torn (s := s) (l := l) 1 h hd (by omega) (by omega) hm)
  unfold BMade at HM1
  clear hr hd h39 hm hal
  generalize batB s l = bb at *
  generalize batN s l = bn at *
  generalize batE s l = be at *
  by_cases hq : be ≠ 0 ∨ n < 0 ∨ (bb.length : Int) ≤ n
  · have HFIN : True := trivial
    by_cases h1 : be = 0
    · have q0 : ((be : Int) != 0) = false := by simp [h1]
      by_cases h2 : n < 0
      · clear hq h1
        go_enter Try.func9, Try.ntmps9
        go_wp2_with fail
        refine HM1.out.mono ?_
        rintro e w2 ⟨v2, rfl, ho, hb⟩
        obtain ⟨A2, c2, rfl, hc2, hr2⟩ := ho.reads
        have HB2 := Lib.hid hb
        clear ho hb hr2
        go_wp2_with fail
        refine (HLV.out _).mono ?_
        rintro e w8 ⟨rfl, hb⟩
        have HB8 := Lib.hid (below_step' HB2.out hb)
        clear hb
        go_wp2_with fail
        go_ret
        exact ⟨rfl, HB8.out⟩
      · have h3 : (bb.length : Int) ≤ n := by
          rcases hq with h | h | h <;> omega
        clear hq h1
        go_enter Try.func9, Try.ntmps9
        go_wp2_with fail
        refine HM1.out.mono ?_
        rintro e w2 ⟨v2, rfl, ho, hb⟩
        obtain ⟨A2, c2, rfl, hc2, hr2⟩ := ho.reads
        have HB2 := Lib.hid hb
        clear ho hb hr2
        go_wp2_with fail
        refine (HLV.out _).mono ?_
        rintro e w8 ⟨rfl, hb⟩
        have HB8 := Lib.hid (below_step' HB2.out hb)
        clear hb
        go_wp2_with fail
        go_ret
        exact ⟨rfl, HB8.out⟩
    · have q0 : ((be : Int) != 0) = true := bne_iff_ne.2 (by omega)
      clear hq h1
      go_enter Try.func9, Try.ntmps9
      go_wp2_with fail
      refine HM1.out.mono ?_
      rintro e w2 ⟨v2, rfl, ho, hb⟩
      obtain ⟨A2, c2, rfl, hc2, hr2⟩ := ho.reads
      have HB2 := Lib.hid hb
      clear ho hb hr2
      go_wp2_with fail
      refine (HLV.out _).mono ?_
      rintro e w8 ⟨rfl, hb⟩
      have HB8 := Lib.hid (below_step' HB2.out hb)
      clear hb
      go_wp2_with fail
      go_ret
      exact ⟨rfl, HB8.out⟩
  · have h1 : be = 0 := by omega
    have h2 : ¬ n < 0 := by omega
    have h3 : ¬ (bb.length : Int) ≤ n := by omega
    have q0 : ((be : Int) != 0) = false := by simp [h1]
    obtain ⟨e1, he1, hp⟩ := HTN.out h1 n.toNat (by omega)
    have HP := Lib.hid hp
    have HE1 := Lib.hid he1
    clear hq h1 hp he1
    go_enter Try.func9, Try.ntmps9
    go_wp2_with fail
    refine HM1.out.mono ?_
    rintro e w2 ⟨v2, rfl, ho, hb⟩
    obtain ⟨A2, c2, rfl, hc2, hr2⟩ := ho.reads
    have HB2 := Lib.hid hb
    obtain ⟨y, hy, hcut, hrd, hyc, hyl⟩ := cutTo (A := A2) (l := bb) (c := c2) n (by omega) (by omega) hc2
    have HRY := Lib.hid (hrd _ hr2)
    have HPA := Lib.hid (show Calls Try.prog 33 #[.slice A2 y.length c2, .int .i64 0, .int .i64 1] w2 (BParsed ([], 0, 0, e1) w2) from by
      have h := bparse_any A2 c2 y 0 1 w2 (by omega) hyc HRY.out (by decide)
      rw [hy.out, HP.out] at h
      rw [hy.out]; exact h)
    unfold BParsed at HPA
    clear ho hb hr2 hrd hyl
    go_wp2_with fail
    refine HPA.out.mono ?_
    rintro e w3 ⟨v3, rfl, ho, hb⟩
    obtain ⟨A3, c3, rfl, hc3, -⟩ := ho.reads
    have HB3 := Lib.hid (below_step' HB2.out hb)
    have q1 : ((e1 : Int) != 0) = true := bne_iff_ne.2 (by have := HE1.out; omega)
    clear ho hb
    go_wp2_with fail
    refine (HLV.out _).mono ?_
    rintro e w8 ⟨rfl, hb⟩
    have HB8 := Lib.hid (below_step' HB3.out hb)
    clear hb
    go_wp2_with fail
    go_ret
    exact ⟨rfl, HB8.out⟩
end Go.Proofs.Ytceldlijbehkdaa.Bt
