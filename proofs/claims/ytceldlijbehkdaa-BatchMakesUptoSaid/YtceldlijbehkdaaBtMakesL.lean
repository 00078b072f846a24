/- law15: BatchMakes. -/
import Derived.Test.YtceldlijbehkdaaBtLiv
import Derived.Test.YtceldlijbehkdaaBtMake
set_option linter.unusedVariables false
set_option linter.unusedSimpArgs false
namespace Go.Proofs.Ytceldlijbehkdaa.Bt
open Go.RowKit Go.Proofs.YtceldlijbehkdaaW.PrintWords Go.Proofs.Ytceldlijbehkdaa.B Go.Proofs.Ytceldlijbehkdaa.Fx Go.Proofs.Ytceldlijbehkdaa.Fr Go.Proofs.Ytceldlijbehkdaa.O Go.Proofs.Ytceldlijbehkdaa.Rc
theorem bat_len {s : Nat} {l : List RecV} (h : batE s l = 0) (hn : l.length ≤ 4294967295) (hz : (allR 0 l).length ≤ 4294967295) : (batB s l).length = sizL l := by
  have h1 := (bat_ok h).1
  unfold batB sizL
  rw [if_pos h, if_pos h1, List.length_append, allR_len, cmt_len hn hz]
  omega
set_option maxRecDepth 100000 in
set_option maxHeartbeats 3200000 in
theorem bmakes_any (A : Option Addr) (c : Nat) (l : List RecV) (s : Nat) (w : World) (hr : RdR w A l) (_ : l.length ≤ c) (hm : ms mRec l ≤ 1048576) (hs : s < 18446744073709551616) :
    Calls Try.prog 7 #[.slice A l.length c, .int .u64 s] w (Kept (.bool true) w) := by
  have hd := hr.d32
  have h39 := ms_ge l hd
  have hlen : l.length ≤ 26886 := by unfold ms at hm; omega
  have hal := allR_le l 0 hd
  have HR := Lib.hid hr
  have HM1 := Lib.hid (fun (W : World) (h : RdR W A l) => bmake_any s A c l W h hs hm)
  have HM2 := Lib.hid (fun (W : World) (h : RdR W A l) => refbmake_any s A c l W h hs hm)
  have HM3 := Lib.hid (fun (W : World) (h : RdR W A l) => refbmake_any 0 A c l W h (by decide) hm)
  have HWR := Lib.hid (fun (W : World) (h : RdR W A l) => refwrong_any A c l W h (fun k => by have := nm_le l k; omega))
  have HSZ := Lib.hid (fun (W : World) (h : RdR W A l) => bsize_any A c l W h hm)
  have HLV := Lib.hid (fun W => blives_any W)
  have HBL : (batB s l).length ≤ 1763000029 := by
    by_cases h : batE s l = 0
    · rw [bat_len h (by omega) (by omega)]; unfold sizL; split <;> omega
    · unfold batB; rw [if_neg h]; simp
  have HL0 := Lib.hid (fun h : wrongE l = 0 => bat_len (s := 0) (l := l) (by unfold batE; rw [if_neg (by omega), if_neg (by omega)]) (by omega) (by omega))
  have HZ0 := Lib.hid (fun h : wrongE l ≠ 0 => (show sizL l = 0 from by unfold sizL; rw [if_neg h]))
  unfold BMade at HM1 HM2 HM3
  clear hr hd h39 hm hal
  generalize batB s l = bb at *
  generalize batN s l = bn at *
  generalize batE s l = be at *
  generalize batB 0 l = b0 at *
  generalize batN 0 l = n0 at *
  generalize batE 0 l = e0 at *
  generalize sizL l = sz at *
  generalize wrongE l = we at *
  have HSM := Lib.hid (fun (W : World) (A2 A3 : Option Addr) (c2 c3 : Nat) (h1 : Rd W A2 bb) (h2 : Rd W A3 bb) => (show Calls Try.prog 21 #[.slice A2 bb.length c2, .slice A3 bb.length c3] W (Quiet (.bool true) W) from by have h := R01.same_any A2 c2 bb A3 c3 bb W (by omega) h1 h2; rwa [show R01.sameB bb bb = true from decide_eq_true rfl] at h))
  go_enter Try.func7, Try.ntmps7
  go_wp2_with fail
  refine (HM1.out _ HR.out).mono ?_
  rintro e w2 ⟨v2, rfl, ho, hb⟩
  obtain ⟨A2, c2, rfl, hc2, hr2⟩ := ho.reads
  have HR2 := Lib.hid hr2
  have HA2 := Lib.hid (HR.out.below hb)
  have HB2 := Lib.hid hb
  clear ho hb hr2
  go_wp2_with fail
  refine (HM2.out _ HA2.out).mono ?_
  rintro e w3 ⟨v3, rfl, ho, hb⟩
  obtain ⟨A3, c3, rfl, hc3, hr3⟩ := ho.reads
  have HR3 := Lib.hid hr3
  have HR23 := Lib.hid (HR2.out.below hb)
  have HA3 := Lib.hid (HA2.out.below hb)
  have HB3 := Lib.hid (below_step' HB2.out hb)
  clear ho hb hr3
  go_wp2_with fail
  refine (HWR.out _ HA3.out).mono ?_
  rintro e w4 ⟨rfl, hb⟩
  have HR4 := Lib.hid (HR3.out.below hb)
  have HR24 := Lib.hid (HR23.out.below hb)
  have HA4 := Lib.hid (HA3.out.below hb)
  have HB4 := Lib.hid (below_step' HB3.out hb)
  clear hb
  by_cases hw : we = 0
  · have HLN := Lib.hid (HL0.out hw)
    have q0 : ((we : Int) == 0) = true := by simp [hw]
    clear hw
    go_wp2_with fail
    refine (HM3.out _ HA4.out).mono ?_
    rintro e w5 ⟨v5, rfl, ho, hb⟩
    obtain ⟨A5, c5, rfl, hc5, hr5⟩ := ho.reads
    have HR5 := Lib.hid (HR4.out.below hb)
    have HR25 := Lib.hid (HR24.out.below hb)
    have HA5 := Lib.hid (HA4.out.below hb)
    have HB5 := Lib.hid (below_step' HB4.out hb)
    have hlz := HLN.out
    clear ho hb hr5 hc5 HLN
    rw [hlz]
    clear hlz
    go_wp2_with fail
    refine (HSM.out _ A2 A3 c2 c3 HR25.out HR5.out).mono ?_
    rintro e w6 ⟨rfl, n6, hw6⟩
    have hb : Below w5.heap.size w5 w6 := hw6 ▸ pw_below_drewN (Below.refl _ _) n6
    have HA6 := Lib.hid (HA5.out.below hb)
    have HB6 := Lib.hid (below_step' HB5.out hb)
    clear hw6 hb
    go_wp2_with fail
    refine (HSZ.out _ HA6.out).mono ?_
    rintro e w7 ⟨rfl, hb⟩
    have HB7 := Lib.hid (below_step' HB6.out hb)
    clear hb
    go_wp2_with fail
    refine (HLV.out _).mono ?_
    rintro e w8 ⟨rfl, hb⟩
    have HB8 := Lib.hid (below_step' HB7.out hb)
    clear hb
    go_wp2_with fail
    go_ret
    exact ⟨rfl, HB8.out⟩
  · have hlz := HZ0.out hw
    have q0 : ((we : Int) == 0) = false := beq_eq_false_iff_ne.2 (by omega)
    subst hlz
    clear hw
    go_wp2_with fail
    refine (HSM.out _ A2 A3 c2 c3 HR24.out HR4.out).mono ?_
    rintro e w6 ⟨rfl, n6, hw6⟩
    have hb : Below w4.heap.size w4 w6 := hw6 ▸ pw_below_drewN (Below.refl _ _) n6
    have HA6 := Lib.hid (HA4.out.below hb)
    have HB6 := Lib.hid (below_step' HB4.out hb)
    clear hw6 hb
    go_wp2_with fail
    refine (HSZ.out _ HA6.out).mono ?_
    rintro e w7 ⟨rfl, hb⟩
    have HB7 := Lib.hid (below_step' HB6.out hb)
    clear hb
    go_wp2_with fail
    refine (HLV.out _).mono ?_
    rintro e w8 ⟨rfl, hb⟩
    have HB8 := Lib.hid (below_step' HB7.out hb)
    clear hb
    go_wp2_with fail
    go_ret
    exact ⟨rfl, HB8.out⟩
end Go.Proofs.Ytceldlijbehkdaa.Bt
