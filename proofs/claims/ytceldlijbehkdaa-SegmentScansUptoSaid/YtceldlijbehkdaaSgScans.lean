/- law16: scans that are the same; SegmentScans. -/
import Derived.Test.YtceldlijbehkdaaSgRScan
import Derived.Test.YtceldlijbehkdaaSgEnd
import Derived.Test.YtceldlijbehkdaaSgWds
set_option linter.unusedVariables false
set_option linter.unusedSimpArgs false
namespace Go.Proofs.Ytceldlijbehkdaa.Sg
open Go.RowKit Go.Proofs.YtceldlijbehkdaaW.PrintWords Go.Proofs.Ytceldlijbehkdaa.B Go.Proofs.Ytceldlijbehkdaa.Fx Go.Proofs.Ytceldlijbehkdaa.Fr Go.Proofs.Ytceldlijbehkdaa.O Go.Proofs.Ytceldlijbehkdaa.Rc Go.Proofs.Ytceldlijbehkdaa.Bt
set_option maxRecDepth 100000 in
set_option maxHeartbeats 3200000 in
theorem same_scan (A1 A2 : Option Addr) (c1 c2 : Nat) (ws : List Wd) (q : Nat) (en : Int) (sl : Bool) (at_ : Int) (er : Nat) (w : World) (hr1 : RdW w A1 ws) (hr2 : RdW w A2 ws) (hl : ws.length ≤ 140737488355328) :
    Calls Try.prog 35 #[.agg (ScC (.slice A1 ws.length c1) ⟨ws, q, en, sl, at_, er⟩), .agg (ScC (.slice A2 ws.length c2) ⟨ws, q, en, sl, at_, er⟩)] w (Kept (.bool true) w) := by
  show Calls Try.prog 35 #[.agg #[.slice A1 ws.length c1, .int .u64 q, .int .i64 en, .bool sl, .int .i64 at_, .int .i64 er], .agg #[.slice A2 ws.length c2, .int .u64 q, .int .i64 en, .bool sl, .int .i64 at_, .int .i64 er]] w (Kept (.bool true) w)
  obtain ⟨w1, hw1⟩ : ∃ w1, (w.alloc (.cells #[.slice A1 ws.length c1, .int .u64 q, .int .i64 en, .bool sl, .int .i64 at_, .int .i64 er] 69)).alloc (.cells #[.slice A2 ws.length c2, .int .u64 q, .int .i64 en, .bool sl, .int .i64 at_, .int .i64 er] 69) = w1 := ⟨_, rfl⟩
  obtain ⟨hg, hz, hb0⟩ := run_blk2 w #[.slice A1 ws.length c1, .int .u64 q, .int .i64 en, .bool sl, .int .i64 at_, .int .i64 er] #[.slice A2 ws.length c2, .int .u64 q, .int .i64 en, .bool sl, .int .i64 at_, .int .i64 er] 69 69
  rw [hw1] at hg hz hb0
  have HG := Lib.hid hg
  have HZ := Lib.hid hz
  have HB1 := Lib.hid hb0
  have HWD := Lib.hid (words_yes A1 A2 c1 c2 ws w1 (hr1.below hb0) (hr2.below hb0) hl)
  clear hg hz hb0 hr1 hr2
  have hcg := fun i => blk_cell HG.out i
  have hcz := fun i => blk_cell HZ.out i
  go_enter Try.func35, Try.ntmps35
  go_wp2_with fail
  try rw [hw1]
  refine HWD.out.mono ?_
  rintro e w2 ⟨rfl, hb⟩
  have HG2 := Lib.hid (blk_below HG.out hb)
  have HZ2 := Lib.hid (blk_below HZ.out hb)
  have HB2 := Lib.hid (below_step' HB1.out hb)
  clear hb hcg hcz hw1
  have hcg := fun i => blk_cell HG2.out i
  have hcz := fun i => blk_cell HZ2.out i
  cases sl
  all_goals
    go_wp2_with fail
    go_ret
    exact ⟨rfl, HB2.out⟩
set_option maxRecDepth 100000 in
set_option maxHeartbeats 3200000 in
theorem sscans_any (A : Option Addr) (c : Nat) (b : List UInt8) (n : Int) (w : World) (hr : Rd w A b) (hc : b.length ≤ c) (hl : b.length ≤ 1048576) (hn : -9223372036854775808 ≤ n ∧ n ≤ 9223372036854775807) :
    Calls Try.prog 10 #[.slice A b.length c, .int .i64 n] w (Kept (.bool true) w) := by
  have HS1 := Lib.hid (scan_any A c b n w (by omega) hc hr)
  have HS2 := Lib.hid (fun (W : World) (h : Rd W A b) => refscan_any A c b n W (by omega) hc h)
  have HLV := Lib.hid (fun W => slives_any W)
  have HRD := Lib.hid hr
  have HLN := Lib.hid (scanL_len b n)
  unfold Scanned at HS1 HS2
  clear hr
  generalize scanL b n = x at *
  obtain ⟨ws, q, en, sl, at_, er⟩ := x
  go_enter Try.func10, Try.ntmps10
  go_wp2_with fail
  refine HS1.out.mono ?_
  rintro e w2 ⟨v2, rfl, ho, hb⟩
  obtain ⟨A2, c2, rfl, -, hr2⟩ := OwnW.reads ho
  have HR2 := Lib.hid hr2
  have HD2 := Lib.hid (HRD.out.below hb)
  have HB2 := Lib.hid hb
  clear ho hb hr2
  go_wp2_with fail
  refine (HS2.out _ HD2.out).mono ?_
  rintro e w3 ⟨v3, rfl, ho, hb⟩
  obtain ⟨A3, c3, rfl, -, hr3⟩ := OwnW.reads ho
  have HB3 := Lib.hid (below_step' HB2.out hb)
  have HSM := Lib.hid (same_scan A2 A3 c2 c3 ws q en sl at_ er w3 (HR2.out.below hb) hr3 (by have h := HLN.out; (try simp only at h); omega))
  clear ho hb hr3
  go_wp2_with fail
  refine HSM.out.mono ?_
  rintro e w4 ⟨rfl, hb⟩
  have HB4 := Lib.hid (below_step' HB3.out hb)
  clear hb
  go_wp2_with fail
  refine (HLV.out _).mono ?_
  rintro e w5 ⟨rfl, hb⟩
  have HB5 := Lib.hid (below_step' HB4.out hb)
  clear hb
  go_wp2_with fail
  go_ret
  exact ⟨rfl, HB5.out⟩
end Go.Proofs.Ytceldlijbehkdaa.Sg
