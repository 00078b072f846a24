/- law15: lives. -/
import Derived.Test.YtceldlijbehkdaaBtBk
import Derived.Test.YtceldlijbehkdaaBtPar
import Derived.Test.YtceldlijbehkdaaBtMake
import Derived.Test.YtceldlijbehkdaaRcWEq
set_option linter.unusedVariables false
set_option linter.unusedSimpArgs false
namespace Go.Proofs.Ytceldlijbehkdaa.Bt
open Go.RowKit Go.Proofs.YtceldlijbehkdaaW.PrintWords Go.Proofs.Ytceldlijbehkdaa.B Go.Proofs.Ytceldlijbehkdaa.Fx Go.Proofs.Ytceldlijbehkdaa.Fr Go.Proofs.Ytceldlijbehkdaa.O Go.Proofs.Ytceldlijbehkdaa.Rc
def d7 : List UInt8 := 7 :: List.replicate 31 0
def x5 : RecV := (5, 0, d7, ⟨#[]⟩, [], 0, 0)
def X5 : Array Value := recC 5 0 d7 ⟨#[]⟩ none 0 0 0 0
theorem rec_row {w : World} {g : Nat} (h : w.heap[g]? = some (.cells X5 27 (0, 0))) : RdR w (some ⟨g, 0, none⟩) [x5] := by
  refine ⟨rfl, by decide, fun _ => ⟨_, rfl, fun j p hj => ?_⟩⟩
  cases j with
  | succ j => simp at hj
  | zero =>
    obtain rfl : x5 = p := by simpa using hj
    refine ⟨X5.toList, rfl, ?_, fun i u hu => ?_⟩
    · have hD : kD.K w d7 (d7.map encB) := ⟨rfl, rfl, fun i x hi => by
        have h1 : (d7.map encB)[i]? = some (encB x) := by rw [List.getElem?_map, hi]; rfl
        obtain ⟨h2, h3⟩ := List.getElem?_eq_some_iff.1 h1
        show ((d7.map encB).drop (i * 1)).take 1 = [encB x]
        rw [Nat.mul_one, List.drop_eq_getElem_cons h2, List.take_succ_cons, h3]; rfl⟩
      exact ⟨[_], _, rfl, rfl, [_], _, rfl, rfl, d7.map encB, _, rfl, hD, [_], _, rfl, rfl, [_], _, rfl, ⟨none, 0, rfl, Nat.le_refl _, Rd.nil w⟩, [_], _, rfl, rfl, rfl⟩
    · have h1 := blk_cell h i
      rw [show (⟨g, 0, none⟩ : Addr).add (0 * kRec.sz + i) = ⟨g, i, none⟩ by
        rw [Nat.zero_mul, Nat.zero_add]
        unfold Addr.add; split <;> simp_all]
      rw [h1]; simpa using hu
theorem live_e : batE 5 [x5] = 0 := by decide +kernel
theorem live_r : (bR 5 x5).length = 53 := by decide +kernel
theorem live_bl : (batB 5 [x5]).length = 82 := by decide +kernel
theorem live_z : sizL [x5] = 82 := by decide +kernel
theorem live_n : batN 5 [x5] = 7 := by decide +kernel
theorem live_m : ms mRec [x5] ≤ 1048576 := by decide +kernel
def w5 : Wd := ⟨5, 5, d7, ⟨#[]⟩, 0, 3, 0, 53⟩
theorem live_p : parL (batB 5 [x5]) 0 3 = ([w5], 82, 6, 0) := by
  have h := par_back (s := 5) (l := [x5]) (a := []) (t := []) (all := batB 5 [x5]) 3 live_e (by decide) (by decide) (by decide +kernel) (by simp)
  rw [live_bl] at h
  exact h
set_option maxRecDepth 100000 in
set_option maxHeartbeats 3200000 in
theorem blives_any (w : World) : Calls Try.prog 32 #[] w (Kept (.bool true) w) := by
  obtain ⟨w1, hw1⟩ : ∃ w1, w.alloc (.cells X5 27) = w1 := ⟨_, rfl⟩
  have HG := Lib.hid (show w1.heap[w.heap.size]? = some (.cells X5 27 (0, 0)) from hw1 ▸ blk_new w _)
  have HB1 := Lib.hid (show Below w.heap.size w w1 from hw1 ▸ below_alloc (Below.refl _ _) _)
  have HMK := Lib.hid (show Calls Try.prog 28 #[.slice (some ⟨w.heap.size, 0, none⟩) 1 1, .int .u64 5] w1 (fun e w' => ∃ v, e = .returned (.tuple #[v, .int .u64 7, .int .i64 0]) ∧ Buf w' w1.heap.size v (batB 5 [x5]) ∧ Below w1.heap.size w1 w') from by
    have h := bmake_any 5 _ 1 [x5] w1 (rec_row HG.out) (by decide) live_m
    unfold BMade at h
    rw [live_e, live_n] at h
    exact h)
  have HSZ := Lib.hid (fun (W : World) (h : RdR W (some ⟨w.heap.size, 0, none⟩) [x5]) => (show Calls Try.prog 31 #[.slice (some ⟨w.heap.size, 0, none⟩) 1 1] W (Kept (.int .i64 82) W) from by
    have h := bsize_any _ 1 [x5] W h live_m
    rw [live_z] at h
    exact h))
  have HPA := Lib.hid (fun (W : World) (A : Option Addr) (c : Nat) (hc : 82 ≤ c) (h : Rd W A (batB 5 [x5])) => (show Calls Try.prog 33 #[.slice A 82 c, .int .i64 0, .int .i64 3] W (fun e w' => ∃ v, e = .returned (.tuple #[v, .int .i64 82, .int .u64 6, .int .i64 0]) ∧ OwnW w' W.heap.size v [w5] ∧ Below W.heap.size W w') from by
    have h := bparse_any A c (batB 5 [x5]) 0 3 W (by rw [live_bl]; decide) (by rw [live_bl]; exact hc) h (by decide)
    unfold BParsed at h
    rw [live_p, live_bl] at h
    exact h))
  have HLN := Lib.hid live_bl
  have HRR := Lib.hid (rec_row HG.out)
  have HUR := Lib.hid (show Try.prog.underlying 53 = some (.slice 27) from Try.underlying53)
  have HIR := Lib.hid (show (Try.prog.info? 27).map (·.size) = some X5.size from infoRec)
  go_enter Try.func32, Try.ntmps32
  go_wp2_with (first | (refine wpList_buildOne rfl 53 27 (.tmp 10) rfl HUR.out X5 zRec rfl HIR.out (by decide) zeroRec ?_; rw [hw1]))
  refine HMK.out.mono ?_
  rintro e w2 ⟨v2, rfl, ho, hb⟩
  obtain ⟨A2, c2, rfl, hc2, hr2⟩ := ho.reads
  have HR2 := Lib.hid hr2
  rw [HLN.out] at hc2
  have HRR2 := Lib.hid (HRR.out.below hb)
  have HB2 := Lib.hid (below_step' HB1.out hb)
  clear ho hb hr2 hw1
  simp only [HLN.out]
  go_wp2_with fail
  refine (HPA.out w2 A2 c2 hc2 HR2.out).mono ?_
  rintro e w3 ⟨v3, rfl, ho, hb⟩
  obtain ⟨A3, c3, rfl, hc3, hr3⟩ := ho.reads
  have HR3 := Lib.hid hr3
  have HRR3 := Lib.hid (HRR2.out.below hb)
  have HB3 := Lib.hid (below_step' HB2.out hb)
  clear ho hb hr3
  go_wp2_with fail
  refine (HSZ.out w3 HRR3.out).mono ?_
  rintro e w4 ⟨rfl, hb⟩
  have HB4 := Lib.hid (below_step' HB3.out hb)
  obtain ⟨ad, XW, rfl, hXW, -, c0, hrg, HP0⟩ := (HR3.out.below hb).walk 0 (by decide)
  have e0 : ad.add (0 * 39) = ad := by unfold Addr.add; simp
  rw [e0] at c0 hrg HP0
  have hx : XW.toArray = wordC 5 5 d7 ⟨#[]⟩ 0 3 0 53 := hXW.eq
  have HX := Lib.hid hXW
  have HXL := Lib.hid (show (Try.prog.info? 50).map (·.size) = some XW.length from by have h := hXW.info; rwa [List.size_toArray] at h)
  have HEQ := Lib.hid (fun (W : World) => (show (binOp .eql 50 (.agg XW.toArray) (.agg (wordC 5 5 d7 ⟨#[]⟩ 0 3 0 53))).run Try.prog W = .ok (.bool true) W from by have h := word_self hXW W; rw [← hx]; exact h))
  have HRG := Lib.hid hrg
  clear hb hXW hx hrg
  go_wp2_with (first | (refine wpList_load_midG rfl 50 (.tmp 60) rfl _ _ HP0.out XW _ HRG.out Try.underlying50 rfl HXL.out ?_) | (refine wpList_eqG rfl .eql 50 50 (.tmp 61) (.tmp 64) rfl XW.toArray (wordC 5 5 d7 ⟨#[]⟩ 0 3 0 53) rfl rfl (by kernel_rfl) (.bool true) (HEQ.out _) ?_))
  go_ret
  exact ⟨rfl, HB4.out⟩
end Go.Proofs.Ytceldlijbehkdaa.Bt
