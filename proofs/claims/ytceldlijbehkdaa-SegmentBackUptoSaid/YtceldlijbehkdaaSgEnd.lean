/- segments: Head, Foot; law16: lives, SegmentEnds. -/
import Derived.Test.YtceldlijbehkdaaSgScan
set_option linter.unusedVariables false
set_option linter.unusedSimpArgs false
namespace Go.Proofs.Ytceldlijbehkdaa.Sg
open Go.RowKit Go.Proofs.YtceldlijbehkdaaW.PrintWords Go.Proofs.Ytceldlijbehkdaa.B Go.Proofs.Ytceldlijbehkdaa.Fx Go.Proofs.Ytceldlijbehkdaa.Fr Go.Proofs.Ytceldlijbehkdaa.O Go.Proofs.Ytceldlijbehkdaa.Rc Go.Proofs.Ytceldlijbehkdaa.Bt
def hArr (k s n z : Int) : Array Value := (Value.int .i64 k :: .int .u64 s :: (z32.map encB ++ [.string ⟨#[]⟩, .slice none 0 0, .int .i64 n, .int .i64 z])).toArray
/-- a header's, a footer's bytes -/
def headB (n : Int) (s : Nat) : List UInt8 := makeR 7 s z32 [] [] n 0
def footB (n z : Int) (s : Nat) : List UInt8 := makeR 8 s z32 [] [] n z
def Bytes (m : List UInt8) (w : World) (e : Ending) (w' : World) : Prop := ∃ v, e = .returned v ∧ Own w' w.heap.size v m ∧ Below w.heap.size w w'
theorem hmake (k n z : Int) (s : Nat) (w : World) (hs : s < 18446744073709551616) : Calls Try.prog 19 #[.agg (hArr k s n z)] w (MadeE w (makeR k s z32 [] [] n z) (rightE k 0 [] n z)) :=
  make_any (hArr k s n z) k s z32 ⟨#[]⟩ none [] 0 n z w (recF rfl) (Rd.nil w) hs (by decide)
theorem refhmake (k n z : Int) (s : Nat) (w : World) (hs : s < 18446744073709551616) : Calls Try.prog 22 #[.agg (hArr k s n z)] w (MadeE w (makeR k s z32 [] [] n z) (rightE k 0 [] n z)) :=
  refmake_any (hArr k s n z) k s z32 ⟨#[]⟩ none [] 0 n z w (recF rfl) (Rd.nil w) hs (by decide)
set_option maxRecDepth 100000 in
theorem head_any (n : Int) (s : Nat) (w : World) (hs : s < 18446744073709551616) : Calls Try.prog 41 #[.int .i64 n, .int .u64 s] w (Bytes (headB n s) w) := by
  have HM := Lib.hid (hmake 7 n 0 s w hs)
  have HDF := Lib.hid (show Bytes (headB n s) w = fun e w' => ∃ v, e = .returned v ∧ Own w' w.heap.size v (makeR 7 s z32 [] [] n 0) ∧ Below w.heap.size w w' from rfl)
  generalize makeR 7 s z32 [] [] n 0 = m at *
  generalize rightE 7 0 [] n 0 = er at *
  go_enter Try.func41, Try.ntmps41
  go_wp2_with fail
  refine HM.out.mono ?_
  rintro e w2 ⟨v2, rfl, ho, hb⟩
  have HO := Lib.hid ho
  have HB := Lib.hid hb
  clear ho hb
  go_wp2_with fail
  go_ret
  rw [HDF.out]
  exact ⟨_, rfl, HO.out, HB.out⟩
set_option maxRecDepth 100000 in
theorem foot2_any (n z : Int) (s : Nat) (w : World) (hs : s < 18446744073709551616) : Calls Try.prog 42 #[.int .i64 n, .int .i64 z, .int .u64 s] w (Bytes (footB n z s) w) := by
  have HM := Lib.hid (hmake 8 n z s w hs)
  have HDF := Lib.hid (show Bytes (footB n z s) w = fun e w' => ∃ v, e = .returned v ∧ Own w' w.heap.size v (makeR 8 s z32 [] [] n z) ∧ Below w.heap.size w w' from rfl)
  generalize makeR 8 s z32 [] [] n z = m at *
  generalize rightE 8 0 [] n z = er at *
  go_enter Try.func42, Try.ntmps42
  go_wp2_with fail
  refine HM.out.mono ?_
  rintro e w2 ⟨v2, rfl, ho, hb⟩
  have HO := Lib.hid ho
  have HB := Lib.hid hb
  clear ho hb
  go_wp2_with fail
  go_ret
  rw [HDF.out]
  exact ⟨_, rfl, HO.out, HB.out⟩
/-! ### lives -/
theorem lv_right : rightE 7 ([] : List UInt8).length (⟨#[]⟩ : ByteArray).data.toList 5 0 = 0 := by decide +kernel
theorem lv_len : (headB 5 9).length = 37 := by decide +kernel
theorem lv_rec : recE (headB 5 9) 0 = 0 ∧ (pKind (headB 5 9) 0 : Int) = 7 ∧ pSeq (headB 5 9) 0 = 9 ∧ nF (pKind (headB 5 9) 0) (pData (headB 5 9) 0) = 5 ∧ pEnd (headB 5 9) 0 = 37 := by
  obtain ⟨h1, h2, h3, h4, h5⟩ := parse_back (k := 7) (s := 9) (d := z32) (l := []) (a := []) (t := []) (nm := ⟨#[]⟩) (n := 5) (z := 0) (by decide) rfl lv_right (headB 5 9) (by rw [List.append_nil, List.nil_append]; rfl)
  obtain ⟨-, -, -, -, g5, -⟩ := data_back (k := 7) (d := z32) (l := []) (nm := ⟨#[]⟩) (n := 5) (z := 0) rfl lv_right
  rw [show ((([] : List UInt8).length : Nat) : Int) = 0 from rfl] at h1 h2 h3 h4 h5
  refine ⟨h1, h2, h3, by rw [h2, h4, g5]; rfl, ?_⟩
  rw [h5, show makeR 7 9 z32 (⟨#[]⟩ : ByteArray).data.toList [] 5 0 = headB 5 9 from rfl, lv_len]; rfl
theorem lv_scan : scanL (headB 5 9) 5 = ⟨[], 9, 37, false, 37, 0⟩ := by
  obtain ⟨h1, h2, h3, h4, h5⟩ := lv_rec
  have hb : begS (headB 5 9) 5 = ⟨[], 9, 37, false, 37, 0⟩ := by
    unfold begS
    rw [if_neg (by simp [h1]), if_pos ⟨h2, h4⟩, h3, h5]
  unfold scanL
  rw [hb, if_neg (by simp), scanF_end (by rw [lv_len]; decide)]
theorem lv_scan6 : scanL (headB 5 9) 6 = ⟨[], 0, 0, false, 0, 3⟩ := by
  obtain ⟨h1, h2, h3, h4, h5⟩ := lv_rec
  have hb : begS (headB 5 9) 6 = ⟨[], 0, 0, false, 0, 3⟩ := by
    unfold begS
    rw [if_neg (by simp [h1]), if_neg (fun h => by rw [h4] at h; exact absurd h.2 (by decide))]
  unfold scanL
  rw [hb, if_pos (by simp)]
set_option maxRecDepth 100000 in
set_option maxHeartbeats 3200000 in
theorem slives_any (w : World) : Calls Try.prog 38 #[] w (Kept (.bool true) w) := by
  have HH := Lib.hid (head_any 5 9 w (by decide))
  have HLN := Lib.hid lv_len
  have HS5 := Lib.hid (fun (W : World) (A : Option Addr) (c : Nat) (hc : 37 ≤ c) (h : Rd W A (headB 5 9)) => (show Calls Try.prog 36 #[.slice A 37 c, .int .i64 5] W (fun e w' => ∃ v, e = .returned (.agg #[v, .int .u64 9, .int .i64 37, .bool false, .int .i64 37, .int .i64 0]) ∧ v.oneCell' = true ∧ Below W.heap.size W w') from by
    have h := scan_any A c (headB 5 9) 5 W (by rw [lv_len]; decide) (by rw [lv_len]; exact hc) h
    rw [lv_len, lv_scan] at h
    exact h.mono fun e w' ⟨v, h1, h2, h3⟩ => ⟨v, h1, OwnW.one h2, h3⟩))
  have HS6 := Lib.hid (fun (W : World) (A : Option Addr) (c : Nat) (hc : 37 ≤ c) (h : Rd W A (headB 5 9)) => (show Calls Try.prog 36 #[.slice A 37 c, .int .i64 6] W (fun e w' => ∃ v, e = .returned (.agg #[v, .int .u64 0, .int .i64 0, .bool false, .int .i64 0, .int .i64 3]) ∧ v.oneCell' = true ∧ Below W.heap.size W w') from by
    have h := scan_any A c (headB 5 9) 6 W (by rw [lv_len]; decide) (by rw [lv_len]; exact hc) h
    rw [lv_len, lv_scan6] at h
    exact h.mono fun e w' ⟨v, h1, h2, h3⟩ => ⟨v, h1, OwnW.one h2, h3⟩))
  unfold Bytes at HH
  go_enter Try.func38, Try.ntmps38
  go_wp2_with fail
  refine HH.out.mono ?_
  rintro e w2 ⟨v2, rfl, ho, hb⟩
  obtain ⟨A2, c2, rfl, hc2, hr2⟩ := ho.reads
  have HR2 := Lib.hid hr2
  rw [HLN.out] at hc2
  have HB2 := Lib.hid hb
  clear ho hb hr2
  simp only [HLN.out]
  go_wp2_with fail
  refine (HS5.out _ _ _ hc2 HR2.out).mono ?_
  rintro e w3 ⟨v3, rfl, hv3, hb⟩
  obtain ⟨W4, hW4⟩ : ∃ W, w3.alloc (.cells #[v3, .int .u64 9, .int .i64 37, .bool false, .int .i64 37, .int .i64 0] 69) = W := ⟨_, rfl⟩
  have hbw : Below w3.heap.size w3 W4 := hW4 ▸ below_alloc (Below.refl _ _) _
  have HG4 := Lib.hid (show W4.heap[w3.heap.size]? = some (.cells #[v3, .int .u64 9, .int .i64 37, .bool false, .int .i64 37, .int .i64 0] 69 (0, 0)) from hW4 ▸ blk_new w3 _)
  have HR4 := Lib.hid ((HR2.out.below hb).below hbw)
  have HB4 := Lib.hid (below_step' (below_step' HB2.out hb) hbw)
  have HONE := Lib.hid (scC_one' v3 9 37 false 37 0 hv3)
  have hcg := fun i => blk_cell HG4.out i
  clear hb hbw hv3
  go_wp2_with (first | (refine wpList_box rfl rfl 69 _ _ rfl rfl #[v3, .int .u64 9, .int .i64 37, .bool false, .int .i64 37, .int .i64 0] #[.slice none 0 0, .int .u64 0, .int .i64 0, .bool false, .int .i64 0, .int .i64 0] zeroSc rfl rfl rfl infoSc HONE.out ?_; rw [hW4]))
  refine (HS6.out _ _ _ hc2 HR4.out).mono ?_
  rintro e w5 ⟨v5, rfl, hv5, hb⟩
  have HB5 := Lib.hid (below_step' HB4.out hb)
  clear hb hv5
  have hfd : (Instr.field 69 (.agg #[v5, .int .u64 0, .int .i64 0, .bool false, .int .i64 0, .int .i64 3]) 5).run Try.prog w5 = .ok (.int .i64 3) w5 := by kernel_rfl
  go_wp2_with fail
  go_ret
  exact ⟨rfl, HB5.out⟩
set_option maxRecDepth 100000 in
set_option maxHeartbeats 3200000 in
theorem sends_any (n z : Int) (s : Nat) (w : World) (hn : -9223372036854775808 ≤ n ∧ n ≤ 9223372036854775807) (hz : -9223372036854775808 ≤ z ∧ z ≤ 9223372036854775807) (hs : s < 18446744073709551616) :
    Calls Try.prog 13 #[.int .i64 n, .int .i64 z, .int .u64 s] w (Kept (.bool true) w) := by
  have HM7 := Lib.hid (refhmake 7 n 0 s w hs)
  have HM8 := Lib.hid (fun W => refhmake 8 n z s W hs)
  have HH := Lib.hid (fun W => head_any n s W hs)
  have HF := Lib.hid (fun W => foot2_any n z s W hs)
  have HLV := Lib.hid (fun W => slives_any W)
  have hl7 : (headB n s).length ≤ 65557 := makeR_len rfl
  have hl8 : (footB n z s).length ≤ 65557 := makeR_len rfl
  have e7 : makeR 7 s z32 [] [] n 0 = headB n s := rfl
  have e8 : makeR 8 s z32 [] [] n z = footB n z s := rfl
  rw [e7] at HM7
  rw [e8] at HM8
  unfold Bytes at HH HF
  clear e7 e8
  generalize headB n s = b7 at *
  generalize footB n z s = b8 at *
  generalize rightE 7 0 [] n 0 = r7 at *
  generalize rightE 8 0 [] n z = r8 at *
  have HS7 := Lib.hid (fun (W : World) (A2 A3 : Option Addr) (c2 c3 : Nat) (h1 : Rd W A2 b7) (h2 : Rd W A3 b7) => (show Calls Try.prog 21 #[.slice A2 b7.length c2, .slice A3 b7.length c3] W (Quiet (.bool true) W) from by have h := R01.same_any A2 c2 b7 A3 c3 b7 W (by omega) h1 h2; rwa [show R01.sameB b7 b7 = true from decide_eq_true rfl] at h))
  have HS8 := Lib.hid (fun (W : World) (A2 A3 : Option Addr) (c2 c3 : Nat) (h1 : Rd W A2 b8) (h2 : Rd W A3 b8) => (show Calls Try.prog 21 #[.slice A2 b8.length c2, .slice A3 b8.length c3] W (Quiet (.bool true) W) from by have h := R01.same_any A2 c2 b8 A3 c3 b8 W (by omega) h1 h2; rwa [show R01.sameB b8 b8 = true from decide_eq_true rfl] at h))
  go_enter Try.func13, Try.ntmps13
  go_wp2_with fail
  refine HM7.out.mono ?_
  rintro e w2 ⟨v2, rfl, ho, hb⟩
  obtain ⟨A2, c2, rfl, hc2, hr2⟩ := ho.reads
  have HR2 := Lib.hid hr2
  have HB2 := Lib.hid hb
  clear ho hb hr2
  go_wp2_with fail
  refine (HM8.out _).mono ?_
  rintro e w3 ⟨v3, rfl, ho, hb⟩
  obtain ⟨A3, c3, rfl, hc3, hr3⟩ := ho.reads
  have HR3 := Lib.hid hr3
  have HR23 := Lib.hid (HR2.out.below hb)
  have HB3 := Lib.hid (below_step' HB2.out hb)
  clear ho hb hr3
  go_wp2_with fail
  refine (HH.out _).mono ?_
  rintro e w4 ⟨v4, rfl, ho, hb⟩
  obtain ⟨A4, c4, rfl, hc4, hr4⟩ := ho.reads
  have HR4 := Lib.hid hr4
  have HR24 := Lib.hid (HR23.out.below hb)
  have HR34 := Lib.hid (HR3.out.below hb)
  have HB4 := Lib.hid (below_step' HB3.out hb)
  clear ho hb hr4
  go_wp2_with fail
  refine (HS7.out _ A4 A2 c4 c2 HR4.out HR24.out).mono ?_
  rintro e w5 ⟨rfl, n5, hw5⟩
  have hb : Below w4.heap.size w4 w5 := hw5 ▸ pw_below_drewN (Below.refl _ _) n5
  have HR35 := Lib.hid (HR34.out.below hb)
  have HB5 := Lib.hid (below_step' HB4.out hb)
  clear hw5 hb
  go_wp2_with fail
  refine (HF.out _).mono ?_
  rintro e w6 ⟨v6, rfl, ho, hb⟩
  obtain ⟨A6, c6, rfl, hc6, hr6⟩ := ho.reads
  have HR6 := Lib.hid hr6
  have HR36 := Lib.hid (HR35.out.below hb)
  have HB6 := Lib.hid (below_step' HB5.out hb)
  clear ho hb hr6
  go_wp2_with fail
  refine (HS8.out _ A6 A3 c6 c3 HR6.out HR36.out).mono ?_
  rintro e w7 ⟨rfl, n7, hw7⟩
  have hb : Below w6.heap.size w6 w7 := hw7 ▸ pw_below_drewN (Below.refl _ _) n7
  have HB7 := Lib.hid (below_step' HB6.out hb)
  clear hw7 hb
  go_wp2_with fail
  refine (HLV.out _).mono ?_
  rintro e w8 ⟨rfl, hb⟩
  have HB8 := Lib.hid (below_step' HB7.out hb)
  clear hb
  go_wp2_with fail
  go_ret
  exact ⟨rfl, HB8.out⟩
end Go.Proofs.Ytceldlijbehkdaa.Sg
