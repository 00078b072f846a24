/- law14: lives, RecordParses, RecordForms. -/
import Derived.Test.YtceldlijbehkdaaRcBack
set_option linter.unusedVariables false
set_option linter.unusedSimpArgs false
namespace Go.Proofs.Ytceldlijbehkdaa.Rc
open Go.RowKit Go.Proofs.YtceldlijbehkdaaW.PrintWords Go.Proofs.Ytceldlijbehkdaa.B Go.Proofs.Ytceldlijbehkdaa.Fx Go.Proofs.Ytceldlijbehkdaa.Fr
/-! ### what is answered, in one form -/
def fK (b : List UInt8) (p : Int) : Int := if recE b p = 0 then pKind b p else 0
def fS (b : List UInt8) (p : Int) : Nat := if recE b p = 0 then pSeq b p else 0
def fD (b : List UInt8) (p : Int) : List UInt8 := if recE b p = 0 then dF (pKind b p) (pData b p) else z32
def fNm (b : List UInt8) (p : Int) : ByteArray := if recE b p = 0 then nmF (pKind b p) (pData b p) else ⟨#[]⟩
def fL (b : List UInt8) (p : Int) : List UInt8 := if recE b p = 0 then lF (pKind b p) (pData b p) else []
def fN (b : List UInt8) (p : Int) : Int := if recE b p = 0 then nF (pKind b p) (pData b p) else 0
def fZ (b : List UInt8) (p : Int) : Int := if recE b p = 0 then zF (pKind b p) (pData b p) else 0
def fEnd (b : List UInt8) (p : Int) : Int := if recE b p = 0 then pEnd b p else 0
def RAll (b : List UInt8) (p : Int) (w : World) (e : Ending) (w' : World) : Prop := ∃ X A c, e = .returned (.tuple #[.agg X, .int .i64 (fEnd b p), .int .i64 (recE b p)]) ∧ RecF X (fK b p) (fS b p) (fD b p) (fNm b p) A (fL b p).length c (fN b p) (fZ b p) ∧ Buf w' w.heap.size (.slice A (fL b p).length c) (fL b p) ∧ Below w.heap.size w w'
theorem RParsed.all {b : List UInt8} {p : Int} {w : World} {e : Ending} {w' : World} (h : RParsed b p w e w') : RAll b p w e w' := by
  unfold RAll fK fS fD fNm fL fN fZ fEnd
  rcases h with ⟨h0, X, A, c, h1, h2, h3, h4⟩ | ⟨h0, h1, h2⟩
  · simp only [h0, if_true]
    rw [h0] at *
    exact ⟨X, A, c, h1, h2, h3, h4⟩
  · simp only [if_neg h0]
    exact ⟨zRec, none, 0, h1, zRecF, Buf.nil _ _, h2⟩
theorem fL_len (b : List UInt8) (p : Int) : (fL b p).length ≤ 65536 := by
  unfold fL lF
  have := pData_le b p
  split
  · split
    · rw [List.length_drop]; omega
    · simp
  · simp
theorem Buf.rd {W : World} {base : Nat} {A : Option Addr} {n c : Nat} {l : List UInt8} (h : Buf W base (.slice A n c) l) : Rd W A l := by
  obtain ⟨A', c', e, -, hr⟩ := h.reads
  injection e with e1
  rw [e1]; exact hr
/-! ### lives -/
def d5 : List UInt8 := 5 :: List.replicate 31 0
def nm2 : ByteArray := ⟨#[118, 49]⟩
def liveL : List UInt8 := makeR 3 9 d5 [118, 49] [] 0 0
theorem live_right : rightE 3 ([] : List UInt8).length nm2.data.toList 0 0 = 0 := by decide +kernel
theorem live_len : liveL.length = 56 := by
  have h : liveL = makeL 3 9 (dataL 3 d5 [118, 49] [] 0 0) := by unfold liveL makeR; rw [show rightE 3 ([] : List UInt8).length [118, 49] 0 0 = 0 from live_right, if_pos rfl]; rfl
  rw [h, makeL_len]; rfl
theorem live_back : recE liveL 0 = 0 ∧ fK liveL 0 = 3 ∧ fS liveL 0 = 9 ∧ fD liveL 0 = d5 ∧ fNm liveL 0 = nm2 ∧ fL liveL 0 = [] ∧ fN liveL 0 = 0 ∧ fZ liveL 0 = 0 ∧ fEnd liveL 0 = 56 := by
  obtain ⟨h1, h2, h3, h4, h5⟩ := parse_back (k := 3) (s := 9) (d := d5) (l := []) (a := []) (t := []) (nm := nm2) (n := 0) (z := 0) (by decide) rfl live_right liveL (by rw [List.append_nil, List.nil_append]; rfl)
  obtain ⟨-, g2, g3, g4, g5, g6⟩ := data_back (k := 3) (d := d5) (l := []) (nm := nm2) (n := 0) (z := 0) rfl live_right
  rw [show ((([] : List UInt8).length : Nat) : Int) = 0 from rfl] at h1 h2 h3 h4 h5
  refine ⟨h1, ?_, ?_, ?_, ?_, ?_, ?_, ?_, ?_⟩
  · unfold fK; rw [if_pos h1]; exact h2
  · unfold fS; rw [if_pos h1]; exact h3
  · unfold fD; rw [if_pos h1, h2, h4, g2]; rfl
  · unfold fNm; rw [if_pos h1, h2, h4, g3]; rfl
  · unfold fL; rw [if_pos h1, h2, h4, g4]; rfl
  · unfold fN; rw [if_pos h1, h2, h4, g5]; rfl
  · unfold fZ; rw [if_pos h1, h2, h4, g6]; rfl
  · unfold fEnd; rw [if_pos h1, h5]
    rw [show makeR 3 9 d5 nm2.data.toList [] 0 0 = liveL from rfl, live_len]; rfl
set_option maxRecDepth 100000 in
set_option maxHeartbeats 3200000 in
theorem lives_any (w : World) : Calls Try.prog 17 #[] w (Kept (.bool true) w) := by
  obtain ⟨X, hX0⟩ : ∃ X, recC 3 9 d5 nm2 none 0 0 0 0 = X := ⟨_, rfl⟩
  have hX : RecF X 3 9 d5 nm2 none ([] : List UInt8).length 0 0 0 := hX0 ▸ recF rfl
  obtain ⟨w1, hw1⟩ : ∃ w1, w.alloc (.cells X 27) = w1 := ⟨_, rfl⟩
  have HG := Lib.hid (show w1.heap[w.heap.size]? = some (.cells X 27 (0, 0)) from hw1 ▸ blk_new w _)
  have HB1 := Lib.hid (show Below w.heap.size w w1 from hw1 ▸ below_alloc (Below.refl _ _) _)
  have HX0 := Lib.hid hX0
  have HX := Lib.hid hX
  have HXI := Lib.hid hX.info
  have HMK := Lib.hid (show Calls Try.prog 19 #[.agg X] w1 (MadeE w1 liveL 0) from by
    have h := make_any X 3 9 d5 nm2 none [] 0 0 0 w1 hX (Rd.nil w1) (by decide) (by decide)
    rw [live_right] at h
    exact h)
  have HPA := Lib.hid (fun (W : World) (A : Option Addr) (c : Nat) (hc : 56 ≤ c) (h : Rd W A liveL) => (show Calls Try.prog 14 #[.slice A 56 c, .int .i64 0] W (fun e w' => ∃ X A c, e = .returned (.tuple #[.agg X, .int .i64 56, .int .i64 0]) ∧ RecF X 3 9 d5 nm2 A ([] : List UInt8).length c 0 0 ∧ Buf w' W.heap.size (.slice A ([] : List UInt8).length c) [] ∧ Below W.heap.size W w') from by
    have hl := live_len
    have h1 := parse_any A c liveL 0 W (by omega) (by omega) h (by decide)
    rw [hl] at h1
    refine h1.mono fun e w' hh => ?_
    have h2 := hh.all
    unfold RAll at h2
    obtain ⟨b1, b2, b3, b4, b5, b6, b7, b8, b9⟩ := live_back
    rw [b1, b2, b3, b4, b5, b6, b7, b8, b9] at h2
    exact h2))
  have HLN := Lib.hid live_len
  clear hX hX0
  go_enter Try.func17, Try.ntmps17
  go_wp2_with (first | (refine wpList_box rfl rfl 27 _ _ rfl rfl (recC 3 9 d5 nm2 none 0 0 0 0) zRec zeroRec rfl rfl rfl (recF rfl).info (recF rfl).one ?_; rw [HX0.out]; try rw [hw1]) | (refine wpList_load_row rfl 27 (.tmp 1) rfl w.heap.size rfl 27 X (0, 0) _ HG.out Try.underlying27 rfl HXI.out ?_))
  refine HMK.out.mono ?_
  rintro e w2 ⟨v2, rfl, ho, hb⟩
  obtain ⟨A2, c2, rfl, hc2, hr2⟩ := ho.reads
  have HR2 := Lib.hid hr2
  rw [HLN.out] at hc2
  have HG2 := Lib.hid (blk_below HG.out hb)
  have HB2 := Lib.hid (below_step' HB1.out hb)
  clear ho hb hr2 hw1
  simp only [HLN.out]
  go_wp2_with fail
  refine (HPA.out w2 A2 c2 hc2 HR2.out).mono ?_
  rintro e w3 ⟨X3, A3, c3, rfl, hX3, hB3, hb⟩
  obtain ⟨w4, hw4⟩ : ∃ w4, w3.alloc (.cells X3 27) = w4 := ⟨_, rfl⟩
  have hb4 : Below w3.heap.size w3 w4 := hw4 ▸ below_alloc (Below.refl _ _) _
  have HX3I := Lib.hid hX3.info
  have HX3Z := Lib.hid (show zRec.size = X3.size from zRecF.size.trans hX3.size.symm)
  have HX31 := Lib.hid hX3.one
  have HX3L := Lib.hid hX3.infoL
  have HXL := Lib.hid HX.out.infoL
  have HR3 := Lib.hid (show w4.rangeAt w3.heap.size 0 X3.toList from range_row (hw4 ▸ blk_new w3 (.cells X3 27)))
  have HR1 := Lib.hid (show w4.rangeAt w.heap.size 0 X.toList from range_row (blk_below (blk_below HG2.out hb) hb4))
  have HB4 := Lib.hid (below_step' (below_step' HB2.out hb) hb4)
  have HSA := Lib.hid (show Calls Try.prog 16 #[.agg X, .agg X3] w4 (Kept (.bool true) w4) from same_yes X X3 3 9 d5 nm2 none A3 [] 0 c3 0 0 w4 HX.out hX3 (Rd.nil _) ((Buf.rd hB3).below hb4) (by decide))
  clear hX3 hB3 hb hb4
  go_wp2_with (first | (refine wpList_box rfl rfl 27 _ _ rfl rfl X3 zRec zeroRec rfl rfl HX3Z.out HX3I.out HX31.out ?_) | (refine wpList_load_midG rfl 27 (.tmp 1) rfl w.heap.size 0 rfl X.toList _ HR1.out Try.underlying27 rfl HXL.out ?_) | (refine wpList_load_midG rfl 27 (.tmp 4) rfl w3.heap.size 0 rfl X3.toList _ HR3.out Try.underlying27 rfl HX3L.out ?_))
  refine HSA.out.mono ?_
  rintro e w5 ⟨rfl, hb⟩
  have HB5 := Lib.hid (below_step' HB4.out hb)
  clear hb hw4
  go_wp2_with fail
  go_ret
  exact ⟨rfl, HB5.out⟩
set_option maxRecDepth 100000 in
set_option maxHeartbeats 3200000 in
theorem parses_any (A : Option Addr) (c : Nat) (b : List UInt8) (p : Int) (w : World) (hr : Rd w A b) (hc : b.length ≤ c) (hl : b.length ≤ 140737488354000) (hb : -9223372036854775808 ≤ p ∧ p ≤ 9223372036854775807) :
    Calls Try.prog 3 #[.slice A b.length c, .int .i64 p] w (Kept (.bool true) w) := by
  have HP1 := Lib.hid ((parse_any A c b p w hl hc hr hb).mono fun e w' h => h.all)
  have HP2 := Lib.hid (fun (W : World) (h : Rd W A b) => (refparse_any A c b p W hl hc h hb).mono fun e w' h => h.all)
  unfold RAll at HP1 HP2
  have hfl := fL_len b p
  have HR := Lib.hid hr
  clear hr hb
  generalize fK b p = k at *
  generalize fS b p = s at *
  generalize fD b p = d at *
  generalize fNm b p = nm at *
  generalize fL b p = l at *
  generalize fN b p = n at *
  generalize fZ b p = z at *
  generalize fEnd b p = en at *
  generalize recE b p = er at *
  go_enter Try.func3, Try.ntmps3
  go_wp2_with fail
  refine HP1.out.mono ?_
  rintro e w1 ⟨X, A1, c1, rfl, hX, hB1, hb⟩
  obtain ⟨w2, hw2⟩ : ∃ w2, w1.alloc (.cells X 27) = w2 := ⟨_, rfl⟩
  have hb2 : Below w1.heap.size w1 w2 := hw2 ▸ below_alloc (Below.refl _ _) _
  have HXF := Lib.hid hX
  have HXI := Lib.hid hX.info
  have HXZ := Lib.hid (show zRec.size = X.size from zRecF.size.trans hX.size.symm)
  have HX1 := Lib.hid hX.one
  have HG2 := Lib.hid (show w2.heap[w1.heap.size]? = some (.cells X 27 (0, 0)) from hw2 ▸ blk_new w1 _)
  have HB2 := Lib.hid (below_step' hb hb2)
  have HBU2 := Lib.hid ((Buf.rd hB1).below hb2)
  have HR2 := Lib.hid (HR.out.below HB2.out)
  clear hX hB1 hb hb2
  go_wp2_with (refine wpList_box rfl rfl 27 _ _ rfl rfl X zRec zeroRec rfl rfl HXZ.out HXI.out HX1.out ?_)
  refine (HP2.out w2 HR2.out).mono ?_
  rintro e w3 ⟨X3, A3, c3, rfl, hX3, hB3, hb⟩
  obtain ⟨w4, hw4⟩ : ∃ w4, w3.alloc (.cells X3 27) = w4 := ⟨_, rfl⟩
  have hb4 : Below w3.heap.size w3 w4 := hw4 ▸ below_alloc (Below.refl _ _) _
  have HX3I := Lib.hid hX3.info
  have HX3Z := Lib.hid (show zRec.size = X3.size from zRecF.size.trans hX3.size.symm)
  have HX31 := Lib.hid hX3.one
  have HG4 := Lib.hid (blk_below (blk_below HG2.out hb) hb4)
  have HG3 := Lib.hid (show w4.heap[w3.heap.size]? = some (.cells X3 27 (0, 0)) from hw4 ▸ blk_new w3 _)
  have HB4 := Lib.hid (below_step' (below_step' HB2.out hb) hb4)
  have HSA := Lib.hid (show Calls Try.prog 16 #[.agg X, .agg X3] w4 (Kept (.bool true) w4) from same_yes X X3 k s d nm A1 A3 l c1 c3 n z w4 HXF.out hX3 ((HBU2.out.below hb).below hb4) ((Buf.rd hB3).below hb4) (by omega))
  clear hX3 hB3 hb hb4 hw2
  go_wp2_with (first | (refine wpList_box rfl rfl 27 _ _ rfl rfl X3 zRec zeroRec rfl rfl HX3Z.out HX3I.out HX31.out ?_) | (refine wpList_load_row rfl 27 (.tmp 5) rfl w1.heap.size rfl 27 X (0, 0) _ HG4.out Try.underlying27 rfl HXI.out ?_) | (refine wpList_load_row rfl 27 (.tmp 8) rfl w3.heap.size rfl 27 X3 (0, 0) _ HG3.out Try.underlying27 rfl HX3I.out ?_))
  refine HSA.out.mono ?_
  rintro e w5 ⟨rfl, hb⟩
  have HB5 := Lib.hid (below_step' HB4.out hb)
  clear hb hw4
  go_wp2_with fail
  refine (lives_any w5).mono ?_
  rintro e w6 ⟨rfl, hb⟩
  have HB6 := Lib.hid (below_step' HB5.out hb)
  clear hb
  go_wp2_with fail
  go_ret
  exact ⟨rfl, HB6.out⟩
set_option maxRecDepth 100000 in
set_option maxHeartbeats 1600000 in
theorem forms_any (k : Int) (s : Nat) (A : Option Addr) (c : Nat) (d : List UInt8) (w : World) (hk : -9223372036854775808 ≤ k ∧ k ≤ 9223372036854775807) (hs : s < 18446744073709551616) (hr : Rd w A d) (hc : d.length ≤ c) (hd : d.length ≤ 1048576) :
    Calls Try.prog 4 #[.int .i64 k, .int .u64 s, .slice A d.length c] w (Kept (.bool true) w) := by
  have HM := Lib.hid (Fr.refmake_any k s A c d w hk hs (by omega) hr)
  have hml := makeL_len (kindN k) s d
  have hm2 : (makeL (kindN k) s d).length ≤ 140737488354000 := by omega
  clear hr hml
  generalize makeL (kindN k) s d = m at *
  go_enter Try.func4, Try.ntmps4
  go_wp2_with fail
  refine HM.out.mono ?_
  rintro e w1 ⟨v1, rfl, ho, hb⟩
  obtain ⟨A1, c1, rfl, hc1, hr1⟩ := ho.reads
  have HP := Lib.hid (parses_any A1 c1 m 0 w1 hr1 hc1 hm2 (by decide))
  have HB1 := Lib.hid hb
  clear ho hb hr1
  go_wp2_with fail
  refine HP.out.mono ?_
  rintro e w2 ⟨rfl, hb⟩
  have HB2 := Lib.hid (below_step' HB1.out hb)
  clear hb
  go_wp2_with fail
  go_ret
  exact ⟨rfl, HB2.out⟩
end Go.Proofs.Ytceldlijbehkdaa.Rc
