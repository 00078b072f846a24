/- law23: CoderBack. -/
import Derived.Test.YteeemiacibjaoaaCoTk
import Derived.Test.YteeemiacibjaoaaCoLives
import Derived.Deep.DeepCutAuto
import Derived.Deep.CutRange
set_option linter.unusedVariables false
set_option linter.unusedSimpArgs false
namespace Go.Proofs.Yteeemiacibjaoaa.Co
open Go.RowKit Go.Proofs.YteeemiacibjaoaaW.PrintWords Go.Proofs.Yteeemiacibjaoaa.B Go.Proofs.Yteeemiacibjaoaa.Fx Go.Proofs.Yteeemiacibjaoaa.Fr Go.Proofs.Yteeemiacibjaoaa.O

theorem back_text {x m s : List UInt8} (hs : s.length ≤ 255) (z : List UInt8) (hz : z = x ++ [UInt8.ofNat s.length] ++ s ++ m) : textOk z x.length = true ∧ textS z x.length = ⟨s.toArray⟩ ∧ textEnd z x.length = (x.length : Int) + 1 + s.length := by
  have h0 : z.getD x.length 0 = UInt8.ofNat s.length := by
    subst hz
    rw [List.getD_eq_getElem?_getD]; simp
  have h1 : (z.getD x.length 0).toNat = s.length := by rw [h0]; simp; omega
  have hb : B.bt z x.length = (s.length : Int) := by unfold B.bt; rw [h1]
  have hok : textOk z x.length = true := by
    unfold textOk
    rw [Int.toNat_natCast, hb]
    subst hz
    simp only [List.length_append, List.length_singleton]
    exact decide_eq_true (by omega)
  refine ⟨hok, ?_, ?_⟩
  · unfold textS
    rw [if_pos hok, Int.toNat_natCast, h1]
    subst hz
    rw [List.append_assoc, List.drop_left' (by simp), List.take_left' rfl]
  · unfold textEnd
    rw [if_pos hok, Int.toNat_natCast, hb]

/-! ### the walk -/
theorem tNum_0 {x : List UInt8} (h : V.vErr x = 0) : V.tErr x 0 = 0 ∧ V.tNum x 0 = V.vNum x ∧ (V.tEnd x 0).toNat = V.vLen x := by
  have h1 : V.tErr x 0 = 0 := by unfold V.tErr; rw [if_neg (by omega)]; simpa using h
  refine ⟨h1, ?_, ?_⟩
  · unfold V.tNum; rw [if_pos h1]; simp
  · unfold V.tEnd; rw [if_pos h1]; simp
/-- what was written is read -/
theorem back_part (p : Pt) (hd : p.2.2.2.2.length = 32) (hok : okP p = true) (rest x : List UInt8) (hx : x = encP p ++ rest) :
    tkErr x p.1.toInt p.2.1.toInt = 0 ∧ tkLen x p.1.toInt = (encP p).length ∧
    tkPart x p.1.toInt p.2.1.toInt = (if p.1.toInt = 0 then prt p.1.toInt p.2.1.toInt 0 ⟨#[]⟩ Z32 else if p.1.toInt = 1 then prt p.1.toInt 0 p.2.2.1.toNat ⟨#[]⟩ Z32 else if p.1.toInt = 2 then prt p.1.toInt 0 0 p.2.2.2.1 Z32 else prt p.1.toInt 0 0 ⟨#[]⟩ p.2.2.2.2) := by
  have hn := p.2.1.toInt_lt
  unfold okP at hok
  unfold encP at hx ⊢
  unfold tkErr tkLen tkPart
  by_cases k0 : p.1.toInt = 0
  · simp only [if_pos k0, if_pos (Or.inl k0 : p.1.toInt = 0 ∨ p.1.toInt = 1)] at hok hx ⊢
    have hok : 0 ≤ p.2.1.toInt := by simpa using hok
    obtain ⟨h1, h2, h3⟩ := V.take_enc (toInt_lt p.2.1) rest
    rw [← hx] at h1 h2 h3
    obtain ⟨q1, q2, q3⟩ := tNum_0 h1
    have hc : ¬ (p.2.1.toInt < 0 ∨ p.2.1.toInt < ((p.2.1.toInt.toNat : Nat) : Int)) := by omega
    have hne : numErr x 0 p.2.1.toInt = 0 := by rw [numErr0, if_neg (by simpa using q1), q2, h2, if_neg hc]
    rw [hne, q3, h3, if_pos rfl, q2, h2]
    refine ⟨rfl, rfl, ?_⟩
    rw [show ((p.2.1.toInt.toNat : Nat) : Int) = p.2.1.toInt by omega]
  by_cases k1 : p.1.toInt = 1
  · simp only [if_neg k0, if_pos k1, if_pos (Or.inr k1 : p.1.toInt = 0 ∨ p.1.toInt = 1)] at hok hx ⊢
    obtain ⟨h1, h2, h3⟩ := V.take_enc p.2.2.1.toNat_lt rest
    rw [← hx] at h1 h2 h3
    obtain ⟨q1, q2, q3⟩ := tNum_0 h1
    rw [q1, q3, h3, q2, h2]
    exact ⟨rfl, rfl, rfl⟩
  have k01 : ¬ (p.1.toInt = 0 ∨ p.1.toInt = 1) := by omega
  by_cases k2 : p.1.toInt = 2
  · simp only [if_neg k0, if_neg k1, if_neg k01, if_pos k2] at hok hx ⊢
    have hsz : p.2.2.2.1.size ≤ 255 := by simpa using hok
    have hl : p.2.2.2.1.data.toList.length = p.2.2.2.1.size := by rw [Array.length_toList]; rfl
    have hle : p.2.2.2.1.data.toList.length ≤ 255 := by omega
    rw [if_pos hle] at hx
    rw [if_pos hle]
    obtain ⟨h1, h2, h3⟩ := back_text (x := []) (m := rest) (s := p.2.2.2.1.data.toList) (by omega) x (by rw [hx]; simp)
    simp only [List.length_nil, Int.ofNat_zero] at h1 h2 h3
    have h1' : textOk x 0 = true := h1
    have h2' : textS x 0 = p.2.2.2.1 := h2
    have h3' : textEnd x 0 = 1 + (p.2.2.2.1.data.toList.length : Int) := by have := h3; omega
    refine ⟨if_pos h1', ?_, by rw [h2']⟩
    rw [h3', List.length_cons]; omega
  · simp only [if_neg k0, if_neg k1, if_neg k01, if_neg k2] at hx ⊢
    have hd0 : digErr x 0 = 0 := by unfold digErr; rw [if_neg (by rw [hx, List.length_append]; omega)]
    rw [hd0, if_pos rfl, hx, ← hd, List.take_left' rfl]
    exact ⟨rfl, rfl, rfl⟩
theorem wrB_split {m : List UInt8} {l : List Pt} {k : Nat} (hk : k < l.length) : ∃ rest, (wrB m l).drop (wrB m (l.take k)).length = encP (pt l k) ++ rest := by
  have h1 : wrB m l = wrB m (l.take k) ++ ((l.drop k).map encP).flatten := by
    unfold wrB
    rw [List.append_assoc, ← List.flatten_append, ← List.map_append, List.take_append_drop]
  have h2 : l.drop k = pt l k :: l.drop (k + 1) := by rw [List.drop_eq_getElem_cons hk]; simp [pt, hk]
  refine ⟨((l.drop (k + 1)).map encP).flatten, ?_⟩
  rw [h1, List.drop_left, h2]
  rfl
theorem okL_get {l : List Pt} (h : okL l = true) {k : Nat} (hk : k < l.length) : okP (pt l k) = true := by
  unfold okL at h
  rw [List.all_eq_true] at h
  refine h _ ?_
  simp [pt, hk]
theorem wrB_pre (m : List UInt8) (l : List Pt) : Lib.hasPrefix (wrB m l) m = true := by
  unfold Lib.hasPrefix wrB
  rw [List.isPrefixOf_iff_prefix]
  exact List.prefix_append _ _
theorem digNe (d : List UInt8) (hd : d.length = 32) (W : World) : (binOp .neq 52 (.agg (d.map encB).toArray) (.agg (d.map encB).toArray)).run Try.prog W = .ok (.bool false) W := by
  rw [neq_of_eql (eql_dig d d hd hd W 5 32 rfl 52 Try.underlying52)]; simp
theorem prt_cells (k n : Int) (s : Nat) (t : ByteArray) (d : List UInt8) : (prt k n s t d)[0]? = some (.int .i64 k) ∧ (prt k n s t d)[1]? = some (.int .i64 n) ∧ (prt k n s t d)[2]? = some (.int .u64 s) ∧ (prt k n s t d)[3]? = some (.string t) ∧ ∀ j v, (d.map encB)[j]? = some v → (prt k n s t d)[4 + j]? = some v := by
  refine ⟨?_, ?_, ?_, ?_, fun j v hv => ?_⟩ <;> rw [← Array.getElem?_toList, prt_list]
  · rfl
  · rfl
  · rfl
  · rfl
  · rw [show 4 + j = j + 1 + 1 + 1 + 1 by omega]; exact hv
set_option maxRecDepth 100000 in
set_option maxHeartbeats 4000000 in
theorem back_law (s : ByteArray) (AL : Option Addr) (cL : Nat) (l : List Pt) (w : World) (hs : s.size ≤ 1048576) (hrl : RdP w AL l) (hcl : l.length ≤ cL) (hm : ms mPt l ≤ 1048576) :
    Calls Try.prog 11 #[.string s, .slice AL l.length cL] w (Kept (.bool true) w) := by
  have HRL := Lib.hid hrl
  have HW1 := Lib.hid (write_any s AL cL l w hs hm hrl)
  have hll := ms_len (m := mPt) (fun x => by unfold mPt; omega) l
  have hlen : l.length ≤ 1048576 := by omega
  have hbl : (wrB s.data.toList l).length ≤ 16000000 := by have := wrB_len s.data.toList l; simp at this; omega
  cases hok : okL l with
  | false =>
    rw [hok] at HW1
    have HW2 := Lib.hid HW1.out
    clear HW1 hok
    go_enter Try.func11, Try.ntmps11
    go_wp2_with fail
    refine HW2.out.mono ?_
    rintro e w1 h1
    obtain ⟨A1, c1, x, rfl, hx, hc1, hown, hb⟩ := bytesR_of h1
    have HB1 := Lib.hid hb
    clear h1 hown hb hx
    go_wp2_with fail
    refine (lives_any _).mono ?_
    rintro e w4 ⟨rfl, hb⟩
    have HB4 := Lib.hid (below_step' HB1.out hb)
    clear hb
    go_wp2_with fail
    go_ret
    exact ⟨rfl, HB4.out⟩
  | true =>
    rw [hok] at HW1
    have hsn := seal_new (wrB_pre s.data.toList l) (by unfold wrB; rw [List.length_append]; omega)
    have HNEW := Lib.hid (fun (A : Option Addr) (c : Nat) (W : World) (hc : (seal4 (wrB s.data.toList l)).length ≤ c) (hr : Rd W A (seal4 (wrB s.data.toList l))) => (show Calls Try.prog 37 #[.string s, .slice A (seal4 (wrB s.data.toList l)).length c] W (fun x w' => ∃ g, x = .returned (.pointer (some ⟨g, 0, none⟩)) ∧ RdS w' W.heap.size g (wrB s.data.toList l) s.data.toList.length 0 ∧ Below W.heap.size W w') from by
      have h := newr_any s A c (seal4 (wrB s.data.toList l)) W (by omega) (by rw [seal4_len]; omega) hc hr
      unfold NewD at h
      rw [hsn.1, hsn.2.1, hsn.2.2] at h
      exact h))
    have HSP := Lib.hid (fun (k : Nat) (hk : k < l.length) => wrB_split (m := s.data.toList) hk)
    have HOK := Lib.hid (fun (k : Nat) (hk : k < l.length) => okL_get hok hk)
    have HNX := Lib.hid (fun (k : Nat) (hk : k < l.length) => (show (wrB s.data.toList (l.take (k + 1))).length = (wrB s.data.toList (l.take k)).length + (encP (pt l k)).length from by rw [take_snoc l k hk, wrB_snoc, List.length_append]))
    have HLE := Lib.hid (fun (k : Nat) => (show (wrB s.data.toList (l.take k)).length ≤ (wrB s.data.toList l).length from by
      have h1 : wrB s.data.toList l = wrB s.data.toList (l.take k) ++ ((l.drop k).map encP).flatten := by
        unfold wrB; rw [List.append_assoc, ← List.flatten_append, ← List.map_append, List.take_append_drop]
      rw [h1, List.length_append]; omega))
    have H0 := Lib.hid (show (wrB s.data.toList (l.take 0)).length = s.data.toList.length by simp [wrB])
    have HT := Lib.hid (show (wrB s.data.toList (l.take l.length)).length = (wrB s.data.toList l).length by rw [List.take_length])
    have HLV := Lib.hid (fun W : World => lives_any W)
    clear hok hsn hrl hll hm
    obtain ⟨m, hm0⟩ : ∃ m, s.data.toList = m := ⟨_, rfl⟩
    rw [hm0] at HW1 HNEW HSP HNX HLE H0 HT hbl
    clear hm0
    generalize hL : wrB m l = L at *
    have HLL := Lib.hid hbl
    have HW2 := Lib.hid HW1.out
    clear HW1 hL
    go_enter Try.func11, Try.ntmps11
    go_wp2_with fail
    refine HW2.out.mono ?_
    rintro e w1 h1
    obtain ⟨A1, c1, y, rfl, hy, hc1, hown, hb⟩ := bytesR_of h1
    have hy2 : y = seal4 L := by rw [hy.out]; simp
    subst hy2
    have HB1 := Lib.hid hb
    have HR1 := Lib.hid hown.rd
    clear h1 hown hb hy
    go_wp2_with fail
    refine (HNEW.out A1 c1 w1 hc1 HR1.out).mono ?_
    rintro e w2 ⟨g, rfl, hs2, hb2⟩
    have HB2 := Lib.hid hb2
    have HS2 := Lib.hid hs2
    clear hs2 hb2
    go_wp2_with fail
    go_loopw [8] (fun i wr => ∃ k : Nat, k ≤ l.length ∧ i = .int .i64 k ∧ Hid (RdS wr w1.heap.size g L (wrB m (l.take k)).length 0) ∧ Hid (Below w1.heap.size w1 wr)) (fun i _ => l.length - (intOf i).toNat)
    case atStart => exact ⟨0, by omega, rfl, Lib.hid (by rw [H0.out]; exact HS2.out), HB2⟩
    case round =>
      obtain ⟨k, hk, rfl, HSk, HBk⟩ := hrel
      clear HS2 HB2 HW2 HNEW
      by_cases hlt : k < l.length
      · obtain ⟨ad, rfl, hd, -, -, -, -, -, -, -⟩ := ((HRL.out.below HB1.out).below (HBk.out.mono (Nat.le_refl _))).walk k hlt
        obtain ⟨c0, c1', hrP, HP0⟩ := ((HRL.out.below HB1.out).below (HBk.out.mono (Nat.le_refl _))).walk' k hlt
        have HRW := Lib.hid (fun (W : World) (h : Below w1.heap.size w1 W) => (((HRL.out.below HB1.out).below h).walk' k hlt).2.2.1)
        obtain ⟨rest, hrest⟩ := HSP.out k hlt
        have hokp := HOK.out k hlt
        have hnx := HNX.out k hlt
        have hle := HLE.out k
        obtain ⟨a, ha⟩ : ∃ a, (wrB m (l.take k)).length = a := ⟨_, rfl⟩
        rw [ha] at HSk hrest hnx hle
        obtain ⟨p, hp⟩ : ∃ p, pt l k = p := ⟨_, rfl⟩
        rw [hp] at hd hrP hrest hokp hnx HRW
        obtain ⟨b1, b2, b3⟩ := back_part p hd hokp rest (L.drop a) hrest
        have HCI := Lib.hid (infoPt' hd)
        have HXI := Lib.hid (infoPt hd)
        have HXZ := Lib.hid (show zeroP.size = (prtP p).size by rw [prtP_size hd]; rfl)
        have HX1 := Lib.hid (onePt p)
        obtain ⟨x0, x1, x2, x3, x4⟩ := prtP_get p
        have h36 := prtP_size hd
        have hn : -9223372036854775808 ≤ p.2.1.toInt ∧ p.2.1.toInt ≤ 9223372036854775807 := ⟨p.2.1.le_toInt, by have := p.2.1.toInt_lt; omega⟩
        have HLT := Lib.hid (fun (W : World) (hw : w1.heap.size ≤ W.heap.size) (h : RdS W w1.heap.size g L a 0) => lawtake_any w1.heap.size g L a 0 p.1.toInt p.2.1.toInt (prtP p) h36 x0 x1 W hle HLL.out hn hw h)
        rw [if_pos rfl, if_pos rfl, b1, if_pos ⟨rfl, rfl⟩, b2, ← hnx, b3] at HLT
        have HD := Lib.hid hd
        obtain ⟨X, hX⟩ : ∃ X, prtP p = X := ⟨_, rfl⟩
        rw [hX] at HCI x0 x1 x2 x3 x4 hrP HRW HLT HXI HXZ HX1
        obtain ⟨kd, hkd⟩ : ∃ kd, p.1.toInt = kd := ⟨_, rfl⟩
        rw [hkd] at x0 HLT
        have HX4 := Lib.hid x4
        have hhd := hd
        clear hX hkd hp hd b1 b2 b3 h36 hn hnx hrest hokp hle c0 c1' x4 ha HSP HOK HNX HLE H0
        by_cases k0 : kd = 0
        · have q0 : (kd == 0) = true := by simp [k0]
          have q0' : (kd != 0) = false := by simp [k0]
          have q1 : (kd == 1) = false := by simp [k0]
          have q2 : (kd == 2) = false := by simp [k0]
          rw [if_pos k0] at HLT
          obtain ⟨p0, p1, p2, p3, p4⟩ := prt_cells kd (p.2.1.toInt) (0) (⟨#[]⟩) (Z32)
          have HPI := Lib.hid (show (Try.prog.info? 73).map (·.size) = some (prt kd (p.2.1.toInt) (0) (⟨#[]⟩) (Z32)).size from infoP36 (prt_size kd _ _ _ _ (by simp [Z32])))
          have HPZ := Lib.hid (show zeroP.size = (prt kd (p.2.1.toInt) (0) (⟨#[]⟩) (Z32)).size by rw [prt_size kd _ _ _ _ (by simp [Z32])]; rfl)
          have HP1 := Lib.hid (prt_one kd (p.2.1.toInt) (0) (⟨#[]⟩) (Z32))
          have HP4 := Lib.hid p4
          generalize prt kd (p.2.1.toInt) (0) (⟨#[]⟩) (Z32) = P at *
          clear p4 hhd
          clear k0
          go_wp2_with (refine wpList_load_mid rfl 73 _ rfl _ _ HP0.out X.toList _ hrP Try.underlying73 rfl HCI.out ?_)
          refine (HLT.out wr HBk.out.size HSk.out).mono ?_
          rintro e w5 ⟨rfl, hs5, hb5, ho5⟩
          have HS5 := Lib.hid (hs5.below (below_alloc (below_alloc (Below.refl w5.heap.size w5) (.cells P 73)) (.cells X 73)))
          have HB5 := Lib.hid (HBk.out.trans hb5)
          have HB7 := Lib.hid (show Below w1.heap.size w1 ((w5.alloc (.cells P 73)).alloc (.cells X 73)) from below_alloc (below_alloc HB5.out _) _)
          have hrP5 := HRW.out _ (below_alloc HB5.out (.cells P 73))
          have HG9 := Lib.hid (show ((w5.alloc (.cells P 73)).alloc (.cells X 73)).heap[w5.heap.size]? = some (.cells P 73 (0, 0)) from blk_alloc (blk_new w5 _) _)
          have HG10 := Lib.hid (show ((w5.alloc (.cells P 73)).alloc (.cells X 73)).heap[w5.heap.size + 1]? = some (.cells X 73 (0, 0)) from by have := blk_new (w5.alloc (.cells P 73)) (.cells X 73); simpa using this)
          clear hs5 hb5 ho5 hrP
          go_upto_region 10 with (first | (refine wpList_box rfl rfl 73 _ _ rfl rfl P zeroP zeroPt rfl rfl HPZ.out HPI.out HP1.out ?_) | (refine wpList_load_mid rfl 73 _ rfl _ _ HP0.out X.toList _ hrP5 Try.underlying73 rfl HCI.out ?_) | (refine wpList_box rfl rfl 73 _ _ rfl rfl X zeroP zeroPt rfl rfl HXZ.out HXI.out HX1.out ?_))
          go_wp2_with fail
          go_roundw
          case rel => exact ⟨k + 1, by omega, by go_num, HS5, HB7⟩
          case measure => simp [intOf]; omega
        by_cases k1 : kd = 1
        · have q0 : (kd == 0) = false := by simp [k0]
          have q0' : (kd != 0) = true := by simp [k0]
          have q1 : (kd == 1) = true := by simp [k1]
          have q1' : (kd != 1) = false := by simp [k1]
          have q2 : (kd == 2) = false := by simp [k1]
          rw [if_neg k0, if_pos k1] at HLT
          obtain ⟨p0, p1, p2, p3, p4⟩ := prt_cells kd (0) (p.2.2.1.toNat) (⟨#[]⟩) (Z32)
          have HPI := Lib.hid (show (Try.prog.info? 73).map (·.size) = some (prt kd (0) (p.2.2.1.toNat) (⟨#[]⟩) (Z32)).size from infoP36 (prt_size kd _ _ _ _ (by simp [Z32])))
          have HPZ := Lib.hid (show zeroP.size = (prt kd (0) (p.2.2.1.toNat) (⟨#[]⟩) (Z32)).size by rw [prt_size kd _ _ _ _ (by simp [Z32])]; rfl)
          have HP1 := Lib.hid (prt_one kd (0) (p.2.2.1.toNat) (⟨#[]⟩) (Z32))
          have HP4 := Lib.hid p4
          generalize prt kd (0) (p.2.2.1.toNat) (⟨#[]⟩) (Z32) = P at *
          clear p4 hhd
          clear k0 k1
          go_wp2_with (refine wpList_load_mid rfl 73 _ rfl _ _ HP0.out X.toList _ hrP Try.underlying73 rfl HCI.out ?_)
          refine (HLT.out wr HBk.out.size HSk.out).mono ?_
          rintro e w5 ⟨rfl, hs5, hb5, ho5⟩
          have HS5 := Lib.hid (hs5.below (below_alloc (below_alloc (Below.refl w5.heap.size w5) (.cells P 73)) (.cells X 73)))
          have HB5 := Lib.hid (HBk.out.trans hb5)
          have HB7 := Lib.hid (show Below w1.heap.size w1 ((w5.alloc (.cells P 73)).alloc (.cells X 73)) from below_alloc (below_alloc HB5.out _) _)
          have hrP5 := HRW.out _ (below_alloc HB5.out (.cells P 73))
          have HG9 := Lib.hid (show ((w5.alloc (.cells P 73)).alloc (.cells X 73)).heap[w5.heap.size]? = some (.cells P 73 (0, 0)) from blk_alloc (blk_new w5 _) _)
          have HG10 := Lib.hid (show ((w5.alloc (.cells P 73)).alloc (.cells X 73)).heap[w5.heap.size + 1]? = some (.cells X 73 (0, 0)) from by have := blk_new (w5.alloc (.cells P 73)) (.cells X 73); simpa using this)
          clear hs5 hb5 ho5 hrP
          go_upto_region 10 with (first | (refine wpList_box rfl rfl 73 _ _ rfl rfl P zeroP zeroPt rfl rfl HPZ.out HPI.out HP1.out ?_) | (refine wpList_load_mid rfl 73 _ rfl _ _ HP0.out X.toList _ hrP5 Try.underlying73 rfl HCI.out ?_) | (refine wpList_box rfl rfl 73 _ _ rfl rfl X zeroP zeroPt rfl rfl HXZ.out HXI.out HX1.out ?_))
          go_wp2_with fail
          go_roundw
          case rel => exact ⟨k + 1, by omega, by go_num, HS5, HB7⟩
          case measure => simp [intOf]; omega
        by_cases k2 : kd = 2
        · have q0 : (kd == 0) = false := by simp [k0]
          have q0' : (kd != 0) = true := by simp [k0]
          have q1 : (kd == 1) = false := by simp [k1]
          have q1' : (kd != 1) = true := by simp [k1]
          have q2 : (kd == 2) = true := by simp [k2]
          have q2' : (kd != 2) = false := by simp [k2]
          rw [if_neg k0, if_neg k1, if_pos k2] at HLT
          obtain ⟨p0, p1, p2, p3, p4⟩ := prt_cells kd (0) (0) (p.2.2.2.1) (Z32)
          have HPI := Lib.hid (show (Try.prog.info? 73).map (·.size) = some (prt kd (0) (0) (p.2.2.2.1) (Z32)).size from infoP36 (prt_size kd _ _ _ _ (by simp [Z32])))
          have HPZ := Lib.hid (show zeroP.size = (prt kd (0) (0) (p.2.2.2.1) (Z32)).size by rw [prt_size kd _ _ _ _ (by simp [Z32])]; rfl)
          have HP1 := Lib.hid (prt_one kd (0) (0) (p.2.2.2.1) (Z32))
          have HP4 := Lib.hid p4
          generalize prt kd (0) (0) (p.2.2.2.1) (Z32) = P at *
          clear p4 hhd
          clear k0 k1 k2
          go_wp2_with (refine wpList_load_mid rfl 73 _ rfl _ _ HP0.out X.toList _ hrP Try.underlying73 rfl HCI.out ?_)
          refine (HLT.out wr HBk.out.size HSk.out).mono ?_
          rintro e w5 ⟨rfl, hs5, hb5, ho5⟩
          have HS5 := Lib.hid (hs5.below (below_alloc (below_alloc (Below.refl w5.heap.size w5) (.cells P 73)) (.cells X 73)))
          have HB5 := Lib.hid (HBk.out.trans hb5)
          have HB7 := Lib.hid (show Below w1.heap.size w1 ((w5.alloc (.cells P 73)).alloc (.cells X 73)) from below_alloc (below_alloc HB5.out _) _)
          have hrP5 := HRW.out _ (below_alloc HB5.out (.cells P 73))
          have HG9 := Lib.hid (show ((w5.alloc (.cells P 73)).alloc (.cells X 73)).heap[w5.heap.size]? = some (.cells P 73 (0, 0)) from blk_alloc (blk_new w5 _) _)
          have HG10 := Lib.hid (show ((w5.alloc (.cells P 73)).alloc (.cells X 73)).heap[w5.heap.size + 1]? = some (.cells X 73 (0, 0)) from by have := blk_new (w5.alloc (.cells P 73)) (.cells X 73); simpa using this)
          clear hs5 hb5 ho5 hrP
          go_upto_region 10 with (first | (refine wpList_box rfl rfl 73 _ _ rfl rfl P zeroP zeroPt rfl rfl HPZ.out HPI.out HP1.out ?_) | (refine wpList_load_mid rfl 73 _ rfl _ _ HP0.out X.toList _ hrP5 Try.underlying73 rfl HCI.out ?_) | (refine wpList_box rfl rfl 73 _ _ rfl rfl X zeroP zeroPt rfl rfl HXZ.out HXI.out HX1.out ?_))
          go_wp2_with fail
          go_roundw
          case rel => exact ⟨k + 1, by omega, by go_num, HS5, HB7⟩
          case measure => simp [intOf]; omega
        · have q0 : (kd == 0) = false := by simp [k0]
          have q0' : (kd != 0) = true := by simp [k0]
          have q1 : (kd == 1) = false := by simp [k1]
          have q1' : (kd != 1) = true := by simp [k1]
          have q2 : (kd == 2) = false := by simp [k2]
          have q2' : (kd != 2) = true := by simp [k2]
          have HDN := Lib.hid (fun W => digNe p.2.2.2.2 hhd W)
          have HDI := Lib.hid (show (Try.prog.info? 52).map (·.size) = some (p.2.2.2.2.map encB).length by rw [List.length_map, hhd]; kernel_rfl)
          rw [if_neg k0, if_neg k1, if_neg k2] at HLT
          obtain ⟨p0, p1, p2, p3, p4⟩ := prt_cells kd (0) (0) (⟨#[]⟩) (p.2.2.2.2)
          have HPI := Lib.hid (show (Try.prog.info? 73).map (·.size) = some (prt kd (0) (0) (⟨#[]⟩) (p.2.2.2.2)).size from infoP36 (prt_size kd _ _ _ _ HD.out))
          have HPZ := Lib.hid (show zeroP.size = (prt kd (0) (0) (⟨#[]⟩) (p.2.2.2.2)).size by rw [prt_size kd _ _ _ _ HD.out]; rfl)
          have HP1 := Lib.hid (prt_one kd (0) (0) (⟨#[]⟩) (p.2.2.2.2))
          have HP4 := Lib.hid p4
          generalize prt kd (0) (0) (⟨#[]⟩) (p.2.2.2.2) = P at *
          clear p4 hhd
          clear k0 k1 k2
          go_wp2_with (refine wpList_load_mid rfl 73 _ rfl _ _ HP0.out X.toList _ hrP Try.underlying73 rfl HCI.out ?_)
          refine (HLT.out wr HBk.out.size HSk.out).mono ?_
          rintro e w5 ⟨rfl, hs5, hb5, ho5⟩
          have HS5 := Lib.hid (hs5.below (below_alloc (below_alloc (Below.refl w5.heap.size w5) (.cells P 73)) (.cells X 73)))
          have HB5 := Lib.hid (HBk.out.trans hb5)
          have HB7 := Lib.hid (show Below w1.heap.size w1 ((w5.alloc (.cells P 73)).alloc (.cells X 73)) from below_alloc (below_alloc HB5.out _) _)
          have hrP5 := HRW.out _ (below_alloc HB5.out (.cells P 73))
          have HG9 := Lib.hid (show ((w5.alloc (.cells P 73)).alloc (.cells X 73)).heap[w5.heap.size]? = some (.cells P 73 (0, 0)) from blk_alloc (blk_new w5 _) _)
          have HG10 := Lib.hid (show ((w5.alloc (.cells P 73)).alloc (.cells X 73)).heap[w5.heap.size + 1]? = some (.cells X 73 (0, 0)) from by have := blk_new (w5.alloc (.cells P 73)) (.cells X 73); simpa using this)
          clear hs5 hb5 ho5 hrP
          go_upto_region 10 with (first | (refine wpList_box rfl rfl 73 _ _ rfl rfl P zeroP zeroPt rfl rfl HPZ.out HPI.out HP1.out ?_) | (refine wpList_load_mid rfl 73 _ rfl _ _ HP0.out X.toList _ hrP5 Try.underlying73 rfl HCI.out ?_) | (refine wpList_box rfl rfl 73 _ _ rfl rfl X zeroP zeroPt rfl rfl HXZ.out HXI.out HX1.out ?_))
          go_wp2_with (first | (refine wpList_load_midG (by rfl) 52 _ rfl w5.heap.size 4 rfl (p.2.2.2.2.map encB) _ (range_blk HG9.out HP4.out) Try.underlying52 rfl HDI.out ?_) | (refine wpList_load_midG (by rfl) 52 _ rfl (w5.heap.size + 1) 4 rfl (p.2.2.2.2.map encB) _ (range_blk HG10.out HX4.out) Try.underlying52 rfl HDI.out ?_) | (refine wpList_eqG (by rfl) .neq 52 52 _ _ rfl (p.2.2.2.2.map encB).toArray (p.2.2.2.2.map encB).toArray rfl rfl (by kernel_rfl) (.bool false) (HDN.out _) ?_))
          go_roundw
          case rel => exact ⟨k + 1, by omega, by go_num, HS5, HB7⟩
          case measure => simp [intOf]; omega
      · obtain rfl : k = l.length := by omega
        have HSE := Lib.hid (show RdS wr w1.heap.size g L L.length 0 from by have h := HSk.out; rwa [HT.out] at h)
        have HEN := Lib.hid (show Calls Try.prog 38 #[.pointer (some ⟨g, 0, none⟩)] wr (Quiet (.int .i64 0) wr) from by have h := rend_any w1.heap.size g L L.length 0 wr HSE.out; unfold endN at h; rwa [if_neg (by simp), if_pos rfl] at h)
        go_wp2_with fail
        refine HEN.out.mono ?_
        rintro e w6 ⟨rfl, n6, rfl⟩
        go_wp2_with fail
        refine (HLV.out _).mono ?_
        rintro e w7 ⟨rfl, hb⟩
        have HB7 := Lib.hid (below_then HB1.out HB1.out.size (below_then (pw_below_drewN HBk.out n6) (pw_below_drewN HBk.out n6).size hb))
        clear hb
        go_wp2_with fail
        go_ret
        exact ⟨rfl, HB7.out⟩
end Go.Proofs.Yteeemiacibjaoaa.Co
