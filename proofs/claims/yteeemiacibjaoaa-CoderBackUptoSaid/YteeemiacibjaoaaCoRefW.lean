/- stillageref23.Write. -/
import Derived.Test.YteeemiacibjaoaaCoWrite
import Derived.Test.YteeemiacibjaoaaBox
import Derived.Test.YteeemiacibjaoaaCrcRefSum
import Derived.Test.YteeemiacibjaoaaRefPut
import Derived.Test.YteeemiacibjaoaaRefPutT
import Derived.Lib.ConvBytes
set_option linter.unusedVariables false
set_option linter.unusedSimpArgs false
namespace Go.Proofs.Yteeemiacibjaoaa.Co
open Go.RowKit Go.Proofs.YteeemiacibjaoaaW.PrintWords Go.Proofs.Yteeemiacibjaoaa.B Go.Proofs.Yteeemiacibjaoaa.Fx Go.Proofs.Yteeemiacibjaoaa.Fr Go.Proofs.Yteeemiacibjaoaa.O

theorem Buf.rd' {w : World} {base : Nat} {A : Option Addr} {n c : Nat} {l : List UInt8} (h : Buf w base (.slice A n c) l) : Rd w A l := by
  obtain ⟨A', c', e, -, hr⟩ := h.reads
  injection e with e1
  subst e1
  exact hr
theorem zeroPt (w : World) : (zeroValue 73).run Try.prog w = .ok (.agg zeroP) w := by kernel_rfl
theorem infoPt {x : Pt} (h : x.2.2.2.2.length = 32) : (Try.prog.info? 73).map (·.size) = some (prtP x).size := by rw [prtP_size h]; kernel_rfl
theorem onePt (x : Pt) : (prtP x).all (·.oneCell') = true := by
  rw [Array.all_eq_true_iff_forall_mem]
  intro v hv
  have hv : v ∈ (prtP x).toList := by simpa using hv
  rw [prtP_list] at hv
  simp only [List.mem_cons, List.mem_map] at hv
  rcases hv with rfl | rfl | rfl | rfl | ⟨b, -, rfl⟩ <;> rfl
theorem prtP_get (x : Pt) : (prtP x)[0]? = some (.int .i64 x.1.toInt) ∧ (prtP x)[1]? = some (.int .i64 x.2.1.toInt) ∧ (prtP x)[2]? = some (.int .u64 x.2.2.1.toNat) ∧ (prtP x)[3]? = some (.string x.2.2.2.1) ∧ ∀ j v, (x.2.2.2.2.map encB)[j]? = some v → (prtP x)[4 + j]? = some v := by
  refine ⟨?_, ?_, ?_, ?_, fun j v hv => ?_⟩ <;> rw [← Array.getElem?_toList, prtP_list]
  · rfl
  · rfl
  · rfl
  · rfl
  · rw [show 4 + j = j + 1 + 1 + 1 + 1 by omega]; exact hv
theorem okL_take {l : List Pt} {k : Nat} (hk : k < l.length) (h : okL (l.take k) = true) (hp : okP (pt l k) = true) : okL (l.take (k + 1)) = true := by rw [take_snoc l k hk, okL_snoc, h, hp]; rfl
theorem okL_no {l : List Pt} {k : Nat} (hk : k < l.length) (hp : okP (pt l k) = false) : okL l = false := okL_false (k := k + 1) (by rw [take_snoc l k hk, okL_snoc, hp, Bool.and_false])
set_option maxRecDepth 100000 in
set_option maxHeartbeats 1600000 in
theorem refw_any (s : ByteArray) (A : Option Addr) (c : Nat) (l : List Pt) (w : World) (hs : s.size ≤ 1048576) (hm : ms mPt l ≤ 1048576) (hr : RdP w A l) :
    Calls Try.prog 35 #[.string s, .slice A l.length c] w (BytesR (wrB s.data.toList l) (!okL l) w) := by
  have HR := Lib.hid hr
  have hll := ms_len (m := mPt) (fun x => by unfold mPt; omega) l
  have hlen : l.length ≤ 1048576 := by omega
  have hcv := Lib.run_convert_string_bytes (P := Try.prog) w 9 22 5 s Try.underlying9 undB Try.underlying5
  have h3 : s.data.toList.length = s.size := by rw [Array.length_toList]; rfl
  have hz := Lib.bytesWorld_size w 5 s
  have hn := Lib.bytesWorld_at_new w 5 s
  have HBW := Lib.hid (bytes_below w s)
  have HBU := Lib.hid (h3 ▸ bytes_buf w s (by unfold maxLen; omega))
  generalize Lib.bytesWorld w 5 s = w1 at *
  generalize grownCap w s.size 0 5 = cap at *
  obtain ⟨m, hm0⟩ : ∃ m, s.data.toList = m := ⟨_, rfl⟩
  have hml : m.length ≤ 1048576 := by rw [← hm0]; simpa using hs
  rw [hm0] at HBU h3 ⊢
  have HSZ := Lib.hid h3
  have HLEN := Lib.hid (fun (k : Nat) (hk : k < l.length) => (show (wrB m (l.take k)).length + 2 * mPt (pt l k) ≤ 16000000 from by
    have h1 := wrB_len m (l.take k)
    have h2 : ms mPt (l.take k) ≤ ms mPt l := ms_take l k
    have h3 : l.drop k = pt l k :: l.drop (k + 1) := by rw [List.drop_eq_getElem_cons hk]; simp [pt, hk]
    have h5 : (l.map mPt).sum = ((l.take k).map mPt).sum + ((l.drop k).map mPt).sum := by rw [← List.sum_append, ← List.map_append, List.take_append_drop]
    rw [h3, List.map_cons, List.sum_cons] at h5
    unfold ms at *; omega))
  have HLE := Lib.hid (show (wrB m l).length ≤ 16000000 from by have := wrB_len m l; omega)
  clear hr hm0 hll hn hz h3
  go_enter Try.func35, Try.ntmps35
  go_wp2_with fail
  go_loopw [6, 7] (fun v i wr => ∃ (k : Nat) (x : List UInt8) (A1 : Option Addr) (c1 : Nat), k ≤ l.length ∧ i = .int .i64 k ∧ v = .slice A1 x.length c1 ∧ Hid (x = wrB m (l.take k)) ∧ Hid (okL (l.take k) = true) ∧ Hid (Buf wr w.heap.size (.slice A1 x.length c1) x) ∧ Hid (Below w.heap.size w wr)) (fun _ i _ => l.length - (intOf i).toNat)
  case atStart => exact ⟨0, m, some ⟨w.heap.size, 0, none⟩, cap, by omega, rfl, by rw [HSZ.out], Lib.hid (by simp [wrB_nil]), Lib.hid (by simp [okL]), by rw [HSZ.out] at *; exact HBU, HBW⟩
  case round =>
    obtain ⟨k, x, A1, c1, hk, rfl, rfl, HX, HOK, HBk, HWk⟩ := hrel
    by_cases hlt : k < l.length
    · obtain ⟨ad, rfl, hd, -, -, -, -, -, hrP, HP0⟩ := (HR.out.below HWk.out).walk k hlt
      have HLK := HLEN.out k hlt
      have HOKN := Lib.hid (fun h : okP (pt l k) = false => okL_no hlt h)
      have HOKY := Lib.hid (fun h : okP (pt l k) = true => okL_take hlt HOK.out h)
      obtain ⟨p, hp⟩ : ∃ p, pt l k = p := ⟨_, rfl⟩
      have HE := Lib.hid (show wrB m (l.take (k + 1)) = x ++ encP p by rw [take_snoc l k hlt, wrB_snoc, hp, HX.out])
      rw [← HX.out] at HLK
      rw [hp] at hd hrP HOKN HOKY HLK
      have HXL := Lib.hid HLK
      have HXP := Lib.hid (show x.length + p.2.2.2.1.size ≤ 140737488355000 from by
        have h6 : p.2.2.2.1.size + 1 ≤ mPt p := by unfold mPt mS; omega
        omega)
      have HD := Lib.hid hd
      have hI := infoPt hd
      have hI' : (Try.prog.info? 73).map (·.size) = some (prtP p).toList.length := by rw [Array.length_toList]; exact hI
      have h36 := prtP_size hd
      have hone := onePt p
      obtain ⟨x0, x1, x2, x3, x4⟩ := prtP_get p
      obtain ⟨X, hX⟩ : ∃ X, prtP p = X := ⟨_, rfl⟩
      rw [hX] at hI hI' h36 hone x0 x1 x2 x3 x4 hrP
      have HI := Lib.hid hI
      have HI' := Lib.hid hI'
      have H36 := Lib.hid (show zeroP.size = X.size by rw [h36]; rfl)
      have HONE := Lib.hid hone
      have HX4 := Lib.hid x4
      clear hp hd hI hI' h36 hone x4 hX HLK
      have HRD := Lib.hid (show Rd (wr.alloc (.cells X 73)) A1 x from (Buf.rd' HBk.out).below (below_alloc (Below.refl _ _) _))
      have HWB := Lib.hid (show Below w.heap.size w (wr.alloc (.cells X 73)) from below_alloc HWk.out _)
      have hs1 : w.heap.size ≤ (wr.alloc (.cells X 73)).heap.size := HWB.out.size
      have HS1 := Lib.hid hs1
      clear hs1
      obtain ⟨kd, hkd⟩ : ∃ kd, p.1.toInt = kd := ⟨_, rfl⟩
      rw [hkd] at x0
      have HKD := Lib.hid hkd
      clear hkd
      by_cases k0 : kd = 0
      · have q0 : (kd == 0) = true := by simp [k0]
        have HF := Lib.hid (show encP p = V.enc p.2.1.toInt.toNat ∧ okP p = decide (0 ≤ p.2.1.toInt) by unfold encP okP; rw [HKD.out, if_pos k0, if_pos k0]; exact ⟨rfl, rfl⟩)
        have hlt2 := toInt_lt p.2.1
        clear k0
        obtain ⟨n, hn⟩ : ∃ n, p.2.1.toInt = n := ⟨_, rfl⟩
        have HNT := Lib.hid (show n ≤ 9223372036854775807 by have := p.2.1.toInt_lt; omega)
        rw [hn] at x1 HF hlt2
        clear hn
        by_cases hneg : n < 0
        · have HB := Lib.hid (HOKN.out (by rw [HF.out.2]; simp; omega))
          go_wp2_with (first | (refine wpList_load_mid rfl 73 _ rfl _ _ HP0.out X.toList _ hrP Try.underlying73 rfl HI'.out ?_) | (refine wpList_box rfl rfl 73 _ _ rfl rfl X zeroP zeroPt rfl rfl H36.out HI.out HONE.out ?_))
          go_ret2
          exact ⟨.slice none 0 0, by rw [HB.out]; rfl, by rw [HB.out]; exact Own.nil _ _, HWB.out⟩
        · obtain ⟨nn, rfl⟩ := Int.eq_ofNat_of_zero_le (show 0 ≤ n by omega)
          rw [Int.toNat_natCast] at HF hlt2
          have hlt3 : (nn : Int) ≤ 9223372036854775807 := by
            have h1 := HNT.out
            omega
          have hw : IntKind.u64.wrap (nn : Int) = (nn : Int) := IntWalk.u64_in _ (by omega)
          go_wp2_with (first | (refine wpList_load_mid rfl 73 _ rfl _ _ HP0.out X.toList _ hrP Try.underlying73 rfl HI'.out ?_) | (refine wpList_box rfl rfl 73 _ _ rfl rfl X zeroP zeroPt rfl rfl H36.out HI.out HONE.out ?_))
          refine (Vr.rput_any A1 c1 x nn _ (by have := HXL.out; omega) hlt2 HRD.out).mono ?_
          rintro e w2 ⟨v2, rfl, hown, hb⟩
          obtain ⟨A2, c2, rfl, -, -⟩ := hown.reads
          have HO2 := Lib.hid (hown.lower HS1.out)
          have HB2 := Lib.hid (below_then HWB.out HS1.out hb)
          clear hown hb
          go_wp2_with fail
          go_roundw
          case rel => exact ⟨k + 1, x ++ V.enc nn, A2, c2, by omega, by go_num, by rw [List.length_append], Lib.hid (by rw [HE.out, HF.out.1]), Lib.hid (HOKY.out (by rw [HF.out.2]; simp)), Lib.hid (Buf.of_own HO2.out), HB2⟩
          case measure => simp [intOf]; omega
      · have q0 : (kd == 0) = false := by simp [k0]
        by_cases k1 : kd = 1
        · have q1 : (kd == 1) = true := by simp [k1]
          have HF := Lib.hid (show encP p = V.enc p.2.2.1.toNat ∧ okP p = true by unfold encP okP; rw [HKD.out, if_neg k0, if_pos k1, if_neg k0, if_pos k1]; exact ⟨rfl, rfl⟩)
          clear k0 k1
          go_wp2_with (first | (refine wpList_load_mid rfl 73 _ rfl _ _ HP0.out X.toList _ hrP Try.underlying73 rfl HI'.out ?_) | (refine wpList_box rfl rfl 73 _ _ rfl rfl X zeroP zeroPt rfl rfl H36.out HI.out HONE.out ?_))
          refine (Vr.rput_any A1 c1 x p.2.2.1.toNat _ (by have := HXL.out; omega) p.2.2.1.toNat_lt HRD.out).mono ?_
          rintro e w2 ⟨v2, rfl, hown, hb⟩
          obtain ⟨A2, c2, rfl, -, -⟩ := hown.reads
          have HO2 := Lib.hid (hown.lower HS1.out)
          have HB2 := Lib.hid (below_then HWB.out HS1.out hb)
          clear hown hb
          go_wp2_with fail
          go_roundw
          case rel => exact ⟨k + 1, x ++ V.enc p.2.2.1.toNat, A2, c2, by omega, by go_num, by rw [List.length_append], Lib.hid (by rw [HE.out, HF.out.1]), Lib.hid (HOKY.out HF.out.2), Lib.hid (Buf.of_own HO2.out), HB2⟩
          case measure => simp [intOf]; omega
        · have q1 : (kd == 1) = false := by simp [k1]
          by_cases k2 : kd = 2
          · have q2 : (kd == 2) = true := by simp [k2]
            have HF := Lib.hid (show putTextL x p.2.2.2.1.data.toList = x ++ encP p ∧ okP p = decide (p.2.2.2.1.size ≤ 255) by unfold encP okP; rw [HKD.out, if_neg k0, if_neg k1, if_pos k2, if_neg k0, if_neg k1, if_pos k2]; exact ⟨putText_enc _ _, rfl⟩)
            clear k0 k1 k2
            obtain ⟨t, ht⟩ : ∃ t, p.2.2.2.1 = t := ⟨_, rfl⟩
            rw [ht] at x3 HF HXP
            clear ht
            by_cases hsz : t.size ≤ 255
            · have hsz' : ¬ (255 : Int) < (t.size : Int) := by omega
              have HTX := Lib.hid (R01.putText_any A1 c1 x t _ HXP.out HRD.out)
              obtain ⟨y, hy⟩ : ∃ y, putTextL x t.data.toList = y := ⟨_, rfl⟩
              rw [hy, decide_eq_true hsz] at HTX
              rw [hy, decide_eq_true hsz] at HF
              clear hy hsz
              go_wp2_with (first | (refine wpList_load_mid rfl 73 _ rfl _ _ HP0.out X.toList _ hrP Try.underlying73 rfl HI'.out ?_) | (refine wpList_box rfl rfl 73 _ _ rfl rfl X zeroP zeroPt rfl rfl H36.out HI.out HONE.out ?_))
              refine HTX.out.mono ?_
              rintro e w2 ⟨v2, rfl, hown, hb⟩
              obtain ⟨A2, c2, rfl, -, -⟩ := hown.reads
              have HO2 := Lib.hid (hown.lower HS1.out)
              have HB2 := Lib.hid (below_then HWB.out HS1.out hb)
              clear hown hb
              go_wp2_with fail
              go_roundw
              case rel => exact ⟨k + 1, y, A2, c2, by omega, by go_num, rfl, Lib.hid (by rw [HE.out, HF.out.1]), Lib.hid (HOKY.out HF.out.2), Lib.hid (Buf.of_own HO2.out), HB2⟩
              case measure => simp [intOf]; omega
            · have hsz' : (255 : Int) < (t.size : Int) := by omega
              have HB := Lib.hid (HOKN.out (by rw [HF.out.2]; simp; omega))
              go_wp2_with (first | (refine wpList_load_mid rfl 73 _ rfl _ _ HP0.out X.toList _ hrP Try.underlying73 rfl HI'.out ?_) | (refine wpList_box rfl rfl 73 _ _ rfl rfl X zeroP zeroPt rfl rfl H36.out HI.out HONE.out ?_))
              go_ret2
              exact ⟨.slice none 0 0, by rw [HB.out]; rfl, by rw [HB.out]; exact Own.nil _ _, HWB.out⟩
          · have q2 : (kd == 2) = false := by simp [k2]
            have HF := Lib.hid (show encP p = p.2.2.2.2 ∧ okP p = true by unfold encP okP; rw [HKD.out, if_neg k0, if_neg k1, if_neg k2, if_neg k0, if_neg k1, if_neg k2]; exact ⟨rfl, rfl⟩)
            have HRD4 := Lib.hid (show Rd (wr.alloc (.cells X 73)) (some ⟨wr.heap.size, 4, none⟩) p.2.2.2.2 from rd_at (range_blk (blk_new wr _) HX4.out) (by rw [HD.out]; decide))
            clear k0 k1 k2
            go_wp2_with (first | (refine wpList_load_mid rfl 73 _ rfl _ _ HP0.out X.toList _ hrP Try.underlying73 rfl HI'.out ?_) | (refine wpList_box rfl rfl 73 _ _ rfl rfl X zeroP zeroPt rfl rfl H36.out HI.out HONE.out ?_) | (at_builtin; refine appBuf (w0 := w) w.heap.size rfl (.tmp 23) (.tmp 25) rfl _ x p.2.2.2.2 ⟨wr.heap.size, 4, none⟩ 32 32 rfl rfl HD.out.symm (by rw [HD.out]; decide) (HBk.out.below (below_alloc (Below.refl _ _) _)) HRD4.out HWB.out HS1.out (by have := HXL.out; rw [HD.out]; omega) ?_; intro A2 c2 w2 hbuf hbel _; have HO2 := Lib.hid hbuf; have HB2 := Lib.hid hbel; clear hbuf hbel))
            go_roundw
            case rel => exact ⟨k + 1, x ++ p.2.2.2.2, A2, c2, by omega, by go_num, by rw [List.length_append], Lib.hid (by rw [HE.out, HF.out.1]), Lib.hid (HOKY.out HF.out.2), HO2, HB2⟩
            case measure => simp [intOf]; omega
    · obtain rfl : k = l.length := by omega
      have HXX := Lib.hid (show x = wrB m l from by have := HX.out; rwa [List.take_length] at this)
      have HOKL := Lib.hid (show okL l = true from by have := HOK.out; rwa [List.take_length] at this)
      have hxl : x.length ≤ 16000000 := by rw [HXX.out]; exact HLE.out
      have hlt := csum_lt x
      have HSUM := Lib.hid (show Calls Try.prog 52 #[.slice A1 x.length c1] wr (Kept (.int .u32 (csum x : Nat)) wr) from CrcW.refsum_any A1 c1 x wr (Buf.rd' HBk.out) (by omega))
      have HSE := Lib.hid (show x ++ putB (csum x) 4 = seal4 x from rfl)
      generalize csum x = sm at *
      have hw : IntKind.u64.wrap (sm : Int) = (sm : Int) := IntWalk.u64_in _ (by omega)
      go_wp2_with fail
      refine HSUM.out.mono ?_
      rintro e w2 ⟨rfl, hb⟩
      have HB2 := Lib.hid (below_step' HWk.out hb)
      have HR2 := Lib.hid ((Buf.rd' HBk.out).below hb)
      clear hb
      go_wp2_with fail
      refine (R01.put_any A1 c1 x sm 4 w2 (by omega) (by omega) (by omega) (by omega) HR2.out).mono ?_
      rintro e w3 ⟨v3, rfl, hown, hb⟩
      have HO3 := Lib.hid (hown.lower HB2.out.size)
      have HB3 := Lib.hid (below_step' HB2.out hb)
      clear hown hb
      go_wp2_with fail
      go_ret2
      exact ⟨v3, by rw [HOKL.out]; rfl, by rw [HOKL.out, ← HXX.out, if_neg (by simp), ← HSE.out]; exact HO3.out, HB3.out⟩
end Go.Proofs.Yteeemiacibjaoaa.Co
