/- batches: the walks of Make. -/
import Derived.Test.YtdkadeihhgjiaaaBtK
set_option linter.unusedVariables false
set_option linter.unusedSimpArgs false
namespace Go.Proofs.Ytdkadeihhgjiaaa.Bt
open Go.RowKit Go.Proofs.YtdkadeihhgjiaaaW.PrintWords Go.Proofs.Ytdkadeihhgjiaaa.B Go.Proofs.Ytdkadeihhgjiaaa.Fx Go.Proofs.Ytdkadeihhgjiaaa.Fr Go.Proofs.Ytdkadeihhgjiaaa.O Go.Proofs.Ytdkadeihhgjiaaa.Rc
set_option maxRecDepth 100000 in
set_option maxHeartbeats 3200000 in
theorem bmake_any (s : Nat) (A : Option Addr) (c : Nat) (l : List RecV) (w : World) (hr : RdR w A l) (hs : s < 18446744073709551616) (hm : ms mRec l ≤ 1048576) :
    Calls Try.prog 23 #[.slice A l.length c, .int .u64 s] w (BMade s l w) := by
  have hd := hr.d32
  have h39 := ms_ge l hd
  have hlen : l.length ≤ 26886 := by unfold ms at hm; omega
  have HR := Lib.hid hr
  have HWR := Lib.hid (wrong_any A c l w hr (fun k => by have := nm_le l k; omega))
  have HNM := Lib.hid (fun k => (show (vN (rc l k)).size ≤ 140737488355328 from by have := nm_le l k; omega))
  have HLE := Lib.hid (fun k => (show (allR s (l.take k)).length ≤ 1763000000 from by
    have h1 := allR_le (l.take k) s (fun x hx => hd x (List.mem_of_mem_take hx))
    rw [List.length_take] at h1
    have h2 := Nat.min_le_right k l.length
    omega))
  have HE0 := Lib.hid (show ∀ we, wrongE l = we → batE s l = if we ≠ 0 then we else if 18446744073709551615 ≤ s + l.length then 20 else 0 from fun we h => by unfold batE; rw [h])
  have HEO := Lib.hid (fun h : wrongE l = 0 => eR_of h)
  have HDF := Lib.hid (show BMade s l = fun w e w' => ∃ v, e = .returned (.tuple #[v, .int .u64 (batN s l), .int .i64 (batE s l)]) ∧ Buf w' w.heap.size v (batB s l) ∧ Below w.heap.size w w' from rfl)
  have HBN := Lib.hid (show ∀ be, batE s l = be → batN s l = if be = 0 then s + l.length + 1 else s from fun be h => by unfold batN; rw [h])
  have HBB := Lib.hid (show ∀ be, batE s l = be → batB s l = if be = 0 then allR s l ++ cmtR (s + l.length) l.length (allR s l).length else [] from fun be h => by unfold batB; rw [h])
  clear hr hd h39 hm
  generalize wrongE l = we at *
  by_cases hwe : we = 0
  · subst hwe
    have HEO2 := Lib.hid (HEO.out rfl)
    clear HEO
    by_cases hov : 18446744073709551615 ≤ s + l.length
    · have HE := Lib.hid (show batE s l = 20 from by rw [HE0.out 0 rfl, if_neg (by decide), if_pos hov])
      go_enter Try.func23, Try.ntmps23
      go_wp2_with fail
      refine HWR.out.mono ?_
      rintro e w2 ⟨rfl, hb⟩
      have HB2 := Lib.hid hb
      clear hb
      go_wp2_with fail
      go_ret3
      rw [HDF.out]
      refine ⟨_, by rw [HBN.out 20 HE.out, HE.out]; rfl, by rw [HBB.out 20 HE.out]; exact Buf.nil _ _, HB2.out⟩
    · have HE := Lib.hid (show batE s l = 0 from by rw [HE0.out 0 rfl, if_neg (by decide), if_neg hov])
      go_enter Try.func23, Try.ntmps23
      go_wp2_with fail
      refine HWR.out.mono ?_
      rintro e w2 ⟨rfl, hb⟩
      have HB2 := Lib.hid hb
      clear hb
      go_wp2_with fail
      go_loopw [8, 9, 32] (fun v nx i wr => ∃ k t : Nat, k ≤ l.length ∧ i = .int .i64 k ∧ Hid (t = s + k) ∧ nx = .int .u64 t ∧ Hid (Buf wr w.heap.size v (allR s (l.take k))) ∧ Hid (Below w.heap.size w wr)) (fun _ _ i _ => l.length - (intOf i).toNat)
      case atStart => exact ⟨0, s, by omega, rfl, Lib.hid rfl, rfl, Lib.hid (Buf.nil _ _), HB2⟩
      case round =>
        clear HB2
        obtain ⟨k, t, hk, rfl, HTK, rfl, HO, HB⟩ := hrel
        have htb : t < 18446744073709551615 := by have := HTK.out; omega
        by_cases hlt : k < l.length
        · obtain ⟨ad, X, A2, c2, rfl, hX, -, hr2, c0, hrP, HP0⟩ := (HR.out.below HB.out).walk k hlt
          have HI := Lib.hid hX.info
          have HIL := Lib.hid hX.infoL
          have HSZ := Lib.hid (show zRec.size = X.size by rw [hX.size]; rfl)
          have HONE := Lib.hid hX.one
          obtain ⟨Y, hY⟩ : ∃ Y, X.setIfInBounds 1 (.int .u64 (t : Int)) = Y := ⟨_, rfl⟩
          have hYF := hY ▸ hX.setS t
          have HYI := Lib.hid hYF.info
          have HEQ := Lib.hid (show allR s (l.take (k + 1)) = allR s (l.take k) ++ bR t (rc l k) from by rw [HTK.out]; exact allR_take s hlt)
          have HPOS := Lib.hid (bR_pos (s := t) (HEO2.out _ (rc_mem hlt)))
          have HLB := Lib.hid (HLE.out (k + 1))
          rw [HEQ.out, List.length_append] at HLB
          have HMK := Lib.hid (fun W (h : Rd W A2 (vL (rc l k))) => (show Calls Try.prog 37 #[.agg Y] W (MadeE W (bR t (rc l k)) (eR (rc l k))) from make_any Y _ t _ _ A2 _ c2 _ _ W hYF h (by omega) (HNM.out k)))
          obtain ⟨W1, hW1⟩ : ∃ W, wr.alloc (.cells X 34) = W := ⟨_, rfl⟩
          have HG1 := Lib.hid (show W1.heap[wr.heap.size]? = some (.cells X 34 (0, 0)) from hW1 ▸ blk_new wr _)
          have hbw : Below wr.heap.size wr W1 := hW1 ▸ below_alloc (Below.refl _ _) _
          have hu := upd_cell HG1.out 1 (.int .u64 (t : Int))
          obtain ⟨W2, hW2⟩ : ∃ W, W1.setCell ⟨wr.heap.size, 1, none⟩ (.int .u64 (t : Int)) = W := ⟨_, rfl⟩
          rw [hW2, hY] at hu
          have HG2 := Lib.hid hu.at_
          have hb2 := hu.to (Nat.le_refl _) hbw
          have HB2 := Lib.hid (below_step' HB.out hb2)
          have HO2 := Lib.hid (Rc.Buf.upd (HO.out.below hbw) hu HG1.out (by decide))
          have HR2 := Lib.hid (hr2.below hb2)
          have hcc := fun i => blk_cell HG1.out i
          have hff := fun i => blk_frozen HG1.out i
          have h1 := hX.c1
          have hzz := blk_lt HG1.out
          clear hX hr2 c0 hu hbw hb2 hYF hY
          generalize bR t (rc l k) = bb at *
          generalize eR (rc l k) = er at *
          generalize vL (rc l k) = dl at *
          go_wp2_with (first | (refine wpList_load_mid rfl 34 (.tmp 34) rfl _ _ HP0.out X.toList _ hrP Try.underlying34 rfl HIL.out ?_) | (refine wpList_box rfl rfl 34 _ _ rfl rfl X zRec zeroRec rfl rfl HSZ.out HI.out HONE.out ?_; rw [hW1]) | (refine wpList_load_row rfl 34 (.tmp 11) rfl wr.heap.size rfl 34 Y (0, 0) _ HG2.out Try.underlying34 rfl HYI.out ?_))
          refine (HMK.out W2 HR2.out).mono ?_
          rintro e w3 ⟨v3, rfl, ho, hb⟩
          obtain ⟨A3, c3, rfl, hc3, hr3⟩ := ho.reads
          obtain ⟨ad3, rfl, -⟩ := hr3.2.2 HPOS.out
          have HR3 := Lib.hid hr3
          have HB3 := Lib.hid (below_step' HB2.out hb)
          have HO3 := Lib.hid (HO2.out.below hb)
          clear ho hb hr3 hW1 hW2 hcc hff hzz h1
          go_wp2_with (at_builtin; refine appBuf (w0 := w) w.heap.size rfl (.tmp 43) (.tmp 44) rfl _ (allR s (l.take k)) bb ad3 bb.length c3 rfl rfl rfl HPOS.out HO3.out HR3.out HB3.out HB3.out.size (by have := HLB.out; omega) ?_; intro A4 c4 w4 hbuf hbel _; have HO4 := Lib.hid hbuf; have HB4 := Lib.hid hbel; clear hbuf hbel)
          go_roundw
          case rel => exact ⟨k + 1, t + 1, by omega, by go_num, Lib.hid (by have := HTK.out; omega), by go_num, Lib.hid (by rw [HEQ.out]; have h := HO4.out; rwa [List.length_append] at h), HB4⟩
          case measure => simp [intOf]; omega
        · obtain rfl : k = l.length := by omega
          have HL2 := Lib.hid (show (allR s l).length ≤ 1763000000 from by have h := HLE.out l.length; rwa [List.take_length] at h)
          have HO2 := Lib.hid (show Buf wr w.heap.size u8 (allR s l) from by have h := HO.out; rwa [List.take_length] at h)
          have HCL := Lib.hid (show (cmtR t l.length (allR s l).length).length = 29 from cmt_len (by omega) (by have := HL2.out; omega))
          obtain ⟨X, hX0⟩ : ∃ X, recC 6 t z32 ⟨#[]⟩ none 0 0 (l.length : Int) ((allR s l).length : Int) = X := ⟨_, rfl⟩
          have hX : RecF X 6 t z32 ⟨#[]⟩ none ([] : List UInt8).length 0 (l.length : Int) ((allR s l).length : Int) := hX0 ▸ recF rfl
          have HCM := Lib.hid (fun W => hX0 ▸ commit_any (l.length : Int) ((allR s l).length : Int) t W)
          have HMK := Lib.hid (fun W => (show Calls Try.prog 37 #[.agg X] W (MadeE W (cmtR t l.length (allR s l).length) 0) from by
            have h := make_any X 6 t z32 ⟨#[]⟩ none [] 0 (l.length : Int) ((allR s l).length : Int) W hX (Rd.nil W) (by omega) (by decide)
            rw [show rightE 6 ([] : List UInt8).length (⟨#[]⟩ : ByteArray).data.toList (l.length : Int) ((allR s l).length : Int) = 0 from cmt_right (by omega) (by have := HL2.out; omega)] at h
            exact h))
          have HB0 := Lib.hid (show batB s l = allR s l ++ cmtR t l.length (allR s l).length from by rw [HBB.out 0 HE.out, if_pos rfl, HTK.out])
          have HN0 := Lib.hid (show batN s l = t + 1 from by rw [HBN.out 0 HE.out, if_pos rfl, HTK.out])
          clear hX hX0 HO
          generalize cmtR t l.length (allR s l).length = cb at *
          generalize allR s l = xs at *
          obtain ⟨A1, c1, rfl, -, -⟩ := HO2.out.reads
          go_wp2_with fail
          refine (HCM.out _).mono ?_
          rintro e w3 ⟨rfl, hb⟩
          have HB3 := Lib.hid (below_step' HB.out hb)
          have HO3 := Lib.hid (HO2.out.below hb)
          clear hb
          go_wp2_with fail
          refine (HMK.out _).mono ?_
          rintro e w4 ⟨v4, rfl, ho, hb⟩
          obtain ⟨A4, c4, rfl, hc4, hr4⟩ := ho.reads
          obtain ⟨ad4, rfl, -⟩ := hr4.2.2 (by rw [HCL.out]; decide)
          have HR4 := Lib.hid hr4
          have HB4 := Lib.hid (below_step' HB3.out hb)
          have HO4 := Lib.hid (HO3.out.below hb)
          clear ho hb hr4
          go_wp2_with (at_builtin; refine appBuf (w0 := w) w.heap.size rfl (.tmp 59) (.tmp 60) rfl _ xs cb ad4 cb.length c4 rfl rfl rfl (by rw [HCL.out]; decide) HO4.out HR4.out HB4.out HB4.out.size (by have := HL2.out; rw [HCL.out]; omega) ?_; intro A5 c5 w5 hbuf hbel _; have HO5 := Lib.hid hbuf; have HB5 := Lib.hid hbel; clear hbuf hbel)
          go_ret3
          rw [HDF.out]
          refine ⟨_, by rw [HN0.out, HE.out]; rfl, by rw [HB0.out]; have h := HO5.out; rw [List.length_append] at h; exact h, HB5.out⟩
  · have hne : ((we : Int) != 0) = true := bne_iff_ne.2 (by omega)
    have HE := Lib.hid (show batE s l = we from by rw [HE0.out we rfl, if_pos hwe])
    have HWE := Lib.hid hwe
    clear hwe
    go_enter Try.func23, Try.ntmps23
    go_wp2_with fail
    refine HWR.out.mono ?_
    rintro e w2 ⟨rfl, hb⟩
    have HB2 := Lib.hid hb
    clear hb
    go_wp2_with fail
    go_ret3
    rw [HDF.out]
    refine ⟨_, by rw [HBN.out we HE.out, HE.out, if_neg HWE.out]; rfl, by rw [HBB.out we HE.out, if_neg HWE.out]; exact Buf.nil _ _, HB2.out⟩
end Go.Proofs.Ytdkadeihhgjiaaa.Bt
/- batches: the reference's Make. -/
set_option linter.unusedVariables false
set_option linter.unusedSimpArgs false
namespace Go.Proofs.Ytdkadeihhgjiaaa.Bt
open Go.RowKit Go.Proofs.YtdkadeihhgjiaaaW.PrintWords Go.Proofs.Ytdkadeihhgjiaaa.B Go.Proofs.Ytdkadeihhgjiaaa.Fx Go.Proofs.Ytdkadeihhgjiaaa.Fr Go.Proofs.Ytdkadeihhgjiaaa.O Go.Proofs.Ytdkadeihhgjiaaa.Rc
def cArr (q n z : Int) : Array Value := (Value.int .i64 6 :: .int .u64 q :: (z32.map encB ++ [.string ⟨#[]⟩, .slice none 0 0, .int .i64 n, .int .i64 z])).toArray
theorem wrap_over {s n : Nat} (hs : s < 18446744073709551616) (hn : n ≤ 26886) (h : 18446744073709551615 ≤ s + n) : IntKind.u64.wrap (IntKind.u64.wrap ((s : Int) + (n : Int)) + 1) ≤ (s : Int) := by
  simp only [IntKind.wrap, IntKind.bits, IntKind.signed]
  simp
  omega
set_option maxRecDepth 100000 in
set_option maxHeartbeats 3200000 in
theorem refbmake_any (s : Nat) (A : Option Addr) (c : Nat) (l : List RecV) (w : World) (hr : RdR w A l) (hs : s < 18446744073709551616) (hm : ms mRec l ≤ 1048576) :
    Calls Try.prog 24 #[.slice A l.length c, .int .u64 s] w (BMade s l w) := by
  have hd := hr.d32
  have h39 := ms_ge l hd
  have hlen : l.length ≤ 26886 := by unfold ms at hm; omega
  have HR := Lib.hid hr
  have HWR := Lib.hid (refwrong_any A c l w hr (fun k => by have := nm_le l k; omega))
  have HWA := Lib.hid (fun W (h : RdR W A l) => refwrong_any A c l W h (fun k => by have := nm_le l k; omega))
  have HNM := Lib.hid (fun k => (show (vN (rc l k)).size ≤ 140737488355328 from by have := nm_le l k; omega))
  have HLE := Lib.hid (fun k => (show (allR s (l.take k)).length ≤ 1763000000 from by
    have h1 := allR_le (l.take k) s (fun x hx => hd x (List.mem_of_mem_take hx))
    rw [List.length_take] at h1
    have h2 := Nat.min_le_right k l.length
    omega))
  have HE0 := Lib.hid (show ∀ we, wrongE l = we → batE s l = if we ≠ 0 then we else if 18446744073709551615 ≤ s + l.length then 20 else 0 from fun we h => by unfold batE; rw [h])
  have HEO := Lib.hid (fun h : wrongE l = 0 => eR_of h)
  have HDF := Lib.hid (show BMade s l = fun w e w' => ∃ v, e = .returned (.tuple #[v, .int .u64 (batN s l), .int .i64 (batE s l)]) ∧ Buf w' w.heap.size v (batB s l) ∧ Below w.heap.size w w' from rfl)
  have HBN := Lib.hid (show ∀ be, batE s l = be → batN s l = if be = 0 then s + l.length + 1 else s from fun be h => by unfold batN; rw [h])
  have HBB := Lib.hid (show ∀ be, batE s l = be → batB s l = if be = 0 then allR s l ++ cmtR (s + l.length) l.length (allR s l).length else [] from fun be h => by unfold batB; rw [h])
  clear hr hd h39 hm
  generalize wrongE l = we at *
  by_cases hwe : we = 0
  · subst hwe
    have HEO2 := Lib.hid (HEO.out rfl)
    clear HEO
    by_cases hov : 18446744073709551615 ≤ s + l.length
    · have HWP := Lib.hid (wrap_over hs hlen hov)
      have HE := Lib.hid (show batE s l = 20 from by rw [HE0.out 0 rfl, if_neg (by decide), if_pos hov])
      go_enter Try.func24, Try.ntmps24
      go_wp2_with fail
      refine HWR.out.mono ?_
      rintro e w2 ⟨rfl, hb⟩
      have HB2 := Lib.hid hb
      clear hb
      go_wp2_with fail
      rotate_left
      · exfalso
        rename_i h
        have := HWP.out
        omega
      go_ret3
      rw [HDF.out]
      refine ⟨_, by rw [HBN.out 20 HE.out, HE.out]; rfl, by rw [HBB.out 20 HE.out]; exact Buf.nil _ _, HB2.out⟩
    · have HE := Lib.hid (show batE s l = 0 from by rw [HE0.out 0 rfl, if_neg (by decide), if_neg hov])
      go_enter Try.func24, Try.ntmps24
      go_wp2_with fail
      refine HWR.out.mono ?_
      rintro e w2 ⟨rfl, hb⟩
      have HB2 := Lib.hid hb
      clear hb
      go_wp2_with fail
      go_loopw [7, 8] (fun v i wr => ∃ k : Nat, k ≤ l.length ∧ i = .int .i64 k ∧ Hid (Buf wr w.heap.size v (allR s (l.take k))) ∧ Hid (Below w.heap.size w wr)) (fun _ i _ => l.length - (intOf i).toNat)
      case atStart => exact ⟨0, by omega, rfl, Lib.hid (Buf.nil _ _), HB2⟩
      case round =>
        clear HB2
        obtain ⟨k, hk, rfl, HO, HB⟩ := hrel
        obtain ⟨t, ht⟩ : ∃ t, s + k = t := ⟨_, rfl⟩
        have HTK := Lib.hid ht.symm
        have HTI := Lib.hid (show (t : Int) = (s : Int) + (k : Int) by omega)
        have htb : t < 18446744073709551615 := by omega
        clear ht
        by_cases hlt : k < l.length
        · obtain ⟨ad, X, A2, c2, rfl, hX, -, hr2, c0, hrP, HP0⟩ := (HR.out.below HB.out).walk k hlt
          have HI := Lib.hid hX.info
          have HIL := Lib.hid hX.infoL
          have HSZ := Lib.hid (show zRec.size = X.size by rw [hX.size]; rfl)
          have HONE := Lib.hid hX.one
          obtain ⟨Y, hY⟩ : ∃ Y, X.setIfInBounds 1 (.int .u64 ((s : Int) + (k : Int))) = Y := ⟨_, rfl⟩
          have hYF := hX.setS t
          rw [HTI.out, hY] at hYF
          have HYI := Lib.hid hYF.info
          have HEQ := Lib.hid (show allR s (l.take (k + 1)) = allR s (l.take k) ++ bR t (rc l k) from by rw [HTK.out]; exact allR_take s hlt)
          have HPOS := Lib.hid (bR_pos (s := t) (HEO2.out _ (rc_mem hlt)))
          have HLB := Lib.hid (HLE.out (k + 1))
          rw [HEQ.out, List.length_append] at HLB
          have HMK := Lib.hid (fun W (h : Rd W A2 (vL (rc l k))) => (show Calls Try.prog 38 #[.agg Y] W (MadeE W (bR t (rc l k)) (eR (rc l k))) from refmake_any Y _ t _ _ A2 _ c2 _ _ W hYF h (by omega) (HNM.out k)))
          obtain ⟨W1, hW1⟩ : ∃ W, wr.alloc (.cells X 34) = W := ⟨_, rfl⟩
          have HG1 := Lib.hid (show W1.heap[wr.heap.size]? = some (.cells X 34 (0, 0)) from hW1 ▸ blk_new wr _)
          have hbw : Below wr.heap.size wr W1 := hW1 ▸ below_alloc (Below.refl _ _) _
          have hu := upd_cell HG1.out 1 (.int .u64 ((s : Int) + (k : Int)))
          obtain ⟨W2, hW2⟩ : ∃ W, W1.setCell ⟨wr.heap.size, 1, none⟩ (.int .u64 ((s : Int) + (k : Int))) = W := ⟨_, rfl⟩
          rw [hW2, hY] at hu
          have HG2 := Lib.hid hu.at_
          have hb2 := hu.to (Nat.le_refl _) hbw
          have HB2 := Lib.hid (below_step' HB.out hb2)
          have HO2 := Lib.hid (Rc.Buf.upd (HO.out.below hbw) hu HG1.out (by decide))
          have HR2 := Lib.hid (hr2.below hb2)
          have hcc := fun i => blk_cell HG1.out i
          have hff := fun i => blk_frozen HG1.out i
          have h1 := hX.c1
          have hzz := blk_lt HG1.out
          clear hX hr2 c0 hu hbw hb2 hYF hY
          generalize bR t (rc l k) = bb at *
          generalize eR (rc l k) = er at *
          generalize vL (rc l k) = dl at *
          go_wp2_with (first | (refine wpList_load_mid rfl 34 (.tmp 37) rfl _ _ HP0.out X.toList _ hrP Try.underlying34 rfl HIL.out ?_) | (refine wpList_box rfl rfl 34 _ _ rfl rfl X zRec zeroRec rfl rfl HSZ.out HI.out HONE.out ?_; rw [hW1]) | (refine wpList_load_row rfl 34 (.tmp 9) rfl wr.heap.size rfl 34 Y (0, 0) _ HG2.out Try.underlying34 rfl HYI.out ?_))
          refine (HMK.out W2 HR2.out).mono ?_
          rintro e w3 ⟨v3, rfl, ho, hb⟩
          obtain ⟨A3, c3, rfl, hc3, hr3⟩ := ho.reads
          obtain ⟨ad3, rfl, -⟩ := hr3.2.2 HPOS.out
          have HR3 := Lib.hid hr3
          have HB3 := Lib.hid (below_step' HB2.out hb)
          have HO3 := Lib.hid (HO2.out.below hb)
          clear ho hb hr3 hW1 hW2 hcc hff hzz h1
          go_wp2_with (at_builtin; refine appBuf (w0 := w) w.heap.size rfl (.tmp 49) (.tmp 50) rfl _ (allR s (l.take k)) bb ad3 bb.length c3 rfl rfl rfl HPOS.out HO3.out HR3.out HB3.out HB3.out.size (by have := HLB.out; omega) ?_; intro A4 c4 w4 hbuf hbel _; have HO4 := Lib.hid hbuf; have HB4 := Lib.hid hbel; clear hbuf hbel)
          go_roundw
          case rel => exact ⟨k + 1, by omega, by go_num, Lib.hid (by rw [HEQ.out]; have h := HO4.out; rwa [List.length_append] at h), HB4⟩
          case measure => simp [intOf]; omega
        · obtain rfl : k = l.length := by omega
          have HL2 := Lib.hid (show (allR s l).length ≤ 1763000000 from by have h := HLE.out l.length; rwa [List.take_length] at h)
          have HO2 := Lib.hid (show Buf wr w.heap.size u7 (allR s l) from by have h := HO.out; rwa [List.take_length] at h)
          have HCL := Lib.hid (show (cmtR t l.length (allR s l).length).length = 29 from cmt_len (by omega) (by have := HL2.out; omega))
          obtain ⟨X, hX0⟩ : ∃ X, recC 6 t z32 ⟨#[]⟩ none 0 0 (l.length : Int) ((allR s l).length : Int) = X := ⟨_, rfl⟩
          have hX : RecF X 6 t z32 ⟨#[]⟩ none ([] : List UInt8).length 0 (l.length : Int) ((allR s l).length : Int) := hX0 ▸ recF rfl
          have HMK := Lib.hid (fun W => (show Calls Try.prog 38 #[.agg (cArr ((s : Int) + (l.length : Int)) (l.length : Int) ((allR s l).length : Int))] W (MadeE W (cmtR t l.length (allR s l).length) 0) from by
            have h := refmake_any X 6 t z32 ⟨#[]⟩ none [] 0 (l.length : Int) ((allR s l).length : Int) W hX (Rd.nil W) (by omega) (by decide)
            rw [show rightE 6 ([] : List UInt8).length (⟨#[]⟩ : ByteArray).data.toList (l.length : Int) ((allR s l).length : Int) = 0 from cmt_right (by omega) (by have := HL2.out; omega)] at h
            rw [← hX0, show recC 6 t z32 ⟨#[]⟩ none 0 0 (l.length : Int) ((allR s l).length : Int) = cArr (t : Int) (l.length : Int) ((allR s l).length : Int) from rfl, HTI.out] at h
            exact h))
          have HB0 := Lib.hid (show batB s l = allR s l ++ cmtR t l.length (allR s l).length from by rw [HBB.out 0 HE.out, if_pos rfl, HTK.out])
          have HN0 := Lib.hid (show batN s l = t + 1 from by rw [HBN.out 0 HE.out, if_pos rfl, HTK.out])
          clear hX hX0 HO
          generalize cmtR t l.length (allR s l).length = cb at *
          generalize allR s l = xs at *
          obtain ⟨A1, c1, rfl, -, -⟩ := HO2.out.reads
          go_wp2_with fail
          have HB3 := HB
          have HO3 := HO2
          refine (HMK.out _).mono ?_
          rintro e w4 ⟨v4, rfl, ho, hb⟩
          obtain ⟨A4, c4, rfl, hc4, hr4⟩ := ho.reads
          obtain ⟨ad4, rfl, -⟩ := hr4.2.2 (by rw [HCL.out]; decide)
          have HR4 := Lib.hid hr4
          have HB4 := Lib.hid (below_step' HB3.out hb)
          have HO4 := Lib.hid (HO3.out.below hb)
          clear ho hb hr4
          go_wp2_with (at_builtin; refine appBuf (w0 := w) w.heap.size rfl (.tmp 66) (.tmp 67) rfl _ xs cb ad4 cb.length c4 rfl rfl rfl (by rw [HCL.out]; decide) HO4.out HR4.out HB4.out HB4.out.size (by have := HL2.out; rw [HCL.out]; omega) ?_; intro A5 c5 w5 hbuf hbel _; have HO5 := Lib.hid hbuf; have HB5 := Lib.hid hbel; clear hbuf hbel)
          go_ret3
          rw [HDF.out]
          refine ⟨_, by rw [HN0.out, HE.out, show ((t + 1 : Nat) : Int) = (s : Int) + (l.length : Int) + 1 from by have := HTI.out; omega]; rfl, by rw [HB0.out]; have h := HO5.out; rw [List.length_append] at h; exact h, HB5.out⟩
  · have hne : ((we : Int) != 0) = true := bne_iff_ne.2 (by omega)
    have HE := Lib.hid (show batE s l = we from by rw [HE0.out we rfl, if_pos hwe])
    have HWE := Lib.hid hwe
    clear hwe
    go_enter Try.func24, Try.ntmps24
    go_wp2_with fail
    refine HWR.out.mono ?_
    rintro e w2 ⟨rfl, hb⟩
    have HW2 := Lib.hid (HWA.out w2 (HR.out.below hb))
    have HB1 := Lib.hid hb
    clear hb
    go_wp2_with fail
    refine HW2.out.mono ?_
    rintro e w3 ⟨rfl, hb⟩
    have HB2 := Lib.hid (below_step' HB1.out hb)
    clear hb
    go_wp2_with fail
    go_ret3
    rw [HDF.out]
    refine ⟨_, by rw [HBN.out we HE.out, HE.out, if_neg HWE.out]; rfl, by rw [HBB.out we HE.out, if_neg HWE.out]; exact Buf.nil _ _, HB2.out⟩
end Go.Proofs.Ytdkadeihhgjiaaa.Bt
/- batches: the walk of Size. -/
set_option linter.unusedVariables false
set_option linter.unusedSimpArgs false
namespace Go.Proofs.Ytdkadeihhgjiaaa.Bt
open Go.RowKit Go.Proofs.YtdkadeihhgjiaaaW.PrintWords Go.Proofs.Ytdkadeihhgjiaaa.B Go.Proofs.Ytdkadeihhgjiaaa.Fx Go.Proofs.Ytdkadeihhgjiaaa.Fr Go.Proofs.Ytdkadeihhgjiaaa.O Go.Proofs.Ytdkadeihhgjiaaa.Rc
def sizL (l : List RecV) : Nat := if wrongE l = 0 then 29 + (allR 0 l).length else 0
set_option maxRecDepth 100000 in
set_option maxHeartbeats 3200000 in
theorem bsize_any (A : Option Addr) (c : Nat) (l : List RecV) (w : World) (hr : RdR w A l) (hm : ms mRec l ≤ 1048576) :
    Calls Try.prog 22 #[.slice A l.length c] w (Kept (.int .i64 (sizL l)) w) := by
  have hd := hr.d32
  have h39 := ms_ge l hd
  have hlen : l.length ≤ 26886 := by unfold ms at hm; omega
  have HR := Lib.hid hr
  have HWR := Lib.hid (wrong_any A c l w hr (fun k => by have := nm_le l k; omega))
  have HNM := Lib.hid (fun k => (show (vN (rc l k)).size ≤ 140737488355328 from by have := nm_le l k; omega))
  have HLE := Lib.hid (fun k => (show (allR 0 (l.take k)).length ≤ 1763000000 from by
    have h1 := allR_le (l.take k) 0 (fun x hx => hd x (List.mem_of_mem_take hx))
    rw [List.length_take] at h1
    have h2 := Nat.min_le_right k l.length
    omega))
  have HE0 := Lib.hid (show ∀ we, wrongE l = we → sizL l = if we = 0 then 29 + (allR 0 l).length else 0 from fun we h => by unfold sizL; rw [h])
  clear hr hd h39 hm
  generalize wrongE l = we at *
  by_cases hwe : we = 0
  · subst hwe
    obtain ⟨X, hX0⟩ : ∃ X, recC 6 0 z32 ⟨#[]⟩ none 0 0 0 0 = X := ⟨_, rfl⟩
    have hX : RecF X 6 0 z32 ⟨#[]⟩ none ([] : List UInt8).length 0 0 0 := hX0 ▸ recF rfl
    have HCM := Lib.hid (fun W => hX0 ▸ commit_any 0 0 0 W)
    have HSC := Lib.hid (fun W => (show Calls Try.prog 21 #[.agg X] W (Kept (.int .i64 29) W) from by
      have h := size_any X 6 0 z32 ⟨#[]⟩ none [] 0 0 0 W hX (Rd.nil W) (by decide) (by decide)
      rw [show (makeR 6 0 z32 (⟨#[]⟩ : ByteArray).data.toList [] 0 0).length = 29 from cmt_len (s := 0) (n := 0) (z := 0) (by omega) (by omega)] at h
      exact h))
    clear hX hX0
    go_enter Try.func22, Try.ntmps22
    go_wp2_with fail
    refine HWR.out.mono ?_
    rintro e w2 ⟨rfl, hb⟩
    have HB2 := Lib.hid hb
    clear hb
    go_wp2_with fail
    refine (HCM.out _).mono ?_
    rintro e w3 ⟨rfl, hb⟩
    have HB3 := Lib.hid (below_step' HB2.out hb)
    clear hb
    go_wp2_with fail
    refine (HSC.out _).mono ?_
    rintro e w4 ⟨rfl, hb⟩
    have HB4 := Lib.hid (below_step' HB3.out hb)
    clear hb
    go_wp2_with fail
    go_loopw [3, 13] (fun n i wr => ∃ k m : Nat, k ≤ l.length ∧ i = .int .i64 k ∧ n = .int .i64 m ∧ m ≤ 1763000029 ∧ Hid (m = 29 + (allR 0 (l.take k)).length) ∧ Hid (Below w.heap.size w wr)) (fun _ i _ => l.length - (intOf i).toNat)
    case atStart => exact ⟨0, 29, by omega, rfl, rfl, by omega, Lib.hid rfl, HB4⟩
    case round =>
      obtain ⟨k, m, hk, rfl, rfl, hmb, HM, HB⟩ := hrel
      by_cases hlt : k < l.length
      · obtain ⟨ad, X, A2, c2, rfl, hX, -, hr2, c0, hrP, HP0⟩ := (HR.out.below HB.out).walk k hlt
        have HI := Lib.hid hX.info
        have HIL := Lib.hid hX.infoL
        have HSZ := Lib.hid (show zRec.size = X.size by rw [hX.size]; rfl)
        have HONE := Lib.hid hX.one
        have HEQ := Lib.hid (show (allR 0 (l.take (k + 1))).length = (allR 0 (l.take k)).length + (bR (rc l k).2.1.toNat (rc l k)).length from by rw [allR_take 0 hlt, List.length_append, bR_len, bR_len (rc l k).2.1.toNat])
        have HLB := Lib.hid (HLE.out (k + 1))
        rw [HEQ.out] at HLB
        have HSE := Lib.hid (fun W (h : Rd W A2 (vL (rc l k))) => (show Calls Try.prog 21 #[.agg X] W (Kept (.int .i64 (bR (rc l k).2.1.toNat (rc l k)).length) W) from size_any X _ _ _ _ A2 _ c2 _ _ W hX h (rc l k).2.1.toNat_lt (HNM.out k)))
        obtain ⟨W1, hW1⟩ : ∃ W, wr.alloc (.cells X 34) = W := ⟨_, rfl⟩
        have HG1 := Lib.hid (show W1.heap[wr.heap.size]? = some (.cells X 34 (0, 0)) from hW1 ▸ blk_new wr _)
        have HB1 := Lib.hid (show Below w.heap.size w W1 from hW1 ▸ below_alloc HB.out (.cells X 34))
        have HR2 := Lib.hid (show Rd W1 A2 (vL (rc l k)) from hr2.below (hW1 ▸ below_alloc (Below.refl _ _) _))
        clear hX hr2 c0
        obtain ⟨bn, hbn⟩ : ∃ bn, (bR (rc l k).2.1.toNat (rc l k)).length = bn := ⟨_, rfl⟩
        rw [hbn] at HEQ HLB
        simp only [hbn] at HSE
        clear hbn
        have HMB := Lib.hid (show m + bn ≤ 1763000029 from by have h1 := HM.out; have h2 := HLB.out; omega)
        have hbn2 : bn ≤ 1763000029 := by have := HMB.out; omega
        go_wp2_with (first | (refine wpList_load_mid rfl 34 (.tmp 15) rfl _ _ HP0.out X.toList _ hrP Try.underlying34 rfl HIL.out ?_) | (refine wpList_box rfl rfl 34 _ _ rfl rfl X zRec zeroRec rfl rfl HSZ.out HI.out HONE.out ?_; rw [hW1]) | (refine wpList_load_row rfl 34 (.tmp 5) rfl wr.heap.size rfl 34 X (0, 0) _ HG1.out Try.underlying34 rfl HI.out ?_))
        refine (HSE.out _ HR2.out).mono ?_
        rintro e w5 ⟨rfl, hb⟩
        have HB5 := Lib.hid (below_step' HB1.out hb)
        clear hb hW1
        go_wp2_with fail
        go_roundw
        case rel => exact ⟨k + 1, m + bn, by omega, by go_num, by go_num, HMB.out, Lib.hid (by rw [HEQ.out]; have := HM.out; omega), HB5⟩
        case measure => simp [intOf]; omega
      · obtain rfl : k = l.length := by omega
        have HS := Lib.hid (show sizL l = m from by rw [HE0.out 0 rfl, if_pos rfl, HM.out, List.take_length])
        go_wp2_with fail
        go_ret
        exact ⟨ret_eq (by rw [HS.out]; rfl), HB.out⟩
  · have hne : ((we : Int) != 0) = true := bne_iff_ne.2 (by omega)
    have HE := Lib.hid (show sizL l = 0 from by rw [HE0.out we rfl, if_neg hwe])
    clear hwe
    go_enter Try.func22, Try.ntmps22
    go_wp2_with fail
    refine HWR.out.mono ?_
    rintro e w2 ⟨rfl, hb⟩
    have HB2 := Lib.hid hb
    clear hb
    go_wp2_with fail
    go_ret
    exact ⟨ret_eq (by rw [HE.out]; rfl), HB2.out⟩
end Go.Proofs.Ytdkadeihhgjiaaa.Bt
