/- law15: BatchBack. -/
import Derived.Test.YtceldlijbehkdaaBtLiv
import Derived.Test.YtceldlijbehkdaaRcRWord
set_option linter.unusedVariables false
set_option linter.unusedSimpArgs false
namespace Go.Proofs.Ytceldlijbehkdaa.Bt
open Go.RowKit Go.Proofs.YtceldlijbehkdaaW.PrintWords Go.Proofs.Ytceldlijbehkdaa.B Go.Proofs.Ytceldlijbehkdaa.Fx Go.Proofs.Ytceldlijbehkdaa.Fr Go.Proofs.Ytceldlijbehkdaa.O Go.Proofs.Ytceldlijbehkdaa.Rc
abbrev ArT : Type := List RecV × UInt64 × List UInt8 × List UInt8
def kAr : Kd ArT := Kd.pair (Kd.slice 27 kRec) (Kd.pair O.u64 (Kd.pair (Kd.slice 5 u8) (Kd.slice 5 u8)))
def mAr (x : ArT) : Nat := ms mRec x.1 + (mu x.2.1 + (ms mB x.2.2.1 + ms mB x.2.2.2)) + 1
theorem opnL : Opn Try.prog 53 (Kd.slice 27 kRec) (ms mRec) := opn_slice Try.underlying53 (by kernel_rfl) opnRec
theorem opnAr : Opn Try.prog 61 kAr mAr :=
  opn_struct Try.underlying61 (by kernel_rfl) (opnF_cons rfl opnL (opnF_cons rfl (show Opn Try.prog 23 O.u64 mu from opn_u64 Try.underlying23 (by kernel_rfl)) (opnF_cons rfl opnB (opnF_one rfl opnB))))
theorem kAr_cells {w : World} {x : ArT} {cs : Array Value} (h : kAr.K w x cs.toList) :
    ∃ A c A2 c2 A3 c3, cs = #[.slice A x.1.length c, .int .u64 x.2.1.toNat, .slice A2 x.2.2.1.length c2, .slice A3 x.2.2.2.length c3] ∧ RdR w A x.1 ∧ x.1.length ≤ c ∧ Rd w A2 x.2.2.1 ∧ x.2.2.1.length ≤ c2 ∧ Rd w A3 x.2.2.2 ∧ x.2.2.2.length ≤ c3 := by
  obtain ⟨c0, r0, e0, ⟨A, c, h0, hc, hr⟩, c1, r1, rfl, h1, c2, r2, rfl, ⟨A2, k2, h2, hc2, hr2⟩, ⟨A3, k3, h3, hc3, hr3⟩⟩ := h
  refine ⟨A, c, A2, k2, A3, k3, ?_, hr, hc, hr2, hc2, hr3, hc3⟩
  apply Array.ext'
  rw [e0, h0, show c1 = [_] from h1, h2, h3]
  rfl
theorem rd_bare {k : Int} {w : World} {A : Option Addr} {l : List UInt8} (h : Rd w A l) : Rd w (AB k A) (lB k l) := by
  unfold AB lB
  split
  · exact h
  · exact Rd.nil w
/-- a bare record has the bytes of the record -/
theorem bare_len {x : RecV} (s : Nat) (h : eR x = 0) : (makeR (vK x) s (dB (vK x) (vD x)) (nmB (vK x) (vN x)).data.toList (lB (vK x) (vL x)) (nB (vK x) (vC x)) (zB (vK x) (vZ x))).length = (bR s x).length := by
  unfold bR
  unfold eR at h
  generalize vK x = k at *
  generalize vD x = d at *
  generalize vN x = nm at *
  generalize vL x = l at *
  generalize vC x = n at *
  generalize vZ x = z at *
  have h2 := right_bare h
  unfold makeR
  rw [if_pos h, if_pos h2]
  rcases right_in h with ⟨rfl, q⟩ | ⟨rfl, q⟩ | ⟨rfl, q⟩ | ⟨rfl, q⟩ | rfl | ⟨rfl, q⟩ | ⟨rfl, q⟩ | ⟨rfl, q⟩ <;> rfl
theorem nm_bare {k : Int} {nm : ByteArray} (h : nm.size ≤ 140737488355328) : (nmB k nm).size ≤ 140737488355328 := by
  unfold nmB
  split
  · exact h
  · decide
theorem lB_le (k : Int) (l : List UInt8) : (lB k l).length ≤ l.length := by
  unfold lB
  split
  · exact Nat.le_refl _
  · simp
theorem zB_in (k : Int) {z : Int} (h : -9223372036854775808 ≤ z ∧ z ≤ 9223372036854775807) : -9223372036854775808 ≤ zB k z ∧ zB k z ≤ 9223372036854775807 := by
  unfold zB
  split
  · exact h
  · omega
theorem i64_b (x : Int64) : -9223372036854775808 ≤ x.toInt ∧ x.toInt ≤ 9223372036854775807 := by
  have h1 := x.le_toInt; have h2 := x.toInt_lt; omega
set_option maxRecDepth 100000 in
set_option maxHeartbeats 6400000 in
theorem bback_any (cs : Array Value) (x : ArT) (sg : Int) (w : World) (hK : kAr.K w x cs.toList) (hm : mAr x ≤ 1048576) (hsg : -9223372036854775808 ≤ sg ∧ sg ≤ 9223372036854775807) :
    Calls Try.prog 8 #[.agg cs, .int .i64 sg] w (Kept (.bool true) w) := by
  obtain ⟨A, c, A2, c2, A3, c3, rfl, hr, hc, hr2, hc2, hr3, hc3⟩ := kAr_cells hK
  obtain ⟨l, q, ah, tl⟩ := x
  simp only at hr hc hr2 hc2 hr3 hc3 hK ⊢
  have hs : q.toNat < 18446744073709551616 := q.toNat_lt
  unfold mAr at hm
  simp only at hm
  have hma := ms_len (m := mB) (fun _ => Nat.le_refl 1) ah
  have hmt := ms_len (m := mB) (fun _ => Nat.le_refl 1) tl
  have hm1 : ms mRec l ≤ 1048576 := by omega
  have hla : ah.length ≤ 1048576 := by omega
  have hlt : tl.length ≤ 1048576 := by omega
  clear hm hma hmt hK
  generalize q.toNat = s at *
  have hd := hr.d32
  have h39 := ms_ge l hd
  have hlen : l.length ≤ 26886 := by unfold ms at hm1; omega
  have hal := allR_le l s hd
  have hbl : (batB s l).length ≤ 1763000029 := by
    unfold batB
    split
    · rw [List.length_append, cmt_len (by omega) (by omega)]; omega
    · simp
  obtain ⟨w1, hw1⟩ : ∃ w1, w.alloc (.cells #[.slice A l.length c, .int .u64 s, .slice A2 ah.length c2, .slice A3 tl.length c3] 61) = w1 := ⟨_, rfl⟩
  have HG := Lib.hid (show w1.heap[w.heap.size]? = some (.cells #[.slice A l.length c, .int .u64 s, .slice A2 ah.length c2, .slice A3 tl.length c3] 61 (0, 0)) from hw1 ▸ blk_new w _)
  have hb1 : Below w.heap.size w w1 := hw1 ▸ below_alloc (Below.refl _ _) _
  have HB1 := Lib.hid hb1
  have HR := Lib.hid (hr.below hb1)
  have HR2 := Lib.hid (hr2.below hb1)
  have HR3 := Lib.hid (hr3.below hb1)
  have HM1 := Lib.hid (bmake_any s A c l w1 HR.out hs hm1)
  have HLV := Lib.hid (fun W => blives_any W)
  have HPB := Lib.hid (fun (h : batE s l = 0) (all : List UInt8) (ha : all = ah ++ batB s l ++ tl) => par_back (s := s) (l := l) (a := ah) (t := tl) sg h hd (by omega) (by omega) ha)
  have HOK := Lib.hid (fun h : batE s l = 0 => bat_ok h)
  have HNX := Lib.hid (fun h : batE s l = 0 => (show batN s l = s + l.length + 1 from by unfold batN; rw [if_pos h]))
  have HD := Lib.hid hd
  have HNM := Lib.hid (fun k => (show (vN (rc l k)).size ≤ 140737488355328 from by have := nm_le l k; omega))
  have HEO := Lib.hid (fun h : wrongE l = 0 => eR_of h)
  have HAK := Lib.hid (fun k => (show (allR s (l.take k)).length ≤ 1763000000 from by
    have h1 := allR_le (l.take k) s (fun x hx => hd x (List.mem_of_mem_take hx))
    rw [List.length_take] at h1
    have h2 := Nat.min_le_right k l.length
    omega))
  unfold BMade at HM1
  clear hr hr2 hr3 hd h39 hal hb1 hm1
  generalize batB s l = bb at *
  generalize batN s l = bn at *
  generalize batE s l = be at *
  have hcc := fun i => blk_cell HG.out i
  go_enter Try.func8, Try.ntmps8
  go_wp2_with fail
  try rw [hw1]
  refine HM1.out.mono ?_
  rintro e w2 ⟨v2, rfl, ho, hb⟩
  obtain ⟨Ab, cb, rfl, hcb, hrb⟩ := ho.reads
  have HG2 := Lib.hid (blk_below HG.out hb)
  have HB2 := Lib.hid (below_step' HB1.out hb)
  have HRB := Lib.hid hrb
  have HRA2 := Lib.hid (HR.out.below hb)
  have HR22 := Lib.hid (HR2.out.below hb)
  have HR32 := Lib.hid (HR3.out.below hb)
  clear ho hb hrb hcc hw1
  by_cases hbe : be = 0
  · have q0 : ((be : Int) != 0) = false := by simp [hbe]
    obtain ⟨ok1, ok2⟩ := HOK.out hbe
    have HEO2 := Lib.hid (HEO.out ok1)
    have HNX2 := Lib.hid (HNX.out hbe)
    have HPA := Lib.hid (HPB.out hbe (ah ++ bb ++ tl) rfl)
    clear HOK HNX HPB HEO ok1 hbe
    obtain ⟨all, hall⟩ : ∃ all, ah ++ bb ++ tl = all := ⟨_, rfl⟩
    have hlall : all.length = ah.length + bb.length + tl.length := by rw [← hall, List.length_append, List.length_append]
    have HALL := Lib.hid hall
    have hlal : all.length ≤ 1766000000 := by omega
    clear hlall
    have hl1 : ([] : List UInt8).length + ah.length ≤ 140737488355328 := by simp; omega
    have hl2 : ah.length + bb.length ≤ 140737488355328 := by omega
    have hl3 : (ah ++ bb).length + tl.length ≤ 140737488355328 := by simp; omega
    clear hall
    have HS := Lib.hid (fun (W : World) (h : Below w2.heap.size w2 W) => (show W.cell? ⟨w.heap.size, 2, none⟩ = some (.slice A2 ah.length c2) ∧ W.cell? ⟨w.heap.size, 3, none⟩ = some (.slice A3 tl.length c3) ∧ Below w2.heap.size w2 W from
      ⟨blk_cell (blk_below HG2.out h) 2, blk_cell (blk_below HG2.out h) 3, h⟩))
    have hs0 := HS.out _ (below_drew (W := w2) (Below.refl w2.heap.size w2))
    have hq0 : Below w2.heap.size w2 (w2.alloc (.cells #[] 5)).drew := below_drew (below_alloc (Below.refl _ _) _)
    have HE0 := Lib.hid (show Own (w2.alloc (.cells #[] 5)).drew w2.heap.size (.slice (some ⟨w2.heap.size, 0, none⟩) 0 0) [] from Kd.R_drew (own_lit w2 w2.heap.size (Nat.le_refl _) [] _ rfl (by simp)))
    have HR2q := Lib.hid (HR22.out.below hq0)
    have hcc := fun i => blk_cell HG2.out i
    go_wp2_with fail
    clear hcc
    go_region_held3 (fun W => W.cell? ⟨w.heap.size, 2, none⟩ = some (.slice A2 ah.length c2) ∧ W.cell? ⟨w.heap.size, 3, none⟩ = some (.slice A3 tl.length c3) ∧ Below w2.heap.size w2 W) (first | assumption | exact HS.out _ (by assumption) | exact HS.out _ (below_alloc (And.right (And.right ‹_›)) _))
      (first
        | ((refine appRowS (w0 := w2) w2.heap.size (by rfl) (.tmp 28) (.tmp 30) (by rfl) _ [] ah A2 ah.length c2 (by rfl) (by rfl) (by rfl) HE0.out HR2q.out hq0 hq0.size hl1 ?_; intro v3 w3 hown1 hb1 _ _; rw [List.nil_append] at hown1; have HO1 := Lib.hid hown1; clear hown1))
        | ((refine appRowS (w0 := w2) w2.heap.size (by rfl) (.tmp 31) (.tmp 32) (by rfl) v3 ah bb Ab bb.length cb (by rfl) (by rfl) (by rfl) HO1.out (HRB.out.below hb1) hb1 hb1.size hl2 ?_; intro v4 w4 hown3 hb3 _ _; have HO3 := Lib.hid hown3; clear hown3))
        | ((refine appRowS (w0 := w2) w2.heap.size (by rfl) (.tmp 33) (.tmp 35) (by rfl) v4 (ah ++ bb) tl A3 tl.length c3 (by rfl) (by rfl) (by rfl) HO3.out (HR32.out.below hb3) hb3 hb3.size hl3 ?_; intro v5 w5 hown5 hb5 _ _; have HO5 := Lib.hid hown5; clear hown5))
        | fail)
    have HB5 := Lib.hid (below_step' HB2.out hb5)
    have HG5 := Lib.hid (blk_below HG2.out hb5)
    have HRA5 := Lib.hid (HRA2.out.below hb5)
    obtain ⟨A5, c5, rfl, hc5, hr5⟩ := HO5.out.reads
    have HR5 := Lib.hid hr5
    obtain ⟨t, ht⟩ : ∃ t, s + l.length = t := ⟨_, rfl⟩
    obtain ⟨ws, hws⟩ : ∃ ws, wordsL sg s ah.length l = ws := ⟨_, rfl⟩
    have hwl : ws.length = l.length := by rw [← hws]; exact wordsL_len sg l s ah.length
    have HWG := Lib.hid (fun k (h : k < l.length) => (show wd ws k = wdB sg (s + k) (ah.length + (allR s (l.take k)).length) (rc l k) from by rw [← hws]; exact wordsL_get sg l s ah.length k h))
    have htb : t < 18446744073709551615 := by omega
    have hbn := HNX2.out
    rw [ht] at hbn
    rw [hbn]
    have hw9 : IntKind.u64.wrap ((t : Int) + 1 - 1) = (t : Int) := by rw [Int.add_sub_cancel]; exact IntWalk.u64_in _ (by omega)
    have HPC := Lib.hid (show Calls Try.prog 33 #[.slice A5 all.length c5, .int .i64 ah.length, .int .i64 sg] w5 (BParsed (ws, ((ah.length + bb.length : Nat) : Int), t, 0) w5) from by
      have h := bparse_any A5 c5 all ah.length sg w5 (by omega) (by rw [← HALL.out]; exact hc5) (by rw [← HALL.out]; exact HR5.out) (by omega)
      have hpa := HPA.out
      rw [HALL.out, hws, ht] at hpa
      rw [hpa] at h
      exact h)
    rw [HALL.out]
    have HTS := Lib.hid ht
    have HWL := Lib.hid hwl
    unfold BParsed at HPC
    clear HPA ht hws hbn HNX2 hb5 hr5 hc5 hwl HO5
    have hcc := fun i => blk_cell HG5.out i
    go_wp2_with fail
    refine HPC.out.mono ?_
    rintro e w6 ⟨v6, rfl, ho, hb⟩
    obtain ⟨A6, c6, rfl, hc6, hr6⟩ := ho.reads
    have HB6 := Lib.hid (below_step' HB5.out hb)
    have HG6 := Lib.hid (blk_below HG5.out hb)
    have HRA6 := Lib.hid (HRA5.out.below hb)
    have HRW := Lib.hid hr6
    clear ho hb hr6 hcc hc6
    rw [HWL.out]
    have hcc := fun i => blk_cell HG6.out i
    go_wp2_with fail
    clear hcc hw9
    go_loopw [13, 14] (fun p i wr => ∃ k m : Nat, k ≤ l.length ∧ p = .int .i64 m ∧ i = .int .i64 k ∧ m ≤ 1764100000 ∧ Hid (m = ah.length + (allR s (l.take k)).length) ∧ Hid (Below w6.heap.size w6 wr)) (fun _ i _ => l.length - (intOf i).toNat)
    case atStart => exact ⟨0, ah.length, by omega, rfl, rfl, by omega, Lib.hid (by simp [allR]), Lib.hid (by first | exact Below.refl _ _ | exact below_drew (Below.refl _ _))⟩
    case round =>
      obtain ⟨k, m, hk, rfl, rfl, hmb, HMM, HB⟩ := hrel
      by_cases hlt : k < l.length
      · obtain ⟨ad, X, A7, c7, rfl, hX, -, hr7, c0, hrP, HP0⟩ := (HRA6.out.below HB.out).walk k hlt
        obtain ⟨ad6, XW, rfl, hXW, -, -, hrW, HPW⟩ := (HRW.out.below HB.out).walk k (by rw [HWL.out]; exact hlt)
        rw [HWG.out k hlt, ← HMM.out] at hXW
        have he := HEO2.out _ (rc_mem hlt)
        have hkk := kind_in he
        obtain ⟨u, hu⟩ : ∃ u, s + k = u := ⟨_, rfl⟩
        have HTI := Lib.hid (show (u : Int) = (s : Int) + (k : Int) by omega)
        have hub : u < 18446744073709551615 := by omega
        obtain ⟨sz, hsz⟩ : ∃ sz, (bR s (rc l k)).length = sz := ⟨_, rfl⟩
        have hszu : (bR u (rc l k)).length = sz := by rw [← hsz, bR_len u, bR_len s]
        have HMN := Lib.hid (show m + sz = ah.length + (allR s (l.take (k + 1))).length from by
          rw [allR_take s hlt, List.length_append, hu, hszu, HMM.out, Nat.add_assoc])
        have hmn : m + sz ≤ 1764100000 := by have h1 := HMN.out; have h2 := HAK.out (k + 1); omega
        have HBA := Lib.hid (fun (W : World) => bare_any (vK (rc l k)) X (rc l k).2.1.toNat (vD (rc l k)) (vN (rc l k)) A7 (vL (rc l k)) c7 (vC (rc l k)) (vZ (rc l k)) W hkk hX)
        unfold Bared at HBA
        have hzb := i64_b (rc l k).2.2.2.2.2.2
        have hll := hr7.2.1
        have HRS := Lib.hid (fun (Z : Array Value) (hZ : RecF Z (vK (rc l k)) u (dB (vK (rc l k)) (vD (rc l k))) (nmB (vK (rc l k)) (vN (rc l k))) (AB (vK (rc l k)) A7) (lB (vK (rc l k)) (vL (rc l k))).length (cB (vK (rc l k)) c7) (nB (vK (rc l k)) (vC (rc l k))) (zB (vK (rc l k)) (vZ (rc l k)))) (W : World) (h : Rd W A7 (vL (rc l k))) => (show Calls Try.prog 34 #[.agg Z] W (Kept (.int .i64 sz) W) from by
          have h1 := refsize_any Z _ u _ _ _ _ _ _ _ W hZ (rd_bare h) (by omega) (nm_bare (HNM.out k))
          rw [bare_len u he, hszu] at h1
          exact h1))
        have HRWD := Lib.hid (fun (Z : Array Value) (hZ : RecF Z (vK (rc l k)) u (dB (vK (rc l k)) (vD (rc l k))) (nmB (vK (rc l k)) (vN (rc l k))) (AB (vK (rc l k)) A7) (lB (vK (rc l k)) (vL (rc l k))).length (cB (vK (rc l k)) c7) (nB (vK (rc l k)) (vC (rc l k))) (zB (vK (rc l k)) (vZ (rc l k)))) (W : World) => refword_any (vK (rc l k)) Z u _ _ _ _ _ _ _ sg (m : Int) (sz : Int) W hZ (Nat.le_trans (lB_le _ _) hll) (zB_in _ hzb))
        have HNE := Lib.hid (fun (Y : Array Value) (hY : WordF Y (vK (rc l k)) u (dW (vK (rc l k)) (dB (vK (rc l k)) (vD (rc l k)))) (nmW (vK (rc l k)) (nmB (vK (rc l k)) (vN (rc l k)))) (zW (vK (rc l k)) (lB (vK (rc l k)) (vL (rc l k))).length (zB (vK (rc l k)) (vZ (rc l k)))) sg (m : Int) (sz : Int)) (W : World) => (show (binOp .neq 50 (.agg XW.toArray) (.agg Y)).run Try.prog W = .ok (.bool false) W from by
          obtain ⟨b1, b2, b3⟩ := word_b (k := vK (rc l k)) (d := vD (rc l k)) (l := vL (rc l k)) (nm := vN (rc l k)) (z := vZ (rc l k)) hkk
          rw [b1, b2, b3] at hY
          have hx2 : WordF XW.toArray (vK (rc l k)) u (dW (vK (rc l k)) (vD (rc l k))) (nmW (vK (rc l k)) (vN (rc l k))) (zW (vK (rc l k)) (vL (rc l k)).length (vZ (rc l k))) sg (m : Int) (sz : Int) := by
            have h := hXW
            unfold wdB WdC at h
            simp only at h
            rwa [hu, hszu] at h
          rw [show Y = XW.toArray from hY.eq.trans hx2.eq.symm]
          exact neq_of_eql (word_self hx2 W)))
        have HI := Lib.hid hX.info
        have HIL := Lib.hid hX.infoL
        have HWI := Lib.hid (show (Try.prog.info? 50).map (·.size) = some XW.length from by have h := WordF.info hXW; rwa [List.size_toArray] at h)
        have HGr := Lib.hid (blk_below HG6.out HB.out)
        have HR7 := Lib.hid hr7
        have HRGW := Lib.hid hrW
        have hcc := fun i => blk_cell HGr.out i
        clear hX hXW hr7 c0 hrW he hkk hu hsz hszu hzb hll
        generalize (rc l k).2.1.toNat = s0 at *
        generalize vK (rc l k) = kd at *
        generalize vD (rc l k) = dg at *
        generalize vN (rc l k) = nm at *
        generalize vL (rc l k) = dl at *
        generalize vC (rc l k) = cn at *
        generalize vZ (rc l k) = cz at *
        go_wp2_with (first | (refine wpList_load_mid rfl 27 (.tmp 86) rfl _ _ HP0.out X.toList _ hrP Try.underlying27 rfl HIL.out ?_))
        refine (HBA.out wr).mono ?_
        rintro e w7 ⟨Y, rfl, hY, hb7⟩
        have hyi := hY.info
        have hys : zRec.size = Y.size := by rw [hY.size]; rfl
        have hyo := hY.one
        have h1 := hY.c1
        obtain ⟨W1, hW1⟩ : ∃ W, w7.alloc (.cells Y 27) = W := ⟨_, rfl⟩
        have HY1 := Lib.hid (show W1.heap[w7.heap.size]? = some (.cells Y 27 (0, 0)) from hW1 ▸ blk_new w7 _)
        have hbw : Below w7.heap.size w7 W1 := hW1 ▸ below_alloc (Below.refl _ _) _
        obtain ⟨Z, hZ⟩ : ∃ Z, Y.setIfInBounds 1 (.int .u64 ((s : Int) + (k : Int))) = Z := ⟨_, rfl⟩
        have hZF := hY.setS u
        rw [HTI.out, hZ] at hZF
        have hud := upd_cell HY1.out 1 (.int .u64 ((s : Int) + (k : Int)))
        obtain ⟨W2, hW2⟩ : ∃ W, W1.setCell ⟨w7.heap.size, 1, none⟩ (.int .u64 ((s : Int) + (k : Int))) = W := ⟨_, rfl⟩
        rw [hW2, hZ] at hud
        have hb2 := hud.to (Nat.le_refl _) hbw
        have HZ2 := Lib.hid hud.at_
        have hbr2 := below_step' hb7 hb2
        have HBr2 := Lib.hid hbr2
        have HB2r := Lib.hid (below_step' HB.out hbr2)
        have HR72 := Lib.hid (HR7.out.below hbr2)
        have HRG2 := Lib.hid (range_below HRGW.out hbr2)
        have HGA1 := Lib.hid (blk_below (blk_below HGr.out hb7) hbw)
        have HZI := Lib.hid hZF.info
        have HZL := Lib.hid hZF.infoL
        have HSZ := Lib.hid (HRS.out Z hZF)
        have HWD := Lib.hid (HRWD.out Z hZF)
        have HYI := Lib.hid hyi
        have HYS := Lib.hid hys
        have HYO := Lib.hid hyo
        clear hcc hyi hys hyo hbw hud hb2 hbr2 hZF hY hZ hb7 HRS HRWD
        have hcc := fun i => blk_cell HY1.out i
        have hff := fun i => blk_frozen HY1.out i
        have hzz := blk_lt HY1.out
        have hca := fun i => blk_cell HGA1.out i
        go_wp2_with (first | (refine wpList_box rfl rfl 27 _ _ rfl rfl Y zRec zeroRec rfl rfl HYS.out HYI.out HYO.out ?_; rw [hW1]))
        try rw [hW2]
        clear hcc hff hzz hca h1 hW1 hW2
        have hx0 : Below W2.heap.size W2 W2.drew := below_drew (Below.refl _ _)
        refine wp_region_held_drew (S := fun W => Below W2.heap.size W2 W) (by kernel_rfl) hx0 (fun hHeld => ?_)
        refine wpAnyH_take (i := 0) (v := _) rfl (by kernel_rfl) (by kernel_rfl) (by kernel_rfl) (fun _ _ _ h => h) (Or.inl ⟨by kernel_rfl, fun w _ => by go_simp <;> with_reducible rfl⟩) hHeld ?_
        simp only [List.getElem_toArray, List.getElem_cons_succ, List.getElem_cons_zero, Act.put, List.setIfInBounds_toArray, List.set_cons_zero, List.set_cons_succ]
        refine wpAnyH_take (i := 1) (v := _) rfl (by kernel_rfl) (by kernel_rfl) (by kernel_rfl) (fun _ _ _ h => h) (Or.inl ⟨by kernel_rfl, fun w _ => by go_simp <;> with_reducible rfl⟩) hHeld ?_
        simp only [List.getElem_toArray, List.getElem_cons_succ, List.getElem_cons_zero, Act.put, List.setIfInBounds_toArray, List.set_cons_zero, List.set_cons_succ]
        refine wpAnyH_take (i := 2) (v := .pointer (some (ad6.add (k * 39)))) rfl (by kernel_rfl) (by kernel_rfl) (by kernel_rfl) (fun _ _ _ h => h) (Or.inl ⟨by kernel_rfl, fun W h => by have q0 := hlt; go_simp <;> with_reducible rfl⟩) hHeld ?_
        simp only [List.getElem_toArray, List.getElem_cons_succ, List.getElem_cons_zero, Act.put, List.setIfInBounds_toArray, List.set_cons_zero, List.set_cons_succ]
        refine wpAnyH_take (i := 3) (v := .agg XW.toArray) rfl (by kernel_rfl) (by kernel_rfl) (by kernel_rfl) (fun _ _ _ h => h) (by refine yieldsIf_load_mid (by kernel_rfl) 50 (.tmp 97) rfl (ad6.add (k * 39)).block (ad6.add (k * 39)).off ?_ XW _ (fun W h => range_below HRG2.out h) Try.underlying50 rfl HWI.out; exact HPW.out) hHeld ?_
        simp only [List.getElem_toArray, List.getElem_cons_succ, List.getElem_cons_zero, Act.put, List.setIfInBounds_toArray, List.set_cons_zero, List.set_cons_succ]
        refine wpAnyH_take (i := 4) (v := .agg (Z.toList).toArray) rfl (by kernel_rfl) (by kernel_rfl) (by kernel_rfl) (fun _ _ _ h => h) (yieldsIf_load_mid (by kernel_rfl) 27 _ rfl w7.heap.size 0 rfl (Z.toList) _ (fun W h => range_row (blk_below HZ2.out h)) Try.underlying27 rfl HZL.out) hHeld ?_
        simp only [List.getElem_toArray, List.getElem_cons_succ, List.getElem_cons_zero, Act.put, List.setIfInBounds_toArray, List.set_cons_zero, List.set_cons_succ]
        refine wpAnyH_take (i := 5) (v := _) rfl (by kernel_rfl) (by kernel_rfl) (by kernel_rfl) (fun _ _ _ h => h) (Or.inl ⟨by kernel_rfl, fun w _ => by go_simp <;> with_reducible rfl⟩) hHeld ?_
        simp only [List.getElem_toArray, List.getElem_cons_succ, List.getElem_cons_zero, Act.put, List.setIfInBounds_toArray, List.set_cons_zero, List.set_cons_succ]
        refine wpAnyH_take (i := 6) (v := _) rfl (by kernel_rfl) (by kernel_rfl) (by kernel_rfl) (fun _ _ _ h => h) (Or.inl ⟨by kernel_rfl, fun w _ => by go_simp <;> with_reducible rfl⟩) hHeld ?_
        simp only [List.getElem_toArray, List.getElem_cons_succ, List.getElem_cons_zero, Act.put, List.setIfInBounds_toArray, List.set_cons_zero, List.set_cons_succ]
        refine wpAnyH_take (i := 7) (v := .agg (Z.toList).toArray) rfl (by kernel_rfl) (by kernel_rfl) (by kernel_rfl) (fun _ _ _ h => h) (yieldsIf_load_mid (by kernel_rfl) 27 _ rfl w7.heap.size 0 rfl (Z.toList) _ (fun W h => range_row (blk_below HZ2.out h)) Try.underlying27 rfl HZL.out) hHeld ?_
        simp only [List.getElem_toArray, List.getElem_cons_succ, List.getElem_cons_zero, Act.put, List.setIfInBounds_toArray, List.set_cons_zero, List.set_cons_succ]
        refine wpAnyH_ready (rs := [8]) (by kernel_rfl) (by simp) ?_
        refine AllReadyH.cons rfl (fun K hK => ?_) ?_
        case refine_2 => exact AllReadyH.nil
        go_simp
        refine (HSZ.out _ (HR72.out.below hHeld)).mono ?_
        rintro e x1 ⟨rfl, hb8⟩
        refine hK.out _ _ (below_step' hHeld hb8) (fun hHeld => ?_)
        clear hK K
        try simp only [List.getElem_toArray, List.getElem_cons_succ, List.getElem_cons_zero, Act.put, List.setIfInBounds_toArray, List.set_cons_zero, List.set_cons_succ]
        clear hb8
        refine wpAnyH_take (i := 9) (v := _) rfl (by kernel_rfl) (by kernel_rfl) (by kernel_rfl) (fun _ _ _ h => h) (Or.inl ⟨by kernel_rfl, fun w _ => by go_simp <;> with_reducible rfl⟩) hHeld ?_
        simp only [List.getElem_toArray, List.getElem_cons_succ, List.getElem_cons_zero, Act.put, List.setIfInBounds_toArray, List.set_cons_zero, List.set_cons_succ]
        refine wpAnyH_ready (rs := [10]) (by kernel_rfl) (by simp) ?_
        refine AllReadyH.cons rfl (fun K hK => ?_) ?_
        case refine_2 => exact AllReadyH.nil
        go_simp
        refine (HWD.out _).mono ?_
        rintro e x2 ⟨YW, rfl, hYW, hb9⟩
        have HQE := Lib.hid (HNE.out YW hYW)
        refine hK.out _ _ (below_step' hHeld hb9) (fun hHeld => ?_)
        clear hK K
        try simp only [List.getElem_toArray, List.getElem_cons_succ, List.getElem_cons_zero, Act.put, List.setIfInBounds_toArray, List.set_cons_zero, List.set_cons_succ]
        clear hb9 hYW
        refine wpAnyH_take (i := 11) (v := .bool false) rfl (by kernel_rfl) (by kernel_rfl) (by kernel_rfl) (fun _ _ _ h => h) (yields_eq .neq 50 50 (.tmp 98) (.tmp 105) rfl XW.toArray YW rfl rfl (by kernel_rfl) _ (by kernel_rfl) HQE.out) hHeld ?_
        simp only [List.getElem_toArray, List.getElem_cons_succ, List.getElem_cons_zero, Act.put, List.setIfInBounds_toArray, List.set_cons_zero, List.set_cons_succ]
        refine wpAnyH_done (by kernel_rfl) ?_ _
        have HBX := Lib.hid hHeld
        have HZX := Lib.hid (blk_below HZ2.out hHeld)
        have HR7X := Lib.hid (HR72.out.below hHeld)
        have HB9 := Lib.hid (below_step' HB2r.out hHeld)
        clear hHeld
        go_wp2_with (first | (refine wpList_load_row rfl 27 (.tmp 15) rfl w7.heap.size rfl 27 Z (0, 0) _ HZX.out Try.underlying27 rfl HZI.out ?_))
        refine (HSZ.out _ HR7X.out).mono ?_
        rintro e w9 ⟨rfl, hb⟩
        have HB10 := Lib.hid (below_step' HB9.out hb)
        clear hb
        go_wp2_with fail
        go_roundw
        case rel => exact ⟨k + 1, m + sz, by omega, by go_num, by go_num, by omega, HMN, HB10⟩
        case measure => simp [intOf]; omega
      · obtain rfl : k = l.length := by omega
        go_wp2_with fail
        refine (HLV.out _).mono ?_
        rintro e w8 ⟨rfl, hb⟩
        have HB8 := Lib.hid (below_step' (below_step' HB6.out HB.out) hb)
        clear hb
        go_wp2_with fail
        go_ret
        exact ⟨rfl, HB8.out⟩
  · have q0 : ((be : Int) != 0) = true := bne_iff_ne.2 (by omega)
    clear hbe
    go_wp2_with fail
    refine (HLV.out _).mono ?_
    rintro e w8 ⟨rfl, hb⟩
    have HB8 := Lib.hid (below_step' HB2.out hb)
    clear hb
    go_wp2_with fail
    go_ret
    exact ⟨rfl, HB8.out⟩
end Go.Proofs.Ytceldlijbehkdaa.Bt
