/- law16: SegmentBack. -/
import Derived.Test.YtceldlijbehkdaaSgBkP
set_option linter.unusedVariables false
set_option linter.unusedSimpArgs false
namespace Go.Proofs.Ytceldlijbehkdaa.Sg
open Go.RowKit Go.Proofs.YtceldlijbehkdaaW.PrintWords Go.Proofs.Ytceldlijbehkdaa.B Go.Proofs.Ytceldlijbehkdaa.Fx Go.Proofs.Ytceldlijbehkdaa.Fr Go.Proofs.Ytceldlijbehkdaa.O Go.Proofs.Ytceldlijbehkdaa.Rc Go.Proofs.Ytceldlijbehkdaa.Bt
abbrev WhT : Type := Int64 × UInt64 × List (List RecV) × Bool
def kWh : Kd WhT := Kd.pair O.i64 (Kd.pair O.u64 (Kd.pair (Kd.slice 53 (Kd.slice 27 kRec)) Kd.bool))
def mb (x : Bool) : Nat := 1
def mWh (x : WhT) : Nat := mi x.1 + (mu x.2.1 + (ms (ms mRec) x.2.2.1 + mb x.2.2.2)) + 1
theorem opnLs : Opn Try.prog 71 (Kd.slice 53 (Kd.slice 27 kRec)) (ms (ms mRec)) := opn_slice Try.underlying71 (by kernel_rfl) (opn_slice Try.underlying53 (by kernel_rfl) opnRec)
theorem opnWh : Opn Try.prog 73 kWh mWh :=
  opn_struct Try.underlying73 (by kernel_rfl) (opnF_cons rfl (show Opn Try.prog 3 O.i64 mi from opn_i64 Try.underlying3 (by kernel_rfl)) (opnF_cons rfl (show Opn Try.prog 23 O.u64 mu from opn_u64 Try.underlying23 (by kernel_rfl)) (opnF_cons rfl opnLs (opnF_one rfl (show Opn Try.prog 4 Kd.bool mb from opn_bool Try.underlying4 (by kernel_rfl))))))
theorem kWh_cells {w : World} {x : WhT} {cs : Array Value} (h : kWh.K w x cs.toList) :
    ∃ A c, cs = #[.int .i64 x.1.toInt, .int .u64 x.2.1.toNat, .slice A x.2.2.1.length c, .bool x.2.2.2] ∧ RdLL w A x.2.2.1 ∧ x.2.2.1.length ≤ c := by
  obtain ⟨c0, r0, e0, h0, c1, r1, rfl, h1, c2, r2, rfl, ⟨A, c, h2, hc, hr⟩, h3⟩ := h
  refine ⟨A, c, ?_, hr, hc⟩
  apply Array.ext'
  rw [e0, h2, show c0 = [_] from h0, show c1 = [_] from h1, show r2 = [_] from h3]
  rfl
theorem i64_bd (x : Int64) : -9223372036854775808 ≤ x.toInt ∧ x.toInt ≤ 9223372036854775807 := by
  have h1 := x.le_toInt; have h2 := x.toInt_lt; omega
theorem buf_rd {W : World} {base : Nat} {A : Option Addr} {n c : Nat} {l : List UInt8} (h : Buf W base (.slice A n c) l) : Rd W A l := by
  obtain ⟨A', c', e, -, hr⟩ := h.reads
  injection e with e1
  rw [e1]; exact hr
/-! ### lives -/
theorem rd_bare {k : Int} {w : World} {A : Option Addr} {l : List UInt8} (h : Rd w A l) : Rd w (AB k A) (lB k l) := by
  unfold AB lB
  split
  · exact h
  · exact Rd.nil w
theorem lB_le (k : Int) (l : List UInt8) : (lB k l).length ≤ l.length := by
  unfold lB
  split
  · exact Nat.le_refl _
  · simp
theorem dl_le (l : List RecV) (k : Nat) : (vL (rc l k)).length ≤ ms mRec l := by
  by_cases hk : k < l.length
  · have h1 := m_le (rc_mem hk)
    have h2 : (vL (rc l k)).length ≤ mRec (rc l k) := by
      have h3 := ms_len (m := mB) (fun _ => Nat.le_refl 1) (vL (rc l k))
      have h4 : mRec (rc l k) = mi (rc l k).1 + (mu (rc l k).2.1 + (ms mB (rc l k).2.2.1 + (mS (rc l k).2.2.2.1 + (ms mB (vL (rc l k)) + (mi (rc l k).2.2.2.2.2.1 + mi (rc l k).2.2.2.2.2.2))))) + 1 := rfl
      omega
    unfold ms at *; omega
  · rw [show rc l k = (0, 0, [], ⟨#[]⟩, [], 0, 0) by simp [rc, Nat.le_of_not_lt hk]]
    exact Nat.zero_le _
theorem batsN_eq : ∀ (ls : List (List RecV)) (q : Nat), batsN q ls = q + manyL ls + ls.length
  | [], q => by simp [batsN, manyL]
  | l :: t, q => by rw [batsN, batsN_eq t, manyL, List.length_cons]; omega
theorem bld_ok {n : Int} {s : Nat} {ls : List (List RecV)} {sl : Bool} (h : bldE n s ls sl = 0) (hs : s ≤ 1099511627776) :
    rightE 7 0 [] n 0 = 0 ∧ batsE (s + 1) ls = 0 ∧ (sl = true → rightE 8 0 [] (manyL ls) ((headR n s ++ batsB (s + 1) ls).length : Nat) = 0) ∧ bldB n s ls sl = segB n s ls sl := by
  have hm : (s + 1) % 18446744073709551616 = s + 1 := Nat.mod_eq_of_lt (by omega)
  have hB : bldB n s ls sl = segB n s ls sl := by unfold bldB segB; rw [if_pos h, hm]
  unfold bldE at h
  rw [hm] at h
  by_cases h7 : rightE 7 0 [] n 0 = 0
  · rw [if_neg (by simp [h7])] at h
    by_cases h1 : batsE (s + 1) ls = 0
    · rw [if_neg (by simp [h1])] at h
      exact ⟨h7, h1, fun hsl => by rw [if_pos hsl] at h; exact h, hB⟩
    · rw [if_pos h1] at h; exact absurd h h1
  · rw [if_pos h7] at h; exact absurd h h7
theorem seg_le {n : Int} {s : Nat} {ls : List (List RecV)} {sl : Bool} (hd : ∀ l ∈ ls, ∀ x ∈ l, (vD x).length = 32) (hb : 39 * manyL ls + ls.length ≤ 1048575) : (segB n s ls sl).length ≤ 1800000000 := by
  have h1 := batsB_le ls (s + 1) (fun l hl => ⟨hd l hl, by have := mem_le ls l hl; omega⟩)
  have h3 : (headR n s).length ≤ 65557 := makeR_len rfl
  have h4 : ∀ (m z : Int) (q : Nat), (footR m z q).length ≤ 65557 := fun m z q => makeR_len rfl
  unfold segB
  have h5 : (if sl = true then footR (manyL ls) ((headR n s ++ batsB (s + 1) ls).length : Nat) (batsN (s + 1) ls) else []).length ≤ 65557 := by
    split
    · exact h4 _ _ _
    · simp
  generalize (if sl = true then footR (manyL ls) ((headR n s ++ batsB (s + 1) ls).length : Nat) (batsN (s + 1) ls) else []) = ft at *
  rw [List.length_append, List.length_append]
  omega
set_option maxRecDepth 100000 in
set_option maxHeartbeats 6400000 in
theorem wback_any (cs : Array Value) (x : WhT) (w : World) (hK : kWh.K w x cs.toList) (hm : mWh x ≤ 1048576) :
    Calls Try.prog 11 #[.agg cs] w (Kept (.bool true) w) := by
  obtain ⟨A, c, rfl, hr, hc⟩ := kWh_cells hK
  obtain ⟨ni, q, ls, sl⟩ := x
  simp only at hr hc hK ⊢
  have hs : q.toNat < 18446744073709551616 := q.toNat_lt
  have hn := i64_bd ni
  have hm2 : ms (ms mRec) ls ≤ 1048576 := by unfold mWh at hm; simp only at hm; omega
  clear hm hK
  generalize q.toNat = s at *
  generalize ni.toInt = n at *
  have hd := hr.d32
  have hbulk : 39 * manyL ls + ls.length ≤ 1048575 := by
    have h := many_le ls hd
    have h9 : ms (ms mRec) ls = (ls.map (ms mRec)).sum + 1 := rfl
    omega
  obtain ⟨w1, hw1⟩ : ∃ w1, w.alloc (.cells #[.int .i64 n, .int .u64 s, .slice A ls.length c, .bool sl] 73) = w1 := ⟨_, rfl⟩
  have HG := Lib.hid (show w1.heap[w.heap.size]? = some (.cells #[.int .i64 n, .int .u64 s, .slice A ls.length c, .bool sl] 73 (0, 0)) from hw1 ▸ blk_new w _)
  have hb1 : Below w.heap.size w w1 := hw1 ▸ below_alloc (Below.refl _ _) _
  have HB1 := Lib.hid hb1
  have HR := Lib.hid (hr.below hb1)
  have HBU := Lib.hid (build_any n s A c ls sl w1 HR.out hm2 hs hn)
  have HLV := Lib.hid (fun W => slives_any W)
  have HMR := Lib.hid (fun k => ms_row hm2 k)
  have HOK := Lib.hid (fun (h : bldE n s ls sl = 0) (hs : s ≤ 1099511627776) => bld_ok h hs)
  unfold Built at HBU
  clear hr hb1 hm2
  generalize bldB n s ls sl = bb at *
  generalize bldE n s ls sl = be at *
  have hcc := fun i => blk_cell HG.out i
  go_enter Try.func11, Try.ntmps11
  go_wp2_with fail
  try rw [hw1]
  refine HBU.out.mono ?_
  rintro e w2 ⟨v2, rfl, ho, hb⟩
  obtain ⟨Ab, cb, rfl, hcb, hrb⟩ := ho.reads
  have HG2 := Lib.hid (blk_below HG.out hb)
  have HB2 := Lib.hid (below_step' HB1.out hb)
  have HRB := Lib.hid hrb
  have HRA2 := Lib.hid (HR.out.below hb)
  clear ho hb hrb hcc hw1
  have hcc := fun i => blk_cell HG2.out i
  by_cases hbe : be = 0
  · have q0 : ((be : Int) != 0) = false := by simp [hbe]
    by_cases hsq : s ≤ 1099511627776
    · have hgt : ¬ ((1099511627776 : Int) < (s : Int)) := by omega
      obtain ⟨o7, oE, o8, oB⟩ := HOK.out hbe hsq
      subst oB
      have hsb := @seg_back n s ls sl (by omega) o7 oE (fun l hl => ⟨hd l hl, by have := mem_le ls l hl; omega, fun q => by have h1 := allR_le l q (hd l hl); have h2 := mem_le ls l hl; omega⟩) (by rw [batsN_eq]; omega) o8
      obtain ⟨qq, hsc⟩ := hsb
      obtain ⟨tl, htl⟩ : ∃ tl, segB n s ls sl = headR n s ++ batsB (s + 1) ls ++ tl := ⟨_, rfl⟩
      have hle := seg_le (n := n) (s := s) (sl := sl) hd hbulk
      have HPP := Lib.hid (fun (i j : Nat) (hi : i < ls.length) (hj : j < (rl ls i).length) (W : World) (h : Rd W Ab (segB n s ls sl)) => seg_parse oE hd hi hj htl Ab cb W (by omega) hcb h)
      have HRC := Lib.hid (fun (i j : Nat) (hi : i < ls.length) (hj : j < (rl ls i).length) => (show eR (rc (rl ls i) j) = 0 ∧ batsN (s + 1) (ls.take i) + j < 18446744073709551615 from by obtain ⟨h1, h2, -⟩ := seg_rec oE hd hi hj htl; exact ⟨h1, h2⟩))
      have HWG := Lib.hid (fun (i j : Nat) (hi : i < ls.length) (hj : j < (rl ls i).length) => (show wd (batsW n (s + 1) (headR n s).length ls) (manyL (ls.take i) + j) = wdB n (batsN (s + 1) (ls.take i) + j) (offL n s ls i j) (rc (rl ls i) j) from batsW_get n ls (s + 1) (headR n s).length i j hi hj))
      have HOF := Lib.hid (fun (i j : Nat) (hi : i < ls.length) (hj : j < (rl ls i).length) => (show offL n s ls i j + (bR (batsN (s + 1) (ls.take i) + j) (rc (rl ls i) j)).length ≤ 1800000000 from by
        obtain ⟨t, ht⟩ := bats_split oE hi hj
        have h1 := hle
        rw [htl, ht] at h1
        simp only [List.length_append] at h1
        unfold offL; omega))
      have HWL := Lib.hid (batsW_len n ls (s + 1) (headR n s).length)
      have HNX := Lib.hid (fun (i : Nat) (hi : i < ls.length) => batsN_snoc (s + 1) hi)
      have HMS := Lib.hid (fun (i : Nat) (hi : i < ls.length) => manyL_snoc hi)
      have HMT := Lib.hid (fun (i : Nat) => (show manyL (ls.take i) ≤ manyL ls from manyL_take ls i))
      have hmb : manyL ls ≤ 26886 := by omega
      have hlsl : ls.length ≤ 1048575 := by omega
      have HSC := Lib.hid (scan_any Ab cb (segB n s ls sl) n w2 (by omega) hcb HRB.out)
      rw [hsc] at HSC
      unfold Scanned at HSC
      clear hsc o7 oE o8 htl hbe hd hbulk
      generalize segB n s ls sl = bb at *
      generalize batsW n (s + 1) (headR n s).length ls = ws at *
      go_wp2_with fail
      refine HSC.out.mono ?_
      rintro e w3 ⟨v3, rfl, ho, hb⟩
      obtain ⟨A3, c3, rfl, -, hr3⟩ := OwnW.reads ho
      have hrw := hr3
      obtain ⟨w4, hw4⟩ : ∃ W, w3.alloc (.cells #[.slice A3 ws.length c3, .int .u64 qq, .int .i64 bb.length, .bool sl, .int .i64 bb.length, .int .i64 0] 69) = W := ⟨_, rfl⟩
      have hbw : Below w3.heap.size w3 w4 := hw4 ▸ below_alloc (Below.refl _ _) _
      have HG4 := Lib.hid (blk_below (blk_below HG2.out hb) hbw)
      have HS4 := Lib.hid (show w4.heap[w3.heap.size]? = some (.cells #[.slice A3 ws.length c3, .int .u64 qq, .int .i64 bb.length, .bool sl, .int .i64 bb.length, .int .i64 0] 69 (0, 0)) from hw4 ▸ blk_new w3 _)
      have HRA4 := Lib.hid ((HRA2.out.below hb).below hbw)
      have HRB4 := Lib.hid ((HRB.out.below hb).below hbw)
      have HRW4 := Lib.hid (RdW.below hr3 hbw)
      have HB4 := Lib.hid (below_step' (below_step' HB2.out hb) hbw)
      have HONE := Lib.hid (scC_one' (.slice A3 ws.length c3) qq bb.length sl bb.length 0 rfl)
      clear ho hb hr3 hbw hrw hcc
      have hcc := fun i => blk_cell HG4.out i
      have hcs := fun i => blk_cell HS4.out i
      have hsl : (sl != sl) = false := bne_self_eq_false sl
      go_wp2_with (first | (refine wpList_box rfl rfl 69 _ _ rfl rfl #[.slice A3 ws.length c3, .int .u64 qq, .int .i64 bb.length, .bool sl, .int .i64 bb.length, .int .i64 0] #[.slice none 0 0, .int .u64 0, .int .i64 0, .bool false, .int .i64 0, .int .i64 0] zeroSc rfl rfl rfl infoSc HONE.out ?_; rw [hw4]))
      clear hw4 hcc hcs
      go_loopw [6, 7] (fun kk i wr => ∃ i0 m : Nat, i0 ≤ ls.length ∧ i = .int .i64 i0 ∧ kk = .int .i64 m ∧ m ≤ 26886 ∧ Hid (m = manyL (ls.take i0)) ∧ Hid (0 < m → (wd ws (m - 1)).s < batsN (s + 1) (ls.take i0)) ∧ Hid (Below w4.heap.size w4 wr)) (fun _ i _ => ls.length - (intOf i).toNat)
      case atStart => exact ⟨0, 0, by omega, rfl, rfl, by omega, Lib.hid rfl, Lib.hid (fun h => absurd h (by omega)), Lib.hid (by first | exact Below.refl _ _ | exact below_drew (Below.refl _ _))⟩
      case round =>
        obtain ⟨i0, m0, hi0, rfl, rfl, hm0, HM0, HP0, HB⟩ := hrel
        have hcc := fun i => blk_cell (blk_below HG4.out HB.out) i
        have hcs := fun i => blk_cell (blk_below HS4.out HB.out) i
        by_cases hlt : i0 < ls.length
        · obtain ⟨ad, A2, c2, rfl, hc2, hcl, hr2⟩ := HRA4.out.walkB i0 hlt
          have HC := Lib.hid hcl
          have hrlb : (rl ls i0).length ≤ 26886 := Nat.le_trans (row_le i0 hlt) hmb
          have HR2 := Lib.hid hr2
          clear hcl hr2 hc2
          go_wp2_with fail
          clear hcc hcs
          go_loopw [6, 8] (fun kk j wr => ∃ j0 m : Nat, j0 ≤ (rl ls i0).length ∧ j = .int .i64 j0 ∧ kk = .int .i64 m ∧ m ≤ 26886 ∧ Hid (m = manyL (ls.take i0) + j0) ∧ Hid (0 < m → (wd ws (m - 1)).s < batsN (s + 1) (ls.take i0) + j0) ∧ Hid (Below w4.heap.size w4 wr)) (fun _ j _ => (rl ls i0).length - (intOf j).toNat)
          case atStart => exact ⟨0, m0, by omega, rfl, rfl, by omega, HM0, HP0, HB⟩
          case round =>
            clear HM0 HP0 HB hm0
            obtain ⟨j0, m, hj0, rfl, rfl, hmb2, HM, HP, HB⟩ := hrel
            have hrow := HC.out wr HB.out
            have hcc := fun i => blk_cell (blk_below HG4.out HB.out) i
            have hcs := fun i => blk_cell (blk_below HS4.out HB.out) i
            by_cases hjt : j0 < (rl ls i0).length
            · have hmt : m < ws.length := by
                have h1 := HM.out; have h2 := HMS.out i0 hlt; have h3 := HMT.out (i0 + 1); have h4 := HWL.out
                omega
              obtain ⟨ad6, XW, rfl, hXW, -, hw0', hrW, HPW⟩ := (HRW4.out.below HB.out).walk m hmt
              have hwg := HWG.out i0 j0 hlt hjt
              rw [← HM.out] at hwg
              rw [hwg] at hXW hw0'
              obtain ⟨he, hub⟩ := HRC.out i0 j0 hlt hjt
              have hof := HOF.out i0 j0 hlt hjt
              have HPA := Lib.hid (fun W h => HPP.out i0 j0 hlt hjt W h)
              have HPU := Lib.hid (show 0 < m → ∃ pv : Nat, pv < batsN (s + 1) (ls.take i0) + j0 ∧ wr.cell? ⟨(ad6.add ((m - 1) * 39)).block, (ad6.add ((m - 1) * 39)).off + 1, none⟩ = some (.int .u64 pv) from fun h => ⟨_, HP.out h, by
                obtain ⟨ad7, XP, e7, hXP, -, -, hcp, -⟩ := (HRW4.out.below HB.out).walk (m - 1) (by omega)
                injection e7 with e7
                subst e7
                refine hcp 1 _ ?_
                have := WordF.c1 hXP
                simpa using this⟩)
              have HWS := Lib.hid (show (wd ws m).s = batsN (s + 1) (ls.take i0) + j0 from by rw [hwg]; rfl)
              clear hwg
              generalize hu : batsN (s + 1) (ls.take i0) + j0 = u at *
              have HUE := Lib.hid hu
              clear hu
              generalize offL n s ls i0 j0 = off at *
              obtain ⟨ad7, X, A7, c7, rfl, hX, -, hr7, c0, hrP, HPX⟩ := (HR2.out wr HB.out).walk j0 hjt
              have hkk := kind_in he
              obtain ⟨sz, hsz⟩ : ∃ sz, (bR u (rc (rl ls i0) j0)).length = sz := ⟨_, rfl⟩
              have hw0 : wr.cell? (ad6.add (m * 39)) = some (.int .i64 (vK (rc (rl ls i0) j0))) := hw0'
              have hw1 : wr.cell? ⟨(ad6.add (m * 39)).block, (ad6.add (m * 39)).off + 1, none⟩ = some (.int .u64 u) := hrW 1 _ (by have := WordF.c1 hXW; simpa [wdB] using this)
              have hw36 : wr.cell? ⟨(ad6.add (m * 39)).block, (ad6.add (m * 39)).off + 36, none⟩ = some (.int .i64 n) := hrW 36 _ (by have := WordF.c36 hXW; simpa [wdB] using this)
              have hw37 : wr.cell? ⟨(ad6.add (m * 39)).block, (ad6.add (m * 39)).off + 37, none⟩ = some (.int .i64 off) := hrW 37 _ (by have := WordF.c37 hXW; simpa [wdB] using this)
              have hw38 : wr.cell? ⟨(ad6.add (m * 39)).block, (ad6.add (m * 39)).off + 38, none⟩ = some (.int .i64 sz) := hrW 38 _ (by have := WordF.c38 hXW; rw [← hsz]; simpa [wdB] using this)
              rw [hsz] at hof HPA
              have HBA := Lib.hid (fun (W : World) => bare_any (vK (rc (rl ls i0) j0)) X (rc (rl ls i0) j0).2.1.toNat (vD (rc (rl ls i0) j0)) (vN (rc (rl ls i0) j0)) A7 (vL (rc (rl ls i0) j0)) c7 (vC (rc (rl ls i0) j0)) (vZ (rc (rl ls i0) j0)) W hkk hX)
              unfold Bared at HBA
              unfold PRec at HPA
              have hll := hr7.2.1
              have hlb : (lB (vK (rc (rl ls i0) j0)) (vL (rc (rl ls i0) j0))).length ≤ 140737488355328 := by
                have h1 := lB_le (vK (rc (rl ls i0) j0)) (vL (rc (rl ls i0) j0))
                have h2 := dl_le (rl ls i0) j0
                have h3 := HMR.out i0
                omega
              have HIL := Lib.hid hX.infoL
              have HR7 := Lib.hid hr7
              clear hX hXW hw0' hr7 he hsz hrW HPW
              generalize (rc (rl ls i0) j0).2.1.toNat = s0 at *
              generalize vK (rc (rl ls i0) j0) = kd at *
              generalize vD (rc (rl ls i0) j0) = dg at *
              generalize vN (rc (rl ls i0) j0) = nm at *
              generalize vL (rc (rl ls i0) j0) = dl at *
              generalize vC (rc (rl ls i0) j0) = cn at *
              generalize vZ (rc (rl ls i0) j0) = cz at *
              have hmw : m < 26886 := by have := HWL.out; omega
              have hge : decide (ws.length ≤ m) = false := decide_eq_false (by omega)
              have HM1 := Lib.hid (show m + 1 = manyL (ls.take i0) + (j0 + 1) from by have := HM.out; omega)
              have HP1 := Lib.hid (show 0 < m + 1 → (wd ws (m + 1 - 1)).s < batsN (s + 1) (ls.take i0) + (j0 + 1) from fun _ => by rw [Nat.add_sub_cancel, HWS.out]; have := HUE.out; omega)
              clear HM HP HWS HUE
              rcases Nat.eq_zero_or_pos m with hz | hpos
              · have HZ := Lib.hid hz
                have hgt0 : decide (0 < m) = false := decide_eq_false (by omega)
                clear hz HPU
                have HW1 := Lib.hid (fun (W : World) (h : Below wr.heap.size wr W) => (h.cell (lt_of_cell hw1)).trans hw1)
                have HW37 := Lib.hid (fun (W : World) (h : Below wr.heap.size wr W) => (h.cell (lt_of_cell hw37)).trans hw37)
                have HW38 := Lib.hid (fun (W : World) (h : Below wr.heap.size wr W) => (h.cell (lt_of_cell hw38)).trans hw38)
                have HRP := Lib.hid hrP
                go_wp2_with fail
                go_quiet (fail)
                try rw [World.drewN_drewN]
                obtain ⟨w7, hw7⟩ : ∃ W, World.drewN wr nq = W := ⟨_, rfl⟩
                have hb7 : Below wr.heap.size wr w7 := hw7 ▸ pw_below_drewN (Below.refl _ _) nq
                rw [hw7]
                have HB7 := Lib.hid hb7
                clear hw7 hb7 hcc hcs hrow hw0 hw1 hw36 hw37 hw38 c0 hrP hgt0 hge
                try clear hwp hle0 hmi hm1l
                have hcc := fun i => blk_cell (blk_below (blk_below HG4.out HB.out) HB7.out) i
                have hcs := fun i => blk_cell (blk_below (blk_below HS4.out HB.out) HB7.out) i
                have hrow := HC.out w7 (below_step' HB.out HB7.out)
                have hw37 := HW37.out w7 HB7.out
                go_wp2_with fail
                refine (HPA.out w7 (HRB4.out.below (below_step' HB.out HB7.out))).mono ?_
                rintro e w8 ⟨X5, A5, c5, rfl, hX5, hB5, hb⟩
                obtain ⟨w9, hw9⟩ : ∃ w', World.alloc w8 (.cells X5 27) = w' := ⟨_, rfl⟩
                have hbw : Below w8.heap.size w8 w9 := hw9 ▸ below_alloc (Below.refl _ _) _
                have HVI := Lib.hid hX5.info
                have HVZ := Lib.hid (show zRec.size = X5.size from zRecF.size.trans hX5.size.symm)
                have HV1 := Lib.hid hX5.one
                have HVL := Lib.hid hX5.infoL
                have HVF := Lib.hid hX5
                have HVG := Lib.hid (show w9.heap[w8.heap.size]? = some (.cells X5 27 (0, 0)) from hw9 ▸ blk_new w8 _)
                have HB9 := Lib.hid (below_step' (below_step' HB7.out hb) hbw)
                have HRD9 := Lib.hid ((buf_rd hB5).below hbw)
                clear hb hbw hX5 hB5 hcc hcs hrow hw37
                have hcc := fun i => blk_cell (blk_below (blk_below HG4.out HB.out) HB9.out) i
                have hrow := HC.out w9 (below_step' HB.out HB9.out)
                have HRP9 := Lib.hid (range_below HRP.out HB9.out)
                go_wp2_with (first | (refine wpList_box rfl rfl 27 _ _ rfl rfl X5 zRec zeroRec rfl rfl HVZ.out HVI.out HV1.out ?_; rw [hw9]) | (refine wpList_load_mid rfl 27 (.tmp 152) rfl _ _ HPX.out X.toList _ HRP9.out Try.underlying27 rfl HIL.out ?_))
                clear hw9 hcc hrow
                refine (HBA.out w9).mono ?_
                rintro e w10 ⟨Y, rfl, hY, hb10⟩
                have hyi := hY.info
                have hys : zRec.size = Y.size := by rw [hY.size]; rfl
                have hyo := hY.one
                have h1 := hY.c1
                obtain ⟨W1, hW1⟩ : ∃ W, w10.alloc (.cells Y 27) = W := ⟨_, rfl⟩
                have HY1 := Lib.hid (show W1.heap[w10.heap.size]? = some (.cells Y 27 (0, 0)) from hW1 ▸ blk_new w10 _)
                have hbw : Below w10.heap.size w10 W1 := hW1 ▸ below_alloc (Below.refl _ _) _
                obtain ⟨Z, hZ⟩ : ∃ Z, Y.setIfInBounds 1 (.int .u64 (u : Int)) = Z := ⟨_, rfl⟩
                have hZF := hY.setS u
                rw [hZ] at hZF
                have hud := upd_cell HY1.out 1 (.int .u64 (u : Int))
                obtain ⟨W2, hW2⟩ : ∃ W, W1.setCell ⟨w10.heap.size, 1, none⟩ (.int .u64 (u : Int)) = W := ⟨_, rfl⟩
                rw [hW2, hZ] at hud
                have hb2 := hud.to (Nat.le_refl _) hbw
                have HZ2 := Lib.hid hud.at_
                have HBW1 := Lib.hid (below_step' (below_step' HB9.out hb10) hbw)
                have hbr2 := below_step' hb10 hb2
                have HBr2 := Lib.hid hbr2
                have HBW2 := Lib.hid (below_step' HB9.out hbr2)
                have HRDZ := Lib.hid (HRD9.out.below hbr2)
                have HVG2 := Lib.hid (blk_below HVG.out hbr2)
                have HZF := Lib.hid hZF
                have HZL := Lib.hid hZF.infoL
                have HYI := Lib.hid hyi
                have HYS := Lib.hid hys
                have HYO := Lib.hid hyo
                clear hyi hys hyo hbw hud hb2 hbr2 hZF hY hZ hb10
                have hcc := fun i => blk_cell HY1.out i
                have hff := fun i => blk_frozen HY1.out i
                have hzz := blk_lt HY1.out
                have hcs := fun i => blk_cell (blk_below (blk_below HS4.out HB.out) HBW1.out) i
                have hwq := HW1.out W1 HBW1.out
                go_wp2_with (first | (refine wpList_box rfl rfl 27 _ _ rfl rfl Y zRec zeroRec rfl rfl HYS.out HYI.out HYO.out ?_; rw [hW1]))
                try rw [hW2]
                clear hcc hff hzz hcs hwq h1 hW1 hW2
                have hx0 : Below W2.heap.size W2 W2.drew := below_drew (Below.refl _ _)
                have HWB := Lib.hid (fun (W : World) (h : Below W2.heap.size W2 W) => below_step' HBW2.out h)
                have HSM := Lib.hid (fun (W : World) (h : Below W2.heap.size W2 W) => same_yes X5 Z kd u (dB kd dg) (nmB kd nm) A5 (AB kd A7) (lB kd dl) c5 (cB kd c7) (nB kd cn) (zB kd cz) W HVF.out HZF.out (HRDZ.out.below h) (rd_bare (HR7.out.below (HWB.out W h))) hlb)
                have hwa : IntKind.i64.wrap ((off : Int) + (sz : Int)) = (off : Int) + (sz : Int) := IntWalk.i64_in _ (by omega)
                refine wp_region_held_drew (S := fun W => Below W2.heap.size W2 W) (by kernel_rfl) hx0 (fun hHeld => ?_)
                refine wpAnyH_take (i := 0) (v := _) rfl (by kernel_rfl) (by kernel_rfl) (by kernel_rfl) (fun _ _ _ h => h) (Or.inl ⟨by kernel_rfl, fun w _ => by go_simp <;> with_reducible rfl⟩) hHeld ?_
                simp only [List.getElem_toArray, List.getElem_cons_succ, List.getElem_cons_zero, Act.put, List.setIfInBounds_toArray, List.set_cons_zero, List.set_cons_succ]
                refine wpAnyH_take (i := 1) (v := _) rfl (by kernel_rfl) (by kernel_rfl) (by kernel_rfl) (fun _ _ _ h => h) (Or.inl ⟨by kernel_rfl, fun w _ => by go_simp <;> with_reducible rfl⟩) hHeld ?_
                simp only [List.getElem_toArray, List.getElem_cons_succ, List.getElem_cons_zero, Act.put, List.setIfInBounds_toArray, List.set_cons_zero, List.set_cons_succ]
                refine wpAnyH_take (i := 2) (v := _) rfl (by kernel_rfl) (by kernel_rfl) (by kernel_rfl) (fun _ _ _ h => h) (Or.inl ⟨by kernel_rfl, fun w _ => by go_simp <;> with_reducible rfl⟩) hHeld ?_
                simp only [List.getElem_toArray, List.getElem_cons_succ, List.getElem_cons_zero, Act.put, List.setIfInBounds_toArray, List.set_cons_zero, List.set_cons_succ]
                refine wpAnyH_take (i := 3) (v := _) rfl (by kernel_rfl) (by kernel_rfl) (by kernel_rfl) (fun _ _ _ h => h) (Or.inl ⟨by kernel_rfl, fun w _ => by go_simp <;> with_reducible rfl⟩) hHeld ?_
                simp only [List.getElem_toArray, List.getElem_cons_succ, List.getElem_cons_zero, Act.put, List.setIfInBounds_toArray, List.set_cons_zero, List.set_cons_succ]
                refine wpAnyH_take (i := 4) (v := _) rfl (by kernel_rfl) (by kernel_rfl) (by kernel_rfl) (fun _ _ _ h => h) (Or.inl ⟨by kernel_rfl, fun w _ => by go_simp <;> with_reducible rfl⟩) hHeld ?_
                simp only [List.getElem_toArray, List.getElem_cons_succ, List.getElem_cons_zero, Act.put, List.setIfInBounds_toArray, List.set_cons_zero, List.set_cons_succ]
                refine wpAnyH_take (i := 5) (v := .slice (some ad6) ws.length c3) rfl (by kernel_rfl) (by kernel_rfl) (by kernel_rfl) (fun _ _ _ h => h) (Or.inl ⟨by kernel_rfl, fun W h => by have q0 := blk_cell (blk_below (blk_below HS4.out HB.out) (HWB.out W h)) 0; go_simp <;> with_reducible rfl⟩) hHeld ?_
                simp only [List.getElem_toArray, List.getElem_cons_succ, List.getElem_cons_zero, Act.put, List.setIfInBounds_toArray, List.set_cons_zero, List.set_cons_succ]
                refine wpAnyH_take (i := 6) (v := _) rfl (by kernel_rfl) (by kernel_rfl) (by kernel_rfl) (fun _ _ _ h => h) (Or.inl ⟨by kernel_rfl, fun w _ => by go_simp <;> with_reducible rfl⟩) hHeld ?_
                simp only [List.getElem_toArray, List.getElem_cons_succ, List.getElem_cons_zero, Act.put, List.setIfInBounds_toArray, List.set_cons_zero, List.set_cons_succ]
                refine wpAnyH_take (i := 7) (v := .pointer (some (ad6.add (m * 39)))) rfl (by kernel_rfl) (by kernel_rfl) (by kernel_rfl) (fun _ _ _ h => h) (Or.inl ⟨by kernel_rfl, fun W h => by have q0 := hmt; go_simp <;> with_reducible rfl⟩) hHeld ?_
                simp only [List.getElem_toArray, List.getElem_cons_succ, List.getElem_cons_zero, Act.put, List.setIfInBounds_toArray, List.set_cons_zero, List.set_cons_succ]
                refine wpAnyH_take (i := 8) (v := _) rfl (by kernel_rfl) (by kernel_rfl) (by kernel_rfl) (fun _ _ _ h => h) (Or.inl ⟨by kernel_rfl, fun w _ => by go_simp <;> with_reducible rfl⟩) hHeld ?_
                simp only [List.getElem_toArray, List.getElem_cons_succ, List.getElem_cons_zero, Act.put, List.setIfInBounds_toArray, List.set_cons_zero, List.set_cons_succ]
                refine wpAnyH_take (i := 9) (v := _) rfl (by kernel_rfl) (by kernel_rfl) (by kernel_rfl) (fun _ _ _ h => h) (Or.inl ⟨by kernel_rfl, fun w _ => by go_simp <;> with_reducible rfl⟩) hHeld ?_
                simp only [List.getElem_toArray, List.getElem_cons_succ, List.getElem_cons_zero, Act.put, List.setIfInBounds_toArray, List.set_cons_zero, List.set_cons_succ]
                refine wpAnyH_take (i := 10) (v := .int .i64 (off : Int)) rfl (by kernel_rfl) (by kernel_rfl) (by kernel_rfl) (fun _ _ _ h => h) (Or.inl ⟨by kernel_rfl, fun W h => by have q0 := HW37.out W (HWB.out W h); go_simp <;> with_reducible rfl⟩) hHeld ?_
                simp only [List.getElem_toArray, List.getElem_cons_succ, List.getElem_cons_zero, Act.put, List.setIfInBounds_toArray, List.set_cons_zero, List.set_cons_succ]
                refine wpAnyH_take (i := 11) (v := _) rfl (by kernel_rfl) (by kernel_rfl) (by kernel_rfl) (fun _ _ _ h => h) (Or.inl ⟨by kernel_rfl, fun w _ => by go_simp <;> with_reducible rfl⟩) hHeld ?_
                simp only [List.getElem_toArray, List.getElem_cons_succ, List.getElem_cons_zero, Act.put, List.setIfInBounds_toArray, List.set_cons_zero, List.set_cons_succ]
                refine wpAnyH_take (i := 12) (v := .slice (some ad6) ws.length c3) rfl (by kernel_rfl) (by kernel_rfl) (by kernel_rfl) (fun _ _ _ h => h) (Or.inl ⟨by kernel_rfl, fun W h => by have q0 := blk_cell (blk_below (blk_below HS4.out HB.out) (HWB.out W h)) 0; go_simp <;> with_reducible rfl⟩) hHeld ?_
                simp only [List.getElem_toArray, List.getElem_cons_succ, List.getElem_cons_zero, Act.put, List.setIfInBounds_toArray, List.set_cons_zero, List.set_cons_succ]
                refine wpAnyH_take (i := 13) (v := _) rfl (by kernel_rfl) (by kernel_rfl) (by kernel_rfl) (fun _ _ _ h => h) (Or.inl ⟨by kernel_rfl, fun w _ => by go_simp <;> with_reducible rfl⟩) hHeld ?_
                simp only [List.getElem_toArray, List.getElem_cons_succ, List.getElem_cons_zero, Act.put, List.setIfInBounds_toArray, List.set_cons_zero, List.set_cons_succ]
                refine wpAnyH_take (i := 14) (v := .pointer (some (ad6.add (m * 39)))) rfl (by kernel_rfl) (by kernel_rfl) (by kernel_rfl) (fun _ _ _ h => h) (Or.inl ⟨by kernel_rfl, fun W h => by have q0 := hmt; go_simp <;> with_reducible rfl⟩) hHeld ?_
                simp only [List.getElem_toArray, List.getElem_cons_succ, List.getElem_cons_zero, Act.put, List.setIfInBounds_toArray, List.set_cons_zero, List.set_cons_succ]
                refine wpAnyH_take (i := 15) (v := _) rfl (by kernel_rfl) (by kernel_rfl) (by kernel_rfl) (fun _ _ _ h => h) (Or.inl ⟨by kernel_rfl, fun w _ => by go_simp <;> with_reducible rfl⟩) hHeld ?_
                simp only [List.getElem_toArray, List.getElem_cons_succ, List.getElem_cons_zero, Act.put, List.setIfInBounds_toArray, List.set_cons_zero, List.set_cons_succ]
                refine wpAnyH_take (i := 16) (v := _) rfl (by kernel_rfl) (by kernel_rfl) (by kernel_rfl) (fun _ _ _ h => h) (Or.inl ⟨by kernel_rfl, fun w _ => by go_simp <;> with_reducible rfl⟩) hHeld ?_
                simp only [List.getElem_toArray, List.getElem_cons_succ, List.getElem_cons_zero, Act.put, List.setIfInBounds_toArray, List.set_cons_zero, List.set_cons_succ]
                refine wpAnyH_take (i := 17) (v := .int .i64 (sz : Int)) rfl (by kernel_rfl) (by kernel_rfl) (by kernel_rfl) (fun _ _ _ h => h) (Or.inl ⟨by kernel_rfl, fun W h => by have q0 := HW38.out W (HWB.out W h); go_simp <;> with_reducible rfl⟩) hHeld ?_
                simp only [List.getElem_toArray, List.getElem_cons_succ, List.getElem_cons_zero, Act.put, List.setIfInBounds_toArray, List.set_cons_zero, List.set_cons_succ]
                refine wpAnyH_take (i := 18) (v := .int .i64 ((off : Int) + (sz : Int))) rfl (by kernel_rfl) (by kernel_rfl) (by kernel_rfl) (fun _ _ _ h => h) (Or.inl ⟨by kernel_rfl, fun W h => by have q0 := hwa; go_simp <;> with_reducible rfl⟩) hHeld ?_
                simp only [List.getElem_toArray, List.getElem_cons_succ, List.getElem_cons_zero, Act.put, List.setIfInBounds_toArray, List.set_cons_zero, List.set_cons_succ]
                refine wpAnyH_take (i := 19) (v := _) rfl (by kernel_rfl) (by kernel_rfl) (by kernel_rfl) (fun _ _ _ h => h) (Or.inl ⟨by kernel_rfl, fun w _ => by go_simp <;> with_reducible rfl⟩) hHeld ?_
                simp only [List.getElem_toArray, List.getElem_cons_succ, List.getElem_cons_zero, Act.put, List.setIfInBounds_toArray, List.set_cons_zero, List.set_cons_succ]
                refine wpAnyH_take (i := 20) (v := _) rfl (by kernel_rfl) (by kernel_rfl) (by kernel_rfl) (fun _ _ _ h => h) (Or.inl ⟨by kernel_rfl, fun w _ => by go_simp <;> with_reducible rfl⟩) hHeld ?_
                simp only [List.getElem_toArray, List.getElem_cons_succ, List.getElem_cons_zero, Act.put, List.setIfInBounds_toArray, List.set_cons_zero, List.set_cons_succ]
                refine wpAnyH_take (i := 21) (v := _) rfl (by kernel_rfl) (by kernel_rfl) (by kernel_rfl) (fun _ _ _ h => h) (Or.inl ⟨by kernel_rfl, fun w _ => by go_simp <;> with_reducible rfl⟩) hHeld ?_
                simp only [List.getElem_toArray, List.getElem_cons_succ, List.getElem_cons_zero, Act.put, List.setIfInBounds_toArray, List.set_cons_zero, List.set_cons_succ]
                refine wpAnyH_take (i := 22) (v := .agg X5.toList.toArray) rfl (by kernel_rfl) (by kernel_rfl) (by kernel_rfl) (fun _ _ _ h => h) (yieldsIf_load_mid (by kernel_rfl) 27 _ rfl _ 0 rfl X5.toList _ (fun W h => range_row (blk_below HVG2.out h)) Try.underlying27 rfl HVL.out) hHeld ?_
                simp only [List.getElem_toArray, List.getElem_cons_succ, List.getElem_cons_zero, Act.put, List.setIfInBounds_toArray, List.set_cons_zero, List.set_cons_succ]
                refine wpAnyH_take (i := 23) (v := .agg Z.toList.toArray) rfl (by kernel_rfl) (by kernel_rfl) (by kernel_rfl) (fun _ _ _ h => h) (yieldsIf_load_mid (by kernel_rfl) 27 _ rfl _ 0 rfl Z.toList _ (fun W h => range_row (blk_below HZ2.out h)) Try.underlying27 rfl HZL.out) hHeld ?_
                simp only [List.getElem_toArray, List.getElem_cons_succ, List.getElem_cons_zero, Act.put, List.setIfInBounds_toArray, List.set_cons_zero, List.set_cons_succ]
                refine wpAnyH_ready (rs := [24]) (by kernel_rfl) (by simp) ?_
                refine AllReadyH.cons rfl (fun K hK => ?_) ?_
                case refine_2 => exact AllReadyH.nil
                go_simp
                refine (HSM.out _ hHeld).mono ?_
                rintro e x3 ⟨rfl, hb⟩
                refine hK.out _ _ (below_step' hHeld hb) (fun hHeld => ?_)
                clear hK K
                try simp only [List.getElem_toArray, List.getElem_cons_succ, List.getElem_cons_zero, Act.put, List.setIfInBounds_toArray, List.set_cons_zero, List.set_cons_succ]
                clear hb
                refine wpAnyH_take (i := 25) (v := _) rfl (by kernel_rfl) (by kernel_rfl) (by kernel_rfl) (fun _ _ _ h => h) (Or.inl ⟨by kernel_rfl, fun w _ => by go_simp <;> with_reducible rfl⟩) hHeld ?_
                simp only [List.getElem_toArray, List.getElem_cons_succ, List.getElem_cons_zero, Act.put, List.setIfInBounds_toArray, List.set_cons_zero, List.set_cons_succ]
                refine wpAnyH_take (i := 26) (v := _) rfl (by kernel_rfl) (by kernel_rfl) (by kernel_rfl) (fun _ _ _ h => h) (Or.inl ⟨by kernel_rfl, fun w _ => by go_simp <;> with_reducible rfl⟩) hHeld ?_
                simp only [List.getElem_toArray, List.getElem_cons_succ, List.getElem_cons_zero, Act.put, List.setIfInBounds_toArray, List.set_cons_zero, List.set_cons_succ]
                refine wpAnyH_done (by kernel_rfl) ?_ _
                have HB12 := Lib.hid (below_step' HB.out (HWB.out _ hHeld))
                clear hHeld hwa hx0
                go_wp2_with fail
                go_round
                case rel => exact ⟨j0 + 1, m + 1, by omega, by go_num, by go_num, by omega, HM1, HP1, HB12⟩
                case measure => simp [intOf]; omega
              · obtain ⟨pv, hpv, hwp⟩ := HPU.out hpos
                obtain ⟨m1, hm1⟩ : ∃ m1, m = m1 + 1 := ⟨m - 1, by omega⟩
                have hgt0 : decide (0 < m) = true := decide_eq_true (by omega)
                have hle0 : decide (u ≤ pv) = false := decide_eq_false (by omega)
                have hmi : (m : Int) - 1 = (m1 : Int) := by omega
                have hm1l : m1 < ws.length := by omega
                rw [show m - 1 = m1 by omega] at hwp
                have HZ := Lib.hid hm1
                clear hm1 hpos HPU hpv
                have HW1 := Lib.hid (fun (W : World) (h : Below wr.heap.size wr W) => (h.cell (lt_of_cell hw1)).trans hw1)
                have HW37 := Lib.hid (fun (W : World) (h : Below wr.heap.size wr W) => (h.cell (lt_of_cell hw37)).trans hw37)
                have HW38 := Lib.hid (fun (W : World) (h : Below wr.heap.size wr W) => (h.cell (lt_of_cell hw38)).trans hw38)
                have HRP := Lib.hid hrP
                go_wp2_with fail
                go_quiet (fail)
                try rw [World.drewN_drewN]
                obtain ⟨w7, hw7⟩ : ∃ W, World.drewN wr nq = W := ⟨_, rfl⟩
                have hb7 : Below wr.heap.size wr w7 := hw7 ▸ pw_below_drewN (Below.refl _ _) nq
                rw [hw7]
                have HB7 := Lib.hid hb7
                clear hw7 hb7 hcc hcs hrow hw0 hw1 hw36 hw37 hw38 c0 hrP hgt0 hge
                try clear hwp hle0 hmi hm1l
                have hcc := fun i => blk_cell (blk_below (blk_below HG4.out HB.out) HB7.out) i
                have hcs := fun i => blk_cell (blk_below (blk_below HS4.out HB.out) HB7.out) i
                have hrow := HC.out w7 (below_step' HB.out HB7.out)
                have hw37 := HW37.out w7 HB7.out
                go_wp2_with fail
                refine (HPA.out w7 (HRB4.out.below (below_step' HB.out HB7.out))).mono ?_
                rintro e w8 ⟨X5, A5, c5, rfl, hX5, hB5, hb⟩
                obtain ⟨w9, hw9⟩ : ∃ w', World.alloc w8 (.cells X5 27) = w' := ⟨_, rfl⟩
                have hbw : Below w8.heap.size w8 w9 := hw9 ▸ below_alloc (Below.refl _ _) _
                have HVI := Lib.hid hX5.info
                have HVZ := Lib.hid (show zRec.size = X5.size from zRecF.size.trans hX5.size.symm)
                have HV1 := Lib.hid hX5.one
                have HVL := Lib.hid hX5.infoL
                have HVF := Lib.hid hX5
                have HVG := Lib.hid (show w9.heap[w8.heap.size]? = some (.cells X5 27 (0, 0)) from hw9 ▸ blk_new w8 _)
                have HB9 := Lib.hid (below_step' (below_step' HB7.out hb) hbw)
                have HRD9 := Lib.hid ((buf_rd hB5).below hbw)
                clear hb hbw hX5 hB5 hcc hcs hrow hw37
                have hcc := fun i => blk_cell (blk_below (blk_below HG4.out HB.out) HB9.out) i
                have hrow := HC.out w9 (below_step' HB.out HB9.out)
                have HRP9 := Lib.hid (range_below HRP.out HB9.out)
                go_wp2_with (first | (refine wpList_box rfl rfl 27 _ _ rfl rfl X5 zRec zeroRec rfl rfl HVZ.out HVI.out HV1.out ?_; rw [hw9]) | (refine wpList_load_mid rfl 27 (.tmp 152) rfl _ _ HPX.out X.toList _ HRP9.out Try.underlying27 rfl HIL.out ?_))
                clear hw9 hcc hrow
                refine (HBA.out w9).mono ?_
                rintro e w10 ⟨Y, rfl, hY, hb10⟩
                have hyi := hY.info
                have hys : zRec.size = Y.size := by rw [hY.size]; rfl
                have hyo := hY.one
                have h1 := hY.c1
                obtain ⟨W1, hW1⟩ : ∃ W, w10.alloc (.cells Y 27) = W := ⟨_, rfl⟩
                have HY1 := Lib.hid (show W1.heap[w10.heap.size]? = some (.cells Y 27 (0, 0)) from hW1 ▸ blk_new w10 _)
                have hbw : Below w10.heap.size w10 W1 := hW1 ▸ below_alloc (Below.refl _ _) _
                obtain ⟨Z, hZ⟩ : ∃ Z, Y.setIfInBounds 1 (.int .u64 (u : Int)) = Z := ⟨_, rfl⟩
                have hZF := hY.setS u
                rw [hZ] at hZF
                have hud := upd_cell HY1.out 1 (.int .u64 (u : Int))
                obtain ⟨W2, hW2⟩ : ∃ W, W1.setCell ⟨w10.heap.size, 1, none⟩ (.int .u64 (u : Int)) = W := ⟨_, rfl⟩
                rw [hW2, hZ] at hud
                have hb2 := hud.to (Nat.le_refl _) hbw
                have HZ2 := Lib.hid hud.at_
                have HBW1 := Lib.hid (below_step' (below_step' HB9.out hb10) hbw)
                have hbr2 := below_step' hb10 hb2
                have HBr2 := Lib.hid hbr2
                have HBW2 := Lib.hid (below_step' HB9.out hbr2)
                have HRDZ := Lib.hid (HRD9.out.below hbr2)
                have HVG2 := Lib.hid (blk_below HVG.out hbr2)
                have HZF := Lib.hid hZF
                have HZL := Lib.hid hZF.infoL
                have HYI := Lib.hid hyi
                have HYS := Lib.hid hys
                have HYO := Lib.hid hyo
                clear hyi hys hyo hbw hud hb2 hbr2 hZF hY hZ hb10
                have hcc := fun i => blk_cell HY1.out i
                have hff := fun i => blk_frozen HY1.out i
                have hzz := blk_lt HY1.out
                have hcs := fun i => blk_cell (blk_below (blk_below HS4.out HB.out) HBW1.out) i
                have hwq := HW1.out W1 HBW1.out
                go_wp2_with (first | (refine wpList_box rfl rfl 27 _ _ rfl rfl Y zRec zeroRec rfl rfl HYS.out HYI.out HYO.out ?_; rw [hW1]))
                try rw [hW2]
                clear hcc hff hzz hcs hwq h1 hW1 hW2
                have hx0 : Below W2.heap.size W2 W2.drew := below_drew (Below.refl _ _)
                have HWB := Lib.hid (fun (W : World) (h : Below W2.heap.size W2 W) => below_step' HBW2.out h)
                have HSM := Lib.hid (fun (W : World) (h : Below W2.heap.size W2 W) => same_yes X5 Z kd u (dB kd dg) (nmB kd nm) A5 (AB kd A7) (lB kd dl) c5 (cB kd c7) (nB kd cn) (zB kd cz) W HVF.out HZF.out (HRDZ.out.below h) (rd_bare (HR7.out.below (HWB.out W h))) hlb)
                have hwa : IntKind.i64.wrap ((off : Int) + (sz : Int)) = (off : Int) + (sz : Int) := IntWalk.i64_in _ (by omega)
                refine wp_region_held_drew (S := fun W => Below W2.heap.size W2 W) (by kernel_rfl) hx0 (fun hHeld => ?_)
                refine wpAnyH_take (i := 0) (v := _) rfl (by kernel_rfl) (by kernel_rfl) (by kernel_rfl) (fun _ _ _ h => h) (Or.inl ⟨by kernel_rfl, fun w _ => by go_simp <;> with_reducible rfl⟩) hHeld ?_
                simp only [List.getElem_toArray, List.getElem_cons_succ, List.getElem_cons_zero, Act.put, List.setIfInBounds_toArray, List.set_cons_zero, List.set_cons_succ]
                refine wpAnyH_take (i := 1) (v := _) rfl (by kernel_rfl) (by kernel_rfl) (by kernel_rfl) (fun _ _ _ h => h) (Or.inl ⟨by kernel_rfl, fun w _ => by go_simp <;> with_reducible rfl⟩) hHeld ?_
                simp only [List.getElem_toArray, List.getElem_cons_succ, List.getElem_cons_zero, Act.put, List.setIfInBounds_toArray, List.set_cons_zero, List.set_cons_succ]
                refine wpAnyH_take (i := 2) (v := _) rfl (by kernel_rfl) (by kernel_rfl) (by kernel_rfl) (fun _ _ _ h => h) (Or.inl ⟨by kernel_rfl, fun w _ => by go_simp <;> with_reducible rfl⟩) hHeld ?_
                simp only [List.getElem_toArray, List.getElem_cons_succ, List.getElem_cons_zero, Act.put, List.setIfInBounds_toArray, List.set_cons_zero, List.set_cons_succ]
                refine wpAnyH_take (i := 3) (v := _) rfl (by kernel_rfl) (by kernel_rfl) (by kernel_rfl) (fun _ _ _ h => h) (Or.inl ⟨by kernel_rfl, fun w _ => by go_simp <;> with_reducible rfl⟩) hHeld ?_
                simp only [List.getElem_toArray, List.getElem_cons_succ, List.getElem_cons_zero, Act.put, List.setIfInBounds_toArray, List.set_cons_zero, List.set_cons_succ]
                refine wpAnyH_take (i := 4) (v := _) rfl (by kernel_rfl) (by kernel_rfl) (by kernel_rfl) (fun _ _ _ h => h) (Or.inl ⟨by kernel_rfl, fun w _ => by go_simp <;> with_reducible rfl⟩) hHeld ?_
                simp only [List.getElem_toArray, List.getElem_cons_succ, List.getElem_cons_zero, Act.put, List.setIfInBounds_toArray, List.set_cons_zero, List.set_cons_succ]
                refine wpAnyH_take (i := 5) (v := .slice (some ad6) ws.length c3) rfl (by kernel_rfl) (by kernel_rfl) (by kernel_rfl) (fun _ _ _ h => h) (Or.inl ⟨by kernel_rfl, fun W h => by have q0 := blk_cell (blk_below (blk_below HS4.out HB.out) (HWB.out W h)) 0; go_simp <;> with_reducible rfl⟩) hHeld ?_
                simp only [List.getElem_toArray, List.getElem_cons_succ, List.getElem_cons_zero, Act.put, List.setIfInBounds_toArray, List.set_cons_zero, List.set_cons_succ]
                refine wpAnyH_take (i := 6) (v := _) rfl (by kernel_rfl) (by kernel_rfl) (by kernel_rfl) (fun _ _ _ h => h) (Or.inl ⟨by kernel_rfl, fun w _ => by go_simp <;> with_reducible rfl⟩) hHeld ?_
                simp only [List.getElem_toArray, List.getElem_cons_succ, List.getElem_cons_zero, Act.put, List.setIfInBounds_toArray, List.set_cons_zero, List.set_cons_succ]
                refine wpAnyH_take (i := 7) (v := .pointer (some (ad6.add (m * 39)))) rfl (by kernel_rfl) (by kernel_rfl) (by kernel_rfl) (fun _ _ _ h => h) (Or.inl ⟨by kernel_rfl, fun W h => by have q0 := hmt; go_simp <;> with_reducible rfl⟩) hHeld ?_
                simp only [List.getElem_toArray, List.getElem_cons_succ, List.getElem_cons_zero, Act.put, List.setIfInBounds_toArray, List.set_cons_zero, List.set_cons_succ]
                refine wpAnyH_take (i := 8) (v := _) rfl (by kernel_rfl) (by kernel_rfl) (by kernel_rfl) (fun _ _ _ h => h) (Or.inl ⟨by kernel_rfl, fun w _ => by go_simp <;> with_reducible rfl⟩) hHeld ?_
                simp only [List.getElem_toArray, List.getElem_cons_succ, List.getElem_cons_zero, Act.put, List.setIfInBounds_toArray, List.set_cons_zero, List.set_cons_succ]
                refine wpAnyH_take (i := 9) (v := _) rfl (by kernel_rfl) (by kernel_rfl) (by kernel_rfl) (fun _ _ _ h => h) (Or.inl ⟨by kernel_rfl, fun w _ => by go_simp <;> with_reducible rfl⟩) hHeld ?_
                simp only [List.getElem_toArray, List.getElem_cons_succ, List.getElem_cons_zero, Act.put, List.setIfInBounds_toArray, List.set_cons_zero, List.set_cons_succ]
                refine wpAnyH_take (i := 10) (v := .int .i64 (off : Int)) rfl (by kernel_rfl) (by kernel_rfl) (by kernel_rfl) (fun _ _ _ h => h) (Or.inl ⟨by kernel_rfl, fun W h => by have q0 := HW37.out W (HWB.out W h); go_simp <;> with_reducible rfl⟩) hHeld ?_
                simp only [List.getElem_toArray, List.getElem_cons_succ, List.getElem_cons_zero, Act.put, List.setIfInBounds_toArray, List.set_cons_zero, List.set_cons_succ]
                refine wpAnyH_take (i := 11) (v := _) rfl (by kernel_rfl) (by kernel_rfl) (by kernel_rfl) (fun _ _ _ h => h) (Or.inl ⟨by kernel_rfl, fun w _ => by go_simp <;> with_reducible rfl⟩) hHeld ?_
                simp only [List.getElem_toArray, List.getElem_cons_succ, List.getElem_cons_zero, Act.put, List.setIfInBounds_toArray, List.set_cons_zero, List.set_cons_succ]
                refine wpAnyH_take (i := 12) (v := .slice (some ad6) ws.length c3) rfl (by kernel_rfl) (by kernel_rfl) (by kernel_rfl) (fun _ _ _ h => h) (Or.inl ⟨by kernel_rfl, fun W h => by have q0 := blk_cell (blk_below (blk_below HS4.out HB.out) (HWB.out W h)) 0; go_simp <;> with_reducible rfl⟩) hHeld ?_
                simp only [List.getElem_toArray, List.getElem_cons_succ, List.getElem_cons_zero, Act.put, List.setIfInBounds_toArray, List.set_cons_zero, List.set_cons_succ]
                refine wpAnyH_take (i := 13) (v := _) rfl (by kernel_rfl) (by kernel_rfl) (by kernel_rfl) (fun _ _ _ h => h) (Or.inl ⟨by kernel_rfl, fun w _ => by go_simp <;> with_reducible rfl⟩) hHeld ?_
                simp only [List.getElem_toArray, List.getElem_cons_succ, List.getElem_cons_zero, Act.put, List.setIfInBounds_toArray, List.set_cons_zero, List.set_cons_succ]
                refine wpAnyH_take (i := 14) (v := .pointer (some (ad6.add (m * 39)))) rfl (by kernel_rfl) (by kernel_rfl) (by kernel_rfl) (fun _ _ _ h => h) (Or.inl ⟨by kernel_rfl, fun W h => by have q0 := hmt; go_simp <;> with_reducible rfl⟩) hHeld ?_
                simp only [List.getElem_toArray, List.getElem_cons_succ, List.getElem_cons_zero, Act.put, List.setIfInBounds_toArray, List.set_cons_zero, List.set_cons_succ]
                refine wpAnyH_take (i := 15) (v := _) rfl (by kernel_rfl) (by kernel_rfl) (by kernel_rfl) (fun _ _ _ h => h) (Or.inl ⟨by kernel_rfl, fun w _ => by go_simp <;> with_reducible rfl⟩) hHeld ?_
                simp only [List.getElem_toArray, List.getElem_cons_succ, List.getElem_cons_zero, Act.put, List.setIfInBounds_toArray, List.set_cons_zero, List.set_cons_succ]
                refine wpAnyH_take (i := 16) (v := _) rfl (by kernel_rfl) (by kernel_rfl) (by kernel_rfl) (fun _ _ _ h => h) (Or.inl ⟨by kernel_rfl, fun w _ => by go_simp <;> with_reducible rfl⟩) hHeld ?_
                simp only [List.getElem_toArray, List.getElem_cons_succ, List.getElem_cons_zero, Act.put, List.setIfInBounds_toArray, List.set_cons_zero, List.set_cons_succ]
                refine wpAnyH_take (i := 17) (v := .int .i64 (sz : Int)) rfl (by kernel_rfl) (by kernel_rfl) (by kernel_rfl) (fun _ _ _ h => h) (Or.inl ⟨by kernel_rfl, fun W h => by have q0 := HW38.out W (HWB.out W h); go_simp <;> with_reducible rfl⟩) hHeld ?_
                simp only [List.getElem_toArray, List.getElem_cons_succ, List.getElem_cons_zero, Act.put, List.setIfInBounds_toArray, List.set_cons_zero, List.set_cons_succ]
                refine wpAnyH_take (i := 18) (v := .int .i64 ((off : Int) + (sz : Int))) rfl (by kernel_rfl) (by kernel_rfl) (by kernel_rfl) (fun _ _ _ h => h) (Or.inl ⟨by kernel_rfl, fun W h => by have q0 := hwa; go_simp <;> with_reducible rfl⟩) hHeld ?_
                simp only [List.getElem_toArray, List.getElem_cons_succ, List.getElem_cons_zero, Act.put, List.setIfInBounds_toArray, List.set_cons_zero, List.set_cons_succ]
                refine wpAnyH_take (i := 19) (v := _) rfl (by kernel_rfl) (by kernel_rfl) (by kernel_rfl) (fun _ _ _ h => h) (Or.inl ⟨by kernel_rfl, fun w _ => by go_simp <;> with_reducible rfl⟩) hHeld ?_
                simp only [List.getElem_toArray, List.getElem_cons_succ, List.getElem_cons_zero, Act.put, List.setIfInBounds_toArray, List.set_cons_zero, List.set_cons_succ]
                refine wpAnyH_take (i := 20) (v := _) rfl (by kernel_rfl) (by kernel_rfl) (by kernel_rfl) (fun _ _ _ h => h) (Or.inl ⟨by kernel_rfl, fun w _ => by go_simp <;> with_reducible rfl⟩) hHeld ?_
                simp only [List.getElem_toArray, List.getElem_cons_succ, List.getElem_cons_zero, Act.put, List.setIfInBounds_toArray, List.set_cons_zero, List.set_cons_succ]
                refine wpAnyH_take (i := 21) (v := _) rfl (by kernel_rfl) (by kernel_rfl) (by kernel_rfl) (fun _ _ _ h => h) (Or.inl ⟨by kernel_rfl, fun w _ => by go_simp <;> with_reducible rfl⟩) hHeld ?_
                simp only [List.getElem_toArray, List.getElem_cons_succ, List.getElem_cons_zero, Act.put, List.setIfInBounds_toArray, List.set_cons_zero, List.set_cons_succ]
                refine wpAnyH_take (i := 22) (v := .agg X5.toList.toArray) rfl (by kernel_rfl) (by kernel_rfl) (by kernel_rfl) (fun _ _ _ h => h) (yieldsIf_load_mid (by kernel_rfl) 27 _ rfl _ 0 rfl X5.toList _ (fun W h => range_row (blk_below HVG2.out h)) Try.underlying27 rfl HVL.out) hHeld ?_
                simp only [List.getElem_toArray, List.getElem_cons_succ, List.getElem_cons_zero, Act.put, List.setIfInBounds_toArray, List.set_cons_zero, List.set_cons_succ]
                refine wpAnyH_take (i := 23) (v := .agg Z.toList.toArray) rfl (by kernel_rfl) (by kernel_rfl) (by kernel_rfl) (fun _ _ _ h => h) (yieldsIf_load_mid (by kernel_rfl) 27 _ rfl _ 0 rfl Z.toList _ (fun W h => range_row (blk_below HZ2.out h)) Try.underlying27 rfl HZL.out) hHeld ?_
                simp only [List.getElem_toArray, List.getElem_cons_succ, List.getElem_cons_zero, Act.put, List.setIfInBounds_toArray, List.set_cons_zero, List.set_cons_succ]
                refine wpAnyH_ready (rs := [24]) (by kernel_rfl) (by simp) ?_
                refine AllReadyH.cons rfl (fun K hK => ?_) ?_
                case refine_2 => exact AllReadyH.nil
                go_simp
                refine (HSM.out _ hHeld).mono ?_
                rintro e x3 ⟨rfl, hb⟩
                refine hK.out _ _ (below_step' hHeld hb) (fun hHeld => ?_)
                clear hK K
                try simp only [List.getElem_toArray, List.getElem_cons_succ, List.getElem_cons_zero, Act.put, List.setIfInBounds_toArray, List.set_cons_zero, List.set_cons_succ]
                clear hb
                refine wpAnyH_take (i := 25) (v := _) rfl (by kernel_rfl) (by kernel_rfl) (by kernel_rfl) (fun _ _ _ h => h) (Or.inl ⟨by kernel_rfl, fun w _ => by go_simp <;> with_reducible rfl⟩) hHeld ?_
                simp only [List.getElem_toArray, List.getElem_cons_succ, List.getElem_cons_zero, Act.put, List.setIfInBounds_toArray, List.set_cons_zero, List.set_cons_succ]
                refine wpAnyH_take (i := 26) (v := _) rfl (by kernel_rfl) (by kernel_rfl) (by kernel_rfl) (fun _ _ _ h => h) (Or.inl ⟨by kernel_rfl, fun w _ => by go_simp <;> with_reducible rfl⟩) hHeld ?_
                simp only [List.getElem_toArray, List.getElem_cons_succ, List.getElem_cons_zero, Act.put, List.setIfInBounds_toArray, List.set_cons_zero, List.set_cons_succ]
                refine wpAnyH_done (by kernel_rfl) ?_ _
                have HB12 := Lib.hid (below_step' HB.out (HWB.out _ hHeld))
                clear hHeld hwa hx0
                go_wp2_with fail
                go_round
                case rel => exact ⟨j0 + 1, m + 1, by omega, by go_num, by go_num, by omega, HM1, HP1, HB12⟩
                case measure => simp [intOf]; omega
            · obtain rfl : j0 = (rl ls i0).length := by omega
              go_wp2_with fail
              go_round
              case rel => exact ⟨i0 + 1, m, by omega, by go_num, rfl, hmb2, Lib.hid (by rw [HMS.out i0 hlt]; exact HM.out), Lib.hid (fun h => by rw [HNX.out i0 hlt]; have := HP.out h; omega), HB⟩
              case measure => simp [intOf]; omega
        · obtain rfl : i0 = ls.length := by omega
          have hmk : m0 = ws.length := by rw [HM0.out, List.take_length, HWL.out]
          subst hmk
          go_wp2_with fail
          refine (HLV.out _).mono ?_
          rintro e w8 ⟨rfl, hb⟩
          have HB8 := Lib.hid (below_step' (below_step' HB4.out HB.out) hb)
          clear hb
          go_wp2_with fail
          go_ret
          exact ⟨rfl, HB8.out⟩
    · have hgt : (1099511627776 : Int) < (s : Int) := by omega
      clear hbe
      go_wp2_with fail
      refine (HLV.out _).mono ?_
      rintro e w8 ⟨rfl, hb⟩
      have HB8 := Lib.hid (below_step' HB2.out hb)
      clear hb
      go_wp2_with fail
      go_ret
      exact ⟨rfl, HB8.out⟩
  · have q0 : ((be : Int) != 0) = true := bne_iff_ne.2 (by omega)
    clear hbe
    go_wp2_with fail
    refine (HLV.out _).mono ?_
    rintro e w8 ⟨rfl, hb⟩
    have HB8 := Lib.hid (below_step' HB2.out hb)
    clear hb
    go_wp2_with fail
    go_ret
    exact ⟨rfl, HB8.out⟩
end Go.Proofs.Ytceldlijbehkdaa.Sg
