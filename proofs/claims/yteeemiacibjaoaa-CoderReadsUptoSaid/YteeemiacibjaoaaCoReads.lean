/- law23: CoderReads. -/
import Derived.Test.YteeemiacibjaoaaCoTk
import Derived.Test.YteeemiacibjaoaaCoLives
import Derived.Deep.DeepCutAuto
import Derived.Deep.CutRange
set_option linter.unusedVariables false
set_option linter.unusedSimpArgs false
namespace Go.Proofs.Yteeemiacibjaoaa.Co
open Go.RowKit Go.Proofs.YteeemiacibjaoaaW.PrintWords Go.Proofs.Yteeemiacibjaoaa.B Go.Proofs.Yteeemiacibjaoaa.Fx Go.Proofs.Yteeemiacibjaoaa.Fr Go.Proofs.Yteeemiacibjaoaa.O

theorem zeroRd (w : World) : (zeroValue 70).run Try.prog w = .ok (.agg #[.slice none 0 0, .int .i64 0]) w := by kernel_rfl
theorem RdS.ne {W : World} {base g k : Nat} {l : List UInt8} {a e : Nat} (h : RdS W base g l a e) {cs : Array Value} {t : TypeId} (hb : W.heap[k]? = some (.cells cs t (0, 0))) (ht : t ≠ 110) : k ≠ g := by
  obtain ⟨hbg, v, hb2, hown⟩ := h
  exact blk_ne hb hb2 ht
theorem setRow_size (w : World) (g : Nat) (cs : Array Value) : (w.setRow g cs).heap.size = w.heap.size := by simp
theorem infoPt' {x : Pt} (h : x.2.2.2.2.length = 32) : (Try.prog.info? 73).map (·.size) = some (prtP x).toList.length := by rw [Array.length_toList]; exact infoPt h
set_option maxRecDepth 100000 in
set_option maxHeartbeats 6000000 in
theorem reads_any (s : ByteArray) (A : Option Addr) (c : Nat) (b : List UInt8) (AL : Option Addr) (cL : Nat) (l : List Pt) (w : World) (hs : s.size ≤ 1048576) (hr : Rd w A b) (hc : b.length ≤ c) (hb : b.length ≤ 1048576) (hrl : RdP w AL l) (hcl : l.length ≤ cL) (hm : ms mPt l ≤ 1048576) :
    Calls Try.prog 10 #[.string s, .slice A b.length c, .slice AL l.length cL] w (Kept (.bool true) w) := by
  have HR := Lib.hid hr
  have HRL := Lib.hid hrl
  have hll := ms_len (m := mPt) (fun x => by unfold mPt; omega) l
  have HNEW := Lib.hid (newr_any s A c b w (by omega) (by omega) hc hr)
  have HREAD := Lib.hid (fun (W : World) (h : Rd W A b) => refread_any s A c b W (by omega) (by omega) hc h)
  obtain ⟨hn1, hn2, hn3⟩ := new_ref s.data.toList b
  unfold NewD at HNEW
  generalize newL s.data.toList b = L at *
  generalize newAt s.data.toList b = at0 at *
  generalize newE s.data.toList b = e0 at *
  generalize refL s.data.toList b = x0 at *
  have HX0 := Lib.hid hn3
  have HLL := Lib.hid (show L.length ≤ 16000000 by omega)
  have HA0 := Lib.hid hn1
  have hx0l : x0.length ≤ L.length := by rw [hn3]; split <;> simp
  have hlen : l.length ≤ 1048576 := by omega
  clear hr hrl hn1 hn2 hn3 hll
  go_enter Try.func10, Try.ntmps10
  go_wp2_with fail
  refine HNEW.out.mono ?_
  rintro e w1 ⟨g, rfl, hs1, hb1⟩
  have HS1 := Lib.hid hs1
  have HB1 := Lib.hid hb1
  clear hs1 hb1
  go_wp2_with fail
  refine (HREAD.out w1 (HR.out.below HB1.out)).mono ?_
  rintro e w2 ⟨A1, c1, rfl, hc1, hrd1, hb2⟩
  have HB2 := Lib.hid (below_step' HB1.out hb2)
  have HS2 := Lib.hid (HS1.out.below hb2)
  have HRD1 := Lib.hid (hrd1 w HR.out)
  clear hrd1 hb2
  go_wp2_with (refine wpList_box rfl rfl 70 _ _ rfl rfl (rdC A1 x0.length c1 e0) _ zeroRd rfl rfl rfl infoRd (rdC_one _ _ _ _) ?_)
  have HWZ := Lib.hid HB2.out.size
  go_loopw [9] (fun i wr => ∃ (k at' e : Nat) (x : List UInt8) (A1 : Option Addr) (c1 : Nat), k ≤ l.length ∧ i = .int .i64 k ∧ x.length ≤ c1 ∧ Hid (at' ≤ L.length) ∧ Hid (x = if e = 0 then L.drop at' else []) ∧ Hid (RdS wr w.heap.size g L at' e) ∧ Hid (wr.heap[w2.heap.size]? = some (.cells (rdC A1 x.length c1 e) 70 (0, 0))) ∧ Hid (Rd w A1 x) ∧ Hid (Below w.heap.size w wr)) (fun i _ => l.length - (intOf i).toNat)
  case atStart => exact ⟨0, at0, e0, x0, A1, c1, by omega, rfl, hc1, HA0, HX0, Lib.hid (HS2.out.below (below_alloc (Below.refl _ _) _)), Lib.hid (blk_new w2 _), HRD1, Lib.hid (below_alloc HB2.out _)⟩
  case round =>
    clear HNEW HREAD HX0 HA0 hx0l HS1 HB1 HB2 HS2 HRD1 hc1
    obtain ⟨k, at', e, x, A1, c1, hk, rfl, hxc, HAT, HX, HSk, HGk, HRX1, HBk⟩ := hrel
    have hxl : x.length ≤ L.length := by have h := HX.out; rw [h]; split <;> simp
    by_cases hlt : k < l.length
    · obtain ⟨ad, rfl, hd, -, -, -, -, -, -, -⟩ := (HRL.out.below HBk.out).walk k hlt
      have HEL := Lib.hid (fun (W : World) (h : Below w.heap.size w W) => (HRL.out.below h).walk' k hlt)
      obtain ⟨p, hp⟩ : ∃ p, pt l k = p := ⟨_, rfl⟩
      rw [hp] at hd HEL
      have HCI := Lib.hid (infoPt' hd)
      obtain ⟨x0, x1, -, -, -⟩ := prtP_get p
      have h36 := prtP_size hd
      obtain ⟨X, hX⟩ : ∃ X, prtP p = X := ⟨_, rfl⟩
      rw [hX] at HCI x0 x1 h36 HEL
      obtain ⟨kd, hkd⟩ : ∃ kd, p.1.toInt = kd := ⟨_, rfl⟩
      obtain ⟨nd, hnd⟩ : ∃ nd, p.2.1.toInt = nd := ⟨_, rfl⟩
      have hn : -9223372036854775808 ≤ nd ∧ nd ≤ 9223372036854775807 := by rw [← hnd]; exact ⟨p.2.1.le_toInt, by have := p.2.1.toInt_lt; omega⟩
      rw [hkd] at x0 HEL
      rw [hnd] at x1 HEL
      obtain ⟨hat2, hy2⟩ := st_next (k := kd) (n := nd) HAT.out HX.out
      have HTK := Lib.hid (fun (W : World) (h : Rd W A1 x) => reftake_st A1 c1 x e kd nd W hn (by have := HLL.out; omega) hxc h)
      have HLT := Lib.hid (fun (W : World) (hw : w.heap.size ≤ W.heap.size) (h : RdS W w.heap.size g L at' e) => lawtake_st w.heap.size g L at' e x HX.out kd nd X h36 x0 x1 W HAT.out HLL.out hn hw h)
      obtain ⟨n', s', t', d', hP, hd'⟩ := stP_prt x e kd nd
      have HPE := Lib.hid (fun W => prt_self kd n' s' t' d' hd' W)
      have HPI := Lib.hid (show (Try.prog.info? 73).map (·.size) = some (prt kd n' s' t' d').size from infoP36 (prt_size kd _ _ _ _ hd'))
      have HPZ := Lib.hid (show zeroP.size = (prt kd n' s' t' d').size by rw [prt_size kd _ _ _ _ hd']; rfl)
      have HP1 := Lib.hid (prt_one kd n' s' t' d')
      rw [hP] at HTK HLT
      generalize prt kd n' s' t' d' = P at *
      generalize stY x e kd nd = y at *
      generalize stE x e kd nd = e2 at *
      generalize stA at' x e kd nd = a2 at *
      have HA2 := Lib.hid hat2
      have HY2 := Lib.hid hy2
      have HRX := Lib.hid (fun (W : World) (h : Below w.heap.size w W) => HRX1.out.below h)
      have HWR := Lib.hid HBk.out.size
      have HG8L := Lib.hid (blk_lt HGk.out)
      have HEND := Lib.hid (end_eq hat2 hy2)
      have hk0 : (0 : Int) ≤ (k : Int) := by omega
      have hk1 : (k : Int) < (l.length : Int) := by omega
      have HCX := Lib.hid x0
      have HCX1 := Lib.hid x1
      have H36 := Lib.hid h36
      clear hp hd hX hkd hnd hP hd' hat2 hy2 x0 x1 h36 hn hxc hs hb hcl hm
      go_upto_region 6 with (fail)
      go_cut [10, 11] from 18 to 54 (fun s10 s11 wx => ∃ (a10 a11 : Nat) (A2 : Option Addr) (c2 : Nat), s10 = .pointer (some ⟨a10, 0, none⟩) ∧ s11 = .pointer (some ⟨a11, 0, none⟩) ∧ y.length ≤ c2 ∧ wx.heap[a10]? = some (.cells P 73 (0, 0)) ∧ wx.heap[a11]? = some (.cells (rdC A2 y.length c2 e2) 70 (0, 0)) ∧ wx.heap[w2.heap.size]? = some (.cells (rdC A1 x.length c1 e) 70 (0, 0)) ∧ RdS wx w.heap.size g L at' e ∧ (∀ W, Rd W A1 x → Rd W A2 y) ∧ a11 ≠ w2.heap.size ∧ a10 ≠ g ∧ a10 ≠ w2.heap.size ∧ Below w.heap.size w wx)
      case first =>
        refine wp_region_held_drew (S := fun W => RdS W w.heap.size g L at' e ∧ W.heap[w2.heap.size]? = some (.cells (rdC A1 x.length c1 e) 70 (0, 0)) ∧ Below w.heap.size w W ∧ wr.heap.size ≤ W.heap.size) (by kernel_rfl) ⟨HSk.out, HGk.out, below_drew HBk.out, Nat.le_refl _⟩ (fun hHeld => ?_)
        refine wpAnyH_take (i := 0) (v := .agg (rdC A1 x.length c1 e).toList.toArray) rfl (by kernel_rfl) (by kernel_rfl) (by kernel_rfl) (fun _ _ _ h => h) (yieldsIf_load_mid (by kernel_rfl) 70 _ rfl w2.heap.size 0 rfl (rdC A1 x.length c1 e).toList _ (fun W h => range_row h.2.1) Try.underlying70 rfl (by rw [Array.length_toList]; exact infoRd)) hHeld ?_
        simp only [List.getElem_toArray, List.getElem_cons_succ, List.getElem_cons_zero, Act.put, List.setIfInBounds_toArray, List.set_cons_zero, List.set_cons_succ]
        refine wpAnyH_take (i := 1) (v := _) rfl (by kernel_rfl) (by kernel_rfl) (by kernel_rfl) (fun _ _ _ h => h) (Or.inl ⟨by kernel_rfl, fun w _ => by go_simp <;> with_reducible rfl⟩) hHeld ?_
        simp only [List.getElem_toArray, List.getElem_cons_succ, List.getElem_cons_zero, Act.put, List.setIfInBounds_toArray, List.set_cons_zero, List.set_cons_succ]
        refine wpAnyH_take (i := 2) (v := _) rfl (by kernel_rfl) (by kernel_rfl) (by kernel_rfl) (fun _ _ _ h => h) (Or.inl ⟨by kernel_rfl, fun w _ => by go_simp <;> with_reducible rfl⟩) hHeld ?_
        simp only [List.getElem_toArray, List.getElem_cons_succ, List.getElem_cons_zero, Act.put, List.setIfInBounds_toArray, List.set_cons_zero, List.set_cons_succ]
        refine wpAnyH_take (i := 3) (v := _) rfl (by kernel_rfl) (by kernel_rfl) (by kernel_rfl) (fun _ _ _ h => h) (Or.inl ⟨by kernel_rfl, fun w _ => by go_simp <;> with_reducible rfl⟩) hHeld ?_
        simp only [List.getElem_toArray, List.getElem_cons_succ, List.getElem_cons_zero, Act.put, List.setIfInBounds_toArray, List.set_cons_zero, List.set_cons_succ]
        refine wpAnyH_take (i := 4) (v := _) rfl (by kernel_rfl) (by kernel_rfl) (by kernel_rfl) (fun _ _ _ h => h) (Or.inl ⟨by kernel_rfl, fun w _ => by go_simp <;> with_reducible rfl⟩) hHeld ?_
        simp only [List.getElem_toArray, List.getElem_cons_succ, List.getElem_cons_zero, Act.put, List.setIfInBounds_toArray, List.set_cons_zero, List.set_cons_succ]
        refine wpAnyH_take (i := 5) (v := .int .i64 kd) rfl (by kernel_rfl) (by kernel_rfl) (by kernel_rfl) (fun _ _ _ h => h) (Or.inl ⟨by kernel_rfl, fun W h => by have c0 := (HEL.out W h.2.2.1).1; go_simp <;> with_reducible rfl⟩) hHeld ?_
        simp only [List.getElem_toArray, List.getElem_cons_succ, List.getElem_cons_zero, Act.put, List.setIfInBounds_toArray, List.set_cons_zero, List.set_cons_succ]
        refine wpAnyH_take (i := 6) (v := _) rfl (by kernel_rfl) (by kernel_rfl) (by kernel_rfl) (fun _ _ _ h => h) (Or.inl ⟨by kernel_rfl, fun w _ => by go_simp <;> with_reducible rfl⟩) hHeld ?_
        simp only [List.getElem_toArray, List.getElem_cons_succ, List.getElem_cons_zero, Act.put, List.setIfInBounds_toArray, List.set_cons_zero, List.set_cons_succ]
        refine wpAnyH_take (i := 7) (v := _) rfl (by kernel_rfl) (by kernel_rfl) (by kernel_rfl) (fun _ _ _ h => h) (Or.inl ⟨by kernel_rfl, fun w _ => by go_simp <;> with_reducible rfl⟩) hHeld ?_
        simp only [List.getElem_toArray, List.getElem_cons_succ, List.getElem_cons_zero, Act.put, List.setIfInBounds_toArray, List.set_cons_zero, List.set_cons_succ]
        refine wpAnyH_take (i := 8) (v := _) rfl (by kernel_rfl) (by kernel_rfl) (by kernel_rfl) (fun _ _ _ h => h) (Or.inl ⟨by kernel_rfl, fun w _ => by go_simp <;> with_reducible rfl⟩) hHeld ?_
        simp only [List.getElem_toArray, List.getElem_cons_succ, List.getElem_cons_zero, Act.put, List.setIfInBounds_toArray, List.set_cons_zero, List.set_cons_succ]
        refine wpAnyH_take (i := 9) (v := _) rfl (by kernel_rfl) (by kernel_rfl) (by kernel_rfl) (fun _ _ _ h => h) (Or.inl ⟨by kernel_rfl, fun w _ => by go_simp <;> with_reducible rfl⟩) hHeld ?_
        simp only [List.getElem_toArray, List.getElem_cons_succ, List.getElem_cons_zero, Act.put, List.setIfInBounds_toArray, List.set_cons_zero, List.set_cons_succ]
        refine wpAnyH_take (i := 10) (v := .int .i64 nd) rfl (by kernel_rfl) (by kernel_rfl) (by kernel_rfl) (fun _ _ _ h => h) (Or.inl ⟨by kernel_rfl, fun W h => by have c1 := (HEL.out W h.2.2.1).2.1; go_simp <;> with_reducible rfl⟩) hHeld ?_
        simp only [List.getElem_toArray, List.getElem_cons_succ, List.getElem_cons_zero, Act.put, List.setIfInBounds_toArray, List.set_cons_zero, List.set_cons_succ]
        refine wpAnyH_ready (rs := [11, 15, 16]) (by kernel_rfl) (by simp) ?_
        refine AllReadyH.cons rfl (fun K hK => ?_) (AllReadyH.cons rfl (fun K hK => ?_) (AllReadyH.cons rfl (fun K hK => ?_) AllReadyH.nil))
        · go_simp
          refine (HTK.out _ (HRX.out _ hHeld.2.2.1)).mono ?_
          rintro ee v0c ⟨A2, c2, rfl, hc2, hrd2, hb⟩
          have hI : RdS v0c w.heap.size g L at' e ∧ v0c.heap[w2.heap.size]? = some (.cells (rdC A1 x.length c1 e) 70 (0, 0)) ∧ Below w.heap.size w v0c ∧ wr.heap.size ≤ v0c.heap.size := ⟨hHeld.1.below hb, blk_below hHeld.2.1 hb, below_then hHeld.2.2.1 hHeld.2.2.1.size hb, Nat.le_trans hHeld.2.2.2 hb.size⟩
          refine hK.out _ _ hI (fun hHeld => ?_)
          clear hK K hI
          try simp only [List.getElem_toArray, List.getElem_cons_succ, List.getElem_cons_zero, Act.put, List.setIfInBounds_toArray, List.set_cons_zero, List.set_cons_succ]
          clear hb
          refine wpAnyH_take (i := 12) (v := _) rfl (by kernel_rfl) (by kernel_rfl) (by kernel_rfl) (fun _ _ _ h => h) (Or.inl ⟨by kernel_rfl, fun w _ => by go_simp <;> with_reducible rfl⟩) hHeld ?_
          simp only [List.getElem_toArray, List.getElem_cons_succ, List.getElem_cons_zero, Act.put, List.setIfInBounds_toArray, List.set_cons_zero, List.set_cons_succ]
          refine wpAnyH_take (i := 13) (v := _) rfl (by kernel_rfl) (by kernel_rfl) (by kernel_rfl) (fun _ _ _ h => h) (Or.inl ⟨by kernel_rfl, fun w _ => by go_simp <;> with_reducible rfl⟩) hHeld ?_
          simp only [List.getElem_toArray, List.getElem_cons_succ, List.getElem_cons_zero, Act.put, List.setIfInBounds_toArray, List.set_cons_zero, List.set_cons_succ]
          refine wpAnyH_take (i := 14) (v := _) rfl (by kernel_rfl) (by kernel_rfl) (by kernel_rfl) (fun _ _ _ h => h) (Or.inl ⟨by kernel_rfl, fun w _ => by go_simp <;> with_reducible rfl⟩) hHeld ?_
          simp only [List.getElem_toArray, List.getElem_cons_succ, List.getElem_cons_zero, Act.put, List.setIfInBounds_toArray, List.set_cons_zero, List.set_cons_succ]
          refine wpAnyH_ready (rs := [15, 16]) (by kernel_rfl) (by simp) ?_
          refine AllReadyH.cons rfl (fun K hK => ?_) (AllReadyH.cons rfl (fun K hK => ?_) AllReadyH.nil)
          · rw [if_pos (by rfl)]
            refine wp_allocZ 73 rfl _ zeroPt ?_
            obtain ⟨v1p, hW⟩ : ∃ w', World.alloc v0c (.cells zeroP 73) = w' := ⟨_, rfl⟩
            rw [hW]
            have hb : Below v0c.heap.size v0c v1p := hW ▸ below_alloc (Below.refl _ _) _
            have N15 : v1p.heap[v0c.heap.size]? = some (.cells zeroP 73 (0, 0)) := hW ▸ blk_new v0c _
            have L15 : wr.heap.size ≤ v0c.heap.size := hHeld.2.2.2
            clear hW
            have hI : RdS v1p w.heap.size g L at' e ∧ v1p.heap[w2.heap.size]? = some (.cells (rdC A1 x.length c1 e) 70 (0, 0)) ∧ Below w.heap.size w v1p ∧ wr.heap.size ≤ v1p.heap.size := ⟨hHeld.1.below hb, blk_below hHeld.2.1 hb, below_then hHeld.2.2.1 hHeld.2.2.1.size hb, Nat.le_trans hHeld.2.2.2 hb.size⟩
            refine hK.out _ _ hI (fun hHeld => ?_)
            clear hK K hI
            try simp only [List.getElem_toArray, List.getElem_cons_succ, List.getElem_cons_zero, Act.put, List.setIfInBounds_toArray, List.set_cons_zero, List.set_cons_succ]
            clear hb
            refine wpAnyH_ready (rs := [16]) (by kernel_rfl) (by simp) ?_
            refine AllReadyH.cons rfl (fun K hK => ?_) AllReadyH.nil
            · rw [if_pos (by rfl)]
              refine wp_allocZ 70 rfl _ zeroRd ?_
              obtain ⟨v2r, hW⟩ : ∃ w', World.alloc v1p (.cells #[.slice none 0 0, .int .i64 0] 70) = w' := ⟨_, rfl⟩
              rw [hW]
              have hb : Below v1p.heap.size v1p v2r := hW ▸ below_alloc (Below.refl _ _) _
              have N16 : v2r.heap[v1p.heap.size]? = some (.cells #[.slice none 0 0, .int .i64 0] 70 (0, 0)) := hW ▸ blk_new v1p _
              have L16 : wr.heap.size ≤ v1p.heap.size := hHeld.2.2.2
              clear hW
              have N15 := blk_below N15 hb
              have hI : RdS v2r w.heap.size g L at' e ∧ v2r.heap[w2.heap.size]? = some (.cells (rdC A1 x.length c1 e) 70 (0, 0)) ∧ Below w.heap.size w v2r ∧ wr.heap.size ≤ v2r.heap.size := ⟨hHeld.1.below hb, blk_below hHeld.2.1 hb, below_then hHeld.2.2.1 hHeld.2.2.1.size hb, Nat.le_trans hHeld.2.2.2 hb.size⟩
              refine hK.out _ _ hI (fun hHeld => ?_)
              clear hK K hI
              try simp only [List.getElem_toArray, List.getElem_cons_succ, List.getElem_cons_zero, Act.put, List.setIfInBounds_toArray, List.set_cons_zero, List.set_cons_succ]
              clear hb
              have NE : v0c.heap.size ≠ v1p.heap.size := blk_ne N15 N16 (by decide)
              have NG : v0c.heap.size ≠ w2.heap.size := blk_ne N15 hHeld.2.1 (by decide)
              have NR : v1p.heap.size ≠ w2.heap.size := by have := HG8L.out; omega
              have M10 : v0c.heap.size ≠ g := hHeld.1.ne N15 (by decide)
              have M11 : v1p.heap.size ≠ g := hHeld.1.ne N16 (by decide)
              have B10 : w.heap.size ≤ v0c.heap.size := Nat.le_trans HWR.out L15
              have B11 : w.heap.size ≤ v1p.heap.size := Nat.le_trans HWR.out L16
              have hI5 : RdS (v2r.setRow v0c.heap.size P) w.heap.size g L at' e ∧ (v2r.setRow v0c.heap.size P).heap[w2.heap.size]? = some (.cells (rdC A1 x.length c1 e) 70 (0, 0)) ∧ Below w.heap.size w (v2r.setRow v0c.heap.size P) ∧ wr.heap.size ≤ (v2r.setRow v0c.heap.size P).heap.size := ⟨rds_setRow hHeld.1 M10 N15 (by decide) P, (setRow_other _ _ _ P NG.symm).trans hHeld.2.1, below_setRow hHeld.2.2.1 B10 P, by rw [setRow_size]; exact hHeld.2.2.2⟩
              have N16' := (setRow_other v2r v0c.heap.size v1p.heap.size P NE.symm).trans N16
              have hI6 : RdS ((v2r.setRow v0c.heap.size P).setRow v1p.heap.size (rdC A2 y.length c2 e2)) w.heap.size g L at' e ∧ ((v2r.setRow v0c.heap.size P).setRow v1p.heap.size (rdC A2 y.length c2 e2)).heap[w2.heap.size]? = some (.cells (rdC A1 x.length c1 e) 70 (0, 0)) ∧ Below w.heap.size w ((v2r.setRow v0c.heap.size P).setRow v1p.heap.size (rdC A2 y.length c2 e2)) ∧ wr.heap.size ≤ ((v2r.setRow v0c.heap.size P).setRow v1p.heap.size (rdC A2 y.length c2 e2)).heap.size := ⟨rds_setRow hI5.1 M11 N16' (by decide) _, (setRow_other _ _ _ _ NR.symm).trans hI5.2.1, below_setRow hI5.2.2.1 B11 _, by rw [setRow_size]; exact hI5.2.2.2⟩
              have F10 : ((v2r.setRow v0c.heap.size P).setRow v1p.heap.size (rdC A2 y.length c2 e2)).heap[v0c.heap.size]? = some (.cells P 73 (0, 0)) := (setRow_other _ _ _ _ NE).trans (setRow_heap v2r v0c.heap.size _ P _ _ N15)
              have F11 : ((v2r.setRow v0c.heap.size P).setRow v1p.heap.size (rdC A2 y.length c2 e2)).heap[v1p.heap.size]? = some (.cells (rdC A2 y.length c2 e2) 70 (0, 0)) := setRow_heap _ _ _ _ _ _ N16'
              refine wpAnyH_ready (rs := [17]) (by kernel_rfl) (by simp) ?_
              refine AllReadyH.cons rfl (fun K hK => ?_) AllReadyH.nil
              rw [if_pos (by rfl)]
              refine wp_store_row 73 _ _ rfl v0c.heap.size P rfl rfl 73 _ N15 HPI.out HPZ.out HP1.out ?_
              refine hK.out _ _ hI5 (fun hHeld => ?_)
              clear hK K
              try simp only [List.getElem_toArray, List.getElem_cons_succ, List.getElem_cons_zero, Act.put, List.setIfInBounds_toArray, List.set_cons_zero, List.set_cons_succ]
              refine wpAnyH_ready (rs := [18]) (by kernel_rfl) (by simp) ?_
              refine AllReadyH.cons rfl (fun K hK => ?_) AllReadyH.nil
              rw [if_pos (by rfl)]
              refine wp_store_row 70 _ _ rfl v1p.heap.size (rdC A2 y.length c2 e2) rfl rfl 70 _ N16' infoRd rfl (rdC_one _ _ _ _) ?_
              refine hK.out _ _ hI6 (fun hHeld => ?_)
              clear hK K
              try simp only [List.getElem_toArray, List.getElem_cons_succ, List.getElem_cons_zero, Act.put, List.setIfInBounds_toArray, List.set_cons_zero, List.set_cons_succ]
              refine wpAnyH_done (by kernel_rfl) ?_ _
              go_wp2_with fail
              go_meet
              exact ⟨_, _, A2, c2, rfl, rfl, hc2, F10, F11, hI6.2.1, hI6.1, hrd2, NR, M10, NG, hI6.2.2.1⟩
          · rw [if_pos (by rfl)]
            refine wp_allocZ 70 rfl _ zeroRd ?_
            obtain ⟨v1r, hW⟩ : ∃ w', World.alloc v0c (.cells #[.slice none 0 0, .int .i64 0] 70) = w' := ⟨_, rfl⟩
            rw [hW]
            have hb : Below v0c.heap.size v0c v1r := hW ▸ below_alloc (Below.refl _ _) _
            have N16 : v1r.heap[v0c.heap.size]? = some (.cells #[.slice none 0 0, .int .i64 0] 70 (0, 0)) := hW ▸ blk_new v0c _
            have L16 : wr.heap.size ≤ v0c.heap.size := hHeld.2.2.2
            clear hW
            have hI : RdS v1r w.heap.size g L at' e ∧ v1r.heap[w2.heap.size]? = some (.cells (rdC A1 x.length c1 e) 70 (0, 0)) ∧ Below w.heap.size w v1r ∧ wr.heap.size ≤ v1r.heap.size := ⟨hHeld.1.below hb, blk_below hHeld.2.1 hb, below_then hHeld.2.2.1 hHeld.2.2.1.size hb, Nat.le_trans hHeld.2.2.2 hb.size⟩
            refine hK.out _ _ hI (fun hHeld => ?_)
            clear hK K hI
            try simp only [List.getElem_toArray, List.getElem_cons_succ, List.getElem_cons_zero, Act.put, List.setIfInBounds_toArray, List.set_cons_zero, List.set_cons_succ]
            clear hb
            refine wpAnyH_ready (rs := [15]) (by kernel_rfl) (by simp) ?_
            refine AllReadyH.cons rfl (fun K hK => ?_) AllReadyH.nil
            · rw [if_pos (by rfl)]
              refine wp_allocZ 73 rfl _ zeroPt ?_
              obtain ⟨v2p, hW⟩ : ∃ w', World.alloc v1r (.cells zeroP 73) = w' := ⟨_, rfl⟩
              rw [hW]
              have hb : Below v1r.heap.size v1r v2p := hW ▸ below_alloc (Below.refl _ _) _
              have N15 : v2p.heap[v1r.heap.size]? = some (.cells zeroP 73 (0, 0)) := hW ▸ blk_new v1r _
              have L15 : wr.heap.size ≤ v1r.heap.size := hHeld.2.2.2
              clear hW
              have N16 := blk_below N16 hb
              have hI : RdS v2p w.heap.size g L at' e ∧ v2p.heap[w2.heap.size]? = some (.cells (rdC A1 x.length c1 e) 70 (0, 0)) ∧ Below w.heap.size w v2p ∧ wr.heap.size ≤ v2p.heap.size := ⟨hHeld.1.below hb, blk_below hHeld.2.1 hb, below_then hHeld.2.2.1 hHeld.2.2.1.size hb, Nat.le_trans hHeld.2.2.2 hb.size⟩
              refine hK.out _ _ hI (fun hHeld => ?_)
              clear hK K hI
              try simp only [List.getElem_toArray, List.getElem_cons_succ, List.getElem_cons_zero, Act.put, List.setIfInBounds_toArray, List.set_cons_zero, List.set_cons_succ]
              clear hb
              have NE : v1r.heap.size ≠ v0c.heap.size := blk_ne N15 N16 (by decide)
              have NG : v1r.heap.size ≠ w2.heap.size := blk_ne N15 hHeld.2.1 (by decide)
              have NR : v0c.heap.size ≠ w2.heap.size := by have := HG8L.out; omega
              have M10 : v1r.heap.size ≠ g := hHeld.1.ne N15 (by decide)
              have M11 : v0c.heap.size ≠ g := hHeld.1.ne N16 (by decide)
              have B10 : w.heap.size ≤ v1r.heap.size := Nat.le_trans HWR.out L15
              have B11 : w.heap.size ≤ v0c.heap.size := Nat.le_trans HWR.out L16
              have hI5 : RdS (v2p.setRow v1r.heap.size P) w.heap.size g L at' e ∧ (v2p.setRow v1r.heap.size P).heap[w2.heap.size]? = some (.cells (rdC A1 x.length c1 e) 70 (0, 0)) ∧ Below w.heap.size w (v2p.setRow v1r.heap.size P) ∧ wr.heap.size ≤ (v2p.setRow v1r.heap.size P).heap.size := ⟨rds_setRow hHeld.1 M10 N15 (by decide) P, (setRow_other _ _ _ P NG.symm).trans hHeld.2.1, below_setRow hHeld.2.2.1 B10 P, by rw [setRow_size]; exact hHeld.2.2.2⟩
              have N16' := (setRow_other v2p v1r.heap.size v0c.heap.size P NE.symm).trans N16
              have hI6 : RdS ((v2p.setRow v1r.heap.size P).setRow v0c.heap.size (rdC A2 y.length c2 e2)) w.heap.size g L at' e ∧ ((v2p.setRow v1r.heap.size P).setRow v0c.heap.size (rdC A2 y.length c2 e2)).heap[w2.heap.size]? = some (.cells (rdC A1 x.length c1 e) 70 (0, 0)) ∧ Below w.heap.size w ((v2p.setRow v1r.heap.size P).setRow v0c.heap.size (rdC A2 y.length c2 e2)) ∧ wr.heap.size ≤ ((v2p.setRow v1r.heap.size P).setRow v0c.heap.size (rdC A2 y.length c2 e2)).heap.size := ⟨rds_setRow hI5.1 M11 N16' (by decide) _, (setRow_other _ _ _ _ NR.symm).trans hI5.2.1, below_setRow hI5.2.2.1 B11 _, by rw [setRow_size]; exact hI5.2.2.2⟩
              have F10 : ((v2p.setRow v1r.heap.size P).setRow v0c.heap.size (rdC A2 y.length c2 e2)).heap[v1r.heap.size]? = some (.cells P 73 (0, 0)) := (setRow_other _ _ _ _ NE).trans (setRow_heap v2p v1r.heap.size _ P _ _ N15)
              have F11 : ((v2p.setRow v1r.heap.size P).setRow v0c.heap.size (rdC A2 y.length c2 e2)).heap[v0c.heap.size]? = some (.cells (rdC A2 y.length c2 e2) 70 (0, 0)) := setRow_heap _ _ _ _ _ _ N16'
              refine wpAnyH_ready (rs := [17]) (by kernel_rfl) (by simp) ?_
              refine AllReadyH.cons rfl (fun K hK => ?_) AllReadyH.nil
              rw [if_pos (by rfl)]
              refine wp_store_row 73 _ _ rfl v1r.heap.size P rfl rfl 73 _ N15 HPI.out HPZ.out HP1.out ?_
              refine hK.out _ _ hI5 (fun hHeld => ?_)
              clear hK K
              try simp only [List.getElem_toArray, List.getElem_cons_succ, List.getElem_cons_zero, Act.put, List.setIfInBounds_toArray, List.set_cons_zero, List.set_cons_succ]
              refine wpAnyH_ready (rs := [18]) (by kernel_rfl) (by simp) ?_
              refine AllReadyH.cons rfl (fun K hK => ?_) AllReadyH.nil
              rw [if_pos (by rfl)]
              refine wp_store_row 70 _ _ rfl v0c.heap.size (rdC A2 y.length c2 e2) rfl rfl 70 _ N16' infoRd rfl (rdC_one _ _ _ _) ?_
              refine hK.out _ _ hI6 (fun hHeld => ?_)
              clear hK K
              try simp only [List.getElem_toArray, List.getElem_cons_succ, List.getElem_cons_zero, Act.put, List.setIfInBounds_toArray, List.set_cons_zero, List.set_cons_succ]
              refine wpAnyH_done (by kernel_rfl) ?_ _
              go_wp2_with fail
              go_meet
              exact ⟨_, _, A2, c2, rfl, rfl, hc2, F10, F11, hI6.2.1, hI6.1, hrd2, NR, M10, NG, hI6.2.2.1⟩
        · rw [if_pos (by rfl)]
          refine wp_allocZ 73 rfl _ zeroPt ?_
          obtain ⟨v0p, hW⟩ : ∃ w', World.alloc wr.drew (.cells zeroP 73) = w' := ⟨_, rfl⟩
          rw [hW]
          have hb : Below wr.drew.heap.size wr.drew v0p := hW ▸ below_alloc (Below.refl _ _) _
          have N15 : v0p.heap[wr.drew.heap.size]? = some (.cells zeroP 73 (0, 0)) := hW ▸ blk_new wr.drew _
          have L15 : wr.heap.size ≤ wr.drew.heap.size := hHeld.2.2.2
          clear hW
          have hI : RdS v0p w.heap.size g L at' e ∧ v0p.heap[w2.heap.size]? = some (.cells (rdC A1 x.length c1 e) 70 (0, 0)) ∧ Below w.heap.size w v0p ∧ wr.heap.size ≤ v0p.heap.size := ⟨hHeld.1.below hb, blk_below hHeld.2.1 hb, below_then hHeld.2.2.1 hHeld.2.2.1.size hb, Nat.le_trans hHeld.2.2.2 hb.size⟩
          refine hK.out _ _ hI (fun hHeld => ?_)
          clear hK K hI
          try simp only [List.getElem_toArray, List.getElem_cons_succ, List.getElem_cons_zero, Act.put, List.setIfInBounds_toArray, List.set_cons_zero, List.set_cons_succ]
          clear hb
          refine wpAnyH_ready (rs := [11, 16]) (by kernel_rfl) (by simp) ?_
          refine AllReadyH.cons rfl (fun K hK => ?_) (AllReadyH.cons rfl (fun K hK => ?_) AllReadyH.nil)
          · go_simp
            refine (HTK.out _ (HRX.out _ hHeld.2.2.1)).mono ?_
            rintro ee v1c ⟨A2, c2, rfl, hc2, hrd2, hb⟩
            have N15 := blk_below N15 hb
            have hI : RdS v1c w.heap.size g L at' e ∧ v1c.heap[w2.heap.size]? = some (.cells (rdC A1 x.length c1 e) 70 (0, 0)) ∧ Below w.heap.size w v1c ∧ wr.heap.size ≤ v1c.heap.size := ⟨hHeld.1.below hb, blk_below hHeld.2.1 hb, below_then hHeld.2.2.1 hHeld.2.2.1.size hb, Nat.le_trans hHeld.2.2.2 hb.size⟩
            refine hK.out _ _ hI (fun hHeld => ?_)
            clear hK K hI
            try simp only [List.getElem_toArray, List.getElem_cons_succ, List.getElem_cons_zero, Act.put, List.setIfInBounds_toArray, List.set_cons_zero, List.set_cons_succ]
            clear hb
            refine wpAnyH_take (i := 12) (v := _) rfl (by kernel_rfl) (by kernel_rfl) (by kernel_rfl) (fun _ _ _ h => h) (Or.inl ⟨by kernel_rfl, fun w _ => by go_simp <;> with_reducible rfl⟩) hHeld ?_
            simp only [List.getElem_toArray, List.getElem_cons_succ, List.getElem_cons_zero, Act.put, List.setIfInBounds_toArray, List.set_cons_zero, List.set_cons_succ]
            refine wpAnyH_take (i := 13) (v := _) rfl (by kernel_rfl) (by kernel_rfl) (by kernel_rfl) (fun _ _ _ h => h) (Or.inl ⟨by kernel_rfl, fun w _ => by go_simp <;> with_reducible rfl⟩) hHeld ?_
            simp only [List.getElem_toArray, List.getElem_cons_succ, List.getElem_cons_zero, Act.put, List.setIfInBounds_toArray, List.set_cons_zero, List.set_cons_succ]
            refine wpAnyH_take (i := 14) (v := _) rfl (by kernel_rfl) (by kernel_rfl) (by kernel_rfl) (fun _ _ _ h => h) (Or.inl ⟨by kernel_rfl, fun w _ => by go_simp <;> with_reducible rfl⟩) hHeld ?_
            simp only [List.getElem_toArray, List.getElem_cons_succ, List.getElem_cons_zero, Act.put, List.setIfInBounds_toArray, List.set_cons_zero, List.set_cons_succ]
            refine wpAnyH_ready (rs := [16]) (by kernel_rfl) (by simp) ?_
            refine AllReadyH.cons rfl (fun K hK => ?_) AllReadyH.nil
            · rw [if_pos (by rfl)]
              refine wp_allocZ 70 rfl _ zeroRd ?_
              obtain ⟨v2r, hW⟩ : ∃ w', World.alloc v1c (.cells #[.slice none 0 0, .int .i64 0] 70) = w' := ⟨_, rfl⟩
              rw [hW]
              have hb : Below v1c.heap.size v1c v2r := hW ▸ below_alloc (Below.refl _ _) _
              have N16 : v2r.heap[v1c.heap.size]? = some (.cells #[.slice none 0 0, .int .i64 0] 70 (0, 0)) := hW ▸ blk_new v1c _
              have L16 : wr.heap.size ≤ v1c.heap.size := hHeld.2.2.2
              clear hW
              have N15 := blk_below N15 hb
              have hI : RdS v2r w.heap.size g L at' e ∧ v2r.heap[w2.heap.size]? = some (.cells (rdC A1 x.length c1 e) 70 (0, 0)) ∧ Below w.heap.size w v2r ∧ wr.heap.size ≤ v2r.heap.size := ⟨hHeld.1.below hb, blk_below hHeld.2.1 hb, below_then hHeld.2.2.1 hHeld.2.2.1.size hb, Nat.le_trans hHeld.2.2.2 hb.size⟩
              refine hK.out _ _ hI (fun hHeld => ?_)
              clear hK K hI
              try simp only [List.getElem_toArray, List.getElem_cons_succ, List.getElem_cons_zero, Act.put, List.setIfInBounds_toArray, List.set_cons_zero, List.set_cons_succ]
              clear hb
              have NE : wr.drew.heap.size ≠ v1c.heap.size := blk_ne N15 N16 (by decide)
              have NG : wr.drew.heap.size ≠ w2.heap.size := blk_ne N15 hHeld.2.1 (by decide)
              have NR : v1c.heap.size ≠ w2.heap.size := by have := HG8L.out; omega
              have M10 : wr.drew.heap.size ≠ g := hHeld.1.ne N15 (by decide)
              have M11 : v1c.heap.size ≠ g := hHeld.1.ne N16 (by decide)
              have B10 : w.heap.size ≤ wr.drew.heap.size := Nat.le_trans HWR.out L15
              have B11 : w.heap.size ≤ v1c.heap.size := Nat.le_trans HWR.out L16
              have hI5 : RdS (v2r.setRow wr.drew.heap.size P) w.heap.size g L at' e ∧ (v2r.setRow wr.drew.heap.size P).heap[w2.heap.size]? = some (.cells (rdC A1 x.length c1 e) 70 (0, 0)) ∧ Below w.heap.size w (v2r.setRow wr.drew.heap.size P) ∧ wr.heap.size ≤ (v2r.setRow wr.drew.heap.size P).heap.size := ⟨rds_setRow hHeld.1 M10 N15 (by decide) P, (setRow_other _ _ _ P NG.symm).trans hHeld.2.1, below_setRow hHeld.2.2.1 B10 P, by rw [setRow_size]; exact hHeld.2.2.2⟩
              have N16' := (setRow_other v2r wr.drew.heap.size v1c.heap.size P NE.symm).trans N16
              have hI6 : RdS ((v2r.setRow wr.drew.heap.size P).setRow v1c.heap.size (rdC A2 y.length c2 e2)) w.heap.size g L at' e ∧ ((v2r.setRow wr.drew.heap.size P).setRow v1c.heap.size (rdC A2 y.length c2 e2)).heap[w2.heap.size]? = some (.cells (rdC A1 x.length c1 e) 70 (0, 0)) ∧ Below w.heap.size w ((v2r.setRow wr.drew.heap.size P).setRow v1c.heap.size (rdC A2 y.length c2 e2)) ∧ wr.heap.size ≤ ((v2r.setRow wr.drew.heap.size P).setRow v1c.heap.size (rdC A2 y.length c2 e2)).heap.size := ⟨rds_setRow hI5.1 M11 N16' (by decide) _, (setRow_other _ _ _ _ NR.symm).trans hI5.2.1, below_setRow hI5.2.2.1 B11 _, by rw [setRow_size]; exact hI5.2.2.2⟩
              have F10 : ((v2r.setRow wr.drew.heap.size P).setRow v1c.heap.size (rdC A2 y.length c2 e2)).heap[wr.drew.heap.size]? = some (.cells P 73 (0, 0)) := (setRow_other _ _ _ _ NE).trans (setRow_heap v2r wr.drew.heap.size _ P _ _ N15)
              have F11 : ((v2r.setRow wr.drew.heap.size P).setRow v1c.heap.size (rdC A2 y.length c2 e2)).heap[v1c.heap.size]? = some (.cells (rdC A2 y.length c2 e2) 70 (0, 0)) := setRow_heap _ _ _ _ _ _ N16'
              refine wpAnyH_ready (rs := [17]) (by kernel_rfl) (by simp) ?_
              refine AllReadyH.cons rfl (fun K hK => ?_) AllReadyH.nil
              rw [if_pos (by rfl)]
              refine wp_store_row 73 _ _ rfl wr.drew.heap.size P rfl rfl 73 _ N15 HPI.out HPZ.out HP1.out ?_
              refine hK.out _ _ hI5 (fun hHeld => ?_)
              clear hK K
              try simp only [List.getElem_toArray, List.getElem_cons_succ, List.getElem_cons_zero, Act.put, List.setIfInBounds_toArray, List.set_cons_zero, List.set_cons_succ]
              refine wpAnyH_ready (rs := [18]) (by kernel_rfl) (by simp) ?_
              refine AllReadyH.cons rfl (fun K hK => ?_) AllReadyH.nil
              rw [if_pos (by rfl)]
              refine wp_store_row 70 _ _ rfl v1c.heap.size (rdC A2 y.length c2 e2) rfl rfl 70 _ N16' infoRd rfl (rdC_one _ _ _ _) ?_
              refine hK.out _ _ hI6 (fun hHeld => ?_)
              clear hK K
              try simp only [List.getElem_toArray, List.getElem_cons_succ, List.getElem_cons_zero, Act.put, List.setIfInBounds_toArray, List.set_cons_zero, List.set_cons_succ]
              refine wpAnyH_done (by kernel_rfl) ?_ _
              go_wp2_with fail
              go_meet
              exact ⟨_, _, A2, c2, rfl, rfl, hc2, F10, F11, hI6.2.1, hI6.1, hrd2, NR, M10, NG, hI6.2.2.1⟩
          · rw [if_pos (by rfl)]
            refine wp_allocZ 70 rfl _ zeroRd ?_
            obtain ⟨v1r, hW⟩ : ∃ w', World.alloc v0p (.cells #[.slice none 0 0, .int .i64 0] 70) = w' := ⟨_, rfl⟩
            rw [hW]
            have hb : Below v0p.heap.size v0p v1r := hW ▸ below_alloc (Below.refl _ _) _
            have N16 : v1r.heap[v0p.heap.size]? = some (.cells #[.slice none 0 0, .int .i64 0] 70 (0, 0)) := hW ▸ blk_new v0p _
            have L16 : wr.heap.size ≤ v0p.heap.size := hHeld.2.2.2
            clear hW
            have N15 := blk_below N15 hb
            have hI : RdS v1r w.heap.size g L at' e ∧ v1r.heap[w2.heap.size]? = some (.cells (rdC A1 x.length c1 e) 70 (0, 0)) ∧ Below w.heap.size w v1r ∧ wr.heap.size ≤ v1r.heap.size := ⟨hHeld.1.below hb, blk_below hHeld.2.1 hb, below_then hHeld.2.2.1 hHeld.2.2.1.size hb, Nat.le_trans hHeld.2.2.2 hb.size⟩
            refine hK.out _ _ hI (fun hHeld => ?_)
            clear hK K hI
            try simp only [List.getElem_toArray, List.getElem_cons_succ, List.getElem_cons_zero, Act.put, List.setIfInBounds_toArray, List.set_cons_zero, List.set_cons_succ]
            clear hb
            refine wpAnyH_ready (rs := [11]) (by kernel_rfl) (by simp) ?_
            refine AllReadyH.cons rfl (fun K hK => ?_) AllReadyH.nil
            · go_simp
              refine (HTK.out _ (HRX.out _ hHeld.2.2.1)).mono ?_
              rintro ee v2c ⟨A2, c2, rfl, hc2, hrd2, hb⟩
              have N15 := blk_below N15 hb
              have N16 := blk_below N16 hb
              have hI : RdS v2c w.heap.size g L at' e ∧ v2c.heap[w2.heap.size]? = some (.cells (rdC A1 x.length c1 e) 70 (0, 0)) ∧ Below w.heap.size w v2c ∧ wr.heap.size ≤ v2c.heap.size := ⟨hHeld.1.below hb, blk_below hHeld.2.1 hb, below_then hHeld.2.2.1 hHeld.2.2.1.size hb, Nat.le_trans hHeld.2.2.2 hb.size⟩
              refine hK.out _ _ hI (fun hHeld => ?_)
              clear hK K hI
              try simp only [List.getElem_toArray, List.getElem_cons_succ, List.getElem_cons_zero, Act.put, List.setIfInBounds_toArray, List.set_cons_zero, List.set_cons_succ]
              clear hb
              refine wpAnyH_take (i := 12) (v := _) rfl (by kernel_rfl) (by kernel_rfl) (by kernel_rfl) (fun _ _ _ h => h) (Or.inl ⟨by kernel_rfl, fun w _ => by go_simp <;> with_reducible rfl⟩) hHeld ?_
              simp only [List.getElem_toArray, List.getElem_cons_succ, List.getElem_cons_zero, Act.put, List.setIfInBounds_toArray, List.set_cons_zero, List.set_cons_succ]
              refine wpAnyH_take (i := 13) (v := _) rfl (by kernel_rfl) (by kernel_rfl) (by kernel_rfl) (fun _ _ _ h => h) (Or.inl ⟨by kernel_rfl, fun w _ => by go_simp <;> with_reducible rfl⟩) hHeld ?_
              simp only [List.getElem_toArray, List.getElem_cons_succ, List.getElem_cons_zero, Act.put, List.setIfInBounds_toArray, List.set_cons_zero, List.set_cons_succ]
              refine wpAnyH_take (i := 14) (v := _) rfl (by kernel_rfl) (by kernel_rfl) (by kernel_rfl) (fun _ _ _ h => h) (Or.inl ⟨by kernel_rfl, fun w _ => by go_simp <;> with_reducible rfl⟩) hHeld ?_
              simp only [List.getElem_toArray, List.getElem_cons_succ, List.getElem_cons_zero, Act.put, List.setIfInBounds_toArray, List.set_cons_zero, List.set_cons_succ]
              have NE : wr.drew.heap.size ≠ v0p.heap.size := blk_ne N15 N16 (by decide)
              have NG : wr.drew.heap.size ≠ w2.heap.size := blk_ne N15 hHeld.2.1 (by decide)
              have NR : v0p.heap.size ≠ w2.heap.size := by have := HG8L.out; omega
              have M10 : wr.drew.heap.size ≠ g := hHeld.1.ne N15 (by decide)
              have M11 : v0p.heap.size ≠ g := hHeld.1.ne N16 (by decide)
              have B10 : w.heap.size ≤ wr.drew.heap.size := Nat.le_trans HWR.out L15
              have B11 : w.heap.size ≤ v0p.heap.size := Nat.le_trans HWR.out L16
              have hI5 : RdS (v2c.setRow wr.drew.heap.size P) w.heap.size g L at' e ∧ (v2c.setRow wr.drew.heap.size P).heap[w2.heap.size]? = some (.cells (rdC A1 x.length c1 e) 70 (0, 0)) ∧ Below w.heap.size w (v2c.setRow wr.drew.heap.size P) ∧ wr.heap.size ≤ (v2c.setRow wr.drew.heap.size P).heap.size := ⟨rds_setRow hHeld.1 M10 N15 (by decide) P, (setRow_other _ _ _ P NG.symm).trans hHeld.2.1, below_setRow hHeld.2.2.1 B10 P, by rw [setRow_size]; exact hHeld.2.2.2⟩
              have N16' := (setRow_other v2c wr.drew.heap.size v0p.heap.size P NE.symm).trans N16
              have hI6 : RdS ((v2c.setRow wr.drew.heap.size P).setRow v0p.heap.size (rdC A2 y.length c2 e2)) w.heap.size g L at' e ∧ ((v2c.setRow wr.drew.heap.size P).setRow v0p.heap.size (rdC A2 y.length c2 e2)).heap[w2.heap.size]? = some (.cells (rdC A1 x.length c1 e) 70 (0, 0)) ∧ Below w.heap.size w ((v2c.setRow wr.drew.heap.size P).setRow v0p.heap.size (rdC A2 y.length c2 e2)) ∧ wr.heap.size ≤ ((v2c.setRow wr.drew.heap.size P).setRow v0p.heap.size (rdC A2 y.length c2 e2)).heap.size := ⟨rds_setRow hI5.1 M11 N16' (by decide) _, (setRow_other _ _ _ _ NR.symm).trans hI5.2.1, below_setRow hI5.2.2.1 B11 _, by rw [setRow_size]; exact hI5.2.2.2⟩
              have F10 : ((v2c.setRow wr.drew.heap.size P).setRow v0p.heap.size (rdC A2 y.length c2 e2)).heap[wr.drew.heap.size]? = some (.cells P 73 (0, 0)) := (setRow_other _ _ _ _ NE).trans (setRow_heap v2c wr.drew.heap.size _ P _ _ N15)
              have F11 : ((v2c.setRow wr.drew.heap.size P).setRow v0p.heap.size (rdC A2 y.length c2 e2)).heap[v0p.heap.size]? = some (.cells (rdC A2 y.length c2 e2) 70 (0, 0)) := setRow_heap _ _ _ _ _ _ N16'
              refine wpAnyH_ready (rs := [17]) (by kernel_rfl) (by simp) ?_
              refine AllReadyH.cons rfl (fun K hK => ?_) AllReadyH.nil
              rw [if_pos (by rfl)]
              refine wp_store_row 73 _ _ rfl wr.drew.heap.size P rfl rfl 73 _ N15 HPI.out HPZ.out HP1.out ?_
              refine hK.out _ _ hI5 (fun hHeld => ?_)
              clear hK K
              try simp only [List.getElem_toArray, List.getElem_cons_succ, List.getElem_cons_zero, Act.put, List.setIfInBounds_toArray, List.set_cons_zero, List.set_cons_succ]
              refine wpAnyH_ready (rs := [18]) (by kernel_rfl) (by simp) ?_
              refine AllReadyH.cons rfl (fun K hK => ?_) AllReadyH.nil
              rw [if_pos (by rfl)]
              refine wp_store_row 70 _ _ rfl v0p.heap.size (rdC A2 y.length c2 e2) rfl rfl 70 _ N16' infoRd rfl (rdC_one _ _ _ _) ?_
              refine hK.out _ _ hI6 (fun hHeld => ?_)
              clear hK K
              try simp only [List.getElem_toArray, List.getElem_cons_succ, List.getElem_cons_zero, Act.put, List.setIfInBounds_toArray, List.set_cons_zero, List.set_cons_succ]
              refine wpAnyH_done (by kernel_rfl) ?_ _
              go_wp2_with fail
              go_meet
              exact ⟨_, _, A2, c2, rfl, rfl, hc2, F10, F11, hI6.2.1, hI6.1, hrd2, NR, M10, NG, hI6.2.2.1⟩
        · rw [if_pos (by rfl)]
          refine wp_allocZ 70 rfl _ zeroRd ?_
          obtain ⟨v0r, hW⟩ : ∃ w', World.alloc wr.drew (.cells #[.slice none 0 0, .int .i64 0] 70) = w' := ⟨_, rfl⟩
          rw [hW]
          have hb : Below wr.drew.heap.size wr.drew v0r := hW ▸ below_alloc (Below.refl _ _) _
          have N16 : v0r.heap[wr.drew.heap.size]? = some (.cells #[.slice none 0 0, .int .i64 0] 70 (0, 0)) := hW ▸ blk_new wr.drew _
          have L16 : wr.heap.size ≤ wr.drew.heap.size := hHeld.2.2.2
          clear hW
          have hI : RdS v0r w.heap.size g L at' e ∧ v0r.heap[w2.heap.size]? = some (.cells (rdC A1 x.length c1 e) 70 (0, 0)) ∧ Below w.heap.size w v0r ∧ wr.heap.size ≤ v0r.heap.size := ⟨hHeld.1.below hb, blk_below hHeld.2.1 hb, below_then hHeld.2.2.1 hHeld.2.2.1.size hb, Nat.le_trans hHeld.2.2.2 hb.size⟩
          refine hK.out _ _ hI (fun hHeld => ?_)
          clear hK K hI
          try simp only [List.getElem_toArray, List.getElem_cons_succ, List.getElem_cons_zero, Act.put, List.setIfInBounds_toArray, List.set_cons_zero, List.set_cons_succ]
          clear hb
          refine wpAnyH_ready (rs := [11, 15]) (by kernel_rfl) (by simp) ?_
          refine AllReadyH.cons rfl (fun K hK => ?_) (AllReadyH.cons rfl (fun K hK => ?_) AllReadyH.nil)
          · go_simp
            refine (HTK.out _ (HRX.out _ hHeld.2.2.1)).mono ?_
            rintro ee v1c ⟨A2, c2, rfl, hc2, hrd2, hb⟩
            have N16 := blk_below N16 hb
            have hI : RdS v1c w.heap.size g L at' e ∧ v1c.heap[w2.heap.size]? = some (.cells (rdC A1 x.length c1 e) 70 (0, 0)) ∧ Below w.heap.size w v1c ∧ wr.heap.size ≤ v1c.heap.size := ⟨hHeld.1.below hb, blk_below hHeld.2.1 hb, below_then hHeld.2.2.1 hHeld.2.2.1.size hb, Nat.le_trans hHeld.2.2.2 hb.size⟩
            refine hK.out _ _ hI (fun hHeld => ?_)
            clear hK K hI
            try simp only [List.getElem_toArray, List.getElem_cons_succ, List.getElem_cons_zero, Act.put, List.setIfInBounds_toArray, List.set_cons_zero, List.set_cons_succ]
            clear hb
            refine wpAnyH_take (i := 12) (v := _) rfl (by kernel_rfl) (by kernel_rfl) (by kernel_rfl) (fun _ _ _ h => h) (Or.inl ⟨by kernel_rfl, fun w _ => by go_simp <;> with_reducible rfl⟩) hHeld ?_
            simp only [List.getElem_toArray, List.getElem_cons_succ, List.getElem_cons_zero, Act.put, List.setIfInBounds_toArray, List.set_cons_zero, List.set_cons_succ]
            refine wpAnyH_take (i := 13) (v := _) rfl (by kernel_rfl) (by kernel_rfl) (by kernel_rfl) (fun _ _ _ h => h) (Or.inl ⟨by kernel_rfl, fun w _ => by go_simp <;> with_reducible rfl⟩) hHeld ?_
            simp only [List.getElem_toArray, List.getElem_cons_succ, List.getElem_cons_zero, Act.put, List.setIfInBounds_toArray, List.set_cons_zero, List.set_cons_succ]
            refine wpAnyH_take (i := 14) (v := _) rfl (by kernel_rfl) (by kernel_rfl) (by kernel_rfl) (fun _ _ _ h => h) (Or.inl ⟨by kernel_rfl, fun w _ => by go_simp <;> with_reducible rfl⟩) hHeld ?_
            simp only [List.getElem_toArray, List.getElem_cons_succ, List.getElem_cons_zero, Act.put, List.setIfInBounds_toArray, List.set_cons_zero, List.set_cons_succ]
            refine wpAnyH_ready (rs := [15]) (by kernel_rfl) (by simp) ?_
            refine AllReadyH.cons rfl (fun K hK => ?_) AllReadyH.nil
            · rw [if_pos (by rfl)]
              refine wp_allocZ 73 rfl _ zeroPt ?_
              obtain ⟨v2p, hW⟩ : ∃ w', World.alloc v1c (.cells zeroP 73) = w' := ⟨_, rfl⟩
              rw [hW]
              have hb : Below v1c.heap.size v1c v2p := hW ▸ below_alloc (Below.refl _ _) _
              have N15 : v2p.heap[v1c.heap.size]? = some (.cells zeroP 73 (0, 0)) := hW ▸ blk_new v1c _
              have L15 : wr.heap.size ≤ v1c.heap.size := hHeld.2.2.2
              clear hW
              have N16 := blk_below N16 hb
              have hI : RdS v2p w.heap.size g L at' e ∧ v2p.heap[w2.heap.size]? = some (.cells (rdC A1 x.length c1 e) 70 (0, 0)) ∧ Below w.heap.size w v2p ∧ wr.heap.size ≤ v2p.heap.size := ⟨hHeld.1.below hb, blk_below hHeld.2.1 hb, below_then hHeld.2.2.1 hHeld.2.2.1.size hb, Nat.le_trans hHeld.2.2.2 hb.size⟩
              refine hK.out _ _ hI (fun hHeld => ?_)
              clear hK K hI
              try simp only [List.getElem_toArray, List.getElem_cons_succ, List.getElem_cons_zero, Act.put, List.setIfInBounds_toArray, List.set_cons_zero, List.set_cons_succ]
              clear hb
              have NE : v1c.heap.size ≠ wr.drew.heap.size := blk_ne N15 N16 (by decide)
              have NG : v1c.heap.size ≠ w2.heap.size := blk_ne N15 hHeld.2.1 (by decide)
              have NR : wr.drew.heap.size ≠ w2.heap.size := by have := HG8L.out; omega
              have M10 : v1c.heap.size ≠ g := hHeld.1.ne N15 (by decide)
              have M11 : wr.drew.heap.size ≠ g := hHeld.1.ne N16 (by decide)
              have B10 : w.heap.size ≤ v1c.heap.size := Nat.le_trans HWR.out L15
              have B11 : w.heap.size ≤ wr.drew.heap.size := Nat.le_trans HWR.out L16
              have hI5 : RdS (v2p.setRow v1c.heap.size P) w.heap.size g L at' e ∧ (v2p.setRow v1c.heap.size P).heap[w2.heap.size]? = some (.cells (rdC A1 x.length c1 e) 70 (0, 0)) ∧ Below w.heap.size w (v2p.setRow v1c.heap.size P) ∧ wr.heap.size ≤ (v2p.setRow v1c.heap.size P).heap.size := ⟨rds_setRow hHeld.1 M10 N15 (by decide) P, (setRow_other _ _ _ P NG.symm).trans hHeld.2.1, below_setRow hHeld.2.2.1 B10 P, by rw [setRow_size]; exact hHeld.2.2.2⟩
              have N16' := (setRow_other v2p v1c.heap.size wr.drew.heap.size P NE.symm).trans N16
              have hI6 : RdS ((v2p.setRow v1c.heap.size P).setRow wr.drew.heap.size (rdC A2 y.length c2 e2)) w.heap.size g L at' e ∧ ((v2p.setRow v1c.heap.size P).setRow wr.drew.heap.size (rdC A2 y.length c2 e2)).heap[w2.heap.size]? = some (.cells (rdC A1 x.length c1 e) 70 (0, 0)) ∧ Below w.heap.size w ((v2p.setRow v1c.heap.size P).setRow wr.drew.heap.size (rdC A2 y.length c2 e2)) ∧ wr.heap.size ≤ ((v2p.setRow v1c.heap.size P).setRow wr.drew.heap.size (rdC A2 y.length c2 e2)).heap.size := ⟨rds_setRow hI5.1 M11 N16' (by decide) _, (setRow_other _ _ _ _ NR.symm).trans hI5.2.1, below_setRow hI5.2.2.1 B11 _, by rw [setRow_size]; exact hI5.2.2.2⟩
              have F10 : ((v2p.setRow v1c.heap.size P).setRow wr.drew.heap.size (rdC A2 y.length c2 e2)).heap[v1c.heap.size]? = some (.cells P 73 (0, 0)) := (setRow_other _ _ _ _ NE).trans (setRow_heap v2p v1c.heap.size _ P _ _ N15)
              have F11 : ((v2p.setRow v1c.heap.size P).setRow wr.drew.heap.size (rdC A2 y.length c2 e2)).heap[wr.drew.heap.size]? = some (.cells (rdC A2 y.length c2 e2) 70 (0, 0)) := setRow_heap _ _ _ _ _ _ N16'
              refine wpAnyH_ready (rs := [17]) (by kernel_rfl) (by simp) ?_
              refine AllReadyH.cons rfl (fun K hK => ?_) AllReadyH.nil
              rw [if_pos (by rfl)]
              refine wp_store_row 73 _ _ rfl v1c.heap.size P rfl rfl 73 _ N15 HPI.out HPZ.out HP1.out ?_
              refine hK.out _ _ hI5 (fun hHeld => ?_)
              clear hK K
              try simp only [List.getElem_toArray, List.getElem_cons_succ, List.getElem_cons_zero, Act.put, List.setIfInBounds_toArray, List.set_cons_zero, List.set_cons_succ]
              refine wpAnyH_ready (rs := [18]) (by kernel_rfl) (by simp) ?_
              refine AllReadyH.cons rfl (fun K hK => ?_) AllReadyH.nil
              rw [if_pos (by rfl)]
              refine wp_store_row 70 _ _ rfl wr.drew.heap.size (rdC A2 y.length c2 e2) rfl rfl 70 _ N16' infoRd rfl (rdC_one _ _ _ _) ?_
              refine hK.out _ _ hI6 (fun hHeld => ?_)
              clear hK K
              try simp only [List.getElem_toArray, List.getElem_cons_succ, List.getElem_cons_zero, Act.put, List.setIfInBounds_toArray, List.set_cons_zero, List.set_cons_succ]
              refine wpAnyH_done (by kernel_rfl) ?_ _
              go_wp2_with fail
              go_meet
              exact ⟨_, _, A2, c2, rfl, rfl, hc2, F10, F11, hI6.2.1, hI6.1, hrd2, NR, M10, NG, hI6.2.2.1⟩
          · rw [if_pos (by rfl)]
            refine wp_allocZ 73 rfl _ zeroPt ?_
            obtain ⟨v1p, hW⟩ : ∃ w', World.alloc v0r (.cells zeroP 73) = w' := ⟨_, rfl⟩
            rw [hW]
            have hb : Below v0r.heap.size v0r v1p := hW ▸ below_alloc (Below.refl _ _) _
            have N15 : v1p.heap[v0r.heap.size]? = some (.cells zeroP 73 (0, 0)) := hW ▸ blk_new v0r _
            have L15 : wr.heap.size ≤ v0r.heap.size := hHeld.2.2.2
            clear hW
            have N16 := blk_below N16 hb
            have hI : RdS v1p w.heap.size g L at' e ∧ v1p.heap[w2.heap.size]? = some (.cells (rdC A1 x.length c1 e) 70 (0, 0)) ∧ Below w.heap.size w v1p ∧ wr.heap.size ≤ v1p.heap.size := ⟨hHeld.1.below hb, blk_below hHeld.2.1 hb, below_then hHeld.2.2.1 hHeld.2.2.1.size hb, Nat.le_trans hHeld.2.2.2 hb.size⟩
            refine hK.out _ _ hI (fun hHeld => ?_)
            clear hK K hI
            try simp only [List.getElem_toArray, List.getElem_cons_succ, List.getElem_cons_zero, Act.put, List.setIfInBounds_toArray, List.set_cons_zero, List.set_cons_succ]
            clear hb
            refine wpAnyH_ready (rs := [11]) (by kernel_rfl) (by simp) ?_
            refine AllReadyH.cons rfl (fun K hK => ?_) AllReadyH.nil
            · go_simp
              refine (HTK.out _ (HRX.out _ hHeld.2.2.1)).mono ?_
              rintro ee v2c ⟨A2, c2, rfl, hc2, hrd2, hb⟩
              have N16 := blk_below N16 hb
              have N15 := blk_below N15 hb
              have hI : RdS v2c w.heap.size g L at' e ∧ v2c.heap[w2.heap.size]? = some (.cells (rdC A1 x.length c1 e) 70 (0, 0)) ∧ Below w.heap.size w v2c ∧ wr.heap.size ≤ v2c.heap.size := ⟨hHeld.1.below hb, blk_below hHeld.2.1 hb, below_then hHeld.2.2.1 hHeld.2.2.1.size hb, Nat.le_trans hHeld.2.2.2 hb.size⟩
              refine hK.out _ _ hI (fun hHeld => ?_)
              clear hK K hI
              try simp only [List.getElem_toArray, List.getElem_cons_succ, List.getElem_cons_zero, Act.put, List.setIfInBounds_toArray, List.set_cons_zero, List.set_cons_succ]
              clear hb
              refine wpAnyH_take (i := 12) (v := _) rfl (by kernel_rfl) (by kernel_rfl) (by kernel_rfl) (fun _ _ _ h => h) (Or.inl ⟨by kernel_rfl, fun w _ => by go_simp <;> with_reducible rfl⟩) hHeld ?_
              simp only [List.getElem_toArray, List.getElem_cons_succ, List.getElem_cons_zero, Act.put, List.setIfInBounds_toArray, List.set_cons_zero, List.set_cons_succ]
              refine wpAnyH_take (i := 13) (v := _) rfl (by kernel_rfl) (by kernel_rfl) (by kernel_rfl) (fun _ _ _ h => h) (Or.inl ⟨by kernel_rfl, fun w _ => by go_simp <;> with_reducible rfl⟩) hHeld ?_
              simp only [List.getElem_toArray, List.getElem_cons_succ, List.getElem_cons_zero, Act.put, List.setIfInBounds_toArray, List.set_cons_zero, List.set_cons_succ]
              refine wpAnyH_take (i := 14) (v := _) rfl (by kernel_rfl) (by kernel_rfl) (by kernel_rfl) (fun _ _ _ h => h) (Or.inl ⟨by kernel_rfl, fun w _ => by go_simp <;> with_reducible rfl⟩) hHeld ?_
              simp only [List.getElem_toArray, List.getElem_cons_succ, List.getElem_cons_zero, Act.put, List.setIfInBounds_toArray, List.set_cons_zero, List.set_cons_succ]
              have NE : v0r.heap.size ≠ wr.drew.heap.size := blk_ne N15 N16 (by decide)
              have NG : v0r.heap.size ≠ w2.heap.size := blk_ne N15 hHeld.2.1 (by decide)
              have NR : wr.drew.heap.size ≠ w2.heap.size := by have := HG8L.out; omega
              have M10 : v0r.heap.size ≠ g := hHeld.1.ne N15 (by decide)
              have M11 : wr.drew.heap.size ≠ g := hHeld.1.ne N16 (by decide)
              have B10 : w.heap.size ≤ v0r.heap.size := Nat.le_trans HWR.out L15
              have B11 : w.heap.size ≤ wr.drew.heap.size := Nat.le_trans HWR.out L16
              have hI5 : RdS (v2c.setRow v0r.heap.size P) w.heap.size g L at' e ∧ (v2c.setRow v0r.heap.size P).heap[w2.heap.size]? = some (.cells (rdC A1 x.length c1 e) 70 (0, 0)) ∧ Below w.heap.size w (v2c.setRow v0r.heap.size P) ∧ wr.heap.size ≤ (v2c.setRow v0r.heap.size P).heap.size := ⟨rds_setRow hHeld.1 M10 N15 (by decide) P, (setRow_other _ _ _ P NG.symm).trans hHeld.2.1, below_setRow hHeld.2.2.1 B10 P, by rw [setRow_size]; exact hHeld.2.2.2⟩
              have N16' := (setRow_other v2c v0r.heap.size wr.drew.heap.size P NE.symm).trans N16
              have hI6 : RdS ((v2c.setRow v0r.heap.size P).setRow wr.drew.heap.size (rdC A2 y.length c2 e2)) w.heap.size g L at' e ∧ ((v2c.setRow v0r.heap.size P).setRow wr.drew.heap.size (rdC A2 y.length c2 e2)).heap[w2.heap.size]? = some (.cells (rdC A1 x.length c1 e) 70 (0, 0)) ∧ Below w.heap.size w ((v2c.setRow v0r.heap.size P).setRow wr.drew.heap.size (rdC A2 y.length c2 e2)) ∧ wr.heap.size ≤ ((v2c.setRow v0r.heap.size P).setRow wr.drew.heap.size (rdC A2 y.length c2 e2)).heap.size := ⟨rds_setRow hI5.1 M11 N16' (by decide) _, (setRow_other _ _ _ _ NR.symm).trans hI5.2.1, below_setRow hI5.2.2.1 B11 _, by rw [setRow_size]; exact hI5.2.2.2⟩
              have F10 : ((v2c.setRow v0r.heap.size P).setRow wr.drew.heap.size (rdC A2 y.length c2 e2)).heap[v0r.heap.size]? = some (.cells P 73 (0, 0)) := (setRow_other _ _ _ _ NE).trans (setRow_heap v2c v0r.heap.size _ P _ _ N15)
              have F11 : ((v2c.setRow v0r.heap.size P).setRow wr.drew.heap.size (rdC A2 y.length c2 e2)).heap[wr.drew.heap.size]? = some (.cells (rdC A2 y.length c2 e2) 70 (0, 0)) := setRow_heap _ _ _ _ _ _ N16'
              refine wpAnyH_ready (rs := [17]) (by kernel_rfl) (by simp) ?_
              refine AllReadyH.cons rfl (fun K hK => ?_) AllReadyH.nil
              rw [if_pos (by rfl)]
              refine wp_store_row 73 _ _ rfl v0r.heap.size P rfl rfl 73 _ N15 HPI.out HPZ.out HP1.out ?_
              refine hK.out _ _ hI5 (fun hHeld => ?_)
              clear hK K
              try simp only [List.getElem_toArray, List.getElem_cons_succ, List.getElem_cons_zero, Act.put, List.setIfInBounds_toArray, List.set_cons_zero, List.set_cons_succ]
              refine wpAnyH_ready (rs := [18]) (by kernel_rfl) (by simp) ?_
              refine AllReadyH.cons rfl (fun K hK => ?_) AllReadyH.nil
              rw [if_pos (by rfl)]
              refine wp_store_row 70 _ _ rfl wr.drew.heap.size (rdC A2 y.length c2 e2) rfl rfl 70 _ N16' infoRd rfl (rdC_one _ _ _ _) ?_
              refine hK.out _ _ hI6 (fun hHeld => ?_)
              clear hK K
              try simp only [List.getElem_toArray, List.getElem_cons_succ, List.getElem_cons_zero, Act.put, List.setIfInBounds_toArray, List.set_cons_zero, List.set_cons_succ]
              refine wpAnyH_done (by kernel_rfl) ?_ _
              go_wp2_with fail
              go_meet
              exact ⟨_, _, A2, c2, rfl, rfl, hc2, F10, F11, hI6.2.1, hI6.1, hrd2, NR, M10, NG, hI6.2.2.1⟩
      case rest =>
        obtain ⟨a10, a11, A2, c2, rfl, rfl, hyc, F10, F11, F8, hrd, hry, NR, M10, NG, hB⟩ := hcut
        have NG8 := hrd.ne F8 (by decide)
        have HF10 := Lib.hid F10
        have HF11 := Lib.hid F11
        have HF8 := Lib.hid F8
        have HRE := Lib.hid (fun W : World => (show Calls Try.prog 42 #[.agg (rdC A2 y.length c2 e2)] W (Kept (.int .i64 (endN L a2 e2 : Nat)) W) from HEND.out ▸ refend_any A2 c2 y e2 W))
        have HEN := Lib.hid (fun (W : World) (h : RdS W w.heap.size g L a2 e2) => rend_any w.heap.size g L a2 e2 W h)
        generalize endN L a2 e2 = en at *
        obtain ⟨w5, hw5⟩ : ∃ w5, wc.setRow w2.heap.size (rdC A2 y.length c2 e2) = w5 := ⟨_, rfl⟩
        have K10 := Lib.hid (show w5.heap[a10]? = some (.cells P 73 (0, 0)) from hw5 ▸ (setRow_other _ _ _ _ NG).trans F10)
        have K8 := Lib.hid (show w5.heap[w2.heap.size]? = some (.cells (rdC A2 y.length c2 e2) 70 (0, 0)) from hw5 ▸ setRow_heap _ _ _ _ _ _ F8)
        have HRS := Lib.hid (show RdS w5 w.heap.size g L at' e from hw5 ▸ rds_setRow hrd NG8 F8 (by decide) _)
        have HB5 := Lib.hid (show Below w.heap.size w w5 from hw5 ▸ below_setRow hB HWZ.out _)
        have HRY := Lib.hid (hry w HRX1.out)
        have HP0 := Lib.hid (HEL.out wr HBk.out).2.2.2.out
        have HNG8 := Lib.hid NG8
        have HM10 := Lib.hid M10
        clear F10 F11 F8 hrd hry NR M10 NG hB NG8
        go_wp2_with (first | (refine wpList_load_row rfl 70 _ rfl a11 rfl 70 (rdC A2 y.length c2 e2) (0, 0) _ HF11.out Try.underlying70 rfl infoRd ?_) | (refine wpList_store_row rfl 70 _ _ rfl w2.heap.size (rdC A2 y.length c2 e2) rfl rfl 70 _ HF8.out infoRd rfl (rdC_one _ _ _ _) ?_))
        rw [hw5]
        refine wp_region_held_drew (S := fun W => W.heap[a10]? = some (.cells P 73 (0, 0)) ∧ W.heap[w2.heap.size]? = some (.cells (rdC A2 y.length c2 e2) 70 (0, 0)) ∧ Below w.heap.size w W) (by kernel_rfl) ⟨K10.out, K8.out, below_drew HB5.out⟩ (fun hHeld => ?_)
        refine wpAnyH_take (i := 0) (v := _) rfl (by kernel_rfl) (by kernel_rfl) (by kernel_rfl) (fun _ _ _ h => h) (Or.inl ⟨by kernel_rfl, fun w _ => by go_simp <;> with_reducible rfl⟩) hHeld ?_
        simp only [List.getElem_toArray, List.getElem_cons_succ, List.getElem_cons_zero, Act.put, List.setIfInBounds_toArray, List.set_cons_zero, List.set_cons_succ]
        refine wpAnyH_take (i := 1) (v := _) rfl (by kernel_rfl) (by kernel_rfl) (by kernel_rfl) (fun _ _ _ h => h) (Or.inl ⟨by kernel_rfl, fun w _ => by go_simp <;> with_reducible rfl⟩) hHeld ?_
        simp only [List.getElem_toArray, List.getElem_cons_succ, List.getElem_cons_zero, Act.put, List.setIfInBounds_toArray, List.set_cons_zero, List.set_cons_succ]
        refine wpAnyH_take (i := 2) (v := _) rfl (by kernel_rfl) (by kernel_rfl) (by kernel_rfl) (fun _ _ _ h => h) (Or.inl ⟨by kernel_rfl, fun w _ => by go_simp <;> with_reducible rfl⟩) hHeld ?_
        simp only [List.getElem_toArray, List.getElem_cons_succ, List.getElem_cons_zero, Act.put, List.setIfInBounds_toArray, List.set_cons_zero, List.set_cons_succ]
        refine wpAnyH_take (i := 3) (v := _) rfl (by kernel_rfl) (by kernel_rfl) (by kernel_rfl) (fun _ _ _ h => h) (Or.inl ⟨by kernel_rfl, fun w _ => by go_simp <;> with_reducible rfl⟩) hHeld ?_
        simp only [List.getElem_toArray, List.getElem_cons_succ, List.getElem_cons_zero, Act.put, List.setIfInBounds_toArray, List.set_cons_zero, List.set_cons_succ]
        refine wpAnyH_take (i := 4) (v := .agg X.toList.toArray) rfl (by kernel_rfl) (by kernel_rfl) (by kernel_rfl) (fun _ _ _ h => h) (yieldsIf_load_mid (by kernel_rfl) 73 _ rfl (ad.add (k * 36)).block (ad.add (k * 36)).off (by exact HP0.out) X.toList _ (fun W h => (HEL.out W h.2.2).2.2.1) Try.underlying73 rfl HCI.out) hHeld ?_
        simp only [List.getElem_toArray, List.getElem_cons_succ, List.getElem_cons_zero, Act.put, List.setIfInBounds_toArray, List.set_cons_zero, List.set_cons_succ]
        refine wpAnyH_take (i := 6) (v := .agg (P).toList.toArray) rfl (by kernel_rfl) (by kernel_rfl) (by kernel_rfl) (fun _ _ _ h => h) (yieldsIf_load_mid (by kernel_rfl) 73 _ rfl a10 0 rfl (P).toList _ (fun W h => range_row h.1) Try.underlying73 rfl (by rw [Array.length_toList]; exact HPI.out)) hHeld ?_
        simp only [List.getElem_toArray, List.getElem_cons_succ, List.getElem_cons_zero, Act.put, List.setIfInBounds_toArray, List.set_cons_zero, List.set_cons_succ]
        refine wpAnyH_ready (rs := [5]) (by kernel_rfl) (by simp) ?_
        refine AllReadyH.cons rfl (fun K hK => ?_) ?_
        case refine_2 => exact AllReadyH.nil
        go_simp
        refine (HLT.out w5.drew HB5.out.size HRS.out).mono ?_
        rintro e w6 ⟨rfl, hs6, hb6, ho6⟩
        have HS6 := Lib.hid hs6
        refine hK.out _ _ (⟨(ho6 a10 HM10.out (blk_lt hHeld.1)).trans hHeld.1, (ho6 _ HNG8.out (blk_lt hHeld.2.1)).trans hHeld.2.1, hHeld.2.2.trans hb6⟩) (fun hHeld => ?_)
        clear hK K
        try simp only [List.getElem_toArray, List.getElem_cons_succ, List.getElem_cons_zero, Act.put, List.setIfInBounds_toArray, List.set_cons_zero, List.set_cons_succ]
        clear hs6 hb6 ho6
        refine wpAnyH_take (i := 7) (v := .bool false) rfl (by kernel_rfl) (by kernel_rfl) (by kernel_rfl) (fun _ _ _ h => h) (yields_eq .neq 73 73 (.tmp 45) (.tmp 46) rfl P P rfl rfl (by kernel_rfl) _ (by kernel_rfl) HPE.out) hHeld ?_
        simp only [List.getElem_toArray, List.getElem_cons_succ, List.getElem_cons_zero, Act.put, List.setIfInBounds_toArray, List.set_cons_zero, List.set_cons_succ]
        refine wpAnyH_take (i := 8) (v := _) rfl (by kernel_rfl) (by kernel_rfl) (by kernel_rfl) (fun _ _ _ h => h) (Or.inl ⟨by kernel_rfl, fun w _ => by go_simp <;> with_reducible rfl⟩) hHeld ?_
        simp only [List.getElem_toArray, List.getElem_cons_succ, List.getElem_cons_zero, Act.put, List.setIfInBounds_toArray, List.set_cons_zero, List.set_cons_succ]
        refine wpAnyH_take (i := 9) (v := _) rfl (by kernel_rfl) (by kernel_rfl) (by kernel_rfl) (fun _ _ _ h => h) (Or.inl ⟨by kernel_rfl, fun w _ => by go_simp <;> with_reducible rfl⟩) hHeld ?_
        simp only [List.getElem_toArray, List.getElem_cons_succ, List.getElem_cons_zero, Act.put, List.setIfInBounds_toArray, List.set_cons_zero, List.set_cons_succ]
        refine wpAnyH_take (i := 11) (v := .agg (rdC A2 y.length c2 e2).toList.toArray) rfl (by kernel_rfl) (by kernel_rfl) (by kernel_rfl) (fun _ _ _ h => h) (yieldsIf_load_mid (by kernel_rfl) 70 _ rfl w2.heap.size 0 rfl (rdC A2 y.length c2 e2).toList _ (fun W h => range_row h.2.1) Try.underlying70 rfl (by rw [Array.length_toList]; exact infoRd)) hHeld ?_
        simp only [List.getElem_toArray, List.getElem_cons_succ, List.getElem_cons_zero, Act.put, List.setIfInBounds_toArray, List.set_cons_zero, List.set_cons_succ]
        refine wpAnyH_ready (rs := [10]) (by kernel_rfl) (by simp) ?_
        refine AllReadyH.cons rfl (fun K hK => ?_) ?_
        case refine_2 => exact AllReadyH.nil
        go_simp
        refine (HEN.out _ HS6.out).mono ?_
        rintro e w7 ⟨rfl, n7, rfl⟩
        have HS7 := Lib.hid (show RdS (w6.drewN n7) w.heap.size g L a2 e2 from HS6.out)
        refine hK.out _ _ (⟨hHeld.1, hHeld.2.1, pw_below_drewN hHeld.2.2 n7⟩) (fun hHeld => ?_)
        clear hK K
        try simp only [List.getElem_toArray, List.getElem_cons_succ, List.getElem_cons_zero, Act.put, List.setIfInBounds_toArray, List.set_cons_zero, List.set_cons_succ]
        refine wpAnyH_ready (rs := [12]) (by kernel_rfl) (by simp) ?_
        refine AllReadyH.cons rfl (fun K hK => ?_) ?_
        case refine_2 => exact AllReadyH.nil
        go_simp
        refine (HRE.out _).mono ?_
        rintro e w8 ⟨rfl, hb8⟩
        have HS8 := Lib.hid (HS7.out.below hb8)
        refine hK.out _ _ (⟨blk_below hHeld.1 hb8, blk_below hHeld.2.1 hb8, below_then hHeld.2.2 hHeld.2.2.size hb8⟩) (fun hHeld => ?_)
        clear hK K
        try simp only [List.getElem_toArray, List.getElem_cons_succ, List.getElem_cons_zero, Act.put, List.setIfInBounds_toArray, List.set_cons_zero, List.set_cons_succ]
        clear hb8
        refine wpAnyH_take (i := 13) (v := _) rfl (by kernel_rfl) (by kernel_rfl) (by kernel_rfl) (fun _ _ _ h => h) (Or.inl ⟨by kernel_rfl, fun w _ => by go_simp <;> with_reducible rfl⟩) hHeld ?_
        simp only [List.getElem_toArray, List.getElem_cons_succ, List.getElem_cons_zero, Act.put, List.setIfInBounds_toArray, List.set_cons_zero, List.set_cons_succ]
        refine wpAnyH_take (i := 14) (v := _) rfl (by kernel_rfl) (by kernel_rfl) (by kernel_rfl) (fun _ _ _ h => h) (Or.inl ⟨by kernel_rfl, fun w _ => by go_simp <;> with_reducible rfl⟩) hHeld ?_
        simp only [List.getElem_toArray, List.getElem_cons_succ, List.getElem_cons_zero, Act.put, List.setIfInBounds_toArray, List.set_cons_zero, List.set_cons_succ]
        refine wpAnyH_done (by kernel_rfl) ?_ _
        have HG8 := Lib.hid hHeld.2.1
        have HB8 := Lib.hid hHeld.2.2
        go_wp2_with fail
        go_roundw
        case rel => exact ⟨k + 1, a2, e2, y, A2, c2, by omega, by go_num, hyc, HA2, HY2, HS8, HG8, HRY, HB8⟩
        case measure => simp [intOf]; omega
    · obtain rfl : k = l.length := by omega
      have HEND := Lib.hid (end_eq HAT.out HX.out)
      have HRE := Lib.hid (fun W : World => (show Calls Try.prog 42 #[.agg (rdC A1 x.length c1 e)] W (Kept (.int .i64 (endN L at' e : Nat)) W) from HEND.out ▸ refend_any A1 c1 x e W))
      have HEN := Lib.hid (fun (W : World) (h : RdS W w.heap.size g L at' e) => rend_any w.heap.size g L at' e W h)
      have HLV := Lib.hid (fun W : World => lives_any W)
      generalize endN L at' e = en at *
      go_wp2_with fail
      refine wp_region_held_drew (S := fun W => W.heap[w2.heap.size]? = some (.cells (rdC A1 x.length c1 e) 70 (0, 0)) ∧ Below w.heap.size w W) (by kernel_rfl) ⟨HGk.out, below_drew HBk.out⟩ (fun hHeld => ?_)
      refine wpAnyH_take (i := 0) (v := _) rfl (by kernel_rfl) (by kernel_rfl) (by kernel_rfl) (fun _ _ _ h => h) (Or.inl ⟨by kernel_rfl, fun w _ => by go_simp <;> with_reducible rfl⟩) hHeld ?_
      simp only [List.getElem_toArray, List.getElem_cons_succ, List.getElem_cons_zero, Act.put, List.setIfInBounds_toArray, List.set_cons_zero, List.set_cons_succ]
      refine wpAnyH_take (i := 2) (v := .agg (rdC A1 x.length c1 e).toList.toArray) rfl (by kernel_rfl) (by kernel_rfl) (by kernel_rfl) (fun _ _ _ h => h) (yieldsIf_load_mid (by kernel_rfl) 70 _ rfl w2.heap.size 0 rfl (rdC A1 x.length c1 e).toList _ (fun W h => range_row h.1) Try.underlying70 rfl (by rw [Array.length_toList]; exact infoRd)) hHeld ?_
      simp only [List.getElem_toArray, List.getElem_cons_succ, List.getElem_cons_zero, Act.put, List.setIfInBounds_toArray, List.set_cons_zero, List.set_cons_succ]
      refine wpAnyH_ready (rs := [1]) (by kernel_rfl) (by simp) ?_
      refine AllReadyH.cons rfl (fun K hK => ?_) ?_
      case refine_2 => exact AllReadyH.nil
      go_simp
      refine (HEN.out wr.drew HSk.out).mono ?_
      rintro e w7 ⟨rfl, n7, hw7⟩
      refine hK.out _ _ (⟨by rw [hw7]; exact hHeld.1, by rw [hw7]; exact pw_below_drewN hHeld.2 n7⟩) (fun hHeld => ?_)
      clear hK K
      try simp only [List.getElem_toArray, List.getElem_cons_succ, List.getElem_cons_zero, Act.put, List.setIfInBounds_toArray, List.set_cons_zero, List.set_cons_succ]
      clear hw7
      refine wpAnyH_ready (rs := [3]) (by kernel_rfl) (by simp) ?_
      refine AllReadyH.cons rfl (fun K hK => ?_) ?_
      case refine_2 => exact AllReadyH.nil
      go_simp
      refine (HRE.out _).mono ?_
      rintro e w8 ⟨rfl, hb8⟩
      refine hK.out _ _ (⟨blk_below hHeld.1 hb8, below_then hHeld.2 hHeld.2.size hb8⟩) (fun hHeld => ?_)
      clear hK K
      try simp only [List.getElem_toArray, List.getElem_cons_succ, List.getElem_cons_zero, Act.put, List.setIfInBounds_toArray, List.set_cons_zero, List.set_cons_succ]
      clear hb8
      refine wpAnyH_take (i := 4) (v := _) rfl (by kernel_rfl) (by kernel_rfl) (by kernel_rfl) (fun _ _ _ h => h) (Or.inl ⟨by kernel_rfl, fun w _ => by go_simp <;> with_reducible rfl⟩) hHeld ?_
      simp only [List.getElem_toArray, List.getElem_cons_succ, List.getElem_cons_zero, Act.put, List.setIfInBounds_toArray, List.set_cons_zero, List.set_cons_succ]
      refine wpAnyH_take (i := 5) (v := _) rfl (by kernel_rfl) (by kernel_rfl) (by kernel_rfl) (fun _ _ _ h => h) (Or.inl ⟨by kernel_rfl, fun w _ => by go_simp <;> with_reducible rfl⟩) hHeld ?_
      simp only [List.getElem_toArray, List.getElem_cons_succ, List.getElem_cons_zero, Act.put, List.setIfInBounds_toArray, List.set_cons_zero, List.set_cons_succ]
      refine wpAnyH_ready (rs := [6]) (by kernel_rfl) (by simp) ?_
      refine AllReadyH.cons rfl (fun K hK => ?_) ?_
      case refine_2 => exact AllReadyH.nil
      go_simp
      refine (HLV.out _).mono ?_
      rintro e w9 ⟨rfl, hb9⟩
      refine hK.out _ _ (⟨blk_below hHeld.1 hb9, below_then hHeld.2 hHeld.2.size hb9⟩) (fun hHeld => ?_)
      clear hK K
      try simp only [List.getElem_toArray, List.getElem_cons_succ, List.getElem_cons_zero, Act.put, List.setIfInBounds_toArray, List.set_cons_zero, List.set_cons_succ]
      clear hb9
      refine wpAnyH_take (i := 7) (v := _) rfl (by kernel_rfl) (by kernel_rfl) (by kernel_rfl) (fun _ _ _ h => h) (Or.inl ⟨by kernel_rfl, fun w _ => by go_simp <;> with_reducible rfl⟩) hHeld ?_
      simp only [List.getElem_toArray, List.getElem_cons_succ, List.getElem_cons_zero, Act.put, List.setIfInBounds_toArray, List.set_cons_zero, List.set_cons_succ]
      refine wpAnyH_take (i := 8) (v := _) rfl (by kernel_rfl) (by kernel_rfl) (by kernel_rfl) (fun _ _ _ h => h) (Or.inl ⟨by kernel_rfl, fun w _ => by go_simp <;> with_reducible rfl⟩) hHeld ?_
      simp only [List.getElem_toArray, List.getElem_cons_succ, List.getElem_cons_zero, Act.put, List.setIfInBounds_toArray, List.set_cons_zero, List.set_cons_succ]
      refine wpAnyH_done (by kernel_rfl) ?_ _
      have HB9 := Lib.hid hHeld.2
      go_wp2_with fail
      go_ret
      exact ⟨rfl, HB9.out⟩
end Go.Proofs.Yteeemiacibjaoaa.Co
