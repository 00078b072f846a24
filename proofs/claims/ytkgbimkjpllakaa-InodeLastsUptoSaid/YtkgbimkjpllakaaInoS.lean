/- stillageref10.Same: files that are the same. -/
import Derived.Test.YtkgbimkjpllakaaInoR
import Derived.Test.YtkgbimkjpllakaaSame
set_option linter.unusedVariables false
set_option linter.unusedSimpArgs false
namespace Go.Proofs.Ytkgbimkjpllakaa.In
open Go.RowKit Go.Proofs.YtkgbimkjpllakaaW.PrintWords Go.Proofs.Ytkgbimkjpllakaa.B Go.Proofs.Ytkgbimkjpllakaa.O Go.Proofs.Ytkgbimkjpllakaa.Wr Go.Proofs.Ytkgbimkjpllakaa.R01
set_option maxHeartbeats 400000 in
theorem same10_any (A : Option Addr) (c : Nat) (a : List UInt8) (A' : Option Addr) (c' : Nat) (b : List UInt8) (w : World) (hr : Rd w A a) (hr' : Rd w A' b) :
    Calls Try.prog 48 #[.slice A a.length c, .slice A' b.length c'] w (Quiet (.bool (sameB a b)) w) := by
  have hl := hr.len
  have HR := Lib.hid hr
  have HR' := Lib.hid hr'
  clear hr hr'
  by_cases h1 : a.length = b.length
  · have HL := Lib.hid h1
    have h1' : ((a.length : Int) != b.length) = false := by simp [h1]
    have hle1 : a.length ≤ b.length := by omega
    have hle2 : b.length ≤ a.length := by omega
    clear h1
    go_enter Try.func48, Try.ntmps48
    go_wp2
    go_loopw [5] (fun i wr => ∃ k n : Nat, k ≤ a.length ∧ i = .int .i64 k ∧ Hid (a.take k = b.take k) ∧ wr = w.drewN n) (fun i _ => a.length - (intOf i).toNat)
    case atStart => exact ⟨0, 0, by omega, rfl, rfl, rfl⟩
    case round =>
      obtain ⟨k, n, hk, rfl, HK, rfl⟩ := hrel
      by_cases hlt : k < a.length
      · obtain ⟨ad, rfl, hc⟩ := HR.out.at_ k hlt
        obtain ⟨ad', rfl, hc'⟩ := HR'.out.at_ k (by omega)
        have hk2 : k < b.length := by omega
        go_wp2
        go_quiet (fail)
        rw [World.drewN_drewN]
        by_cases hx : B.bt a k = B.bt b k
        · have HK2 := Lib.hid (take_snoc_eq hlt hk2 HK.out hx)
          have hx' : (B.bt a k != B.bt b k) = false := by simp [hx]
          clear hx
          go_wp2
          go_roundw
          case rel => exact ⟨k + 1, _, by omega, by go_num, HK2, rfl⟩
          case measure => simp [intOf]; omega
        · have HS := Lib.hid (sameB_ne hlt hk2 hx)
          have hx' : (B.bt a k != B.bt b k) = true := by simp [hx]
          clear hx
          go_wp2
          go_ret
          exact ⟨ret_eq (by rw [HS.out]; rfl), _, rfl⟩
      · obtain rfl : k = a.length := by omega
        have HS := Lib.hid (show sameB a b = true by have := HK.out; rw [HL.out, List.take_length] at this; rw [← HL.out, List.take_length] at this; simpa [sameB] using this)
        go_wp2
        go_ret
        exact ⟨ret_eq (by rw [HS.out]; rfl), n, rfl⟩
  · have HS := Lib.hid (show sameB a b = false by unfold sameB; simp only [decide_eq_false_iff_not]; rintro rfl; exact h1 rfl)
    have h1' : ((a.length : Int) != b.length) = true := by simp; omega
    clear h1
    go_enter Try.func48, Try.ntmps48
    go_wp2
    go_ret
    exact ⟨ret_eq (by rw [HS.out]; rfl), 0, rfl⟩

theorem zeroWr (w : World) : (zeroValue 26).run Try.prog w = .ok (.agg #[.bool false, .int .i64 0, .slice none 0 0]) w := by kernel_rfl
theorem cell_on {w W : World} (h : Below w.heap.size w W) {p : Addr} {v : Value} (hc : w.cell? p = some v) : W.cell? p = some v := (h.cell (World.block_lt_of_cell? _ _ hc)).trans hc
/-- the answer 'true' -/
def Yes (w : World) (e : Ending) (w' : World) : Prop := e = .returned (.bool true) ∧ Below w.heap.size w w'
set_option maxRecDepth 100000 in
set_option maxHeartbeats 1600000 in
theorem refsame_any (A : Option Addr) (c : Nat) (b : List UInt8) (A2 : Option Addr) (c2 : Nat) (l : List Wt) (A' : Option Addr) (c' : Nat) (A2' : Option Addr) (c2' : Nat) (w : World) (hb : Rd w A b) (hw : RdW w A2 l) (hb' : Rd w A' b) (hw' : RdW w A2' l) :
    Calls Try.prog 28 #[.agg #[.slice A b.length c, .slice A2 l.length c2], .agg #[.slice A' b.length c', .slice A2' l.length c2']] w (Yes w) := by
  obtain ⟨w2, hw2⟩ : ∃ w2, (w.alloc (.cells #[.slice A b.length c, .slice A2 l.length c2] 37)).alloc (.cells #[.slice A' b.length c', .slice A2' l.length c2'] 37) = w2 := ⟨_, rfl⟩
  have hB2 : Below w.heap.size w w2 := hw2 ▸ below_alloc (below_alloc (Below.refl _ _) _) _
  have hs1 : (w.alloc (.cells #[.slice A b.length c, .slice A2 l.length c2] 37)).heap.size = w.heap.size + 1 := by simp
  have hY : w2.heap[w.heap.size + 1]? = some (.cells #[.slice A' b.length c', .slice A2' l.length c2'] 37 (0, 0)) := by rw [← hs1, ← hw2]; exact blk_new _ _
  have hX : w2.heap[w.heap.size]? = some (.cells #[.slice A b.length c, .slice A2 l.length c2] 37 (0, 0)) := by rw [← hw2]; exact blk_alloc (blk_new w _) _
  have c0 : w2.cell? ⟨w.heap.size, 0, none⟩ = some (.slice A b.length c) := blk_cell hX 0
  have c1 : w2.cell? ⟨w.heap.size, 1, none⟩ = some (.slice A2 l.length c2) := blk_cell hX 1
  have c2x : w2.cell? ⟨w.heap.size + 1, 0, none⟩ = some (.slice A' b.length c') := blk_cell hY 0
  have c3x : w2.cell? ⟨w.heap.size + 1, 1, none⟩ = some (.slice A2' l.length c2') := blk_cell hY 1
  have hz := blk_lt hY
  have hz0 := blk_lt hX
  have HX := Lib.hid hX
  have HY := Lib.hid hY
  have HB2 := Lib.hid hB2
  have HRB := Lib.hid (hb.below hB2)
  have HRB' := Lib.hid (hb'.below hB2)
  have HRW := Lib.hid (show RdW w2 A2 l from Kd.C_below hw hB2)
  have HRW' := Lib.hid (show RdW w2 A2' l from Kd.C_below hw' hB2)
  have hll : l.length ≤ 9223372036854775807 := hw.2.1
  have HSB := Lib.hid (same10_any A c b A' c' b w2 HRB.out HRB'.out)
  have hsb : sameB b b = true := by simp [sameB]
  rw [hsb] at HSB
  have HLN := Lib.hid (show ((l.length : Int) != (l.length : Int)) = false by simp)
  have hln := HLN.out
  clear hs1 hY hX hb hw hb' hw' hB2 hsb
  go_enter Try.func28, Try.ntmps28
  go_wp2_with fail
  refine HSB.out.mono ?_
  rintro e w3 ⟨rfl, n3, hq3⟩
  have HB3 := Lib.hid (show Below w2.heap.size w2 w3 from hq3 ▸ pw_below_drewN (Below.refl _ _) _)
  clear hq3
  have e0 := cell_on HB3.out c0
  have e1 := cell_on HB3.out c1
  have e2 := cell_on HB3.out c2x
  have e3 := cell_on HB3.out c3x
  go_wp2_with fail
  go_loopw [5] (fun i wr => ∃ k : Nat, k ≤ l.length ∧ i = .int .i64 k ∧ Hid (Below w2.heap.size w2 wr)) (fun i _ => l.length - (intOf i).toNat)
  case atStart => exact ⟨0, by omega, rfl, HB3⟩
  case round =>
    obtain ⟨k, hk, rfl, HBr⟩ := hrel
    have f0 := cell_on HBr.out c0
    have f1 := cell_on HBr.out c1
    have f2 := cell_on HBr.out c2x
    have f3 := cell_on HBr.out c3x
    have hzr : w.heap.size + 1 < wr.heap.size := Nat.lt_of_lt_of_le hz HBr.out.size
    by_cases hlt : k < l.length
    · have HRWr := Lib.hid (show RdW wr A2 l from Kd.C_below HRW.out HBr.out)
      have HRWr' := Lib.hid (show RdW wr A2' l from Kd.C_below HRW'.out HBr.out)
      obtain ⟨ad, -, -, ea, -, -, -⟩ := HRWr.out.at_ k hlt
      obtain ⟨ad', -, -, ea', -, -, -⟩ := HRWr'.out.at_ k hlt
      subst ea
      subst ea'
      obtain ⟨A3, c3, hc3, r3, g0, g1, g2⟩ := RdW.cells HRWr.out k hlt
      obtain ⟨A4, c4, hc4, r4, g0', g1', g2'⟩ := RdW.cells HRWr'.out k hlt
      obtain ⟨⟨cu, off, d⟩, he⟩ : ∃ e, wt l k = e := ⟨_, rfl⟩
      rw [he] at hc3 r3 g0 g1 g2 hc4 r4 g0' g1' g2'
      dsimp only at hc3 r3 g0 g1 g2 hc4 r4 g0' g1' g2'
      obtain ⟨ofi, hofi⟩ : ∃ i, off.toInt = i := ⟨_, rfl⟩
      rw [hofi] at g1 g1'
      have G0 := Lib.hid g0
      have G1 := Lib.hid g1
      have G2 := Lib.hid g2
      have G0' := Lib.hid g0'
      have G1' := Lib.hid g1'
      have G2' := Lib.hid g2'
      have R3 := Lib.hid r3
      have R4 := Lib.hid r4
      have F1 := Lib.hid f1
      have F3 := Lib.hid f3
      have hcu : (cu != cu) = false := by simp
      have hof : (ofi != ofi) = false := by simp
      have HSD := Lib.hid (fun (W : World) (h1 : Rd W A3 d) (h2 : Rd W A4 d) => (by have := same10_any A3 c3 d A4 c4 d W h1 h2; rw [show sameB d d = true by simp [sameB]] at this; exact this : Calls Try.prog 48 #[.slice A3 d.length c3, .slice A4 d.length c4] W (Quiet (.bool true) W)))
      clear he hofi g0 g1 g2 g0' g1' g2' r3 r4
      go_wp2_with fail
      refine wp_region_held_drew (S := fun W => Below wr.heap.size wr W) (by kernel_rfl) (below_drew (Below.refl _ _)) (fun hHeld => ?_)
      refine wpAnyH_take (i := 0) (v := _) rfl (by kernel_rfl) (by kernel_rfl) (by kernel_rfl) (fun _ _ _ h => h) (Or.inl ⟨by kernel_rfl, fun w _ => by go_simp <;> with_reducible rfl⟩) hHeld ?_
      simp only [List.getElem_toArray, List.getElem_cons_succ, List.getElem_cons_zero, Act.put, List.setIfInBounds_toArray, List.set_cons_zero, List.set_cons_succ]
      refine wpAnyH_take (i := 1) (v := _) rfl (by kernel_rfl) (by kernel_rfl) (by kernel_rfl) (fun _ _ _ h => h) (Or.inl ⟨by kernel_rfl, fun W h => by have q0 := cell_on h F1.out; go_simp <;> with_reducible rfl⟩) hHeld ?_
      simp only [List.getElem_toArray, List.getElem_cons_succ, List.getElem_cons_zero, Act.put, List.setIfInBounds_toArray, List.set_cons_zero, List.set_cons_succ]
      refine wpAnyH_take (i := 2) (v := _) rfl (by kernel_rfl) (by kernel_rfl) (by kernel_rfl) (fun _ _ _ h => h) (Or.inl ⟨by kernel_rfl, fun w _ => by go_simp <;> with_reducible rfl⟩) hHeld ?_
      simp only [List.getElem_toArray, List.getElem_cons_succ, List.getElem_cons_zero, Act.put, List.setIfInBounds_toArray, List.set_cons_zero, List.set_cons_succ]
      refine wpAnyH_take (i := 3) (v := _) rfl (by kernel_rfl) (by kernel_rfl) (by kernel_rfl) (fun _ _ _ h => h) (Or.inl ⟨by kernel_rfl, fun w _ => by go_simp <;> with_reducible rfl⟩) hHeld ?_
      simp only [List.getElem_toArray, List.getElem_cons_succ, List.getElem_cons_zero, Act.put, List.setIfInBounds_toArray, List.set_cons_zero, List.set_cons_succ]
      refine wpAnyH_take (i := 4) (v := _) rfl (by kernel_rfl) (by kernel_rfl) (by kernel_rfl) (fun _ _ _ h => h) (Or.inl ⟨by kernel_rfl, fun W h => by have q0 := cell_on h G0.out; have q1 := cell_on h G1.out; have q2 := cell_on h G2.out; go_simp <;> with_reducible rfl⟩) hHeld ?_
      simp only [List.getElem_toArray, List.getElem_cons_succ, List.getElem_cons_zero, Act.put, List.setIfInBounds_toArray, List.set_cons_zero, List.set_cons_succ]
      refine wpAnyH_take (i := 5) (v := _) rfl (by kernel_rfl) (by kernel_rfl) (by kernel_rfl) (fun _ _ _ h => h) (Or.inl ⟨by kernel_rfl, fun w _ => by go_simp <;> with_reducible rfl⟩) hHeld ?_
      simp only [List.getElem_toArray, List.getElem_cons_succ, List.getElem_cons_zero, Act.put, List.setIfInBounds_toArray, List.set_cons_zero, List.set_cons_succ]
      refine wpAnyH_take (i := 6) (v := _) rfl (by kernel_rfl) (by kernel_rfl) (by kernel_rfl) (fun _ _ _ h => h) (Or.inl ⟨by kernel_rfl, fun W h => by have q0 := cell_on h F3.out; go_simp <;> with_reducible rfl⟩) hHeld ?_
      simp only [List.getElem_toArray, List.getElem_cons_succ, List.getElem_cons_zero, Act.put, List.setIfInBounds_toArray, List.set_cons_zero, List.set_cons_succ]
      refine wpAnyH_take (i := 7) (v := _) rfl (by kernel_rfl) (by kernel_rfl) (by kernel_rfl) (fun _ _ _ h => h) (Or.inl ⟨by kernel_rfl, fun w _ => by go_simp <;> with_reducible rfl⟩) hHeld ?_
      simp only [List.getElem_toArray, List.getElem_cons_succ, List.getElem_cons_zero, Act.put, List.setIfInBounds_toArray, List.set_cons_zero, List.set_cons_succ]
      refine wpAnyH_take (i := 8) (v := _) rfl (by kernel_rfl) (by kernel_rfl) (by kernel_rfl) (fun _ _ _ h => h) (Or.inl ⟨by kernel_rfl, fun w _ => by go_simp <;> with_reducible rfl⟩) hHeld ?_
      simp only [List.getElem_toArray, List.getElem_cons_succ, List.getElem_cons_zero, Act.put, List.setIfInBounds_toArray, List.set_cons_zero, List.set_cons_succ]
      refine wpAnyH_take (i := 9) (v := _) rfl (by kernel_rfl) (by kernel_rfl) (by kernel_rfl) (fun _ _ _ h => h) (Or.inl ⟨by kernel_rfl, fun W h => by have q0 := cell_on h G0'.out; have q1 := cell_on h G1'.out; have q2 := cell_on h G2'.out; go_simp <;> with_reducible rfl⟩) hHeld ?_
      simp only [List.getElem_toArray, List.getElem_cons_succ, List.getElem_cons_zero, Act.put, List.setIfInBounds_toArray, List.set_cons_zero, List.set_cons_succ]
      refine wpAnyH_ready (rs := [10, 11]) (by kernel_rfl) (by simp) ?_
      refine AllReadyH.cons rfl (fun K hK => ?_) (AllReadyH.cons rfl (fun K hK => ?_) AllReadyH.nil)
      · rw [if_pos (by rfl)]
        refine wp_allocZ 26 rfl _ zeroWr ?_
        obtain ⟨v1, hW⟩ : ∃ w', World.alloc wr.drew (.cells #[.bool false, .int .i64 0, .slice none 0 0] 26) = w' := ⟨_, rfl⟩
        rw [hW]
        have hb : Below wr.drew.heap.size wr.drew v1 := hW ▸ below_alloc (Below.refl _ _) _
        have N10 : v1.heap[wr.drew.heap.size]? = some (.cells #[.bool false, .int .i64 0, .slice none 0 0] 26 (0, 0)) := hW ▸ blk_new wr.drew _
        have L10 : wr.heap.size ≤ wr.drew.heap.size := hHeld.size
        clear hW
        refine hK.out _ _ (below_step' hHeld hb) (fun hHeld => ?_)
        clear hK K hb
        try simp only [List.getElem_toArray, List.getElem_cons_succ, List.getElem_cons_zero, Act.put, List.setIfInBounds_toArray, List.set_cons_zero, List.set_cons_succ]
        have hlt1 : wr.drew.heap.size < v1.heap.size := blk_lt N10
        refine wpAnyH_ready (rs := [11]) (by kernel_rfl) (by simp) ?_
        refine AllReadyH.cons rfl (fun K hK => ?_) AllReadyH.nil
        rw [if_pos (by rfl)]
        refine wp_allocZ 26 rfl _ zeroWr ?_
        obtain ⟨v2, hW⟩ : ∃ w', World.alloc v1 (.cells #[.bool false, .int .i64 0, .slice none 0 0] 26) = w' := ⟨_, rfl⟩
        rw [hW]
        have hb : Below v1.heap.size v1 v2 := hW ▸ below_alloc (Below.refl _ _) _
        have N11 : v2.heap[v1.heap.size]? = some (.cells #[.bool false, .int .i64 0, .slice none 0 0] 26 (0, 0)) := hW ▸ blk_new v1 _
        have L11 : wr.heap.size ≤ v1.heap.size := hHeld.size
        clear hW
        have N10 := blk_below N10 hb
        refine hK.out _ _ (below_step' hHeld hb) (fun hHeld => ?_)
        clear hK K hb
        try simp only [List.getElem_toArray, List.getElem_cons_succ, List.getElem_cons_zero, Act.put, List.setIfInBounds_toArray, List.set_cons_zero, List.set_cons_succ]
        have NE : wr.drew.heap.size ≠ v1.heap.size := by intro he; have := blk_lt N10; have : wr.drew.heap.size < v1.heap.size := hlt1; omega
        obtain ⟨g6, hg6⟩ : ∃ g, wr.drew.heap.size = g := ⟨_, rfl⟩
        obtain ⟨g7, hg7⟩ : ∃ g, v1.heap.size = g := ⟨_, rfl⟩
        rw [hg6] at NE N10 L10
        rw [hg7] at NE N11 L11
        rw [hg6, hg7]
        clear hg6 hg7 hlt1
        have M1 := setRow_other v2 g6 g7 #[.bool cu, .int .i64 ofi, .slice A3 d.length c3] NE.symm
        have H6 := Lib.hid (show ((v2.setRow g6 #[.bool cu, .int .i64 ofi, .slice A3 d.length c3]).setRow g7 #[.bool cu, .int .i64 ofi, .slice A4 d.length c4]).heap[g6]? = some (.cells #[.bool cu, .int .i64 ofi, .slice A3 d.length c3] 26 (0, 0)) from (setRow_other _ _ _ _ NE).trans (setRow_heap v2 _ _ _ _ _ N10))
        have H7 := Lib.hid (show ((v2.setRow g6 #[.bool cu, .int .i64 ofi, .slice A3 d.length c3]).setRow g7 #[.bool cu, .int .i64 ofi, .slice A4 d.length c4]).heap[g7]? = some (.cells #[.bool cu, .int .i64 ofi, .slice A4 d.length c4] 26 (0, 0)) from setRow_heap _ _ _ _ _ _ (M1.trans N11))
        have HN10 := Lib.hid N10
        have HN11 := Lib.hid (M1.trans N11)
        clear N10 N11 M1
        refine wpAnyH_ready (rs := [12]) (by kernel_rfl) (by simp) ?_
        refine AllReadyH.cons rfl (fun K hK => ?_) AllReadyH.nil
        rw [if_pos (by rfl)]
        refine wp_store_row 26 _ _ rfl g6 #[.bool cu, .int .i64 ofi, .slice A3 d.length c3] rfl rfl 26 _ HN10.out infoW1 rfl (by simp [Value.oneCell']) ?_
        refine hK.out _ _ (below_setRow hHeld L10 _) (fun hHeld => ?_)
        clear hK K
        try simp only [List.getElem_toArray, List.getElem_cons_succ, List.getElem_cons_zero, Act.put, List.setIfInBounds_toArray, List.set_cons_zero, List.set_cons_succ]
        refine wpAnyH_ready (rs := [13]) (by kernel_rfl) (by simp) ?_
        refine AllReadyH.cons rfl (fun K hK => ?_) AllReadyH.nil
        rw [if_pos (by rfl)]
        refine wp_store_row 26 _ _ rfl g7 #[.bool cu, .int .i64 ofi, .slice A4 d.length c4] rfl rfl 26 _ HN11.out infoW1 rfl (by simp [Value.oneCell']) ?_
        refine hK.out _ _ (below_setRow hHeld L11 _) (fun hHeld => ?_)
        clear hK K
        try simp only [List.getElem_toArray, List.getElem_cons_succ, List.getElem_cons_zero, Act.put, List.setIfInBounds_toArray, List.set_cons_zero, List.set_cons_succ]
        refine wpAnyH_done (by kernel_rfl) ?_ _
        obtain ⟨w5, hw5⟩ : ∃ w', (v2.setRow g6 #[.bool cu, .int .i64 ofi, .slice A3 d.length c3]).setRow g7 #[.bool cu, .int .i64 ofi, .slice A4 d.length c4] = w' := ⟨_, rfl⟩
        rw [hw5] at H6 H7 hHeld ⊢
        clear hw5
        have HB5 := Lib.hid (below_step' HBr.out hHeld)
        have R35 := Lib.hid (R3.out.below hHeld)
        have R45 := Lib.hid (R4.out.below hHeld)
        have a0 := blk_cell H6.out 0
        have a1 := blk_cell H6.out 1
        have a2 := blk_cell H6.out 2
        have b0 := blk_cell H7.out 0
        have b1 := blk_cell H7.out 1
        have b2 := blk_cell H7.out 2
        have a3 := blk_lt H6.out
        have b3 := blk_lt H7.out
        clear hHeld
        go_wp2_with fail
        refine (HSD.out w5 R35.out R45.out).mono ?_
        rintro e w6 ⟨rfl, n6, hq6⟩
        have HB6 := Lib.hid (show Below w2.heap.size w2 w6 from hq6 ▸ pw_below_drewN HB5.out _)
        clear hq6
        go_wp2_with fail
        go_roundw
        case rel => exact ⟨k + 1, by omega, by go_num, HB6⟩
        case measure => simp [intOf]; omega
      · rw [if_pos (by rfl)]
        refine wp_allocZ 26 rfl _ zeroWr ?_
        obtain ⟨v1, hW⟩ : ∃ w', World.alloc wr.drew (.cells #[.bool false, .int .i64 0, .slice none 0 0] 26) = w' := ⟨_, rfl⟩
        rw [hW]
        have hb : Below wr.drew.heap.size wr.drew v1 := hW ▸ below_alloc (Below.refl _ _) _
        have N11 : v1.heap[wr.drew.heap.size]? = some (.cells #[.bool false, .int .i64 0, .slice none 0 0] 26 (0, 0)) := hW ▸ blk_new wr.drew _
        have L11 : wr.heap.size ≤ wr.drew.heap.size := hHeld.size
        clear hW
        refine hK.out _ _ (below_step' hHeld hb) (fun hHeld => ?_)
        clear hK K hb
        try simp only [List.getElem_toArray, List.getElem_cons_succ, List.getElem_cons_zero, Act.put, List.setIfInBounds_toArray, List.set_cons_zero, List.set_cons_succ]
        have hlt1 : wr.drew.heap.size < v1.heap.size := blk_lt N11
        refine wpAnyH_ready (rs := [10]) (by kernel_rfl) (by simp) ?_
        refine AllReadyH.cons rfl (fun K hK => ?_) AllReadyH.nil
        rw [if_pos (by rfl)]
        refine wp_allocZ 26 rfl _ zeroWr ?_
        obtain ⟨v2, hW⟩ : ∃ w', World.alloc v1 (.cells #[.bool false, .int .i64 0, .slice none 0 0] 26) = w' := ⟨_, rfl⟩
        rw [hW]
        have hb : Below v1.heap.size v1 v2 := hW ▸ below_alloc (Below.refl _ _) _
        have N10 : v2.heap[v1.heap.size]? = some (.cells #[.bool false, .int .i64 0, .slice none 0 0] 26 (0, 0)) := hW ▸ blk_new v1 _
        have L10 : wr.heap.size ≤ v1.heap.size := hHeld.size
        clear hW
        have N11 := blk_below N11 hb
        refine hK.out _ _ (below_step' hHeld hb) (fun hHeld => ?_)
        clear hK K hb
        try simp only [List.getElem_toArray, List.getElem_cons_succ, List.getElem_cons_zero, Act.put, List.setIfInBounds_toArray, List.set_cons_zero, List.set_cons_succ]
        have NE : v1.heap.size ≠ wr.drew.heap.size := by intro he; have := blk_lt N11; have : wr.drew.heap.size < v1.heap.size := hlt1; omega
        obtain ⟨g6, hg6⟩ : ∃ g, v1.heap.size = g := ⟨_, rfl⟩
        obtain ⟨g7, hg7⟩ : ∃ g, wr.drew.heap.size = g := ⟨_, rfl⟩
        rw [hg6] at NE N10 L10
        rw [hg7] at NE N11 L11
        rw [hg6, hg7]
        clear hg6 hg7 hlt1
        have M1 := setRow_other v2 g6 g7 #[.bool cu, .int .i64 ofi, .slice A3 d.length c3] NE.symm
        have H6 := Lib.hid (show ((v2.setRow g6 #[.bool cu, .int .i64 ofi, .slice A3 d.length c3]).setRow g7 #[.bool cu, .int .i64 ofi, .slice A4 d.length c4]).heap[g6]? = some (.cells #[.bool cu, .int .i64 ofi, .slice A3 d.length c3] 26 (0, 0)) from (setRow_other _ _ _ _ NE).trans (setRow_heap v2 _ _ _ _ _ N10))
        have H7 := Lib.hid (show ((v2.setRow g6 #[.bool cu, .int .i64 ofi, .slice A3 d.length c3]).setRow g7 #[.bool cu, .int .i64 ofi, .slice A4 d.length c4]).heap[g7]? = some (.cells #[.bool cu, .int .i64 ofi, .slice A4 d.length c4] 26 (0, 0)) from setRow_heap _ _ _ _ _ _ (M1.trans N11))
        have HN10 := Lib.hid N10
        have HN11 := Lib.hid (M1.trans N11)
        clear N10 N11 M1
        refine wpAnyH_ready (rs := [12]) (by kernel_rfl) (by simp) ?_
        refine AllReadyH.cons rfl (fun K hK => ?_) AllReadyH.nil
        rw [if_pos (by rfl)]
        refine wp_store_row 26 _ _ rfl g6 #[.bool cu, .int .i64 ofi, .slice A3 d.length c3] rfl rfl 26 _ HN10.out infoW1 rfl (by simp [Value.oneCell']) ?_
        refine hK.out _ _ (below_setRow hHeld L10 _) (fun hHeld => ?_)
        clear hK K
        try simp only [List.getElem_toArray, List.getElem_cons_succ, List.getElem_cons_zero, Act.put, List.setIfInBounds_toArray, List.set_cons_zero, List.set_cons_succ]
        refine wpAnyH_ready (rs := [13]) (by kernel_rfl) (by simp) ?_
        refine AllReadyH.cons rfl (fun K hK => ?_) AllReadyH.nil
        rw [if_pos (by rfl)]
        refine wp_store_row 26 _ _ rfl g7 #[.bool cu, .int .i64 ofi, .slice A4 d.length c4] rfl rfl 26 _ HN11.out infoW1 rfl (by simp [Value.oneCell']) ?_
        refine hK.out _ _ (below_setRow hHeld L11 _) (fun hHeld => ?_)
        clear hK K
        try simp only [List.getElem_toArray, List.getElem_cons_succ, List.getElem_cons_zero, Act.put, List.setIfInBounds_toArray, List.set_cons_zero, List.set_cons_succ]
        refine wpAnyH_done (by kernel_rfl) ?_ _
        obtain ⟨w5, hw5⟩ : ∃ w', (v2.setRow g6 #[.bool cu, .int .i64 ofi, .slice A3 d.length c3]).setRow g7 #[.bool cu, .int .i64 ofi, .slice A4 d.length c4] = w' := ⟨_, rfl⟩
        rw [hw5] at H6 H7 hHeld ⊢
        clear hw5
        have HB5 := Lib.hid (below_step' HBr.out hHeld)
        have R35 := Lib.hid (R3.out.below hHeld)
        have R45 := Lib.hid (R4.out.below hHeld)
        have a0 := blk_cell H6.out 0
        have a1 := blk_cell H6.out 1
        have a2 := blk_cell H6.out 2
        have b0 := blk_cell H7.out 0
        have b1 := blk_cell H7.out 1
        have b2 := blk_cell H7.out 2
        have a3 := blk_lt H6.out
        have b3 := blk_lt H7.out
        clear hHeld
        go_wp2_with fail
        refine (HSD.out w5 R35.out R45.out).mono ?_
        rintro e w6 ⟨rfl, n6, hq6⟩
        have HB6 := Lib.hid (show Below w2.heap.size w2 w6 from hq6 ▸ pw_below_drewN HB5.out _)
        clear hq6
        go_wp2_with fail
        go_roundw
        case rel => exact ⟨k + 1, by omega, by go_num, HB6⟩
        case measure => simp [intOf]; omega
    · obtain rfl : k = l.length := by omega
      go_wp2_with fail
      go_ret
      exact ⟨rfl, below_step' HB2.out HBr.out⟩
end Go.Proofs.Ytkgbimkjpllakaa.In
