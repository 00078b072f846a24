/- inode's document's own answers: what each call answers. -/
import Derived.Test.YtkgbimkjpllakaaInoW
set_option linter.unusedVariables false
set_option linter.unusedSimpArgs false
namespace Go.Proofs.Ytkgbimkjpllakaa.In
open Go.RowKit Go.Proofs.YtkgbimkjpllakaaW.PrintWords Go.Proofs.Ytkgbimkjpllakaa.B Go.Proofs.Ytkgbimkjpllakaa.O Go.Proofs.Ytkgbimkjpllakaa.Wr

theorem fk_wr {w : World} {ok : Nat → Prop} {cu : Bool} {off : Int64} {d : List UInt8} {A : Option Addr} {c : Nat} (hd : d.length ≤ c) (hb : FB w ok A d) : Kd.FK kWr w ok (cu, off, d) [.bool cu, .int .i64 off.toInt, .slice A d.length c] :=
  fun W' hW => ⟨[_], _, rfl, rfl, [_], [_], rfl, rfl, A, c, rfl, hd, hb W' hW⟩
set_option maxRecDepth 100000 in
set_option maxHeartbeats 1600000 in
theorem more_any (A : Option Addr) (c : Nat) (b : List UInt8) (A2 : Option Addr) (c2 : Nat) (l : List Wt) (cu : Bool) (off : Int64) (Ad : Option Addr) (cd : Nat) (d : List UInt8) (w : World) (ok : Nat → Prop) (hb : FB w ok A b) (hw : FW w ok A2 l) (hd : FB w ok Ad d) (hok : ∀ k, ok k → k < w.heap.size) (hc : b.length ≤ c) (hcd : d.length ≤ cd) (hlen : (l.length + 1) * 40 ≤ 140737488355328) :
    Calls Try.prog 59 #[.agg #[.slice A b.length c, .slice A2 l.length c2], .agg #[.bool cu, .int .i64 off.toInt, .slice Ad d.length cd]] w (InoE (b, l ++ [(cu, off, d)]) ok w) := by
  obtain ⟨w2, hw2⟩ : ∃ w2, ((w.alloc (.cells #[.slice A b.length c, .slice A2 l.length c2] 37)).alloc (.cells #[.bool cu, .int .i64 off.toInt, .slice Ad d.length cd] 26)).alloc (.cells #[.slice none 0 0, .slice none 0 0] 37) = w2 := ⟨_, rfl⟩
  have hB2 : Below w.heap.size w w2 := hw2 ▸ below_alloc (below_alloc (below_alloc (Below.refl _ _) _) _) _
  have hs1 : (w.alloc (.cells #[.slice A b.length c, .slice A2 l.length c2] 37)).heap.size = w.heap.size + 1 := by simp
  have hs2 : ((w.alloc (.cells #[.slice A b.length c, .slice A2 l.length c2] 37)).alloc (.cells #[.bool cu, .int .i64 off.toInt, .slice Ad d.length cd] 26)).heap.size = w.heap.size + 2 := by simp
  have hZ : w2.heap[w.heap.size + 2]? = some (.cells #[.slice none 0 0, .slice none 0 0] 37 (0, 0)) := by rw [← hs2, ← hw2]; exact blk_new _ _
  have hY : w2.heap[w.heap.size + 1]? = some (.cells #[.bool cu, .int .i64 off.toInt, .slice Ad d.length cd] 26 (0, 0)) := by rw [← hs1, ← hw2]; exact blk_alloc (blk_new _ _) _
  have hX : w2.heap[w.heap.size]? = some (.cells #[.slice A b.length c, .slice A2 l.length c2] 37 (0, 0)) := by rw [← hw2]; exact blk_alloc (blk_alloc (blk_new w _) _) _
  have c0 : w2.cell? ⟨w.heap.size, 0, none⟩ = some (.slice A b.length c) := blk_cell hX 0
  have c1 : w2.cell? ⟨w.heap.size, 1, none⟩ = some (.slice A2 l.length c2) := blk_cell hX 1
  have hz := blk_lt hZ
  have HZ := Lib.hid hZ
  have HX := Lib.hid hX
  have HY := Lib.hid hY
  have HB2 := Lib.hid hB2
  have HFB := Lib.hid (hb.below hB2)
  have HFW := Lib.hid (hw.below hB2)
  have HFD := Lib.hid (hd.below hB2)
  have HR2 := Lib.hid (Kd.F_bound (hw.below hB2))
  have HL1 := Lib.hid (show (([] : List Wt).length + l.length) * 40 ≤ 140737488355328 by simp; omega)
  have HOK2 := Lib.hid (fun k (hk : ok k) => (show ok k ∨ w2.heap.size ≤ k from .inl hk))
  clear hs1 hs2 hZ hX hY hb hw hd hB2
  go_enter Try.func59, Try.ntmps59
  go_wp2_with (at_builtin; refine Kd.N_append_rows kWr (w0 := w2) w2.heap.size rfl (.const (.slice none 0 0)) (.tmp 7) 23 26 _ _ rfl undWr infoWr rfl (by decide) (by decide) (.slice none 0 0) [] l A2 l.length c2 (fun k => ok k ∨ w2.heap.size ≤ k) ok rfl rfl (Kd.N_nil _ _ _ _ _) HFW.out (fun k hk => ⟨.inl hk, by simp [Value.ownBlock]⟩) (fun k hk => .inr hk) (Below.refl _ _) (Nat.le_refl _) HL1.out ?_; intro v1 w3 hN hB _ _; rw [List.nil_append] at hN; obtain ⟨A3, c3, rfl, -, -⟩ := Kd.N_reads hN; have HN := Lib.hid hN; have HB23 := Lib.hid hB; clear hN hB)
  have HX3 := Lib.hid (blk_below HX.out HB23.out)
  have HY3 := Lib.hid (blk_below HY.out HB23.out)
  have HZ3 := Lib.hid (blk_below HZ.out HB23.out)
  have HB3 := Lib.hid (below_step' HB2.out HB23.out)
  have HFB3 := Lib.hid (Kd.F_below HFB.out HB23.out)
  have HFD3 := Lib.hid (Kd.F_below HFD.out HB23.out)
  have hs23 : w2.heap.size ≤ w3.heap.size := HB23.out.size
  refine wp_region_held_drew (S := fun W => W.heap[w.heap.size]? = some (.cells #[.slice A b.length c, .slice A2 l.length c2] 37 (0, 0)) ∧ W.heap[w.heap.size + 1]? = some (.cells #[.bool cu, .int .i64 off.toInt, .slice Ad d.length cd] 26 (0, 0)) ∧ Below w.heap.size w W ∧ w2.heap.size ≤ W.heap.size) (by kernel_rfl) ⟨HX3.out, HY3.out, below_drew HB3.out, hs23⟩ (fun hHeld => ?_)
  refine wpAnyH_take (i := 0) (v := _) rfl (by kernel_rfl) (by kernel_rfl) (by kernel_rfl) (fun _ _ _ h => h) (Or.inl ⟨by kernel_rfl, fun w _ => by go_simp <;> with_reducible rfl⟩) hHeld ?_
  simp only [List.getElem_toArray, List.getElem_cons_succ, List.getElem_cons_zero, Act.put, List.setIfInBounds_toArray, List.set_cons_zero, List.set_cons_succ]
  refine wpAnyH_take (i := 1) (v := .slice A b.length c) rfl (by kernel_rfl) (by kernel_rfl) (by kernel_rfl) (fun _ _ _ h => h) (Or.inl ⟨by kernel_rfl, fun W h => by have c0 : W.cell? ⟨w.heap.size, 0, none⟩ = some (.slice A b.length c) := blk_cell h.1 0; go_simp <;> with_reducible rfl⟩) hHeld ?_
  simp only [List.getElem_toArray, List.getElem_cons_succ, List.getElem_cons_zero, Act.put, List.setIfInBounds_toArray, List.set_cons_zero, List.set_cons_succ]
  refine wpAnyH_take (i := 2) (v := _) rfl (by kernel_rfl) (by kernel_rfl) (by kernel_rfl) (fun _ _ _ h => h) (Or.inl ⟨by kernel_rfl, fun w _ => by go_simp <;> with_reducible rfl⟩) hHeld ?_
  simp only [List.getElem_toArray, List.getElem_cons_succ, List.getElem_cons_zero, Act.put, List.setIfInBounds_toArray, List.set_cons_zero, List.set_cons_succ]
  refine wpAnyH_take (i := 3) (v := .agg (#[.bool cu, .int .i64 off.toInt, .slice Ad d.length cd] : Array Value).toList.toArray) rfl (by kernel_rfl) (by kernel_rfl) (by kernel_rfl) (fun _ _ _ h => h) (yieldsIf_load_mid (by kernel_rfl) 26 _ rfl (w.heap.size + 1) 0 rfl (#[.bool cu, .int .i64 off.toInt, .slice Ad d.length cd] : Array Value).toList _ (fun W h => range_row h.2.1) Try.underlying26 rfl infoW1) hHeld ?_
  simp only [List.getElem_toArray, List.getElem_cons_succ, List.getElem_cons_zero, Act.put, List.setIfInBounds_toArray, List.set_cons_zero, List.set_cons_succ]
  refine wpAnyH_ready (rs := [4]) (by kernel_rfl) (by simp) ?_
  refine AllReadyH.cons rfl (fun K hK => ?_) AllReadyH.nil
  go_simp
  have hb4 : Below w3.heap.size w3 (w3.drew.alloc (.cells #[.bool cu, .int .i64 off.toInt, .slice Ad d.length cd] 26)) := below_alloc (below_drew (Below.refl _ _)) _
  refine hK.out _ _ ⟨blk_below hHeld.1 (below_alloc (Below.refl _ _) _), blk_below hHeld.2.1 (below_alloc (Below.refl _ _) _), below_step' hHeld.2.2.1 (below_alloc (Below.refl _ _) _), Nat.le_trans hHeld.2.2.2 (by simp)⟩ (fun hHeld => ?_)
  clear hK K
  try simp only [List.getElem_toArray, List.getElem_cons_succ, List.getElem_cons_zero, Act.put, List.setIfInBounds_toArray, List.set_cons_zero, List.set_cons_succ]
  refine wpAnyH_ready (rs := [5]) (by kernel_rfl) (by simp) ?_
  refine AllReadyH.cons rfl (fun K hK => ?_) AllReadyH.nil
  refine Kd.N_append_step kWr (w0 := w2) (W := w3.drew) w2.heap.size (by rfl) (.tmp 11) (.tmp 13) 23 26 _ _ rfl undWr infoWr rfl (by decide) (by decide) (.slice A3 l.length c3) l (cu, off, d) [.bool cu, .int .i64 off.toInt, .slice Ad d.length cd] (fun k => ok k ∨ w2.heap.size ≤ k) ok rfl rfl (fk_wr hcd (Kd.F_drew HFD3.out)) (fun k hk => ⟨.inl hk, fun he => by have := Kd.N_base HN.out k he.symm; have := hok k hk; omega⟩) (fun k hk => .inr (Nat.le_trans hs23 hk)) (Kd.N_drew HN.out) (below_drew HB23.out) hs23 hlen ?_
  intro v4 w4 hN hB hgr hat
  obtain ⟨A4, c4, rfl, hc4, -⟩ := Kd.N_reads hN
  obtain ⟨y, hy⟩ : ∃ y, l ++ [(cu, off, d)] = y := ⟨_, rfl⟩
  rw [hy] at hN hc4 ⊢
  have HF4 := Lib.hid (Kd.N_F hN)
  have HB24 := Lib.hid hB
  have HZ4 := Lib.hid (blk_below HZ.out hB)
  refine hK.out _ _ ⟨blk_below HX.out hB, blk_below HY.out hB, below_step' HB2.out hB, hB.size⟩ (fun hHeld => ?_)
  clear hK K hN hB hgr hat
  try simp only [List.getElem_toArray, List.getElem_cons_succ, List.getElem_cons_zero, Act.put, List.setIfInBounds_toArray, List.set_cons_zero, List.set_cons_succ]
  refine wpAnyH_take (i := 6) (v := _) rfl (by kernel_rfl) (by kernel_rfl) (by kernel_rfl) (fun _ _ _ h => h) (Or.inl ⟨by kernel_rfl, fun w _ => by go_simp <;> with_reducible rfl⟩) hHeld ?_
  simp only [List.getElem_toArray, List.getElem_cons_succ, List.getElem_cons_zero, Act.put, List.setIfInBounds_toArray, List.set_cons_zero, List.set_cons_succ]
  refine wpAnyH_ready (rs := [7]) (by kernel_rfl) (by simp) ?_
  refine AllReadyH.cons rfl (fun K hK => ?_) AllReadyH.nil
  rw [if_pos (by rfl)]
  refine wp_store_row 37 _ _ rfl (w.heap.size + 2) #[.slice A b.length c, .slice A4 y.length c4] rfl rfl 37 _ HZ4.out infoIn rfl (by simp [Value.oneCell']) ?_
  refine hK.out _ _ ⟨(setRow_other _ _ _ _ (by omega)).trans hHeld.1, (setRow_other _ _ _ _ (by omega)).trans hHeld.2.1, below_setRow hHeld.2.2.1 (by omega) _, by rw [size_setRow]; exact hHeld.2.2.2⟩ (fun hHeld => ?_)
  clear hK K
  try simp only [List.getElem_toArray, List.getElem_cons_succ, List.getElem_cons_zero, Act.put, List.setIfInBounds_toArray, List.set_cons_zero, List.set_cons_succ]
  refine wpAnyH_done (by kernel_rfl) ?_ _
  have HB9 := Lib.hid hHeld.2.2.1
  have HFB4 := Lib.hid (Kd.F_below HFB.out HB24.out)
  go_wp2_with fail
  refine bodyPost_ret_by (results_cell_row rfl _ _ (w.heap.size + 2) _ _ (0, 0) _ rfl (setRow_heap _ _ _ _ _ _ HZ4.out) Try.underlying37 rfl infoIn) rfl ?_
  have hne : ∀ k, ok k → k ≠ w.heap.size + 2 := fun k hk => by have := hok k hk; omega
  have hne2 : ∀ k, (ok k ∨ w2.heap.size ≤ k) → k ≠ w.heap.size + 2 := fun k hk => by rcases hk with hk | hk; exact hne k hk; omega
  rw [hy]
  exact ⟨_, rfl, in_mk hc hc4 (Kd.F_mono (f_row HFB4.out hne _) (fun k hk => .inl hk)) (Kd.F_mono (f_row HF4.out hne2 _) (fun k hk => hk.imp id (fun (h : w2.heap.size ≤ k) => (by omega : w.heap.size ≤ k)))), HB9.out⟩
set_option maxRecDepth 100000 in
set_option maxHeartbeats 1600000 in
theorem refappend_any (A : Option Addr) (c : Nat) (b : List UInt8) (A2 : Option Addr) (c2 : Nat) (l : List Wt) (Ad : Option Addr) (cd : Nat) (d : List UInt8) (w : World) (ok : Nat → Prop) (hl : b.length ≤ 140737488355000) (hb : FB w ok A b) (hw : FW w ok A2 l) (hok : ∀ k, ok k → k < w.heap.size) (hc : b.length ≤ c) (hc2 : l.length ≤ c2) (hd : FB w ok Ad d) (hcd : d.length ≤ cd) (hdl : d.length ≤ 140737488355000) (hlen : (l.length + 1) * 40 ≤ 140737488355328) :
    Calls Try.prog 40 #[.agg #[.slice A b.length c, .slice A2 l.length c2], .slice Ad d.length cd] w (InoN (appX b l d) (appN b l d) ok w) := by
  obtain ⟨w2, hw2⟩ : ∃ w2, (w.alloc (.cells #[.slice A b.length c, .slice A2 l.length c2] 37)).alloc (.cells #[.slice none 0 0, .slice none 0 0] 37) = w2 := ⟨_, rfl⟩
  have hB2 : Below w.heap.size w w2 := hw2 ▸ below_alloc (below_alloc (Below.refl _ _) _) _
  have hs1 : (w.alloc (.cells #[.slice A b.length c, .slice A2 l.length c2] 37)).heap.size = w.heap.size + 1 := by simp
  have hZ : w2.heap[w.heap.size + 1]? = some (.cells #[.slice none 0 0, .slice none 0 0] 37 (0, 0)) := by rw [← hs1, ← hw2]; exact blk_new _ _
  have hX : w2.heap[w.heap.size]? = some (.cells #[.slice A b.length c, .slice A2 l.length c2] 37 (0, 0)) := by rw [← hw2]; exact blk_alloc (blk_new w _) _
  have c0 : w2.cell? ⟨w.heap.size, 0, none⟩ = some (.slice A b.length c) := blk_cell hX 0
  have c1 : w2.cell? ⟨w.heap.size, 1, none⟩ = some (.slice A2 l.length c2) := blk_cell hX 1
  have hz := blk_lt hZ
  have HZ := Lib.hid hZ
  have HX := Lib.hid hX
  have HB2 := Lib.hid hB2
  clear hs1 hZ hX
  have HFB := Lib.hid (hb.below hB2)
  have HFW := Lib.hid (hw.below hB2)
  have HNOW := Lib.hid (Wr.refall_any A c b A2 c2 l w2 hl hc HFB.out.rd HFW.out.rd)
  have HAL := Lib.hid (allL_len b l)
  have HFD := Lib.hid (hd.below hB2)
  clear hb hw hd hB2
  obtain ⟨n, hn⟩ : ∃ n, (allL b l).length = n := ⟨_, rfl⟩
  rw [hn] at HAL
  have hnb : n ≤ 140737488355000 := by have := HAL.out; omega
  by_cases hlg : 1048576 < n + d.length
  · have HE := Lib.hid (show appN b l d = 18 by unfold appN; rw [hn, if_pos hlg])
    have HXE := Lib.hid (show appX b l d = (b, l) by unfold appX; rw [hn, if_pos (.inl hlg)])
    have hq : (1048576 : Int) < (n : Int) + (d.length : Int) := by omega
    clear hlg
    go_enter Try.func40, Try.ntmps40
    go_wp2_with fail
    refine HNOW.out.mono ?_
    rintro e w3 ⟨v3, rfl, hown, hb3⟩
    obtain ⟨A3, c3, rfl, -, -⟩ := hown.reads
    have HZ3 := Lib.hid (blk_below HZ.out hb3)
    have HX3 := Lib.hid (blk_below HX.out hb3)
    have HFB3 := Lib.hid (HFB.out.below hb3)
    have HFW3 := Lib.hid (HFW.out.below hb3)
    have HB3 := Lib.hid (below_step' HB2.out hb3)
    have HS3 := Lib.hid hb3.size
    have HB23 := Lib.hid hb3
    have d0 : w3.cell? ⟨w.heap.size, 0, none⟩ = some (.slice A b.length c) := blk_cell HX3.out 0
    have d1 : w3.cell? ⟨w.heap.size, 1, none⟩ = some (.slice A2 l.length c2) := blk_cell HX3.out 1
    have hz3 := blk_lt HZ3.out
    have hz31 := blk_lt HX3.out
    have HLN := Lib.hid (show (Value.slice A3 (allL b l).length c3) = .slice A3 n c3 by rw [hn])
    rw [HLN.out]
    clear hown hb3 hn
    go_wp2_with (first | (refine wpList_load_row rfl 37 _ rfl w.heap.size rfl 37 #[.slice A b.length c, .slice A2 l.length c2] (0, 0) _ HX3.out Try.underlying37 rfl infoIn ?_) | (refine wpList_store_row rfl 37 _ _ rfl (w.heap.size + 1) #[.slice A b.length c, .slice A2 l.length c2] rfl rfl 37 _ HZ3.out infoIn rfl (by simp [Value.oneCell']) ?_))
    refine bodyPost_ret_by (results_ct rfl _ _ (w.heap.size + 1) _ _ (0, 0) _ rfl (setRow_heap _ _ _ _ _ _ HZ3.out) Try.underlying37 rfl infoIn) rfl ?_
    have hne : ∀ k, ok k → k ≠ w.heap.size + 1 := fun k hk => by have := hok k hk; omega
    rw [HE.out, HXE.out]
    exact ⟨_, rfl, in_mk hc hc2 (Kd.F_mono (f_row HFB3.out hne _) (fun k hk => .inl hk)) (Kd.F_mono (f_row HFW3.out hne _) (fun k hk => .inl hk)), below_setRow HB3.out (Nat.le_succ _) _⟩
  · have hq : ¬ (1048576 : Int) < (n : Int) + (d.length : Int) := by omega
    by_cases hd0 : d = []
    · subst hd0
      have HE := Lib.hid (show appN b l [] = 0 by unfold appN; rw [hn, if_neg hlg])
      have HXE := Lib.hid (show appX b l [] = (b, l) by unfold appX; rw [if_pos (.inr rfl)])
      clear hlg
      simp only [List.length_nil] at hq
      go_enter Try.func40, Try.ntmps40
      go_wp2_with fail
      refine HNOW.out.mono ?_
      rintro e w3 ⟨v3, rfl, hown, hb3⟩
      obtain ⟨A3, c3, rfl, -, -⟩ := hown.reads
      have HZ3 := Lib.hid (blk_below HZ.out hb3)
      have HX3 := Lib.hid (blk_below HX.out hb3)
      have HFB3 := Lib.hid (HFB.out.below hb3)
      have HFW3 := Lib.hid (HFW.out.below hb3)
      have HB3 := Lib.hid (below_step' HB2.out hb3)
      have HS3 := Lib.hid hb3.size
      have HB23 := Lib.hid hb3
      have d0 : w3.cell? ⟨w.heap.size, 0, none⟩ = some (.slice A b.length c) := blk_cell HX3.out 0
      have d1 : w3.cell? ⟨w.heap.size, 1, none⟩ = some (.slice A2 l.length c2) := blk_cell HX3.out 1
      have hz3 := blk_lt HZ3.out
      have hz31 := blk_lt HX3.out
      have HLN := Lib.hid (show (Value.slice A3 (allL b l).length c3) = .slice A3 n c3 by rw [hn])
      rw [HLN.out]
      clear hown hb3 hn
      go_wp2_with (first | (refine wpList_load_row rfl 37 _ rfl w.heap.size rfl 37 #[.slice A b.length c, .slice A2 l.length c2] (0, 0) _ HX3.out Try.underlying37 rfl infoIn ?_) | (refine wpList_store_row rfl 37 _ _ rfl (w.heap.size + 1) #[.slice A b.length c, .slice A2 l.length c2] rfl rfl 37 _ HZ3.out infoIn rfl (by simp [Value.oneCell']) ?_))
      refine bodyPost_ret_by (results_ct rfl _ _ (w.heap.size + 1) _ _ (0, 0) _ rfl (setRow_heap _ _ _ _ _ _ HZ3.out) Try.underlying37 rfl infoIn) rfl ?_
      have hne : ∀ k, ok k → k ≠ w.heap.size + 1 := fun k hk => by have := hok k hk; omega
      rw [HE.out, HXE.out]
      exact ⟨_, rfl, in_mk hc hc2 (Kd.F_mono (f_row HFB3.out hne _) (fun k hk => .inl hk)) (Kd.F_mono (f_row HFW3.out hne _) (fun k hk => .inl hk)), below_setRow HB3.out (Nat.le_succ _) _⟩
    · have HE := Lib.hid (show appN b l d = 0 by unfold appN; rw [hn, if_neg hlg])
      have HXE := Lib.hid (show appX b l d = (b, l ++ [(false, Int64.ofNat n, d)]) by unfold appX; rw [hn, if_neg (by rintro (h | h); exact hlg h; exact hd0 h)])
      have hdp : 0 < d.length := by cases d with | nil => exact absurd rfl hd0 | cons => simp
      have hq2 : ((d.length : Int) == 0) = false := by rw [beq_eq_false_iff_ne]; omega
      have HOF := Lib.hid (show (Int64.ofNat n).toInt = (n : Int) from Int64.toInt_ofNat_of_lt (by omega))
      clear hlg hd0
      go_enter Try.func40, Try.ntmps40
      go_wp2_with fail
      refine HNOW.out.mono ?_
      rintro e w3 ⟨v3, rfl, hown, hb3⟩
      obtain ⟨A3, c3, rfl, -, -⟩ := hown.reads
      have HZ3 := Lib.hid (blk_below HZ.out hb3)
      have HX3 := Lib.hid (blk_below HX.out hb3)
      have HFB3 := Lib.hid (HFB.out.below hb3)
      have HFW3 := Lib.hid (HFW.out.below hb3)
      have HB3 := Lib.hid (below_step' HB2.out hb3)
      have HS3 := Lib.hid hb3.size
      have HB23 := Lib.hid hb3
      have d0 : w3.cell? ⟨w.heap.size, 0, none⟩ = some (.slice A b.length c) := blk_cell HX3.out 0
      have d1 : w3.cell? ⟨w.heap.size, 1, none⟩ = some (.slice A2 l.length c2) := blk_cell HX3.out 1
      have hz3 := blk_lt HZ3.out
      have hz31 := blk_lt HX3.out
      have HLN := Lib.hid (show (Value.slice A3 (allL b l).length c3) = .slice A3 n c3 by rw [hn])
      rw [HLN.out]
      clear hown hb3 hn
      have HMO := Lib.hid (show Calls Try.prog 59 #[.agg #[.slice A b.length c, .slice A2 l.length c2], .agg #[.bool false, .int .i64 n, .slice Ad d.length cd]] w3 _ from by have := more_any A c b A2 c2 l false (Int64.ofNat n) Ad cd d w3 ok HFB3.out HFW3.out (HFD.out.below HB23.out) (fun k hk => by have := hok k hk; omega) hc hcd hlen; rw [HOF.out] at this; exact this)
      go_wp2_with fail
      refine HMO.out.mono ?_
      rintro e w6 ⟨cs, rfl, hF6, hb6⟩
      obtain ⟨hcs2, hcs1⟩ := in_size hF6
      have HC2 := Lib.hid hcs2
      have HC1 := Lib.hid hcs1
      have HF6 := Lib.hid hF6
      have HZ6 := Lib.hid (blk_below HZ3.out hb6)
      have HB6 := Lib.hid (below_step' HB3.out hb6)
      clear hF6 hb6 hcs2 hcs1
      go_wp2_with (refine wpList_store_row rfl 37 _ _ rfl (w.heap.size + 1) cs rfl rfl 37 _ HZ6.out (infoIn' HC2.out) (by rw [HC2.out]; rfl) HC1.out ?_)
      refine bodyPost_ret_by (results_ct rfl _ _ (w.heap.size + 1) _ _ (0, 0) _ rfl (setRow_heap _ _ _ _ _ _ HZ6.out) Try.underlying37 rfl (infoIn' HC2.out)) rfl ?_
      rw [HE.out, HXE.out]
      have hne : ∀ k, (ok k ∨ w3.heap.size ≤ k) → k ≠ w.heap.size + 1 := fun k hk => by rcases hk with hk | hk; have := hok k hk; omega; omega
      exact ⟨_, rfl, Foot.mono (fk_row HF6.out hne _) (fun k hk => by rcases hk with hk | hk; exact .inl hk; right; omega), below_setRow HB6.out (Nat.le_succ _) _⟩
set_option maxRecDepth 100000 in
set_option maxHeartbeats 1600000 in
theorem refcut_any (A : Option Addr) (c : Nat) (b : List UInt8) (A2 : Option Addr) (c2 : Nat) (l : List Wt) (q : Int) (w : World) (ok : Nat → Prop) (hl : b.length ≤ 140737488355000) (hb : FB w ok A b) (hw : FW w ok A2 l) (hok : ∀ k, ok k → k < w.heap.size) (hc : b.length ≤ c) (hc2 : l.length ≤ c2) (hn1 : -9223372036854775808 ≤ q) (hn2 : q ≤ 9223372036854775807) (hlen : (l.length + 1) * 40 ≤ 140737488355328) :
    Calls Try.prog 42 #[.agg #[.slice A b.length c, .slice A2 l.length c2], .int .i64 q] w (InoN (cutX b l q) (cutN b l q) ok w) := by
  obtain ⟨w2, hw2⟩ : ∃ w2, (w.alloc (.cells #[.slice A b.length c, .slice A2 l.length c2] 37)).alloc (.cells #[.slice none 0 0, .slice none 0 0] 37) = w2 := ⟨_, rfl⟩
  have hB2 : Below w.heap.size w w2 := hw2 ▸ below_alloc (below_alloc (Below.refl _ _) _) _
  have hs1 : (w.alloc (.cells #[.slice A b.length c, .slice A2 l.length c2] 37)).heap.size = w.heap.size + 1 := by simp
  have hZ : w2.heap[w.heap.size + 1]? = some (.cells #[.slice none 0 0, .slice none 0 0] 37 (0, 0)) := by rw [← hs1, ← hw2]; exact blk_new _ _
  have hX : w2.heap[w.heap.size]? = some (.cells #[.slice A b.length c, .slice A2 l.length c2] 37 (0, 0)) := by rw [← hw2]; exact blk_alloc (blk_new w _) _
  have c0 : w2.cell? ⟨w.heap.size, 0, none⟩ = some (.slice A b.length c) := blk_cell hX 0
  have c1 : w2.cell? ⟨w.heap.size, 1, none⟩ = some (.slice A2 l.length c2) := blk_cell hX 1
  have hz := blk_lt hZ
  have HZ := Lib.hid hZ
  have HX := Lib.hid hX
  have HB2 := Lib.hid hB2
  clear hs1 hZ hX
  have HFB := Lib.hid (hb.below hB2)
  have HFW := Lib.hid (hw.below hB2)
  have HNOW := Lib.hid (Wr.refall_any A c b A2 c2 l w2 hl hc HFB.out.rd HFW.out.rd)
  have HAL := Lib.hid (allL_len b l)
  clear hb hw hB2
  obtain ⟨n, hn⟩ : ∃ n, (allL b l).length = n := ⟨_, rfl⟩
  rw [hn] at HAL
  have hnb : n ≤ 140737488355000 := by have := HAL.out; omega
  by_cases h0 : q < 0
  · have HE := Lib.hid (show cutN b l q = 20 by unfold cutN; rw [if_pos (.inl h0)])
    have HXE := Lib.hid (show cutX b l q = (b, l) by unfold cutX; rw [if_pos (.inl h0)])
    have hz2 := blk_lt HX.out
    clear hn
    go_enter Try.func42, Try.ntmps42
    go_wp2_with (first | (refine wpList_load_row rfl 37 _ rfl w.heap.size rfl 37 #[.slice A b.length c, .slice A2 l.length c2] (0, 0) _ HX.out Try.underlying37 rfl infoIn ?_) | (refine wpList_store_row rfl 37 _ _ rfl (w.heap.size + 1) #[.slice A b.length c, .slice A2 l.length c2] rfl rfl 37 _ HZ.out infoIn rfl (by simp [Value.oneCell']) ?_))
    refine bodyPost_ret_by (results_ct rfl _ _ (w.heap.size + 1) _ _ (0, 0) _ rfl (setRow_heap _ _ _ _ _ _ HZ.out) Try.underlying37 rfl infoIn) rfl ?_
    have hne : ∀ k, ok k → k ≠ w.heap.size + 1 := fun k hk => by have := hok k hk; omega
    rw [HE.out, HXE.out]
    exact ⟨_, rfl, in_mk hc hc2 (Kd.F_mono (f_row HFB.out hne _) (fun k hk => .inl hk)) (Kd.F_mono (f_row HFW.out hne _) (fun k hk => .inl hk)), below_setRow HB2.out (Nat.le_succ _) _⟩
  · by_cases h1 : (n : Int) < q
    · have HE := Lib.hid (show cutN b l q = 20 by unfold cutN; rw [hn, if_pos (.inr h1)])
      have HXE := Lib.hid (show cutX b l q = (b, l) by unfold cutX; rw [hn, if_pos (.inr h1)])
      go_enter Try.func42, Try.ntmps42
      go_wp2_with fail
      refine HNOW.out.mono ?_
      rintro e w3 ⟨v3, rfl, hown, hb3⟩
      obtain ⟨A3, c3, rfl, -, -⟩ := hown.reads
      have HZ3 := Lib.hid (blk_below HZ.out hb3)
      have HX3 := Lib.hid (blk_below HX.out hb3)
      have HFB3 := Lib.hid (HFB.out.below hb3)
      have HFW3 := Lib.hid (HFW.out.below hb3)
      have HB3 := Lib.hid (below_step' HB2.out hb3)
      have HS3 := Lib.hid hb3.size
      have HB23 := Lib.hid hb3
      have d0 : w3.cell? ⟨w.heap.size, 0, none⟩ = some (.slice A b.length c) := blk_cell HX3.out 0
      have d1 : w3.cell? ⟨w.heap.size, 1, none⟩ = some (.slice A2 l.length c2) := blk_cell HX3.out 1
      have hz3 := blk_lt HZ3.out
      have hz31 := blk_lt HX3.out
      have HLN := Lib.hid (show (Value.slice A3 (allL b l).length c3) = .slice A3 n c3 by rw [hn])
      rw [HLN.out]
      clear hown hb3 hn
      go_wp2_with (first | (refine wpList_load_row rfl 37 _ rfl w.heap.size rfl 37 #[.slice A b.length c, .slice A2 l.length c2] (0, 0) _ HX3.out Try.underlying37 rfl infoIn ?_) | (refine wpList_store_row rfl 37 _ _ rfl (w.heap.size + 1) #[.slice A b.length c, .slice A2 l.length c2] rfl rfl 37 _ HZ3.out infoIn rfl (by simp [Value.oneCell']) ?_))
      refine bodyPost_ret_by (results_ct rfl _ _ (w.heap.size + 1) _ _ (0, 0) _ rfl (setRow_heap _ _ _ _ _ _ HZ3.out) Try.underlying37 rfl infoIn) rfl ?_
      have hne : ∀ k, ok k → k ≠ w.heap.size + 1 := fun k hk => by have := hok k hk; omega
      rw [HE.out, HXE.out]
      exact ⟨_, rfl, in_mk hc hc2 (Kd.F_mono (f_row HFB3.out hne _) (fun k hk => .inl hk)) (Kd.F_mono (f_row HFW3.out hne _) (fun k hk => .inl hk)), below_setRow HB3.out (Nat.le_succ _) _⟩
    · have HE := Lib.hid (show cutN b l q = 0 by unfold cutN; rw [hn, if_neg (by rintro (h | h); exact h0 h; exact h1 h)])
      have HXE := Lib.hid (show cutX b l q = (b, l ++ [(true, Int64.ofInt q, [])]) by unfold cutX; rw [hn, if_neg (by rintro (h | h); exact h0 h; exact h1 h)])
      have HOF := Lib.hid (show (Int64.ofInt q).toInt = q from Int64.toInt_ofInt_of_le hn1 (by omega))
      go_enter Try.func42, Try.ntmps42
      go_wp2_with fail
      refine HNOW.out.mono ?_
      rintro e w3 ⟨v3, rfl, hown, hb3⟩
      obtain ⟨A3, c3, rfl, -, -⟩ := hown.reads
      have HZ3 := Lib.hid (blk_below HZ.out hb3)
      have HX3 := Lib.hid (blk_below HX.out hb3)
      have HFB3 := Lib.hid (HFB.out.below hb3)
      have HFW3 := Lib.hid (HFW.out.below hb3)
      have HB3 := Lib.hid (below_step' HB2.out hb3)
      have HS3 := Lib.hid hb3.size
      have HB23 := Lib.hid hb3
      have d0 : w3.cell? ⟨w.heap.size, 0, none⟩ = some (.slice A b.length c) := blk_cell HX3.out 0
      have d1 : w3.cell? ⟨w.heap.size, 1, none⟩ = some (.slice A2 l.length c2) := blk_cell HX3.out 1
      have hz3 := blk_lt HZ3.out
      have hz31 := blk_lt HX3.out
      have HLN := Lib.hid (show (Value.slice A3 (allL b l).length c3) = .slice A3 n c3 by rw [hn])
      rw [HLN.out]
      clear hown hb3 hn
      have HMO := Lib.hid (show Calls Try.prog 59 #[.agg #[.slice A b.length c, .slice A2 l.length c2], .agg #[.bool true, .int .i64 q, .slice none 0 0]] w3 _ from by have := more_any A c b A2 c2 l true (Int64.ofInt q) none 0 [] w3 ok HFB3.out HFW3.out (fb_nil _ _) (fun k hk => by have := hok k hk; omega) hc (Nat.le_refl _) hlen; rw [HOF.out] at this; exact this)
      go_wp2_with fail
      refine HMO.out.mono ?_
      rintro e w6 ⟨cs, rfl, hF6, hb6⟩
      obtain ⟨hcs2, hcs1⟩ := in_size hF6
      have HC2 := Lib.hid hcs2
      have HC1 := Lib.hid hcs1
      have HF6 := Lib.hid hF6
      have HZ6 := Lib.hid (blk_below HZ3.out hb6)
      have HB6 := Lib.hid (below_step' HB3.out hb6)
      clear hF6 hb6 hcs2 hcs1
      go_wp2_with (refine wpList_store_row rfl 37 _ _ rfl (w.heap.size + 1) cs rfl rfl 37 _ HZ6.out (infoIn' HC2.out) (by rw [HC2.out]; rfl) HC1.out ?_)
      refine bodyPost_ret_by (results_ct rfl _ _ (w.heap.size + 1) _ _ (0, 0) _ rfl (setRow_heap _ _ _ _ _ _ HZ6.out) Try.underlying37 rfl (infoIn' HC2.out)) rfl ?_
      rw [HE.out, HXE.out]
      have hne : ∀ k, (ok k ∨ w3.heap.size ≤ k) → k ≠ w.heap.size + 1 := fun k hk => by rcases hk with hk | hk; have := hok k hk; omega; omega
      exact ⟨_, rfl, Foot.mono (fk_row HF6.out hne _) (fun k hk => by rcases hk with hk | hk; exact .inl hk; right; omega), below_setRow HB6.out (Nat.le_succ _) _⟩
set_option maxRecDepth 100000 in
set_option maxHeartbeats 1600000 in
theorem refcrash_any (A : Option Addr) (c : Nat) (b : List UInt8) (A2 : Option Addr) (c2 : Nat) (l : List Wt) (Ac : Option Addr) (cc : Nat) (ch : List UInt8) (w : World) (hl : b.length ≤ 140737488355000) (hb : Rd w A b) (hw : RdW w A2 l) (hc : b.length ≤ c) (hcc : ch.length ≤ cc) (ok : Nat → Prop) (hok : ∀ k, ok k → k < w.heap.size) (hch : FB w ok Ac ch) :
    Calls Try.prog 30 #[.agg #[.slice A b.length c, .slice A2 l.length c2], .slice Ac ch.length cc] w (InoR (survL b l ch) (ch.drop l.length) w) := by
  obtain ⟨w2, hw2⟩ : ∃ w2, (w.alloc (.cells #[.slice A b.length c, .slice A2 l.length c2] 37)).alloc (.cells #[.slice none 0 0, .slice none 0 0] 37) = w2 := ⟨_, rfl⟩
  have hB2 : Below w.heap.size w w2 := hw2 ▸ below_alloc (below_alloc (Below.refl _ _) _) _
  have hs1 : (w.alloc (.cells #[.slice A b.length c, .slice A2 l.length c2] 37)).heap.size = w.heap.size + 1 := by simp
  have hZ : w2.heap[w.heap.size + 1]? = some (.cells #[.slice none 0 0, .slice none 0 0] 37 (0, 0)) := by rw [← hs1, ← hw2]; exact blk_new _ _
  have hX : w2.heap[w.heap.size]? = some (.cells #[.slice A b.length c, .slice A2 l.length c2] 37 (0, 0)) := by rw [← hw2]; exact blk_alloc (blk_new w _) _
  have c0 : w2.cell? ⟨w.heap.size, 0, none⟩ = some (.slice A b.length c) := blk_cell hX 0
  have c1 : w2.cell? ⟨w.heap.size, 1, none⟩ = some (.slice A2 l.length c2) := blk_cell hX 1
  have hz := blk_lt hZ
  have HZ := Lib.hid hZ
  have HX := Lib.hid hX
  have HB2 := Lib.hid hB2
  clear hs1 hZ hX
  have HCH := Lib.hid (hch.below hB2)
  have hll : l.length ≤ 9223372036854775807 := hw.2.1
  have hcl : ch.length ≤ 9223372036854775807 := hch.rd.len
  have HNOW := Lib.hid (Wr.refsurvive_any A c b A2 c2 l Ac cc ch w2 hl hc (hb.below hB2) (Kd.C_below hw hB2) HCH.out.rd)
  clear hb hw hch hB2
  by_cases hq : (ch.length : Int) < (l.length : Int)
  · have HDR := Lib.hid (show ch.drop l.length = [] from List.drop_eq_nil_of_le (by omega))
    go_enter Try.func30, Try.ntmps30
    go_wp2_with fail
    refine HNOW.out.mono ?_
    rintro e w3 ⟨v3, rfl, hown, hb3⟩
    obtain ⟨A3, c3, rfl, hc3, -⟩ := hown.reads
    have HO3 := Lib.hid (own_fb hown)
    have HCH3 := Lib.hid (HCH.out.below hb3)
    have HZ3 := Lib.hid (blk_below HZ.out hb3)
    have HX3 := Lib.hid (blk_below HX.out hb3)
    have HB3 := Lib.hid (below_step' HB2.out hb3)
    have HS3 := Lib.hid hb3.size
    have d0 : w3.cell? ⟨w.heap.size, 0, none⟩ = some (.slice A b.length c) := blk_cell HX3.out 0
    have d1 : w3.cell? ⟨w.heap.size, 1, none⟩ = some (.slice A2 l.length c2) := blk_cell HX3.out 1
    have hz3 := blk_lt HZ3.out
    have hz31 := blk_lt HX3.out
    have hne3 : ∀ k, w2.heap.size ≤ k → k ≠ w.heap.size + 1 := fun k hk => by omega
    have HR3 := Lib.hid (f_row HO3.out hne3 #[.slice A3 (survL b l ch).length c3, .slice none 0 0])
    clear hown hb3
    go_wp2_with (refine wpList_store_row rfl 37 _ _ rfl (w.heap.size + 1) #[.slice A3 (survL b l ch).length c3, .slice none 0 0] rfl rfl 37 _ HZ3.out infoIn rfl (by simp [Value.oneCell']) ?_)
    refine bodyPost_ret_by (results_ct rfl _ _ (w.heap.size + 1) _ _ (0, 0) _ rfl (setRow_heap _ _ _ _ _ _ HZ3.out) Try.underlying37 rfl infoIn) rfl ?_
    rw [HDR.out]
    exact ⟨A3, c3, none, 0, rfl, hc3, Nat.le_refl _, FB.rd HR3.out, Rd.nil _, below_setRow HB3.out (Nat.le_succ _) _⟩
  · have hlc : l.length ≤ ch.length := by omega
    have hlcc : l.length ≤ cc := by omega
    go_enter Try.func30, Try.ntmps30
    go_wp2_with fail
    refine HNOW.out.mono ?_
    rintro e w3 ⟨v3, rfl, hown, hb3⟩
    obtain ⟨A3, c3, rfl, hc3, -⟩ := hown.reads
    have HO3 := Lib.hid (own_fb hown)
    have HCH3 := Lib.hid (HCH.out.below hb3)
    have HZ3 := Lib.hid (blk_below HZ.out hb3)
    have HX3 := Lib.hid (blk_below HX.out hb3)
    have HB3 := Lib.hid (below_step' HB2.out hb3)
    have HS3 := Lib.hid hb3.size
    have d0 : w3.cell? ⟨w.heap.size, 0, none⟩ = some (.slice A b.length c) := blk_cell HX3.out 0
    have d1 : w3.cell? ⟨w.heap.size, 1, none⟩ = some (.slice A2 l.length c2) := blk_cell HX3.out 1
    have hz3 := blk_lt HZ3.out
    have hz31 := blk_lt HX3.out
    have hne3 : ∀ k, w2.heap.size ≤ k → k ≠ w.heap.size + 1 := fun k hk => by omega
    have HR3 := Lib.hid (f_row HO3.out hne3 #[.slice A3 (survL b l ch).length c3, .slice none 0 0])
    clear hown hb3
    go_wp2_with fail
    refine wp_region_held_drew (S := fun W => W.heap[w.heap.size]? = some (.cells #[.slice A b.length c, .slice A2 l.length c2] 37 (0, 0)) ∧ Below w.heap.size w W ∧ FB W ok Ac ch) (by kernel_rfl) ⟨HX3.out, below_drew HB3.out, Kd.F_drew HCH3.out⟩ (fun hHeld => ?_)
    refine wpAnyH_take (i := 0) (v := _) rfl (by kernel_rfl) (by kernel_rfl) (by kernel_rfl) (fun _ _ _ h => h) (Or.inl ⟨by kernel_rfl, fun w _ => by go_simp <;> with_reducible rfl⟩) hHeld ?_
    simp only [List.getElem_toArray, List.getElem_cons_succ, List.getElem_cons_zero, Act.put, List.setIfInBounds_toArray, List.set_cons_zero, List.set_cons_succ]
    refine wpAnyH_take (i := 1) (v := _) rfl (by kernel_rfl) (by kernel_rfl) (by kernel_rfl) (fun _ _ _ h => h) (Or.inl ⟨by kernel_rfl, fun w _ => by go_simp <;> with_reducible rfl⟩) hHeld ?_
    simp only [List.getElem_toArray, List.getElem_cons_succ, List.getElem_cons_zero, Act.put, List.setIfInBounds_toArray, List.set_cons_zero, List.set_cons_succ]
    refine wpAnyH_take (i := 2) (v := _) rfl (by kernel_rfl) (by kernel_rfl) (by kernel_rfl) (fun _ _ _ h => h) (Or.inl ⟨by kernel_rfl, fun w _ => by go_simp <;> with_reducible rfl⟩) hHeld ?_
    simp only [List.getElem_toArray, List.getElem_cons_succ, List.getElem_cons_zero, Act.put, List.setIfInBounds_toArray, List.set_cons_zero, List.set_cons_succ]
    refine wpAnyH_take (i := 3) (v := _) rfl (by kernel_rfl) (by kernel_rfl) (by kernel_rfl) (fun _ _ _ h => h) (Or.inl ⟨by kernel_rfl, fun w _ => by go_simp <;> with_reducible rfl⟩) hHeld ?_
    simp only [List.getElem_toArray, List.getElem_cons_succ, List.getElem_cons_zero, Act.put, List.setIfInBounds_toArray, List.set_cons_zero, List.set_cons_succ]
    refine wpAnyH_take (i := 4) (v := .slice A2 l.length c2) rfl (by kernel_rfl) (by kernel_rfl) (by kernel_rfl) (fun _ _ _ h => h) (Or.inl ⟨by kernel_rfl, fun W h => by have c0 : W.cell? ⟨w.heap.size, 1, none⟩ = some (.slice A2 l.length c2) := blk_cell h.1 1; go_simp <;> with_reducible rfl⟩) hHeld ?_
    simp only [List.getElem_toArray, List.getElem_cons_succ, List.getElem_cons_zero, Act.put, List.setIfInBounds_toArray, List.set_cons_zero, List.set_cons_succ]
    refine wpAnyH_take (i := 5) (v := _) rfl (by kernel_rfl) (by kernel_rfl) (by kernel_rfl) (fun _ _ _ h => h) (Or.inl ⟨by kernel_rfl, fun w _ => by go_simp <;> with_reducible rfl⟩) hHeld ?_
    simp only [List.getElem_toArray, List.getElem_cons_succ, List.getElem_cons_zero, Act.put, List.setIfInBounds_toArray, List.set_cons_zero, List.set_cons_succ]
    refine wpAnyH_take (i := 6) (v := _) rfl (by kernel_rfl) (by kernel_rfl) (by kernel_rfl) (fun _ _ _ h => h) (Or.inl ⟨by kernel_rfl, fun w _ => by go_simp <;> with_reducible rfl⟩) hHeld ?_
    simp only [List.getElem_toArray, List.getElem_cons_succ, List.getElem_cons_zero, Act.put, List.setIfInBounds_toArray, List.set_cons_zero, List.set_cons_succ]
    refine wpAnyH_ready (rs := [7]) (by kernel_rfl) (by simp) ?_
    refine AllReadyH.cons rfl (fun K hK => ?_) AllReadyH.nil
    rw [if_pos (by rfl)]
    refine wp_store_row 37 _ _ rfl (w.heap.size + 1) #[.slice A3 (survL b l ch).length c3, .slice none 0 0] rfl rfl 37 _ HZ3.out infoIn rfl (by simp [Value.oneCell']) ?_
    refine hK.out _ _ ⟨(setRow_other _ _ _ _ (by omega)).trans hHeld.1, below_setRow hHeld.2.1 (Nat.le_succ _) _, f_row hHeld.2.2 (fun k hk => by have := hok k hk; omega) _⟩ (fun hHeld => ?_)
    clear hK K
    try simp only [List.getElem_toArray, List.getElem_cons_succ, List.getElem_cons_zero, Act.put, List.setIfInBounds_toArray, List.set_cons_zero, List.set_cons_succ]
    refine wpAnyH_take (i := 8) (v := _) rfl (by kernel_rfl) (by kernel_rfl) (by kernel_rfl) (fun _ _ _ h => h) (Or.inl ⟨by kernel_rfl, fun w _ => by go_simp <;> with_reducible rfl⟩) hHeld ?_
    simp only [List.getElem_toArray, List.getElem_cons_succ, List.getElem_cons_zero, Act.put, List.setIfInBounds_toArray, List.set_cons_zero, List.set_cons_succ]
    refine wpAnyH_done (by kernel_rfl) ?_ _
    have HB9 := Lib.hid hHeld.2.1
    have HC9 := Lib.hid hHeld.2.2
    go_wp2_with fail
    all_goals refine bodyPost_ret_by (results_ct rfl _ _ (w.heap.size + 1) _ _ (0, 0) _ rfl (setRow_heap _ _ _ _ _ _ HZ3.out) Try.underlying37 rfl infoIn) rfl ?_
    all_goals first | exact ⟨A3, c3, Ac, 0, by rw [List.length_drop]; rfl, hc3, by rw [List.length_drop]; omega, FB.rd HR3.out, (by have := (FB.rd HC9.out).drop hlc hcc; rwa [if_pos h] at this), HB9.out⟩ | exact ⟨A3, c3, Ac.map (·.add l.length), cc - l.length, by rw [List.length_drop]; rfl, hc3, by rw [List.length_drop]; omega, FB.rd HR3.out, (by have := (FB.rd HC9.out).drop hlc hcc; rwa [if_neg h] at this), HB9.out⟩
end Go.Proofs.Ytkgbimkjpllakaa.In
