/- coder: the reader's Digest, End. -/
import Derived.Test.YteeemiacibjaoaaCoR4
set_option linter.unusedVariables false
set_option linter.unusedSimpArgs false
namespace Go.Proofs.Yteeemiacibjaoaa.Co
open Go.RowKit Go.Proofs.YteeemiacibjaoaaW.PrintWords Go.Proofs.Yteeemiacibjaoaa.B Go.Proofs.Yteeemiacibjaoaa.Fx Go.Proofs.Yteeemiacibjaoaa.Fr

theorem rds_setRow {W : World} {base g k t : Nat} {l : List UInt8} {a e : Nat} {cs : Array Value} (h : RdS W base g l a e) (hk : k ≠ g) (hb : W.heap[k]? = some (.cells cs t (0, 0))) (ht : 5 ≠ t) (u : Array Value) : RdS (W.setRow k u) base g l a e := by
  obtain ⟨hbg, v, hb2, hown⟩ := h
  refine ⟨hbg, v, by rw [setRow_other W k g _ (fun h => hk h.symm)]; exact hb2, hown.move (fun i cells fr hi => setRow_other W k i _ ?_)⟩
  rintro rfl
  rw [hb] at hi
  injection hi with hi
  injection hi with _ hi
  exact ht hi.symm
def zero32 : Array Value := #[.int .u8 0, .int .u8 0, .int .u8 0, .int .u8 0, .int .u8 0, .int .u8 0, .int .u8 0, .int .u8 0, .int .u8 0, .int .u8 0, .int .u8 0, .int .u8 0, .int .u8 0, .int .u8 0, .int .u8 0, .int .u8 0, .int .u8 0, .int .u8 0, .int .u8 0, .int .u8 0, .int .u8 0, .int .u8 0, .int .u8 0, .int .u8 0, .int .u8 0, .int .u8 0, .int .u8 0, .int .u8 0, .int .u8 0, .int .u8 0, .int .u8 0, .int .u8 0]
set_option maxRecDepth 100000 in
set_option maxHeartbeats 800000 in
theorem rdig_any (base g : Nat) (l : List UInt8) (at' e : Nat) (w : World) (hat : at' ≤ l.length) (hl : l.length ≤ 140737488355328) (hbw : base ≤ w.heap.size) (h : RdS w base g l at' e) :
    Calls Try.prog 76 #[.pointer (some ⟨g, 0, none⟩)] w (RdD base g l (rdAt e (digErr l at') (digEnd l at') at') (rdErr e (digErr l at')) (.agg (if e = 0 ∧ digErr l at' = 0 then digCells l at' else zero32)) w) := by
  have HH := Lib.hid h
  obtain ⟨hbg, v, hb, hown⟩ := h
  obtain ⟨w2, hw2⟩ : ∃ w2, (((w.alloc (.cells #[.pointer (some ⟨g, 0, none⟩)] 65)).alloc (.cells zero32 52)).alloc (.cells zero32 52)) = w2 := ⟨_, rfl⟩
  have hB : Below w.heap.size w w2 := hw2 ▸ below_alloc (below_alloc (below_alloc (Below.refl _ _) _) _) _
  have h1 : w2.heap[w.heap.size]? = some (.cells #[.pointer (some ⟨g, 0, none⟩)] 65 (0, 0)) := hw2 ▸ blk_alloc (blk_alloc (blk_new w _) _) _
  have h3 : w2.heap[w.heap.size + 1]? = some (.cells zero32 52 (0, 0)) := by
    have := blk_new (w.alloc (.cells #[.pointer (some ⟨g, 0, none⟩)] 65)) (.cells zero32 52)
    have := blk_alloc this (.cells zero32 52)
    rw [hw2] at this; simpa using this
  have h2 : w2.heap[w.heap.size + 1 + 1]? = some (.cells zero32 52 (0, 0)) := by
    have := blk_new ((w.alloc (.cells #[.pointer (some ⟨g, 0, none⟩)] 65)).alloc (.cells zero32 52)) (.cells zero32 52)
    rw [hw2] at this; simpa using this
  have hz := blk_lt hb
  have hsz : w2.heap.size = w.heap.size + 1 + 1 + 1 := by rw [← hw2]; simp
  obtain ⟨q, hq⟩ : ∃ q, (if digErr l at' = 0 then digCells l at' else zero32) = q := ⟨_, rfl⟩
  have hqs : q.size = 32 := by
    rw [← hq]; unfold digErr digCells
    by_cases h : l.length < at' + 32
    · rw [if_pos h, if_neg (by decide)]; rfl
    · rw [if_neg h, if_pos rfl]; simp; omega
  have HP := Lib.hid (part_rd base g (w.heap.size + 1 + 1) 52 l at' e 93 #[.pointer (some ⟨w.heap.size, 0, none⟩), .pointer (some ⟨w.heap.size + 1 + 1, 0, none⟩)] zero32 q (digEnd l at') (digErr l at') w2 (fun h => by unfold digEnd; split <;> omega) (by omega) hsz (by decide) ⟨hbg, v, blk_below hb hB, hown.below hB⟩ h2 (fun W => enc_dig1 _ W)
    (fun he A c hc hr hg => (dig1_any at' g w.heap.size (w.heap.size + 1 + 1) A c l zero32.toList rfl w2 hl hat hc hr hg h1 h2).mono (by
      rintro x W ⟨rfl, hW⟩
      refine ⟨rfl, ?_⟩
      by_cases hok : digErr l at' = 0
      · rw [if_pos hok] at hq hW; subst hq; exact hW
      · rw [if_neg hok] at hq hW; subst hq; subst hW; exact ⟨h2, Below.refl _ _⟩)))
  have HB := Lib.hid (hB.mono hbw)
  have HBW := Lib.hid hB
  have H3 := Lib.hid h3
  clear hb hown h1 h2 h3 hB
  obtain ⟨u, hu⟩ : ∃ u, (if e = 0 ∧ digErr l at' = 0 then digCells l at' else zero32) = u := ⟨_, rfl⟩
  have hqu : (if e = 0 then q else zero32) = u := by
    rw [← hu, ← hq]
    by_cases h1 : e = 0
    · by_cases h2 : digErr l at' = 0
      · rw [if_pos h1, if_pos h2, if_pos ⟨h1, h2⟩]
      · rw [if_pos h1, if_neg h2, if_neg (fun h => h2 h.2)]
    · rw [if_neg h1, if_neg (fun h => h1 h.1)]
  have hub : ∃ b : List UInt8, b.length = 32 ∧ (b.map encB).toArray = u := by
    rw [← hu]
    by_cases h1 : e = 0 ∧ digErr l at' = 0
    · rw [if_pos h1]
      have h2 := h1.2
      unfold digErr at h2
      refine ⟨(l.drop at').take 32, ?_, rfl⟩
      by_cases h : l.length < at' + 32
      · rw [if_pos h] at h2; cases h2
      · simp; omega
    · rw [if_neg h1]; exact ⟨List.replicate 32 0, by simp, rfl⟩
  obtain ⟨b, hbl, hbu⟩ := hub
  have HUS := Lib.hid (show u.size = 32 by rw [← hbu]; simpa using hbl)
  have HONE := Lib.hid (show u.all (·.oneCell') = true by
    rw [← hbu]
    refine Array.all_eq_true_iff_forall_mem.2 (fun v hv => ?_)
    obtain ⟨y, -, rfl⟩ := List.mem_map.1 (by simpa using hv)
    rfl)
  clear hbl hbu
  rw [hqu] at HP
  rw [hu]
  clear hu hq hqu hqs
  generalize rdAt e (digErr l at') (digEnd l at') at' = at2 at *
  generalize rdErr e (digErr l at') = e2 at *
  unfold zero32 at hw2
  have HW := Lib.hid hw2
  have HSZ := Lib.hid hsz
  clear hw2 hsz
  go_enter Try.func76, Try.ntmps76
  go_wp2_with fail
  rw [HW.out]
  refine HP.out.mono ?_
  rintro x w3 ⟨rfl, ho, hs, hb, hk⟩
  have HS := Lib.hid hs
  have HB3 := Lib.hid (HB.out.trans hb)
  have HT := Lib.hid (show w3.heap[w.heap.size + 1]? = some (.cells zero32 52 (0, 0)) from (hk _ (by omega) (by omega)).trans H3.out)
  have HO := Lib.hid ho
  have HK := Lib.hid (fun (k : Nat) (h1 : k ≠ g) (h2 : k < w.heap.size) => (hk k h1 (by omega)).trans (HBW.out.block k h2))
  clear hs hb hk ho HW HP
  simp only []
  iterate 6 go_step
  refine wpList_load_mid rfl 52 (.tmp 3) rfl _ _ rfl u.toList _ (fun j v hv => by rw [Nat.zero_add, blk_cell HO.out]; simpa using hv) Try.underlying52 rfl (by rw [Array.length_toList, HUS.out]; kernel_rfl) ?_
  refine wpList_plain rfl fun _ hK => wp_store_row 52 (.tmp 2) (.tmp 7) rfl (w.heap.size + 1) u rfl rfl _ zero32 HT.out (by rw [HUS.out]; kernel_rfl) (by rw [HUS.out]; rfl) HONE.out (hK _ _ ?_)
  have HZ := Lib.hid (setRow_heap w3 (w.heap.size + 1) zero32 u _ _ HT.out)
  have HBZ := Lib.hid (Below.trans HB3.out (below_setRow (Below.refl base w3) (show base ≤ w.heap.size + 1 by omega) u))
  have HSZ2 := Lib.hid (rds_setRow HS.out (show w.heap.size + 1 ≠ g by omega) HT.out (by decide) u)
  have HK2 := Lib.hid (fun (k : Nat) (h1 : k ≠ g) (h2 : k < w.heap.size) => (setRow_other w3 (w.heap.size + 1) k u (by omega)).trans (HK.out k h1 h2))
  generalize w3.setRow (w.heap.size + 1) u = w4 at *
  clear HS HB3 HT HO
  go_wp2_with fail
  refine bodyPost_ret_by (results_cell_row rfl _ _ (w.heap.size + 1) _ u (0, 0) _ rfl HZ.out Try.underlying52 rfl (by rw [HUS.out]; kernel_rfl)) rfl ?_
  exact ⟨rfl, HSZ2.out, HBZ.out, HK2.out⟩
def endN (l : List UInt8) (at' e : Nat) : Nat := if e ≠ 0 then e else if at' = l.length then 0 else 3
set_option maxRecDepth 100000 in
set_option maxHeartbeats 400000 in
theorem rend_any (base g : Nat) (l : List UInt8) (at' e : Nat) (w : World) (h : RdS w base g l at' e) :
    Calls Try.prog 38 #[.pointer (some ⟨g, 0, none⟩)] w (Quiet (.int .i64 (endN l at' e)) w) := by
  obtain ⟨hbg, v, hb, hown⟩ := h
  obtain ⟨A, c, rfl, hlc, hr⟩ := hown.reads
  have hcc := fun i => blk_cell hb i
  have hz := blk_lt hb
  clear hb hown hr
  by_cases he : e = 0
  · subst he
    by_cases ha : at' = l.length
    · have h1 : endN l at' 0 = 0 := by unfold endN; rw [if_neg (by simp), if_pos ha]
      rw [h1]
      have hq : ((at' : Int) == (l.length : Int)) = true := by rw [ha]; exact beq_self_eq_true _
      clear ha h1
      go_enter Try.func38, Try.ntmps38
      go_wp2_with fail
      go_quiet (fail)
      go_wp2_with fail
      go_ret
      exact ⟨rfl, _, rfl⟩
    · have h1 : endN l at' 0 = 3 := by unfold endN; rw [if_neg (by simp), if_neg ha]
      rw [h1]
      have hq : ((at' : Int) == (l.length : Int)) = false := by rw [beq_eq_false_iff_ne]; omega
      clear ha h1
      go_enter Try.func38, Try.ntmps38
      go_wp2_with fail
      go_quiet (fail)
      go_wp2_with fail
      go_ret
      exact ⟨rfl, _, rfl⟩
  · have h1 : endN l at' e = e := by unfold endN; rw [if_pos he]
    rw [h1]
    have hq : ((e : Int) == 0) = false := by simpa using he
    clear he h1
    go_enter Try.func38, Try.ntmps38
    go_wp2_with fail
    go_ret
    exact ⟨rfl, 0, rfl⟩
set_option maxRecDepth 100000 in
set_option maxHeartbeats 400000 in
theorem rend_nil (w : World) : Calls Try.prog 38 #[.pointer none] w (Still (.int .i64 1) w) := by
  go_enter Try.func38, Try.ntmps38
  go_wp2_with fail
  go_ret
  exact ⟨rfl, rfl⟩
end Go.Proofs.Yteeemiacibjaoaa.Co
