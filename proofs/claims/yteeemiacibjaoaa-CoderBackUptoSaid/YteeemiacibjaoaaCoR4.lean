/- coder: the reader's methods. -/
import Derived.Test.YteeemiacibjaoaaCoR3
import Derived.Shelf.Abstract
set_option linter.unusedVariables false
set_option linter.unusedSimpArgs false
namespace Go.Proofs.Yteeemiacibjaoaa.Co
open Go.RowKit Go.Proofs.YteeemiacibjaoaaW.PrintWords Go.Proofs.Yteeemiacibjaoaa.B Go.Proofs.Yteeemiacibjaoaa.Fx Go.Proofs.Yteeemiacibjaoaa.Fr

def rdAt (e err : Nat) (en : Int) (at' : Nat) : Nat := if e = 0 ∧ err = 0 then en.toNat else at'
def rdErr (e err : Nat) : Nat := if e = 0 then err else e
def RdD (base g : Nat) (l : List UInt8) (at' e : Nat) (v : Value) (w : World) (x : Ending) (w' : World) : Prop := x = .returned v ∧ RdS w' base g l at' e ∧ Below base w w' ∧ ∀ k, k ≠ g → k < w.heap.size → w'.heap[k]? = w.heap[k]?
/-- the end of part, with a box's cells -/
def PartR (base g o t : Nat) (u : Array Value) (l : List UInt8) (at' e : Nat) (w : World) (x : Ending) (w' : World) : Prop := x = .returned (.tuple #[]) ∧ w'.heap[o]? = some (.cells u t (0, 0)) ∧ RdS w' base g l at' e ∧ Below base w w' ∧ ∀ k, k ≠ g → k < o → w'.heap[k]? = w.heap[k]?
theorem part_rd (base g o t : Nat) (l : List UInt8) (at' e N : Nat) (caps : Array Value) (u0 u1 : Array Value) (endv : Int) (e1 : Nat) (w : World) (hen0 : e1 = 0 → 0 ≤ endv) (hgo : g < o) (hos : w.heap.size = o + 1) (ht : 5 ≠ t) (h : RdS w base g l at' e) (ho : w.heap[o]? = some (.cells u0 t (0, 0)))
    (hen : ∀ W, (callFunc N (#[.int .i64 at'] ++ caps)).run Try.prog W = .ok (.enter N (#[.int .i64 at'] ++ caps)) W)
    (hc : e = 0 → ∀ A c, l.length ≤ c → Rd w A l → w.heap[g]? = some (.cells #[.slice A l.length c, .int .i64 at', .int .i64 0] 110 (0, 0)) → Calls Try.prog N (#[.int .i64 at'] ++ caps) w (ClosD endv e1 (fun W => W.heap[o]? = some (.cells u1 t (0, 0)) ∧ Below o w W))) :
    Calls Try.prog 84 #[.pointer (some ⟨g, 0, none⟩), .func (.func N) #[] caps] w (PartR base g o t (if e = 0 then u1 else u0) l (rdAt e e1 endv at') (rdErr e e1) w) := by
  obtain ⟨hbg, v, hb, hown⟩ := h
  by_cases he : e = 0
  · subst he
    obtain ⟨A, c, rfl, hlc, hr⟩ := hown.reads
    refine (part_ok g at' N caps _ w endv e1 _ hb hen (hc rfl A c hlc hr hb) (fun W hW => by rw [hW.2.block g hgo]; exact hb)).mono ?_
    rintro x w' ⟨rfl, w1, ⟨hu, hB⟩, hw'⟩
    have hb1 : w1.heap[g]? = some (.cells #[.slice A l.length c, .int .i64 at', .int .i64 0] 110 (0, 0)) := by rw [hB.block g hgo]; exact hb
    have hown1 : Buf w1 base (.slice A l.length c) l := hown.move (fun k cells fr hk => by
      have h1 := blk_lt hk
      have h2 : k ≠ o := by
        rintro rfl
        rw [ho] at hk
        injection hk with hk
        injection hk with _ hk
        exact ht hk.symm
      exact hB.block k (by omega))
    have hne : o ≠ g := by omega
    have htr : 5 ≠ 110 := by decide
    by_cases h1 : e1 = 0
    · have e2 : rdAt 0 e1 endv at' = endv.toNat := if_pos ⟨rfl, h1⟩
      have e3 : rdErr 0 e1 = 0 := by unfold rdErr; rw [if_pos rfl, h1]
      have e4 := hen0 h1
      rw [if_pos h1] at hw'
      subst hw'
      rw [e2, e3, if_pos rfl]
      refine ⟨rfl, blk_far hu hne _, ⟨hbg, .slice A l.length c, ?_, hown1.set hb1 htr _ _⟩, below_set' (hB.mono (by omega)) hbg, fun k h1 h2 => (Below.heap_setCell w1 _ _ k h1).trans (hB.block k h2)⟩
      rw [show ((endv.toNat : Nat) : Int) = endv by omega]
      exact blk_set hb1 1 _
    · have e2 : rdAt 0 e1 endv at' = at' := if_neg (fun h => h1 h.2)
      have e3 : rdErr 0 e1 = e1 := if_pos rfl
      rw [if_neg h1] at hw'
      subst hw'
      rw [e2, e3, if_pos rfl]
      exact ⟨rfl, blk_far hu hne _, ⟨hbg, .slice A l.length c, blk_set hb1 2 _, hown1.set hb1 htr _ _⟩, below_set' (hB.mono (by omega)) hbg, fun k h1 h2 => (Below.heap_setCell w1 _ _ k h1).trans (hB.block k h2)⟩
  · refine (part_done g at' e N caps v w he hb).mono ?_
    rintro x w' ⟨rfl, rfl⟩
    rw [if_neg he, show rdAt e e1 endv at' = at' from if_neg (fun h => he h.1), show rdErr e e1 = e from if_neg he]
    exact ⟨rfl, ho, ⟨hbg, v, hb, hown⟩, Below.refl _ _, fun _ _ _ => rfl⟩
theorem enc_seq1 (args : Array Value) (W : World) : (callFunc 90 args).run Try.prog W = .ok (.enter 90 args) W := enters_of Try.func90 (by kernel_rfl) rfl args W
theorem enc_num1 (args : Array Value) (W : World) : (callFunc 85 args).run Try.prog W = .ok (.enter 85 args) W := enters_of Try.func85 (by kernel_rfl) rfl args W
theorem enc_text1 (args : Array Value) (W : World) : (callFunc 91 args).run Try.prog W = .ok (.enter 91 args) W := enters_of Try.func91 (by kernel_rfl) rfl args W
theorem enc_dig1 (args : Array Value) (W : World) : (callFunc 93 args).run Try.prog W = .ok (.enter 93 args) W := enters_of Try.func93 (by kernel_rfl) rfl args W
set_option maxRecDepth 100000 in
set_option maxHeartbeats 800000 in
theorem rseq_any (base g : Nat) (l : List UInt8) (at' e : Nat) (w : World) (hl : l.length ≤ 140737488355328) (hbw : base ≤ w.heap.size) (h : RdS w base g l at' e) :
    Calls Try.prog 74 #[.pointer (some ⟨g, 0, none⟩)] w (RdD base g l (rdAt e (V.tErr l at') (V.tEnd l at') at') (rdErr e (V.tErr l at')) (.int .u64 (if e = 0 then V.tNum l at' else 0 : Nat)) w) := by
  have HH := Lib.hid h
  obtain ⟨hbg, v, hb, hown⟩ := h
  obtain ⟨w2, hw2⟩ : ∃ w2, ((w.alloc (.cells #[.pointer (some ⟨g, 0, none⟩)] 65)).alloc (.cells #[.int .u64 0] 23)) = w2 := ⟨_, rfl⟩
  have hB : Below w.heap.size w w2 := hw2 ▸ below_alloc (below_alloc (Below.refl _ _) _) _
  have h1 : w2.heap[w.heap.size]? = some (.cells #[.pointer (some ⟨g, 0, none⟩)] 65 (0, 0)) := hw2 ▸ blk_alloc (blk_new w _) _
  have h2 : w2.heap[w.heap.size + 1]? = some (.cells #[.int .u64 0] 23 (0, 0)) := by
    have := blk_new (w.alloc (.cells #[.pointer (some ⟨g, 0, none⟩)] 65)) (.cells #[.int .u64 0] 23)
    rw [hw2] at this; simpa using this
  have hz := blk_lt hb
  have hsz : w2.heap.size = w.heap.size + 1 + 1 := by rw [← hw2]; simp
  have HP := Lib.hid (part_rd base g (w.heap.size + 1) 23 l at' e 90 #[.pointer (some ⟨w.heap.size, 0, none⟩), .pointer (some ⟨w.heap.size + 1, 0, none⟩)] #[.int .u64 0] #[.int .u64 (V.tNum l at')] (V.tEnd l at') (V.tErr l at') w2 (fun h => by unfold V.tEnd; rw [if_pos h]; omega) (by omega) hsz (by decide) ⟨hbg, v, blk_below hb hB, hown.below hB⟩ h2 (fun W => enc_seq1 _ W)
    (fun he A c hc hr hg => (seq1_any at' g w.heap.size (w.heap.size + 1) A c l _ w2 hl hc hr hg h1 h2).mono (by rintro x W ⟨rfl, rfl⟩; exact ⟨rfl, blk_set h2 0 _, below_set' (Below.refl _ _) (Nat.le_refl _)⟩)))
  have HB := Lib.hid (hB.mono hbw)
  have HBW := Lib.hid hB
  clear hb hown h1 h2 hsz hB
  rw [show (Value.int .u64 (if e = 0 then V.tNum l at' else 0 : Nat)) = (Value.int .u64 (if e = 0 then V.tNum l at' else 0 : Nat)) from rfl]
  obtain ⟨u, hu⟩ : ∃ u, Value.int .u64 (if e = 0 then V.tNum l at' else 0 : Nat) = u := ⟨_, rfl⟩
  have HU := Lib.hid (show (if e = 0 then #[Value.int .u64 (V.tNum l at')] else #[.int .u64 0]) = #[u] by rw [← hu]; split <;> rfl)
  rw [HU.out] at HP
  rw [hu]
  clear hu HU
  generalize rdAt e (V.tErr l at') (V.tEnd l at') at' = at2 at *
  generalize rdErr e (V.tErr l at') = e2 at *
  have HW := Lib.hid hw2
  clear hw2
  go_enter Try.func74, Try.ntmps74
  go_wp2_with fail
  rw [HW.out]
  refine HP.out.mono ?_
  rintro x w3 ⟨rfl, ho, hs, hb, hk⟩
  have HK := Lib.hid (fun (k : Nat) (h1 : k ≠ g) (h2 : k < w.heap.size) => (hk k h1 (by omega)).trans (HBW.out.block k h2))
  clear hk
  have hcc := fun i => blk_cell ho i
  have HS := Lib.hid hs
  have HB3 := Lib.hid (HB.out.trans hb)
  clear hs hb
  go_wp2_with fail
  go_ret
  exact ⟨rfl, HS.out, HB3.out, HK.out⟩
def textErr (l : List UInt8) (at' : Nat) : Nat := if textOk l at' = true then 0 else 4
set_option maxRecDepth 100000 in
set_option maxHeartbeats 800000 in
theorem rtext_any (base g : Nat) (l : List UInt8) (at' e : Nat) (w : World) (hl : l.length ≤ 140737488355328) (hbw : base ≤ w.heap.size) (h : RdS w base g l at' e) :
    Calls Try.prog 75 #[.pointer (some ⟨g, 0, none⟩)] w (RdD base g l (rdAt e (textErr l at') (textEnd l at') at') (rdErr e (textErr l at')) (.string (if e = 0 then textS l at' else ⟨#[]⟩)) w) := by
  have HH := Lib.hid h
  obtain ⟨hbg, v, hb, hown⟩ := h
  obtain ⟨w2, hw2⟩ : ∃ w2, ((w.alloc (.cells #[.pointer (some ⟨g, 0, none⟩)] 65)).alloc (.cells #[.string ⟨#[]⟩] 9)) = w2 := ⟨_, rfl⟩
  have hB : Below w.heap.size w w2 := hw2 ▸ below_alloc (below_alloc (Below.refl _ _) _) _
  have h1 : w2.heap[w.heap.size]? = some (.cells #[.pointer (some ⟨g, 0, none⟩)] 65 (0, 0)) := hw2 ▸ blk_alloc (blk_new w _) _
  have h2 : w2.heap[w.heap.size + 1]? = some (.cells #[.string ⟨#[]⟩] 9 (0, 0)) := by
    have := blk_new (w.alloc (.cells #[.pointer (some ⟨g, 0, none⟩)] 65)) (.cells #[.string ⟨#[]⟩] 9)
    rw [hw2] at this; simpa using this
  have hz := blk_lt hb
  have hsz : w2.heap.size = w.heap.size + 1 + 1 := by rw [← hw2]; simp
  have hno : textOk l at' = false → textS l at' = ⟨#[]⟩ := fun h => by unfold textS; rw [h]; rfl
  have HP := Lib.hid (part_rd base g (w.heap.size + 1) 9 l at' e 91 #[.pointer (some ⟨w.heap.size, 0, none⟩), .pointer (some ⟨w.heap.size + 1, 0, none⟩)] #[.string ⟨#[]⟩] #[.string (textS l at')] (textEnd l at') (textErr l at') w2 (fun h => by unfold textEnd; split <;> (try unfold B.bt) <;> omega) (by omega) hsz (by decide) ⟨hbg, v, blk_below hb hB, hown.below hB⟩ h2 (fun W => enc_text1 _ W)
    (fun he A c hc hr hg => (text1_any at' g w.heap.size (w.heap.size + 1) A c l _ w2 hl hc hr hg h1 h2).mono (by
      rintro x W ⟨rfl, rfl⟩
      refine ⟨rfl, ?_⟩
      by_cases hok : textOk l at' = true
      · rw [if_pos hok]; exact ⟨blk_set h2 0 _, below_set' (Below.refl _ _) (Nat.le_refl _)⟩
      · rw [if_neg hok, hno (by simpa using hok)]; exact ⟨h2, Below.refl _ _⟩)))
  have HB := Lib.hid (hB.mono hbw)
  have HBW := Lib.hid hB
  clear hb hown h1 h2 hsz hB hno
  obtain ⟨u, hu⟩ : ∃ u, Value.string (if e = 0 then textS l at' else ⟨#[]⟩) = u := ⟨_, rfl⟩
  have HU := Lib.hid (show (if e = 0 then #[Value.string (textS l at')] else #[.string ⟨#[]⟩]) = #[u] by rw [← hu]; split <;> rfl)
  rw [HU.out] at HP
  rw [hu]
  clear hu HU
  generalize rdAt e (textErr l at') (textEnd l at') at' = at2 at *
  generalize rdErr e (textErr l at') = e2 at *
  have HW := Lib.hid hw2
  clear hw2
  go_enter Try.func75, Try.ntmps75
  go_wp2_with fail
  rw [HW.out]
  refine HP.out.mono ?_
  rintro x w3 ⟨rfl, ho, hs, hb, hk⟩
  have HK := Lib.hid (fun (k : Nat) (h1 : k ≠ g) (h2 : k < w.heap.size) => (hk k h1 (by omega)).trans (HBW.out.block k h2))
  clear hk
  have hcc := fun i => blk_cell ho i
  have HS := Lib.hid hs
  have HB3 := Lib.hid (HB.out.trans hb)
  clear hs hb
  go_wp2_with fail
  go_ret
  exact ⟨rfl, HS.out, HB3.out, HK.out⟩
set_option maxRecDepth 100000 in
set_option maxHeartbeats 800000 in
theorem rnum_any (base g : Nat) (l : List UInt8) (at' e : Nat) (most : Int) (w : World) (hm : -9223372036854775808 ≤ most ∧ most ≤ 9223372036854775807) (hl : l.length ≤ 140737488355328) (hbw : base ≤ w.heap.size) (h : RdS w base g l at' e) :
    Calls Try.prog 68 #[.pointer (some ⟨g, 0, none⟩), .int .i64 most] w (RdD base g l (rdAt e (numErr l at' most) (numEnd l at' most) at') (rdErr e (numErr l at' most)) (.int .i64 (if e = 0 ∧ numErr l at' most = 0 then V.tNum l at' else 0 : Nat)) w) := by
  have HH := Lib.hid h
  obtain ⟨hbg, v, hb, hown⟩ := h
  obtain ⟨w2, hw2⟩ : ∃ w2, (((w.alloc (.cells #[.pointer (some ⟨g, 0, none⟩)] 65)).alloc (.cells #[.int .i64 most] 3)).alloc (.cells #[.int .i64 0] 3)) = w2 := ⟨_, rfl⟩
  have hB : Below w.heap.size w w2 := hw2 ▸ below_alloc (below_alloc (below_alloc (Below.refl _ _) _) _) _
  have h1 : w2.heap[w.heap.size]? = some (.cells #[.pointer (some ⟨g, 0, none⟩)] 65 (0, 0)) := hw2 ▸ blk_alloc (blk_alloc (blk_new w _) _) _
  have h3 : w2.heap[w.heap.size + 1]? = some (.cells #[.int .i64 most] 3 (0, 0)) := by
    have := blk_new (w.alloc (.cells #[.pointer (some ⟨g, 0, none⟩)] 65)) (.cells #[.int .i64 most] 3)
    have := blk_alloc this (.cells #[.int .i64 0] 3)
    rw [hw2] at this; simpa using this
  have h2 : w2.heap[w.heap.size + 2]? = some (.cells #[.int .i64 0] 3 (0, 0)) := by
    have := blk_new ((w.alloc (.cells #[.pointer (some ⟨g, 0, none⟩)] 65)).alloc (.cells #[.int .i64 most] 3)) (.cells #[.int .i64 0] 3)
    rw [hw2] at this; simpa using this
  have hz := blk_lt hb
  have hsz : w2.heap.size = w.heap.size + 2 + 1 := by rw [← hw2]; simp
  obtain ⟨q, hq⟩ : ∃ q, (if numErr l at' most = 0 then V.tNum l at' else 0) = q := ⟨_, rfl⟩
  have HP := Lib.hid (part_rd base g (w.heap.size + 2) 3 l at' e 85 #[.pointer (some ⟨w.heap.size, 0, none⟩), .pointer (some ⟨w.heap.size + 1, 0, none⟩), .pointer (some ⟨w.heap.size + 2, 0, none⟩)] #[.int .i64 0] #[.int .i64 q] (numEnd l at' most) (numErr l at' most) w2 (fun h => by unfold numEnd V.tEnd; rw [if_pos h]; split <;> omega) (by omega) hsz (by decide) ⟨hbg, v, blk_below hb hB, hown.below hB⟩ h2 (fun W => enc_num1 _ W)
    (fun he A c hc hr hg => (num1_any at' g w.heap.size (w.heap.size + 1) (w.heap.size + 2) most A c l _ w2 hl hm hc hr hg h1 h3 h2).mono (by
      rintro x W ⟨rfl, rfl⟩
      refine ⟨rfl, ?_⟩
      by_cases hok : numErr l at' most = 0
      · rw [if_pos hok] at hq ⊢; subst hq; exact ⟨blk_set h2 0 _, below_set' (Below.refl _ _) (Nat.le_refl _)⟩
      · rw [if_neg hok] at hq ⊢; subst hq; exact ⟨h2, Below.refl _ _⟩)))
  have HB := Lib.hid (hB.mono hbw)
  have HBW := Lib.hid hB
  clear hb hown h1 h2 h3 hsz hB
  obtain ⟨u, hu⟩ : ∃ u, Value.int .i64 (if e = 0 ∧ numErr l at' most = 0 then V.tNum l at' else 0 : Nat) = u := ⟨_, rfl⟩
  have HU := Lib.hid (show (if e = 0 then #[Value.int .i64 q] else #[.int .i64 0]) = #[u] by
    rw [← hu, ← hq]
    by_cases h1 : e = 0
    · by_cases h2 : numErr l at' most = 0
      · rw [if_pos h1, if_pos h2, if_pos ⟨h1, h2⟩]
      · rw [if_pos h1, if_neg h2, if_neg (fun h => h2 h.2)]
    · rw [if_neg h1, if_neg (fun h => h1 h.1)]; rfl)
  rw [HU.out] at HP
  rw [hu]
  clear hu HU hq
  generalize rdAt e (numErr l at' most) (numEnd l at' most) at' = at2 at *
  generalize rdErr e (numErr l at' most) = e2 at *
  have HW := Lib.hid hw2
  clear hw2
  go_enter Try.func68, Try.ntmps68
  go_wp2_with fail
  rw [HW.out]
  refine HP.out.mono ?_
  rintro x w3 ⟨rfl, ho, hs, hb, hk⟩
  have HK := Lib.hid (fun (k : Nat) (h1 : k ≠ g) (h2 : k < w.heap.size) => (hk k h1 (by omega)).trans (HBW.out.block k h2))
  clear hk
  have hcc := fun i => blk_cell ho i
  have HS := Lib.hid hs
  have HB3 := Lib.hid (HB.out.trans hb)
  clear hs hb
  go_wp2_with fail
  go_ret
  exact ⟨rfl, HS.out, HB3.out, HK.out⟩
end Go.Proofs.Yteeemiacibjaoaa.Co
