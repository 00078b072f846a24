/- batches: what was made is parsed; a first part of bytes; in plain. -/
import Derived.Test.YtceldlijbehkdaaBtK
import Derived.Test.YtceldlijbehkdaaBtPk
import Derived.Test.YtceldlijbehkdaaRcBack
set_option linter.unusedVariables false
set_option linter.unusedSimpArgs false
namespace Go.Proofs.Ytceldlijbehkdaa.Bt
open Go.RowKit Go.Proofs.YtceldlijbehkdaaW.PrintWords Go.Proofs.Ytceldlijbehkdaa.B Go.Proofs.Ytceldlijbehkdaa.Fx Go.Proofs.Ytceldlijbehkdaa.Fr Go.Proofs.Ytceldlijbehkdaa.O Go.Proofs.Ytceldlijbehkdaa.Rc
theorem word_b {k : Int} {d l : List UInt8} {nm : ByteArray} {z : Int} (hk : 1 ≤ k ∧ k ≤ 8) : dW k (dB k d) = dW k d ∧ nmW k (nmB k nm) = nmW k nm ∧ zW k (lB k l).length (zB k z) = zW k l.length z := by
  rcases (show k = 1 ∨ k = 2 ∨ k = 3 ∨ k = 4 ∨ k = 5 ∨ k = 6 ∨ k = 7 ∨ k = 8 by omega) with rfl | rfl | rfl | rfl | rfl | rfl | rfl | rfl <;> exact ⟨rfl, rfl, rfl⟩
/-- the word of a record at a place -/
def wdB (sg : Int) (s : Nat) (p : Nat) (x : RecV) : Wd := ⟨vK x, s, dW (vK x) (vD x), nmW (vK x) (vN x), zW (vK x) (vL x).length (vZ x), sg, p, (bR s x).length⟩
def wordsL (sg : Int) : Nat → Nat → List RecV → List Wd
  | _, _, [] => []
  | s, p, x :: t => wdB sg s p x :: wordsL sg (s + 1) (p + (bR s x).length) t
theorem wordsL_len (sg : Int) : ∀ (l : List RecV) (s p : Nat), (wordsL sg s p l).length = l.length
  | [], _, _ => rfl
  | x :: t, s, p => by rw [wordsL, List.length_cons, List.length_cons, wordsL_len sg t]
theorem wordsL_get (sg : Int) : ∀ (l : List RecV) (s p k : Nat), k < l.length → wd (wordsL sg s p l) k = wdB sg (s + k) (p + (allR s (l.take k)).length) (rc l k)
  | [], _, _, k, h => by simp at h
  | x :: t, s, p, 0, _ => by simp [wordsL, wd, allR, rc]
  | x :: t, s, p, k + 1, h => by
    have h1 := wordsL_get sg t (s + 1) (p + (bR s x).length) k (by simpa using h)
    rw [List.take_succ_cons, allR, List.length_append]
    simp only [wordsL, wd, rc, List.getD_cons_succ] at h1 ⊢
    rw [h1, show s + 1 + k = s + (k + 1) by omega, Nat.add_assoc]
theorem wdOf_back {x : RecV} {s : Nat} {a t all : List UInt8} (sg : Int) (hs : s < 18446744073709551616) (hd : (vD x).length = 32) (h : eR x = 0) (ha : all = a ++ bR s x ++ t) :
    recE all a.length = 0 ∧ (pKind all a.length : Int) = vK x ∧ pSeq all a.length = s ∧ pEnd all a.length = ((a.length + (bR s x).length : Nat) : Int) ∧ wdOf all a.length sg = wdB sg s a.length x := by
  obtain ⟨h1, h2, h3, h4, h5⟩ := parse_back (k := vK x) (s := s) (d := vD x) (l := vL x) (a := a) (t := t) (nm := vN x) (n := vC x) (z := vZ x) hs hd h all ha
  obtain ⟨-, g2, g3, g4, g5, g6⟩ := data_back (k := vK x) (d := vD x) (l := vL x) (nm := vN x) (n := vC x) (z := vZ x) hd h
  obtain ⟨w1, w2, w3⟩ := word_b (d := vD x) (l := vL x) (nm := vN x) (z := vZ x) (kind_in h)
  have h6 : pEnd all a.length = ((a.length + (bR s x).length : Nat) : Int) := by rw [h5]; unfold bR; omega
  refine ⟨h1, h2, h3, h6, ?_⟩
  unfold wdOf wdB
  rw [h2, h3, h4, g2, g3, g4, g6, w1, w2, w3, h6, show ((a.length + (bR s x).length : Nat) : Int) - (a.length : Nat) = ((bR s x).length : Nat) by omega]
theorem par_rest (sg frm : Int) (all tl : List UInt8) : ∀ (r : List RecV) (a : List UInt8) (s f : Nat) (o : List Wd), (∀ x ∈ r, mayB (vK x) = true ∧ eR x = 0 ∧ (vD x).length = 32) → s + r.length < 18446744073709551616 → (o.length ≠ 0 → 1 ≤ s ∧ lastS o = s - 1) → all = a ++ allR s r ++ tl →
    parF all frm sg (f + r.length) a.length o = parF all frm sg f ((a.length + (allR s r).length : Nat) : Int) (o ++ wordsL sg s a.length r) ∧ (r.length ≠ 0 → lastS (o ++ wordsL sg s a.length r) = s + r.length - 1)
  | [], a, s, f, o, _, _, _, _ => by simp [allR, wordsL]
  | x :: r, a, s, f, o, hx, hs, ho, ha => by
    obtain ⟨hm, he, hd⟩ := hx x (by simp)
    rw [List.length_cons] at hs
    have ha2 : all = a ++ bR s x ++ (allR (s + 1) r ++ tl) := by rw [ha, allR]; simp
    obtain ⟨h1, h2, h3, h4, h5⟩ := wdOf_back sg (by omega) hd he ha2
    have hq : ¬ ((o.length = 0 ∧ mayB (pKind all a.length) = false) ∨ (o.length ≠ 0 ∧ (pSeq all a.length = 0 ∨ pSeq all a.length - 1 ≠ lastS o))) := by
      rw [h2, h3, hm]
      rintro (⟨-, q⟩ | ⟨q, q2⟩)
      · cases q
      · have := ho q; omega
    have hg := parF_go (frm := frm) (sg := sg) (f := f + r.length) (o := o) h1 hq (by rw [h2]; exact hm)
    rw [h5, h4] at hg
    have hih := par_rest sg frm all tl r (a ++ bR s x) (s + 1) f (o ++ [wdB sg s a.length x]) (fun y hy => hx y (by simp [hy])) (by omega) (fun _ => ⟨by omega, by rw [lastS_snoc]; show s = _; omega⟩) (by rw [ha2]; simp)
    rw [List.length_append] at hih
    have e1 : o ++ [wdB sg s a.length x] ++ wordsL sg (s + 1) (a.length + (bR s x).length) r = o ++ wordsL sg s a.length (x :: r) := by rw [wordsL]; simp
    rw [e1] at hih
    refine ⟨?_, fun _ => ?_⟩
    · rw [List.length_cons, show f + (r.length + 1) = f + r.length + 1 by omega, hg, hih.1, allR, List.length_append, Nat.add_assoc]
    · by_cases hr : r.length = 0
      · obtain rfl : r = [] := List.eq_nil_of_length_eq_zero hr
        rw [wordsL, wordsL, lastS_snoc]; show s = _; simp
      · have := hih.2 hr
        rw [this, List.length_cons]; omega
theorem wrong_all {l : List RecV} (h : wrongE l = 0) : l.length ≠ 0 ∧ (∀ x ∈ l, mayB (vK x) = true) := by
  unfold wrongE at h
  by_cases h1 : l.length = 0
  · rw [if_pos h1] at h; cases h
  · rw [if_neg h1] at h
    by_cases h2 : l.all (fun x => mayB (vK x)) = true
    · exact ⟨h1, List.all_eq_true.1 h2⟩
    · rw [if_neg h2] at h; cases h
theorem bat_ok {s : Nat} {l : List RecV} (h : batE s l = 0) : wrongE l = 0 ∧ s + l.length < 18446744073709551615 := by
  unfold batE at h
  by_cases h1 : wrongE l = 0
  · rw [if_neg (by omega)] at h
    refine ⟨h1, ?_⟩
    by_cases h2 : 18446744073709551615 ≤ s + l.length
    · rw [if_pos h2] at h; cases h
    · omega
  · rw [if_pos h1] at h; exact absurd h h1
/-- a batch is parsed as its records, whatever stands around it -/
theorem par_back {s : Nat} {l : List RecV} {a t all : List UInt8} (sg : Int) (h : batE s l = 0) (hd : ∀ x ∈ l, (vD x).length = 32) (hn : l.length ≤ 4294967295) (hz : (allR s l).length ≤ 4294967295) (ha : all = a ++ batB s l ++ t) :
    parL all a.length sg = (wordsL sg s a.length l, ((a.length + (batB s l).length : Nat) : Int), s + l.length, 0) := by
  obtain ⟨h1, h2⟩ := bat_ok h
  obtain ⟨h3, h4⟩ := wrong_all h1
  have hB : batB s l = allR s l ++ cmtR (s + l.length) l.length (allR s l).length := by unfold batB; rw [if_pos h]
  have hr := cmt_right hn hz
  have hcl := cmt_len (s := s + l.length) hn hz
  have ha2 : all = a ++ allR s l ++ (cmtR (s + l.length) l.length (allR s l).length ++ t) := by rw [ha, hB]; simp
  have hal : l.length + 29 ≤ all.length := by
    have h21 : ∀ (r : List RecV) (q : Nat), (∀ x ∈ r, eR x = 0) → r.length ≤ (allR q r).length := by
      intro r
      induction r with
      | nil => intro q _; simp [allR]
      | cons x r ih =>
        intro q hx
        have h5 := bR_pos (s := q) (hx x (by simp))
        have h6 := ih (q + 1) (fun y hy => hx y (by simp [hy]))
        rw [allR, List.length_append, List.length_cons]; omega
    have := h21 l s (eR_of h1)
    rw [ha2, List.length_append, List.length_append, List.length_append, hcl]; omega
  obtain ⟨g1, g2⟩ := par_rest sg a.length all (cmtR (s + l.length) l.length (allR s l).length ++ t) l a s (all.length - l.length + 1) [] (fun x hx => ⟨h4 x hx, eR_of h1 x hx, hd x hx⟩) (by omega) (fun q => absurd rfl q) ha2
  rw [List.nil_append] at g1 g2
  have g2 := g2 h3
  unfold parL
  rw [show all.length + 1 = all.length - l.length + 1 + l.length by omega, g1]
  have ha3 : all = (a ++ allR s l) ++ makeR 6 (s + l.length) z32 (⟨#[]⟩ : ByteArray).data.toList [] (l.length : Int) ((allR s l).length : Int) ++ t := by rw [ha2]; unfold cmtR; simp
  obtain ⟨p1, p2, p3, p4, p5⟩ := parse_back (k := 6) (s := s + l.length) (d := z32) (l := []) (a := a ++ allR s l) (t := t) (nm := ⟨#[]⟩) (n := (l.length : Int)) (z := ((allR s l).length : Int)) (by omega) rfl hr all ha3
  obtain ⟨-, -, -, -, d5, d6⟩ := data_back (k := 6) (d := z32) (l := []) (nm := ⟨#[]⟩) (n := (l.length : Int)) (z := ((allR s l).length : Int)) rfl hr
  rw [List.length_append] at p1 p2 p3 p4 p5
  have hwl := wordsL_len sg l s a.length
  have hq : ¬ (((wordsL sg s a.length l).length = 0 ∧ mayB (pKind all ((a.length + (allR s l).length : Nat) : Int)) = false) ∨ ((wordsL sg s a.length l).length ≠ 0 ∧ (pSeq all ((a.length + (allR s l).length : Nat) : Int) = 0 ∨ pSeq all ((a.length + (allR s l).length : Nat) : Int) - 1 ≠ lastS (wordsL sg s a.length l)))) := by
    rw [p3, g2, hwl]
    rintro (⟨q, -⟩ | ⟨-, q⟩) <;> omega
  rw [parF_end p1 hq (by rw [p2]; decide) (by
    rw [p2, p4, d5, d6, hwl]
    exact ⟨rfl, rfl, by show ((allR s l).length : Int) = _; omega⟩), p3, p5, hB, List.length_append]
  have e2 : (makeR 6 (s + l.length) z32 (⟨#[]⟩ : ByteArray).data.toList [] (l.length : Int) ((allR s l).length : Int)).length = (cmtR (s + l.length) l.length (allR s l).length).length := rfl
  rw [e2]
  rw [show ((a.length + (allR s l).length : Nat) : Int) + ((cmtR (s + l.length) l.length (allR s l).length).length : Nat) = ((a.length + ((allR s l).length + (cmtR (s + l.length) l.length (allR s l).length).length) : Nat) : Int) by omega]
/-! ### a first part -/
theorem parF_bad (b : List UInt8) (frm sg : Int) : ∀ (f : Nat) (p : Int) (o : List Wd), (parF b frm sg f p o).2.2.2 ≠ 0 → parF b frm sg f p o = ([], 0, 0, (parF b frm sg f p o).2.2.2)
  | 0, p, o, _ => rfl
  | f + 1, p, o, h => by
    unfold parF at h ⊢
    split
    · rfl
    · rename_i h1; rw [if_neg h1] at h
      split
      · rfl
      · rename_i h2; rw [if_neg h2] at h
        split
        · rename_i h3; rw [if_pos h3] at h; exact parF_bad b frm sg f _ _ h
        · rename_i h3; rw [if_neg h3] at h
          split
          · rename_i h4; rw [if_pos h4] at h; exact absurd rfl h
          · rfl
theorem pErrX_app {x t : List UInt8} (h : pErrX x = 0) : pErrX (x ++ t) = 0 ∧ fk (x ++ t) = fk x ∧ fs (x ++ t) = fs x ∧ fn (x ++ t) = fn x := by
  obtain ⟨h1, h2, h3, h4, h5, h6⟩ := pErrX_ok h
  have e1 : fk (x ++ t) = fk x := by unfold fk; rw [List.take_append_of_le_length (by omega)]
  have e2 : fs (x ++ t) = fs x := by unfold fs; rw [List.drop_append_of_le_length (by omega), List.take_append_of_le_length (by rw [List.length_drop]; omega)]
  have e3 : fn (x ++ t) = fn x := by unfold fn; rw [List.drop_append_of_le_length (by omega), List.take_append_of_le_length (by rw [List.length_drop]; omega)]
  refine ⟨?_, e1, e2, e3⟩
  unfold pErrX
  rw [e1, e3, List.take_append_of_le_length (by omega), List.take_append_of_le_length (by omega), List.length_append, if_neg (by omega), h2, if_neg (by decide), if_neg (by omega), if_neg (by omega), h6, if_neg (by decide)]
/-- a right record in a first part is that record in the whole -/
theorem rec_app {b t : List UInt8} {p : Int} (h : recE b p = 0) : recE (b ++ t) p = 0 ∧ pKind (b ++ t) p = pKind b p ∧ pSeq (b ++ t) p = pSeq b p ∧ pData (b ++ t) p = pData b p ∧ pEnd (b ++ t) p = pEnd b p := by
  have h1 := rec_p h
  obtain ⟨p1, p2, p3⟩ := pErr_ok h1
  have hdr : (b ++ t).drop p.toNat = b.drop p.toNat ++ t := List.drop_append_of_le_length (by omega)
  obtain ⟨x1, x2, x3, x4⟩ := pErrX_app (t := t) p3
  have h5 := (pErrX_ok p3).2.2.2.2.1
  have q1 : pErr (b ++ t) p = 0 := by
    unfold pErr
    rw [if_neg (by rw [List.length_append]; omega), hdr]; exact x1
  have q2 : pKind (b ++ t) p = pKind b p := by unfold pKind; rw [if_pos q1, if_pos h1, hdr, x2]
  have q3 : pSeq (b ++ t) p = pSeq b p := by unfold pSeq; rw [if_pos q1, if_pos h1, hdr, x3]
  have q4 : pData (b ++ t) p = pData b p := by
    unfold pData
    rw [if_pos q1, if_pos h1, hdr, x4, List.drop_append_of_le_length (by omega), List.take_append_of_le_length (by rw [List.length_drop]; omega)]
  have q5 : pEnd (b ++ t) p = pEnd b p := by unfold pEnd; rw [if_pos q1, if_pos h1, hdr, x4]
  refine ⟨?_, q2, q3, q4, q5⟩
  unfold recE at h ⊢
  rw [if_neg (by rw [q1]; decide), q2, q4]
  rwa [if_neg (by rw [h1]; decide)] at h
theorem wdOf_app {b t : List UInt8} {p : Int} (sg : Int) (h : recE b p = 0) : wdOf (b ++ t) p sg = wdOf b p sg := by
  obtain ⟨-, h2, h3, h4, h5⟩ := rec_app (t := t) h
  unfold wdOf; rw [h2, h3, h4, h5]
/-- a batch in a first part is that batch in the whole; it ends within the part -/
theorem parF_app (b t : List UInt8) (frm sg : Int) : ∀ (f g : Nat) (p : Int) (o : List Wd), (parF b frm sg f p o).2.2.2 = 0 → parF (b ++ t) frm sg (f + g) p o = parF b frm sg f p o ∧ (parF b frm sg f p o).2.1 ≤ (b.length : Int) ∧ p + 21 ≤ (parF b frm sg f p o).2.1
  | 0, g, p, o, h => by simp [parF] at h
  | f + 1, g, p, o, h => by
    by_cases h1 : recE b p = 0
    · obtain ⟨r1, r2, r3, r4, r5⟩ := rec_app (t := t) h1
      have hri := rec_in h1
      by_cases h2 : (o.length = 0 ∧ mayB (pKind b p) = false) ∨ (o.length ≠ 0 ∧ (pSeq b p = 0 ∨ pSeq b p - 1 ≠ lastS o))
      · rw [parF_seq h1 h2] at h; simp at h
      · cases h3 : mayB (pKind b p)
        · by_cases h4 : (pKind b p : Int) = 6 ∧ nF (pKind b p) (pData b p) = (o.length : Int) ∧ zF (pKind b p) (pData b p) = p - frm
          · rw [parF_end h1 h2 h3 h4, show f + 1 + g = f + g + 1 by omega, parF_end r1 (by rw [r2, r3]; exact h2) (by rw [r2]; exact h3) (by rw [r2, r4]; exact h4), r5, r3]
            exact ⟨rfl, hri.2.2, hri.2.1⟩
          · rw [parF_no h1 h2 h3 h4] at h; simp at h
        · rw [parF_go h1 h2 h3] at h ⊢
          rw [show f + 1 + g = f + g + 1 by omega, parF_go r1 (by rw [r2, r3]; exact h2) (by rw [r2]; exact h3), r5, wdOf_app sg h1]
          obtain ⟨i1, i2, i3⟩ := parF_app b t frm sg f g _ _ h
          exact ⟨i1, i2, by have := hri.2.1; omega⟩
    · rw [parF_err h1] at h; exact absurd h h1
/-- a first part of a batch is none -/
theorem par_torn {s : Nat} {l : List RecV} (sg : Int) (h : batE s l = 0) (hd : ∀ x ∈ l, (vD x).length = 32) (hn : l.length ≤ 4294967295) (hz : (allR s l).length ≤ 4294967295) {n : Nat} (hl : n < (batB s l).length) :
    ∃ e : Nat, e ≠ 0 ∧ parL ((batB s l).take n) 0 sg = ([], 0, 0, e) := by
  by_cases he : (parL ((batB s l).take n) 0 sg).2.2.2 = 0
  · exfalso
    have h1 := par_back (a := []) (t := []) (all := batB s l) sg h hd hn hz (by simp)
    obtain ⟨h2, h3, -⟩ := parF_app ((batB s l).take n) ((batB s l).drop n) 0 sg (((batB s l).take n).length + 1) ((batB s l).length - n) 0 [] he
    rw [List.take_append_drop, show ((batB s l).take n).length + 1 + ((batB s l).length - n) = (batB s l).length + 1 by rw [List.length_take]; omega] at h2
    have h4 : parL (batB s l) 0 sg = parL ((batB s l).take n) 0 sg := h2
    rw [show ((([] : List UInt8).length : Nat) : Int) = 0 from rfl] at h1
    rw [h4] at h1
    have h5 : (parL ((batB s l).take n) 0 sg).2.1 ≤ (((batB s l).take n).length : Int) := h3
    rw [h1, List.length_take] at h5
    simp at h5
    omega
  · exact ⟨_, he, parF_bad _ _ _ _ _ _ he⟩
end Go.Proofs.Ytceldlijbehkdaa.Bt
