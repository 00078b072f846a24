/- law16: SegmentBack, in plain: words and records by batch and place. -/
import Derived.Test.YtceldlijbehkdaaSgBuildW
import Derived.Test.YtceldlijbehkdaaRcRParse
import Derived.Test.YtceldlijbehkdaaRcSame
set_option linter.unusedVariables false
set_option linter.unusedSimpArgs false
namespace Go.Proofs.Ytceldlijbehkdaa.Sg
open Go.RowKit Go.Proofs.YtceldlijbehkdaaW.PrintWords Go.Proofs.Ytceldlijbehkdaa.B Go.Proofs.Ytceldlijbehkdaa.Fx Go.Proofs.Ytceldlijbehkdaa.Fr Go.Proofs.Ytceldlijbehkdaa.O Go.Proofs.Ytceldlijbehkdaa.Rc Go.Proofs.Ytceldlijbehkdaa.Bt
theorem batsE_at : ∀ (ls : List (List RecV)) (q i : Nat), batsE q ls = 0 → i < ls.length → batE (batsN q (ls.take i)) (rl ls i) = 0
  | [], _, i, _, h => by simp at h
  | l :: t, q, i, h, hi => by
    unfold batsE at h
    by_cases h0 : batE q l = 0
    · rw [if_neg (by simp [h0])] at h
      cases i with
      | zero => exact h0
      | succ i => exact batsE_at t (q + l.length + 1) i h (by simpa using hi)
    · rw [if_pos h0] at h; exact absurd h h0
theorem batsW_get (n : Int) : ∀ (ls : List (List RecV)) (q p i j : Nat), i < ls.length → j < (rl ls i).length →
    wd (batsW n q p ls) (manyL (ls.take i) + j) = wdB n (batsN q (ls.take i) + j) (p + (batsB q (ls.take i)).length + (allR (batsN q (ls.take i)) ((rl ls i).take j)).length) (rc (rl ls i) j)
  | [], _, _, i, j, h, _ => by simp at h
  | l :: t, q, p, 0, j, _, hj => by
    have hj' : j < l.length := hj
    show wd (wordsL n q p l ++ batsW n (q + l.length + 1) (p + (batB q l).length) t) (0 + j) = wdB n (q + j) (p + 0 + (allR q (l.take j)).length) (rc l j)
    rw [Nat.zero_add, Nat.add_zero p, ← wordsL_get n l q p j hj']
    unfold wd
    rw [List.getD_eq_getElem?_getD, List.getD_eq_getElem?_getD, List.getElem?_append_left (by rw [wordsL_len]; exact hj')]
  | l :: t, q, p, i + 1, j, hi, hj => by
    have ih := batsW_get n t (q + l.length + 1) (p + (batB q l).length) i j (by simpa using hi) hj
    have e : p + (batB q l).length + (batsB (q + l.length + 1) (t.take i)).length = p + (batsB q ((l :: t).take (i + 1))).length := by
      show _ = p + (batB q l ++ batsB (q + l.length + 1) (t.take i)).length
      rw [List.length_append, Nat.add_assoc]
    rw [e] at ih
    refine Eq.trans ?_ ih
    show wd (wordsL n q p l ++ batsW n (q + l.length + 1) (p + (batB q l).length) t) (l.length + manyL (t.take i) + j) = _
    unfold wd
    rw [List.getD_eq_getElem?_getD, List.getD_eq_getElem?_getD, List.getElem?_append_right (by rw [wordsL_len]; omega), wordsL_len, show l.length + manyL (t.take i) + j - l.length = manyL (t.take i) + j by omega]
theorem allR_split : ∀ (l : List RecV) (s j : Nat), j < l.length → ∃ t, allR s l = allR s (l.take j) ++ bR (s + j) (rc l j) ++ t
  | [], _, j, h => by simp at h
  | x :: l, s, 0, _ => ⟨allR (s + 1) l, by simp [allR, rc]⟩
  | x :: l, s, j + 1, h => by
    obtain ⟨t, ht⟩ := allR_split l (s + 1) j (by simpa using h)
    refine ⟨t, ?_⟩
    show bR s x ++ allR (s + 1) l = (bR s x ++ allR (s + 1) (l.take j)) ++ bR (s + (j + 1)) (rc l j) ++ t
    rw [ht, show s + 1 + j = s + (j + 1) by omega]; simp
theorem bats_split {q i j : Nat} {ls : List (List RecV)} (he : batsE q ls = 0) (hi : i < ls.length) (hj : j < (rl ls i).length) :
    ∃ t, batsB q ls = batsB q (ls.take i) ++ allR (batsN q (ls.take i)) ((rl ls i).take j) ++ bR (batsN q (ls.take i) + j) (rc (rl ls i) j) ++ t := by
  have h1 := batsB_app (ls.take i) (rl ls i :: ls.drop (i + 1)) q
  rw [← rl_split ls i hi, batsB, batB, if_pos (batsE_at ls q i he hi)] at h1
  obtain ⟨t, ht⟩ := allR_split (rl ls i) (batsN q (ls.take i)) j hj
  rw [ht] at h1
  simp only [List.append_assoc] at h1 ⊢
  exact ⟨_, h1⟩
/-- a record's place -/
def offL (n : Int) (s : Nat) (ls : List (List RecV)) (i j : Nat) : Nat := (headR n s).length + (batsB (s + 1) (ls.take i)).length + (allR (batsN (s + 1) (ls.take i)) ((rl ls i).take j)).length
theorem seg_rec {n : Int} {s i j : Nat} {ls : List (List RecV)} {tl b : List UInt8} (he : batsE (s + 1) ls = 0) (hd : ∀ l ∈ ls, ∀ x ∈ l, (vD x).length = 32) (hi : i < ls.length) (hj : j < (rl ls i).length)
    (hb : b = headR n s ++ batsB (s + 1) ls ++ tl) :
    eR (rc (rl ls i) j) = 0 ∧ batsN (s + 1) (ls.take i) + j < 18446744073709551615 ∧ recE b (offL n s ls i j) = 0 ∧ (pKind b (offL n s ls i j) : Int) = vK (rc (rl ls i) j) ∧ pSeq b (offL n s ls i j) = batsN (s + 1) (ls.take i) + j ∧
    dF (pKind b (offL n s ls i j)) (pData b (offL n s ls i j)) = dB (vK (rc (rl ls i) j)) (vD (rc (rl ls i) j)) ∧ nmF (pKind b (offL n s ls i j)) (pData b (offL n s ls i j)) = nmB (vK (rc (rl ls i) j)) (vN (rc (rl ls i) j)) ∧
    lF (pKind b (offL n s ls i j)) (pData b (offL n s ls i j)) = lB (vK (rc (rl ls i) j)) (vL (rc (rl ls i) j)) ∧ nF (pKind b (offL n s ls i j)) (pData b (offL n s ls i j)) = nB (vK (rc (rl ls i) j)) (vC (rc (rl ls i) j)) ∧
    zF (pKind b (offL n s ls i j)) (pData b (offL n s ls i j)) = zB (vK (rc (rl ls i) j)) (vZ (rc (rl ls i) j)) ∧ pEnd b (offL n s ls i j) = (offL n s ls i j : Int) + (bR (batsN (s + 1) (ls.take i) + j) (rc (rl ls i) j)).length := by
  have h0 := batsE_at ls (s + 1) i he hi
  obtain ⟨w1, w2⟩ := bat_ok h0
  have hx : rc (rl ls i) j ∈ rl ls i := rc_mem hj
  have he2 := eR_of w1 _ hx
  have hd2 := hd _ (rl_mem hi) _ hx
  obtain ⟨t, ht⟩ := bats_split he hi hj
  obtain ⟨a, ha⟩ : ∃ a, headR n s ++ (batsB (s + 1) (ls.take i) ++ allR (batsN (s + 1) (ls.take i)) ((rl ls i).take j)) = a := ⟨_, rfl⟩
  have hal : offL n s ls i j = a.length := by rw [← ha, List.length_append, List.length_append]; unfold offL; omega
  have hb2 : b = a ++ bR (batsN (s + 1) (ls.take i) + j) (rc (rl ls i) j) ++ (t ++ tl) := by rw [hb, ht, ← ha]; simp only [List.append_assoc]
  have hu0 : batsN (s + 1) (ls.take i) + j < 18446744073709551615 := by omega
  rw [hal]
  generalize rc (rl ls i) j = x at *
  generalize batsN (s + 1) (ls.take i) + j = u at *
  have hu := hu0
  obtain ⟨h1, h2, h3, h4, h5⟩ := parse_back (a := a) (t := t ++ tl) (s := u) (by omega) hd2 he2 b hb2
  obtain ⟨-, g2, g3, g4, g5, g6⟩ := data_back hd2 he2
  refine ⟨he2, hu, h1, h2, h3, ?_, ?_, ?_, ?_, ?_, h5⟩
  · rw [h2, h4, g2]
  · rw [h2, h4, g3]
  · rw [h2, h4, g4]
  · rw [h2, h4, g5]
  · rw [h2, h4, g6]
/-- what the reference's Parse answers at a record's place -/
def PRec (en : Int) (k : Int) (s : Nat) (d : List UInt8) (nm : ByteArray) (l : List UInt8) (n z : Int) (w : World) (e : Ending) (w' : World) : Prop :=
  ∃ X A c, e = .returned (.tuple #[.agg X, .int .i64 en, .int .i64 0]) ∧ RecF X k s d nm A l.length c n z ∧ Buf w' w.heap.size (.slice A l.length c) l ∧ Below w.heap.size w w'
theorem seg_parse {n : Int} {s i j : Nat} {ls : List (List RecV)} {tl b : List UInt8} (he : batsE (s + 1) ls = 0) (hd : ∀ l ∈ ls, ∀ x ∈ l, (vD x).length = 32) (hi : i < ls.length) (hj : j < (rl ls i).length)
    (hb : b = headR n s ++ batsB (s + 1) ls ++ tl) (A : Option Addr) (c : Nat) (w : World) (hl : b.length ≤ 140737488354000) (hc : b.length ≤ c) (hr : Rd w A b) :
    Calls Try.prog 15 #[.slice A b.length c, .int .i64 (offL n s ls i j)] w (PRec ((offL n s ls i j : Int) + (bR (batsN (s + 1) (ls.take i) + j) (rc (rl ls i) j)).length) (vK (rc (rl ls i) j)) (batsN (s + 1) (ls.take i) + j)
      (dB (vK (rc (rl ls i) j)) (vD (rc (rl ls i) j))) (nmB (vK (rc (rl ls i) j)) (vN (rc (rl ls i) j))) (lB (vK (rc (rl ls i) j)) (vL (rc (rl ls i) j))) (nB (vK (rc (rl ls i) j)) (vC (rc (rl ls i) j))) (zB (vK (rc (rl ls i) j)) (vZ (rc (rl ls i) j))) w) := by
  obtain ⟨-, -, h1, h2, h3, h4, h5, h6, h7, h8, h9⟩ := seg_rec he hd hi hj hb
  have hlt : offL n s ls i j ≤ b.length := by
    obtain ⟨t, ht⟩ := bats_split he hi hj
    rw [hb, ht]; unfold offL; simp only [List.length_append]; omega
  refine (Rc.refparse_any A c b (offL n s ls i j) w hl hc hr (by omega)).mono ?_
  rintro e w' (⟨-, X, A1, c1, r1, r2, r3, r4⟩ | ⟨h0, -⟩)
  · rw [h9] at r1
    rw [h3, h4, h5, h6, h7, h8, h2] at r2
    rw [h6] at r3
    exact ⟨X, A1, c1, r1, r2, r3, r4⟩
  · exact absurd h1 h0
end Go.Proofs.Ytceldlijbehkdaa.Sg
