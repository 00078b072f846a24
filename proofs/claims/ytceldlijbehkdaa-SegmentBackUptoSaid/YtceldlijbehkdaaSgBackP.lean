/- segments: what is built is found, in plain. -/
import Derived.Test.YtceldlijbehkdaaSgTornP
set_option linter.unusedVariables false
set_option linter.unusedSimpArgs false
namespace Go.Proofs.Ytceldlijbehkdaa.Sg
open Go.RowKit Go.Proofs.YtceldlijbehkdaaW.PrintWords Go.Proofs.Ytceldlijbehkdaa.B Go.Proofs.Ytceldlijbehkdaa.Fx Go.Proofs.Ytceldlijbehkdaa.Fr Go.Proofs.Ytceldlijbehkdaa.O Go.Proofs.Ytceldlijbehkdaa.Rc Go.Proofs.Ytceldlijbehkdaa.Bt
/-- batches one behind the other: their bytes, error, the next number, their words, how many -/
def batsB : Nat → List (List RecV) → List UInt8
  | _, [] => []
  | q, l :: t => batB q l ++ batsB (q + l.length + 1) t
def batsE : Nat → List (List RecV) → Nat
  | _, [] => 0
  | q, l :: t => if batE q l ≠ 0 then batE q l else batsE (q + l.length + 1) t
def batsN : Nat → List (List RecV) → Nat
  | q, [] => q
  | q, l :: t => batsN (q + l.length + 1) t
def batsW (n : Int) : Nat → Nat → List (List RecV) → List Wd
  | _, _, [] => []
  | q, p, l :: t => wordsL n q p l ++ batsW n (q + l.length + 1) (p + (batB q l).length) t
def manyL : List (List RecV) → Nat
  | [] => 0
  | l :: t => l.length + manyL t
theorem batsW_len (n : Int) : ∀ (ls : List (List RecV)) (q p : Nat), (batsW n q p ls).length = manyL ls
  | [], _, _ => rfl
  | l :: t, q, p => by rw [batsW, List.length_append, wordsL_len, batsW_len n t, manyL]
theorem batsN_ge : ∀ (ls : List (List RecV)) (q : Nat), q ≤ batsN q ls
  | [], q => Nat.le_refl _
  | l :: t, q => by
    have := batsN_ge t (q + l.length + 1)
    show q ≤ batsN (q + l.length + 1) t
    omega
/-- batches of a segment are found in order -/
theorem scan_bats (n : Int) (all tl : List UInt8) : ∀ (ls : List (List RecV)) (a : List UInt8) (q f : Nat) (ws : List Wd), batsE q ls = 0 →
    (∀ l ∈ ls, (∀ x ∈ l, (vD x).length = 32) ∧ l.length ≤ 4294967295 ∧ ∀ s, (allR s l).length ≤ 4294967295) → 1 ≤ q → all = a ++ batsB q ls ++ tl →
    scanF all n (f + ls.length) ⟨ws, q - 1, a.length, false, a.length, 0⟩ = scanF all n f ⟨ws ++ batsW n q a.length ls, batsN q ls - 1, ((a.length + (batsB q ls).length : Nat) : Int), false, ((a.length + (batsB q ls).length : Nat) : Int), 0⟩
  | [], a, q, f, ws, _, _, _, _ => by simp [batsB, batsW, batsN]
  | l :: ls, a, q, f, ws, he, hl, hq, ha => by
    unfold batsE at he
    by_cases h0 : batE q l = 0
    · rw [if_neg (by simp [h0])] at he
      obtain ⟨d1, d2, d3⟩ := hl l (by simp)
      have ha2 : all = a ++ batB q l ++ (batsB (q + l.length + 1) ls ++ tl) := by rw [ha, batsB]; simp
      have hp := par_back (s := q) (l := l) (a := a) (t := batsB (q + l.length + 1) ls ++ tl) n h0 d1 d2 (d3 q) ha2
      obtain ⟨w1, w2⟩ := bat_ok h0
      have hne := (wrong_all w1).1
      have h3 : (parL all a.length n).2.2.2 = 0 := by rw [hp]
      obtain ⟨o1, o2, o3, o4, o5⟩ := parL_ok h3
      have hx : ¬ (all.length : Int) ≤ (a.length : Nat) := by omega
      have hw0 : (wd (parL all a.length n).1 0).s = q := by
        rw [hp]
        show (wd (wordsL n q a.length l) 0).s = q
        rw [wordsL_get n l q a.length 0 (by omega)]; rfl
      have hgo := scanF_go (b := all) (n := n) (f := f + ls.length) (x := ⟨ws, q - 1, (a.length : Nat), false, (a.length : Nat), 0⟩) hx (parL_may h3) h3 (by rw [hw0]; show ¬ q ≤ q - 1; omega)
      rw [List.length_cons, show f + (ls.length + 1) = f + ls.length + 1 by omega, hgo, hp]
      have ih := scan_bats n all tl ls (a ++ batB q l) (q + l.length + 1) f (ws ++ wordsL n q a.length l) he (fun l hl' => hl l (by simp [hl'])) (by omega) (by rw [ha2]; simp)
      rw [List.length_append] at ih
      show scanF all n (f + ls.length) ⟨ws ++ wordsL n q a.length l, q + l.length, ((a.length + (batB q l).length : Nat) : Int), false, ((a.length + (batB q l).length : Nat) : Int), 0⟩ = _
      rw [show q + l.length + 1 - 1 = q + l.length by omega] at ih
      rw [ih, batsW, batsB, batsN, List.length_append, List.append_assoc, Nat.add_assoc a.length (batB q l).length]
    · rw [if_pos h0] at he; exact absurd he h0
/-- a segment's bytes -/
def headR (n : Int) (s : Nat) : List UInt8 := makeR 7 s z32 [] [] n 0
def footR (n z : Int) (s : Nat) : List UInt8 := makeR 8 s z32 [] [] n z
def segB (n : Int) (s : Nat) (ls : List (List RecV)) (sl : Bool) : List UInt8 :=
  headR n s ++ batsB (s + 1) ls ++ (if sl then footR (manyL ls) ((headR n s ++ batsB (s + 1) ls).length : Nat) (batsN (s + 1) ls) else [])
theorem head_scan {n : Int} {s : Nat} {t : List UInt8} (hs : s < 18446744073709551616) (h : rightE 7 0 [] n 0 = 0) : begS (headR n s ++ t) n = ⟨[], s, ((headR n s).length : Nat), false, ((headR n s).length : Nat), 0⟩ := by
  obtain ⟨h1, h2, h3, h4, h5⟩ := parse_back (k := 7) (s := s) (d := z32) (l := []) (a := []) (t := t) (nm := ⟨#[]⟩) (n := n) (z := 0) hs rfl h (headR n s ++ t) (by rw [List.nil_append]; rfl)
  obtain ⟨-, -, -, -, g5, -⟩ := data_back (k := 7) (d := z32) (l := []) (nm := ⟨#[]⟩) (n := n) (z := 0) rfl h
  rw [show ((([] : List UInt8).length : Nat) : Int) = 0 from rfl] at h1 h2 h3 h4 h5
  have e5 : pEnd (headR n s ++ t) 0 = ((headR n s).length : Nat) := by
    rw [h5, show makeR 7 s z32 (⟨#[]⟩ : ByteArray).data.toList [] n 0 = headR n s from rfl]; omega
  have e6 : nF (pKind (headR n s ++ t) 0) (pData (headR n s ++ t) 0) = n := by rw [h2, h4, g5]; rfl
  unfold begS
  rw [if_neg (by simp [h1]), if_pos ⟨h2, e6⟩, h3, e5]
/-- what is built is found -/
theorem seg_back {n : Int} {s : Nat} {ls : List (List RecV)} (sl : Bool) (hs : s + 1 < 18446744073709551616) (h7 : rightE 7 0 [] n 0 = 0) (he : batsE (s + 1) ls = 0)
    (hl : ∀ l ∈ ls, (∀ x ∈ l, (vD x).length = 32) ∧ l.length ≤ 4294967295 ∧ ∀ s, (allR s l).length ≤ 4294967295)
    (hN : batsN (s + 1) ls < 18446744073709551616) (h8 : sl = true → rightE 8 0 [] (manyL ls) ((headR n s ++ batsB (s + 1) ls).length : Nat) = 0) :
    ∃ q, scanL (segB n s ls sl) n = ⟨batsW n (s + 1) (headR n s).length ls, q, ((segB n s ls sl).length : Nat), sl, ((segB n s ls sl).length : Nat), 0⟩ := by
  obtain ⟨tl, htl⟩ : ∃ tl, (if sl then footR (manyL ls) ((headR n s ++ batsB (s + 1) ls).length : Nat) (batsN (s + 1) ls) else []) = tl := ⟨_, rfl⟩
  have hall : segB n s ls sl = headR n s ++ batsB (s + 1) ls ++ tl := by unfold segB; rw [htl]
  have hb := head_scan (n := n) (s := s) (t := batsB (s + 1) ls ++ tl) (by omega) h7
  rw [← List.append_assoc, ← hall] at hb
  have hlen : ls.length ≤ (segB n s ls sl).length := by
    have h21 : ∀ (r : List (List RecV)) (q : Nat), batsE q r = 0 → r.length ≤ (batsB q r).length := by
      intro r
      induction r with
      | nil => intro q _; simp [batsB]
      | cons l r ih =>
        intro q hq
        unfold batsE at hq
        by_cases h0 : batE q l = 0
        · rw [if_neg (by simp [h0])] at hq
          have h5 := ih _ hq
          have h6 : 0 < (batB q l).length := by
            obtain ⟨w1, -⟩ := bat_ok h0
            have hne := (wrong_all w1).1
            unfold batB
            rw [if_pos h0, List.length_append]
            cases l with
            | nil => exact absurd rfl hne
            | cons x l =>
              have := bR_pos (s := q) (eR_of w1 x (by simp))
              rw [allR, List.length_append]; omega
          rw [batsB, List.length_append, List.length_cons]; omega
        · rw [if_pos h0] at hq; exact absurd hq h0
    have := h21 ls (s + 1) he
    rw [hall, List.length_append, List.length_append]; omega
  have hsc := scan_bats n (segB n s ls sl) tl ls (headR n s) (s + 1) ((segB n s ls sl).length - ls.length + 1) [] he hl (by omega) hall
  rw [show s + 1 - 1 = s by omega, List.nil_append] at hsc
  have hL : scanL (segB n s ls sl) n = scanF (segB n s ls sl) n ((segB n s ls sl).length - ls.length + 1) ⟨batsW n (s + 1) (headR n s).length ls, batsN (s + 1) ls - 1, (((headR n s).length + (batsB (s + 1) ls).length : Nat) : Int), false, (((headR n s).length + (batsB (s + 1) ls).length : Nat) : Int), 0⟩ := by
    unfold scanL
    rw [hb, if_neg (by simp), show (segB n s ls sl).length + 1 = (segB n s ls sl).length - ls.length + 1 + ls.length by omega, hsc]
  rw [hL]
  cases sl with
  | false =>
    have ht : tl = [] := by rw [← htl]; simp
    have hl2 : (segB n s ls false).length = (headR n s).length + (batsB (s + 1) ls).length := by rw [hall, ht, List.append_nil, List.length_append]
    exact ⟨_, by rw [scanF_end (by show ((segB n s ls false).length : Int) ≤ _; rw [hl2]; exact Int.le_refl _), hl2]⟩
  | true =>
    have ht : tl = footR (manyL ls) ((headR n s ++ batsB (s + 1) ls).length : Nat) (batsN (s + 1) ls) := by rw [← htl]; simp
    have h8' := h8 rfl
    have ha3 : segB n s ls true = (headR n s ++ batsB (s + 1) ls) ++ makeR 8 (batsN (s + 1) ls) z32 (⟨#[]⟩ : ByteArray).data.toList [] (manyL ls : Int) (((headR n s ++ batsB (s + 1) ls).length : Nat) : Int) ++ [] := by rw [List.append_nil, hall, ht]; rfl
    obtain ⟨p1, p2, p3, p4, p5⟩ := parse_back (k := 8) (s := batsN (s + 1) ls) (d := z32) (l := []) (a := headR n s ++ batsB (s + 1) ls) (t := []) (nm := ⟨#[]⟩) (n := (manyL ls : Int)) (z := (((headR n s ++ batsB (s + 1) ls).length : Nat) : Int)) hN rfl h8' _ ha3
    obtain ⟨-, -, -, -, g5, g6⟩ := data_back (k := 8) (d := z32) (l := []) (nm := ⟨#[]⟩) (n := (manyL ls : Int)) (z := (((headR n s ++ batsB (s + 1) ls).length : Nat) : Int)) rfl h8'
    rw [List.length_append] at p1 p2 p3 p4 p5 g5 g6
    have hfl : (makeR 8 (batsN (s + 1) ls) z32 (⟨#[]⟩ : ByteArray).data.toList [] (manyL ls : Int) (((headR n s).length + (batsB (s + 1) ls).length : Nat) : Int)).length = tl.length := by rw [ht]; unfold footR; rw [List.length_append]; (try rfl)
    have hl2 : (segB n s ls true).length = (headR n s).length + (batsB (s + 1) ls).length + tl.length := by rw [hall, List.length_append, List.length_append]
    have e5 : pEnd (segB n s ls true) (((headR n s).length + (batsB (s + 1) ls).length : Nat) : Int) = (((segB n s ls true).length : Nat) : Int) := by rw [p5, hfl, hl2]; omega
    have hri := rec_in p1
    have hif : isFoot (segB n s ls true) (((headR n s).length + (batsB (s + 1) ls).length : Nat) : Int) = true := decide_eq_true ⟨p1, p2⟩
    have hgd : goodFoot (segB n s ls true) ⟨batsW n (s + 1) (headR n s).length ls, batsN (s + 1) ls - 1, (((headR n s).length + (batsB (s + 1) ls).length : Nat) : Int), false, (((headR n s).length + (batsB (s + 1) ls).length : Nat) : Int), 0⟩ = true := by
      refine decide_eq_true ⟨?_, ?_, ?_, e5⟩
      · show batsN (s + 1) ls - 1 < pSeq _ _
        have := batsN_ge ls (s + 1)
        rw [p3]; omega
      · show nF (pKind _ _) (pData _ _) = ((batsW n (s + 1) (headR n s).length ls).length : Int)
        rw [p2, p4, g5, batsW_len]; rfl
      · show zF (pKind _ _) (pData _ _) = _
        rw [p2, p4, g6]; rfl
    refine ⟨batsN (s + 1) ls, ?_⟩
    rw [scanF_foot (by show ¬ (((segB n s ls true).length : Nat) : Int) ≤ (((headR n s).length + (batsB (s + 1) ls).length : Nat) : Int); omega) hif]
    unfold footS
    rw [if_neg (by rw [hif]; decide), if_pos hgd]
    show (⟨_, pSeq _ _, pEnd _ _, true, pEnd _ _, 0⟩ : Sc) = _
    rw [p3, e5]
end Go.Proofs.Ytceldlijbehkdaa.Sg
