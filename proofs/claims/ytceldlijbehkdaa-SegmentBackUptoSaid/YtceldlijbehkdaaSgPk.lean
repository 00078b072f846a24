/- segments: what a scan answers, in plain. -/
import Derived.Test.YtceldlijbehkdaaBtBk
set_option linter.unusedVariables false
set_option linter.unusedSimpArgs false
namespace Go.Proofs.Ytceldlijbehkdaa.Sg
open Go.RowKit Go.Proofs.YtceldlijbehkdaaW.PrintWords Go.Proofs.Ytceldlijbehkdaa.B Go.Proofs.Ytceldlijbehkdaa.Fx Go.Proofs.Ytceldlijbehkdaa.Fr Go.Proofs.Ytceldlijbehkdaa.O Go.Proofs.Ytceldlijbehkdaa.Rc Go.Proofs.Ytceldlijbehkdaa.Bt
/-- a scan -/
structure Sc where
  ws : List Wd
  q : Nat
  en : Int
  sl : Bool
  at_ : Int
  er : Nat
def ScC (v : Value) (x : Sc) : Array Value := #[v, .int .u64 x.q, .int .i64 x.en, .bool x.sl, .int .i64 x.at_, .int .i64 x.er]
def zSc : Sc := ⟨[], 0, 0, false, 0, 0⟩
theorem scC_one (v : Value) (x : Sc) (h : v.oneCell' = true) : (ScC v x).all (·.oneCell') = true := by
  rw [Array.all_eq_true_iff_forall_mem]
  intro u hu
  simp [ScC] at hu
  rcases hu with rfl | rfl | rfl | rfl | rfl | rfl
  · exact h
  all_goals rfl
theorem infoSc : (Try.prog.info? 69).map (·.size) = some 6 := by kernel_rfl
theorem zeroSc (w : World) : (zeroValue 69).run Try.prog w = .ok (.agg (ScC (.slice none 0 0) zSc)) w := by kernel_rfl
/-- the scan of a header -/
def begS (b : List UInt8) (n : Int) : Sc :=
  if recE b 0 ≠ 0 then ⟨[], 0, 0, false, 0, recE b 0⟩
  else if (pKind b 0 : Int) = 7 ∧ nF (pKind b 0) (pData b 0) = n then ⟨[], pSeq b 0, pEnd b 0, false, pEnd b 0, 0⟩
  else ⟨[], 0, 0, false, 0, 3⟩
def isFoot (b : List UInt8) (p : Int) : Bool := decide (recE b p = 0 ∧ (pKind b p : Int) = 8)
def goodFoot (b : List UInt8) (x : Sc) : Bool := decide (x.q < pSeq b x.en ∧ nF (pKind b x.en) (pData b x.en) = (x.ws.length : Int) ∧ zF (pKind b x.en) (pData b x.en) = x.en ∧ pEnd b x.en = (b.length : Int))
def footS (b : List UInt8) (x : Sc) : Sc :=
  if isFoot b x.en = false then x
  else if goodFoot b x = true then ⟨x.ws, pSeq b x.en, pEnd b x.en, true, pEnd b x.en, x.er⟩
  else ⟨x.ws, x.q, x.en, x.sl, x.at_, 3⟩
def scanF (b : List UInt8) (n : Int) : Nat → Sc → Sc
  | 0, x => x
  | f + 1, x =>
    if (b.length : Int) ≤ x.en then x
    else if isFoot b x.en = true then footS b x
    else if (parL b x.en n).2.2.2 ≠ 0 then ⟨x.ws, x.q, x.en, x.sl, x.at_, (parL b x.en n).2.2.2⟩
    else if (wd (parL b x.en n).1 0).s ≤ x.q then ⟨x.ws, x.q, x.en, x.sl, x.at_, 3⟩
    else scanF b n f ⟨x.ws ++ (parL b x.en n).1, (parL b x.en n).2.2.1, (parL b x.en n).2.1, false, (parL b x.en n).2.1, 0⟩
/-- the scan of a segment -/
def scanL (b : List UInt8) (n : Int) : Sc := if (begS b n).er ≠ 0 then begS b n else scanF b n (b.length + 1) (begS b n)
section
variable {b : List UInt8} {n : Int} {f : Nat} {x : Sc}
theorem scanF_end (h : (b.length : Int) ≤ x.en) : scanF b n (f + 1) x = x := by rw [scanF, if_pos h]
theorem scanF_foot (h : ¬ (b.length : Int) ≤ x.en) (h2 : isFoot b x.en = true) : scanF b n (f + 1) x = footS b x := by rw [scanF, if_neg h, if_pos h2]
theorem scanF_err (h : ¬ (b.length : Int) ≤ x.en) (h2 : isFoot b x.en = false) (h3 : (parL b x.en n).2.2.2 ≠ 0) : scanF b n (f + 1) x = ⟨x.ws, x.q, x.en, x.sl, x.at_, (parL b x.en n).2.2.2⟩ := by rw [scanF, if_neg h, if_neg (by simp [h2]), if_pos h3]
theorem scanF_seq (h : ¬ (b.length : Int) ≤ x.en) (h2 : isFoot b x.en = false) (h3 : (parL b x.en n).2.2.2 = 0) (h4 : (wd (parL b x.en n).1 0).s ≤ x.q) : scanF b n (f + 1) x = ⟨x.ws, x.q, x.en, x.sl, x.at_, 3⟩ := by rw [scanF, if_neg h, if_neg (by simp [h2]), if_neg (by simp [h3]), if_pos h4]
theorem scanF_go (h : ¬ (b.length : Int) ≤ x.en) (h2 : isFoot b x.en = false) (h3 : (parL b x.en n).2.2.2 = 0) (h4 : ¬ (wd (parL b x.en n).1 0).s ≤ x.q) :
    scanF b n (f + 1) x = scanF b n f ⟨x.ws ++ (parL b x.en n).1, (parL b x.en n).2.2.1, (parL b x.en n).2.1, false, (parL b x.en n).2.1, 0⟩ := by rw [scanF, if_neg h, if_neg (by simp [h2]), if_neg (by simp [h3]), if_neg h4]
end
/-- a batch that is parsed has a record; how long it is -/
theorem parF_ok (b : List UInt8) (frm sg : Int) : ∀ (f : Nat) (p : Int) (o : List Wd), (parF b frm sg f p o).2.2.2 = 0 → 0 < (parF b frm sg f p o).1.length ∧ 0 ≤ p ∧ p + 21 + 21 * ((parF b frm sg f p o).1.length : Int) ≤ (parF b frm sg f p o).2.1 + 21 * (o.length : Int) ∧ (parF b frm sg f p o).2.1 ≤ (b.length : Int) ∧ (parF b frm sg f p o).2.2.1 < 18446744073709551616 ∧ o.length ≤ (parF b frm sg f p o).1.length
  | 0, p, o, h => by simp [parF] at h
  | f + 1, p, o, h => by
    by_cases h1 : recE b p = 0
    · have hri := rec_in h1
      by_cases h2 : (o.length = 0 ∧ mayB (pKind b p) = false) ∨ (o.length ≠ 0 ∧ (pSeq b p = 0 ∨ pSeq b p - 1 ≠ lastS o))
      · rw [parF_seq h1 h2] at h; simp at h
      · cases h3 : mayB (pKind b p)
        · by_cases h4 : (pKind b p : Int) = 6 ∧ nF (pKind b p) (pData b p) = (o.length : Int) ∧ zF (pKind b p) (pData b p) = p - frm
          · rw [parF_end h1 h2 h3 h4]
            have ho : o.length ≠ 0 := fun q => h2 (Or.inl ⟨q, h3⟩)
            refine ⟨by show 0 < o.length; omega, hri.1, ?_, hri.2.2, seq_lt b p, Nat.le_refl _⟩
            show p + 21 + 21 * (o.length : Int) ≤ pEnd b p + 21 * (o.length : Int)
            omega
          · rw [parF_no h1 h2 h3 h4] at h; simp at h
        · rw [parF_go h1 h2 h3] at h ⊢
          obtain ⟨i1, i2, i3, i4, i5, i6⟩ := parF_ok b frm sg f _ _ h
          rw [List.length_append, List.length_singleton] at i3 i6
          exact ⟨i1, hri.1, by omega, i4, i5, by omega⟩
    · rw [parF_err h1] at h; exact absurd h h1
theorem parL_ok {b : List UInt8} {p sg : Int} (h : (parL b p sg).2.2.2 = 0) : 0 < (parL b p sg).1.length ∧ 0 ≤ p ∧ p + 21 + 21 * ((parL b p sg).1.length : Int) ≤ (parL b p sg).2.1 ∧ (parL b p sg).2.1 ≤ (b.length : Int) ∧ (parL b p sg).2.2.1 < 18446744073709551616 := by
  obtain ⟨i1, i2, i3, i4, i5, -⟩ := parF_ok b p sg (b.length + 1) p [] h
  refine ⟨i1, i2, ?_, i4, i5⟩
  rw [show ((([] : List Wd).length : Nat) : Int) = 0 from rfl] at i3
  unfold parL
  omega
/-- the end: a scan -/
def Scanned (x : Sc) (w : World) (e : Ending) (w' : World) : Prop := ∃ v, e = .returned (.agg (ScC v x)) ∧ OwnW w' w.heap.size v x.ws ∧ Below w.heap.size w w'
theorem OwnW.one {w : World} {base : Nat} {v : Value} {l : List Wd} (h : OwnW w base v l) : v.oneCell' = true := by
  obtain ⟨A, c, rfl, -, -⟩ := h.reads; rfl
end Go.Proofs.Ytceldlijbehkdaa.Sg
