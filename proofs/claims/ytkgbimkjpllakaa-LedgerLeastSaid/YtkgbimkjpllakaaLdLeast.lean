/- law28: LedgerLeast: what the loops keep (plain). -/
import Derived.Test.YtkgbimkjpllakaaLdLives
set_option linter.unusedVariables false
set_option linter.unusedSimpArgs false
namespace Go.Proofs.Ytkgbimkjpllakaa.Ld
open Go.RowKit Go.Proofs.YtkgbimkjpllakaaW.PrintWords Go.Proofs.Ytkgbimkjpllakaa.B Go.Proofs.Ytkgbimkjpllakaa.O Go.Proofs.Ytkgbimkjpllakaa.Sc
theorem lt_key {a l : Nat} (h : (FloatKind.f64.format.order a l == some .lt) = true) : Flo.nan a = false ∧ Flo.nan l = false ∧ Flo.key a < Flo.key l := by
  rw [Sc.ord] at h
  cases ha : Flo.nan a with
  | true => rw [fcmp_nan (.inl ha)] at h; cases h
  | false =>
    cases hl : Flo.nan l with
    | true => rw [fcmp_nan (.inr hl)] at h; cases h
    | false =>
      rw [fcmp_num ha hl] at h
      rcases Int.lt_trichotomy (Flo.key a) (Flo.key l) with h1 | h1 | h1
      · exact ⟨rfl, rfl, h1⟩
      · rw [cmp_eq h1] at h; cases h
      · rw [cmp_gt h1] at h; cases h
theorem not_lt_key {a l : Nat} (h : (FloatKind.f64.format.order a l == some .lt) = false) (ha : Flo.nan a = false) (hl : Flo.nan l = false) : Flo.key l ≤ Flo.key a := by
  rw [Sc.ord, fcmp_num ha hl] at h
  rcases Int.lt_or_le (Flo.key a) (Flo.key l) with h1 | h1
  · rw [cmp_lt h1] at h; cases h
  · exact h1
theorem rg_lt (b : Nat) : (Flo.rg b : Int) < 9223372036854775808 := by
  have : Flo.rg b < Flo.S := Nat.mod_lt _ (by decide)
  unfold Flo.S at this; omega
theorem pl_of_key {a b : Nat} (ha : Flo.nan a = false) (hb : Flo.nan b = false) (h : Flo.key a < Flo.key b) : Flo.pl a ≤ Flo.pl b := by
  unfold Flo.pl Flo.key at *
  rw [ha, hb]
  cases hsa : Flo.sg a <;> cases hsb : Flo.sg b <;> simp [hsa, hsb] at h ⊢ <;> omega
theorem pl_le {a r l : Nat} (h : (FloatKind.f64.format.order a l == some .lt) = true) (k : (FloatKind.f64.format.order r l == some .lt) = false) : Flo.pl a ≤ Flo.pl r := by
  obtain ⟨h1, h2, h3⟩ := lt_key h
  cases hr : Flo.nan r with
  | true =>
    have := rg_lt a
    unfold Flo.pl; rw [hr, h1]
    cases Flo.sg a <;> simp <;> omega
  | false =>
    have := not_lt_key k hr h2
    exact pl_of_key h1 hr (by omega)
/-- is a load's share below the limit? -/
def blB (lim : Nat) (x : Lo) : Bool := belowB (floatOfInt .f64 x.2.2.toInt) (floatOfInt .f64 x.2.1.toInt) lim
theorem del_bl (lim : Nat) (x : Lo) : delB [] lim x = !blB lim x := by unfold delB blB; simp [inB]
theorem bl_share {lim : Nat} {x : Lo} {r : Nat} (h : blB lim x = true) (hi : IsShare (floatOfInt .f64 x.2.2.toInt) (floatOfInt .f64 x.2.1.toInt) r) : r = shN x :=
  share_of (n := []) (lim := lim) (by rw [del_bl, h]; rfl) hi
theorem mem_may {lim : Nat} {l : List Lo} {i : Nat} (hi : i < l.length) (h : blB lim (lo l i) = true) : ∃ q, q < (mayL [] lim l).length ∧ lo (mayL [] lim l) q = lo l i := by
  have hm : lo l i ∈ mayL [] lim l := by
    unfold mayL
    rw [List.mem_filter]
    refine ⟨?_, by rw [del_bl, h]; rfl⟩
    rw [lo_getElem hi]; exact List.getElem_mem _
  obtain ⟨q, hq, he⟩ := List.getElem_of_mem hm
  exact ⟨q, hq, by rw [lo_getElem hq]; exact he⟩
theorem may_mem {lim : Nat} {l : List Lo} {q : Nat} (hq : q < (mayL [] lim l).length) : ∃ i, i < l.length ∧ lo l i = lo (mayL [] lim l) q ∧ blB lim (lo l i) = true := by
  have hm : (mayL [] lim l)[q] ∈ mayL [] lim l := List.getElem_mem hq
  unfold mayL at hm
  rw [List.mem_filter] at hm
  obtain ⟨h1, h2⟩ := hm
  obtain ⟨i, hi, he⟩ := List.getElem_of_mem h1
  refine ⟨i, hi, ?_, ?_⟩
  · rw [lo_getElem hi, lo_getElem hq]; exact he
  · rw [lo_getElem hi, he]
    rw [del_bl] at h2
    simpa using h2
/-- all segments are above 0 -/
def Segs (l : List Lo) (k : Nat) : Prop := ∀ j, j < k → 1 ≤ (lo l j).1.toInt
theorem none_below {lim : Nat} {l : List Lo} (hs : Segs l l.length) (h : IsVic (mayL [] lim l) 0) {i : Nat} (hi : i < l.length) : blB lim (lo l i) = false := by
  cases hb : blB lim (lo l i) with
  | false => rfl
  | true =>
    obtain ⟨q, hq, he⟩ := mem_may hi hb
    rcases h with ⟨h1, -⟩ | ⟨k, hk, h1, -⟩
    · rw [h1] at hq; simp at hq
    · obtain ⟨j, hj, he2, -⟩ := may_mem hk
      have := hs j hj
      rw [he2] at this; omega
def cand (lim : Nat) (v : Int) (x : Lo) : Prop := x.1.toInt = v ∧ blB lim x = true
/-- the least so far of a segment's -/
def Kst (l : List Lo) (lim : Nat) (v : Int) (i : Nat) (k : Int) : Prop := (k = -1 ∧ ∀ j, j < i → ¬ cand lim v (lo l j)) ∨ ∃ q : Nat, k = q ∧ q < i ∧ cand lim v (lo l q) ∧ ∀ j, j < i → cand lim v (lo l j) → Flo.pl (shN (lo l q)) ≤ Flo.pl (shN (lo l j))
theorem Kst.pass {l : List Lo} {lim : Nat} {v : Int} {i : Nat} {k : Int} (h : Kst l lim v i k) (hc : ¬ cand lim v (lo l i)) : Kst l lim v (i + 1) k := by
  rcases h with ⟨h1, h2⟩ | ⟨q, h1, h2, h3, h4⟩
  · refine .inl ⟨h1, fun j hj => ?_⟩
    rcases Nat.lt_or_ge j i with h | h
    · exact h2 j h
    · rwa [show j = i by omega]
  · refine .inr ⟨q, h1, by omega, h3, fun j hj hcj => ?_⟩
    rcases Nat.lt_or_ge j i with h | h
    · exact h4 j h hcj
    · rw [show j = i by omega] at hcj; exact absurd hcj hc
theorem Kst.first {l : List Lo} {lim : Nat} {v : Int} {i : Nat} (h : Kst l lim v i (-1)) (hc : cand lim v (lo l i)) : Kst l lim v (i + 1) i := by
  rcases h with ⟨-, h2⟩ | ⟨q, h1, -⟩
  · refine .inr ⟨i, rfl, by omega, hc, fun j hj hcj => ?_⟩
    rcases Nat.lt_or_ge j i with h | h
    · exact absurd hcj (h2 j h)
    · rw [show j = i by omega]; exact Int.le_refl _
  · omega
theorem Kst.less {l : List Lo} {lim : Nat} {v : Int} {i q : Nat} (h : Kst l lim v i q) (hc : cand lim v (lo l i)) (hl : Flo.pl (shN (lo l i)) < Flo.pl (shN (lo l q))) : Kst l lim v (i + 1) i := by
  rcases h with ⟨h1, -⟩ | ⟨q', h1, h2, h3, h4⟩
  · omega
  · obtain rfl : q = q' := by omega
    refine .inr ⟨i, rfl, by omega, hc, fun j hj hcj => ?_⟩
    rcases Nat.lt_or_ge j i with h | h
    · have := h4 j h hcj; omega
    · rw [show j = i by omega]; exact Int.le_refl _
theorem Kst.keep {l : List Lo} {lim : Nat} {v : Int} {i q : Nat} (h : Kst l lim v i q) (hl : ¬ Flo.pl (shN (lo l i)) < Flo.pl (shN (lo l q))) : Kst l lim v (i + 1) q := by
  rcases h with ⟨h1, -⟩ | ⟨q', h1, h2, h3, h4⟩
  · omega
  · obtain rfl : q = q' := by omega
    refine .inr ⟨q, rfl, by omega, h3, fun j hj hcj => ?_⟩
    rcases Nat.lt_or_ge j i with h | h
    · exact h4 j h hcj
    · rw [show j = i by omega]; omega
theorem Kst.some {l : List Lo} {lim : Nat} {v : Int} {k : Int} (h : Kst l lim v l.length k) (hv : IsVic (mayL [] lim l) v) (h0 : v ≠ 0) : ∃ q : Nat, k = q ∧ q < l.length ∧ cand lim v (lo l q) ∧ ∀ i, i < l.length → blB lim (lo l i) = true → Flo.pl (shN (lo l q)) ≤ Flo.pl (shN (lo l i)) := by
  rcases hv with ⟨-, h1⟩ | ⟨p, hp, hpv, h1, -⟩
  · exact absurd h1 h0
  · obtain ⟨j, hj, he, hb⟩ := may_mem hp
    have hcj : cand lim v (lo l j) := ⟨by rw [he]; exact hpv.symm, hb⟩
    rcases h with ⟨-, h2⟩ | ⟨q, h2, h3, h4, h5⟩
    · exact absurd hcj (h2 j hj)
    · refine ⟨q, h2, h3, h4, fun i hi hbi => ?_⟩
      obtain ⟨p', hp', he'⟩ := mem_may hi hbi
      have e1 := h5 j hj hcj
      have e2 := h1 p' hp'
      rw [he'] at e2
      rw [he] at e1
      omega
/-- none has a lesser share -/
theorem least_share {l : List Lo} {lim : Nat} {q i : Nat} {r r' : Nat} (hlim : lim < 18446744073709551616) (hq : blB lim (lo l q) = true) (hall : blB lim (lo l i) = true → Flo.pl (shN (lo l q)) ≤ Flo.pl (shN (lo l i)))
    (hi : IsShare (floatOfInt .f64 (lo l i).2.2.toInt) (floatOfInt .f64 (lo l i).2.1.toInt) r) (hi' : IsShare (floatOfInt .f64 (lo l q).2.2.toInt) (floatOfInt .f64 (lo l q).2.1.toInt) r') : ¬ Flo.ordN r r' < 0 := by
  have e := bl_share hq hi'
  have o' := below_of hi' hlim
  have o := below_of hi hlim
  rw [show belowB (floatOfInt .f64 (lo l q).2.2.toInt) (floatOfInt .f64 (lo l q).2.1.toInt) lim = true from hq] at o'
  rw [ordN_lt]
  cases hb : blB lim (lo l i) with
  | true =>
    have e2 := bl_share hb hi
    have := hall hb
    rw [e, e2]; omega
  | false =>
    rw [show belowB (floatOfInt .f64 (lo l i).2.2.toInt) (floatOfInt .f64 (lo l i).2.1.toInt) lim = false from hb] at o
    have := pl_le o' o
    omega
end Go.Proofs.Ytkgbimkjpllakaa.Ld
