/- writes: what survives, how long a file may have been. Plain lists. -/
import Derived.Test.YtkgbimkjpllakaaWrEq
import Derived.Test.YtkgbimkjpllakaaWrKind
set_option linter.unusedVariables false
set_option linter.unusedSimpArgs false
namespace Go.Proofs.Ytkgbimkjpllakaa.Wr
open Go.Proofs.Ytkgbimkjpllakaa.B

theorem over_len_le (b : List UInt8) (off : Nat) (d : List UInt8) : (over (b ++ List.replicate (off + d.length - b.length) 0) off d).length = max b.length (off + d.length) := by
  unfold over
  simp only [List.length_append, List.length_take, List.length_drop, List.length_replicate]
  omega
theorem right_of {off : Int} {n : Nat} (h : rightB off n = true) : 0 ≤ off ∧ off + n ≤ 1048576 := by
  have : 0 ≤ off ∧ off ≤ 1048576 - (n : Int) := of_decide_eq_true h
  omega
/-- how long bytes may be behind a change -/
def peak1 (n : Nat) (cut : Bool) (off : Int) (k : Nat) : Nat := if rightB off k = true ∧ cut = false ∧ 0 < k then max n (off.toNat + k) else n
theorem applyL_peak (b : List UInt8) (cut : Bool) (off : Int) (d : List UInt8) : (applyL b cut off d).length ≤ peak1 b.length cut off d.length := by
  unfold applyL peak1
  by_cases h : rightB off d.length = false ∨ (cut = false ∧ d = [])
  · rw [if_pos h]; split <;> omega
  · rw [if_neg h]
    have hr : rightB off d.length = true := by
      cases hh : rightB off d.length with
      | true => rfl
      | false => exact absurd (.inl hh) h
    cases cut with
    | true => rw [if_pos rfl, if_neg (by simp), List.length_take]; omega
    | false =>
      have hd : 0 < d.length := by
        rcases Nat.eq_zero_or_pos d.length with h0 | h0
        · exact absurd (.inr ⟨rfl, List.length_eq_zero_iff.1 h0⟩) h
        · exact h0
      rw [if_neg (by decide), if_pos ⟨hr, rfl, hd⟩, over_len_le]; exact Nat.le_refl _
theorem peak1_mono {m n : Nat} (h : m ≤ n) (cut : Bool) (off : Int) (k : Nat) : peak1 m cut off k ≤ peak1 n cut off k := by
  unfold peak1; split <;> omega
theorem peak1_ge (n : Nat) (cut : Bool) (off : Int) (k : Nat) : n ≤ peak1 n cut off k := by unfold peak1; split <;> omega
theorem peak1_le (n : Nat) (cut : Bool) (off : Int) (k : Nat) : peak1 n cut off k ≤ max n 1048576 := by
  unfold peak1; split
  · rename_i h; have := right_of h.1; omega
  · omega
theorem applyL_len (b : List UInt8) (cut : Bool) (off : Int) (d : List UInt8) : (applyL b cut off d).length ≤ max b.length 1048576 :=
  Nat.le_trans (applyL_peak b cut off d) (peak1_le _ _ _ _)
def stepL (b : List UInt8) (x : Wt) : List UInt8 := applyL b x.1 x.2.1.toInt x.2.2
/-- bytes behind all changes -/
def allL (b : List UInt8) (l : List Wt) : List UInt8 := l.foldl stepL b
theorem allL_len (b : List UInt8) (l : List Wt) : (allL b l).length ≤ max b.length 1048576 := by
  induction l generalizing b with
  | nil => exact Nat.le_max_left _ _
  | cons x l ih =>
    have h1 := ih (stepL b x)
    have h2 := applyL_len b x.1 x.2.1.toInt x.2.2
    show (allL (stepL b x) l).length ≤ _
    unfold stepL at h1 ⊢
    omega
theorem allL_next {b : List UInt8} {l : List Wt} {k : Nat} (h : k < l.length) : allL b (l.take (k + 1)) = stepL (allL b (l.take k)) (wt l k) := by
  unfold allL wt
  rw [List.take_succ_eq_append_getElem h, List.foldl_append]
  simp [h]
/-- what of a change's bytes survives -/
def someL (c : UInt8) (d : List UInt8) : List UInt8 := if c.toNat < 255 ∧ c.toNat < d.length then d.take c.toNat else d
/-- bytes behind what survives of a change -/
def survStep (b : List UInt8) (c : UInt8) (x : Wt) : List UInt8 := if c = 0 ∨ rightB x.2.1.toInt x.2.2.length = false then b else applyL b x.1 x.2.1.toInt (someL c x.2.2)
def survL (b : List UInt8) (l : List Wt) (ch : List UInt8) : List UInt8 := (l.zip ch).foldl (fun b p => survStep b p.2 p.1) b
theorem someL_le (c : UInt8) (d : List UInt8) : (someL c d).length ≤ d.length := by
  unfold someL; split
  · rw [List.length_take]; omega
  · exact Nat.le_refl _
theorem survStep_peak (b : List UInt8) (c : UInt8) (x : Wt) : (survStep b c x).length ≤ peak1 b.length x.1 x.2.1.toInt x.2.2.length := by
  unfold survStep
  by_cases h : c = 0 ∨ rightB x.2.1.toInt x.2.2.length = false
  · rw [if_pos h]; exact peak1_ge _ _ _ _
  · rw [if_neg h]
    refine Nat.le_trans (applyL_peak _ _ _ _) ?_
    have hr : rightB x.2.1.toInt x.2.2.length = true := by
      cases hh : rightB x.2.1.toInt x.2.2.length with
      | true => rfl
      | false => exact absurd (.inr hh) h
    have hs := someL_le c x.2.2
    unfold peak1
    split
    · rename_i h1
      rw [if_pos ⟨hr, h1.2.1, by omega⟩]; omega
    · split <;> omega
/-- how long bytes may have been -/
def peakL (n : Nat) (l : List Wt) : Nat := l.foldl (fun n x => peak1 n x.1 x.2.1.toInt x.2.2.length) n
theorem peakL_ge : ∀ (l : List Wt) (n : Nat), n ≤ peakL n l
  | [], n => Nat.le_refl _
  | x :: l, n => Nat.le_trans (peak1_ge _ _ _ _) (peakL_ge l _)
theorem peakL_mono : ∀ (l : List Wt) {m n : Nat}, m ≤ n → peakL m l ≤ peakL n l
  | [], _, _, h => h
  | x :: l, _, _, h => peakL_mono l (peak1_mono h _ _ _)
theorem peakL_le (l : List Wt) (n : Nat) : peakL n l ≤ max n 1048576 := by
  induction l generalizing n with
  | nil => exact Nat.le_max_left _ _
  | cons x l ih =>
    have h1 := ih (peak1 n x.1 x.2.1.toInt x.2.2.length)
    have h2 := peak1_le n x.1 x.2.1.toInt x.2.2.length
    show peakL (peak1 n x.1 x.2.1.toInt x.2.2.length) l ≤ _
    omega
theorem peakL_next {n : Nat} {l : List Wt} {k : Nat} (h : k < l.length) : peakL n (l.take (k + 1)) = peak1 (peakL n (l.take k)) (wt l k).1 (wt l k).2.1.toInt (wt l k).2.2.length := by
  unfold peakL wt
  rw [List.take_succ_eq_append_getElem h, List.foldl_append]
  simp [h]
theorem allL_peak (l : List Wt) : ∀ (b : List UInt8) (n k : Nat), b.length ≤ n → (allL b (l.take k)).length ≤ peakL n l := by
  induction l with
  | nil => intro b n k h; simpa [allL, peakL] using h
  | cons x l ih =>
    intro b n k h
    cases k with
    | zero => exact Nat.le_trans h (peakL_ge _ _)
    | succ k =>
      exact ih (stepL b x) (peak1 n x.1 x.2.1.toInt x.2.2.length) k (Nat.le_trans (applyL_peak _ _ _ _) (peak1_mono h _ _ _))
theorem survL_peak (l : List Wt) : ∀ (b : List UInt8) (ch : List UInt8) (n k : Nat), b.length ≤ n → (survL b (l.take k) ch).length ≤ peakL n l := by
  induction l with
  | nil => intro b ch n k h; simpa [survL, peakL] using h
  | cons x l ih =>
    intro b ch n k h
    cases k with
    | zero => exact Nat.le_trans (by simpa [survL] using h) (peakL_ge _ _)
    | succ k =>
      cases ch with
      | nil => exact Nat.le_trans (by simpa [survL] using h) (peakL_ge _ _)
      | cons c ch => exact ih (survStep b c x) ch (peak1 n x.1 x.2.1.toInt x.2.2.length) k (Nat.le_trans (survStep_peak _ _ _) (peak1_mono h _ _ _))
theorem survL_len (b : List UInt8) (l : List Wt) (ch : List UInt8) : (survL b l ch).length ≤ max b.length 1048576 := by
  have h1 := survL_peak l b ch b.length l.length (Nat.le_refl _)
  rw [List.take_length] at h1
  exact Nat.le_trans h1 (peakL_le _ _)
theorem survL_nil (b : List UInt8) (l : List Wt) : survL b l [] = b := by simp [survL]
theorem survL_all : ∀ (l : List Wt) (b : List UInt8), survL b l (List.replicate l.length 255) = allL b l
  | [], b => rfl
  | x :: l, b => by
    show survL (survStep b 255 x) l (List.replicate l.length 255) = allL (stepL b x) l
    rw [survL_all l]
    congr 1
    unfold survStep stepL someL
    have e : applyL b x.1 x.2.1.toInt x.2.2 = if rightB x.2.1.toInt x.2.2.length = false then b else applyL b x.1 x.2.1.toInt x.2.2 := by
      split
      · rename_i h; unfold applyL; rw [if_pos (.inl h)]
      · rfl
    rw [if_neg (show ¬ ((255 : UInt8).toNat < 255 ∧ (255 : UInt8).toNat < x.2.2.length) by rintro ⟨h, -⟩; exact absurd h (by decide))]
    rw [e]
    by_cases h : rightB x.2.1.toInt x.2.2.length = false
    · rw [if_pos (.inr h), if_pos h]
    · rw [if_neg h, if_neg (by simpa using h)]
theorem survL_next {b : List UInt8} {l : List Wt} {ch : List UInt8} {k : Nat} (h : k < l.length) (hc : k < ch.length) : survL b (l.take (k + 1)) (ch.take (k + 1)) = survStep (survL b (l.take k) (ch.take k)) (ch.getD k 0) (wt l k) := by
  unfold survL wt
  rw [List.take_succ_eq_append_getElem h, List.take_succ_eq_append_getElem hc, List.zip_append (by simp; omega), List.foldl_append]
  simp [h, hc]
theorem zip_take_le {α β : Type} : ∀ (l : List α) (ch : List β) (k : Nat), ch.length ≤ k → (l.take k).zip ch = l.zip ch
  | [], ch, k, _ => by simp
  | x :: l, [], k, _ => by simp
  | x :: l, c :: ch, 0, h => by simp at h
  | x :: l, c :: ch, k + 1, h => by simp [zip_take_le l ch k (by simpa using h)]
theorem zip_take_ge {α β : Type} : ∀ (l : List α) (ch : List β) (k : Nat), l.length ≤ k → l.zip (ch.take k) = l.zip ch
  | [], ch, k, _ => by simp
  | x :: l, [], k, _ => by simp
  | x :: l, c :: ch, 0, h => by simp at h
  | x :: l, c :: ch, k + 1, h => by simp [zip_take_ge l ch k (by simpa using h)]
theorem survL_stay {b : List UInt8} {l : List Wt} {ch : List UInt8} {k : Nat} (h : ch.length ≤ k) : survL b (l.take k) (ch.take k) = survL b l ch := by
  unfold survL
  rw [List.take_of_length_le h, zip_take_le l ch k h]
theorem survL_full {b : List UInt8} {l : List Wt} {ch : List UInt8} {k : Nat} (h : l.length ≤ k) : survL b (l.take k) (ch.take k) = survL b l ch := by
  unfold survL
  rw [List.take_of_length_le h, zip_take_ge l ch k h]
end Go.Proofs.Ytkgbimkjpllakaa.Wr
