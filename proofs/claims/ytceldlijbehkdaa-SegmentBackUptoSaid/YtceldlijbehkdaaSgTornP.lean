/- segments: a first part of bytes has a first part of what is found, in plain. -/
import Derived.Test.YtceldlijbehkdaaSgScan
set_option linter.unusedVariables false
set_option linter.unusedSimpArgs false
namespace Go.Proofs.Ytceldlijbehkdaa.Sg
open Go.RowKit Go.Proofs.YtceldlijbehkdaaW.PrintWords Go.Proofs.Ytceldlijbehkdaa.B Go.Proofs.Ytceldlijbehkdaa.Fx Go.Proofs.Ytceldlijbehkdaa.Fr Go.Proofs.Ytceldlijbehkdaa.O Go.Proofs.Ytceldlijbehkdaa.Rc Go.Proofs.Ytceldlijbehkdaa.Bt
theorem pErrX_cut {x t : List UInt8} (h : pErrX (x ++ t) = 0) (hl : 21 + fn (x ++ t) ≤ x.length) : pErrX x = 0 := by
  obtain ⟨h1, h2, h3, h4, h5, h6⟩ := pErrX_ok h
  have e1 : fk (x ++ t) = fk x := by unfold fk; rw [List.take_append_of_le_length (by omega)]
  have e3 : fn (x ++ t) = fn x := by unfold fn; rw [List.drop_append_of_le_length (by omega), List.take_append_of_le_length (by rw [List.length_drop]; omega)]
  rw [e3] at h4 h5 h6 hl
  rw [e1] at h3
  rw [List.take_append_of_le_length (by omega)] at h2 h6
  unfold pErrX
  rw [if_neg (by omega), h2, if_neg (by decide), if_neg (by omega), if_neg (by omega), h6, if_neg (by decide)]
theorem rec_cut {b t : List UInt8} {p : Int} (h : recE (b ++ t) p = 0) (hl : pEnd (b ++ t) p ≤ (b.length : Int)) : recE b p = 0 := by
  have h1 := rec_p h
  obtain ⟨p1, p2, p3⟩ := pErr_ok h1
  have h5 := (pErrX_ok p3).2.2.2.2.1
  have he : pEnd (b ++ t) p = p + 21 + fn ((b ++ t).drop p.toNat) := by unfold pEnd; rw [if_pos h1]
  have hdr : (b ++ t).drop p.toNat = b.drop p.toNat ++ t := List.drop_append_of_le_length (by omega)
  have h6 : pErrX (b.drop p.toNat) = 0 := by
    rw [hdr] at p3 he
    exact pErrX_cut p3 (by rw [List.length_drop]; omega)
  have q1 : pErr b p = 0 := by
    unfold pErr
    rw [if_neg (by omega)]; exact h6
  obtain ⟨x1, x2, x3, x4⟩ := pErrX_app (t := t) h6
  have h7 := (pErrX_ok h6).2.2.2.2.1
  have q2 : pKind (b ++ t) p = pKind b p := by unfold pKind; rw [if_pos q1, if_pos h1, hdr, x2]
  have q4 : pData (b ++ t) p = pData b p := by
    unfold pData
    rw [if_pos q1, if_pos h1, hdr, x4, List.drop_append_of_le_length (by omega), List.take_append_of_le_length (by rw [List.length_drop]; omega)]
  unfold recE at h ⊢
  rw [if_neg (by rw [h1]; decide), q2, q4] at h
  rw [if_neg (by rw [q1]; decide)]
  exact h
theorem parF_cut (b t : List UInt8) (frm sg : Int) : ∀ (F f : Nat) (p : Int) (o : List Wd), (parF (b ++ t) frm sg F p o).2.2.2 = 0 → (parF (b ++ t) frm sg F p o).2.1 ≤ (b.length : Int) → b.length < f + p.toNat → parF b frm sg f p o = parF (b ++ t) frm sg F p o
  | 0, f, p, o, h, _, _ => by simp [parF] at h
  | F + 1, f, p, o, h, hl, hf => by
    by_cases h1 : recE (b ++ t) p = 0
    · have hri := rec_in h1
      by_cases h2 : (o.length = 0 ∧ mayB (pKind (b ++ t) p) = false) ∨ (o.length ≠ 0 ∧ (pSeq (b ++ t) p = 0 ∨ pSeq (b ++ t) p - 1 ≠ lastS o))
      · rw [parF_seq h1 h2] at h; simp at h
      · cases h3 : mayB (pKind (b ++ t) p)
        · by_cases h4 : (pKind (b ++ t) p : Int) = 6 ∧ nF (pKind (b ++ t) p) (pData (b ++ t) p) = (o.length : Int) ∧ zF (pKind (b ++ t) p) (pData (b ++ t) p) = p - frm
          · rw [parF_end h1 h2 h3 h4] at hl ⊢
            have hl2 : pEnd (b ++ t) p ≤ (b.length : Int) := hl
            have hc := rec_cut h1 hl2
            obtain ⟨-, r2, r3, r4, r5⟩ := rec_app (t := t) hc
            obtain ⟨f, rfl⟩ : ∃ g, f = g + 1 := ⟨f - 1, by omega⟩
            rw [r2, r3] at h2
            rw [r2] at h3
            rw [r2, r4] at h4
            rw [parF_end hc h2 h3 h4, r5, r3]
          · rw [parF_no h1 h2 h3 h4] at h; simp at h
        · rw [parF_go h1 h2 h3] at h hl ⊢
          obtain ⟨i1, i2, i3, i4, i5, i6⟩ := parF_ok _ _ _ _ _ _ h
          rw [List.length_append, List.length_singleton] at i3 i6
          have hl2 : pEnd (b ++ t) p ≤ (b.length : Int) := by omega
          have hc := rec_cut h1 hl2
          obtain ⟨-, r2, r3, r4, r5⟩ := rec_app (t := t) hc
          obtain ⟨f, rfl⟩ : ∃ g, f = g + 1 := ⟨f - 1, by omega⟩
          rw [r2, r3] at h2
          rw [r2] at h3
          rw [parF_go hc h2 h3, ← r5, ← wdOf_app (t := t) sg hc]
          exact parF_cut b t frm sg F f _ _ h hl (by omega)
    · rw [parF_err h1] at h; exact absurd h h1
theorem parL_may {b : List UInt8} {p n : Int} (h : (parL b p n).2.2.2 = 0) : isFoot b p = false := by
  unfold parL at h
  have hk : recE b p = 0 → mayB (pKind b p) = true := by
    intro h1
    cases h3 : mayB (pKind b p)
    · rw [parF_seq h1 (Or.inl ⟨rfl, h3⟩)] at h; simp at h
    · rfl
  refine decide_eq_false (fun q => ?_)
  have h5 := of_decide_eq_true (hk q.1)
  omega
theorem parL_app {b t : List UInt8} {p n : Int} (h : (parL b p n).2.2.2 = 0) : parL (b ++ t) p n = parL b p n := by
  have h1 := (parF_app b t p n (b.length + 1) t.length p [] h).1
  unfold parL
  rw [List.length_append, show b.length + t.length + 1 = b.length + 1 + t.length by omega]
  exact h1
theorem parL_cut {b t : List UInt8} {p n : Int} (h : (parL (b ++ t) p n).2.2.2 = 0) (hl : (parL (b ++ t) p n).2.1 ≤ (b.length : Int)) : parL b p n = parL (b ++ t) p n := by
  unfold parL at h hl ⊢
  exact parF_cut b t p n _ _ _ _ h hl (by omega)
theorem foot_ws (b : List UInt8) (x : Sc) : (footS b x).ws = x.ws := by
  unfold footS
  split
  · rfl
  · split <;> rfl
/-- what is found grows -/
theorem scanF_ext (b : List UInt8) (n : Int) : ∀ (f : Nat) (x : Sc), x.ws <+: (scanF b n f x).ws
  | 0, x => List.prefix_refl _
  | f + 1, x => by
    by_cases hx : (b.length : Int) ≤ x.en
    · rw [scanF_end hx]; exact List.prefix_refl _
    · cases hf : isFoot b x.en
      · by_cases h3 : (parL b x.en n).2.2.2 = 0
        · by_cases h4 : (wd (parL b x.en n).1 0).s ≤ x.q
          · rw [scanF_seq hx hf h3 h4]; exact List.prefix_refl _
          · rw [scanF_go hx hf h3 h4]
            have hh := scanF_ext b n f ⟨x.ws ++ (parL b x.en n).1, (parL b x.en n).2.2.1, (parL b x.en n).2.1, false, (parL b x.en n).2.1, 0⟩
            exact (List.prefix_append x.ws _).trans hh
        · rw [scanF_err hx hf h3]; exact List.prefix_refl _
      · rw [scanF_foot hx hf, foot_ws]; exact List.prefix_refl _
/-- where it ends -/
theorem scanF_en (b : List UInt8) (n : Int) : ∀ (f : Nat) (x : Sc), x.en ≤ (b.length : Int) → x.en ≤ (scanF b n f x).en ∧ (scanF b n f x).en ≤ (b.length : Int)
  | 0, x, h => ⟨Int.le_refl _, h⟩
  | f + 1, x, h => by
    by_cases hx : (b.length : Int) ≤ x.en
    · rw [scanF_end hx]; exact ⟨Int.le_refl _, h⟩
    · cases hf : isFoot b x.en
      · by_cases h3 : (parL b x.en n).2.2.2 = 0
        · by_cases h4 : (wd (parL b x.en n).1 0).s ≤ x.q
          · rw [scanF_seq hx hf h3 h4]; exact ⟨Int.le_refl _, h⟩
          · rw [scanF_go hx hf h3 h4]
            obtain ⟨o1, o2, o3, o4, -⟩ := parL_ok h3
            obtain ⟨i1, i2⟩ := scanF_en b n f ⟨x.ws ++ (parL b x.en n).1, (parL b x.en n).2.2.1, (parL b x.en n).2.1, false, (parL b x.en n).2.1, 0⟩ o4
            exact ⟨by have h5 : (parL b x.en n).2.1 ≤ _ := i1; omega, i2⟩
        · rw [scanF_err hx hf h3]; exact ⟨Int.le_refl _, h⟩
      · rw [scanF_foot hx hf]
        unfold footS
        rw [if_neg (by simp [hf])]
        have hr := rec_in (of_decide_eq_true hf).1
        split
        · exact ⟨by show x.en ≤ pEnd b x.en; omega, hr.2.2⟩
        · exact ⟨Int.le_refl _, h⟩
theorem scanL_en (b : List UInt8) (n : Int) : (scanL b n).en ≤ (b.length : Int) ∧ 0 ≤ (scanL b n).en := by
  unfold scanL
  split
  · rename_i h
    unfold begS at h ⊢
    split
    · exact ⟨by show (0 : Int) ≤ _; omega, Int.le_refl _⟩
    · rename_i h1
      rw [if_neg h1] at h
      split
      · rename_i h2; rw [if_pos h2] at h; simp at h
      · exact ⟨by show (0 : Int) ≤ _; omega, Int.le_refl _⟩
  · rename_i h
    obtain ⟨h1, h2, h3, -, -⟩ := begS_ok (b := b) (n := n) (by simpa using h)
    obtain ⟨i1, i2⟩ := scanF_en b n (b.length + 1) (begS b n) h2
    exact ⟨i2, by omega⟩
theorem begS_app {b t : List UInt8} {n : Int} (h : (begS b n).er = 0) : begS (b ++ t) n = begS b n := by
  unfold begS at h
  split at h
  · rename_i h1; exact absurd h h1
  · rename_i h1
    obtain ⟨r1, r2, r3, r4, r5⟩ := rec_app (t := t) (show recE b 0 = 0 by simpa using h1)
    unfold begS
    rw [if_neg h1, if_neg (by simp [r1]), r2, r3, r4, r5]
theorem begS_cut {b t : List UInt8} {n : Int} (h : (begS (b ++ t) n).er = 0) (hl : (begS (b ++ t) n).en ≤ (b.length : Int)) : begS b n = begS (b ++ t) n := by
  have hb : (begS b n).er = 0 := by
    unfold begS at h hl
    split at h
    · rename_i h1; exact absurd h h1
    · rename_i h1
      rw [if_neg h1] at hl
      split at h
      · rename_i h2
        rw [if_pos h2] at hl
        have h0 : recE (b ++ t) 0 = 0 := by simpa using h1
        have hc := rec_cut h0 hl
        obtain ⟨r1, r2, r3, r4, r5⟩ := rec_app (t := t) hc
        unfold begS
        rw [r2, r4] at h2
        rw [if_neg (by simp [hc]), if_pos h2]
      · simp at h
  exact (begS_app hb).symm
/-- a first part has a first part of what is found -/
theorem scanF_app (p t : List UInt8) (n : Int) : ∀ (f g : Nat) (x : Sc), f ≤ g → (scanF p n f x).ws <+: (scanF (p ++ t) n g x).ws
  | 0, g, x, _ => scanF_ext _ n g x
  | f + 1, g, x, hg => by
    by_cases hx : (p.length : Int) ≤ x.en
    · rw [scanF_end hx]; exact scanF_ext _ n g x
    · cases hf : isFoot p x.en
      · by_cases h3 : (parL p x.en n).2.2.2 = 0
        · by_cases h4 : (wd (parL p x.en n).1 0).s ≤ x.q
          · rw [scanF_seq hx hf h3 h4]; exact scanF_ext _ n g x
          · obtain ⟨g, rfl⟩ : ∃ k, g = k + 1 := ⟨g - 1, by omega⟩
            have ha := parL_app (t := t) h3
            have h3' : (parL (p ++ t) x.en n).2.2.2 = 0 := by rw [ha]; exact h3
            rw [scanF_go hx hf h3 h4, scanF_go (by rw [List.length_append]; omega) (parL_may h3') h3' (by rw [ha]; exact h4), ha]
            exact scanF_app p t n f g _ (by omega)
        · rw [scanF_err hx hf h3]; exact scanF_ext _ n g x
      · rw [scanF_foot hx hf, foot_ws]; exact scanF_ext _ n g x
theorem scanL_app (p t : List UInt8) (n : Int) : (scanL p n).ws <+: (scanL (p ++ t) n).ws := by
  by_cases h : (begS p n).er = 0
  · have hb := begS_app (t := t) h
    unfold scanL
    rw [hb, if_neg (by simp [h]), if_neg (by simp [h])]
    exact scanF_app p t n _ _ _ (by rw [List.length_append]; omega)
  · have h2 : (scanL p n).ws = [] := by
      unfold scanL
      rw [if_pos h]
      unfold begS at h ⊢
      split
      · rfl
      · split <;> rfl
    rw [h2]; exact List.nil_prefix
/-- alone, when the rest is cut off -/
theorem scanF_alone (p : List UInt8) (n : Int) : ∀ (f g : Nat) (x : Sc) (p' t : List UInt8), p = p' ++ t → (p'.length : Int) = (scanF p n f x).en → 0 ≤ x.en → x.en ≤ (p.length : Int) → x.er = 0 → p'.length < g + x.en.toNat →
    (scanF p' n g x).ws = (scanF p n f x).ws ∧ (scanF p' n g x).q = (scanF p n f x).q ∧ (scanF p' n g x).en = (scanF p n f x).en ∧ (scanF p' n g x).er = 0
  | 0, g, x, p', t, hp, hl, h0, hx, he, hg => by
    have hs : scanF p' n g x = x := by
      cases g with
      | zero => rfl
      | succ g => exact scanF_end (by rw [hl]; exact Int.le_refl _)
    rw [hs]; exact ⟨rfl, rfl, rfl, he⟩
  | f + 1, g, x, p', t, hp, hl, h0, hxl, he, hg => by
    have stop : (p'.length : Int) = x.en → scanF p' n g x = x := by
      intro hh
      cases g with
      | zero => rfl
      | succ g => exact scanF_end (by rw [hh]; exact Int.le_refl _)
    by_cases hx : (p.length : Int) ≤ x.en
    · rw [scanF_end hx] at hl ⊢
      rw [stop hl]; exact ⟨rfl, rfl, rfl, he⟩
    · cases hf : isFoot p x.en
      · by_cases h3 : (parL p x.en n).2.2.2 = 0
        · by_cases h4 : (wd (parL p x.en n).1 0).s ≤ x.q
          · rw [scanF_seq hx hf h3 h4] at hl ⊢
            rw [stop hl]; exact ⟨rfl, rfl, rfl, he⟩
          · rw [scanF_go hx hf h3 h4] at hl ⊢
            obtain ⟨o1, o2, o3, o4, -⟩ := parL_ok h3
            obtain ⟨i1, i2⟩ := scanF_en p n f ⟨x.ws ++ (parL p x.en n).1, (parL p x.en n).2.2.1, (parL p x.en n).2.1, false, (parL p x.en n).2.1, 0⟩ o4
            have i1' : (parL p x.en n).2.1 ≤ (p'.length : Int) := by rw [hl]; exact i1
            obtain ⟨g, rfl⟩ : ∃ k, g = k + 1 := ⟨g - 1, by omega⟩
            have hc : parL p' x.en n = parL p x.en n := by
              rw [hp] at h3 i1' ⊢
              exact parL_cut h3 i1'
            have h3' : (parL p' x.en n).2.2.2 = 0 := by rw [hc]; exact h3
            rw [scanF_go (b := p') (by omega) (parL_may h3') h3' (by rw [hc]; exact h4), hc]
            exact scanF_alone p n f g _ p' t hp hl (by show 0 ≤ (parL p x.en n).2.1; omega) o4 rfl (by show p'.length < g + ((parL p x.en n).2.1).toNat; omega)
        · rw [scanF_err hx hf h3] at hl ⊢
          rw [stop hl]; exact ⟨rfl, rfl, rfl, he⟩
      · rw [scanF_foot hx hf] at hl ⊢
        by_cases hgf : goodFoot p x = true
        · have hq := of_decide_eq_true hgf
          have hfs : footS p x = ⟨x.ws, pSeq p x.en, pEnd p x.en, true, pEnd p x.en, x.er⟩ := by unfold footS; rw [if_neg (by simp [hf]), if_pos hgf]
          have hpl : p'.length = p.length := by rw [hfs] at hl; have h5 : (p'.length : Int) = pEnd p x.en := hl; omega
          have ht : t = [] := by
            rw [hp, List.length_append] at hpl
            exact List.eq_nil_of_length_eq_zero (by omega)
          have hpp : p' = p := by rw [hp, ht, List.append_nil]
          obtain ⟨g, rfl⟩ : ∃ k, g = k + 1 := ⟨g - 1, by omega⟩
          rw [hpp, scanF_foot hx hf, hfs]
          exact ⟨rfl, rfl, rfl, he⟩
        · have hfs : footS p x = ⟨x.ws, x.q, x.en, x.sl, x.at_, 3⟩ := by unfold footS; rw [if_neg (by simp [hf]), if_neg hgf]
          rw [hfs] at hl ⊢
          rw [stop hl]; exact ⟨rfl, rfl, rfl, he⟩
theorem scanL_alone {p p' t : List UInt8} {n : Int} (hp : p = p' ++ t) (hl : (p'.length : Int) = (scanL p n).en) (h0 : (scanL p n).en ≠ 0) :
    (scanL p' n).er = 0 ∧ (scanL p' n).en = (scanL p n).en ∧ (scanL p' n).ws = (scanL p n).ws ∧ (scanL p' n).q = (scanL p n).q := by
  by_cases h : (begS p n).er = 0
  · obtain ⟨b1, b2, b3, b4, b5⟩ := begS_ok h
    have hs : scanL p n = scanF p n (p.length + 1) (begS p n) := by unfold scanL; rw [if_neg (by simp [h])]
    rw [hs] at hl h0 ⊢
    obtain ⟨i1, i2⟩ := scanF_en p n (p.length + 1) (begS p n) b2
    have hb : begS p' n = begS p n := by
      rw [hp] at h i1 hl ⊢
      exact begS_cut h (by rw [hl]; exact i1)
    have hs' : scanL p' n = scanF p' n (p'.length + 1) (begS p n) := by unfold scanL; rw [hb, if_neg (by simp [h])]
    rw [hs']
    obtain ⟨j1, j2, j3, j4⟩ := scanF_alone p n (p.length + 1) (p'.length + 1) (begS p n) p' t hp hl (by omega) b2 h (by omega)
    exact ⟨j4, j3, j1, j2⟩
  · exfalso
    apply h0
    unfold scanL
    rw [if_pos h]
    unfold begS at h ⊢
    split
    · rfl
    · rename_i h1
      rw [if_neg h1] at h
      split
      · rename_i h2; rw [if_pos h2] at h; simp at h
      · rfl
end Go.Proofs.Ytceldlijbehkdaa.Sg
