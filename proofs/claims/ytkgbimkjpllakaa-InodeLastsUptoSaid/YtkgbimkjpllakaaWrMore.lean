/- writes: the walks of through for Survive, Survive; stillageref09.All, Survive. -/
import Derived.Test.YtkgbimkjpllakaaWrSurvW
import Derived.Deep.RegionHeld3
set_option linter.unusedVariables false
set_option linter.unusedSimpArgs false
namespace Go.Proofs.Ytkgbimkjpllakaa.Wr
open Go.RowKit Go.Proofs.YtkgbimkjpllakaaW.PrintWords Go.Proofs.Ytkgbimkjpllakaa.B

theorem surv_no {b : List UInt8} {l : List Wt} {ch : List UInt8} {k : Nat} (hk : k < l.length) (h : ch.length ≤ k ∨ ch.getD k 0 = 0 ∨ rightB (wt l k).2.1.toInt (wt l k).2.2.length = false) : survL b (l.take (k + 1)) (ch.take (k + 1)) = survL b (l.take k) (ch.take k) := by
  by_cases h1 : ch.length ≤ k
  · rw [survL_stay h1, survL_stay (by omega)]
  · rw [survL_next hk (by omega)]
    unfold survStep
    rw [if_pos (by rcases h with h | h | h; · exact absurd h h1
                   · exact .inl h
                   · exact .inr h)]
theorem surv_yes {b : List UInt8} {l : List Wt} {ch : List UInt8} {k : Nat} (hk : k < l.length) (h1 : k < ch.length) (h2 : ch.getD k 0 ≠ 0) (h3 : rightB (wt l k).2.1.toInt (wt l k).2.2.length = true) : survL b (l.take (k + 1)) (ch.take (k + 1)) = applyL (survL b (l.take k) (ch.take k)) (wt l k).1 (wt l k).2.1.toInt (someL (ch.getD k 0) (wt l k).2.2) := by
  rw [survL_next hk h1]
  unfold survStep
  rw [if_neg (by rintro (h | h); · exact h2 h
                 · rw [h3] at h; cases h)]
theorem someL_take (x : UInt8) (d : List UInt8) : ∃ m, m ≤ d.length ∧ someL x d = d.take m := by
  unfold someL; split
  · exact ⟨_, by omega, rfl⟩
  · exact ⟨d.length, Nat.le_refl _, (List.take_length).symm⟩
set_option maxRecDepth 100000 in
set_option maxHeartbeats 1600000 in
theorem through_surv (A : Option Addr) (c : Nat) (b : List UInt8) (A2 : Option Addr) (c2 : Nat) (l : List Wt) (g : Nat) (Ac : Option Addr) (cc : Nat) (ch : List UInt8) (w : World) (hl : b.length ≤ 140737488355000) (hc : b.length ≤ c) (hr : Rd w A b) (hr2 : RdW w A2 l) (hg : w.cell? ⟨g, 0, none⟩ = some (.slice Ac ch.length cc)) (hrc : Rd w Ac ch) :
    Calls Try.prog 44 #[.slice A b.length c, .slice A2 l.length c2, .func (.func 46) #[] #[.pointer (some ⟨g, 0, none⟩)]] w (Made w (survL b l ch)) := by
  have HR := Lib.hid hr
  have HR2 := Lib.hid hr2
  have HRC := Lib.hid hrc
  have HGC := Lib.hid hg
  have hll : l.length ≤ 9223372036854775807 := hr2.2.1
  clear hr hr2 hrc hg
  go_enter Try.func44, Try.ntmps44
  go_wp2_with fail
  refine (Cl.clone_any A c b w (by omega) HR.out).mono ?_
  rintro e w1 ⟨v1, rfl, hown, hb⟩
  have HO1 := Lib.hid hown
  have HB1 := Lib.hid hb
  clear hown hb
  go_wp2_with fail
  go_loopw [7, 16] (fun v i wr => ∃ k : Nat, k ≤ l.length ∧ i = .int .i64 k ∧ Hid (Own wr w.heap.size v (survL b (l.take k) (ch.take k))) ∧ Hid (Below w.heap.size w wr)) (fun _ i _ => l.length - (intOf i).toNat)
  case atStart => exact ⟨0, by omega, rfl, HO1, HB1⟩
  case round =>
    obtain ⟨k, hk, rfl, HO, HBk⟩ := hrel
    by_cases hlt : k < l.length
    · have HRk := Lib.hid (show RdW wr A2 l from Kd.C_below HR2.out HBk.out)
      have HGk := Lib.hid (pw_cell_below HBk.out HGC.out)
      have HCk := Lib.hid (HRC.out.below HBk.out)
      obtain ⟨ad, -, -, rfl, -⟩ := HRk.out.at_ k hlt
      obtain ⟨A3, c3, hdc, h2, e0, e1, e2⟩ := HRk.out.cells k hlt
      have hoff := Int64.toInt_lt (wt l k).2.1
      have hoff' := Int64.le_toInt (wt l k).2.1
      have hdl : (wt l k).2.2.length ≤ 9223372036854775807 := h2.len
      have HYL := survL_len b (l.take k) (ch.take k)
      have HNO := Lib.hid (surv_no (b := b) (ch := ch) hlt)
      have HYES := Lib.hid (surv_yes (b := b) (ch := ch) hlt)
      generalize (wt l k).1 = cu at *
      generalize (wt l k).2.1.toInt = off at *
      generalize (wt l k).2.2 = d at *
      obtain ⟨y, hy⟩ : ∃ y, y = survL b (l.take k) (ch.take k) := ⟨_, rfl⟩
      rw [← hy] at HYL HO HNO HYES
      have HRD := Lib.hid h2
      have hob : -9223372036854775808 ≤ off ∧ off ≤ 9223372036854775807 := by omega
      have hyb : y.length ≤ 140737488355000 := by omega
      obtain ⟨A4, c4, rfl, hc4, hr4⟩ := HO.out.reads
      have HRY := Lib.hid hr4
      clear h2 hy HYL hr4 hoff hoff'
      by_cases hno : ch.length ≤ k ∨ ch.getD k 0 = 0 ∨ rightB off d.length = false
      · have HN := Lib.hid (HNO.out hno)
        have HS := Lib.hid (fun (W : World) (hg : W.cell? ⟨g, 0, none⟩ = some (.slice Ac ch.length cc)) (hr : Rd W Ac ch) => surv1_no k cu off A3 c3 d g Ac cc ch W (by omega) hdl hob hg hr hno)
        clear hno
        go_wp2_with fail
        refine (HS.out _ (pw_cell_below (below_alloc (Below.refl _ _) _) HGk.out) (HCk.out.below (below_alloc (Below.refl _ _) _))).mono ?_
        rintro e w2 ⟨rfl, hb2⟩
        have HB2 := Lib.hid (below_then (below_alloc HBk.out _) (by have := HBk.out.size; simp <;> omega) hb2)
        have HO2 := Lib.hid ((HO.out.below (below_alloc (Below.refl _ _) _)).below hb2)
        clear hb2
        go_wp2_with fail
        go_roundw
        case rel => exact ⟨k + 1, by omega, by go_num, Lib.hid (by rw [HN.out]; exact HO2.out.below (below_alloc (Below.refl _ _) _)), Lib.hid (below_alloc HB2.out _)⟩
        case measure => simp [intOf]; omega
      · have h1 : k < ch.length := by omega
        have h2 : ch.getD k 0 ≠ 0 := fun h => hno (.inr (.inl h))
        have h3 : rightB off d.length = true := by
          cases hh : rightB off d.length with
          | true => rfl
          | false => exact absurd (.inr (.inr hh)) hno
        obtain ⟨x, hx⟩ : ∃ x, ch.getD k 0 = x := ⟨_, rfl⟩
        have HN := Lib.hid (HYES.out h1 h2 h3)
        rw [hx] at HN h2
        obtain ⟨m, hm, hs⟩ := someL_take x d
        obtain ⟨z, hz⟩ : ∃ z, z = someL x d := ⟨_, rfl⟩
        have HS := Lib.hid (fun (W : World) (hg : W.cell? ⟨g, 0, none⟩ = some (.slice Ac ch.length cc)) (hr : Rd W Ac ch) (hrd : Rd W A3 d) => surv1_yes k cu off A3 c3 d g Ac cc ch x hx W (by omega) hdc hob hg hr hrd h1 h2 h3)
        rw [← hz] at HN HS
        have hzl : z.length ≤ 9223372036854775807 := by rw [hz, hs, List.length_take]; omega
        have HRZ := Lib.hid (fun (W : World) (h : Rd W A3 d) => (show Rd W A3 z from by rw [hz, hs]; exact h.take hm))
        clear hno h1 h2 h3 hx hs hz
        go_wp2_with fail
        refine (HS.out _ (pw_cell_below (below_alloc (Below.refl _ _) _) HGk.out) (HCk.out.below (below_alloc (Below.refl _ _) _)) (HRD.out.below (below_alloc (Below.refl _ _) _))).mono ?_
        rintro e w2 ⟨rfl, hb2⟩
        have HB2 := Lib.hid (below_then (below_alloc HBk.out _) (by have := HBk.out.size; simp <;> omega) hb2)
        have HRY2 := Lib.hid ((HRY.out.below (below_alloc (Below.refl _ _) _)).below hb2)
        have HRZ2 := Lib.hid (HRZ.out _ ((HRD.out.below (below_alloc (Below.refl _ _) _)).below hb2))
        clear hb2
        go_wp2_with fail
        refine (apply_any A4 c4 y cu off A3 c3 z _ hyb hc4 (HRY2.out.below (below_alloc (Below.refl _ _) _)) hzl (HRZ2.out.below (below_alloc (Below.refl _ _) _)) hob).mono ?_
        rintro e w3 ⟨v3, rfl, hown, hb3⟩
        have HB3 := Lib.hid (below_then (below_alloc HB2.out _) (by have := HB2.out.size; simp <;> omega) hb3)
        have HO3 := Lib.hid (hown.lower (base' := w.heap.size) (by have := HB2.out.size; simp <;> omega))
        rw [← HN.out] at HO3
        clear hown hb3
        go_wp2_with fail
        go_roundw
        case rel => exact ⟨k + 1, by omega, by go_num, HO3, HB3⟩
        case measure => simp [intOf]; omega
    · obtain rfl : k = l.length := by omega
      have HO' := HO
      rw [survL_full (Nat.le_refl _)] at HO'
      go_wp2
      go_ret
      exact ⟨_, rfl, HO'.out, HBk.out⟩
set_option maxRecDepth 100000 in
set_option maxHeartbeats 400000 in
theorem survive_any (A : Option Addr) (c : Nat) (b : List UInt8) (A2 : Option Addr) (c2 : Nat) (l : List Wt) (Ac : Option Addr) (cc : Nat) (ch : List UInt8) (w : World) (hl : b.length ≤ 140737488355000) (hc : b.length ≤ c) (hr : Rd w A b) (hr2 : RdW w A2 l) (hrc : Rd w Ac ch) :
    Calls Try.prog 20 #[.slice A b.length c, .slice A2 l.length c2, .slice Ac ch.length cc] w (Made w (survL b l ch)) := by
  have hmf : ∀ (fn : Fn) (first cap : Array Value) (w : World), (Instr.makeFunc fn first cap).run Try.prog w = .ok (.func fn first cap) w := fun _ _ _ _ => rfl
  have HT := Lib.hid (through_surv A c b A2 c2 l w.heap.size Ac cc ch (w.alloc (.cells #[.slice Ac ch.length cc] 22)) hl hc (hr.below (below_alloc (Below.refl _ _) _)) (Kd.C_below hr2 (below_alloc (Below.refl _ _) _)) (blk_cell (blk_new w _) 0) (hrc.below (below_alloc (Below.refl _ _) _)))
  go_enter Try.func20, Try.ntmps20
  go_wp2_with fail
  refine HT.out.mono ?_
  rintro e w1 ⟨v1, rfl, hown, hb⟩
  have HO1 := Lib.hid (hown.lower (base' := w.heap.size) (by simp))
  have HB1 := Lib.hid (below_then (below_alloc (Below.refl _ _) _) (by simp) hb)
  clear hown hb
  go_wp2_with fail
  go_ret
  exact ⟨v1, rfl, HO1.out, HB1.out⟩
set_option maxRecDepth 100000 in
set_option maxHeartbeats 1600000 in
theorem refall_any (A : Option Addr) (c : Nat) (b : List UInt8) (A2 : Option Addr) (c2 : Nat) (l : List Wt) (w : World) (hl : b.length ≤ 140737488355000) (hc : b.length ≤ c) (hr : Rd w A b) (hr2 : RdW w A2 l) :
    Calls Try.prog 18 #[.slice A b.length c, .slice A2 l.length c2] w (Made w (allL b l)) := by
  have HR := Lib.hid hr
  have HR2 := Lib.hid hr2
  have hll : l.length ≤ 9223372036854775807 := hr2.2.1
  clear hr hr2
  go_enter Try.func18, Try.ntmps18
  go_wp2_with (at_builtin; refine appRow (w0 := w) w.heap.size rfl (.const (.slice none 0 0)) (.tmp 7) rfl _ [] b A b.length c rfl rfl rfl (Own.nil _ _) HR.out (Below.refl _ _) (Nat.le_refl _) (by simp; omega) ?_; intro v2 w2 hown hb2 _ _; rw [List.nil_append] at hown; have HO2 := Lib.hid hown; have HB2 := Lib.hid hb2; clear hown hb2)
  go_loopw [5, 6] (fun v i wr => ∃ k : Nat, k ≤ l.length ∧ i = .int .i64 k ∧ Hid (Own wr w.heap.size v (allL b (l.take k))) ∧ Hid (Below w.heap.size w wr)) (fun _ i _ => l.length - (intOf i).toNat)
  case atStart => exact ⟨0, by omega, rfl, HO2, HB2⟩
  case round =>
    obtain ⟨k, hk, rfl, HO, HBk⟩ := hrel
    by_cases hlt : k < l.length
    · have HRk := Lib.hid (show RdW wr A2 l from Kd.C_below HR2.out HBk.out)
      obtain ⟨ad, -, -, rfl, -⟩ := HRk.out.at_ k hlt
      obtain ⟨A3, c3, -, h2, e0, e1, e2⟩ := HRk.out.cells k hlt
      have hoff := Int64.toInt_lt (wt l k).2.1
      have hoff' := Int64.le_toInt (wt l k).2.1
      have hdl : (wt l k).2.2.length ≤ 9223372036854775807 := h2.len
      have HN := Lib.hid (show allL b (l.take (k + 1)) = applyL (allL b (l.take k)) (wt l k).1 (wt l k).2.1.toInt (wt l k).2.2 from allL_next hlt)
      have HYL := allL_len b (l.take k)
      generalize (wt l k).1 = cu at *
      generalize (wt l k).2.1.toInt = off at *
      generalize (wt l k).2.2 = d at *
      obtain ⟨y, hy⟩ : ∃ y, y = allL b (l.take k) := ⟨_, rfl⟩
      rw [← hy] at HN HYL HO
      have HRD := Lib.hid h2
      have hob : -9223372036854775808 ≤ off ∧ off ≤ 9223372036854775807 := by omega
      have hyb : y.length ≤ 140737488355000 := by omega
      obtain ⟨A4, c4, rfl, hc4, hr4⟩ := HO.out.reads
      have HRY := Lib.hid hr4
      have HA := Lib.hid (fun (W : World) (h1 : Rd W A4 y) (h2 : Rd W A3 d) => (show Calls Try.prog 16 #[.slice A4 y.length c4, .agg #[.bool cu, .int .i64 off, .slice A3 d.length c3], .int .i64 d.length] W (Made W (applyL y cu off d)) from apply_eq y cu off d ▸ refapply_any A4 c4 y cu off A3 c3 d d.length W hyb hc4 h1 hdl h2 hob (by omega)))
      clear h2 hy HYL hr4 hoff hoff'
      have hk0 : (0 : Int) ≤ (k : Int) := by omega
      have hk1 : (k : Int) < (l.length : Int) := by omega
      go_wp2_with fail
      have hs : wr.drew.cell? (ad.add (k * 3)) = some (.bool cu) ∧ wr.drew.cell? { block := (ad.add (k * 3)).block, off := (ad.add (k * 3)).off + 1 } = some (.int .i64 off) ∧ wr.drew.cell? { block := (ad.add (k * 3)).block, off := (ad.add (k * 3)).off + 2 } = some (.slice A3 d.length c3) := ⟨e0, e1, e2⟩
      go_region_held3 (fun W => W.cell? (ad.add (k * 3)) = some (.bool cu) ∧ W.cell? { block := (ad.add (k * 3)).block, off := (ad.add (k * 3)).off + 1 } = some (.int .i64 off) ∧ W.cell? { block := (ad.add (k * 3)).block, off := (ad.add (k * 3)).off + 2 } = some (.slice A3 d.length c3)) (first | assumption)
        (first
          | (go_at_call 16; refine (HA.out _ (HRY.out.drewN 1) (HRD.out.drewN 1)).mono ?_; rintro e w3 ⟨v3, rfl, hown, hb3⟩; have hs3 : w3.cell? (ad.add (k * 3)) = some (.bool cu) ∧ w3.cell? { block := (ad.add (k * 3)).block, off := (ad.add (k * 3)).off + 1 } = some (.int .i64 off) ∧ w3.cell? { block := (ad.add (k * 3)).block, off := (ad.add (k * 3)).off + 2 } = some (.slice A3 d.length c3) := ⟨pw_cell_below hb3 e0, pw_cell_below hb3 e1, pw_cell_below hb3 e2⟩; have HB3 := Lib.hid (below_then (pw_below_drewN HBk.out 1) (pw_below_drewN HBk.out 1).size hb3); have HO3 := Lib.hid (hown.lower HBk.out.size); clear hown hb3)
          | fail)
      rw [← HN.out] at HO3
      go_wp2_with fail
      go_roundw
      case rel => exact ⟨k + 1, by omega, by go_num, HO3, HB3⟩
      case measure => simp [intOf]; omega
    · obtain rfl : k = l.length := by omega
      have HO' := HO
      rw [List.take_length] at HO'
      go_wp2
      go_ret
      exact ⟨_, rfl, HO'.out, HBk.out⟩
end Go.Proofs.Ytkgbimkjpllakaa.Wr
