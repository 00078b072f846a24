/- rows of words that are the same. -/
import Derived.Test.YtceldlijbehkdaaSgScan
import Derived.Test.YtceldlijbehkdaaRcWEq
set_option linter.unusedVariables false
set_option linter.unusedSimpArgs false
namespace Go.Proofs.Ytceldlijbehkdaa.Sg
open Go.RowKit Go.Proofs.YtceldlijbehkdaaW.PrintWords Go.Proofs.Ytceldlijbehkdaa.B Go.Proofs.Ytceldlijbehkdaa.Fx Go.Proofs.Ytceldlijbehkdaa.Fr Go.Proofs.Ytceldlijbehkdaa.O Go.Proofs.Ytceldlijbehkdaa.Rc Go.Proofs.Ytceldlijbehkdaa.Bt
theorem scanF_len (b : List UInt8) (n : Int) : ∀ (f : Nat) (x : Sc), 21 * (x.ws.length : Int) ≤ x.en → x.en ≤ (b.length : Int) → 21 * ((scanF b n f x).ws.length : Int) ≤ (b.length : Int)
  | 0, x, h1, h2 => by show 21 * (x.ws.length : Int) ≤ _; omega
  | f + 1, x, h1, h2 => by
    by_cases hx : (b.length : Int) ≤ x.en
    · rw [scanF_end hx]; omega
    · cases hf : isFoot b x.en
      · by_cases h3 : (parL b x.en n).2.2.2 = 0
        · by_cases h4 : (wd (parL b x.en n).1 0).s ≤ x.q
          · rw [scanF_seq hx hf h3 h4]; show 21 * (x.ws.length : Int) ≤ _; omega
          · rw [scanF_go hx hf h3 h4]
            obtain ⟨o1, o2, o3, o4, -⟩ := parL_ok h3
            refine scanF_len b n f _ ?_ o4
            show 21 * ((x.ws ++ (parL b x.en n).1).length : Int) ≤ (parL b x.en n).2.1
            rw [List.length_append]; omega
        · rw [scanF_err hx hf h3]; show 21 * (x.ws.length : Int) ≤ _; omega
      · rw [scanF_foot hx hf]
        have hw : (footS b x).ws = x.ws := by
          unfold footS
          split
          · rfl
          · split <;> rfl
        rw [hw]; omega
theorem scanL_len (b : List UInt8) (n : Int) : 21 * ((scanL b n).ws.length : Int) ≤ (b.length : Int) := by
  unfold scanL
  split
  · unfold begS
    split
    · simp
    · split <;> simp
  · rename_i h
    obtain ⟨h1, h2, h3, -, -⟩ := begS_ok (b := b) (n := n) (by simpa using h)
    exact scanF_len b n _ _ (by rw [h3]; simp; omega) h2
set_option maxRecDepth 100000 in
set_option maxHeartbeats 3200000 in
theorem words_yes (A1 A2 : Option Addr) (c1 c2 : Nat) (ws : List Wd) (w : World) (hr1 : RdW w A1 ws) (hr2 : RdW w A2 ws) (hl : ws.length ≤ 140737488355328) :
    Calls Try.prog 40 #[.slice A1 ws.length c1, .slice A2 ws.length c2] w (Kept (.bool true) w) := by
  have HR1 := Lib.hid hr1
  have HR2 := Lib.hid hr2
  clear hr1 hr2
  have q0 : ((ws.length : Int) != (ws.length : Int)) = false := by simp
  go_enter Try.func40, Try.ntmps40
  go_wp2_with fail
  go_loopw [5] (fun i wr => ∃ k : Nat, k ≤ ws.length ∧ i = .int .i64 k ∧ Hid (Below w.heap.size w wr)) (fun i _ => ws.length - (intOf i).toNat)
  case atStart => exact ⟨0, by omega, rfl, Lib.hid (by first | exact Below.refl _ _ | exact below_drew (Below.refl _ _))⟩
  case round =>
    obtain ⟨k, hk, rfl, HB⟩ := hrel
    by_cases hlt : k < ws.length
    · obtain ⟨ad1, X1, rfl, hX1, -, -, hr1, HP1⟩ := (HR1.out.below HB.out).walk k hlt
      obtain ⟨ad2, X2, rfl, hX2, -, -, hr2, HP2⟩ := (HR2.out.below HB.out).walk k hlt
      have HG1 := Lib.hid hr1
      have HG2 := Lib.hid hr2
      have HL1 := Lib.hid (show (Try.prog.info? 50).map (·.size) = some X1.length from by have h := WordF.info hX1; rwa [List.size_toArray] at h)
      have HL2 := Lib.hid (show (Try.prog.info? 50).map (·.size) = some X2.length from by have h := WordF.info hX2; rwa [List.size_toArray] at h)
      have HNE := Lib.hid (fun (W : World) => (show (binOp .neq 50 (.agg X1.toArray) (.agg X2.toArray)).run Try.prog W = .ok (.bool false) W from by
        rw [show X2.toArray = X1.toArray from (WordF.eq hX2).trans (WordF.eq hX1).symm]
        exact neq_of_eql (word_self hX1 W)))
      clear hX1 hX2 hr1 hr2
      go_wp2_with fail
      have hx0 : Below wr.heap.size wr wr.drew := below_drew (Below.refl _ _)
      refine wp_region_held_drew (S := fun W => Below wr.heap.size wr W) (by kernel_rfl) hx0 (fun hHeld => ?_)
      refine wpAnyH_take (i := 0) (v := _) rfl (by kernel_rfl) (by kernel_rfl) (by kernel_rfl) (fun _ _ _ h => h) (Or.inl ⟨by kernel_rfl, fun w _ => by go_simp <;> with_reducible rfl⟩) hHeld ?_
      simp only [List.getElem_toArray, List.getElem_cons_succ, List.getElem_cons_zero, Act.put, List.setIfInBounds_toArray, List.set_cons_zero, List.set_cons_succ]
      refine wpAnyH_take (i := 1) (v := _) rfl (by kernel_rfl) (by kernel_rfl) (by kernel_rfl) (fun _ _ _ h => h) (Or.inl ⟨by kernel_rfl, fun w _ => by go_simp <;> with_reducible rfl⟩) hHeld ?_
      simp only [List.getElem_toArray, List.getElem_cons_succ, List.getElem_cons_zero, Act.put, List.setIfInBounds_toArray, List.set_cons_zero, List.set_cons_succ]
      refine wpAnyH_take (i := 2) (v := .pointer (some (ad1.add (k * 39)))) rfl (by kernel_rfl) (by kernel_rfl) (by kernel_rfl) (fun _ _ _ h => h) (Or.inl ⟨by kernel_rfl, fun W h => by have q0 := hlt; go_simp <;> with_reducible rfl⟩) hHeld ?_
      simp only [List.getElem_toArray, List.getElem_cons_succ, List.getElem_cons_zero, Act.put, List.setIfInBounds_toArray, List.set_cons_zero, List.set_cons_succ]
      refine wpAnyH_take (i := 3) (v := .agg X1.toArray) rfl (by kernel_rfl) (by kernel_rfl) (by kernel_rfl) (fun _ _ _ h => h) (by refine yieldsIf_load_mid (by kernel_rfl) 50 (.tmp 19) rfl (ad1.add (k * 39)).block (ad1.add (k * 39)).off ?_ X1 _ (fun W h => range_below HG1.out h) Try.underlying50 rfl HL1.out; exact HP1.out) hHeld ?_
      simp only [List.getElem_toArray, List.getElem_cons_succ, List.getElem_cons_zero, Act.put, List.setIfInBounds_toArray, List.set_cons_zero, List.set_cons_succ]
      refine wpAnyH_take (i := 4) (v := _) rfl (by kernel_rfl) (by kernel_rfl) (by kernel_rfl) (fun _ _ _ h => h) (Or.inl ⟨by kernel_rfl, fun w _ => by go_simp <;> with_reducible rfl⟩) hHeld ?_
      simp only [List.getElem_toArray, List.getElem_cons_succ, List.getElem_cons_zero, Act.put, List.setIfInBounds_toArray, List.set_cons_zero, List.set_cons_succ]
      refine wpAnyH_take (i := 5) (v := _) rfl (by kernel_rfl) (by kernel_rfl) (by kernel_rfl) (fun _ _ _ h => h) (Or.inl ⟨by kernel_rfl, fun w _ => by go_simp <;> with_reducible rfl⟩) hHeld ?_
      simp only [List.getElem_toArray, List.getElem_cons_succ, List.getElem_cons_zero, Act.put, List.setIfInBounds_toArray, List.set_cons_zero, List.set_cons_succ]
      refine wpAnyH_take (i := 6) (v := .pointer (some (ad2.add (k * 39)))) rfl (by kernel_rfl) (by kernel_rfl) (by kernel_rfl) (fun _ _ _ h => h) (Or.inl ⟨by kernel_rfl, fun W h => by have q0 := hlt; go_simp <;> with_reducible rfl⟩) hHeld ?_
      simp only [List.getElem_toArray, List.getElem_cons_succ, List.getElem_cons_zero, Act.put, List.setIfInBounds_toArray, List.set_cons_zero, List.set_cons_succ]
      refine wpAnyH_take (i := 7) (v := .agg X2.toArray) rfl (by kernel_rfl) (by kernel_rfl) (by kernel_rfl) (fun _ _ _ h => h) (by refine yieldsIf_load_mid (by kernel_rfl) 50 (.tmp 23) rfl (ad2.add (k * 39)).block (ad2.add (k * 39)).off ?_ X2 _ (fun W h => range_below HG2.out h) Try.underlying50 rfl HL2.out; exact HP2.out) hHeld ?_
      simp only [List.getElem_toArray, List.getElem_cons_succ, List.getElem_cons_zero, Act.put, List.setIfInBounds_toArray, List.set_cons_zero, List.set_cons_succ]
      refine wpAnyH_take (i := 8) (v := .bool false) rfl (by kernel_rfl) (by kernel_rfl) (by kernel_rfl) (fun _ _ _ h => h) (yields_eq .neq 50 50 (.tmp 20) (.tmp 24) rfl X1.toArray X2.toArray rfl rfl (by kernel_rfl) _ (by kernel_rfl) HNE.out) hHeld ?_
      simp only [List.getElem_toArray, List.getElem_cons_succ, List.getElem_cons_zero, Act.put, List.setIfInBounds_toArray, List.set_cons_zero, List.set_cons_succ]
      refine wpAnyH_done (by kernel_rfl) ?_ _
      have HB9 := Lib.hid (below_step' HB.out hHeld)
      clear hHeld
      go_wp2_with fail
      go_roundw
      case rel => exact ⟨k + 1, by omega, by go_num, HB9⟩
      case measure => simp [intOf]; omega
    · obtain rfl : k = ws.length := by omega
      go_wp2_with fail
      go_ret
      exact ⟨rfl, HB.out⟩
/-- a scan, its words read -/
theorem Scanned.ex {x : Sc} {w : World} {e : Ending} {w' : World} (h : Scanned x w e w') : ∃ A c, e = .returned (.agg #[.slice A x.ws.length c, .int .u64 x.q, .int .i64 x.en, .bool x.sl, .int .i64 x.at_, .int .i64 x.er]) ∧ OwnW w' w.heap.size (.slice A x.ws.length c) x.ws ∧ Below w.heap.size w w' := by
  obtain ⟨v, h1, h2, h3⟩ := h
  obtain ⟨A, c, rfl, -, -⟩ := OwnW.reads h2
  exact ⟨A, c, h1, h2, h3⟩
end Go.Proofs.Ytceldlijbehkdaa.Sg
