/- writes: the walks of through, All, Survive. -/
import Derived.Test.YtkgbimkjpllakaaWrSurv
set_option linter.unusedVariables false
set_option linter.unusedSimpArgs false
namespace Go.Proofs.Ytkgbimkjpllakaa.Wr
open Go.RowKit Go.Proofs.YtkgbimkjpllakaaW.PrintWords Go.Proofs.Ytkgbimkjpllakaa.B

theorem infoWrite : (Try.prog.info? 26).map (·.size) = some 3 := by kernel_rfl
set_option maxRecDepth 100000 in
theorem all1_any (i : Int) (cu : Bool) (off : Int) (A : Option Addr) (n c : Nat) (w : World) :
    Calls Try.prog 45 #[.int .i64 i, .agg #[.bool cu, .int .i64 off, .slice A n c]] w (Kept (.tuple #[.agg #[.bool cu, .int .i64 off, .slice A n c], .bool true]) w) := by
  go_enter Try.func45, Try.ntmps45
  go_wp2
  refine bodyPost_ret_by (results_ct rfl _ _ (w.heap.size + 1) _ #[.bool cu, .int .i64 off, .slice A n c] (0, 0) _ rfl (by have := blk_new (w.alloc (.cells #[.bool cu, .int .i64 off, .slice A n c] 26)) (.cells #[.bool cu, .int .i64 off, .slice A n c] 26); simpa using this) Try.underlying26 rfl infoWrite) rfl ?_
  exact ⟨rfl, below_alloc (below_alloc (Below.refl _ _) _) _⟩
set_option maxRecDepth 100000 in
set_option maxHeartbeats 800000 in
theorem through_all (A : Option Addr) (c : Nat) (b : List UInt8) (A2 : Option Addr) (c2 : Nat) (l : List Wt) (w : World) (hl : b.length ≤ 140737488355000) (hc : b.length ≤ c) (hr : Rd w A b) (hr2 : RdW w A2 l) :
    Calls Try.prog 44 #[.slice A b.length c, .slice A2 l.length c2, .func (.func 45) #[] #[]] w (Made w (allL b l)) := by
  have HR := Lib.hid hr
  have HR2 := Lib.hid hr2
  have hll : l.length ≤ 9223372036854775807 := hr2.2.1
  clear hr hr2
  go_enter Try.func44, Try.ntmps44
  go_wp2_with fail
  refine (Cl.clone_any A c b w (by omega) HR.out).mono ?_
  rintro e w1 ⟨v1, rfl, hown, hb⟩
  have HO1 := Lib.hid hown
  have HB1 := Lib.hid hb
  clear hown hb
  go_wp2_with fail
  go_loopw [7, 16] (fun v i wr => ∃ k : Nat, k ≤ l.length ∧ i = .int .i64 k ∧ Hid (Own wr w.heap.size v (allL b (l.take k))) ∧ Hid (Below w.heap.size w wr)) (fun _ i _ => l.length - (intOf i).toNat)
  case atStart => exact ⟨0, by omega, rfl, HO1, HB1⟩
  case round =>
    obtain ⟨k, hk, rfl, HO, HBk⟩ := hrel
    by_cases hlt : k < l.length
    · have HRk := Lib.hid (show RdW wr A2 l from Kd.C_below HR2.out HBk.out)
      obtain ⟨ad, -, -, rfl, -⟩ := HRk.out.at_ k hlt
      obtain ⟨A3, c3, -, h2, e0, e1, e2⟩ := HRk.out.cells k hlt
      have hoff := Int64.toInt_lt (wt l k).2.1
      have hoff' := Int64.le_toInt (wt l k).2.1
      have hdl : (wt l k).2.2.length ≤ 9223372036854775807 := h2.len
      have HN := Lib.hid (show allL b (l.take (k + 1)) = applyL (allL b (l.take k)) (wt l k).1 (wt l k).2.1.toInt (wt l k).2.2 from allL_next hlt)
      have HYL := allL_len b (l.take k)
      generalize (wt l k).1 = cu at *
      generalize (wt l k).2.1.toInt = off at *
      generalize (wt l k).2.2 = d at *
      obtain ⟨y, hy⟩ : ∃ y, y = allL b (l.take k) := ⟨_, rfl⟩
      rw [← hy] at HN HYL HO
      have HRD := Lib.hid h2
      have hob : -9223372036854775808 ≤ off ∧ off ≤ 9223372036854775807 := by omega
      have hyb : y.length ≤ 140737488355000 := by omega
      obtain ⟨A4, c4, rfl, hc4, hr4⟩ := HO.out.reads
      have HRY := Lib.hid hr4
      clear h2 hy HYL hr4 hoff hoff'
      go_wp2_with fail
      refine (all1_any k cu off A3 d.length c3 _).mono ?_
      rintro e w2 ⟨rfl, hb2⟩
      have HB2 := Lib.hid (below_then (below_alloc HBk.out _) (by have := HBk.out.size; simp <;> omega) hb2)
      have HRY2 := Lib.hid ((HRY.out.below (below_alloc (Below.refl _ _) _)).below hb2)
      have HRD2 := Lib.hid ((HRD.out.below (below_alloc (Below.refl _ _) _)).below hb2)
      clear hb2
      go_wp2_with fail
      refine (apply_any A4 c4 y cu off A3 c3 d _ hyb hc4 (HRY2.out.below (below_alloc (Below.refl _ _) _)) hdl (HRD2.out.below (below_alloc (Below.refl _ _) _)) hob).mono ?_
      rintro e w3 ⟨v3, rfl, hown, hb3⟩
      have HB3 := Lib.hid (below_then (below_alloc HB2.out _) (by have := HB2.out.size; simp <;> omega) hb3)
      have HO3 := Lib.hid (hown.lower (base' := w.heap.size) (by have := HB2.out.size; simp <;> omega))
      rw [← HN.out] at HO3
      clear hown hb3
      go_wp2_with fail
      go_roundw
      case rel => exact ⟨k + 1, by omega, by go_num, HO3, HB3⟩
      case measure => simp [intOf]; omega
    · obtain rfl : k = l.length := by omega
      have HO' := HO
      rw [List.take_length] at HO'
      go_wp2
      go_ret
      exact ⟨_, rfl, HO'.out, HBk.out⟩
theorem all_any (A : Option Addr) (c : Nat) (b : List UInt8) (A2 : Option Addr) (c2 : Nat) (l : List Wt) (w : World) (hl : b.length ≤ 140737488355000) (hc : b.length ≤ c) (hr : Rd w A b) (hr2 : RdW w A2 l) :
    Calls Try.prog 17 #[.slice A b.length c, .slice A2 l.length c2] w (Made w (allL b l)) := by
  have HT := Lib.hid (through_all A c b A2 c2 l w hl hc hr hr2)
  go_enter Try.func17, Try.ntmps17
  go_wp2_with fail
  refine HT.out.mono ?_
  rintro e w1 ⟨v1, rfl, hown, hb⟩
  have HO1 := Lib.hid hown
  have HB1 := Lib.hid hb
  clear hown hb
  go_wp2_with fail
  go_ret
  exact ⟨v1, rfl, HO1.out, HB1.out⟩
end Go.Proofs.Ytkgbimkjpllakaa.Wr
