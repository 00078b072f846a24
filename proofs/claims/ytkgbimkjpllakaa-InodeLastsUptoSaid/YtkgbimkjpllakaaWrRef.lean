/- stillageref09.Apply. -/
import Derived.Test.YtkgbimkjpllakaaWrPure
set_option linter.unusedVariables false
set_option linter.unusedSimpArgs false
namespace Go.Proofs.Ytkgbimkjpllakaa.Wr
open Go.RowKit Go.Proofs.YtkgbimkjpllakaaW.PrintWords Go.Proofs.Ytkgbimkjpllakaa.B

/-- the document's answer -/
def refApplyL (b : List UInt8) (cut : Bool) (off : Int) (d : List UInt8) (most : Int) : List UInt8 :=
  if rightB off d.length = false then b
  else if cut = true then b.take off.toNat
  else layL b off.toNat d (min d.length most.toNat)
def lenOf : Value → Nat
  | .slice _ n _ => n
  | _ => 0
set_option maxRecDepth 100000 in
set_option maxHeartbeats 1600000 in
theorem refapply_any (A : Option Addr) (c : Nat) (b : List UInt8) (cut : Bool) (off : Int) (A2 : Option Addr) (c2 : Nat) (d : List UInt8) (most : Int) (w : World) (hl : b.length ≤ 140737488355000) (hc : b.length ≤ c) (hr : Rd w A b) (hd : d.length ≤ 9223372036854775807) (hr2 : Rd w A2 d) (hb : -9223372036854775808 ≤ off ∧ off ≤ 9223372036854775807) (hmo : -9223372036854775808 ≤ most ∧ most ≤ 9223372036854775807) :
    Calls Try.prog 16 #[.slice A b.length c, .agg #[.bool cut, .int .i64 off, .slice A2 d.length c2], .int .i64 most] w (Made w (refApplyL b cut off d most)) := by
  have HR := Lib.hid hr
  have HR2 := Lib.hid hr2
  have HRT := Lib.hid (fun (W : World) => refright_any cut off A2 c2 d W (by omega) hb)
  clear hr hr2
  obtain ⟨ob, hob⟩ : ∃ ob, ob = Obj.cells #[.bool cut, .int .i64 off, .slice A2 d.length c2] 26 := ⟨_, rfl⟩
  have HBA := Lib.hid (show Below w.heap.size w (w.alloc ob) from below_alloc (Below.refl _ _) _)
  rw [hob] at HBA
  clear hob
  by_cases hok : rightB off d.length = true
  · have hrange : 0 ≤ off ∧ off ≤ 1048576 - (d.length : Int) := of_decide_eq_true hok
    rw [hok] at HRT
    cases cut with
    | true =>
      have HY := Lib.hid (show refApplyL b true off d most = b.take off.toNat from by unfold refApplyL; rw [if_neg (by simp [hok]), if_pos rfl])
      clear hok
      go_enter Try.func16, Try.ntmps16
      go_wp2_with fail
      refine (HRT.out _).mono ?_
      rintro e w1 ⟨rfl, hb1⟩
      have HB1 := Lib.hid (below_step' HBA.out hb1)
      have hc0 : w1.cell? ⟨w.heap.size, 0, none⟩ = some (.bool true) := box_cell hb1 0
      have hc1 : w1.cell? ⟨w.heap.size, 1, none⟩ = some (.int .i64 off) := box_cell hb1 1
      clear hb1
      go_wp2_with fail
      go_loopw [7, 8] (fun v i wr => ∃ k : Nat, k ≤ b.length ∧ (k : Int) ≤ off ∧ i = .int .i64 k ∧ Hid (Own wr w1.heap.size v (b.take k)) ∧ Hid (Below w1.heap.size w1 wr)) (fun _ i _ => b.length - (intOf i).toNat)
      case atStart => exact ⟨0, by omega, by omega, rfl, by rw [List.take_zero]; exact Own.nil _ _, Below.refl _ _⟩
      case round =>
        obtain ⟨k, hk, hko, rfl, HO, HBk⟩ := hrel
        have hd1 := cell_keep hc1 HBk.out
        by_cases hlt : k < b.length
        · by_cases hlo : (k : Int) < off
          · obtain ⟨ad, rfl, hcell⟩ := ((HR.out.below HB1.out).below HBk.out).at_ k hlt
            obtain ⟨x, hx⟩ : ∃ x, x = b.getD k 0 := ⟨_, rfl⟩
            rw [show bt b k = (x.toNat : Int) from by rw [hx]; rfl] at hcell
            obtain ⟨y, hy⟩ : ∃ y, y = b.take k := ⟨_, rfl⟩
            rw [← hy] at HO
            have hyl : y.length + 1 ≤ 140737488355328 := by rw [hy, List.length_take]; omega
            have HN := Lib.hid (show y ++ [x] = b.take (k + 1) from by rw [hy, hx, List.take_succ_eq_append_getElem hlt]; simp [hlt])
            clear hx hy
            go_wp2_with (at_builtin; refine app1 (w0 := w1) w1.heap.size rfl (.tmp 30) (.tmp 35) rfl _ y x _ rfl rfl rfl HO.out HBk.out HBk.out.size hyl ?_; intro v2 w2 hown hb2 _ _; have HO2 := Lib.hid hown; have HB2 := Lib.hid hb2; clear hown hb2)
            go_round
            case rel => exact ⟨k + 1, by omega, by omega, by go_num, Lib.hid (by rw [← HN.out]; exact HO2.out), HB2⟩
            case measure => simp [intOf]; omega
          · have HE := Lib.hid (show b.take k = b.take off.toNat from by congr 1; omega)
            go_wp2
            go_ret
            exact ⟨_, rfl, by rw [HY.out, ← HE.out]; exact HO.out.lower HB1.out.size, below_step' HB1.out HBk.out⟩
        · have HE := Lib.hid (show b.take k = b.take off.toNat from by rw [List.take_of_length_le (by omega), List.take_of_length_le (by omega)])
          go_wp2
          go_ret
          exact ⟨_, rfl, by rw [HY.out, ← HE.out]; exact HO.out.lower HB1.out.size, below_step' HB1.out HBk.out⟩
    | false =>
      obtain ⟨K, hK, hK1, hK2⟩ : ∃ K : Nat, K = min d.length most.toNat ∧ K ≤ d.length ∧ ((K : Int) = most ∨ (K = d.length ∧ (K : Int) ≤ most) ∨ (K = 0 ∧ most < 0)) := ⟨_, rfl, by omega, by omega⟩
      have HY := Lib.hid (show refApplyL b false off d most = layL b off.toNat d K from by unfold refApplyL; rw [if_neg (by simp [hok]), if_neg (by decide), hK])
      clear hok hK
      go_enter Try.func16, Try.ntmps16
      go_wp2_with fail
      refine (HRT.out _).mono ?_
      rintro e w1 ⟨rfl, hb1⟩
      have HB1 := Lib.hid (below_step' HBA.out hb1)
      have hc0 : w1.cell? ⟨w.heap.size, 0, none⟩ = some (.bool false) := box_cell hb1 0
      have hc1 : w1.cell? ⟨w.heap.size, 1, none⟩ = some (.int .i64 off) := box_cell hb1 1
      have hc2 : w1.cell? ⟨w.heap.size, 2, none⟩ = some (.slice A2 d.length c2) := box_cell hb1 2
      clear hb1
      go_wp2_with (at_builtin; refine appRow (w0 := w1) w1.heap.size rfl (.tmp 38) (.tmp 39) rfl _ [] b A b.length c rfl rfl rfl (Own.nil _ _) (HR.out.below HB1.out) (Below.refl _ _) (Nat.le_refl _) (by simp; omega) ?_; intro v2 w2 hown hb2 _ _; rw [List.nil_append] at hown; have HO2 := Lib.hid hown; have HB2 := Lib.hid hb2; clear hown hb2)
      obtain ⟨o, rfl⟩ := Int.eq_ofNat_of_zero_le hrange.1
      rw [Int.toNat_natCast] at HY
      go_loopw [7, 9] (fun v i wr => ∃ k : Nat, k ≤ K ∧ i = .int .i64 k ∧ Hid (Own wr w1.heap.size v (layL b o d k)) ∧ Hid (Below w1.heap.size w1 wr)) (fun _ i _ => d.length - (intOf i).toNat)
      case atStart => exact ⟨0, by omega, rfl, by rw [layL_zero]; exact HO2, HB2⟩
      case round =>
        obtain ⟨k, hk, rfl, HO, HBk⟩ := hrel
        have hd1 := cell_keep hc1 HBk.out
        have hd2 := cell_keep hc2 HBk.out
        by_cases hlt : k < K
        · have hm1 : (k : Int) < (d.length : Int) := by omega
          have hm2 : (k : Int) < most := by omega
          obtain ⟨X, hX⟩ : ∃ X, X = layL b o d k := ⟨_, rfl⟩
          rw [← hX] at HO
          have hXl : X.length ≤ max b.length (o + k) := by rw [hX, layL_len (by omega)]; split <;> omega
          have HS := Lib.hid (layL_step (b := b) (off := o) (d := d) (i := k) (by omega))
          rw [← hX] at HS
          clear hX
          go_wp2
          go_loopw [7] (fun v wr => ∃ z : Nat, z ≤ o + k + 1 - X.length ∧ Hid (Own wr w1.heap.size v (X ++ List.replicate z 0)) ∧ Hid (Below w1.heap.size w1 wr)) (fun v _ => o + k + 1 - lenOf v)
          case atStart => exact ⟨0, by omega, by simpa using HO, HBk⟩
          case round =>
            obtain ⟨z, hz, HOz, HBz⟩ := hrel
            have he1 := cell_keep hc1 HBz.out
            have he2 := cell_keep hc2 HBz.out
            obtain ⟨y, hy⟩ : ∃ y, y = X ++ List.replicate z (0 : UInt8) := ⟨_, rfl⟩
            rw [← hy] at HOz
            have hyl : y.length = X.length + z := by rw [hy, List.length_append, List.length_replicate]
            by_cases hfill : y.length ≤ o + k
            · obtain ⟨A', c', rfl, hyc, -⟩ := HOz.out.reads
              have hfi : (y.length : Int) ≤ (o : Int) + k := by omega
              have HN := Lib.hid (show y ++ [0] = X ++ List.replicate (z + 1) 0 from by rw [hy, List.replicate_succ', List.append_assoc])
              have hzz : z + 1 ≤ o + k + 1 - X.length := by omega
              have hyb : y.length + 1 ≤ 140737488355328 := by omega
              clear hy hyl
              go_wp2_with (at_builtin; refine app1 (w0 := w1) w1.heap.size rfl (.tmp 60) (.tmp 61) rfl _ y 0 _ rfl rfl rfl HOz.out HBz.out HBz.out.size hyb ?_; intro v3 w3 hown hb3 _ _; have HO3 := Lib.hid hown; have HB3 := Lib.hid hb3; clear hown hb3)
              obtain ⟨A4, c4, rfl, -, -⟩ := HO3.out.reads
              go_round
              case rel => exact ⟨z + 1, hzz, Lib.hid (by rw [← HN.out]; exact HO3.out), HB3⟩
              case measure => simp [lenOf]; omega
            · obtain ⟨g, cap, rfl, hgb, -, -⟩ := Kd.R_form HOz.out (by omega)
              have hfi : ¬ (y.length : Int) ≤ (o : Int) + k := by omega
              have hin : o + k < y.length := by omega
              obtain ⟨hc, hf⟩ := Kd.R_celln (enc := encB) (h1 := fun _ => rfl) 0 HOz.out ((o + k : Nat) : Int) (by omega) (by omega)
              rw [Int.toNat_natCast] at hc hf
              unfold encB at hc
              obtain ⟨ad, rfl, hcell⟩ := ((HR2.out.below HB1.out).below HBz.out).at_ k (by omega)
              have HP := Lib.hid (fun q => Kd.R_putn (enc := encB) (h1 := fun _ => rfl) HOz.out ((o + k : Nat) : Int) q)
              have HN := Lib.hid (show y.set (o + k) (d.getD k 0) = layL b o d (k + 1) from by
                rw [← HS.out, hy]; congr 3; omega)
              clear hy hyl
              go_wp2
              go_region
              go_wp2
              have h5 : Own (wr.setCell ⟨g, o + k, none⟩ (.int .u8 (B.bt d k))) w1.heap.size (.slice (some ⟨g, 0, none⟩) y.length cap) (layL b o d (k + 1)) := by
                rw [← HN.out]; exact HP.out (d.getD k 0)
              go_round
              case rel => exact ⟨k + 1, by omega, by go_num, Lib.hid (Kd.R_drew h5), Lib.hid (below_drew (below_set HBz.out hgb))⟩
              case measure => simp [intOf]; omega
        · by_cases hm1 : (k : Int) < (d.length : Int)
          · have hm2 : ¬ (k : Int) < most := by omega
            have hkK : k = K := by omega
            subst hkK
            go_wp2
            go_ret
            exact ⟨_, rfl, by rw [HY.out]; exact HO.out.lower HB1.out.size, below_step' HB1.out HBk.out⟩
          · have hkK : k = K := by omega
            subst hkK
            go_wp2
            go_ret
            exact ⟨_, rfl, by rw [HY.out]; exact HO.out.lower HB1.out.size, below_step' HB1.out HBk.out⟩
  · have hok' : rightB off d.length = false := by simpa using hok
    rw [hok'] at HRT
    have HY := Lib.hid (show refApplyL b cut off d most = b from by unfold refApplyL; rw [if_pos hok'])
    clear hok hok'
    go_enter Try.func16, Try.ntmps16
    go_wp2_with fail
    refine (HRT.out _).mono ?_
    rintro e w1 ⟨rfl, hb1⟩
    have HB1 := Lib.hid (below_step' HBA.out hb1)
    clear hb1
    go_wp2_with (at_builtin; refine appRow (w0 := w) w.heap.size rfl (.tmp 13) (.tmp 14) rfl _ [] b A b.length c rfl rfl rfl (Own.nil _ _) (HR.out.below HB1.out) HB1.out HB1.out.size (by simp; omega) ?_; intro v2 w2 hown hb2 _ _; rw [List.nil_append] at hown; have HO2 := Lib.hid hown; have HB2 := Lib.hid hb2; clear hown hb2)
    go_ret
    exact ⟨v2, rfl, by rw [HY.out]; exact HO2.out, HB2.out⟩
end Go.Proofs.Ytkgbimkjpllakaa.Wr
