/- writes.Apply. -/
import Derived.Test.YtkgbimkjpllakaaWrites
import Derived.Test.YtkgbimkjpllakaaCopyAt
set_option linter.unusedVariables false
set_option linter.unusedSimpArgs false
namespace Go.Proofs.Ytkgbimkjpllakaa.Wr
open Go.RowKit Go.Proofs.YtkgbimkjpllakaaW.PrintWords Go.Proofs.Ytkgbimkjpllakaa.B

/-- bytes behind a change -/
def applyL (b : List UInt8) (cut : Bool) (off : Int) (d : List UInt8) : List UInt8 :=
  if rightB off d.length = false ∨ (cut = false ∧ d = []) then b
  else if cut = true then b.take off.toNat
  else over (b ++ List.replicate (off.toNat + d.length - b.length) 0) off.toNat d
/-- a boxed struct's cells -/
theorem box_cell {w w1 : World} {cs : Array Value} {t : TypeId} (hb : Below (w.alloc (.cells cs t)).heap.size (w.alloc (.cells cs t)) w1) (j : Nat) : w1.cell? ⟨w.heap.size, j, none⟩ = cs[j]? := by
  rw [hb.cell (by simp), World.cell?_alloc_new]
theorem cell_keep {w w1 : World} {g j : Nat} {v : Value} (h : w.cell? ⟨g, j, none⟩ = some v) (hb : Below w.heap.size w w1) : w1.cell? ⟨g, j, none⟩ = some v := by
  rw [hb.cell (World.block_lt_of_cell? w _ h)]; exact h
set_option maxRecDepth 100000 in
set_option maxHeartbeats 800000 in
theorem apply_any (A : Option Addr) (c : Nat) (b : List UInt8) (cut : Bool) (off : Int) (A2 : Option Addr) (c2 : Nat) (d : List UInt8) (w : World) (hl : b.length ≤ 140737488355000) (hc : b.length ≤ c) (hr : Rd w A b) (hd : d.length ≤ 9223372036854775807) (hr2 : Rd w A2 d) (hb : -9223372036854775808 ≤ off ∧ off ≤ 9223372036854775807) :
    Calls Try.prog 15 #[.slice A b.length c, .agg #[.bool cut, .int .i64 off, .slice A2 d.length c2]] w (Made w (applyL b cut off d)) := by
  have HR := Lib.hid hr
  have HR2 := Lib.hid hr2
  have HRT := Lib.hid (fun (W : World) => right_any cut off A2 c2 d W (by omega) hb)
  clear hr hr2
  obtain ⟨ob, hob⟩ : ∃ ob, ob = Obj.cells #[.bool cut, .int .i64 off, .slice A2 d.length c2] 26 := ⟨_, rfl⟩
  have HBA := Lib.hid (show Below w.heap.size w (w.alloc ob) from below_alloc (Below.refl _ _) _)
  rw [hob] at HBA
  clear hob
  by_cases hok : rightB off d.length = true
  · have hrange : 0 ≤ off ∧ off ≤ 1048576 - (d.length : Int) := of_decide_eq_true hok
    rw [hok] at HRT
    cases cut with
    | true =>
      by_cases ho : off ≤ (b.length : Int)
      · obtain ⟨y, hy, hcut, hry, hyc, hyl⟩ := cutTo (A := A) (l := b) (c := c) off hrange.1 ho hc
        have HY := Lib.hid (show applyL b true off d = y from by
          unfold applyL
          rw [if_neg (by simp [hok]), if_pos rfl, hy.out])
        have HRY := Lib.hid hry
        have hyb : y.length ≤ 140737488355328 := by omega
        clear hok hy hry hyl
        go_enter Try.func15, Try.ntmps15
        go_wp2_with fail
        refine (HRT.out _).mono ?_
        rintro e w1 ⟨rfl, hb1⟩
        have HB1 := Lib.hid (below_step' HBA.out hb1)
        have hc0 : w1.cell? ⟨w.heap.size, 0, none⟩ = some (.bool true) := box_cell hb1 0
        have hc1 : w1.cell? ⟨w.heap.size, 1, none⟩ = some (.int .i64 off) := box_cell hb1 1
        clear hb1
        go_wp2_with fail
        refine (Cl.clone_any A c y w1 (by omega) (HRY.out _ (HR.out.below HB1.out))).mono ?_
        rintro e w2 ⟨v2, rfl, hown, hb2⟩
        have HO := Lib.hid (hown.lower HB1.out.size)
        have HB2 := Lib.hid (below_step' HB1.out hb2)
        clear hown hb2
        go_wp2_with fail
        go_ret
        exact ⟨v2, rfl, by rw [HY.out]; exact HO.out, HB2.out⟩
      · have HY := Lib.hid (show applyL b true off d = b from by
          unfold applyL
          rw [if_neg (by simp [hok]), if_pos rfl, List.take_of_length_le (by omega)])
        clear hok
        go_enter Try.func15, Try.ntmps15
        go_wp2_with fail
        refine (HRT.out _).mono ?_
        rintro e w1 ⟨rfl, hb1⟩
        have HB1 := Lib.hid (below_step' HBA.out hb1)
        have hc0 : w1.cell? ⟨w.heap.size, 0, none⟩ = some (.bool true) := box_cell hb1 0
        have hc1 : w1.cell? ⟨w.heap.size, 1, none⟩ = some (.int .i64 off) := box_cell hb1 1
        clear hb1
        go_wp2_with fail
        refine (Cl.clone_any A c b w1 (by omega) (HR.out.below HB1.out)).mono ?_
        rintro e w2 ⟨v2, rfl, hown, hb2⟩
        have HO := Lib.hid (hown.lower HB1.out.size)
        have HB2 := Lib.hid (below_step' HB1.out hb2)
        clear hown hb2
        go_wp2_with fail
        go_ret
        exact ⟨v2, rfl, by rw [HY.out]; exact HO.out, HB2.out⟩
    | false =>
      by_cases hd0 : d.length = 0
      · have HY := Lib.hid (show applyL b false off d = b from by unfold applyL; rw [if_pos (.inr ⟨rfl, List.length_eq_zero_iff.1 hd0⟩)])
        have hde : ((d.length : Int) == 0) = true := by rw [hd0]; rfl
        clear hok hd0
        go_enter Try.func15, Try.ntmps15
        go_wp2_with fail
        refine (HRT.out _).mono ?_
        rintro e w1 ⟨rfl, hb1⟩
        have HB1 := Lib.hid (below_step' HBA.out hb1)
        have hc0 : w1.cell? ⟨w.heap.size, 0, none⟩ = some (.bool false) := box_cell hb1 0
        have hc2 : w1.cell? ⟨w.heap.size, 2, none⟩ = some (.slice A2 d.length c2) := box_cell hb1 2
        clear hb1
        go_wp2_with fail
        refine (Cl.clone_any A c b w1 (by omega) (HR.out.below HB1.out)).mono ?_
        rintro e w2 ⟨v2, rfl, hown, hb2⟩
        have HO := Lib.hid (hown.lower HB1.out.size)
        have HB2 := Lib.hid (below_step' HB1.out hb2)
        clear hown hb2
        go_wp2_with fail
        go_ret
        exact ⟨v2, rfl, by rw [HY.out]; exact HO.out, HB2.out⟩
      · have hde : ((d.length : Int) == 0) = false := by rw [beq_eq_false_iff_ne]; omega
        have hde0 := hd0
        have hdp : 0 < d.length := by omega
        clear hd0
        by_cases hm : off + (d.length : Int) ≤ (b.length : Int)
        · have hmm : off + (d.length : Int) ≤ (b.length : Int) := hm
          obtain ⟨X, hX⟩ : ∃ X, X = b ++ List.replicate (off.toNat + d.length - b.length) (0 : UInt8) := ⟨_, rfl⟩
          have HY := Lib.hid (show applyL b false off d = over X off.toNat d from by
            unfold applyL
            rw [if_neg (by simp [hok]; intro h; rw [h] at hde0; exact hde0 rfl), if_neg (by decide), hX])
          have HX := Lib.hid (show List.take (min b.length (List.replicate ((b.length : Int)).toNat (0 : UInt8)).length) b ++ List.drop (min b.length (List.replicate ((b.length : Int)).toNat (0 : UInt8)).length) (List.replicate ((b.length : Int)).toNat (0 : UInt8)) = X from by
            rw [hX, List.length_replicate, Nat.min_eq_left (by omega), List.take_length, List.drop_replicate]
            congr 2; omega)
          have hXl : X.length = ((b.length : Int)).toNat := by rw [hX, List.length_append, List.length_replicate]; omega
          clear hX
          have hoff : off.toNat + d.length ≤ X.length := by omega
          have hX0 : 0 < X.length := by omega
          have HXL := Lib.hid hXl
          clear hXl hde0 hok
          go_enter Try.func15, Try.ntmps15
          go_wp2_with fail
          refine (HRT.out _).mono ?_
          rintro e w1 ⟨rfl, hb1⟩
          have HB1 := Lib.hid (below_step' HBA.out hb1)
          have hc0 : w1.cell? ⟨w.heap.size, 0, none⟩ = some (.bool false) := box_cell hb1 0
          have hc1 : w1.cell? ⟨w.heap.size, 1, none⟩ = some (.int .i64 off) := box_cell hb1 1
          have hc2 : w1.cell? ⟨w.heap.size, 2, none⟩ = some (.slice A2 d.length c2) := box_cell hb1 2
          clear hb1
          go_wp2_with (first
            | (at_make; refine make_u8 (w0 := w1) w1.heap.size rfl (.tmp 42) (.tmp 42) rfl ((b.length : Int)) ((b.length : Int)) rfl rfl (by omega) (by omega) (by omega) (Below.refl _ _) (Nat.le_refl _) ?_; intro v2 w2 hown hb2; have HO2 := Lib.hid hown; have HB2 := Lib.hid hb2; clear hown hb2)
            | ((with_reducible refine gate_ (.call { callee := .builtin .copy, args := #[.tmp 44, .tmp 45], argTypes := #[22, 22] }) rfl ?_); refine copy_u8 (w0 := w1) w1.heap.size rfl (.tmp 44) (.tmp 45) rfl v2 _ b A b.length c rfl rfl rfl HO2.out ((HR.out.below HB1.out).below HB2.out) HB2.out HB2.out.size ?_; intro w3 hown hb3 hg; rw [HX.out] at hown; have HO3 := Lib.hid hown; have HB3 := Lib.hid hb3; have HG := Lib.hid hg; clear hown hb3 hg))
          obtain ⟨g, cap, cur, rfl, hgb, hg, hn, hm2, hcl, hct⟩ := HO3.out.row hX0
          have hd1 := cell_keep hc1 HB3.out
          have hd2 := cell_keep hc2 HB3.out
          have hcut := fun (W : World) => cutOwn (g := g) off hrange.1 (show off ≤ (X.length : Int) by omega) hn (show off.toNat < cap by omega) W
          have hcs : (encs encB d).length = d.length := by simp [encs]
          have HSP := Lib.hid (fun (w' : World) hg' => Own.of_splice (w' := w') (ys := d) (off := off.toNat) hgb hn hm2 hcl hct hoff hg')
          have HSRC := Lib.hid (fun (W : World) (h : Rd W A2 d) => (show 0 < (encs encB d).length → ∃ ad, A2 = some ad ∧ ∀ j v, (encs encB d)[j]? = some v → W.cell? (ad.add j) = some v from fun _ => by
            obtain ⟨ad, h1, -⟩ := h.at_ 0 (by omega)
            subst h1
            exact ⟨ad, rfl, h.src⟩))
          have HR3 := Lib.hid ((HR2.out.below HB1.out).below HB3.out)
          have HGG := Lib.hid hg
          have HONE := Lib.hid (show ∀ v ∈ encs encB d, v.oneCell' = true from by
            intro v hv
            obtain ⟨x, -, rfl⟩ := List.mem_map.1 hv
            rfl)
          have HCS := Lib.hid hcs
          have HCL := Lib.hid hcl
          have hXc : off.toNat + d.length ≤ cap := by omega
          clear hcs hcl hct hg
          go_region_law (refine step_copy_splice rfl (.tmp 50) (.tmp 52) 22 22 rfl 5 undB (by kernel_rfl) _ _ _ _ _ _ rfl rfl g off.toNat cur 5 HGG.out (encs encB d) (by rw [HCS.out]; exact (Nat.min_eq_left (by omega)).symm) (fun hp => ⟨rfl, HSRC.out _ HR3.out hp⟩) (by rw [HCS.out, HCL.out]; exact hXc) HONE.out w1.heap.size w1 (below_drew HB3.out) hgb ?_; intro w4 hg4 hb4)
          go_wp2_with fail
          all_goals go_ret
          all_goals exact ⟨_, rfl, by rw [HY.out]; exact (HSP.out _ hg4.out).lower HB1.out.size, below_step' HB1.out hb4⟩
        · have hmm : off + (d.length : Int) ≤ 1048576 := by omega
          obtain ⟨X, hX⟩ : ∃ X, X = b ++ List.replicate (off.toNat + d.length - b.length) (0 : UInt8) := ⟨_, rfl⟩
          have HY := Lib.hid (show applyL b false off d = over X off.toNat d from by
            unfold applyL
            rw [if_neg (by simp [hok]; intro h; rw [h] at hde0; exact hde0 rfl), if_neg (by decide), hX])
          have HX := Lib.hid (show List.take (min b.length (List.replicate (off + (d.length : Int)).toNat (0 : UInt8)).length) b ++ List.drop (min b.length (List.replicate (off + (d.length : Int)).toNat (0 : UInt8)).length) (List.replicate (off + (d.length : Int)).toNat (0 : UInt8)) = X from by
            rw [hX, List.length_replicate, Nat.min_eq_left (by omega), List.take_length, List.drop_replicate]
            congr 2; omega)
          have hXl : X.length = (off + (d.length : Int)).toNat := by rw [hX, List.length_append, List.length_replicate]; omega
          clear hX
          have hoff : off.toNat + d.length ≤ X.length := by omega
          have hX0 : 0 < X.length := by omega
          have HXL := Lib.hid hXl
          clear hXl hde0 hok
          go_enter Try.func15, Try.ntmps15
          go_wp2_with fail
          refine (HRT.out _).mono ?_
          rintro e w1 ⟨rfl, hb1⟩
          have HB1 := Lib.hid (below_step' HBA.out hb1)
          have hc0 : w1.cell? ⟨w.heap.size, 0, none⟩ = some (.bool false) := box_cell hb1 0
          have hc1 : w1.cell? ⟨w.heap.size, 1, none⟩ = some (.int .i64 off) := box_cell hb1 1
          have hc2 : w1.cell? ⟨w.heap.size, 2, none⟩ = some (.slice A2 d.length c2) := box_cell hb1 2
          clear hb1
          go_wp2_with (first
            | (at_make; refine make_u8 (w0 := w1) w1.heap.size rfl (.tmp 42) (.tmp 42) rfl (off + (d.length : Int)) (off + (d.length : Int)) rfl rfl (by omega) (by omega) (by omega) (Below.refl _ _) (Nat.le_refl _) ?_; intro v2 w2 hown hb2; have HO2 := Lib.hid hown; have HB2 := Lib.hid hb2; clear hown hb2)
            | ((with_reducible refine gate_ (.call { callee := .builtin .copy, args := #[.tmp 44, .tmp 45], argTypes := #[22, 22] }) rfl ?_); refine copy_u8 (w0 := w1) w1.heap.size rfl (.tmp 44) (.tmp 45) rfl v2 _ b A b.length c rfl rfl rfl HO2.out ((HR.out.below HB1.out).below HB2.out) HB2.out HB2.out.size ?_; intro w3 hown hb3 hg; rw [HX.out] at hown; have HO3 := Lib.hid hown; have HB3 := Lib.hid hb3; have HG := Lib.hid hg; clear hown hb3 hg))
          obtain ⟨g, cap, cur, rfl, hgb, hg, hn, hm2, hcl, hct⟩ := HO3.out.row hX0
          have hd1 := cell_keep hc1 HB3.out
          have hd2 := cell_keep hc2 HB3.out
          have hcut := fun (W : World) => cutOwn (g := g) off hrange.1 (show off ≤ (X.length : Int) by omega) hn (show off.toNat < cap by omega) W
          have hcs : (encs encB d).length = d.length := by simp [encs]
          have HSP := Lib.hid (fun (w' : World) hg' => Own.of_splice (w' := w') (ys := d) (off := off.toNat) hgb hn hm2 hcl hct hoff hg')
          have HSRC := Lib.hid (fun (W : World) (h : Rd W A2 d) => (show 0 < (encs encB d).length → ∃ ad, A2 = some ad ∧ ∀ j v, (encs encB d)[j]? = some v → W.cell? (ad.add j) = some v from fun _ => by
            obtain ⟨ad, h1, -⟩ := h.at_ 0 (by omega)
            subst h1
            exact ⟨ad, rfl, h.src⟩))
          have HR3 := Lib.hid ((HR2.out.below HB1.out).below HB3.out)
          have HGG := Lib.hid hg
          have HONE := Lib.hid (show ∀ v ∈ encs encB d, v.oneCell' = true from by
            intro v hv
            obtain ⟨x, -, rfl⟩ := List.mem_map.1 hv
            rfl)
          have HCS := Lib.hid hcs
          have HCL := Lib.hid hcl
          have hXc : off.toNat + d.length ≤ cap := by omega
          clear hcs hcl hct hg
          go_region_law (refine step_copy_splice rfl (.tmp 50) (.tmp 52) 22 22 rfl 5 undB (by kernel_rfl) _ _ _ _ _ _ rfl rfl g off.toNat cur 5 HGG.out (encs encB d) (by rw [HCS.out]; exact (Nat.min_eq_left (by omega)).symm) (fun hp => ⟨rfl, HSRC.out _ HR3.out hp⟩) (by rw [HCS.out, HCL.out]; exact hXc) HONE.out w1.heap.size w1 (below_drew HB3.out) hgb ?_; intro w4 hg4 hb4)
          go_wp2_with fail
          all_goals go_ret
          all_goals exact ⟨_, rfl, by rw [HY.out]; exact (HSP.out _ hg4.out).lower HB1.out.size, below_step' HB1.out hb4⟩
  · have hok' : rightB off d.length = false := by simpa using hok
    rw [hok'] at HRT
    have HY := Lib.hid (show applyL b cut off d = b from by unfold applyL; rw [if_pos (.inl hok')])
    clear hok hok'
    go_enter Try.func15, Try.ntmps15
    go_wp2_with fail
    refine (HRT.out _).mono ?_
    rintro e w1 ⟨rfl, hb1⟩
    have HB1 := Lib.hid (below_step' HBA.out hb1)
    clear hb1
    go_wp2_with fail
    refine (Cl.clone_any A c b w1 (by omega) (HR.out.below HB1.out)).mono ?_
    rintro e w2 ⟨v2, rfl, hown, hb2⟩
    have HO := Lib.hid (hown.lower HB1.out.size)
    have HB2 := Lib.hid (below_step' HB1.out hb2)
    clear hown hb2
    go_wp2_with fail
    go_ret
    exact ⟨v2, rfl, by rw [HY.out]; exact HO.out, HB2.out⟩
end Go.Proofs.Ytkgbimkjpllakaa.Wr
