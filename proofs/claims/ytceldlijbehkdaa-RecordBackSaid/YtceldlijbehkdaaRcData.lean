/- record.data. -/
import Derived.Test.YtceldlijbehkdaaRcRight
import Derived.Test.YtceldlijbehkdaaRcCat
import Derived.Test.YtceldlijbehkdaaFrMake
import Derived.Test.YtceldlijbehkdaaCut
import Derived.Deep.RegionHeld3
import Derived.Lib.SlBytesConst
set_option linter.unusedVariables false
set_option linter.unusedSimpArgs false
namespace Go.Proofs.Ytceldlijbehkdaa.Rc
open Go.RowKit Go.Proofs.YtceldlijbehkdaaW.PrintWords Go.Proofs.Ytceldlijbehkdaa.B Go.Proofs.Ytceldlijbehkdaa.Fx Go.Proofs.Ytceldlijbehkdaa.Fr
def magicL : List UInt8 := [115, 116, 105, 108, 108, 97, 103, 101]
/-- a record's data -/
def dataL (k : Int) (d nm l : List UInt8) (n z : Int) : List UInt8 :=
  if k = 1 ∨ k = 2 then d ++ l
  else if k = 3 then [UInt8.ofNat nm.length] ++ nm ++ d
  else if k = 4 then [UInt8.ofNat nm.length] ++ nm
  else if k = 5 then d
  else if k = 7 then magicL ++ putB n.toNat 8
  else putB n.toNat 4 ++ putB z.toNat 4
theorem right_in {k : Int} {m : Nat} {nm : List UInt8} {n z : Int} (h : rightE k m nm n z = 0) : (k = 1 ∧ m ≤ 65504) ∨ (k = 2 ∧ m ≤ 65504) ∨ (k = 3 ∧ tagB nm = true) ∨ (k = 4 ∧ tagB nm = true) ∨ k = 5 ∨ (k = 6 ∧ 0 ≤ n ∧ n ≤ 4294967295 ∧ 0 ≤ z ∧ z ≤ 4294967295) ∨ (k = 7 ∧ 1 ≤ n ∧ n ≤ 99999999) ∨ (k = 8 ∧ 0 ≤ n ∧ n ≤ 4294967295 ∧ 0 ≤ z ∧ z ≤ 4294967295) := by
  unfold rightE at h
  by_cases h1 : k = 1 ∨ k = 2
  · rw [if_pos h1] at h
    by_cases h2 : 65504 < m
    · rw [if_pos h2] at h; omega
    · omega
  rw [if_neg h1] at h
  by_cases h2 : k = 3 ∨ k = 4
  · rw [if_pos h2] at h
    cases ht : tagB nm with
    | false => rw [ht] at h; cases h
    | true => rcases h2 with h2 | h2
              · exact .inr (.inr (.inl ⟨h2, rfl⟩))
              · exact .inr (.inr (.inr (.inl ⟨h2, rfl⟩)))
  rw [if_neg h2] at h
  by_cases h3 : k = 5
  · exact .inr (.inr (.inr (.inr (.inl h3))))
  rw [if_neg h3] at h
  by_cases h4 : k = 6 ∨ k = 8
  · rw [if_pos h4] at h
    by_cases h5 : 0 ≤ n ∧ n ≤ 4294967295 ∧ 0 ≤ z ∧ z ≤ 4294967295
    · rcases h4 with h4 | h4
      · exact .inr (.inr (.inr (.inr (.inr (.inl ⟨h4, h5⟩)))))
      · exact .inr (.inr (.inr (.inr (.inr (.inr (.inr ⟨h4, h5⟩))))))
    · rw [if_neg h5] at h; cases h
  rw [if_neg h4] at h
  by_cases h6 : k = 7
  · rw [if_pos h6] at h
    by_cases h5 : 1 ≤ n ∧ n ≤ 99999999
    · exact .inr (.inr (.inr (.inr (.inr (.inr (.inl ⟨h6, h5⟩))))))
    · rw [if_neg h5] at h; cases h
  · rw [if_neg h6] at h; cases h
theorem tag_len {nm : List UInt8} (h : tagB nm = true) : 1 ≤ nm.length ∧ nm.length ≤ 32 := by
  unfold tagB at h
  rw [Bool.and_eq_true] at h
  exact of_decide_eq_true h.1
theorem data_len {k : Int} {d nm l : List UInt8} {n z : Int} (hd : d.length = 32) (h : rightE k l.length nm n z = 0) : (dataL k d nm l n z).length ≤ 65536 := by
  rcases right_in h with ⟨rfl, q⟩ | ⟨rfl, q⟩ | ⟨rfl, q⟩ | ⟨rfl, q⟩ | rfl | ⟨rfl, q⟩ | ⟨rfl, q⟩ | ⟨rfl, q⟩
  · show (d ++ l).length ≤ _; rw [List.length_append]; omega
  · show (d ++ l).length ≤ _; rw [List.length_append]; omega
  · have := tag_len q
    show ([UInt8.ofNat nm.length] ++ nm ++ d).length ≤ _; simp only [List.length_append, List.length_cons, List.length_nil]; omega
  · have := tag_len q
    show ([UInt8.ofNat nm.length] ++ nm).length ≤ _; simp only [List.length_append, List.length_cons, List.length_nil]; omega
  · show d.length ≤ _; omega
  · show (putB n.toNat 4 ++ putB z.toNat 4).length ≤ _; rw [List.length_append, putB_length, putB_length]; decide
  · show (magicL ++ putB n.toNat 8).length ≤ _; rw [List.length_append, putB_length]; decide
  · show (putB n.toNat 4 ++ putB z.toNat 4).length ≤ _; rw [List.length_append, putB_length, putB_length]; decide
theorem putText_ok {s : List UInt8} (h : s.length ≤ 255) : putTextL [] s = [UInt8.ofNat s.length] ++ s := by
  unfold putTextL; rw [if_pos h]; rfl
set_option maxRecDepth 100000 in
set_option maxHeartbeats 3200000 in
theorem data_any (X : Array Value) (k : Int) (s : Nat) (d : List UInt8) (nm : ByteArray) (A : Option Addr) (l : List UInt8) (c : Nat) (n z : Int) (w : World) (hX : RecF X k s d nm A l.length c n z) (hr : Rd w A l) (hk : rightE k l.length nm.data.toList n z = 0) :
    Calls Try.prog 50 #[.agg X] w (Made w (dataL k d nm.data.toList l n z)) := by
  have h0 := hX.c0
  have h34 := hX.c34
  have h35 := hX.c35
  have h36 := hX.c36
  have h37 := hX.c37
  have hsz : nm.data.toList.length = nm.size := by simp
  obtain ⟨w1, hw1⟩ : ∃ w1, w.alloc (.cells X 27) = w1 := ⟨_, rfl⟩
  have hg : w1.heap[w.heap.size]? = some (.cells X 27 (0, 0)) := hw1 ▸ blk_new w _
  have hb0 : Below w.heap.size w w1 := hw1 ▸ below_alloc (Below.refl _ _) _
  have HRD := Lib.hid (hX.rd hg)
  have HB0 := Lib.hid hb0
  have HR := Lib.hid (hr.below hb0)
  have HG := Lib.hid hg
  have hdl := hX.dl
  have hcc := fun i => blk_cell HG.out i
  have hzz := blk_lt HG.out
  have hin := right_in hk
  clear hX hg hb0 hr hk
  rcases hin with ⟨rfl, hin⟩ | ⟨rfl, hin⟩ | ⟨rfl, hin⟩ | ⟨rfl, hin⟩ | rfl | ⟨rfl, hin⟩ | ⟨rfl, hin⟩ | ⟨rfl, hin⟩
  · have HE := Lib.hid (show dataL 1 d nm.data.toList l n z = d ++ l from rfl)
    have hll : d.length + l.length ≤ 140737488355328 := by omega
    have HS := Lib.hid (fun (W : World) (h : Below w1.heap.size w1 W) => (show W.cell? ⟨w.heap.size, 35, none⟩ = some (.slice A l.length c) ∧ Below w1.heap.size w1 W from ⟨(by rw [blk_cell (blk_below HG.out h) 35]; exact h35), h⟩))
    have HCC := Lib.hid (fun (W : World) (g : Nat) (t : TypeId) (hg : W.heap[g]? = some (.cells #[.slice (some ⟨w.heap.size, 2, none⟩) 32 32, .slice A l.length c] t (0, 0))) (h1 : Rd W (some ⟨w.heap.size, 2, none⟩) d) (h2 : Rd W A l) => concat_any g t _ A 32 c d l W (by rw [hdl]; exact hg) h1 h2 hll)
    clear h34 h36 h37 hsz
    go_enter Try.func50, Try.ntmps50
    go_wp2_with fail
    clear hw1
    have hx0 : Below w1.heap.size w1 w1.drew := below_drew (Below.refl _ _)
    have hs := HS.out _ hx0
    go_region_held3 (fun W => W.cell? ⟨w.heap.size, 35, none⟩ = some (.slice A l.length c) ∧ Below w1.heap.size w1 W) (first | assumption | exact HS.out _ (by assumption) | exact HS.out _ (below_alloc (by assumption) _))
      (first
        | (go_at_call 73; refine (HCC.out _ _ _ (blk_new _ _) (HRD.out.below (below_alloc hx0 _)) (HR.out.below (below_alloc hx0 _))).mono ?_; rintro e w2 ⟨v2, rfl, ho, hb⟩; have hx2 := below_step' (below_alloc hx0 _) hb; have HO2 := Lib.hid (show Own w2 w.heap.size v2 (d ++ l) from ho.lower (Nat.le_trans HB0.out.size (by simp))); clear ho hb)
        | fail)
    have HB2 := Lib.hid (below_step' HB0.out hx2)
    go_wp2_with fail
    go_ret
    rw [HE.out]
    exact ⟨_, rfl, HO2.out, HB2.out⟩
  · have HE := Lib.hid (show dataL 2 d nm.data.toList l n z = d ++ l from rfl)
    have hll : d.length + l.length ≤ 140737488355328 := by omega
    have HS := Lib.hid (fun (W : World) (h : Below w1.heap.size w1 W) => (show W.cell? ⟨w.heap.size, 35, none⟩ = some (.slice A l.length c) ∧ Below w1.heap.size w1 W from ⟨(by rw [blk_cell (blk_below HG.out h) 35]; exact h35), h⟩))
    have HCC := Lib.hid (fun (W : World) (g : Nat) (t : TypeId) (hg : W.heap[g]? = some (.cells #[.slice (some ⟨w.heap.size, 2, none⟩) 32 32, .slice A l.length c] t (0, 0))) (h1 : Rd W (some ⟨w.heap.size, 2, none⟩) d) (h2 : Rd W A l) => concat_any g t _ A 32 c d l W (by rw [hdl]; exact hg) h1 h2 hll)
    clear h34 h36 h37 hsz
    go_enter Try.func50, Try.ntmps50
    go_wp2_with fail
    clear hw1
    have hx0 : Below w1.heap.size w1 w1.drew := below_drew (Below.refl _ _)
    have hs := HS.out _ hx0
    go_region_held3 (fun W => W.cell? ⟨w.heap.size, 35, none⟩ = some (.slice A l.length c) ∧ Below w1.heap.size w1 W) (first | assumption | exact HS.out _ (by assumption) | exact HS.out _ (below_alloc (by assumption) _))
      (first
        | (go_at_call 73; refine (HCC.out _ _ _ (blk_new _ _) (HRD.out.below (below_alloc hx0 _)) (HR.out.below (below_alloc hx0 _))).mono ?_; rintro e w2 ⟨v2, rfl, ho, hb⟩; have hx2 := below_step' (below_alloc hx0 _) hb; have HO2 := Lib.hid (show Own w2 w.heap.size v2 (d ++ l) from ho.lower (Nat.le_trans HB0.out.size (by simp))); clear ho hb)
        | fail)
    have HB2 := Lib.hid (below_step' HB0.out hx2)
    go_wp2_with fail
    go_ret
    rw [HE.out]
    exact ⟨_, rfl, HO2.out, HB2.out⟩
  · have htl := tag_len hin
    have h255 : nm.data.toList.length ≤ 255 := by omega
    have HE := Lib.hid (show dataL 3 d nm.data.toList l n z = putTextL [] nm.data.toList ++ d by rw [putText_ok h255]; rfl)
    have hpl : (putTextL [] nm.data.toList).length + d.length ≤ 140737488355328 := by rw [putText_ok h255]; simp only [List.length_append, List.length_cons, List.length_nil]; omega
    have HPT := Lib.hid (fun (W : World) => putText_any none 0 [] nm W (by simp; omega) (Rd.nil W))
    clear h35 h36 h37 hsz
    go_enter Try.func50, Try.ntmps50
    go_wp2_with fail
    clear hw1
    refine (HPT.out _).mono ?_
    rintro e w1 ⟨v1, rfl, ho, hb⟩
    have HO1 := Lib.hid (show Own w1 w.heap.size v1 (putTextL [] nm.data.toList) from ho.lower HB0.out.size)
    have HB1 := Lib.hid (below_step' HB0.out hb)
    have HRD1 := Lib.hid (HRD.out.below hb)
    have HG1 := Lib.hid (blk_below HG.out hb)
    have hc1 := fun i => blk_cell HG1.out i
    clear ho hb hcc
    go_wp2_with (at_builtin; refine appRow (w0 := w) w.heap.size rfl (.tmp 27) (.tmp 29) rfl v1 (putTextL [] nm.data.toList) d (some ⟨w.heap.size, 2, none⟩) 32 32 rfl rfl hdl.symm HO1.out HRD1.out HB1.out HB1.out.size hpl ?_; intro v2 w2 hown hb _ _; have HO2 := Lib.hid hown; have HB2 := Lib.hid hb; clear hown hb)
    go_ret
    rw [HE.out]
    exact ⟨_, rfl, HO2.out, HB2.out⟩
  · have htl := tag_len hin
    have h255 : nm.data.toList.length ≤ 255 := by omega
    have HE := Lib.hid (show dataL 4 d nm.data.toList l n z = putTextL [] nm.data.toList by rw [putText_ok h255]; rfl)
    have HPT := Lib.hid (fun (W : World) => putText_any none 0 [] nm W (by simp; omega) (Rd.nil W))
    clear h35 h36 h37 hsz
    go_enter Try.func50, Try.ntmps50
    go_wp2_with fail
    clear hw1
    refine (HPT.out _).mono ?_
    rintro e w1 ⟨v1, rfl, ho, hb⟩
    have HO1 := Lib.hid (show Own w1 w.heap.size v1 (putTextL [] nm.data.toList) from ho.lower HB0.out.size)
    have HB1 := Lib.hid (below_step' HB0.out hb)
    have HG1 := Lib.hid (blk_below HG.out hb)
    have hc1 := fun i => blk_cell HG1.out i
    clear ho hb hcc
    go_wp2_with fail
    go_ret
    rw [HE.out]
    exact ⟨_, rfl, HO1.out, HB1.out⟩
  · have HE := Lib.hid (show dataL 5 d nm.data.toList l n z = [] ++ d from rfl)
    have hpl : ([] : List UInt8).length + d.length ≤ 140737488355328 := by simp; omega
    clear h34 h35 h36 h37 hsz
    go_enter Try.func50, Try.ntmps50
    go_wp2_with (at_builtin; refine appRow (w0 := w) w.heap.size rfl (.tmp 27) (.tmp 29) rfl (.slice none 0 0) [] d (some ⟨w.heap.size, 2, none⟩) 32 32 rfl rfl hdl.symm (Own.nil _ _) HRD.out HB0.out HB0.out.size hpl ?_; intro v2 w2 hown hb _ _; have HO2 := Lib.hid hown; have HB2 := Lib.hid hb; clear hown hb)
    go_ret
    rw [HE.out]
    exact ⟨_, rfl, HO2.out, HB2.out⟩
  · obtain ⟨n', rfl⟩ := Int.eq_ofNat_of_zero_le hin.1
    obtain ⟨z', rfl⟩ := Int.eq_ofNat_of_zero_le hin.2.2.1
    have HE := Lib.hid (show dataL 6 d nm.data.toList l n' z' = putL (putL [] n' 4) z' 4 by rw [putL4, putL4]; rfl)
    have hwn : IntKind.u64.wrap (n' : Int) = (n' : Int) := IntWalk.u64_in _ (by omega)
    have hwz : IntKind.u64.wrap (z' : Int) = (z' : Int) := IntWalk.u64_in _ (by omega)
    have HP1 := Lib.hid (fun (W : World) => put_any none 0 [] n' 4 W (by simp) (by omega) (Rd.nil W))
    have hpl : (putL [] n' 4).length ≤ 140737488355000 := by rw [putL4, List.nil_append, putB_length]; decide
    have HP2 := Lib.hid (fun (W : World) (A' : Option Addr) (c' : Nat) (h : Rd W A' (putL [] n' 4)) => put_any A' c' (putL [] n' 4) z' 4 W hpl (by omega) h)
    clear h34 h35 hsz hpl
    go_enter Try.func50, Try.ntmps50
    go_wp2_with fail
    clear hw1
    have hx0 : Below w1.heap.size w1 w1.drew := below_drew (Below.refl _ _)
    refine wp_region_held_drew (S := fun W => Below w1.heap.size w1 W) (by kernel_rfl) hx0 (fun hHeld => ?_)
    refine wpAnyH_take (i := 0) (v := _) rfl (by kernel_rfl) (by kernel_rfl) (by kernel_rfl) (fun _ _ _ h => h) (Or.inl ⟨by kernel_rfl, fun w _ => by go_simp <;> with_reducible rfl⟩) hHeld ?_
    simp only [List.getElem_toArray, List.getElem_cons_succ, List.getElem_cons_zero, Act.put, List.setIfInBounds_toArray, List.set_cons_zero, List.set_cons_succ]
    refine wpAnyH_take (i := 1) (v := _) rfl (by kernel_rfl) (by kernel_rfl) (by kernel_rfl) (fun _ _ _ h => h) (Or.inl ⟨by kernel_rfl, fun w _ => by go_simp <;> with_reducible rfl⟩) hHeld ?_
    simp only [List.getElem_toArray, List.getElem_cons_succ, List.getElem_cons_zero, Act.put, List.setIfInBounds_toArray, List.set_cons_zero, List.set_cons_succ]
    refine wpAnyH_take (i := 2) (v := .int .i64 n') rfl (by kernel_rfl) (by kernel_rfl) (by kernel_rfl) (fun _ _ _ h => h) (Or.inl ⟨by kernel_rfl, fun W h => by have q0 := blk_cell (blk_below HG.out h) 36; go_simp <;> with_reducible rfl⟩) hHeld ?_
    simp only [List.getElem_toArray, List.getElem_cons_succ, List.getElem_cons_zero, Act.put, List.setIfInBounds_toArray, List.set_cons_zero, List.set_cons_succ]
    refine wpAnyH_take (i := 3) (v := _) rfl (by kernel_rfl) (by kernel_rfl) (by kernel_rfl) (fun _ _ _ h => h) (Or.inl ⟨by kernel_rfl, fun w _ => by go_simp <;> with_reducible rfl⟩) hHeld ?_
    simp only [List.getElem_toArray, List.getElem_cons_succ, List.getElem_cons_zero, Act.put, List.setIfInBounds_toArray, List.set_cons_zero, List.set_cons_succ]
    refine wpAnyH_take (i := 5) (v := _) rfl (by kernel_rfl) (by kernel_rfl) (by kernel_rfl) (fun _ _ _ h => h) (Or.inl ⟨by kernel_rfl, fun w _ => by go_simp <;> with_reducible rfl⟩) hHeld ?_
    simp only [List.getElem_toArray, List.getElem_cons_succ, List.getElem_cons_zero, Act.put, List.setIfInBounds_toArray, List.set_cons_zero, List.set_cons_succ]
    refine wpAnyH_take (i := 6) (v := .int .i64 z') rfl (by kernel_rfl) (by kernel_rfl) (by kernel_rfl) (fun _ _ _ h => h) (Or.inl ⟨by kernel_rfl, fun W h => by have q0 := blk_cell (blk_below HG.out h) 37; go_simp <;> with_reducible rfl⟩) hHeld ?_
    simp only [List.getElem_toArray, List.getElem_cons_succ, List.getElem_cons_zero, Act.put, List.setIfInBounds_toArray, List.set_cons_zero, List.set_cons_succ]
    refine wpAnyH_take (i := 7) (v := _) rfl (by kernel_rfl) (by kernel_rfl) (by kernel_rfl) (fun _ _ _ h => h) (Or.inl ⟨by kernel_rfl, fun w _ => by go_simp <;> with_reducible rfl⟩) hHeld ?_
    simp only [List.getElem_toArray, List.getElem_cons_succ, List.getElem_cons_zero, Act.put, List.setIfInBounds_toArray, List.set_cons_zero, List.set_cons_succ]
    refine wpAnyH_ready (rs := [4]) (by kernel_rfl) (by simp) ?_
    refine AllReadyH.cons rfl (fun K hK => ?_) ?_
    case refine_2 => exact AllReadyH.nil
    go_simp
    refine (HP1.out _).mono ?_
    rintro e w2 ⟨v2, rfl, ho, hb⟩
    obtain ⟨A2, c2, rfl, -, hr2⟩ := ho.reads
    have HR2 := Lib.hid hr2
    refine hK.out _ _ (below_step' hHeld hb) (fun hHeld => ?_)
    clear hK K
    try simp only [List.getElem_toArray, List.getElem_cons_succ, List.getElem_cons_zero, Act.put, List.setIfInBounds_toArray, List.set_cons_zero, List.set_cons_succ]
    clear ho hr2 hb
    refine wpAnyH_ready (rs := [8]) (by kernel_rfl) (by simp) ?_
    refine AllReadyH.cons rfl (fun K hK => ?_) ?_
    case refine_2 => exact AllReadyH.nil
    go_simp
    refine (HP2.out _ _ _ HR2.out).mono ?_
    rintro e w3 ⟨v3, rfl, ho, hb⟩
    have HO3 := Lib.hid (show Own w3 w.heap.size v3 _ from ho.lower (Nat.le_trans HB0.out.size hHeld.size))
    refine hK.out _ _ (below_step' hHeld hb) (fun hHeld => ?_)
    clear hK K
    try simp only [List.getElem_toArray, List.getElem_cons_succ, List.getElem_cons_zero, Act.put, List.setIfInBounds_toArray, List.set_cons_zero, List.set_cons_succ]
    clear ho hb
    refine wpAnyH_take (i := 9) (v := _) rfl (by kernel_rfl) (by kernel_rfl) (by kernel_rfl) (fun _ _ _ h => h) (Or.inl ⟨by kernel_rfl, fun w _ => by go_simp <;> with_reducible rfl⟩) hHeld ?_
    simp only [List.getElem_toArray, List.getElem_cons_succ, List.getElem_cons_zero, Act.put, List.setIfInBounds_toArray, List.set_cons_zero, List.set_cons_succ]
    refine wpAnyH_done (by kernel_rfl) ?_ _
    have HB2 := Lib.hid (below_step' HB0.out hHeld)
    go_wp2_with fail
    go_ret
    rw [HE.out]
    exact ⟨_, rfl, HO3.out, HB2.out⟩
  · obtain ⟨n', rfl⟩ := Int.eq_ofNat_of_zero_le (show 0 ≤ n by omega)
    have HE := Lib.hid (show dataL 7 d nm.data.toList l n' z = putL magicL n' 8 by rw [putL8]; rfl)
    have hwn : IntKind.u64.wrap (n' : Int) = (n' : Int) := IntWalk.u64_in _ (by omega)
    have HP1 := Lib.hid (fun (W : World) (A' : Option Addr) (c' : Nat) (h : Rd W A' magicL) => (show Calls Try.prog 70 #[.slice A' 8 c', .int .u64 n', .int .i64 8] W (Made W (putL magicL n' 8)) from put_any A' c' magicL n' 8 W (by decide) (by omega) h))
    have c36 : w1.cell? ⟨w.heap.size, 36, none⟩ = some (.int .i64 n') := by rw [blk_cell HG.out 36]; exact h36
    have HL := Lib.hid (CrcW.rd_mark w1 magicL _ (8, 9) rfl (by decide))
    have HBL := Lib.hid (below_alloc HB0.out (.cells (magicL.map encB).toArray 5 (8, 9)))
    have kc := fun (w : World) (C : Array Value) (n c : Nat) => Lib.run_convert_bytes_const (P := Try.prog) w 22 5 C n c undB Try.underlying5
    clear h34 h35 h37 hsz
    go_enter Try.func50, Try.ntmps50
    go_wp2_with fail
    refine (HP1.out _ _ _ HL.out).mono ?_
    rintro e w2 ⟨v2, rfl, ho, hb⟩
    have HO2 := Lib.hid (show Own w2 w.heap.size v2 _ from ho.lower HBL.out.size)
    have HB2 := Lib.hid (below_step' HBL.out hb)
    clear ho hb
    go_wp2_with fail
    go_ret
    rw [HE.out]
    exact ⟨_, rfl, HO2.out, HB2.out⟩
  · obtain ⟨n', rfl⟩ := Int.eq_ofNat_of_zero_le hin.1
    obtain ⟨z', rfl⟩ := Int.eq_ofNat_of_zero_le hin.2.2.1
    have HE := Lib.hid (show dataL 8 d nm.data.toList l n' z' = putL (putL [] n' 4) z' 4 by rw [putL4, putL4]; rfl)
    have hwn : IntKind.u64.wrap (n' : Int) = (n' : Int) := IntWalk.u64_in _ (by omega)
    have hwz : IntKind.u64.wrap (z' : Int) = (z' : Int) := IntWalk.u64_in _ (by omega)
    have HP1 := Lib.hid (fun (W : World) => put_any none 0 [] n' 4 W (by simp) (by omega) (Rd.nil W))
    have hpl : (putL [] n' 4).length ≤ 140737488355000 := by rw [putL4, List.nil_append, putB_length]; decide
    have HP2 := Lib.hid (fun (W : World) (A' : Option Addr) (c' : Nat) (h : Rd W A' (putL [] n' 4)) => put_any A' c' (putL [] n' 4) z' 4 W hpl (by omega) h)
    clear h34 h35 hsz hpl
    go_enter Try.func50, Try.ntmps50
    go_wp2_with fail
    clear hw1
    have hx0 : Below w1.heap.size w1 w1.drew := below_drew (Below.refl _ _)
    refine wp_region_held_drew (S := fun W => Below w1.heap.size w1 W) (by kernel_rfl) hx0 (fun hHeld => ?_)
    refine wpAnyH_take (i := 0) (v := _) rfl (by kernel_rfl) (by kernel_rfl) (by kernel_rfl) (fun _ _ _ h => h) (Or.inl ⟨by kernel_rfl, fun w _ => by go_simp <;> with_reducible rfl⟩) hHeld ?_
    simp only [List.getElem_toArray, List.getElem_cons_succ, List.getElem_cons_zero, Act.put, List.setIfInBounds_toArray, List.set_cons_zero, List.set_cons_succ]
    refine wpAnyH_take (i := 1) (v := _) rfl (by kernel_rfl) (by kernel_rfl) (by kernel_rfl) (fun _ _ _ h => h) (Or.inl ⟨by kernel_rfl, fun w _ => by go_simp <;> with_reducible rfl⟩) hHeld ?_
    simp only [List.getElem_toArray, List.getElem_cons_succ, List.getElem_cons_zero, Act.put, List.setIfInBounds_toArray, List.set_cons_zero, List.set_cons_succ]
    refine wpAnyH_take (i := 2) (v := .int .i64 n') rfl (by kernel_rfl) (by kernel_rfl) (by kernel_rfl) (fun _ _ _ h => h) (Or.inl ⟨by kernel_rfl, fun W h => by have q0 := blk_cell (blk_below HG.out h) 36; go_simp <;> with_reducible rfl⟩) hHeld ?_
    simp only [List.getElem_toArray, List.getElem_cons_succ, List.getElem_cons_zero, Act.put, List.setIfInBounds_toArray, List.set_cons_zero, List.set_cons_succ]
    refine wpAnyH_take (i := 3) (v := _) rfl (by kernel_rfl) (by kernel_rfl) (by kernel_rfl) (fun _ _ _ h => h) (Or.inl ⟨by kernel_rfl, fun w _ => by go_simp <;> with_reducible rfl⟩) hHeld ?_
    simp only [List.getElem_toArray, List.getElem_cons_succ, List.getElem_cons_zero, Act.put, List.setIfInBounds_toArray, List.set_cons_zero, List.set_cons_succ]
    refine wpAnyH_take (i := 5) (v := _) rfl (by kernel_rfl) (by kernel_rfl) (by kernel_rfl) (fun _ _ _ h => h) (Or.inl ⟨by kernel_rfl, fun w _ => by go_simp <;> with_reducible rfl⟩) hHeld ?_
    simp only [List.getElem_toArray, List.getElem_cons_succ, List.getElem_cons_zero, Act.put, List.setIfInBounds_toArray, List.set_cons_zero, List.set_cons_succ]
    refine wpAnyH_take (i := 6) (v := .int .i64 z') rfl (by kernel_rfl) (by kernel_rfl) (by kernel_rfl) (fun _ _ _ h => h) (Or.inl ⟨by kernel_rfl, fun W h => by have q0 := blk_cell (blk_below HG.out h) 37; go_simp <;> with_reducible rfl⟩) hHeld ?_
    simp only [List.getElem_toArray, List.getElem_cons_succ, List.getElem_cons_zero, Act.put, List.setIfInBounds_toArray, List.set_cons_zero, List.set_cons_succ]
    refine wpAnyH_take (i := 7) (v := _) rfl (by kernel_rfl) (by kernel_rfl) (by kernel_rfl) (fun _ _ _ h => h) (Or.inl ⟨by kernel_rfl, fun w _ => by go_simp <;> with_reducible rfl⟩) hHeld ?_
    simp only [List.getElem_toArray, List.getElem_cons_succ, List.getElem_cons_zero, Act.put, List.setIfInBounds_toArray, List.set_cons_zero, List.set_cons_succ]
    refine wpAnyH_ready (rs := [4]) (by kernel_rfl) (by simp) ?_
    refine AllReadyH.cons rfl (fun K hK => ?_) ?_
    case refine_2 => exact AllReadyH.nil
    go_simp
    refine (HP1.out _).mono ?_
    rintro e w2 ⟨v2, rfl, ho, hb⟩
    obtain ⟨A2, c2, rfl, -, hr2⟩ := ho.reads
    have HR2 := Lib.hid hr2
    refine hK.out _ _ (below_step' hHeld hb) (fun hHeld => ?_)
    clear hK K
    try simp only [List.getElem_toArray, List.getElem_cons_succ, List.getElem_cons_zero, Act.put, List.setIfInBounds_toArray, List.set_cons_zero, List.set_cons_succ]
    clear ho hr2 hb
    refine wpAnyH_ready (rs := [8]) (by kernel_rfl) (by simp) ?_
    refine AllReadyH.cons rfl (fun K hK => ?_) ?_
    case refine_2 => exact AllReadyH.nil
    go_simp
    refine (HP2.out _ _ _ HR2.out).mono ?_
    rintro e w3 ⟨v3, rfl, ho, hb⟩
    have HO3 := Lib.hid (show Own w3 w.heap.size v3 _ from ho.lower (Nat.le_trans HB0.out.size hHeld.size))
    refine hK.out _ _ (below_step' hHeld hb) (fun hHeld => ?_)
    clear hK K
    try simp only [List.getElem_toArray, List.getElem_cons_succ, List.getElem_cons_zero, Act.put, List.setIfInBounds_toArray, List.set_cons_zero, List.set_cons_succ]
    clear ho hb
    refine wpAnyH_take (i := 9) (v := _) rfl (by kernel_rfl) (by kernel_rfl) (by kernel_rfl) (fun _ _ _ h => h) (Or.inl ⟨by kernel_rfl, fun w _ => by go_simp <;> with_reducible rfl⟩) hHeld ?_
    simp only [List.getElem_toArray, List.getElem_cons_succ, List.getElem_cons_zero, Act.put, List.setIfInBounds_toArray, List.set_cons_zero, List.set_cons_succ]
    refine wpAnyH_done (by kernel_rfl) ?_ _
    have HB2 := Lib.hid (below_step' HB0.out hHeld)
    go_wp2_with fail
    go_ret
    rw [HE.out]
    exact ⟨_, rfl, HO3.out, HB2.out⟩
end Go.Proofs.Ytceldlijbehkdaa.Rc
