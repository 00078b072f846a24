/- record.Make, record.Size; the document's Make, Size. -/
import Derived.Test.YtceldlijbehkdaaRcRData
import Derived.Test.YtceldlijbehkdaaFrRef
set_option linter.unusedVariables false
set_option linter.unusedSimpArgs false
namespace Go.Proofs.Ytceldlijbehkdaa.Rc
open Go.RowKit Go.Proofs.YtceldlijbehkdaaW.PrintWords Go.Proofs.Ytceldlijbehkdaa.B Go.Proofs.Ytceldlijbehkdaa.Fx Go.Proofs.Ytceldlijbehkdaa.Fr
/-- a record's frame -/
def makeR (k : Int) (s : Nat) (d nm l : List UInt8) (n z : Int) : List UInt8 := if rightE k l.length nm n z = 0 then makeL k.toNat s (dataL k d nm l n z) else []
/-- the end: bytes of the call's own, and an error's number -/
def MadeE (w : World) (l : List UInt8) (er : Nat) (e : Ending) (w' : World) : Prop := ∃ v, e = .returned (.tuple #[v, .int .i64 er]) ∧ Own w' w.heap.size v l ∧ Below w.heap.size w w'
theorem kind_in {k : Int} {m : Nat} {nm : List UInt8} {n z : Int} (h : rightE k m nm n z = 0) : 1 ≤ k ∧ k ≤ 8 := by
  rcases right_in h with ⟨rfl, q⟩ | ⟨rfl, q⟩ | ⟨rfl, q⟩ | ⟨rfl, q⟩ | rfl | ⟨rfl, q⟩ | ⟨rfl, q⟩ | ⟨rfl, q⟩ <;> decide
theorem makeR_len {k : Int} {s : Nat} {d nm l : List UInt8} {n z : Int} (hd : d.length = 32) : (makeR k s d nm l n z).length ≤ 65557 := by
  unfold makeR
  split
  · rename_i h
    rw [makeL_len]; have := data_len hd h; omega
  · simp
theorem RecF.info {X : Array Value} {k : Int} {s : Nat} {d : List UInt8} {nm : ByteArray} {A : Option Addr} {m c : Nat} {n z : Int} (h : RecF X k s d nm A m c n z) : (Try.prog.info? 27).map (·.size) = some X.size := by rw [h.size]; exact infoRec
theorem RecF.infoL {X : Array Value} {k : Int} {s : Nat} {d : List UInt8} {nm : ByteArray} {A : Option Addr} {m c : Nat} {n z : Int} (h : RecF X k s d nm A m c n z) : (Try.prog.info? 27).map (·.size) = some X.toList.length := by rw [Array.length_toList]; exact h.info
set_option maxRecDepth 100000 in
set_option maxHeartbeats 3200000 in
theorem make_any (X : Array Value) (k : Int) (s : Nat) (d : List UInt8) (nm : ByteArray) (A : Option Addr) (l : List UInt8) (c : Nat) (n z : Int) (w : World) (hX : RecF X k s d nm A l.length c n z) (hr : Rd w A l) (hs : s < 18446744073709551616) (hnm : nm.size ≤ 140737488355328) :
    Calls Try.prog 19 #[.agg X] w (MadeE w (makeR k s d nm.data.toList l n z) (rightE k l.length nm.data.toList n z)) := by
  have h0 := hX.c0
  have h1 := hX.c1
  obtain ⟨w1, hw1⟩ : ∃ w1, w.alloc (.cells X 27) = w1 := ⟨_, rfl⟩
  have hg : w1.heap[w.heap.size]? = some (.cells X 27 (0, 0)) := hw1 ▸ blk_new w _
  have hb0 : Below w.heap.size w w1 := hw1 ▸ below_alloc (Below.refl _ _) _
  have HB0 := Lib.hid hb0
  have HR := Lib.hid (hr.below hb0)
  have HG := Lib.hid hg
  have HI := Lib.hid hX.info
  have HIL := Lib.hid hX.infoL
  have hln := hr.len
  have HRT := Lib.hid (fun (W : World) => right_any X k s d nm A l.length c n z W hX hln hnm)
  have HDT := Lib.hid (fun (W : World) (h : Rd W A l) (he : rightE k l.length nm.data.toList n z = 0) => data_any X k s d nm A l c n z W hX h he)
  have HDL := Lib.hid (fun (he : rightE k l.length nm.data.toList n z = 0) => data_len (d := d) hX.dl he)
  have HKI := Lib.hid (fun (he : rightE k l.length nm.data.toList n z = 0) => kind_in he)
  have HME := Lib.hid (show ∀ er, rightE k l.length nm.data.toList n z = er → makeR k s d nm.data.toList l n z = if er = 0 then makeL k.toNat s (dataL k d nm.data.toList l n z) else [] from fun er he => by unfold makeR; rw [he])
  clear hX hg hb0 hr hln hnm
  generalize her : rightE k l.length nm.data.toList n z = er at *
  have HER := Lib.hid her
  clear her
  by_cases he0 : er = 0
  · subst he0
    have HM := Lib.hid (show makeR k s d nm.data.toList l n z = makeL (kindN k) s (dataL k d nm.data.toList l n z) from by rw [HME.out 0 rfl, if_pos rfl, kindN_of (by have := HKI.out rfl; omega) (by have := HKI.out rfl; omega)])
    have hdl := HDL.out rfl
    have hki := HKI.out rfl
    have HFM := Lib.hid (fun (W : World) (A' : Option Addr) (c' : Nat) (h : Rd W A' (dataL k d nm.data.toList l n z)) => Fr.make_any k s A' c' (dataL k d nm.data.toList l n z) W (by omega) hs (by omega) h)
    have HDT2 := Lib.hid (fun (W : World) (h : Rd W A l) => HDT.out W h rfl)
    have hcc := fun i => blk_cell HG.out i
    clear HDT HDL HKI HME
    generalize dataL k d nm.data.toList l n z = y at *
    go_enter Try.func19, Try.ntmps19
    go_wp2_with (refine wpList_load_row rfl 27 _ rfl w.heap.size rfl 27 X (0, 0) _ HG.out Try.underlying27 rfl HI.out ?_)
    refine (HRT.out _).mono ?_
    rintro e w2 ⟨rfl, hb⟩
    have HB2 := Lib.hid (below_step' HB0.out hb)
    have HG2 := Lib.hid (blk_below HG.out hb)
    have HR2 := Lib.hid (HR.out.below hb)
    clear hb hcc hw1
    go_wp2_with fail
    have hx0 : Below w2.heap.size w2 w2.drew := below_drew (Below.refl _ _)
    refine wp_region_held_drew (S := fun W => Below w2.heap.size w2 W) (by kernel_rfl) hx0 (fun hHeld => ?_)
    refine wpAnyH_take (i := 0) (v := _) rfl (by kernel_rfl) (by kernel_rfl) (by kernel_rfl) (fun _ _ _ h => h) (Or.inl ⟨by kernel_rfl, fun w _ => by go_simp <;> with_reducible rfl⟩) hHeld ?_
    simp only [List.getElem_toArray, List.getElem_cons_succ, List.getElem_cons_zero, Act.put, List.setIfInBounds_toArray, List.set_cons_zero, List.set_cons_succ]
    refine wpAnyH_take (i := 1) (v := .int .i64 k) rfl (by kernel_rfl) (by kernel_rfl) (by kernel_rfl) (fun _ _ _ h => h) (Or.inl ⟨by kernel_rfl, fun W h => by have q0 := blk_cell (blk_below HG2.out h) 0; go_simp <;> with_reducible rfl⟩) hHeld ?_
    simp only [List.getElem_toArray, List.getElem_cons_succ, List.getElem_cons_zero, Act.put, List.setIfInBounds_toArray, List.set_cons_zero, List.set_cons_succ]
    refine wpAnyH_take (i := 2) (v := _) rfl (by kernel_rfl) (by kernel_rfl) (by kernel_rfl) (fun _ _ _ h => h) (Or.inl ⟨by kernel_rfl, fun w _ => by go_simp <;> with_reducible rfl⟩) hHeld ?_
    simp only [List.getElem_toArray, List.getElem_cons_succ, List.getElem_cons_zero, Act.put, List.setIfInBounds_toArray, List.set_cons_zero, List.set_cons_succ]
    refine wpAnyH_take (i := 3) (v := .int .u64 s) rfl (by kernel_rfl) (by kernel_rfl) (by kernel_rfl) (fun _ _ _ h => h) (Or.inl ⟨by kernel_rfl, fun W h => by have q0 := blk_cell (blk_below HG2.out h) 1; go_simp <;> with_reducible rfl⟩) hHeld ?_
    simp only [List.getElem_toArray, List.getElem_cons_succ, List.getElem_cons_zero, Act.put, List.setIfInBounds_toArray, List.set_cons_zero, List.set_cons_succ]
    refine wpAnyH_take (i := 4) (v := .agg X.toList.toArray) rfl (by kernel_rfl) (by kernel_rfl) (by kernel_rfl) (fun _ _ _ h => h) (yieldsIf_load_mid (by kernel_rfl) 27 _ rfl _ 0 rfl X.toList _ (fun W h => range_row (blk_below HG2.out h)) Try.underlying27 rfl HIL.out) hHeld ?_
    simp only [List.getElem_toArray, List.getElem_cons_succ, List.getElem_cons_zero, Act.put, List.setIfInBounds_toArray, List.set_cons_zero, List.set_cons_succ]
    refine wpAnyH_ready (rs := [5]) (by kernel_rfl) (by simp) ?_
    refine AllReadyH.cons rfl (fun K hK => ?_) ?_
    case refine_2 => exact AllReadyH.nil
    go_simp
    refine (HDT2.out _ (HR2.out.below hHeld)).mono ?_
    rintro e w3 ⟨v3, rfl, ho, hb⟩
    obtain ⟨A3, c3, rfl, -, hr3⟩ := ho.reads
    have HR3 := Lib.hid hr3
    refine hK.out _ _ (below_step' hHeld hb) (fun hHeld => ?_)
    clear hK K
    try simp only [List.getElem_toArray, List.getElem_cons_succ, List.getElem_cons_zero, Act.put, List.setIfInBounds_toArray, List.set_cons_zero, List.set_cons_succ]
    clear ho hr3 hb
    refine wpAnyH_ready (rs := [6]) (by kernel_rfl) (by simp) ?_
    refine AllReadyH.cons rfl (fun K hK => ?_) ?_
    case refine_2 => exact AllReadyH.nil
    go_simp
    refine (HFM.out _ _ _ HR3.out).mono ?_
    rintro e w4 ⟨v4, rfl, ho, hb⟩
    have HO4 := Lib.hid (show Own w4 w.heap.size v4 _ from ho.lower (Nat.le_trans HB2.out.size hHeld.size))
    refine hK.out _ _ (below_step' hHeld hb) (fun hHeld => ?_)
    clear hK K
    try simp only [List.getElem_toArray, List.getElem_cons_succ, List.getElem_cons_zero, Act.put, List.setIfInBounds_toArray, List.set_cons_zero, List.set_cons_succ]
    clear ho hb
    refine wpAnyH_take (i := 7) (v := _) rfl (by kernel_rfl) (by kernel_rfl) (by kernel_rfl) (fun _ _ _ h => h) (Or.inl ⟨by kernel_rfl, fun w _ => by go_simp <;> with_reducible rfl⟩) hHeld ?_
    simp only [List.getElem_toArray, List.getElem_cons_succ, List.getElem_cons_zero, Act.put, List.setIfInBounds_toArray, List.set_cons_zero, List.set_cons_succ]
    refine wpAnyH_take (i := 8) (v := _) rfl (by kernel_rfl) (by kernel_rfl) (by kernel_rfl) (fun _ _ _ h => h) (Or.inl ⟨by kernel_rfl, fun w _ => by go_simp <;> with_reducible rfl⟩) hHeld ?_
    simp only [List.getElem_toArray, List.getElem_cons_succ, List.getElem_cons_zero, Act.put, List.setIfInBounds_toArray, List.set_cons_zero, List.set_cons_succ]
    refine wpAnyH_done (by kernel_rfl) ?_ _
    have HB4 := Lib.hid (below_step' HB2.out hHeld)
    go_wp2_with fail
    go_ret2
    rw [HM.out]
    exact ⟨_, rfl, HO4.out, HB4.out⟩
  · have HM := Lib.hid (show makeR k s d nm.data.toList l n z = [] from by rw [HME.out er rfl, if_neg he0])
    have hne : ((er : Int) != 0) = true := by rw [bne_iff_ne]; omega
    have hcc := fun i => blk_cell HG.out i
    clear HDT HDL HKI HME he0
    go_enter Try.func19, Try.ntmps19
    go_wp2_with (refine wpList_load_row rfl 27 _ rfl w.heap.size rfl 27 X (0, 0) _ HG.out Try.underlying27 rfl HI.out ?_)
    refine (HRT.out _).mono ?_
    rintro e w2 ⟨rfl, hb⟩
    have HB2 := Lib.hid (below_step' HB0.out hb)
    have HG2 := Lib.hid (blk_below HG.out hb)
    clear hb hcc hw1
    go_wp2_with fail
    go_ret2
    rw [HM.out]
    exact ⟨_, rfl, Own.nil _ _, HB2.out⟩
set_option maxRecDepth 100000 in
set_option maxHeartbeats 3200000 in
theorem refmake_any (X : Array Value) (k : Int) (s : Nat) (d : List UInt8) (nm : ByteArray) (A : Option Addr) (l : List UInt8) (c : Nat) (n z : Int) (w : World) (hX : RecF X k s d nm A l.length c n z) (hr : Rd w A l) (hs : s < 18446744073709551616) (hnm : nm.size ≤ 140737488355328) :
    Calls Try.prog 22 #[.agg X] w (MadeE w (makeR k s d nm.data.toList l n z) (rightE k l.length nm.data.toList n z)) := by
  have h0 := hX.c0
  have h1 := hX.c1
  obtain ⟨w1, hw1⟩ : ∃ w1, w.alloc (.cells X 27) = w1 := ⟨_, rfl⟩
  have hg : w1.heap[w.heap.size]? = some (.cells X 27 (0, 0)) := hw1 ▸ blk_new w _
  have hb0 : Below w.heap.size w w1 := hw1 ▸ below_alloc (Below.refl _ _) _
  have HB0 := Lib.hid hb0
  have HR := Lib.hid (hr.below hb0)
  have HG := Lib.hid hg
  have HI := Lib.hid hX.info
  have HIL := Lib.hid hX.infoL
  have hln := hr.len
  have HRT := Lib.hid (fun (W : World) => refright_any X k s d nm A l.length c n z W hX hln hnm)
  have HDT := Lib.hid (fun (W : World) (h : Rd W A l) (he : rightE k l.length nm.data.toList n z = 0) => refdata_any X k s d nm A l c n z W hX h he)
  have HDL := Lib.hid (fun (he : rightE k l.length nm.data.toList n z = 0) => data_len (d := d) hX.dl he)
  have HKI := Lib.hid (fun (he : rightE k l.length nm.data.toList n z = 0) => kind_in he)
  have HME := Lib.hid (show ∀ er, rightE k l.length nm.data.toList n z = er → makeR k s d nm.data.toList l n z = if er = 0 then makeL k.toNat s (dataL k d nm.data.toList l n z) else [] from fun er he => by unfold makeR; rw [he])
  clear hX hg hb0 hr hln hnm
  generalize her : rightE k l.length nm.data.toList n z = er at *
  have HER := Lib.hid her
  clear her
  by_cases he0 : er = 0
  · subst he0
    have HM := Lib.hid (show makeR k s d nm.data.toList l n z = makeL (kindN k) s (dataL k d nm.data.toList l n z) from by rw [HME.out 0 rfl, if_pos rfl, kindN_of (by have := HKI.out rfl; omega) (by have := HKI.out rfl; omega)])
    have hdl := HDL.out rfl
    have hki := HKI.out rfl
    have HFM := Lib.hid (fun (W : World) (A' : Option Addr) (c' : Nat) (h : Rd W A' (dataL k d nm.data.toList l n z)) => Fr.refmake_any k s A' c' (dataL k d nm.data.toList l n z) W (by omega) hs (by omega) h)
    have HDT2 := Lib.hid (fun (W : World) (h : Rd W A l) => HDT.out W h rfl)
    have hcc := fun i => blk_cell HG.out i
    clear HDT HDL HKI HME
    generalize dataL k d nm.data.toList l n z = y at *
    go_enter Try.func22, Try.ntmps22
    go_wp2_with (refine wpList_load_row rfl 27 _ rfl w.heap.size rfl 27 X (0, 0) _ HG.out Try.underlying27 rfl HI.out ?_)
    refine (HRT.out _).mono ?_
    rintro e w2 ⟨rfl, hb⟩
    have HB2 := Lib.hid (below_step' HB0.out hb)
    have HG2 := Lib.hid (blk_below HG.out hb)
    have HR2 := Lib.hid (HR.out.below hb)
    clear hb hcc hw1
    go_wp2_with fail
    have hx0 : Below w2.heap.size w2 w2.drew := below_drew (Below.refl _ _)
    refine wp_region_held_drew (S := fun W => Below w2.heap.size w2 W) (by kernel_rfl) hx0 (fun hHeld => ?_)
    refine wpAnyH_take (i := 0) (v := _) rfl (by kernel_rfl) (by kernel_rfl) (by kernel_rfl) (fun _ _ _ h => h) (Or.inl ⟨by kernel_rfl, fun w _ => by go_simp <;> with_reducible rfl⟩) hHeld ?_
    simp only [List.getElem_toArray, List.getElem_cons_succ, List.getElem_cons_zero, Act.put, List.setIfInBounds_toArray, List.set_cons_zero, List.set_cons_succ]
    refine wpAnyH_take (i := 1) (v := .int .i64 k) rfl (by kernel_rfl) (by kernel_rfl) (by kernel_rfl) (fun _ _ _ h => h) (Or.inl ⟨by kernel_rfl, fun W h => by have q0 := blk_cell (blk_below HG2.out h) 0; go_simp <;> with_reducible rfl⟩) hHeld ?_
    simp only [List.getElem_toArray, List.getElem_cons_succ, List.getElem_cons_zero, Act.put, List.setIfInBounds_toArray, List.set_cons_zero, List.set_cons_succ]
    refine wpAnyH_take (i := 2) (v := _) rfl (by kernel_rfl) (by kernel_rfl) (by kernel_rfl) (fun _ _ _ h => h) (Or.inl ⟨by kernel_rfl, fun w _ => by go_simp <;> with_reducible rfl⟩) hHeld ?_
    simp only [List.getElem_toArray, List.getElem_cons_succ, List.getElem_cons_zero, Act.put, List.setIfInBounds_toArray, List.set_cons_zero, List.set_cons_succ]
    refine wpAnyH_take (i := 3) (v := .int .u64 s) rfl (by kernel_rfl) (by kernel_rfl) (by kernel_rfl) (fun _ _ _ h => h) (Or.inl ⟨by kernel_rfl, fun W h => by have q0 := blk_cell (blk_below HG2.out h) 1; go_simp <;> with_reducible rfl⟩) hHeld ?_
    simp only [List.getElem_toArray, List.getElem_cons_succ, List.getElem_cons_zero, Act.put, List.setIfInBounds_toArray, List.set_cons_zero, List.set_cons_succ]
    refine wpAnyH_take (i := 4) (v := .agg X.toList.toArray) rfl (by kernel_rfl) (by kernel_rfl) (by kernel_rfl) (fun _ _ _ h => h) (yieldsIf_load_mid (by kernel_rfl) 27 _ rfl _ 0 rfl X.toList _ (fun W h => range_row (blk_below HG2.out h)) Try.underlying27 rfl HIL.out) hHeld ?_
    simp only [List.getElem_toArray, List.getElem_cons_succ, List.getElem_cons_zero, Act.put, List.setIfInBounds_toArray, List.set_cons_zero, List.set_cons_succ]
    refine wpAnyH_ready (rs := [5]) (by kernel_rfl) (by simp) ?_
    refine AllReadyH.cons rfl (fun K hK => ?_) ?_
    case refine_2 => exact AllReadyH.nil
    go_simp
    refine (HDT2.out _ (HR2.out.below hHeld)).mono ?_
    rintro e w3 ⟨v3, rfl, ho, hb⟩
    obtain ⟨A3, c3, rfl, -, hr3⟩ := ho.reads
    have HR3 := Lib.hid hr3
    refine hK.out _ _ (below_step' hHeld hb) (fun hHeld => ?_)
    clear hK K
    try simp only [List.getElem_toArray, List.getElem_cons_succ, List.getElem_cons_zero, Act.put, List.setIfInBounds_toArray, List.set_cons_zero, List.set_cons_succ]
    clear ho hr3 hb
    refine wpAnyH_ready (rs := [6]) (by kernel_rfl) (by simp) ?_
    refine AllReadyH.cons rfl (fun K hK => ?_) ?_
    case refine_2 => exact AllReadyH.nil
    go_simp
    refine (HFM.out _ _ _ HR3.out).mono ?_
    rintro e w4 ⟨v4, rfl, ho, hb⟩
    have HO4 := Lib.hid (show Own w4 w.heap.size v4 _ from ho.lower (Nat.le_trans HB2.out.size hHeld.size))
    refine hK.out _ _ (below_step' hHeld hb) (fun hHeld => ?_)
    clear hK K
    try simp only [List.getElem_toArray, List.getElem_cons_succ, List.getElem_cons_zero, Act.put, List.setIfInBounds_toArray, List.set_cons_zero, List.set_cons_succ]
    clear ho hb
    refine wpAnyH_take (i := 7) (v := _) rfl (by kernel_rfl) (by kernel_rfl) (by kernel_rfl) (fun _ _ _ h => h) (Or.inl ⟨by kernel_rfl, fun w _ => by go_simp <;> with_reducible rfl⟩) hHeld ?_
    simp only [List.getElem_toArray, List.getElem_cons_succ, List.getElem_cons_zero, Act.put, List.setIfInBounds_toArray, List.set_cons_zero, List.set_cons_succ]
    refine wpAnyH_take (i := 8) (v := _) rfl (by kernel_rfl) (by kernel_rfl) (by kernel_rfl) (fun _ _ _ h => h) (Or.inl ⟨by kernel_rfl, fun w _ => by go_simp <;> with_reducible rfl⟩) hHeld ?_
    simp only [List.getElem_toArray, List.getElem_cons_succ, List.getElem_cons_zero, Act.put, List.setIfInBounds_toArray, List.set_cons_zero, List.set_cons_succ]
    refine wpAnyH_done (by kernel_rfl) ?_ _
    have HB4 := Lib.hid (below_step' HB2.out hHeld)
    go_wp2_with fail
    go_ret2
    rw [HM.out]
    exact ⟨_, rfl, HO4.out, HB4.out⟩
  · have HM := Lib.hid (show makeR k s d nm.data.toList l n z = [] from by rw [HME.out er rfl, if_neg he0])
    have hne : ((er : Int) != 0) = true := by rw [bne_iff_ne]; omega
    have hcc := fun i => blk_cell HG.out i
    clear HDT HDL HKI HME he0
    go_enter Try.func22, Try.ntmps22
    go_wp2_with (refine wpList_load_row rfl 27 _ rfl w.heap.size rfl 27 X (0, 0) _ HG.out Try.underlying27 rfl HI.out ?_)
    refine (HRT.out _).mono ?_
    rintro e w2 ⟨rfl, hb⟩
    have HB2 := Lib.hid (below_step' HB0.out hb)
    have HG2 := Lib.hid (blk_below HG.out hb)
    clear hb hcc hw1
    go_wp2_with (refine wpList_load_row rfl 27 _ rfl w.heap.size rfl 27 X (0, 0) _ HG2.out Try.underlying27 rfl HI.out ?_)
    refine (HRT.out _).mono ?_
    rintro e w3 ⟨rfl, hb⟩
    have HB3 := Lib.hid (below_step' HB2.out hb)
    clear hb
    go_wp2_with fail
    go_ret2
    rw [HM.out]
    exact ⟨_, rfl, Own.nil _ _, HB3.out⟩
set_option maxRecDepth 100000 in
set_option maxHeartbeats 3200000 in
theorem size_any (X : Array Value) (k : Int) (s : Nat) (d : List UInt8) (nm : ByteArray) (A : Option Addr) (l : List UInt8) (c : Nat) (n z : Int) (w : World) (hX : RecF X k s d nm A l.length c n z) (hr : Rd w A l) (hs : s < 18446744073709551616) (hnm : nm.size ≤ 140737488355328) :
    Calls Try.prog 25 #[.agg X] w (Kept (.int .i64 (makeR k s d nm.data.toList l n z).length) w) := by
  have h0 := hX.c0
  have h1 := hX.c1
  obtain ⟨w1, hw1⟩ : ∃ w1, w.alloc (.cells X 27) = w1 := ⟨_, rfl⟩
  have hg : w1.heap[w.heap.size]? = some (.cells X 27 (0, 0)) := hw1 ▸ blk_new w _
  have hb0 : Below w.heap.size w w1 := hw1 ▸ below_alloc (Below.refl _ _) _
  have HB0 := Lib.hid hb0
  have HR := Lib.hid (hr.below hb0)
  have HG := Lib.hid hg
  have HI := Lib.hid hX.info
  have HIL := Lib.hid hX.infoL
  have hln := hr.len
  have HRT := Lib.hid (fun (W : World) => right_any X k s d nm A l.length c n z W hX hln hnm)
  have HDT := Lib.hid (fun (W : World) (h : Rd W A l) (he : rightE k l.length nm.data.toList n z = 0) => data_any X k s d nm A l c n z W hX h he)
  have HDL := Lib.hid (fun (he : rightE k l.length nm.data.toList n z = 0) => data_len (d := d) hX.dl he)
  have HKI := Lib.hid (fun (he : rightE k l.length nm.data.toList n z = 0) => kind_in he)
  have HME := Lib.hid (show ∀ er, rightE k l.length nm.data.toList n z = er → makeR k s d nm.data.toList l n z = if er = 0 then makeL k.toNat s (dataL k d nm.data.toList l n z) else [] from fun er he => by unfold makeR; rw [he])
  clear hX hg hb0 hr hln hnm
  generalize her : rightE k l.length nm.data.toList n z = er at *
  have HER := Lib.hid her
  clear her
  by_cases he0 : er = 0
  · subst he0
    have HM := Lib.hid (show ((makeR k s d nm.data.toList l n z).length : Int) = ((dataL k d nm.data.toList l n z).length : Int) + 21 from by rw [HME.out 0 rfl, if_pos rfl, makeL_len]; omega)
    have hdl := HDL.out rfl
    have HFM := Lib.hid (fun (W : World) => Fr.size_any ((dataL k d nm.data.toList l n z).length : Int) W (by omega) (by omega))
    have HDT2 := Lib.hid (fun (W : World) (h : Rd W A l) => HDT.out W h rfl)
    have hcc := fun i => blk_cell HG.out i
    clear HDT HDL HKI HME
    generalize dataL k d nm.data.toList l n z = y at *
    go_enter Try.func25, Try.ntmps25
    go_wp2_with (refine wpList_load_row rfl 27 _ rfl w.heap.size rfl 27 X (0, 0) _ HG.out Try.underlying27 rfl HI.out ?_)
    refine (HRT.out _).mono ?_
    rintro e w2 ⟨rfl, hb⟩
    have HB2 := Lib.hid (below_step' HB0.out hb)
    have HG2 := Lib.hid (blk_below HG.out hb)
    have HR2 := Lib.hid (HR.out.below hb)
    clear hb hcc hw1
    go_wp2_with (refine wpList_load_row rfl 27 _ rfl w.heap.size rfl 27 X (0, 0) _ HG2.out Try.underlying27 rfl HI.out ?_)
    refine (HDT2.out _ HR2.out).mono ?_
    rintro e w3 ⟨v3, rfl, ho, hb⟩
    obtain ⟨A3, c3, rfl, -, -⟩ := ho.reads
    have HB3 := Lib.hid (below_step' HB2.out hb)
    clear ho hb
    go_wp2_with fail
    refine (HFM.out _).mono ?_
    rintro e w4 ⟨rfl, hw4⟩
    rw [← hw4] at HB3
    clear hw4
    go_wp2_with fail
    go_ret
    rw [HM.out]
    exact ⟨rfl, HB3.out⟩
  · have HM := Lib.hid (show ((makeR k s d nm.data.toList l n z).length : Int) = 0 from by rw [HME.out er rfl, if_neg he0]; rfl)
    have hne : ((er : Int) != 0) = true := by rw [bne_iff_ne]; omega
    have hcc := fun i => blk_cell HG.out i
    clear HDT HDL HKI HME he0
    go_enter Try.func25, Try.ntmps25
    go_wp2_with (refine wpList_load_row rfl 27 _ rfl w.heap.size rfl 27 X (0, 0) _ HG.out Try.underlying27 rfl HI.out ?_)
    refine (HRT.out _).mono ?_
    rintro e w2 ⟨rfl, hb⟩
    have HB2 := Lib.hid (below_step' HB0.out hb)
    clear hb hcc hw1
    go_wp2_with fail
    go_ret
    rw [HM.out]
    exact ⟨rfl, HB2.out⟩
set_option maxRecDepth 100000 in
set_option maxHeartbeats 3200000 in
theorem refsize_any (X : Array Value) (k : Int) (s : Nat) (d : List UInt8) (nm : ByteArray) (A : Option Addr) (l : List UInt8) (c : Nat) (n z : Int) (w : World) (hX : RecF X k s d nm A l.length c n z) (hr : Rd w A l) (hs : s < 18446744073709551616) (hnm : nm.size ≤ 140737488355328) :
    Calls Try.prog 34 #[.agg X] w (Kept (.int .i64 (makeR k s d nm.data.toList l n z).length) w) := by
  obtain ⟨w1, hw1⟩ : ∃ w1, w.alloc (.cells X 27) = w1 := ⟨_, rfl⟩
  have hg : w1.heap[w.heap.size]? = some (.cells X 27 (0, 0)) := hw1 ▸ blk_new w _
  have hb0 : Below w.heap.size w w1 := hw1 ▸ below_alloc (Below.refl _ _) _
  have HB0 := Lib.hid hb0
  have HG := Lib.hid hg
  have HI := Lib.hid hX.info
  have HMK := Lib.hid (refmake_any X k s d nm A l c n z w1 hX (hr.below hb0) hs hnm)
  clear hX hg hb0 hr hs hnm
  generalize makeR k s d nm.data.toList l n z = y at *
  generalize rightE k l.length nm.data.toList n z = er at *
  go_enter Try.func34, Try.ntmps34
  go_wp2_with (refine wpList_load_row rfl 27 _ rfl w.heap.size rfl 27 X (0, 0) _ HG.out Try.underlying27 rfl HI.out ?_)
  refine HMK.out.mono ?_
  rintro e w2 ⟨v2, rfl, ho, hb⟩
  obtain ⟨A3, c3, rfl, -, -⟩ := ho.reads
  have HB2 := Lib.hid (below_step' HB0.out hb)
  clear ho hb
  go_wp2_with fail
  go_ret
  exact ⟨rfl, HB2.out⟩
end Go.Proofs.Ytceldlijbehkdaa.Rc
