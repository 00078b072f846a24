/- stillageref14.Data. -/
import Derived.Test.YtceldlijbehkdaaRcData
import Derived.Test.YtceldlijbehkdaaRefPut
set_option linter.unusedVariables false
set_option linter.unusedSimpArgs false
namespace Go.Proofs.Ytceldlijbehkdaa.Rc
open Go.RowKit Go.Proofs.YtceldlijbehkdaaW.PrintWords Go.Proofs.Ytceldlijbehkdaa.B Go.Proofs.Ytceldlijbehkdaa.Fx Go.Proofs.Ytceldlijbehkdaa.Fr
set_option maxRecDepth 100000 in
set_option maxHeartbeats 3200000 in
theorem refdata_any (X : Array Value) (k : Int) (s : Nat) (d : List UInt8) (nm : ByteArray) (A : Option Addr) (l : List UInt8) (c : Nat) (n z : Int) (w : World) (hX : RecF X k s d nm A l.length c n z) (hr : Rd w A l) (hk : rightE k l.length nm.data.toList n z = 0) :
    Calls Try.prog 51 #[.agg X] w (Made w (dataL k d nm.data.toList l n z)) := by
  have h0 := hX.c0
  have h34 := hX.c34
  have h35 := hX.c35
  have h36 := hX.c36
  have h37 := hX.c37
  have hsz : nm.data.toList.length = nm.size := by simp
  obtain ⟨w1, hw1⟩ : ∃ w1, w.alloc (.cells X 27) = w1 := ⟨_, rfl⟩
  have hg : w1.heap[w.heap.size]? = some (.cells X 27 (0, 0)) := hw1 ▸ blk_new w _
  have hb0 : Below w.heap.size w w1 := hw1 ▸ below_alloc (Below.refl _ _) _
  have HRD := Lib.hid (hX.rd hg)
  have HB0 := Lib.hid hb0
  have HR := Lib.hid (hr.below hb0)
  have HG := Lib.hid hg
  have hdl := hX.dl
  have hcc := fun i => blk_cell HG.out i
  have hzz := blk_lt HG.out
  have hin := right_in hk
  clear hX hg hb0 hr hk
  rcases hin with ⟨rfl, hin⟩ | ⟨rfl, hin⟩ | ⟨rfl, hin⟩ | ⟨rfl, hin⟩ | rfl | ⟨rfl, hin⟩ | ⟨rfl, hin⟩ | ⟨rfl, hin⟩
  · have HE := Lib.hid (show dataL 1 d nm.data.toList l n z = [] ++ d ++ l from rfl)
    have hpl : ([] : List UInt8).length + d.length ≤ 140737488355328 := by simp; omega
    have hpl2 : ([] ++ d).length + l.length ≤ 140737488355328 := by simp; omega
    clear h34 h36 h37 hsz
    go_enter Try.func51, Try.ntmps51
    go_wp2_with (first | (at_builtin; refine appRow (w0 := w1) w1.heap.size rfl (.tmp 38) (.tmp 40) rfl (.slice none 0 0) [] d (some ⟨w.heap.size, 2, none⟩) 32 32 rfl rfl hdl.symm (Own.nil _ _) HRD.out (Below.refl _ _) (Nat.le_refl _) hpl ?_; intro v2 w2 hown hb _ _; have HO2 := Lib.hid hown; have HB2 := Lib.hid hb; have HG2 := Lib.hid (blk_below HG.out hb); have HR2 := Lib.hid (HR.out.below hb); have HRD2 := Lib.hid (HRD.out.below hb); have hcc2 := fun i => blk_cell HG2.out i; clear hown hb hcc) | (at_builtin; refine appRow (w0 := w1) w1.heap.size rfl (.tmp 48) (.tmp 50) rfl v2 ([] ++ d) l A l.length c rfl rfl rfl HO2.out HR2.out HB2.out HB2.out.size hpl2 ?_; intro v3 w3 hown hb _ _; have HO3 := Lib.hid hown; have HB3 := Lib.hid hb; have HG3 := Lib.hid (blk_below HG.out hb); have HR3 := Lib.hid (HR.out.below hb); have HRD3 := Lib.hid (HRD.out.below hb); have hcc3 := fun i => blk_cell HG3.out i; clear hown hb hcc2))
    clear hw1
    go_ret
    rw [HE.out]
    exact ⟨_, rfl, HO3.out.lower HB0.out.size, below_step' HB0.out HB3.out⟩
  · have HE := Lib.hid (show dataL 2 d nm.data.toList l n z = [] ++ d ++ l from rfl)
    have hpl : ([] : List UInt8).length + d.length ≤ 140737488355328 := by simp; omega
    have hpl2 : ([] ++ d).length + l.length ≤ 140737488355328 := by simp; omega
    clear h34 h36 h37 hsz
    go_enter Try.func51, Try.ntmps51
    go_wp2_with (first | (at_builtin; refine appRow (w0 := w1) w1.heap.size rfl (.tmp 38) (.tmp 40) rfl (.slice none 0 0) [] d (some ⟨w.heap.size, 2, none⟩) 32 32 rfl rfl hdl.symm (Own.nil _ _) HRD.out (Below.refl _ _) (Nat.le_refl _) hpl ?_; intro v2 w2 hown hb _ _; have HO2 := Lib.hid hown; have HB2 := Lib.hid hb; have HG2 := Lib.hid (blk_below HG.out hb); have HR2 := Lib.hid (HR.out.below hb); have HRD2 := Lib.hid (HRD.out.below hb); have hcc2 := fun i => blk_cell HG2.out i; clear hown hb hcc) | (at_builtin; refine appRow (w0 := w1) w1.heap.size rfl (.tmp 48) (.tmp 50) rfl v2 ([] ++ d) l A l.length c rfl rfl rfl HO2.out HR2.out HB2.out HB2.out.size hpl2 ?_; intro v3 w3 hown hb _ _; have HO3 := Lib.hid hown; have HB3 := Lib.hid hb; have HG3 := Lib.hid (blk_below HG.out hb); have HR3 := Lib.hid (HR.out.below hb); have HRD3 := Lib.hid (HRD.out.below hb); have hcc3 := fun i => blk_cell HG3.out i; clear hown hb hcc2))
    clear hw1
    go_ret
    rw [HE.out]
    exact ⟨_, rfl, HO3.out.lower HB0.out.size, below_step' HB0.out HB3.out⟩
  · have HE := Lib.hid (show dataL 3 d nm.data.toList l n z = [] ++ [UInt8.ofNat nm.data.toList.length] ++ nm.data.toList ++ d from rfl)
    have htl := tag_len hin
    have hw8 : IntKind.u8.wrap (nm.size : Int) = (nm.size : Int) := IntWalk.u8_in _ (by omega)
    have HP8 := Lib.hid (show (nm.size : Int) = ((UInt8.ofNat nm.data.toList.length).toNat : Int) from by simp; omega)
    have hpl : ([] ++ [UInt8.ofNat nm.data.toList.length] : List UInt8).length + nm.size ≤ 140737488355328 := by simp; omega
    have hpl2 : ([] ++ [UInt8.ofNat nm.data.toList.length] ++ nm.data.toList).length + d.length ≤ 140737488355328 := by simp; omega
    clear h35 h36 h37 hsz
    go_enter Try.func51, Try.ntmps51
    go_wp2_with (first | (at_builtin; refine app1 (w0 := w1) w1.heap.size rfl (.tmp 13) (.tmp 18) rfl (.slice none 0 0) [] (UInt8.ofNat nm.data.toList.length) nm.size rfl rfl HP8.out (Own.nil _ _) (Below.refl _ _) (Nat.le_refl _) (by decide) ?_; intro v2 w2 hown hb _ _; have HO2 := Lib.hid hown; have HB2 := Lib.hid hb; have HG2 := Lib.hid (blk_below HG.out hb); have HR2 := Lib.hid (HR.out.below hb); have HRD2 := Lib.hid (HRD.out.below hb); have hcc2 := fun i => blk_cell HG2.out i; clear hown hb hcc) | (at_builtin; refine appStr (w0 := w1) w1.heap.size rfl (.tmp 20) (.tmp 22) rfl v2 ([] ++ [UInt8.ofNat nm.data.toList.length]) nm rfl rfl HO2.out HB2.out HB2.out.size hpl ?_; intro v3 w3 hown hb _; have HO3 := Lib.hid hown; have HB3 := Lib.hid hb; have HG3 := Lib.hid (blk_below HG.out hb); have HR3 := Lib.hid (HR.out.below hb); have HRD3 := Lib.hid (HRD.out.below hb); have hcc3 := fun i => blk_cell HG3.out i; clear hown hb hcc2) | (at_builtin; refine appRow (w0 := w1) w1.heap.size rfl (.tmp 38) (.tmp 40) rfl v3 ([] ++ [UInt8.ofNat nm.data.toList.length] ++ nm.data.toList) d (some ⟨w.heap.size, 2, none⟩) 32 32 rfl rfl hdl.symm HO3.out HRD3.out HB3.out HB3.out.size hpl2 ?_; intro v4 w4 hown hb _ _; have HO4 := Lib.hid hown; have HB4 := Lib.hid hb; have HG4 := Lib.hid (blk_below HG.out hb); have HR4 := Lib.hid (HR.out.below hb); have HRD4 := Lib.hid (HRD.out.below hb); have hcc4 := fun i => blk_cell HG4.out i; clear hown hb hcc3))
    clear hw1
    go_ret
    rw [HE.out]
    exact ⟨_, rfl, HO4.out.lower HB0.out.size, below_step' HB0.out HB4.out⟩
  · have HE := Lib.hid (show dataL 4 d nm.data.toList l n z = [] ++ [UInt8.ofNat nm.data.toList.length] ++ nm.data.toList from rfl)
    have htl := tag_len hin
    have hw8 : IntKind.u8.wrap (nm.size : Int) = (nm.size : Int) := IntWalk.u8_in _ (by omega)
    have HP8 := Lib.hid (show (nm.size : Int) = ((UInt8.ofNat nm.data.toList.length).toNat : Int) from by simp; omega)
    have hpl : ([] ++ [UInt8.ofNat nm.data.toList.length] : List UInt8).length + nm.size ≤ 140737488355328 := by simp; omega
    clear h35 h36 h37 hsz
    go_enter Try.func51, Try.ntmps51
    go_wp2_with (first | (at_builtin; refine app1 (w0 := w1) w1.heap.size rfl (.tmp 13) (.tmp 18) rfl (.slice none 0 0) [] (UInt8.ofNat nm.data.toList.length) nm.size rfl rfl HP8.out (Own.nil _ _) (Below.refl _ _) (Nat.le_refl _) (by decide) ?_; intro v2 w2 hown hb _ _; have HO2 := Lib.hid hown; have HB2 := Lib.hid hb; have HG2 := Lib.hid (blk_below HG.out hb); have HR2 := Lib.hid (HR.out.below hb); have HRD2 := Lib.hid (HRD.out.below hb); have hcc2 := fun i => blk_cell HG2.out i; clear hown hb hcc) | (at_builtin; refine appStr (w0 := w1) w1.heap.size rfl (.tmp 20) (.tmp 22) rfl v2 ([] ++ [UInt8.ofNat nm.data.toList.length]) nm rfl rfl HO2.out HB2.out HB2.out.size hpl ?_; intro v3 w3 hown hb _; have HO3 := Lib.hid hown; have HB3 := Lib.hid hb; have HG3 := Lib.hid (blk_below HG.out hb); have HR3 := Lib.hid (HR.out.below hb); have HRD3 := Lib.hid (HRD.out.below hb); have hcc3 := fun i => blk_cell HG3.out i; clear hown hb hcc2))
    clear hw1
    go_ret
    rw [HE.out]
    exact ⟨_, rfl, HO3.out.lower HB0.out.size, below_step' HB0.out HB3.out⟩
  · have HE := Lib.hid (show dataL 5 d nm.data.toList l n z = [] ++ d from rfl)
    have hpl : ([] : List UInt8).length + d.length ≤ 140737488355328 := by simp; omega
    clear h34 h35 h36 h37 hsz
    go_enter Try.func51, Try.ntmps51
    go_wp2_with (at_builtin; refine appRow (w0 := w1) w1.heap.size rfl (.tmp 38) (.tmp 40) rfl (.slice none 0 0) [] d (some ⟨w.heap.size, 2, none⟩) 32 32 rfl rfl hdl.symm (Own.nil _ _) HRD.out (Below.refl _ _) (Nat.le_refl _) hpl ?_; intro v2 w2 hown hb _ _; have HO2 := Lib.hid hown; have HB2 := Lib.hid hb; have HG2 := Lib.hid (blk_below HG.out hb); have HR2 := Lib.hid (HR.out.below hb); have HRD2 := Lib.hid (HRD.out.below hb); have hcc2 := fun i => blk_cell HG2.out i; clear hown hb hcc)
    clear hw1
    go_ret
    rw [HE.out]
    exact ⟨_, rfl, HO2.out.lower HB0.out.size, below_step' HB0.out HB2.out⟩
  · obtain ⟨n', rfl⟩ := Int.eq_ofNat_of_zero_le hin.1
    obtain ⟨z', rfl⟩ := Int.eq_ofNat_of_zero_le hin.2.2.1
    have HE := Lib.hid (show dataL 6 d nm.data.toList l n' z' = ([] ++ putB n' 4) ++ putB z' 4 from rfl)
    have hwn : IntKind.u64.wrap (n' : Int) = (n' : Int) := IntWalk.u64_in _ (by omega)
    have hwz : IntKind.u64.wrap (z' : Int) = (z' : Int) := IntWalk.u64_in _ (by omega)
    have HP1 := Lib.hid (fun (W : World) => R01.put_any none 0 [] n' 4 W (by simp) (by omega) (by decide) (by decide) (Rd.nil W))
    have hpl : ([] ++ putB n' 4).length ≤ 140737488355000 := by rw [List.nil_append, putB_length]; decide
    have HP2 := Lib.hid (fun (W : World) (A' : Option Addr) (c' : Nat) (h : Rd W A' ([] ++ putB n' 4)) => R01.put_any A' c' ([] ++ putB n' 4) z' 4 W hpl (by omega) (by decide) (by decide) h)
    clear h34 h35 hsz hpl
    go_enter Try.func51, Try.ntmps51
    go_wp2_with fail
    clear hw1
    have hx0 : Below w1.heap.size w1 w1.drew := below_drew (Below.refl _ _)
    refine wp_region_held_drew (S := fun W => Below w1.heap.size w1 W) (by kernel_rfl) hx0 (fun hHeld => ?_)
    refine wpAnyH_take (i := 0) (v := _) rfl (by kernel_rfl) (by kernel_rfl) (by kernel_rfl) (fun _ _ _ h => h) (Or.inl ⟨by kernel_rfl, fun w _ => by go_simp <;> with_reducible rfl⟩) hHeld ?_
    simp only [List.getElem_toArray, List.getElem_cons_succ, List.getElem_cons_zero, Act.put, List.setIfInBounds_toArray, List.set_cons_zero, List.set_cons_succ]
    refine wpAnyH_take (i := 1) (v := _) rfl (by kernel_rfl) (by kernel_rfl) (by kernel_rfl) (fun _ _ _ h => h) (Or.inl ⟨by kernel_rfl, fun w _ => by go_simp <;> with_reducible rfl⟩) hHeld ?_
    simp only [List.getElem_toArray, List.getElem_cons_succ, List.getElem_cons_zero, Act.put, List.setIfInBounds_toArray, List.set_cons_zero, List.set_cons_succ]
    refine wpAnyH_take (i := 2) (v := .int .i64 n') rfl (by kernel_rfl) (by kernel_rfl) (by kernel_rfl) (fun _ _ _ h => h) (Or.inl ⟨by kernel_rfl, fun W h => by have q0 := blk_cell (blk_below HG.out h) 36; go_simp <;> with_reducible rfl⟩) hHeld ?_
    simp only [List.getElem_toArray, List.getElem_cons_succ, List.getElem_cons_zero, Act.put, List.setIfInBounds_toArray, List.set_cons_zero, List.set_cons_succ]
    refine wpAnyH_take (i := 3) (v := _) rfl (by kernel_rfl) (by kernel_rfl) (by kernel_rfl) (fun _ _ _ h => h) (Or.inl ⟨by kernel_rfl, fun w _ => by go_simp <;> with_reducible rfl⟩) hHeld ?_
    simp only [List.getElem_toArray, List.getElem_cons_succ, List.getElem_cons_zero, Act.put, List.setIfInBounds_toArray, List.set_cons_zero, List.set_cons_succ]
    refine wpAnyH_take (i := 5) (v := _) rfl (by kernel_rfl) (by kernel_rfl) (by kernel_rfl) (fun _ _ _ h => h) (Or.inl ⟨by kernel_rfl, fun w _ => by go_simp <;> with_reducible rfl⟩) hHeld ?_
    simp only [List.getElem_toArray, List.getElem_cons_succ, List.getElem_cons_zero, Act.put, List.setIfInBounds_toArray, List.set_cons_zero, List.set_cons_succ]
    refine wpAnyH_take (i := 6) (v := .int .i64 z') rfl (by kernel_rfl) (by kernel_rfl) (by kernel_rfl) (fun _ _ _ h => h) (Or.inl ⟨by kernel_rfl, fun W h => by have q0 := blk_cell (blk_below HG.out h) 37; go_simp <;> with_reducible rfl⟩) hHeld ?_
    simp only [List.getElem_toArray, List.getElem_cons_succ, List.getElem_cons_zero, Act.put, List.setIfInBounds_toArray, List.set_cons_zero, List.set_cons_succ]
    refine wpAnyH_take (i := 7) (v := _) rfl (by kernel_rfl) (by kernel_rfl) (by kernel_rfl) (fun _ _ _ h => h) (Or.inl ⟨by kernel_rfl, fun w _ => by go_simp <;> with_reducible rfl⟩) hHeld ?_
    simp only [List.getElem_toArray, List.getElem_cons_succ, List.getElem_cons_zero, Act.put, List.setIfInBounds_toArray, List.set_cons_zero, List.set_cons_succ]
    refine wpAnyH_ready (rs := [4]) (by kernel_rfl) (by simp) ?_
    refine AllReadyH.cons rfl (fun K hK => ?_) ?_
    case refine_2 => exact AllReadyH.nil
    go_simp
    refine (HP1.out _).mono ?_
    rintro e w2 ⟨v2, rfl, ho, hb⟩
    obtain ⟨A2, c2, rfl, -, hr2⟩ := ho.reads
    have HR2 := Lib.hid hr2
    refine hK.out _ _ (below_step' hHeld hb) (fun hHeld => ?_)
    clear hK K
    try simp only [List.getElem_toArray, List.getElem_cons_succ, List.getElem_cons_zero, Act.put, List.setIfInBounds_toArray, List.set_cons_zero, List.set_cons_succ]
    clear ho hr2 hb
    refine wpAnyH_ready (rs := [8]) (by kernel_rfl) (by simp) ?_
    refine AllReadyH.cons rfl (fun K hK => ?_) ?_
    case refine_2 => exact AllReadyH.nil
    go_simp
    refine (HP2.out _ _ _ HR2.out).mono ?_
    rintro e w3 ⟨v3, rfl, ho, hb⟩
    have HO3 := Lib.hid (show Own w3 w.heap.size v3 _ from ho.lower (Nat.le_trans HB0.out.size hHeld.size))
    refine hK.out _ _ (below_step' hHeld hb) (fun hHeld => ?_)
    clear hK K
    try simp only [List.getElem_toArray, List.getElem_cons_succ, List.getElem_cons_zero, Act.put, List.setIfInBounds_toArray, List.set_cons_zero, List.set_cons_succ]
    clear ho hb
    refine wpAnyH_take (i := 9) (v := _) rfl (by kernel_rfl) (by kernel_rfl) (by kernel_rfl) (fun _ _ _ h => h) (Or.inl ⟨by kernel_rfl, fun w _ => by go_simp <;> with_reducible rfl⟩) hHeld ?_
    simp only [List.getElem_toArray, List.getElem_cons_succ, List.getElem_cons_zero, Act.put, List.setIfInBounds_toArray, List.set_cons_zero, List.set_cons_succ]
    refine wpAnyH_done (by kernel_rfl) ?_ _
    have HB2 := Lib.hid (below_step' HB0.out hHeld)
    go_wp2_with fail
    go_ret
    rw [HE.out]
    exact ⟨_, rfl, HO3.out, HB2.out⟩
  · obtain ⟨n', rfl⟩ := Int.eq_ofNat_of_zero_le (show 0 ≤ n by omega)
    have HE := Lib.hid (show dataL 7 d nm.data.toList l n' z = magicL ++ putB n' 8 from rfl)
    have hwn : IntKind.u64.wrap (n' : Int) = (n' : Int) := IntWalk.u64_in _ (by omega)
    have HP1 := Lib.hid (fun (W : World) (A' : Option Addr) (c' : Nat) (h : Rd W A' magicL) => (show Calls Try.prog 47 #[.slice A' 8 c', .int .u64 n', .int .i64 8] W (Made W (magicL ++ putB n' 8)) from R01.put_any A' c' magicL n' 8 W (by decide) (by omega) (by decide) (by decide) h))
    have c36 : w1.cell? ⟨w.heap.size, 36, none⟩ = some (.int .i64 n') := by rw [blk_cell HG.out 36]; exact h36
    have HL := Lib.hid (CrcW.rd_mark w1 magicL _ (8, 9) rfl (by decide))
    have HBL := Lib.hid (below_alloc HB0.out (.cells (magicL.map encB).toArray 5 (8, 9)))
    have kc := fun (w : World) (C : Array Value) (n c : Nat) => Lib.run_convert_bytes_const (P := Try.prog) w 22 5 C n c undB Try.underlying5
    clear h34 h35 h37 hsz
    go_enter Try.func51, Try.ntmps51
    go_wp2_with fail
    refine (HP1.out _ _ _ HL.out).mono ?_
    rintro e w2 ⟨v2, rfl, ho, hb⟩
    have HO2 := Lib.hid (show Own w2 w.heap.size v2 _ from ho.lower HBL.out.size)
    have HB2 := Lib.hid (below_step' HBL.out hb)
    clear ho hb
    go_wp2_with fail
    go_ret
    rw [HE.out]
    exact ⟨_, rfl, HO2.out, HB2.out⟩
  · obtain ⟨n', rfl⟩ := Int.eq_ofNat_of_zero_le hin.1
    obtain ⟨z', rfl⟩ := Int.eq_ofNat_of_zero_le hin.2.2.1
    have HE := Lib.hid (show dataL 8 d nm.data.toList l n' z' = ([] ++ putB n' 4) ++ putB z' 4 from rfl)
    have hwn : IntKind.u64.wrap (n' : Int) = (n' : Int) := IntWalk.u64_in _ (by omega)
    have hwz : IntKind.u64.wrap (z' : Int) = (z' : Int) := IntWalk.u64_in _ (by omega)
    have HP1 := Lib.hid (fun (W : World) => R01.put_any none 0 [] n' 4 W (by simp) (by omega) (by decide) (by decide) (Rd.nil W))
    have hpl : ([] ++ putB n' 4).length ≤ 140737488355000 := by rw [List.nil_append, putB_length]; decide
    have HP2 := Lib.hid (fun (W : World) (A' : Option Addr) (c' : Nat) (h : Rd W A' ([] ++ putB n' 4)) => R01.put_any A' c' ([] ++ putB n' 4) z' 4 W hpl (by omega) (by decide) (by decide) h)
    clear h34 h35 hsz hpl
    go_enter Try.func51, Try.ntmps51
    go_wp2_with fail
    clear hw1
    have hx0 : Below w1.heap.size w1 w1.drew := below_drew (Below.refl _ _)
    refine wp_region_held_drew (S := fun W => Below w1.heap.size w1 W) (by kernel_rfl) hx0 (fun hHeld => ?_)
    refine wpAnyH_take (i := 0) (v := _) rfl (by kernel_rfl) (by kernel_rfl) (by kernel_rfl) (fun _ _ _ h => h) (Or.inl ⟨by kernel_rfl, fun w _ => by go_simp <;> with_reducible rfl⟩) hHeld ?_
    simp only [List.getElem_toArray, List.getElem_cons_succ, List.getElem_cons_zero, Act.put, List.setIfInBounds_toArray, List.set_cons_zero, List.set_cons_succ]
    refine wpAnyH_take (i := 1) (v := _) rfl (by kernel_rfl) (by kernel_rfl) (by kernel_rfl) (fun _ _ _ h => h) (Or.inl ⟨by kernel_rfl, fun w _ => by go_simp <;> with_reducible rfl⟩) hHeld ?_
    simp only [List.getElem_toArray, List.getElem_cons_succ, List.getElem_cons_zero, Act.put, List.setIfInBounds_toArray, List.set_cons_zero, List.set_cons_succ]
    refine wpAnyH_take (i := 2) (v := .int .i64 n') rfl (by kernel_rfl) (by kernel_rfl) (by kernel_rfl) (fun _ _ _ h => h) (Or.inl ⟨by kernel_rfl, fun W h => by have q0 := blk_cell (blk_below HG.out h) 36; go_simp <;> with_reducible rfl⟩) hHeld ?_
    simp only [List.getElem_toArray, List.getElem_cons_succ, List.getElem_cons_zero, Act.put, List.setIfInBounds_toArray, List.set_cons_zero, List.set_cons_succ]
    refine wpAnyH_take (i := 3) (v := _) rfl (by kernel_rfl) (by kernel_rfl) (by kernel_rfl) (fun _ _ _ h => h) (Or.inl ⟨by kernel_rfl, fun w _ => by go_simp <;> with_reducible rfl⟩) hHeld ?_
    simp only [List.getElem_toArray, List.getElem_cons_succ, List.getElem_cons_zero, Act.put, List.setIfInBounds_toArray, List.set_cons_zero, List.set_cons_succ]
    refine wpAnyH_take (i := 5) (v := _) rfl (by kernel_rfl) (by kernel_rfl) (by kernel_rfl) (fun _ _ _ h => h) (Or.inl ⟨by kernel_rfl, fun w _ => by go_simp <;> with_reducible rfl⟩) hHeld ?_
    simp only [List.getElem_toArray, List.getElem_cons_succ, List.getElem_cons_zero, Act.put, List.setIfInBounds_toArray, List.set_cons_zero, List.set_cons_succ]
    refine wpAnyH_take (i := 6) (v := .int .i64 z') rfl (by kernel_rfl) (by kernel_rfl) (by kernel_rfl) (fun _ _ _ h => h) (Or.inl ⟨by kernel_rfl, fun W h => by have q0 := blk_cell (blk_below HG.out h) 37; go_simp <;> with_reducible rfl⟩) hHeld ?_
    simp only [List.getElem_toArray, List.getElem_cons_succ, List.getElem_cons_zero, Act.put, List.setIfInBounds_toArray, List.set_cons_zero, List.set_cons_succ]
    refine wpAnyH_take (i := 7) (v := _) rfl (by kernel_rfl) (by kernel_rfl) (by kernel_rfl) (fun _ _ _ h => h) (Or.inl ⟨by kernel_rfl, fun w _ => by go_simp <;> with_reducible rfl⟩) hHeld ?_
    simp only [List.getElem_toArray, List.getElem_cons_succ, List.getElem_cons_zero, Act.put, List.setIfInBounds_toArray, List.set_cons_zero, List.set_cons_succ]
    refine wpAnyH_ready (rs := [4]) (by kernel_rfl) (by simp) ?_
    refine AllReadyH.cons rfl (fun K hK => ?_) ?_
    case refine_2 => exact AllReadyH.nil
    go_simp
    refine (HP1.out _).mono ?_
    rintro e w2 ⟨v2, rfl, ho, hb⟩
    obtain ⟨A2, c2, rfl, -, hr2⟩ := ho.reads
    have HR2 := Lib.hid hr2
    refine hK.out _ _ (below_step' hHeld hb) (fun hHeld => ?_)
    clear hK K
    try simp only [List.getElem_toArray, List.getElem_cons_succ, List.getElem_cons_zero, Act.put, List.setIfInBounds_toArray, List.set_cons_zero, List.set_cons_succ]
    clear ho hr2 hb
    refine wpAnyH_ready (rs := [8]) (by kernel_rfl) (by simp) ?_
    refine AllReadyH.cons rfl (fun K hK => ?_) ?_
    case refine_2 => exact AllReadyH.nil
    go_simp
    refine (HP2.out _ _ _ HR2.out).mono ?_
    rintro e w3 ⟨v3, rfl, ho, hb⟩
    have HO3 := Lib.hid (show Own w3 w.heap.size v3 _ from ho.lower (Nat.le_trans HB0.out.size hHeld.size))
    refine hK.out _ _ (below_step' hHeld hb) (fun hHeld => ?_)
    clear hK K
    try simp only [List.getElem_toArray, List.getElem_cons_succ, List.getElem_cons_zero, Act.put, List.setIfInBounds_toArray, List.set_cons_zero, List.set_cons_succ]
    clear ho hb
    refine wpAnyH_take (i := 9) (v := _) rfl (by kernel_rfl) (by kernel_rfl) (by kernel_rfl) (fun _ _ _ h => h) (Or.inl ⟨by kernel_rfl, fun w _ => by go_simp <;> with_reducible rfl⟩) hHeld ?_
    simp only [List.getElem_toArray, List.getElem_cons_succ, List.getElem_cons_zero, Act.put, List.setIfInBounds_toArray, List.set_cons_zero, List.set_cons_succ]
    refine wpAnyH_done (by kernel_rfl) ?_ _
    have HB2 := Lib.hid (below_step' HB0.out hHeld)
    go_wp2_with fail
    go_ret
    rw [HE.out]
    exact ⟨_, rfl, HO3.out, HB2.out⟩
end Go.Proofs.Ytceldlijbehkdaa.Rc
