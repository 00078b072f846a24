/- stillageref14.digest; cells stored in the middle of a block. -/
import Derived.Test.YtceldlijbehkdaaRcParse
import Derived.Test.YtceldlijbehkdaaFixed
set_option linter.unusedVariables false
set_option linter.unusedSimpArgs false
namespace Go.Proofs.Ytceldlijbehkdaa.Rc
open Go.RowKit Go.Proofs.YtceldlijbehkdaaW.PrintWords Go.Proofs.Ytceldlijbehkdaa.B Go.Proofs.Ytceldlijbehkdaa.Fx Go.Proofs.Ytceldlijbehkdaa.Fr
theorem undDig : Try.prog.underlying 25 = some (.array 32 5) := Try.underlying25
theorem RecF.range {X : Array Value} {k : Int} {s : Nat} {d : List UInt8} {nm : ByteArray} {A : Option Addr} {m c : Nat} {n z : Int} (h : RecF X k s d nm A m c n z) {W : World} {g : Nat} {t : TypeId} {fr : Nat × Nat} (hg : W.heap[g]? = some (.cells X t fr)) : W.rangeAt g 2 (d.map encB) := range_blk hg (fun j v hv => h.dig j v hv)
theorem upd_cells {g : Nat} {T : TypeId} {X : Array Value} {w : World} (hg : w.heap[g]? = some (.cells X T (0, 0))) (o : Nat) (cs : List Value) (hf : o + cs.length ≤ X.size) : Upd g T (splice X.toList o cs).toArray w (w.setCells g o cs) := by
  obtain ⟨cur', h1, h2, h3⟩ := setCells_mark cs o w X hg hf
  refine ⟨?_, fun k hk => setCells_far _ _ k (by omega), ?_⟩
  · rw [h1]
    have e : cur' = (splice X.toList o cs).toArray := by
      apply Array.toList_inj.1
      rw [h3]; unfold splice; simp
    rw [e]
  · obtain ⟨s1, s2, s3, s4⟩ := setCells_same g cs o w
    exact ⟨s1, s2, s3, by rw [s4]; exact Nat.le_refl _, fun k hk => setCells_far _ _ k (by omega)⟩
theorem there_of {g : Nat} {T : TypeId} {X : Array Value} {w : World} (hg : w.heap[g]? = some (.cells X T (0, 0))) (o n : Nat) (hf : o + n ≤ X.size) : w.there g o n := fun j hj => by
  have hj' : o + j < X.size := by omega
  refine ⟨?_, ?_⟩
  · rw [blk_cell hg, Array.getElem?_eq_getElem hj']; rfl
  · exact blk_frozen hg _
theorem takeN_lt4 (l : List UInt8) (p : Int) : takeN l p 4 < 4294967296 := by
  unfold takeN
  split
  · exact le_take_lt _ 4
  · decide
theorem takeN_lt8 (l : List UInt8) (p : Int) : takeN l p 8 < 18446744073709551616 := by
  unfold takeN
  split
  · exact le_take_lt _ 8
  · decide
def zDig : Array Value := (z32.map encB).toArray
theorem zeroDig (w : World) : (zeroValue 25).run Try.prog w = .ok (.agg zDig) w := by kernel_rfl
theorem infoDig : (Try.prog.info? 25).map (·.size) = some 32 := by kernel_rfl
/-- a digest on the way -/
def dk (b : List UInt8) (k : Nat) : List UInt8 := b.take k ++ List.replicate (32 - k) 0
theorem dk_len {b : List UInt8} {k : Nat} (h : 32 ≤ b.length) (hk : k ≤ 32) : (dk b k).length = 32 := by unfold dk; rw [List.length_append, List.length_take, List.length_replicate]; omega
theorem dk_set {b : List UInt8} {k : Nat} (h : 32 ≤ b.length) (hk : k < 32) : ((dk b k).map encB).toArray.setIfInBounds k (encB (b.getD k 0)) = ((dk b (k + 1)).map encB).toArray := by
  have hkb : k < b.length := by omega
  rw [List.setIfInBounds_toArray]
  congr 1
  rw [← List.map_set]
  congr 1
  unfold dk
  have e : b.getD k 0 = b[k] := by simp [List.getD_eq_getElem?_getD, hkb]
  rw [List.set_append_right _ _ (by rw [List.length_take]; omega), List.length_take, Nat.min_eq_left (by omega), Nat.sub_self, show 32 - k = (32 - (k + 1)) + 1 by omega, List.replicate_succ, List.set_cons_zero, e, List.take_succ_eq_append_getElem hkb, List.append_assoc]
  rfl
set_option maxRecDepth 100000 in
set_option maxHeartbeats 1600000 in
theorem refdigest_any (A : Option Addr) (c : Nat) (b : List UInt8) (w : World) (hr : Rd w A b) (h32 : 32 ≤ b.length) :
    Calls Try.prog 68 #[.slice A b.length c] w (Kept (.agg ((b.take 32).map encB).toArray) w) := by
  obtain ⟨w1, hw1⟩ : ∃ w1, (w.alloc (.cells zDig 25)).alloc (.cells zDig 25) = w1 := ⟨_, rfl⟩
  obtain ⟨hg, hz, hb0⟩ := run_blk2 w zDig zDig 25 25
  rw [hw1] at hg hz hb0
  have HG := Lib.hid hg
  have HZ := Lib.hid hz
  have HB0 := Lib.hid hb0
  have HR0 := Lib.hid hr
  have H32 := Lib.hid h32
  have HD0 := Lib.hid (show zDig = ((dk b 0).map encB).toArray from rfl)
  clear hg hz hb0 hr
  go_enter Try.func68, Try.ntmps68
  go_wp2_with (refine wpList_allocZ rfl 25 rfl zDig zeroDig ?_)
  clear hw1
  go_loopw [4] (fun i wr => ∃ k : Nat, k ≤ 32 ∧ i = .int .i64 k ∧ Hid (wr.heap[w.heap.size + 1]? = some (.cells ((dk b k).map encB).toArray 25 (0, 0))) ∧ Hid (wr.heap[w.heap.size]? = some (.cells zDig 25 (0, 0))) ∧ Hid (Below w.heap.size w wr)) (fun i _ => 32 - (intOf i).toNat)
  case atStart => exact ⟨0, by omega, rfl, by rw [← HD0.out]; exact HZ, HG, HB0⟩
  case round =>
    obtain ⟨k, hk, rfl, HK, HG1, HB1⟩ := hrel
    by_cases hlt : k < 32
    · obtain ⟨ad, rfl, hc⟩ := (HR0.out.below HB1.out).at_ k (by omega)
      have hb := bt_bd b k
      obtain ⟨q, hq⟩ : ∃ q, B.bt b k = q := ⟨_, rfl⟩
      rw [hq] at hc hb
      have hkl : ((dk b k).map encB).length = 32 := by rw [List.length_map]; exact dk_len H32.out hk
      obtain ⟨u, hu⟩ : ∃ u, ((dk b k).map encB)[k]? = some u := ⟨_, List.getElem?_eq_getElem (by omega)⟩
      have hcc : wr.cell? ⟨w.heap.size + 1, k, none⟩ = some u := by rw [blk_cell HK.out]; simpa using hu
      have hff : wr.frozen? ⟨w.heap.size + 1, k, none⟩ = false := blk_frozen HK.out k
      have hup := upd_cell HK.out k (.int .u8 q)
      have HST := Lib.hid (show ((dk b k).map encB).toArray.setIfInBounds k (.int .u8 q) = ((dk b (k + 1)).map encB).toArray from by rw [← dk_set H32.out hlt, ← hq]; rfl)
      obtain ⟨w2, hw2⟩ : ∃ w2, wr.setCell ⟨w.heap.size + 1, k, none⟩ (.int .u8 q) = w2 := ⟨_, rfl⟩
      rw [hw2, HST.out] at hup
      have HK2 := Lib.hid hup.at_
      have HG2 := Lib.hid ((hup.off w.heap.size (by omega)).trans HG1.out)
      have HB2 := Lib.hid (hup.to (Nat.le_succ _) HB1.out)
      have hkb : k < b.length := by omega
      clear hup hq hkl hu
      go_wp2_with fail
      go_roundw
      case rel => exact ⟨k + 1, by omega, by go_num, HK2, HG2, HB2⟩
      case measure => simp [intOf]; omega
    · obtain rfl : k = 32 := by omega
      obtain ⟨Y, hY⟩ : ∃ Y, ((dk b 32).map encB).toArray = Y := ⟨_, rfl⟩
      have hdl : ((dk b 32).map encB).length = 32 := by rw [List.length_map]; exact dk_len H32.out (Nat.le_refl _)
      have hYS : Y.size = 32 := by rw [← hY]; simpa using hdl
      have HYI := Lib.hid (show (Try.prog.info? 25).map (·.size) = some Y.size by rw [hYS]; exact infoDig)
      have HYZ := Lib.hid (show zDig.size = Y.size by rw [hYS]; rfl)
      have HY1 := Lib.hid (show Y.all (·.oneCell') = true by rw [← hY]; exact all_oneCell_toArray (one_encs _))
      have HYE := Lib.hid (show Y = ((b.take 32).map encB).toArray by rw [← hY]; unfold dk; simp)
      rw [hY] at HK
      have hup := upd_row HG1.out Y
      obtain ⟨w2, hw2⟩ : ∃ w2, wr.setRow w.heap.size Y = w2 := ⟨_, rfl⟩
      rw [hw2] at hup
      have HF := Lib.hid hup.at_
      have HBF := Lib.hid (hup.to (Nat.le_refl _) HB1.out)
      have HW2 := Lib.hid hw2
      clear hup hY hdl hYS hw2
      go_wp2_with (first | (refine wpList_load_row rfl 25 (.tmp 3) rfl (w.heap.size + 1) rfl 25 Y (0, 0) _ HK.out Try.underlying25 rfl HYI.out ?_) | (refine wpList_store_row rfl 25 (.tmp 2) (.tmp 15) rfl w.heap.size Y rfl rfl 25 zDig HG1.out HYI.out HYZ.out HY1.out ?_; rw [HW2.out]))
      refine bodyPost_ret_by (results_cell_row rfl _ _ w.heap.size _ Y (0, 0) _ rfl HF.out Try.underlying25 rfl HYI.out) rfl ?_
      exact ⟨by rw [HYE.out], HBF.out⟩
end Go.Proofs.Ytceldlijbehkdaa.Rc
