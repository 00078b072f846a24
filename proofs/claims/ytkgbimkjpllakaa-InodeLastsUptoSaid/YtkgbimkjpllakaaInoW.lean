/- inode: what each call answers. -/
import Derived.Test.YtkgbimkjpllakaaInoCat
import Derived.Test.YtkgbimkjpllakaaWrPeak
import Derived.Test.YtkgbimkjpllakaaWrMore
import Derived.Test.YtkgbimkjpllakaaCut
import Derived.Test.YtkgbimkjpllakaaClone
import Derived.Test.YtkgbimkjpllakaaBox
import Derived.Deep.RegionHeld3
set_option linter.unusedVariables false
set_option linter.unusedSimpArgs false
namespace Go.Proofs.Ytkgbimkjpllakaa.In
open Go.RowKit Go.Proofs.YtkgbimkjpllakaaW.PrintWords Go.Proofs.Ytkgbimkjpllakaa.B Go.Proofs.Ytkgbimkjpllakaa.O Go.Proofs.Ytkgbimkjpllakaa.Wr

theorem below_set' {B : Nat} {w W : World} {g j : Nat} {v : Value} (h : Below B w W) (hg : B ≤ g) : Below B w (W.setCell ⟨g, j, none⟩ v) := h.setCell hg _
theorem f_row {α : Type} {d : Kd α} {w : World} {ok : Nat → Prop} {A : Option Addr} {n : Nat} {xs : List α} (h : Kd.F d w ok A n xs) {g : Nat} (hg : ∀ k, ok k → k ≠ g) (u : Array Value) : Kd.F d (w.setRow g u) ok A n xs := Kd.F_step h (fun k hk _ => setRow_other w g k u (hg k hk))
set_option maxRecDepth 100000 in
theorem now_any (A : Option Addr) (c : Nat) (b : List UInt8) (A2 : Option Addr) (c2 : Nat) (l : List Wt) (w : World) (hl : b.length ≤ 140737488355000) (hc : b.length ≤ c) (hb : Rd w A b) (hw : RdW w A2 l) :
    Calls Try.prog 27 #[.agg #[.slice A b.length c, .slice A2 l.length c2]] w (Made w (allL b l)) := by
  have HA := Lib.hid (Wr.all_any A c b A2 c2 l (w.alloc (.cells #[.slice A b.length c, .slice A2 l.length c2] 37)) hl hc (hb.below (below_alloc (Below.refl _ _) _)) (Kd.C_below hw (below_alloc (Below.refl _ _) _)))
  clear hb hw
  go_enter Try.func27, Try.ntmps27
  go_wp2_with fail
  refine HA.out.mono ?_
  rintro e w1 ⟨v, rfl, hown, hb⟩
  have HO := Lib.hid (hown.lower (show w.heap.size ≤ _ by simp))
  have HB := Lib.hid (below_then (below_alloc (Below.refl _ _) _) (by simp) hb)
  clear hown hb
  go_wp2_with fail
  go_ret
  exact ⟨v, rfl, HO.out, HB.out⟩
set_option maxRecDepth 100000 in
theorem room_any (A : Option Addr) (c : Nat) (b : List UInt8) (A2 : Option Addr) (c2 : Nat) (l : List Wt) (w : World) (hl : b.length ≤ 140737488355000) (hw : RdW w A2 l) :
    Calls Try.prog 31 #[.agg #[.slice A b.length c, .slice A2 l.length c2]] w (Kept (.int .i64 (peakL b.length l : Nat)) w) := by
  have HA := Lib.hid (Wr.peak_any b.length A2 c2 l (w.alloc (.cells #[.slice A b.length c, .slice A2 l.length c2] 37)) (by omega) (Kd.C_below hw (below_alloc (Below.refl _ _) _)))
  clear hw
  go_enter Try.func31, Try.ntmps31
  go_wp2_with fail
  refine HA.out.mono ?_
  rintro e w1 ⟨rfl, hb⟩
  have HB := Lib.hid (below_then (below_alloc (Below.refl _ _) _) (by simp) hb)
  clear hb
  go_wp2_with fail
  go_ret
  exact ⟨rfl, HB.out⟩
set_option maxRecDepth 100000 in
theorem sync_any (A : Option Addr) (c : Nat) (b : List UInt8) (A2 : Option Addr) (c2 : Nat) (l : List Wt) (w : World) (hl : b.length ≤ 140737488355000) (hc : b.length ≤ c) (hb : Rd w A b) (hw : RdW w A2 l) :
    Calls Try.prog 24 #[.agg #[.slice A b.length c, .slice A2 l.length c2]] w (InoE (allL b l, []) (fun _ => False) w) := by
  obtain ⟨w2, hw2⟩ : ∃ w2, (w.alloc (.cells #[.slice A b.length c, .slice A2 l.length c2] 37)).alloc (.cells #[.slice none 0 0, .slice none 0 0] 37) = w2 := ⟨_, rfl⟩
  have hB2 : Below w.heap.size w w2 := hw2 ▸ below_alloc (below_alloc (Below.refl _ _) _) _
  have hs1 : (w.alloc (.cells #[.slice A b.length c, .slice A2 l.length c2] 37)).heap.size = w.heap.size + 1 := by simp
  have hZ : w2.heap[w.heap.size + 1]? = some (.cells #[.slice none 0 0, .slice none 0 0] 37 (0, 0)) := by rw [← hs1, ← hw2]; exact blk_new _ _
  have c0 : w2.cell? ⟨w.heap.size, 0, none⟩ = some (.slice A b.length c) := by rw [← hw2]; exact blk_cell (blk_alloc (blk_new w _) _) 0
  have c1 : w2.cell? ⟨w.heap.size, 1, none⟩ = some (.slice A2 l.length c2) := by rw [← hw2]; exact blk_cell (blk_alloc (blk_new w _) _) 1
  have hz := blk_lt hZ
  have HA := Lib.hid (now_any A c b A2 c2 l w2 hl hc (hb.below hB2) (Kd.C_below hw hB2))
  have HZ := Lib.hid hZ
  have HB2 := Lib.hid hB2
  clear hb hw hs1 hZ hB2
  go_enter Try.func24, Try.ntmps24
  go_wp2_with fail
  refine HA.out.mono ?_
  rintro e w3 ⟨v, rfl, hown, hb⟩
  have HZ3 := Lib.hid (blk_below HZ.out hb)
  obtain ⟨A1, c1', rfl, hc1, -⟩ := hown.reads
  have HO := Lib.hid (own_fb hown)
  have HB3 := Lib.hid (below_step' HB2.out hb)
  have hcc := fun i => blk_cell HZ3.out i
  have hff := fun i => blk_frozen HZ3.out i
  have hz3 := blk_lt HZ3.out
  clear hown hb
  go_wp2_with fail
  refine bodyPost_ret_by (results_cell_row rfl _ _ (w.heap.size + 1) _ _ (0, 0) _ rfl (blk_set (blk_set HZ3.out 0 _) 1 _) Try.underlying37 rfl infoIn) rfl ?_
  have hne : ∀ k, w2.heap.size ≤ k → k ≠ w.heap.size + 1 := fun k hk => by omega
  refine ⟨_, rfl, in_mk hc1 (Nat.le_refl 0) (Kd.F_mono (Kd.F_far (Kd.F_far HO.out hne _) hne _) (fun k hk => .inr (Nat.le_trans HB2.out.size hk))) (fw_nil _ _), below_set' (below_set' HB3.out (Nat.le_succ _)) (Nat.le_succ _)⟩
set_option maxRecDepth 100000 in
set_option maxHeartbeats 1600000 in
theorem with_any (A : Option Addr) (c : Nat) (b : List UInt8) (A2 : Option Addr) (c2 : Nat) (l : List Wt) (A3 : Option Addr) (c3 : Nat) (l3 : List Wt) (w : World) (ok : Nat → Prop) (hb : FB w ok A b) (hw : FW w ok A2 l) (hw3 : FW w ok A3 l3) (hok : ∀ k, ok k → k < w.heap.size) (hc : b.length ≤ c) (hlen : (l.length + l3.length) * 40 ≤ 140737488355328) :
    Calls Try.prog 47 #[.agg #[.slice A b.length c, .slice A2 l.length c2], .slice A3 l3.length c3] w (InoE (b, l ++ l3) ok w) := by
  obtain ⟨w2, hw2⟩ : ∃ w2, (w.alloc (.cells #[.slice A b.length c, .slice A2 l.length c2] 37)).alloc (.cells #[.slice none 0 0, .slice none 0 0] 37) = w2 := ⟨_, rfl⟩
  have hB2 : Below w.heap.size w w2 := hw2 ▸ below_alloc (below_alloc (Below.refl _ _) _) _
  have hs1 : (w.alloc (.cells #[.slice A b.length c, .slice A2 l.length c2] 37)).heap.size = w.heap.size + 1 := by simp
  have hZ : w2.heap[w.heap.size + 1]? = some (.cells #[.slice none 0 0, .slice none 0 0] 37 (0, 0)) := by rw [← hs1, ← hw2]; exact blk_new _ _
  have hX : w2.heap[w.heap.size]? = some (.cells #[.slice A b.length c, .slice A2 l.length c2] 37 (0, 0)) := by rw [← hw2]; exact blk_alloc (blk_new w _) _
  have c0 : w2.cell? ⟨w.heap.size, 0, none⟩ = some (.slice A b.length c) := blk_cell hX 0
  have c1 : w2.cell? ⟨w.heap.size, 1, none⟩ = some (.slice A2 l.length c2) := blk_cell hX 1
  have hz := blk_lt hZ
  have HZ := Lib.hid hZ
  have HX := Lib.hid hX
  have HB2 := Lib.hid hB2
  clear hs1 hZ hX
  have HFB := Lib.hid (hb.below hB2)
  have HFW := Lib.hid (hw.below hB2)
  have HF3 := Lib.hid (hw3.below hB2)
  clear hb hw hw3 hB2
  have HCAT := Lib.hid (fun (W : World) (g : Nat) (h : W.heap[g]? = some (.cells #[.slice A2 l.length c2, .slice A3 l3.length c3] 23 (0, 0))) (h1 : FW W ok A2 l) (h2 : FW W ok A3 l3) => InC.concat_any g 23 A2 A3 c2 c3 l l3 W ok h h1 h2 hlen)
  obtain ⟨y, hy⟩ : ∃ y, l ++ l3 = y := ⟨_, rfl⟩
  rw [hy] at HCAT
  rw [hy]
  clear hy
  go_enter Try.func47, Try.ntmps47
  go_wp2_with fail
  refine wp_region_held_drew (S := fun W => W.heap[w.heap.size]? = some (.cells #[.slice A b.length c, .slice A2 l.length c2] 37 (0, 0)) ∧ Below w.heap.size w W ∧ w2.heap.size ≤ W.heap.size) (by kernel_rfl) ⟨HX.out, below_drew HB2.out, Nat.le_refl _⟩ (fun hHeld => ?_)
  refine wpAnyH_take (i := 0) (v := _) rfl (by kernel_rfl) (by kernel_rfl) (by kernel_rfl) (fun _ _ _ h => h) (Or.inl ⟨by kernel_rfl, fun w _ => by go_simp <;> with_reducible rfl⟩) hHeld ?_
  simp only [List.getElem_toArray, List.getElem_cons_succ, List.getElem_cons_zero, Act.put, List.setIfInBounds_toArray, List.set_cons_zero, List.set_cons_succ]
  refine wpAnyH_take (i := 1) (v := .slice A b.length c) rfl (by kernel_rfl) (by kernel_rfl) (by kernel_rfl) (fun _ _ _ h => h) (Or.inl ⟨by kernel_rfl, fun W h => by have c0 : W.cell? ⟨w.heap.size, 0, none⟩ = some (.slice A b.length c) := blk_cell h.1 0; go_simp <;> with_reducible rfl⟩) hHeld ?_
  simp only [List.getElem_toArray, List.getElem_cons_succ, List.getElem_cons_zero, Act.put, List.setIfInBounds_toArray, List.set_cons_zero, List.set_cons_succ]
  refine wpAnyH_take (i := 2) (v := _) rfl (by kernel_rfl) (by kernel_rfl) (by kernel_rfl) (fun _ _ _ h => h) (Or.inl ⟨by kernel_rfl, fun w _ => by go_simp <;> with_reducible rfl⟩) hHeld ?_
  simp only [List.getElem_toArray, List.getElem_cons_succ, List.getElem_cons_zero, Act.put, List.setIfInBounds_toArray, List.set_cons_zero, List.set_cons_succ]
  refine wpAnyH_take (i := 3) (v := .slice A2 l.length c2) rfl (by kernel_rfl) (by kernel_rfl) (by kernel_rfl) (fun _ _ _ h => h) (Or.inl ⟨by kernel_rfl, fun W h => by have c0 : W.cell? ⟨w.heap.size, 1, none⟩ = some (.slice A2 l.length c2) := blk_cell h.1 1; go_simp <;> with_reducible rfl⟩) hHeld ?_
  simp only [List.getElem_toArray, List.getElem_cons_succ, List.getElem_cons_zero, Act.put, List.setIfInBounds_toArray, List.set_cons_zero, List.set_cons_succ]
  refine wpAnyH_take (i := 4) (v := _) rfl (by kernel_rfl) (by kernel_rfl) (by kernel_rfl) (fun _ _ _ h => h) (Or.inl ⟨by kernel_rfl, fun w _ => by go_simp <;> with_reducible rfl⟩) hHeld ?_
  simp only [List.getElem_toArray, List.getElem_cons_succ, List.getElem_cons_zero, Act.put, List.setIfInBounds_toArray, List.set_cons_zero, List.set_cons_succ]
  refine wpAnyH_ready (rs := [5]) (by kernel_rfl) (by simp) ?_
  refine AllReadyH.cons rfl (fun K hK => ?_) AllReadyH.nil
  go_simp
  obtain ⟨w3, hw3⟩ : ∃ w3, (w2.alloc (.cells #[.slice A2 l.length c2, .slice A3 l3.length c3] 23)).drew = w3 := ⟨_, rfl⟩
  rw [hw3]
  have hb3 : Below w2.heap.size w2 w3 := hw3 ▸ below_drew (below_alloc (Below.refl _ _) _)
  have HG3 := Lib.hid (show w3.heap[w2.heap.size]? = some (.cells #[.slice A2 l.length c2, .slice A3 l3.length c3] 23 (0, 0)) from hw3 ▸ blk_new w2 _)
  have HZ3 := Lib.hid (blk_below HZ.out hb3)
  have HFB3 := Lib.hid (HFB.out.below hb3)
  have HFW3 := Lib.hid (HFW.out.below hb3)
  have HF33 := Lib.hid (HF3.out.below hb3)
  have HB3 := Lib.hid (below_step' HB2.out hb3)
  have HS3 := Lib.hid hb3.size
  refine hK.out _ _ ⟨blk_below HX.out hb3, HB3.out, HS3.out⟩ (fun hHeld => ?_)
  clear hK K hw3 hb3
  try simp only [List.getElem_toArray, List.getElem_cons_succ, List.getElem_cons_zero, Act.put, List.setIfInBounds_toArray, List.set_cons_zero, List.set_cons_succ]
  refine wpAnyH_ready (rs := [6]) (by kernel_rfl) (by simp) ?_
  refine AllReadyH.cons rfl (fun K hK => ?_) ?_
  case refine_2 => exact AllReadyH.nil
  go_simp
  refine (HCAT.out w3 w2.heap.size HG3.out HFW3.out HF33.out).mono ?_
  rintro e w4 ⟨Av, cv, rfl, hcv, hF4, hb4⟩
  have HZ4 := Lib.hid (blk_below HZ3.out hb4)
  have HFB4 := Lib.hid (HFB3.out.below hb4)
  have HF4 := Lib.hid hF4
  have HB4 := Lib.hid (below_step' HB3.out hb4)
  refine hK.out _ _ (⟨blk_below hHeld.1 hb4, below_step' hHeld.2.1 hb4, Nat.le_trans hHeld.2.2 hb4.size⟩) (fun hHeld => ?_)
  clear hK K
  try simp only [List.getElem_toArray, List.getElem_cons_succ, List.getElem_cons_zero, Act.put, List.setIfInBounds_toArray, List.set_cons_zero, List.set_cons_succ]
  clear hb4 hF4
  refine wpAnyH_take (i := 7) (v := _) rfl (by kernel_rfl) (by kernel_rfl) (by kernel_rfl) (fun _ _ _ h => h) (Or.inl ⟨by kernel_rfl, fun w _ => by go_simp <;> with_reducible rfl⟩) hHeld ?_
  simp only [List.getElem_toArray, List.getElem_cons_succ, List.getElem_cons_zero, Act.put, List.setIfInBounds_toArray, List.set_cons_zero, List.set_cons_succ]
  refine wpAnyH_ready (rs := [8]) (by kernel_rfl) (by simp) ?_
  refine AllReadyH.cons rfl (fun K hK => ?_) AllReadyH.nil
  rw [if_pos (by rfl)]
  refine wp_store_row 37 _ _ rfl (w.heap.size + 1) #[.slice A b.length c, .slice Av y.length cv] rfl rfl 37 _ HZ4.out infoIn rfl (by simp [Value.oneCell']) ?_
  refine hK.out _ _ ⟨(setRow_other _ _ _ _ (by omega)).trans hHeld.1, below_setRow hHeld.2.1 (Nat.le_succ _) _, by rw [size_setRow]; exact hHeld.2.2⟩ (fun hHeld => ?_)
  clear hK K
  try simp only [List.getElem_toArray, List.getElem_cons_succ, List.getElem_cons_zero, Act.put, List.setIfInBounds_toArray, List.set_cons_zero, List.set_cons_succ]
  refine wpAnyH_done (by kernel_rfl) ?_ _
  go_wp2_with fail
  refine bodyPost_ret_by (results_cell_row rfl _ _ (w.heap.size + 1) _ _ (0, 0) _ rfl (setRow_heap _ _ _ _ _ _ HZ4.out) Try.underlying37 rfl infoIn) rfl ?_
  have hne : ∀ k, ok k → k ≠ w.heap.size + 1 := fun k hk => by have := hok k hk; omega
  have hne2 : ∀ k, (ok k ∨ w3.heap.size ≤ k) → k ≠ w.heap.size + 1 := fun k hk => by rcases hk with hk | hk; exact hne k hk; have := HS3.out; omega
  exact ⟨_, rfl, in_mk hc hcv (Kd.F_mono (f_row HFB4.out hne _) (fun k hk => .inl hk)) (Kd.F_mono (f_row HF4.out hne2 _) (fun k hk => hk.imp id (fun h => by have := HS3.out; omega))), below_setRow HB4.out (Nat.le_succ _) _⟩
theorem fk_row {α : Type} {d : Kd α} {w : World} {ok : Nat → Prop} {x : α} {c : List Value} (h : Kd.FK d w ok x c) {g : Nat} (hg : ∀ k, ok k → k ≠ g) (u : Array Value) : Kd.FK d (w.setRow g u) ok x c := Foot.step h (fun k hk _ => setRow_other w g k u (hg k hk))
theorem in_size {w : World} {ok : Nat → Prop} {x : Ino} {cs : Array Value} (h : Kd.FK kIn w ok x cs.toList) : cs.size = 2 ∧ cs.all (·.oneCell') = true := by
  obtain ⟨A, c, A2, c2, h1, -⟩ := in_cells h
  have h2 : cs = #[.slice A x.1.length c, .slice A2 x.2.length c2] := Array.toList_inj.1 h1
  rw [h2]; exact ⟨rfl, by simp [Value.oneCell']⟩
theorem infoIn' {cs : Array Value} (h : cs.size = 2) : (Try.prog.info? 37).map (·.size) = some cs.size := by rw [h]; kernel_rfl
/-- one change in a block -/
theorem fw_one {w : World} {ok : Nat → Prop} {g : Nat} {cu : Bool} {off : Int64} {d : List UInt8} {A : Option Addr} {c : Nat} (hg : w.heap[g]? = some (.cells #[.bool cu, .int .i64 off.toInt, .slice A d.length c] 26 (0, 0))) (hok : ok g) (hd : d.length ≤ c) (hb : FB w ok A d) : FW w ok (some ⟨g, 0, none⟩) [(cu, off, d)] := fun W' hW => by
  have hg' : W'.heap[g]? = some (.cells #[.bool cu, .int .i64 off.toInt, .slice A d.length c] 26 (0, 0)) := (hW g hok (blk_lt hg)).trans hg
  refine ⟨rfl, by simp, fun _ => ⟨_, rfl, fun j p hj => ?_⟩⟩
  cases j with
  | succ j => simp at hj
  | zero =>
    simp only [List.getElem?_cons_zero, Option.some.injEq] at hj
    subst hj
    refine ⟨[.bool cu, .int .i64 off.toInt, .slice A d.length c], rfl, ⟨[_], _, rfl, rfl, [_], [_], rfl, rfl, A, c, rfl, hd, hb W' hW⟩, fun i u hu => ?_⟩
    rw [show (⟨g, 0, none⟩ : Addr).add (0 * kWr.sz + i) = ⟨g, 0 * kWr.sz + i, none⟩ from add_plain _ _, blk_cell hg']
    simpa using hu
def appN (b : List UInt8) (l : List Wt) (d : List UInt8) : Nat := if 1048576 < (allL b l).length + d.length then 18 else 0
def appX (b : List UInt8) (l : List Wt) (d : List UInt8) : Ino := if 1048576 < (allL b l).length + d.length ∨ d = [] then (b, l) else (b, l ++ [(false, Int64.ofNat (allL b l).length, d)])
def cutN (b : List UInt8) (l : List Wt) (n : Int) : Nat := if n < 0 ∨ ((allL b l).length : Int) < n then 20 else 0
def cutX (b : List UInt8) (l : List Wt) (n : Int) : Ino := if n < 0 ∨ ((allL b l).length : Int) < n then (b, l) else (b, l ++ [(true, Int64.ofInt n, [])])
theorem infoW1 : (Try.prog.info? 26).map (·.size) = some 3 := by kernel_rfl
set_option maxRecDepth 100000 in
set_option maxHeartbeats 1600000 in
theorem append_any (A : Option Addr) (c : Nat) (b : List UInt8) (A2 : Option Addr) (c2 : Nat) (l : List Wt) (Ad : Option Addr) (cd : Nat) (d : List UInt8) (w : World) (ok : Nat → Prop) (hl : b.length ≤ 140737488355000) (hb : FB w ok A b) (hw : FW w ok A2 l) (hok : ∀ k, ok k → k < w.heap.size) (hc : b.length ≤ c) (hc2 : l.length ≤ c2) (hd : Rd w Ad d) (hdl : d.length ≤ 140737488355000) (hlen : (l.length + 1) * 40 ≤ 140737488355328) :
    Calls Try.prog 26 #[.agg #[.slice A b.length c, .slice A2 l.length c2], .slice Ad d.length cd] w (InoN (appX b l d) (appN b l d) ok w) := by
  obtain ⟨w2, hw2⟩ : ∃ w2, (w.alloc (.cells #[.slice A b.length c, .slice A2 l.length c2] 37)).alloc (.cells #[.slice none 0 0, .slice none 0 0] 37) = w2 := ⟨_, rfl⟩
  have hB2 : Below w.heap.size w w2 := hw2 ▸ below_alloc (below_alloc (Below.refl _ _) _) _
  have hs1 : (w.alloc (.cells #[.slice A b.length c, .slice A2 l.length c2] 37)).heap.size = w.heap.size + 1 := by simp
  have hZ : w2.heap[w.heap.size + 1]? = some (.cells #[.slice none 0 0, .slice none 0 0] 37 (0, 0)) := by rw [← hs1, ← hw2]; exact blk_new _ _
  have hX : w2.heap[w.heap.size]? = some (.cells #[.slice A b.length c, .slice A2 l.length c2] 37 (0, 0)) := by rw [← hw2]; exact blk_alloc (blk_new w _) _
  have c0 : w2.cell? ⟨w.heap.size, 0, none⟩ = some (.slice A b.length c) := blk_cell hX 0
  have c1 : w2.cell? ⟨w.heap.size, 1, none⟩ = some (.slice A2 l.length c2) := blk_cell hX 1
  have hz := blk_lt hZ
  have HZ := Lib.hid hZ
  have HX := Lib.hid hX
  have HB2 := Lib.hid hB2
  clear hs1 hZ hX
  have HFB := Lib.hid (hb.below hB2)
  have HFW := Lib.hid (hw.below hB2)
  have HNOW := Lib.hid (now_any A c b A2 c2 l w2 hl hc HFB.out.rd HFW.out.rd)
  have HAL := Lib.hid (allL_len b l)
  have HD := Lib.hid (hd.below hB2)
  clear hb hw hd hB2
  obtain ⟨n, hn⟩ : ∃ n, (allL b l).length = n := ⟨_, rfl⟩
  rw [hn] at HAL
  have HN := Lib.hid hn
  have hnb : n ≤ 140737488355000 := by have := HAL.out; omega
  by_cases hlg : 1048576 < n + d.length
  · have HE := Lib.hid (show appN b l d = 18 by unfold appN; rw [hn, if_pos hlg])
    have HXE := Lib.hid (show appX b l d = (b, l) by unfold appX; rw [hn, if_pos (.inl hlg)])
    have hq : (1048576 : Int) - (n : Int) < (d.length : Int) := by omega
    have HNOW2 := Lib.hid HNOW.out
    clear hlg
    go_enter Try.func26, Try.ntmps26
    go_wp2_with fail
    refine HNOW.out.mono ?_
    rintro e w3 ⟨v3, rfl, hown, hb3⟩
    obtain ⟨A3, c3, rfl, -, -⟩ := hown.reads
    have HZ3 := Lib.hid (blk_below HZ.out hb3)
    have HX3 := Lib.hid (blk_below HX.out hb3)
    have HFB3 := Lib.hid (HFB.out.below hb3)
    have HFW3 := Lib.hid (HFW.out.below hb3)
    have HB3 := Lib.hid (below_step' HB2.out hb3)
    have HS3 := Lib.hid hb3.size
    have d0 : w3.cell? ⟨w.heap.size, 0, none⟩ = some (.slice A b.length c) := blk_cell HX3.out 0
    have d1 : w3.cell? ⟨w.heap.size, 1, none⟩ = some (.slice A2 l.length c2) := blk_cell HX3.out 1
    have hz3 := blk_lt HZ3.out
    have hz31 := blk_lt HX3.out
    have HLN := Lib.hid (show (Value.slice A3 (allL b l).length c3) = .slice A3 n c3 by rw [hn])
    rw [HLN.out]
    clear hown hb3 hn
    go_wp2_with (first | (refine wpList_load_row rfl 37 _ rfl w.heap.size rfl 37 #[.slice A b.length c, .slice A2 l.length c2] (0, 0) _ HX3.out Try.underlying37 rfl infoIn ?_) | (refine wpList_store_row rfl 37 _ _ rfl (w.heap.size + 1) #[.slice A b.length c, .slice A2 l.length c2] rfl rfl 37 _ HZ3.out infoIn rfl (by simp [Value.oneCell']) ?_))
    refine bodyPost_ret_by (results_ct rfl _ _ (w.heap.size + 1) _ _ (0, 0) _ rfl (setRow_heap _ _ _ _ _ _ HZ3.out) Try.underlying37 rfl infoIn) rfl ?_
    have hne : ∀ k, ok k → k ≠ w.heap.size + 1 := fun k hk => by have := hok k hk; omega
    rw [HE.out, HXE.out]
    exact ⟨_, rfl, in_mk hc hc2 (Kd.F_mono (f_row HFB3.out hne _) (fun k hk => .inl hk)) (Kd.F_mono (f_row HFW3.out hne _) (fun k hk => .inl hk)), below_setRow HB3.out (Nat.le_succ _) _⟩
  · have hq : ¬ (1048576 : Int) - (n : Int) < (d.length : Int) := by omega
    by_cases hd0 : d = []
    · subst hd0
      have HE := Lib.hid (show appN b l [] = 0 by unfold appN; rw [hn, if_neg hlg])
      have HXE := Lib.hid (show appX b l [] = (b, l) by unfold appX; rw [if_pos (.inr rfl)])
      clear hlg
      go_enter Try.func26, Try.ntmps26
      go_wp2_with fail
      refine HNOW.out.mono ?_
      rintro e w3 ⟨v3, rfl, hown, hb3⟩
      obtain ⟨A3, c3, rfl, -, -⟩ := hown.reads
      have HZ3 := Lib.hid (blk_below HZ.out hb3)
      have HX3 := Lib.hid (blk_below HX.out hb3)
      have HFB3 := Lib.hid (HFB.out.below hb3)
      have HFW3 := Lib.hid (HFW.out.below hb3)
      have HB3 := Lib.hid (below_step' HB2.out hb3)
      have HS3 := Lib.hid hb3.size
      have d0 : w3.cell? ⟨w.heap.size, 0, none⟩ = some (.slice A b.length c) := blk_cell HX3.out 0
      have d1 : w3.cell? ⟨w.heap.size, 1, none⟩ = some (.slice A2 l.length c2) := blk_cell HX3.out 1
      have hz3 := blk_lt HZ3.out
      have hz31 := blk_lt HX3.out
      have HLN := Lib.hid (show (Value.slice A3 (allL b l).length c3) = .slice A3 n c3 by rw [hn])
      rw [HLN.out]
      clear hown hb3 hn
      go_wp2_with (first | (refine wpList_load_row rfl 37 _ rfl w.heap.size rfl 37 #[.slice A b.length c, .slice A2 l.length c2] (0, 0) _ HX3.out Try.underlying37 rfl infoIn ?_) | (refine wpList_store_row rfl 37 _ _ rfl (w.heap.size + 1) #[.slice A b.length c, .slice A2 l.length c2] rfl rfl 37 _ HZ3.out infoIn rfl (by simp [Value.oneCell']) ?_))
      refine bodyPost_ret_by (results_ct rfl _ _ (w.heap.size + 1) _ _ (0, 0) _ rfl (setRow_heap _ _ _ _ _ _ HZ3.out) Try.underlying37 rfl infoIn) rfl ?_
      have hne : ∀ k, ok k → k ≠ w.heap.size + 1 := fun k hk => by have := hok k hk; omega
      rw [HE.out, HXE.out]
      exact ⟨_, rfl, in_mk hc hc2 (Kd.F_mono (f_row HFB3.out hne _) (fun k hk => .inl hk)) (Kd.F_mono (f_row HFW3.out hne _) (fun k hk => .inl hk)), below_setRow HB3.out (Nat.le_succ _) _⟩
    · have HE := Lib.hid (show appN b l d = 0 by unfold appN; rw [hn, if_neg hlg])
      have HXE := Lib.hid (show appX b l d = (b, l ++ [(false, Int64.ofNat n, d)]) by unfold appX; rw [hn, if_neg (by rintro (h | h); exact hlg h; exact hd0 h)])
      have hdp : 0 < d.length := by cases d with | nil => exact absurd rfl hd0 | cons => simp
      have hq2 : ((d.length : Int) == 0) = false := by rw [beq_eq_false_iff_ne]; omega
      have HOF := Lib.hid (show (Int64.ofNat n).toInt = (n : Int) from Int64.toInt_ofNat_of_lt (by omega))
      have HCL := Lib.hid (fun (W : World) (h : Rd W Ad d) => Cl.clone_any Ad cd d W (by omega) h)
      clear hlg hd0
      go_enter Try.func26, Try.ntmps26
      go_wp2_with fail
      refine HNOW.out.mono ?_
      rintro e w3 ⟨v3, rfl, hown, hb3⟩
      obtain ⟨A3, c3, rfl, -, -⟩ := hown.reads
      have HZ3 := Lib.hid (blk_below HZ.out hb3)
      have HX3 := Lib.hid (blk_below HX.out hb3)
      have HFB3 := Lib.hid (HFB.out.below hb3)
      have HFW3 := Lib.hid (HFW.out.below hb3)
      have HB3 := Lib.hid (below_step' HB2.out hb3)
      have HS3 := Lib.hid hb3.size
      have d0 : w3.cell? ⟨w.heap.size, 0, none⟩ = some (.slice A b.length c) := blk_cell HX3.out 0
      have d1 : w3.cell? ⟨w.heap.size, 1, none⟩ = some (.slice A2 l.length c2) := blk_cell HX3.out 1
      have hz3 := blk_lt HZ3.out
      have hz31 := blk_lt HX3.out
      have HLN := Lib.hid (show (Value.slice A3 (allL b l).length c3) = .slice A3 n c3 by rw [hn])
      rw [HLN.out]
      have HD3 := Lib.hid (HD.out.below hb3)
      clear hown hb3 hn
      go_wp2_with fail
      refine wp_region_held_drew (S := fun W => W.heap[w.heap.size]? = some (.cells #[.slice A b.length c, .slice A2 l.length c2] 37 (0, 0)) ∧ Below w.heap.size w W ∧ w3.heap.size ≤ W.heap.size) (by kernel_rfl) ⟨HX3.out, below_drew HB3.out, Nat.le_refl _⟩ (fun hHeld => ?_)
      refine wpAnyH_take (i := 0) (v := .agg (#[.slice A b.length c, .slice A2 l.length c2] : Array Value).toList.toArray) rfl (by kernel_rfl) (by kernel_rfl) (by kernel_rfl) (fun _ _ _ h => h) (yieldsIf_load_mid (by kernel_rfl) 37 _ rfl w.heap.size 0 rfl (#[.slice A b.length c, .slice A2 l.length c2] : Array Value).toList _ (fun W h => range_row h.1) Try.underlying37 rfl infoIn) hHeld ?_
      simp only [List.getElem_toArray, List.getElem_cons_succ, List.getElem_cons_zero, Act.put, List.setIfInBounds_toArray, List.set_cons_zero, List.set_cons_succ]
      refine wpAnyH_take (i := 1) (v := _) rfl (by kernel_rfl) (by kernel_rfl) (by kernel_rfl) (fun _ _ _ h => h) (Or.inl ⟨by kernel_rfl, fun w _ => by go_simp <;> with_reducible rfl⟩) hHeld ?_
      simp only [List.getElem_toArray, List.getElem_cons_succ, List.getElem_cons_zero, Act.put, List.setIfInBounds_toArray, List.set_cons_zero, List.set_cons_succ]
      refine wpAnyH_take (i := 2) (v := _) rfl (by kernel_rfl) (by kernel_rfl) (by kernel_rfl) (fun _ _ _ h => h) (Or.inl ⟨by kernel_rfl, fun w _ => by go_simp <;> with_reducible rfl⟩) hHeld ?_
      simp only [List.getElem_toArray, List.getElem_cons_succ, List.getElem_cons_zero, Act.put, List.setIfInBounds_toArray, List.set_cons_zero, List.set_cons_succ]
      refine wpAnyH_ready (rs := [3]) (by kernel_rfl) (by simp) ?_
      refine AllReadyH.cons rfl (fun K hK => ?_) ?_
      case refine_2 => exact AllReadyH.nil
      go_simp
      refine (HCL.out w3.drew HD3.out).mono ?_
      rintro e w4 ⟨v4, rfl, hown, hb4⟩
      obtain ⟨A4, c4, rfl, hc4, -⟩ := hown.reads
      have HO4 := Lib.hid (own_fb hown)
      have HZ4 := Lib.hid (blk_below (w := w3.drew) HZ3.out hb4)
      have HFB4 := Lib.hid (Kd.F_below (Kd.F_drew HFB3.out) hb4)
      have HFW4 := Lib.hid (Kd.F_below (Kd.F_drew HFW3.out) hb4)
      have HS4 := Lib.hid hb4.size
      refine hK.out _ _ (⟨blk_below hHeld.1 hb4, below_step' hHeld.2.1 hb4, Nat.le_trans hHeld.2.2 hb4.size⟩) (fun hHeld => ?_)
      clear hK K
      try simp only [List.getElem_toArray, List.getElem_cons_succ, List.getElem_cons_zero, Act.put, List.setIfInBounds_toArray, List.set_cons_zero, List.set_cons_succ]
      clear hown hb4
      refine wpAnyH_take (i := 4) (v := _) rfl (by kernel_rfl) (by kernel_rfl) (by kernel_rfl) (fun _ _ _ h => h) (Or.inl ⟨by kernel_rfl, fun w _ => by go_simp <;> with_reducible rfl⟩) hHeld ?_
      simp only [List.getElem_toArray, List.getElem_cons_succ, List.getElem_cons_zero, Act.put, List.setIfInBounds_toArray, List.set_cons_zero, List.set_cons_succ]
      refine wpAnyH_ready (rs := [5]) (by kernel_rfl) (by simp) ?_
      refine AllReadyH.cons rfl (fun K hK => ?_) AllReadyH.nil
      go_simp
      obtain ⟨w5, hw5⟩ : ∃ w5, w4.alloc (.cells #[.bool false, .int .i64 n, .slice A4 d.length c4] 26) = w5 := ⟨_, rfl⟩
      rw [hw5]
      have hb5 : Below w4.heap.size w4 w5 := hw5 ▸ below_alloc (Below.refl _ _) _
      have HG5 := Lib.hid (show w5.heap[w4.heap.size]? = some (.cells #[.bool false, .int .i64 (Int64.ofNat n).toInt, .slice A4 d.length c4] 26 (0, 0)) from by rw [HOF.out]; exact hw5 ▸ blk_new w4 _)
      have HZ5 := Lib.hid (blk_below HZ4.out hb5)
      have hlt5 : w4.heap.size < w5.heap.size := blk_lt HG5.out
      have HFB5 := Lib.hid (Kd.F_mono (Kd.F_below HFB4.out hb5) (ok' := fun k => ok k ∨ (w3.heap.size ≤ k ∧ k < w5.heap.size)) (fun k hk => .inl hk))
      have HFW5 := Lib.hid (Kd.F_mono (Kd.F_below HFW4.out hb5) (ok' := fun k => ok k ∨ (w3.heap.size ≤ k ∧ k < w5.heap.size)) (fun k hk => .inl hk))
      have hs34 : w3.heap.size ≤ w4.heap.size := HS4.out
      have HFD5 := Lib.hid (Kd.F_mono (Kd.F_bound (Kd.F_below HO4.out hb5)) (ok' := fun k => ok k ∨ (w3.heap.size ≤ k ∧ k < w5.heap.size)) (fun k hk => .inr hk))
      have HF1 := Lib.hid (fw_one (ok := fun k => ok k ∨ (w3.heap.size ≤ k ∧ k < w5.heap.size)) HG5.out (.inr ⟨hs34, hlt5⟩) hc4 HFD5.out)
      have hsz : w.heap.size + 1 < w3.heap.size := hz3
      have hs35 : w3.heap.size ≤ w5.heap.size := by omega
      have HWI := Lib.hid (with_any A c b A2 c2 l (some ⟨w4.heap.size, 0, none⟩) 1 [(false, Int64.ofNat n, d)] w5 (fun k => ok k ∨ (w3.heap.size ≤ k ∧ k < w5.heap.size)) HFB5.out HFW5.out HF1.out (fun k hk => by rcases hk with hk | hk; have := hok k hk; omega; exact hk.2) hc (by simpa using hlen))
      refine hK.out _ _ ⟨blk_below hHeld.1 hb5, below_step' hHeld.2.1 hb5, Nat.le_trans hHeld.2.2 hb5.size⟩ (fun hHeld => ?_)
      clear hK K hw5 hb5 hs34
      try simp only [List.getElem_toArray, List.getElem_cons_succ, List.getElem_cons_zero, Act.put, List.setIfInBounds_toArray, List.set_cons_zero, List.set_cons_succ]
      refine wpAnyH_ready (rs := [6]) (by kernel_rfl) (by simp) ?_
      refine AllReadyH.cons rfl (fun K hK => ?_) ?_
      case refine_2 => exact AllReadyH.nil
      go_simp
      refine (HWI.out).mono ?_
      rintro e w6 ⟨cs, rfl, hF6, hb6⟩
      obtain ⟨hcs2, hcs1⟩ := in_size hF6
      have HC2 := Lib.hid hcs2
      have HC1 := Lib.hid hcs1
      have HF6 := Lib.hid hF6
      have HZ6 := Lib.hid (blk_below HZ5.out hb6)
      refine hK.out _ _ (⟨blk_below hHeld.1 hb6, below_step' hHeld.2.1 hb6, Nat.le_trans hHeld.2.2 hb6.size⟩) (fun hHeld => ?_)
      clear hK K
      try simp only [List.getElem_toArray, List.getElem_cons_succ, List.getElem_cons_zero, Act.put, List.setIfInBounds_toArray, List.set_cons_zero, List.set_cons_succ]
      clear hF6 hb6 hcs2 hcs1
      refine wpAnyH_ready (rs := [7]) (by kernel_rfl) (by simp) ?_
      refine AllReadyH.cons rfl (fun K hK => ?_) AllReadyH.nil
      rw [if_pos (by rfl)]
      refine wp_store_row 37 _ _ rfl (w.heap.size + 1) cs rfl rfl 37 _ HZ6.out (infoIn' HC2.out) (by rw [HC2.out]; rfl) HC1.out ?_
      refine hK.out _ _ ⟨(setRow_other _ _ _ _ (by omega)).trans hHeld.1, below_setRow hHeld.2.1 (Nat.le_succ _) _, by rw [size_setRow]; exact hHeld.2.2⟩ (fun hHeld => ?_)
      clear hK K
      try simp only [List.getElem_toArray, List.getElem_cons_succ, List.getElem_cons_zero, Act.put, List.setIfInBounds_toArray, List.set_cons_zero, List.set_cons_succ]
      refine wpAnyH_take (i := 8) (v := _) rfl (by kernel_rfl) (by kernel_rfl) (by kernel_rfl) (fun _ _ _ h => h) (Or.inl ⟨by kernel_rfl, fun w _ => by go_simp <;> with_reducible rfl⟩) hHeld ?_
      simp only [List.getElem_toArray, List.getElem_cons_succ, List.getElem_cons_zero, Act.put, List.setIfInBounds_toArray, List.set_cons_zero, List.set_cons_succ]
      refine wpAnyH_done (by kernel_rfl) ?_ _
      have HB9 := Lib.hid hHeld.2.1
      go_wp2_with fail
      refine bodyPost_ret_by (results_ct rfl _ _ (w.heap.size + 1) _ _ (0, 0) _ rfl (setRow_heap _ _ _ _ _ _ HZ6.out) Try.underlying37 rfl (infoIn' HC2.out)) rfl ?_
      rw [HE.out, HXE.out]
      have hne : ∀ k, ((ok k ∨ (w3.heap.size ≤ k ∧ k < w5.heap.size)) ∨ w5.heap.size ≤ k) → k ≠ w.heap.size + 1 := fun k hk => by rcases hk with (hk | hk) | hk; have := hok k hk; omega; omega; omega
      exact ⟨_, rfl, Foot.mono (fk_row HF6.out hne _) (fun k hk => by rcases hk with (hk | hk) | hk; exact .inl hk; right; omega; right; omega), HB9.out⟩
set_option maxRecDepth 100000 in
set_option maxHeartbeats 1600000 in
theorem cut_any (A : Option Addr) (c : Nat) (b : List UInt8) (A2 : Option Addr) (c2 : Nat) (l : List Wt) (n : Int) (w : World) (ok : Nat → Prop) (hl : b.length ≤ 140737488355000) (hb : FB w ok A b) (hw : FW w ok A2 l) (hok : ∀ k, ok k → k < w.heap.size) (hc : b.length ≤ c) (hc2 : l.length ≤ c2) (hn1 : -9223372036854775808 ≤ n) (hn2 : n ≤ 9223372036854775807) (hlen : (l.length + 1) * 40 ≤ 140737488355328) :
    Calls Try.prog 41 #[.agg #[.slice A b.length c, .slice A2 l.length c2], .int .i64 n] w (InoN (cutX b l n) (cutN b l n) ok w) := by
  obtain ⟨w2, hw2⟩ : ∃ w2, (w.alloc (.cells #[.slice A b.length c, .slice A2 l.length c2] 37)).alloc (.cells #[.slice none 0 0, .slice none 0 0] 37) = w2 := ⟨_, rfl⟩
  have hB2 : Below w.heap.size w w2 := hw2 ▸ below_alloc (below_alloc (Below.refl _ _) _) _
  have hs1 : (w.alloc (.cells #[.slice A b.length c, .slice A2 l.length c2] 37)).heap.size = w.heap.size + 1 := by simp
  have hZ : w2.heap[w.heap.size + 1]? = some (.cells #[.slice none 0 0, .slice none 0 0] 37 (0, 0)) := by rw [← hs1, ← hw2]; exact blk_new _ _
  have hX : w2.heap[w.heap.size]? = some (.cells #[.slice A b.length c, .slice A2 l.length c2] 37 (0, 0)) := by rw [← hw2]; exact blk_alloc (blk_new w _) _
  have c0 : w2.cell? ⟨w.heap.size, 0, none⟩ = some (.slice A b.length c) := blk_cell hX 0
  have c1 : w2.cell? ⟨w.heap.size, 1, none⟩ = some (.slice A2 l.length c2) := blk_cell hX 1
  have hz := blk_lt hZ
  have HZ := Lib.hid hZ
  have HX := Lib.hid hX
  have HB2 := Lib.hid hB2
  clear hs1 hZ hX
  have HFB := Lib.hid (hb.below hB2)
  have HFW := Lib.hid (hw.below hB2)
  have HNOW := Lib.hid (now_any A c b A2 c2 l w2 hl hc HFB.out.rd HFW.out.rd)
  have HAL := Lib.hid (allL_len b l)
  clear hb hw hB2
  obtain ⟨m, hm⟩ : ∃ m, (allL b l).length = m := ⟨_, rfl⟩
  rw [hm] at HAL
  have hnb : m ≤ 140737488355000 := by have := HAL.out; omega
  by_cases h0 : n < 0
  · have HE := Lib.hid (show cutN b l n = 20 by unfold cutN; rw [if_pos (.inl h0)])
    have HXE := Lib.hid (show cutX b l n = (b, l) by unfold cutX; rw [if_pos (.inl h0)])
    have hz2 := blk_lt HX.out
    clear hm
    go_enter Try.func41, Try.ntmps41
    go_wp2_with (first | (refine wpList_load_row rfl 37 _ rfl w.heap.size rfl 37 #[.slice A b.length c, .slice A2 l.length c2] (0, 0) _ HX.out Try.underlying37 rfl infoIn ?_) | (refine wpList_store_row rfl 37 _ _ rfl (w.heap.size + 1) #[.slice A b.length c, .slice A2 l.length c2] rfl rfl 37 _ HZ.out infoIn rfl (by simp [Value.oneCell']) ?_))
    refine bodyPost_ret_by (results_ct rfl _ _ (w.heap.size + 1) _ _ (0, 0) _ rfl (setRow_heap _ _ _ _ _ _ HZ.out) Try.underlying37 rfl infoIn) rfl ?_
    have hne : ∀ k, ok k → k ≠ w.heap.size + 1 := fun k hk => by have := hok k hk; omega
    rw [HE.out, HXE.out]
    exact ⟨_, rfl, in_mk hc hc2 (Kd.F_mono (f_row HFB.out hne _) (fun k hk => .inl hk)) (Kd.F_mono (f_row HFW.out hne _) (fun k hk => .inl hk)), below_setRow HB2.out (Nat.le_succ _) _⟩
  · by_cases h1 : (m : Int) < n
    · have HE := Lib.hid (show cutN b l n = 20 by unfold cutN; rw [hm, if_pos (.inr h1)])
      have HXE := Lib.hid (show cutX b l n = (b, l) by unfold cutX; rw [hm, if_pos (.inr h1)])
      go_enter Try.func41, Try.ntmps41
      go_wp2_with fail
      refine HNOW.out.mono ?_
      rintro e w3 ⟨v3, rfl, hown, hb3⟩
      obtain ⟨A3, c3, rfl, -, -⟩ := hown.reads
      have HZ3 := Lib.hid (blk_below HZ.out hb3)
      have HX3 := Lib.hid (blk_below HX.out hb3)
      have HFB3 := Lib.hid (HFB.out.below hb3)
      have HFW3 := Lib.hid (HFW.out.below hb3)
      have HB3 := Lib.hid (below_step' HB2.out hb3)
      have HS3 := Lib.hid hb3.size
      have d0 : w3.cell? ⟨w.heap.size, 0, none⟩ = some (.slice A b.length c) := blk_cell HX3.out 0
      have d1 : w3.cell? ⟨w.heap.size, 1, none⟩ = some (.slice A2 l.length c2) := blk_cell HX3.out 1
      have hz3 := blk_lt HZ3.out
      have hz31 := blk_lt HX3.out
      have HLN := Lib.hid (show (Value.slice A3 (allL b l).length c3) = .slice A3 m c3 by rw [hm])
      rw [HLN.out]
      clear hown hb3 hm
      go_wp2_with (first | (refine wpList_load_row rfl 37 _ rfl w.heap.size rfl 37 #[.slice A b.length c, .slice A2 l.length c2] (0, 0) _ HX3.out Try.underlying37 rfl infoIn ?_) | (refine wpList_store_row rfl 37 _ _ rfl (w.heap.size + 1) #[.slice A b.length c, .slice A2 l.length c2] rfl rfl 37 _ HZ3.out infoIn rfl (by simp [Value.oneCell']) ?_))
      refine bodyPost_ret_by (results_ct rfl _ _ (w.heap.size + 1) _ _ (0, 0) _ rfl (setRow_heap _ _ _ _ _ _ HZ3.out) Try.underlying37 rfl infoIn) rfl ?_
      have hne : ∀ k, ok k → k ≠ w.heap.size + 1 := fun k hk => by have := hok k hk; omega
      rw [HE.out, HXE.out]
      exact ⟨_, rfl, in_mk hc hc2 (Kd.F_mono (f_row HFB3.out hne _) (fun k hk => .inl hk)) (Kd.F_mono (f_row HFW3.out hne _) (fun k hk => .inl hk)), below_setRow HB3.out (Nat.le_succ _) _⟩
    · have HE := Lib.hid (show cutN b l n = 0 by unfold cutN; rw [hm, if_neg (by rintro (h | h); exact h0 h; exact h1 h)])
      have HXE := Lib.hid (show cutX b l n = (b, l ++ [(true, Int64.ofInt n, [])]) by unfold cutX; rw [hm, if_neg (by rintro (h | h); exact h0 h; exact h1 h)])
      have HOF := Lib.hid (show (Int64.ofInt n).toInt = n from Int64.toInt_ofInt_of_le hn1 (by omega))
      go_enter Try.func41, Try.ntmps41
      go_wp2_with fail
      refine HNOW.out.mono ?_
      rintro e w3 ⟨v3, rfl, hown, hb3⟩
      obtain ⟨A3, c3, rfl, -, -⟩ := hown.reads
      have HZ3 := Lib.hid (blk_below HZ.out hb3)
      have HX3 := Lib.hid (blk_below HX.out hb3)
      have HFB3 := Lib.hid (HFB.out.below hb3)
      have HFW3 := Lib.hid (HFW.out.below hb3)
      have HB3 := Lib.hid (below_step' HB2.out hb3)
      have HS3 := Lib.hid hb3.size
      have d0 : w3.cell? ⟨w.heap.size, 0, none⟩ = some (.slice A b.length c) := blk_cell HX3.out 0
      have d1 : w3.cell? ⟨w.heap.size, 1, none⟩ = some (.slice A2 l.length c2) := blk_cell HX3.out 1
      have hz3 := blk_lt HZ3.out
      have hz31 := blk_lt HX3.out
      have HLN := Lib.hid (show (Value.slice A3 (allL b l).length c3) = .slice A3 m c3 by rw [hm])
      rw [HLN.out]
      clear hown hb3 hm
      obtain ⟨w5, hw5⟩ : ∃ w5, w3.alloc (.cells #[.bool true, .int .i64 n, .slice none 0 0] 26) = w5 := ⟨_, rfl⟩
      have hb5 : Below w3.heap.size w3 w5 := hw5 ▸ below_alloc (Below.refl _ _) _
      have HG5 := Lib.hid (show w5.heap[w3.heap.size]? = some (.cells #[.bool true, .int .i64 (Int64.ofInt n).toInt, .slice none ([] : List UInt8).length 0] 26 (0, 0)) from by rw [HOF.out]; exact hw5 ▸ blk_new w3 _)
      have hlt5 : w3.heap.size < w5.heap.size := blk_lt HG5.out
      have HZ5 := Lib.hid (blk_below HZ3.out hb5)
      have HB5 := Lib.hid (below_step' HB3.out hb5)
      have HWI := Lib.hid (with_any A c b A2 c2 l (some ⟨w3.heap.size, 0, none⟩) 1 [(true, Int64.ofInt n, [])] w5 (fun k => ok k ∨ (w3.heap.size ≤ k ∧ k < w5.heap.size)) (Kd.F_mono (Kd.F_below HFB3.out hb5) (fun k hk => .inl hk)) (Kd.F_mono (Kd.F_below HFW3.out hb5) (fun k hk => .inl hk)) (fw_one HG5.out (.inr ⟨Nat.le_refl _, hlt5⟩) (Nat.zero_le _) (fb_nil _ _)) (fun k hk => by rcases hk with hk | hk; have := hok k hk; omega; exact hk.2) hc (by simpa using hlen))
      have hs35 : w3.heap.size ≤ w5.heap.size := by omega
      have hW5 := Lib.hid hw5
      clear hw5 hb5
      go_wp2_with fail
      rw [hW5.out]
      refine HWI.out.mono ?_
      rintro e w6 ⟨cs, rfl, hF6, hb6⟩
      obtain ⟨hcs2, hcs1⟩ := in_size hF6
      have HC2 := Lib.hid hcs2
      have HC1 := Lib.hid hcs1
      have HF6 := Lib.hid hF6
      have HZ6 := Lib.hid (blk_below HZ5.out hb6)
      have HB6 := Lib.hid (below_step' HB5.out hb6)
      clear hF6 hb6 hcs2 hcs1
      go_wp2_with (refine wpList_store_row rfl 37 _ _ rfl (w.heap.size + 1) cs rfl rfl 37 _ HZ6.out (infoIn' HC2.out) (by rw [HC2.out]; rfl) HC1.out ?_)
      refine bodyPost_ret_by (results_ct rfl _ _ (w.heap.size + 1) _ _ (0, 0) _ rfl (setRow_heap _ _ _ _ _ _ HZ6.out) Try.underlying37 rfl (infoIn' HC2.out)) rfl ?_
      rw [HE.out, HXE.out]
      have hne : ∀ k, ((ok k ∨ (w3.heap.size ≤ k ∧ k < w5.heap.size)) ∨ w5.heap.size ≤ k) → k ≠ w.heap.size + 1 := fun k hk => by rcases hk with (hk | hk) | hk; have := hok k hk; omega; omega; omega
      exact ⟨_, rfl, Foot.mono (fk_row HF6.out hne _) (fun k hk => by rcases hk with (hk | hk) | hk; exact .inl hk; right; omega; right; omega), below_setRow HB6.out (Nat.le_succ _) _⟩
theorem surv_take (b : List UInt8) (l : List Wt) (ch : List UInt8) : survL b l (ch.take (min ch.length l.length)) = survL b l ch := by
  rcases Nat.le_total ch.length l.length with h | h
  · rw [Nat.min_eq_left h, List.take_length]
  · rw [Nat.min_eq_right h, ← survL_full (Nat.le_refl l.length) (ch := ch), List.take_length]
/-- the end: a file that has nothing pending, and bytes -/
def InoR (b r : List UInt8) (w : World) (e : Ending) (w' : World) : Prop := ∃ A c A2 c2, e = .returned (.tuple #[.agg #[.slice A b.length c, .slice none 0 0], .slice A2 r.length c2]) ∧ b.length ≤ c ∧ r.length ≤ c2 ∧ Rd w' A b ∧ Rd w' A2 r ∧ Below w.heap.size w w'
set_option maxRecDepth 100000 in
set_option maxHeartbeats 1600000 in
theorem crash_any (A : Option Addr) (c : Nat) (b : List UInt8) (A2 : Option Addr) (c2 : Nat) (l : List Wt) (Ac : Option Addr) (cc : Nat) (ch : List UInt8) (w : World) (hl : b.length ≤ 140737488355000) (hb : Rd w A b) (hw : RdW w A2 l) (hc : b.length ≤ c) (hcc : ch.length ≤ cc) (hch : Rd w Ac ch) (hchl : ch.length ≤ 140737488355000) :
    Calls Try.prog 25 #[.agg #[.slice A b.length c, .slice A2 l.length c2], .slice Ac ch.length cc] w (InoR (survL b l ch) (ch.drop l.length) w) := by
  obtain ⟨w2, hw2⟩ : ∃ w2, (w.alloc (.cells #[.slice A b.length c, .slice A2 l.length c2] 37)).alloc (.cells #[.slice none 0 0, .slice none 0 0] 37) = w2 := ⟨_, rfl⟩
  have hB2 : Below w.heap.size w w2 := hw2 ▸ below_alloc (below_alloc (Below.refl _ _) _) _
  have hs1 : (w.alloc (.cells #[.slice A b.length c, .slice A2 l.length c2] 37)).heap.size = w.heap.size + 1 := by simp
  have hZ : w2.heap[w.heap.size + 1]? = some (.cells #[.slice none 0 0, .slice none 0 0] 37 (0, 0)) := by rw [← hs1, ← hw2]; exact blk_new _ _
  have hX : w2.heap[w.heap.size]? = some (.cells #[.slice A b.length c, .slice A2 l.length c2] 37 (0, 0)) := by rw [← hw2]; exact blk_alloc (blk_new w _) _
  have c0 : w2.cell? ⟨w.heap.size, 0, none⟩ = some (.slice A b.length c) := blk_cell hX 0
  have c1 : w2.cell? ⟨w.heap.size, 1, none⟩ = some (.slice A2 l.length c2) := blk_cell hX 1
  have hz := blk_lt hZ
  have HZ := Lib.hid hZ
  have HX := Lib.hid hX
  have HB2 := Lib.hid hB2
  clear hs1 hZ hX
  have HR := Lib.hid (hb.below hB2)
  have HW := Lib.hid (Kd.C_below hw hB2)
  have HCH := Lib.hid (hch.below hB2)
  have hll : l.length ≤ 9223372036854775807 := hw.2.1
  clear hb hw hch hB2
  by_cases hcl : l.length < ch.length
  · have hmc : l.length ≤ ch.length := by omega
    have hd1 : ch.drop l.length = ch.drop l.length := rfl
    have hs1 : survL b l (ch.take l.length) = survL b l ch := by rw [← surv_take b l ch, Nat.min_eq_right (by omega)]
    have hlt : (ch.take l.length).length = l.length := by rw [List.length_take]; omega
    have hld : (ch.drop l.length).length = ch.length - l.length := by rw [List.length_drop]; try omega
    rw [hd1]
    have HSV := Lib.hid (fun (W : World) (h : Below w2.heap.size w2 W) => (by have := Wr.survive_any A c b A2 c2 l Ac cc (ch.take l.length) W hl hc (HR.out.below h) (Kd.C_below HW.out h) ((HCH.out.below h).take hmc); rw [hlt, hs1] at this; exact this : Calls Try.prog 20 #[.slice A b.length c, .slice A2 l.length c2, .slice Ac l.length cc] W (Made W (survL b l ch))))
    have HCL := Lib.hid (fun (W : World) (h : Below w2.heap.size w2 W) => (by have := Cl.clone_any (if cc = l.length then Ac else Ac.map (·.add l.length)) (cc - l.length) (ch.drop l.length) W (by omega) ((HCH.out.below h).drop hmc hcc); rw [hld] at this; exact this : Calls Try.prog 43 #[.slice (if cc = l.length then Ac else Ac.map (·.add l.length)) (ch.length - l.length) (cc - l.length)] W (Made W (ch.drop l.length))))
    have hmcc : l.length ≤ cc := by omega
    clear hd1 hs1 hlt hld
    go_enter Try.func25, Try.ntmps25
    go_wp2_with fail
    refine wp_region_held_drew (S := fun W => W.heap[w.heap.size]? = some (.cells #[.slice A b.length c, .slice A2 l.length c2] 37 (0, 0)) ∧ Below w.heap.size w W ∧ w2.heap.size ≤ W.heap.size) (by kernel_rfl) ⟨HX.out, below_drew HB2.out, Nat.le_refl _⟩ (fun hHeld => ?_)
    refine wpAnyH_take (i := 0) (v := _) rfl (by kernel_rfl) (by kernel_rfl) (by kernel_rfl) (fun _ _ _ h => h) (Or.inl ⟨by kernel_rfl, fun w _ => by go_simp <;> with_reducible rfl⟩) hHeld ?_
    simp only [List.getElem_toArray, List.getElem_cons_succ, List.getElem_cons_zero, Act.put, List.setIfInBounds_toArray, List.set_cons_zero, List.set_cons_succ]
    refine wpAnyH_take (i := 1) (v := .slice A b.length c) rfl (by kernel_rfl) (by kernel_rfl) (by kernel_rfl) (fun _ _ _ h => h) (Or.inl ⟨by kernel_rfl, fun W h => by have c0 : W.cell? ⟨w.heap.size, 0, none⟩ = some (.slice A b.length c) := blk_cell h.1 0; go_simp <;> with_reducible rfl⟩) hHeld ?_
    simp only [List.getElem_toArray, List.getElem_cons_succ, List.getElem_cons_zero, Act.put, List.setIfInBounds_toArray, List.set_cons_zero, List.set_cons_succ]
    refine wpAnyH_take (i := 2) (v := _) rfl (by kernel_rfl) (by kernel_rfl) (by kernel_rfl) (fun _ _ _ h => h) (Or.inl ⟨by kernel_rfl, fun w _ => by go_simp <;> with_reducible rfl⟩) hHeld ?_
    simp only [List.getElem_toArray, List.getElem_cons_succ, List.getElem_cons_zero, Act.put, List.setIfInBounds_toArray, List.set_cons_zero, List.set_cons_succ]
    refine wpAnyH_take (i := 3) (v := .slice A2 l.length c2) rfl (by kernel_rfl) (by kernel_rfl) (by kernel_rfl) (fun _ _ _ h => h) (Or.inl ⟨by kernel_rfl, fun W h => by have c0 : W.cell? ⟨w.heap.size, 1, none⟩ = some (.slice A2 l.length c2) := blk_cell h.1 1; go_simp <;> with_reducible rfl⟩) hHeld ?_
    simp only [List.getElem_toArray, List.getElem_cons_succ, List.getElem_cons_zero, Act.put, List.setIfInBounds_toArray, List.set_cons_zero, List.set_cons_succ]
    refine wpAnyH_take (i := 4) (v := _) rfl (by kernel_rfl) (by kernel_rfl) (by kernel_rfl) (fun _ _ _ h => h) (Or.inl ⟨by kernel_rfl, fun w _ => by go_simp <;> with_reducible rfl⟩) hHeld ?_
    simp only [List.getElem_toArray, List.getElem_cons_succ, List.getElem_cons_zero, Act.put, List.setIfInBounds_toArray, List.set_cons_zero, List.set_cons_succ]
    refine wpAnyH_take (i := 5) (v := _) rfl (by kernel_rfl) (by kernel_rfl) (by kernel_rfl) (fun _ _ _ h => h) (Or.inl ⟨by kernel_rfl, fun w _ => by go_simp <;> with_reducible rfl⟩) hHeld ?_
    simp only [List.getElem_toArray, List.getElem_cons_succ, List.getElem_cons_zero, Act.put, List.setIfInBounds_toArray, List.set_cons_zero, List.set_cons_succ]
    refine wpAnyH_take (i := 6) (v := _) rfl (by kernel_rfl) (by kernel_rfl) (by kernel_rfl) (fun _ _ _ h => h) (Or.inl ⟨by kernel_rfl, fun w _ => by go_simp <;> with_reducible rfl⟩) hHeld ?_
    simp only [List.getElem_toArray, List.getElem_cons_succ, List.getElem_cons_zero, Act.put, List.setIfInBounds_toArray, List.set_cons_zero, List.set_cons_succ]
    refine wpAnyH_take (i := 9) (v := _) rfl (by kernel_rfl) (by kernel_rfl) (by kernel_rfl) (fun _ _ _ h => h) (Or.inl ⟨by kernel_rfl, fun w _ => by go_simp <;> with_reducible rfl⟩) hHeld ?_
    simp only [List.getElem_toArray, List.getElem_cons_succ, List.getElem_cons_zero, Act.put, List.setIfInBounds_toArray, List.set_cons_zero, List.set_cons_succ]
    refine wpAnyH_take (i := 10) (v := _) rfl (by kernel_rfl) (by kernel_rfl) (by kernel_rfl) (fun _ _ _ h => h) (Or.inl ⟨by kernel_rfl, fun w _ => by go_simp <;> with_reducible rfl⟩) hHeld ?_
    simp only [List.getElem_toArray, List.getElem_cons_succ, List.getElem_cons_zero, Act.put, List.setIfInBounds_toArray, List.set_cons_zero, List.set_cons_succ]
    refine wpAnyH_take (i := 11) (v := _) rfl (by kernel_rfl) (by kernel_rfl) (by kernel_rfl) (fun _ _ _ h => h) (Or.inl ⟨by kernel_rfl, fun w _ => by go_simp <;> with_reducible rfl⟩) hHeld ?_
    simp only [List.getElem_toArray, List.getElem_cons_succ, List.getElem_cons_zero, Act.put, List.setIfInBounds_toArray, List.set_cons_zero, List.set_cons_succ]
    refine wpAnyH_ready (rs := [7]) (by kernel_rfl) (by simp) ?_
    refine AllReadyH.cons rfl (fun K hK => ?_) ?_
    case refine_2 => exact AllReadyH.nil
    go_simp
    refine (HSV.out w2.drew (below_drew (Below.refl _ _))).mono ?_
    rintro e w4 ⟨v4, rfl, hown, hb4⟩
    obtain ⟨A4, c4, rfl, hc4, hr4⟩ := hown.reads
    have HR4 := Lib.hid (own_fb hown)
    have HB24 := Lib.hid (below_step' (below_drew (Below.refl w2.heap.size w2)) hb4)
    refine hK.out _ _ (⟨blk_below hHeld.1 hb4, below_step' hHeld.2.1 hb4, Nat.le_trans hHeld.2.2 hb4.size⟩) (fun hHeld => ?_)
    clear hK K
    try simp only [List.getElem_toArray, List.getElem_cons_succ, List.getElem_cons_zero, Act.put, List.setIfInBounds_toArray, List.set_cons_zero, List.set_cons_succ]
    clear hown hb4 hr4
    refine wpAnyH_take (i := 8) (v := _) rfl (by kernel_rfl) (by kernel_rfl) (by kernel_rfl) (fun _ _ _ h => h) (Or.inl ⟨by kernel_rfl, fun w _ => by go_simp <;> with_reducible rfl⟩) hHeld ?_
    simp only [List.getElem_toArray, List.getElem_cons_succ, List.getElem_cons_zero, Act.put, List.setIfInBounds_toArray, List.set_cons_zero, List.set_cons_succ]
    refine wpAnyH_ready (rs := [12]) (by kernel_rfl) (by simp) ?_
    refine AllReadyH.cons rfl (fun K hK => ?_) ?_
    case refine_2 => exact AllReadyH.nil
    go_simp
    refine (HCL.out w4 HB24.out).mono ?_
    rintro e w5 ⟨v5, rfl, hown, hb5⟩
    obtain ⟨A5, c5, rfl, hc5, -⟩ := hown.reads
    have HO5 := Lib.hid (own_fb hown)
    have HB25 := Lib.hid (below_step' HB24.out hb5)
    have HR5 := Lib.hid (HR4.out.below hb5)
    refine hK.out _ _ (⟨blk_below hHeld.1 hb5, below_step' hHeld.2.1 hb5, Nat.le_trans hHeld.2.2 hb5.size⟩) (fun hHeld => ?_)
    clear hK K
    try simp only [List.getElem_toArray, List.getElem_cons_succ, List.getElem_cons_zero, Act.put, List.setIfInBounds_toArray, List.set_cons_zero, List.set_cons_succ]
    clear hown hb5
    have HZ5 := Lib.hid (blk_below HZ.out HB25.out)
    refine wpAnyH_ready (rs := [13]) (by kernel_rfl) (by simp) ?_
    refine AllReadyH.cons rfl (fun K hK => ?_) AllReadyH.nil
    rw [if_pos (by rfl)]
    refine wp_store_row 37 _ _ rfl (w.heap.size + 1) #[.slice A4 (survL b l ch).length c4, .slice none 0 0] rfl rfl 37 _ HZ5.out infoIn rfl (by simp [Value.oneCell']) ?_
    refine hK.out _ _ ⟨(setRow_other _ _ _ _ (by omega)).trans hHeld.1, below_setRow hHeld.2.1 (Nat.le_succ _) _, by rw [size_setRow]; exact hHeld.2.2⟩ (fun hHeld => ?_)
    clear hK K
    try simp only [List.getElem_toArray, List.getElem_cons_succ, List.getElem_cons_zero, Act.put, List.setIfInBounds_toArray, List.set_cons_zero, List.set_cons_succ]
    refine wpAnyH_take (i := 14) (v := _) rfl (by kernel_rfl) (by kernel_rfl) (by kernel_rfl) (fun _ _ _ h => h) (Or.inl ⟨by kernel_rfl, fun w _ => by go_simp <;> with_reducible rfl⟩) hHeld ?_
    simp only [List.getElem_toArray, List.getElem_cons_succ, List.getElem_cons_zero, Act.put, List.setIfInBounds_toArray, List.set_cons_zero, List.set_cons_succ]
    refine wpAnyH_done (by kernel_rfl) ?_ _
    have HB9 := Lib.hid hHeld.2.1
    have hne4 : ∀ k, w2.drew.heap.size ≤ k → k ≠ w.heap.size + 1 := fun k hk => by have : w2.heap.size ≤ k := hk; omega
    have hne5 : ∀ k, w4.heap.size ≤ k → k ≠ w.heap.size + 1 := fun k hk => by have := HB24.out.size; omega
    have HR6 := Lib.hid (f_row HR5.out hne4 #[.slice A4 (survL b l ch).length c4, .slice none 0 0])
    have HO6 := Lib.hid (f_row HO5.out hne5 #[.slice A4 (survL b l ch).length c4, .slice none 0 0])
    go_wp2_with fail
    all_goals refine bodyPost_ret_by (results_ct rfl _ _ (w.heap.size + 1) _ _ (0, 0) _ rfl (setRow_heap _ _ _ _ _ _ HZ5.out) Try.underlying37 rfl infoIn) rfl ?_
    all_goals exact ⟨A4, c4, A5, c5, by simp, hc4, hc5, FB.rd HR6.out, FB.rd HO6.out, HB9.out⟩
  · have hmc : ch.length ≤ ch.length := by omega
    have hd1 : ch.drop l.length = ([] : List UInt8) := List.drop_eq_nil_of_le (by omega)
    have hs1 : survL b l (ch.take ch.length) = survL b l ch := by rw [List.take_length]
    have hlt : (ch.take ch.length).length = ch.length := by rw [List.length_take]; omega
    have hld : (ch.drop ch.length).length = 0 := by rw [List.length_drop]; try omega
    rw [hd1]
    have HSV := Lib.hid (fun (W : World) (h : Below w2.heap.size w2 W) => (by have := Wr.survive_any A c b A2 c2 l Ac cc (ch.take ch.length) W hl hc (HR.out.below h) (Kd.C_below HW.out h) ((HCH.out.below h).take hmc); rw [hlt, hs1] at this; exact this : Calls Try.prog 20 #[.slice A b.length c, .slice A2 l.length c2, .slice Ac ch.length cc] W (Made W (survL b l ch))))
    have HCL := Lib.hid (fun (W : World) (h : Below w2.heap.size w2 W) => (by have := Cl.clone_any (if cc = ch.length then Ac else Ac.map (·.add ch.length)) (cc - ch.length) (ch.drop ch.length) W (by omega) ((HCH.out.below h).drop hmc hcc); rw [hld] at this; rw [List.drop_length] at this; exact this : Calls Try.prog 43 #[.slice (if cc = ch.length then Ac else Ac.map (·.add ch.length)) (0) (cc - ch.length)] W (Made W (([] : List UInt8)))))
    have hmcc : ch.length ≤ cc := by omega
    clear hd1 hs1 hlt hld
    go_enter Try.func25, Try.ntmps25
    go_wp2_with fail
    refine wp_region_held_drew (S := fun W => W.heap[w.heap.size]? = some (.cells #[.slice A b.length c, .slice A2 l.length c2] 37 (0, 0)) ∧ Below w.heap.size w W ∧ w2.heap.size ≤ W.heap.size) (by kernel_rfl) ⟨HX.out, below_drew HB2.out, Nat.le_refl _⟩ (fun hHeld => ?_)
    refine wpAnyH_take (i := 0) (v := _) rfl (by kernel_rfl) (by kernel_rfl) (by kernel_rfl) (fun _ _ _ h => h) (Or.inl ⟨by kernel_rfl, fun w _ => by go_simp <;> with_reducible rfl⟩) hHeld ?_
    simp only [List.getElem_toArray, List.getElem_cons_succ, List.getElem_cons_zero, Act.put, List.setIfInBounds_toArray, List.set_cons_zero, List.set_cons_succ]
    refine wpAnyH_take (i := 1) (v := .slice A b.length c) rfl (by kernel_rfl) (by kernel_rfl) (by kernel_rfl) (fun _ _ _ h => h) (Or.inl ⟨by kernel_rfl, fun W h => by have c0 : W.cell? ⟨w.heap.size, 0, none⟩ = some (.slice A b.length c) := blk_cell h.1 0; go_simp <;> with_reducible rfl⟩) hHeld ?_
    simp only [List.getElem_toArray, List.getElem_cons_succ, List.getElem_cons_zero, Act.put, List.setIfInBounds_toArray, List.set_cons_zero, List.set_cons_succ]
    refine wpAnyH_take (i := 2) (v := _) rfl (by kernel_rfl) (by kernel_rfl) (by kernel_rfl) (fun _ _ _ h => h) (Or.inl ⟨by kernel_rfl, fun w _ => by go_simp <;> with_reducible rfl⟩) hHeld ?_
    simp only [List.getElem_toArray, List.getElem_cons_succ, List.getElem_cons_zero, Act.put, List.setIfInBounds_toArray, List.set_cons_zero, List.set_cons_succ]
    refine wpAnyH_take (i := 3) (v := .slice A2 l.length c2) rfl (by kernel_rfl) (by kernel_rfl) (by kernel_rfl) (fun _ _ _ h => h) (Or.inl ⟨by kernel_rfl, fun W h => by have c0 : W.cell? ⟨w.heap.size, 1, none⟩ = some (.slice A2 l.length c2) := blk_cell h.1 1; go_simp <;> with_reducible rfl⟩) hHeld ?_
    simp only [List.getElem_toArray, List.getElem_cons_succ, List.getElem_cons_zero, Act.put, List.setIfInBounds_toArray, List.set_cons_zero, List.set_cons_succ]
    refine wpAnyH_take (i := 4) (v := _) rfl (by kernel_rfl) (by kernel_rfl) (by kernel_rfl) (fun _ _ _ h => h) (Or.inl ⟨by kernel_rfl, fun w _ => by go_simp <;> with_reducible rfl⟩) hHeld ?_
    simp only [List.getElem_toArray, List.getElem_cons_succ, List.getElem_cons_zero, Act.put, List.setIfInBounds_toArray, List.set_cons_zero, List.set_cons_succ]
    refine wpAnyH_take (i := 5) (v := _) rfl (by kernel_rfl) (by kernel_rfl) (by kernel_rfl) (fun _ _ _ h => h) (Or.inl ⟨by kernel_rfl, fun w _ => by go_simp <;> with_reducible rfl⟩) hHeld ?_
    simp only [List.getElem_toArray, List.getElem_cons_succ, List.getElem_cons_zero, Act.put, List.setIfInBounds_toArray, List.set_cons_zero, List.set_cons_succ]
    refine wpAnyH_take (i := 6) (v := _) rfl (by kernel_rfl) (by kernel_rfl) (by kernel_rfl) (fun _ _ _ h => h) (Or.inl ⟨by kernel_rfl, fun w _ => by go_simp <;> with_reducible rfl⟩) hHeld ?_
    simp only [List.getElem_toArray, List.getElem_cons_succ, List.getElem_cons_zero, Act.put, List.setIfInBounds_toArray, List.set_cons_zero, List.set_cons_succ]
    refine wpAnyH_take (i := 9) (v := _) rfl (by kernel_rfl) (by kernel_rfl) (by kernel_rfl) (fun _ _ _ h => h) (Or.inl ⟨by kernel_rfl, fun w _ => by go_simp <;> with_reducible rfl⟩) hHeld ?_
    simp only [List.getElem_toArray, List.getElem_cons_succ, List.getElem_cons_zero, Act.put, List.setIfInBounds_toArray, List.set_cons_zero, List.set_cons_succ]
    refine wpAnyH_take (i := 10) (v := _) rfl (by kernel_rfl) (by kernel_rfl) (by kernel_rfl) (fun _ _ _ h => h) (Or.inl ⟨by kernel_rfl, fun w _ => by go_simp <;> with_reducible rfl⟩) hHeld ?_
    simp only [List.getElem_toArray, List.getElem_cons_succ, List.getElem_cons_zero, Act.put, List.setIfInBounds_toArray, List.set_cons_zero, List.set_cons_succ]
    refine wpAnyH_take (i := 11) (v := _) rfl (by kernel_rfl) (by kernel_rfl) (by kernel_rfl) (fun _ _ _ h => h) (Or.inl ⟨by kernel_rfl, fun w _ => by go_simp <;> with_reducible rfl⟩) hHeld ?_
    simp only [List.getElem_toArray, List.getElem_cons_succ, List.getElem_cons_zero, Act.put, List.setIfInBounds_toArray, List.set_cons_zero, List.set_cons_succ]
    refine wpAnyH_ready (rs := [7]) (by kernel_rfl) (by simp) ?_
    refine AllReadyH.cons rfl (fun K hK => ?_) ?_
    case refine_2 => exact AllReadyH.nil
    go_simp
    refine (HSV.out w2.drew (below_drew (Below.refl _ _))).mono ?_
    rintro e w4 ⟨v4, rfl, hown, hb4⟩
    obtain ⟨A4, c4, rfl, hc4, hr4⟩ := hown.reads
    have HR4 := Lib.hid (own_fb hown)
    have HB24 := Lib.hid (below_step' (below_drew (Below.refl w2.heap.size w2)) hb4)
    refine hK.out _ _ (⟨blk_below hHeld.1 hb4, below_step' hHeld.2.1 hb4, Nat.le_trans hHeld.2.2 hb4.size⟩) (fun hHeld => ?_)
    clear hK K
    try simp only [List.getElem_toArray, List.getElem_cons_succ, List.getElem_cons_zero, Act.put, List.setIfInBounds_toArray, List.set_cons_zero, List.set_cons_succ]
    clear hown hb4 hr4
    refine wpAnyH_take (i := 8) (v := _) rfl (by kernel_rfl) (by kernel_rfl) (by kernel_rfl) (fun _ _ _ h => h) (Or.inl ⟨by kernel_rfl, fun w _ => by go_simp <;> with_reducible rfl⟩) hHeld ?_
    simp only [List.getElem_toArray, List.getElem_cons_succ, List.getElem_cons_zero, Act.put, List.setIfInBounds_toArray, List.set_cons_zero, List.set_cons_succ]
    refine wpAnyH_ready (rs := [12]) (by kernel_rfl) (by simp) ?_
    refine AllReadyH.cons rfl (fun K hK => ?_) ?_
    case refine_2 => exact AllReadyH.nil
    go_simp
    refine (HCL.out w4 HB24.out).mono ?_
    rintro e w5 ⟨v5, rfl, hown, hb5⟩
    obtain ⟨A5, c5, rfl, hc5, -⟩ := hown.reads
    have HO5 := Lib.hid (own_fb hown)
    have HB25 := Lib.hid (below_step' HB24.out hb5)
    have HR5 := Lib.hid (HR4.out.below hb5)
    refine hK.out _ _ (⟨blk_below hHeld.1 hb5, below_step' hHeld.2.1 hb5, Nat.le_trans hHeld.2.2 hb5.size⟩) (fun hHeld => ?_)
    clear hK K
    try simp only [List.getElem_toArray, List.getElem_cons_succ, List.getElem_cons_zero, Act.put, List.setIfInBounds_toArray, List.set_cons_zero, List.set_cons_succ]
    clear hown hb5
    have HZ5 := Lib.hid (blk_below HZ.out HB25.out)
    refine wpAnyH_ready (rs := [13]) (by kernel_rfl) (by simp) ?_
    refine AllReadyH.cons rfl (fun K hK => ?_) AllReadyH.nil
    rw [if_pos (by rfl)]
    refine wp_store_row 37 _ _ rfl (w.heap.size + 1) #[.slice A4 (survL b l ch).length c4, .slice none 0 0] rfl rfl 37 _ HZ5.out infoIn rfl (by simp [Value.oneCell']) ?_
    refine hK.out _ _ ⟨(setRow_other _ _ _ _ (by omega)).trans hHeld.1, below_setRow hHeld.2.1 (Nat.le_succ _) _, by rw [size_setRow]; exact hHeld.2.2⟩ (fun hHeld => ?_)
    clear hK K
    try simp only [List.getElem_toArray, List.getElem_cons_succ, List.getElem_cons_zero, Act.put, List.setIfInBounds_toArray, List.set_cons_zero, List.set_cons_succ]
    refine wpAnyH_take (i := 14) (v := _) rfl (by kernel_rfl) (by kernel_rfl) (by kernel_rfl) (fun _ _ _ h => h) (Or.inl ⟨by kernel_rfl, fun w _ => by go_simp <;> with_reducible rfl⟩) hHeld ?_
    simp only [List.getElem_toArray, List.getElem_cons_succ, List.getElem_cons_zero, Act.put, List.setIfInBounds_toArray, List.set_cons_zero, List.set_cons_succ]
    refine wpAnyH_done (by kernel_rfl) ?_ _
    have HB9 := Lib.hid hHeld.2.1
    have hne4 : ∀ k, w2.drew.heap.size ≤ k → k ≠ w.heap.size + 1 := fun k hk => by have : w2.heap.size ≤ k := hk; omega
    have hne5 : ∀ k, w4.heap.size ≤ k → k ≠ w.heap.size + 1 := fun k hk => by have := HB24.out.size; omega
    have HR6 := Lib.hid (f_row HR5.out hne4 #[.slice A4 (survL b l ch).length c4, .slice none 0 0])
    have HO6 := Lib.hid (f_row HO5.out hne5 #[.slice A4 (survL b l ch).length c4, .slice none 0 0])
    go_wp2_with fail
    all_goals refine bodyPost_ret_by (results_ct rfl _ _ (w.heap.size + 1) _ _ (0, 0) _ rfl (setRow_heap _ _ _ _ _ _ HZ5.out) Try.underlying37 rfl infoIn) rfl ?_
    all_goals exact ⟨A4, c4, A5, c5, by simp, hc4, hc5, FB.rd HR6.out, FB.rd HO6.out, HB9.out⟩
end Go.Proofs.Ytkgbimkjpllakaa.In
