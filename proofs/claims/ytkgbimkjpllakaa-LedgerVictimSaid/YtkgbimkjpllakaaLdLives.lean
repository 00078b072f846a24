/- law28: lives; LedgerVictim. -/
import Derived.Test.YtkgbimkjpllakaaLdVicR
import Derived.Test.YtkgbimkjpllakaaLdFits
set_option linter.unusedVariables false
set_option linter.unusedSimpArgs false
namespace Go.Proofs.Ytkgbimkjpllakaa.Ld
open Go.RowKit Go.Proofs.YtkgbimkjpllakaaW.PrintWords Go.Proofs.Ytkgbimkjpllakaa.B Go.Proofs.Ytkgbimkjpllakaa.O Go.Proofs.Ytkgbimkjpllakaa.Sc
theorem VicE.eq {l : List Lo} {n : List Int64} {lim : Nat} {w : World} {e : Ending} {w' : World} (h : VicE l n lim w e w') (v : Int) (hv : IsVic (mayL n lim l) v) : e = .returned (.int .i64 v) ∧ Below w.heap.size w w' := by
  obtain ⟨v', rfl, h1, h2⟩ := h
  rw [h1.one hv]
  exact ⟨rfl, h2⟩
def lits : List Lo := [(1, 50, 40), (2, 100, 10)]
def half : Nat := 4602678819172646912
theorem may_lits : mayL [] half lits = [(2, 100, 10)] := by
  have h1 : delB [] half (1, 50, 40) = true := by
    show (inB [] 1 || !belowB (floatOfInt .f64 40) (floatOfInt .f64 50) half) = true
    rw [show belowB (floatOfInt .f64 40) (floatOfInt .f64 50) half = false from below_no]; simp
  have h2 : delB [] half (2, 100, 10) = false := by
    show (inB [] 2 || !belowB (floatOfInt .f64 10) (floatOfInt .f64 100) half) = false
    rw [show belowB (floatOfInt .f64 10) (floatOfInt .f64 100) half = true from below_yes]; simp [inB]
  unfold mayL lits
  simp [List.filter, h1, h2]
theorem may_none : mayL [2] half lits = [] := by
  have h1 : delB [2] half (1, 50, 40) = true := by
    show (inB [2] 1 || !belowB (floatOfInt .f64 40) (floatOfInt .f64 50) half) = true
    rw [show belowB (floatOfInt .f64 40) (floatOfInt .f64 50) half = false from below_no]; simp
  have h2 : delB [2] half (2, 100, 10) = true := by
    show (inB [2] 2 || !belowB (floatOfInt .f64 10) (floatOfInt .f64 100) half) = true
    simp [inB]
  unfold mayL lits
  simp [List.filter, h1, h2]
theorem vic_lits : IsVic (mayL [] half lits) 2 := by
  rw [may_lits]
  exact .inr ⟨0, by simp, rfl, fun j hj => by have : j = 0 := by simpa using hj
                                              subst this; exact Int.le_refl _, fun j hj => by omega⟩
theorem vic_none : IsVic (mayL [2] half lits) 0 := .inl ⟨may_none, rfl⟩
theorem rd_lits (W : World) (t : TypeId) : RdL (W.alloc (.cells #[.int .i64 1, .int .i64 50, .int .i64 40, .int .i64 2, .int .i64 100, .int .i64 10] t)) (some ⟨W.heap.size, 0, none⟩) lits := by
  refine ⟨rfl, by decide, fun _ => ⟨_, rfl, fun j p hj => ?_⟩⟩
  have hb := blk_new W (.cells #[.int .i64 1, .int .i64 50, .int .i64 40, .int .i64 2, .int .i64 100, .int .i64 10] t)
  have hc : ∀ i, (W.alloc (.cells #[.int .i64 1, .int .i64 50, .int .i64 40, .int .i64 2, .int .i64 100, .int .i64 10] t)).cell? ((⟨W.heap.size, 0, none⟩ : Addr).add i) = (#[Value.int .i64 1, .int .i64 50, .int .i64 40, .int .i64 2, .int .i64 100, .int .i64 10] : Array Value)[i]? := fun i => by
    rw [show (⟨W.heap.size, 0, none⟩ : Addr).add i = ⟨W.heap.size, i, none⟩ from add_plain _ _, blk_cell hb]
  match j, hj with
  | 0, hj =>
    obtain rfl : ((1, 50, 40) : Lo) = p := by simpa [lits] using hj
    refine ⟨[.int .i64 1, .int .i64 50, .int .i64 40], rfl, ⟨[_], _, rfl, rfl, [_], [_], rfl, rfl, rfl⟩, fun i u hu => ?_⟩
    rw [hc, ← hu]
    match i, hu with
    | 0, _ => rfl
    | 1, _ => rfl
    | 2, _ => rfl
  | 1, hj =>
    obtain rfl : ((2, 100, 10) : Lo) = p := by simpa [lits] using hj
    refine ⟨[.int .i64 2, .int .i64 100, .int .i64 10], rfl, ⟨[_], _, rfl, rfl, [_], [_], rfl, rfl, rfl⟩, fun i u hu => ?_⟩
    rw [hc, ← hu]
    match i, hu with
    | 0, _ => rfl
    | 1, _ => rfl
    | 2, _ => rfl
theorem rd_two (W : World) (t : TypeId) : RdI (W.alloc (.cells #[.int .i64 2] t)) (some ⟨W.heap.size, 0, none⟩) [2] := by
  refine ⟨rfl, by decide, fun _ => ⟨_, rfl, fun j p hj => ?_⟩⟩
  have hb := blk_new W (.cells #[.int .i64 2] t)
  match j, hj with
  | 0, hj =>
    obtain rfl : (2 : Int64) = p := by simpa using hj
    refine ⟨[.int .i64 2], rfl, rfl, fun i u hu => ?_⟩
    rw [show (⟨W.heap.size, 0, none⟩ : Addr).add (0 * O.i64.sz + i) = ⟨W.heap.size, 0 * O.i64.sz + i, none⟩ from add_plain _ _, blk_cell hb, ← hu]
    match i, hu with
    | 0, _ => rfl
theorem RdI.nil (w : World) : RdI w none [] := Kd.C_nil O.i64 w
theorem vic_two (A : Option Addr) (c : Nat) (An : Option Addr) (cn : Nat) (w : World) (hr : RdL w A lits) (hn : RdI w An []) : Calls Try.prog 32 #[.slice A 2 c, .float .f64 4602678819172646912, .slice An 0 cn] w (Kept (.int .i64 2) w) :=
  (victim_any A c lits half An cn [] w (by decide) (by decide) hr hn).mono (fun e w' h => h.eq 2 vic_lits)
theorem vic_zero (A : Option Addr) (c : Nat) (An : Option Addr) (cn : Nat) (w : World) (hr : RdL w A lits) (hn : RdI w An [2]) : Calls Try.prog 32 #[.slice A 2 c, .float .f64 4602678819172646912, .slice An 1 cn] w (Kept (.int .i64 0) w) :=
  (victim_any A c lits half An cn [2] w (by decide) (by decide) hr hn).mono (fun e w' h => h.eq 0 vic_none)
theorem fits_a (w : World) : Calls Try.prog 37 #[.int .i64 400, .int .i64 1, .int .i64 200, .int .i64 0] w (Quiet (.bool true) w) := fits_any 400 1 200 0 w (by decide) (by decide) (by decide) (by decide)
theorem fits_b (w : World) : Calls Try.prog 37 #[.int .i64 399, .int .i64 1, .int .i64 200, .int .i64 0] w (Quiet (.bool false) w) := fits_any 399 1 200 0 w (by decide) (by decide) (by decide) (by decide)
set_option maxRecDepth 100000 in
set_option maxHeartbeats 1600000 in
theorem lives_any (w : World) : Calls Try.prog 34 #[] w (Kept (.bool true) w) := by
  have HL := Lib.hid (rd_lits w 55)
  have hb0 : Below w.heap.size w (w.alloc (.cells #[.int .i64 1, .int .i64 50, .int .i64 40, .int .i64 2, .int .i64 100, .int .i64 10] 55)) := below_alloc (Below.refl _ _) _
  have HB0 := Lib.hid hb0
  clear hb0
  go_enter Try.func34, Try.ntmps34
  go_wp2_with fail
  refine (vic_two _ 2 _ 0 _ HL.out (RdI.nil _)).mono ?_
  rintro e w1 ⟨rfl, hb⟩
  have HB1 := Lib.hid (below_step' HB0.out hb)
  have HL1 := Lib.hid (HL.out.below hb)
  have HB2 := Lib.hid (show Below w.heap.size w (w1.alloc (.cells #[.int .i64 2] 3)) from below_alloc HB1.out _)
  have HL2 := Lib.hid (HL1.out.below (below_alloc (Below.refl w1.heap.size w1) (.cells #[.int .i64 2] 3)))
  have HN2 := Lib.hid (rd_two w1 3)
  clear hb
  go_wp2_with fail
  refine (vic_zero _ 2 _ 1 _ HL2.out HN2.out).mono ?_
  rintro e w2 ⟨rfl, hb⟩
  have HB3 := Lib.hid (below_step' HB2.out hb)
  clear hb
  go_wp2_with fail
  refine (fits_a _).mono ?_
  rintro e w3 ⟨rfl, n3, rfl⟩
  go_wp2_with fail
  refine (fits_b _).mono ?_
  rintro e w3 ⟨rfl, n4, rfl⟩
  go_wp2_with fail
  go_ret
  exact ⟨rfl, pw_below_drewN HB3.out _⟩
set_option maxRecDepth 100000 in
set_option maxHeartbeats 1600000 in
theorem ledgervictim_any (A : Option Addr) (c : Nat) (l : List Lo) (lim : Nat) (An : Option Addr) (cn : Nat) (n : List Int64) (w : World) (hr : kLo.C w A l.length l) (hc : l.length ≤ c) (hl : l.length * 24 ≤ 140737488351232) (hlim : lim < 18446744073709551616) (hn : O.i64.C w An n.length n) (hcn : n.length ≤ cn) :
    Calls Try.prog 8 #[.slice A l.length c, .float .f64 lim, .slice An n.length cn] w (Kept (.bool true) w) := by
  have HR : Hid (RdL w A l) := Lib.hid hr
  have HN : Hid (RdI w An n) := Lib.hid hn
  have hl1 : l.length * 24 ≤ 140737488355328 := by omega
  have hl2 : l.length ≤ 140737488355328 := by omega
  clear hr hn hl
  go_enter Try.func8, Try.ntmps8
  go_wp2_with fail
  refine (victim_any A c l lim An cn n w hl1 hlim HR.out HN.out).mono ?_
  rintro e w1 ⟨v, rfl, hv, hb⟩
  have HV := Lib.hid hv
  have HB1 := Lib.hid hb
  have HR1 := Lib.hid (HR.out.below hb)
  have HN1 := Lib.hid (HN.out.below hb)
  clear hv hb
  go_wp2_with fail
  refine (refvictim_any A c l lim An cn n w1 hl2 hlim HR1.out HN1.out).mono ?_
  rintro e w2 ⟨v2, rfl, hv2, hb⟩
  obtain rfl := HV.out.one hv2
  have HB2 := Lib.hid (below_step' HB1.out hb)
  clear hv2 hb
  go_wp2_with fail
  refine (lives_any _).mono ?_
  rintro e w3 ⟨rfl, hb⟩
  have HB3 := Lib.hid (below_step' HB2.out hb)
  clear hb
  go_wp2_with fail
  go_ret
  exact ⟨rfl, HB3.out⟩
theorem opnI : Opn Try.prog 3 O.i64 (fun _ => 1) := opn_i64 Try.underlying3 (by kernel_rfl)
end Go.Proofs.Ytkgbimkjpllakaa.Ld
