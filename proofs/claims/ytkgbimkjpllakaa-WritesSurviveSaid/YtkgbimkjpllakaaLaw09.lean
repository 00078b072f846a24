/- stillagelaw09: lives. -/
import Derived.Test.YtkgbimkjpllakaaWrPeak
import Derived.Test.YtkgbimkjpllakaaCrcLit
import Derived.Test.YtkgbimkjpllakaaSame
set_option linter.unusedVariables false
set_option linter.unusedSimpArgs false
namespace Go.Proofs.Ytkgbimkjpllakaa.L09
open Go.RowKit Go.Proofs.YtkgbimkjpllakaaW.PrintWords Go.Proofs.Ytkgbimkjpllakaa.B Go.Proofs.Ytkgbimkjpllakaa.Wr

theorem rdw_one (W : World) (cu : Bool) (off : Int64) (A : Option Addr) (d : List UInt8) (hr : Rd W A d) :
    RdW (W.alloc (.cells #[.bool cu, .int .i64 off.toInt, .slice A d.length d.length] 26)) (some ⟨W.heap.size, 0, none⟩) [(cu, off, d)] := by
  refine ⟨rfl, by simp, fun _ => ⟨_, rfl, fun j p hj => ?_⟩⟩
  have hb := blk_new W (.cells #[.bool cu, .int .i64 off.toInt, .slice A d.length d.length] 26)
  match j, hj with
  | 0, hj =>
    have hj : (cu, off, d) = p := by simpa using hj
    subst hj
    refine ⟨[.bool cu, .int .i64 off.toInt, .slice A d.length d.length], rfl, ⟨[.bool cu], _, rfl, rfl, [.int .i64 off.toInt], _, rfl, rfl, A, d.length, rfl, Nat.le_refl _, hr.below (below_alloc (Below.refl _ _) _)⟩, fun i u hu => ?_⟩
    rw [show (⟨W.heap.size, 0, none⟩ : Addr).add (0 * kWr.sz + i) = ⟨W.heap.size, i, none⟩ from by rw [Nat.zero_mul, Nat.zero_add]; exact add_plain _ _, blk_cell hb]
    simpa using hu
set_option maxRecDepth 100000 in
set_option maxHeartbeats 800000 in
theorem lives_any (w : World) : Calls Try.prog 19 #[] w (Kept (.bool true) w) := by
  have kc := fun (w : World) (C : Array Value) (n c : Nat) => Lib.run_convert_bytes_const (P := Try.prog) w 22 5 C n c undB Try.underlying5
  have kc2 := fun (w : World) (o1 o2 : Obj) (C : Array Value) (n c : Nat) => (show (convert 22 22 (.slice (some ⟨w.heap.size + 1 + 1, 0, none⟩) n c)).run Try.prog (((w.alloc o1).alloc o2).alloc (.cells C 5)) = .ok (.slice (some ⟨w.heap.size + 1 + 1, 0, none⟩) n c) (((w.alloc o1).alloc o2).alloc (.cells C 5 (C.size, C.size + 1))) from by have := kc ((w.alloc o1).alloc o2) C n c; simpa using this)
  have e1 : applyL [97, 98, 99] false 4 [120, 121] = [97, 98, 99, 0, 120, 121] := by decide
  have e2 : survL [97, 98, 99] [(false, (4 : Int64), [120, 121])] [1] = [97, 98, 99, 0, 120] := by decide
  have E1 := Lib.hid e1
  have E2 := Lib.hid e2
  have HSA := Lib.hid (show R01.sameB [97, 98, 99, 0, 120, 121] [97, 98, 99, 0, 120, 121] = true by decide)
  have HSB := Lib.hid (show R01.sameB [97, 98, 99, 0, 120] [97, 98, 99, 0, 120] = true by decide)
  clear e1 e2
  have r0 := rd_mark w [120, 121] #[.int .u8 120, .int .u8 121] (2, 3) rfl (by simp)
  have HA := Lib.hid (fun (A : Option Addr) (c : Nat) (A2 : Option Addr) (c2 : Nat) (W : World) (hc : 3 ≤ c) (h1 : Rd W A [97, 98, 99]) (h2 : Rd W A2 [120, 121]) => (show Calls Try.prog 15 #[.slice A 3 c, .agg #[.bool false, .int .i64 4, .slice A2 2 c2]] W (Made W [97, 98, 99, 0, 120, 121]) from E1.out ▸ apply_any A c [97, 98, 99] false 4 A2 c2 [120, 121] W (by simp) hc h1 (by simp) h2 (by omega)))
  have HV := Lib.hid (fun (A : Option Addr) (c : Nat) (A2 : Option Addr) (c2 : Nat) (A3 : Option Addr) (c3 : Nat) (W : World) (hc : 3 ≤ c) (h1 : Rd W A [97, 98, 99]) (h2 : RdW W A2 [(false, (4 : Int64), [120, 121])]) (h3 : Rd W A3 [1]) => (show Calls Try.prog 20 #[.slice A 3 c, .slice A2 1 c2, .slice A3 1 c3] W (Made W [97, 98, 99, 0, 120]) from E2.out ▸ survive_any A c [97, 98, 99] A2 c2 [(false, (4 : Int64), [120, 121])] A3 c3 [1] W (by simp) hc h1 h2 h3))
  have HT := Lib.hid (fun (A : Option Addr) (c : Nat) (A2 : Option Addr) (c2 : Nat) (W : World) (h1 : Rd W A [97, 98, 99, 0, 120, 121]) (h2 : Rd W A2 [97, 98, 99, 0, 120, 121]) => (show Calls Try.prog 14 #[.slice A 6 c, .slice A2 6 c2] W (Quiet (.bool true) W) from HSA.out ▸ R01.same_any A c [97, 98, 99, 0, 120, 121] A2 c2 [97, 98, 99, 0, 120, 121] W (by simp) h1 h2))
  have HU := Lib.hid (fun (A : Option Addr) (c : Nat) (A2 : Option Addr) (c2 : Nat) (W : World) (h1 : Rd W A [97, 98, 99, 0, 120]) (h2 : Rd W A2 [97, 98, 99, 0, 120]) => (show Calls Try.prog 14 #[.slice A 5 c, .slice A2 5 c2] W (Quiet (.bool true) W) from HSB.out ▸ R01.same_any A c [97, 98, 99, 0, 120] A2 c2 [97, 98, 99, 0, 120] W (by simp) h1 h2))
  have R0 := Lib.hid r0
  clear r0
  go_enter Try.func19, Try.ntmps19
  go_wp2_with fail
  have hb0 : Below w.heap.size w (((w.alloc (.cells #[.int .u8 120, .int .u8 121] 5 (2, 3))).alloc (.cells #[.bool false, .int .i64 4, .slice (some ⟨w.heap.size, 0, none⟩) 2 2] 26)).alloc (.cells #[.int .u8 97, .int .u8 98, .int .u8 99] 5 (3, 4))) := below_alloc (below_alloc (below_alloc (Below.refl _ _) _) _) _
  refine (HA.out _ 3 _ 2 _ (by omega) (by have := rd_mark ((w.alloc (.cells #[.int .u8 120, .int .u8 121] 5 (2, 3))).alloc (.cells #[.bool false, .int .i64 4, .slice (some ⟨w.heap.size, 0, none⟩) 2 2] 26)) [97, 98, 99] #[.int .u8 97, .int .u8 98, .int .u8 99] (3, 4) rfl (by simp); simpa using this) (R0.out.below (below_alloc (below_alloc (Below.refl _ _) _) _))).mono ?_
  rintro e w1 ⟨v1, rfl, hown, hb⟩
  obtain ⟨A1, c1, rfl, -, hr1⟩ := hown.reads
  have HR1 := Lib.hid hr1
  have HB1 := Lib.hid (below_then hb0 hb0.size hb)
  have R1 := Lib.hid ((R0.out.below (below_alloc (below_alloc (Below.refl _ _) _) _)).below hb)
  have HG1 := Lib.hid (show w1.heap[w.heap.size + 1]? = some (.cells #[.bool false, .int .i64 4, .slice (some ⟨w.heap.size, 0, none⟩) 2 2] 26 (0, 0)) from blk_below (blk_alloc (by have := blk_new (w.alloc (.cells #[.int .u8 120, .int .u8 121] 5 (2, 3))) (.cells #[.bool false, .int .i64 4, .slice (some ⟨w.heap.size, 0, none⟩) 2 2] 26); simpa using this) _) hb)
  clear hown hb hr1 hb0
  go_wp2_with fail
  refine (HT.out A1 c1 _ 6 _ (HR1.out.below (below_alloc (Below.refl _ _) _)) (rd_mark w1 [97, 98, 99, 0, 120, 121] _ _ rfl (by simp))).mono ?_
  rintro e w2 ⟨rfl, n, hw2⟩
  have HB2 := Lib.hid (show Below w.heap.size w w2 by rw [hw2]; exact pw_below_drewN (below_alloc HB1.out _) n)
  have R2 := Lib.hid (show Rd w2 (some ⟨w.heap.size, 0, none⟩) [120, 121] by rw [hw2]; exact (R1.out.below (below_alloc (Below.refl _ _) _)).drewN n)
  have HG2 := Lib.hid (show w2.heap[w.heap.size + 1]? = some (.cells #[.bool false, .int .i64 4, .slice (some ⟨w.heap.size, 0, none⟩) 2 2] 26 (0, 0)) by rw [hw2]; exact blk_drewN (blk_alloc HG1.out _) n)
  clear hw2
  have hcc := fun i => blk_cell HG2.out i
  have hz := blk_lt HG2.out
  go_wp2_with fail
  refine (HV.out _ 3 _ 1 _ 1 _ (by omega) ((rd_mark w2 [97, 98, 99] #[.int .u8 97, .int .u8 98, .int .u8 99] (3, 4) rfl (by simp)).below (below_alloc (below_alloc (Below.refl _ _) _) _)) (Kd.C_below (show RdW ((w2.alloc (.cells #[.int .u8 97, .int .u8 98, .int .u8 99] 5 (3, 4))).alloc (.cells #[.bool false, .int .i64 4, .slice (some ⟨w.heap.size, 0, none⟩) 2 2] 26)) (some ⟨w2.heap.size + 1, 0, none⟩) [(false, (4 : Int64), [120, 121])] from by have := rdw_one (w2.alloc (.cells #[.int .u8 97, .int .u8 98, .int .u8 99] 5 (3, 4))) false 4 (some ⟨w.heap.size, 0, none⟩) [120, 121] (R2.out.below (below_alloc (Below.refl _ _) _)); simpa using this) (below_alloc (Below.refl _ _) _)) (by have := rd_lit ((w2.alloc (.cells #[.int .u8 97, .int .u8 98, .int .u8 99] 5 (3, 4))).alloc (.cells #[.bool false, .int .i64 4, .slice (some ⟨w.heap.size, 0, none⟩) 2 2] 26)) [1] #[.int .u8 1] rfl (by simp); simpa using this)).mono ?_
  rintro e w3 ⟨v3, rfl, hown, hb⟩
  obtain ⟨A3, c3, rfl, -, hr3⟩ := hown.reads
  have HR3 := Lib.hid hr3
  have HB3 := Lib.hid (below_then (below_alloc (below_alloc (below_alloc HB2.out _) _) _) (by have := HB2.out.size; simp <;> omega) hb)
  clear hown hb hr3 hcc hz
  go_wp2_with fail
  refine (HU.out A3 c3 _ 5 _ (HR3.out.below (below_alloc (Below.refl _ _) _)) (rd_mark w3 [97, 98, 99, 0, 120] _ _ rfl (by simp))).mono ?_
  rintro e w4 ⟨rfl, n4, hw4⟩
  have HB4 := Lib.hid (show Below w.heap.size w w4 by rw [hw4]; exact pw_below_drewN (below_alloc HB3.out _) n4)
  clear hw4
  go_wp2_with fail
  go_ret
  exact ⟨rfl, HB4.out⟩
end Go.Proofs.Ytkgbimkjpllakaa.L09
