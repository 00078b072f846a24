/- stillagelaw13: same, lives, FrameParses. -/
import Derived.Test.YteeemiacibjaoaaFrRefP
import Derived.Lib.SlBytesConst
set_option linter.unusedVariables false
set_option linter.unusedSimpArgs false
namespace Go.Proofs.Yteeemiacibjaoaa.L13
open Go.RowKit Go.Proofs.YteeemiacibjaoaaW.PrintWords Go.Proofs.Yteeemiacibjaoaa.B Go.Proofs.Yteeemiacibjaoaa.Fx Go.Proofs.Yteeemiacibjaoaa.CrcW Go.Proofs.Yteeemiacibjaoaa.Fr

/-- a frame of these parts, and a number -/
def frV (k q : Nat) (A : Option Addr) (n c : Nat) (e : Int) : Value := .agg #[.int .i64 k, .int .u64 q, .slice A n c, .int .i64 e]
def PAs (k q : Nat) (d : List UInt8) (en : Int) (er : Nat) (w : World) (e : Ending) (w' : World) : Prop :=
  ∃ A c, e = .returned (.tuple #[.agg #[.int .i64 k, .int .u64 q, .slice A d.length c, .int .i64 en], .int .i64 er]) ∧ d.length ≤ c ∧ Rd w' A d ∧ Below w.heap.size w w'
theorem parsed_as (l : List UInt8) (at_ : Int) (w : World) : Parsed l at_ w = PAs (pKind l at_) (pSeq l at_) (pData l at_) (pEnd l at_) (pErr l at_) w := rfl
set_option maxRecDepth 100000 in
set_option maxHeartbeats 400000 in
theorem same_true (k q : Nat) (en : Int) (A : Option Addr) (c : Nat) (A' : Option Addr) (c' : Nat) (d : List UInt8) (w : World) (hd : d.length ≤ 140737488355328) (hr : Rd w A d) (hr' : Rd w A' d) :
    Calls Try.prog 15 #[.agg #[.int .i64 k, .int .u64 q, .slice A d.length c, .int .i64 en], .agg #[.int .i64 k, .int .u64 q, .slice A' d.length c', .int .i64 en]] w (Kept (.bool true) w) := by
  have HR := Lib.hid hr
  have HR' := Lib.hid hr'
  have HS := Lib.hid (show R01.sameB d d = true by simp [R01.sameB])
  clear hr hr'
  go_enter Try.func15, Try.ntmps15
  go_wp2_with fail
  refine (R01.same_any A c d A' c' d _ hd (HR.out.below (below_alloc (below_alloc (Below.refl _ _) _) _)) (HR'.out.below (below_alloc (below_alloc (Below.refl _ _) _) _))).mono ?_
  rintro e w1 ⟨rfl, n, rfl⟩
  rw [HS.out]
  go_wp2_with fail
  go_ret
  exact ⟨rfl, pw_below_drewN (below_alloc (below_alloc (Below.refl _ _) _) _) n⟩
theorem str_xy : (ByteArray.mk #[120, 121]) = ⟨([120, 121] : List UInt8).toArray⟩ := rfl
set_option maxRecDepth 100000 in
set_option maxHeartbeats 400000 in
theorem lives_any (w : World) : Calls Try.prog 16 #[] w (Kept (.bool true) w) := by
  obtain ⟨l, hl⟩ : ∃ l, makeL 2 7 [120, 121] = l := ⟨_, rfl⟩
  have hll : l.length = 23 := by rw [← hl, makeL_len]; rfl
  obtain ⟨p1, p2, p3, p4, p5⟩ := parse_make (a := []) (t := []) (d := [120, 121]) (k := 2) (s := 7) (by omega) (by omega) (by omega) (by decide) l (by rw [hl]; simp)
  have HM := Lib.hid (fun (A : Option Addr) (c : Nat) (W : World) (h : Rd W A [120, 121]) => (show Calls Try.prog 17 #[.int .i64 2, .int .u64 7, .slice A 2 c] W (Made W l) from by
    have := make_any 2 7 A c [120, 121] W (by omega) (by omega) (by simp) h
    rwa [show kindN 2 = 2 from rfl, hl] at this))
  have HP := Lib.hid (fun (A : Option Addr) (c : Nat) (W : World) (hc : l.length ≤ c) (h : Rd W A l) => (show Calls Try.prog 13 #[.slice A l.length c, .int .i64 0] W (PAs 2 7 [120, 121] 23 0 W) from by
    have := parse_any A c l 0 W (by omega) hc h (by omega)
    rw [parsed_as] at this
    simp only [List.length_nil, Int.ofNat_zero] at p1 p2 p3 p4 p5
    rwa [show pErr l 0 = 0 from p1, show pKind l 0 = 2 from p2, show pSeq l 0 = 7 from p3, show pData l 0 = [120, 121] from p4, show pEnd l 0 = 23 from p5] at this))
  have hl23 : (l.length : Int) = 23 := by omega
  clear hl hll p1 p2 p3 p4 p5
  have kc := fun (w : World) (C : Array Value) (n c : Nat) => Lib.run_convert_bytes_const (P := Try.prog) w 22 5 C n c undB Try.underlying5
  go_enter Try.func16, Try.ntmps16
  go_wp2_with fail
  refine (HM.out _ 2 _ (rd_mark w [120, 121] _ _ rfl (by simp))).mono ?_
  rintro e w1 ⟨v1, rfl, hown, hb⟩
  obtain ⟨A1, c1, rfl, hc1, hr1⟩ := hown.reads
  have HR1 := Lib.hid hr1
  have HB1 := Lib.hid (below_then (below_alloc (Below.refl _ _) _) (by simp <;> omega) hb)
  clear hown hb hr1
  go_wp2_with fail
  refine (HP.out A1 c1 w1 hc1 HR1.out).mono ?_
  rintro e w2 ⟨A2, c2, rfl, hc2, hr2, hb⟩
  have HR2 := Lib.hid hr2
  have HB2 := Lib.hid (below_then HB1.out HB1.out.size hb)
  have hstr := fun (o : Obj) => (show (convert 22 9 (.slice A2 2 c2)).run Try.prog (w2.alloc o) = .ok (.string ⟨#[120, 121]⟩) (w2.alloc o) from string_run c2 (HR2.out.below (below_alloc (Below.refl _ _) o)))
  clear hb hr2
  go_wp2_with fail
  refine (size_any 2 _ (by omega) (by omega)).mono ?_
  rintro e w' ⟨rfl, rfl⟩
  go_wp2_with fail
  go_ret
  exact ⟨rfl, below_alloc HB2.out _⟩
set_option maxRecDepth 100000 in
set_option maxHeartbeats 400000 in
theorem parses_any (A : Option Addr) (c : Nat) (l : List UInt8) (at_ : Int) (w : World) (hr : Rd w A l) (hc : l.length ≤ c) (hl : l.length ≤ 140737488351232) (hb : -9223372036854775808 ≤ at_ ∧ at_ ≤ 9223372036854775807) :
    Calls Try.prog 3 #[.slice A l.length c, .int .i64 at_] w (Kept (.bool true) w) := by
  have HR := Lib.hid hr
  have hdl := pData_le l at_
  have HP := Lib.hid (fun (W : World) (h : Rd W A l) => (show Calls Try.prog 13 #[.slice A l.length c, .int .i64 at_] W (PAs (pKind l at_) (pSeq l at_) (pData l at_) (pEnd l at_) (pErr l at_) W) from parse_any A c l at_ W (by omega) hc h hb))
  have HQ := Lib.hid (fun (W : World) (h : Rd W A l) => (show Calls Try.prog 14 #[.slice A l.length c, .int .i64 at_] W (PAs (pKind l at_) (pSeq l at_) (pData l at_) (pEnd l at_) (pErr l at_) W) from refparse_any A c l at_ W (by omega) hc h hb))
  generalize pKind l at_ = k at *
  generalize pSeq l at_ = q at *
  generalize pData l at_ = d at *
  generalize pEnd l at_ = en at *
  generalize pErr l at_ = er at *
  clear hr
  go_enter Try.func3, Try.ntmps3
  go_wp2_with fail
  refine (HP.out w HR.out).mono ?_
  rintro e w1 ⟨A1, c1, rfl, hc1, hr1, hb1⟩
  have HR1 := Lib.hid hr1
  have HB1 := Lib.hid hb1
  clear hr1 hb1
  go_wp2_with fail
  refine (HQ.out _ (HR.out.below (below_alloc HB1.out _))).mono ?_
  rintro e w2 ⟨A2, c2, rfl, hc2, hr2, hb2⟩
  have HR2 := Lib.hid hr2
  have HR12 := Lib.hid ((HR1.out.below (below_alloc (Below.refl _ _) _)).below hb2)
  have HB2 := Lib.hid (below_then (below_alloc HB1.out _) (by have := HB1.out.size; simp <;> omega) hb2)
  have HG := Lib.hid (blk_below (blk_new w1 (.cells #[.int .i64 k, .int .u64 q, .slice A1 d.length c1, .int .i64 en] 25)) hb2)
  have hcc := fun i => blk_cell HG.out i
  have hz := blk_lt HG.out
  clear hr2 hb2
  go_wp2_with fail
  refine (same_true k q en A1 c1 A2 c2 d _ (by omega) (HR12.out.below (below_alloc (Below.refl _ _) _)) (HR2.out.below (below_alloc (Below.refl _ _) _))).mono ?_
  rintro e w3 ⟨rfl, hb⟩
  have HB3 := Lib.hid (below_then (below_alloc HB2.out _) (by have := HB2.out.size; simp <;> omega) hb)
  clear hb
  go_wp2_with fail
  refine (lives_any _).mono ?_
  rintro e w4 ⟨rfl, hb⟩
  have HB4 := Lib.hid (below_step' HB3.out hb)
  clear hb
  go_wp2_with fail
  go_ret
  exact ⟨rfl, HB4.out⟩
end Go.Proofs.Yteeemiacibjaoaa.L13
