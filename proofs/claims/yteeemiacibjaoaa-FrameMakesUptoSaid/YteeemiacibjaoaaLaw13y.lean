/- stillagelaw13: bytes. -/
import Derived.Test.YteeemiacibjaoaaLaw13
import Derived.Test.YteeemiacibjaoaaBaseS
import Derived.Test.YteeemiacibjaoaaTurnB
import Derived.Test.YteeemiacibjaoaaOpen
import Derived.Deep.DrawnRows
set_option linter.unusedVariables false
set_option linter.unusedSimpArgs false
namespace Go.Proofs.Yteeemiacibjaoaa.L13
open Go.RowKit Go.Proofs.YteeemiacibjaoaaW.PrintWords Go.Proofs.Yteeemiacibjaoaa.B Go.Proofs.Yteeemiacibjaoaa.Fx Go.Proofs.Yteeemiacibjaoaa.CrcW Go.Proofs.Yteeemiacibjaoaa.Fr
attribute [local go_sem ↓] Go.wp_at_zero Go.wp_at_succ

theorem empty_own {W0 X W : World} (hb : Below W0.heap.size W0 X) (hw : Below (X.alloc (.cells #[] 5)).heap.size (X.alloc (.cells #[] 5)) W) : Own W W0.heap.size (.slice (some ⟨X.heap.size, 0, none⟩) 0 0) [] :=
  (own_lit X W0.heap.size hb.size [] _ rfl (by simp)).below hw
set_option maxRecDepth 100000 in
set_option maxHeartbeats 800000 in
theorem bytes_any (k : Int) (s : Nat) (A : Option Addr) (c : Nat) (d : List UInt8) (A2 : Option Addr) (c2 : Nat) (ah : List UInt8) (A3 : Option Addr) (c3 : Nat) (t : List UInt8) (w : World)
    (hk : -9223372036854775808 ≤ k ∧ k ≤ 9223372036854775807) (hs : s < 18446744073709551616) (hd : d.length ≤ 1048576) (ha : ah.length ≤ 1048576) (ht : t.length ≤ 1048576) (hr : Rd w A d) (hr2 : Rd w A2 ah) (hr3 : Rd w A3 t) :
    Calls Try.prog 21 #[.agg #[.int .i64 k, .int .u64 s, .slice A d.length c, .slice A2 ah.length c2, .slice A3 t.length c3]] w (Made w (ah ++ makeL (kindN k) s d ++ t)) := by
  obtain ⟨m, hm⟩ : ∃ m, makeL (kindN k) s d = m := ⟨_, rfl⟩
  have hml : m.length ≤ 1048600 := by rw [← hm, makeL_len]; omega
  have HM := Lib.hid (fun (W : World) (h : Rd W A d) => (show Calls Try.prog 17 #[.int .i64 k, .int .u64 s, .slice A d.length c] W (Made W m) from hm ▸ make_any k s A c d W hk hs (by omega) h))
  rw [hm]
  clear hm
  have HR := Lib.hid hr
  have HR2 := Lib.hid hr2
  have HR3 := Lib.hid hr3
  clear hr hr2 hr3
  have hl1 : ([] : List UInt8).length + ah.length ≤ 140737488355328 := by simp; omega
  have hl2 : ah.length + m.length ≤ 140737488355328 := by omega
  have hl3 : (ah ++ m).length + t.length ≤ 140737488355328 := by simp; omega
  obtain ⟨W0, hW0⟩ : ∃ W0, W0 = w.alloc (.cells #[.int .i64 k, .int .u64 s, .slice A d.length c, .slice A2 ah.length c2, .slice A3 t.length c3] 36) := ⟨_, rfl⟩
  have HW0 := Lib.hid (show Below w.heap.size w W0 by rw [hW0]; exact below_alloc (Below.refl _ _) _)
  have HG := Lib.hid (show W0.heap[w.heap.size]? = some (.cells #[.int .i64 k, .int .u64 s, .slice A d.length c, .slice A2 ah.length c2, .slice A3 t.length c3] 36 (0, 0)) by rw [hW0]; exact blk_new w _)
  have HS := Lib.hid (fun (W : World) (h : Below W0.heap.size W0 W) => (show W.cell? ⟨w.heap.size, 0, none⟩ = some (.int .i64 k) ∧ W.cell? ⟨w.heap.size, 1, none⟩ = some (.int .u64 s) ∧ W.cell? ⟨w.heap.size, 2, none⟩ = some (.slice A d.length c) ∧ W.cell? ⟨w.heap.size, 3, none⟩ = some (.slice A2 ah.length c2) ∧ Below W0.heap.size W0 W from
    ⟨blk_cell (blk_below HG.out h) 0, blk_cell (blk_below HG.out h) 1, blk_cell (blk_below HG.out h) 2, blk_cell (blk_below HG.out h) 3, h⟩))
  go_enter Try.func21, Try.ntmps21
  go_wp2_with fail
  rw [← hW0]
  clear hW0
  have hs0 := HS.out _ (below_drew (W := W0) (Below.refl W0.heap.size W0))
  have hq0 : Below W0.heap.size W0 (W0.alloc (.cells #[] 5)).drew := below_drew (below_alloc (Below.refl _ _) _)
  have HE0 := Lib.hid (show Own (W0.alloc (.cells #[] 5)).drew W0.heap.size (.slice (some ⟨W0.heap.size, 0, none⟩) 0 0) [] from Kd.R_drew (own_lit W0 W0.heap.size (Nat.le_refl _) [] _ rfl (by simp)))
  have HR2q := Lib.hid ((HR2.out.below HW0.out).below hq0)
  go_region_held3 (fun W => W.cell? ⟨w.heap.size, 0, none⟩ = some (.int .i64 k) ∧ W.cell? ⟨w.heap.size, 1, none⟩ = some (.int .u64 s) ∧ W.cell? ⟨w.heap.size, 2, none⟩ = some (.slice A d.length c) ∧ W.cell? ⟨w.heap.size, 3, none⟩ = some (.slice A2 ah.length c2) ∧ Below W0.heap.size W0 W) (first | assumption | exact HS.out _ (by assumption) | exact HS.out _ (below_alloc (And.right (And.right (And.right (And.right ‹_›)))) _))
    (first
      | ((refine appRowS (w0 := W0) W0.heap.size (by rfl) (.tmp 4) (.tmp 6) (by rfl) _ [] ah A2 ah.length c2 (by rfl) (by rfl) (by rfl) HE0.out HR2q.out hq0 hq0.size hl1 ?_; intro v1 w1 hown1 hb1 _ _; rw [List.nil_append] at hown1; have HO1 := Lib.hid hown1; clear hown1))
      | (go_at_call 17; refine (HM.out _ ((HR.out.below HW0.out).below hb1)).mono ?_; rintro e w2 ⟨v2, rfl, hown2, hbm⟩; have hb2 := below_then hb1 hb1.size hbm; obtain ⟨Am, cm, rfl, -, hrm⟩ := hown2.reads; have HRm := Lib.hid hrm; have HO2 := Lib.hid (HO1.out.below hbm); clear hown2 hrm hbm)
      | ((refine appRowS (w0 := W0) W0.heap.size (by rfl) (.tmp 7) (.tmp 14) (by rfl) v1 ah m Am m.length cm (by rfl) (by rfl) (by rfl) HO2.out HRm.out hb2 hb2.size hl2 ?_; intro v3 w3 hown3 hb3 _ _; have HO3 := Lib.hid hown3; clear hown3))
      | fail)
  have hc4 : w3.cell? ⟨w.heap.size, 4, none⟩ = some (.slice A3 t.length c3) := blk_cell (blk_below HG.out hb3) 4
  have HR3q := Lib.hid ((HR3.out.below HW0.out).below hb3)
  have HB3 := Lib.hid hb3
  clear hb3 hb2 hb1 hs0 hq0
  go_wp2_with (at_builtin; refine appRow (w0 := W0) W0.heap.size rfl (.tmp 16) (.tmp 18) rfl v3 (ah ++ m) t A3 t.length c3 rfl rfl rfl HO3.out HR3q.out HB3.out HB3.out.size hl3 ?_; intro v4 w4 hown hb _ _; have HO4 := Lib.hid hown; have HB4 := Lib.hid hb; clear hown hb)
  go_ret
  exact ⟨v4, rfl, HO4.out.lower HW0.out.size, below_step' HW0.out HB4.out⟩
def PAsO (k q : Nat) (d : List UInt8) (en : Int) (er : Nat) (w : World) (e : Ending) (w' : World) : Prop :=
  ∃ A c, e = .returned (.tuple #[.agg #[.int .i64 k, .int .u64 q, .slice A d.length c, .int .i64 en], .int .i64 er]) ∧ d.length ≤ c ∧ Own w' w.heap.size (.slice A d.length c) d ∧ Below w.heap.size w w'
open Go.Proofs.Yteeemiacibjaoaa.O
/-- a made frame: what is read -/
abbrev MdT : Type := Int64 × UInt64 × List UInt8 × List UInt8 × List UInt8
def kMd : Kd MdT := Kd.pair O.i64 (Kd.pair O.u64 (Kd.pair (Kd.slice 5 u8) (Kd.pair (Kd.slice 5 u8) (Kd.slice 5 u8))))
theorem opnU8 : Opn Try.prog 5 u8 (fun _ => 1) := opn_u8 Try.underlying5 (by kernel_rfl)
theorem opnBytes : Opn Try.prog 22 (Kd.slice 5 u8) (ms fun _ => 1) := opn_slice Try.underlying22 (by kernel_rfl) opnU8
def mb (l : List UInt8) : Nat := ms (fun _ : UInt8 => 1) l
def mI (x : Int64) : Nat := 1
def mU (x : UInt64) : Nat := 1
theorem opnB : Opn Try.prog 22 (Kd.slice 5 u8) mb := opnBytes
theorem opnI : Opn Try.prog 3 O.i64 mI := opn_i64 Try.underlying3 (by kernel_rfl)
theorem opnU : Opn Try.prog 23 O.u64 mU := opn_u64 Try.underlying23 (by kernel_rfl)
def mMd (x : MdT) : Nat := mI x.1 + (mU x.2.1 + (mb x.2.2.1 + (mb x.2.2.2.1 + mb x.2.2.2.2))) + 1
theorem opnMd : Opn Try.prog 36 kMd mMd :=
  opn_struct Try.underlying36 (by kernel_rfl) (opnF_cons rfl opnI (opnF_cons rfl opnU (opnF_cons rfl opnB (opnF_cons rfl opnB (opnF_one rfl opnB)))))
theorem mMd_len {k : Int64} {s : UInt64} {d a t : List UInt8} {B : Nat} (hm : mMd (k, s, d, a, t) ≤ B) : d.length ≤ B ∧ a.length ≤ B ∧ t.length ≤ B := by
  have h1 := ms_len (m := fun _ : UInt8 => 1) (fun _ => Nat.le_refl 1) d
  have h2 := ms_len (m := fun _ : UInt8 => 1) (fun _ => Nat.le_refl 1) a
  have h3 := ms_len (m := fun _ : UInt8 => 1) (fun _ => Nat.le_refl 1) t
  unfold mMd mb at hm
  dsimp only at hm
  omega
theorem md_open {cs : Array Value} {k : Int64} {s : UInt64} {d a t : List UInt8} {w : World} (hK : kMd.K w (k, s, d, a, t) cs.toList) :
    ∃ A c A2 c2 A3 c3, cs = #[.int .i64 k.toInt, .int .u64 (s.toNat : Int), .slice A d.length c, .slice A2 a.length c2, .slice A3 t.length c3] ∧ Rd w A d ∧ Rd w A2 a ∧ Rd w A3 t := by
  obtain ⟨c0, r0, e0, rfl, c1, r1, rfl, rfl, c2, r2, rfl, ⟨A, c, rfl, hc, hA⟩, c3, r3, rfl, ⟨A2, c2', rfl, hc2, hA2⟩, A3, c3', rfl, hc3, hA3⟩ := hK
  refine ⟨A, c, A2, c2', A3, c3', ?_, hA, hA2, hA3⟩
  apply Array.ext'; rw [e0]; rfl
end Go.Proofs.Yteeemiacibjaoaa.L13
