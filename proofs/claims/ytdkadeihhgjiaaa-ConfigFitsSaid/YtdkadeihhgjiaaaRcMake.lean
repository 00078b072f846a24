/- slices.Grow, slices.Concat: two rows of bytes. -/
import Derived.Test.YtdkadeihhgjiaaaBase
import Derived.Test.YtdkadeihhgjiaaaWZeros
import Derived.Lib.AppendZeros
import Derived.Test.YtdkadeihhgjiaaaRcRight
import Derived.Test.YtdkadeihhgjiaaaFrm
import Derived.Deep.RegionHeld3
import Derived.Lib.SlBytesConst
import Derived.Test.YtdkadeihhgjiaaaFixed
import Derived.Laws.CopyOwn
set_option linter.unusedVariables false
set_option linter.unusedSimpArgs false
namespace Go.Proofs.Ytdkadeihhgjiaaa.Rc
open Go.RowKit Go.Proofs.YtdkadeihhgjiaaaW.PrintWords Go.Proofs.Ytdkadeihhgjiaaa.B
set_option maxRecDepth 100000 in
set_option maxHeartbeats 800000 in
theorem grow_any (n : Nat) (w : World) (hn : n ≤ 140737488355328) :
    Calls Try.prog 77 #[.slice none 0 0, .int .i64 n] w (Made w []) := by
  by_cases h0 : n = 0
  · subst h0
    go_enter Try.func77, Try.ntmps77
    go_wp2
    go_ret
    exact ⟨_, rfl, Own.nil _ _, Below.refl _ _⟩
  · have hpos : (0 : Int) < (n : Int) := by omega
    obtain ⟨i0, hi0, hs⟩ := infoU8'
    have hcut0 : ∀ W : World, (Instr.slice 32 (.slice none 0 0) none (some (.int .i64 0)) none).run Try.prog W = .ok (.slice none 0 0) W := fun W => cut_to (P := Try.prog) 32 5 .i64 undB hi0 none 0 0 0 (by decide) (by decide) (by decide) W
    have HCUT := Lib.hid (fun (A : Option Addr) (c : Nat) (hc : n ≤ c) (W : World) => cut_to (P := Try.prog) 32 5 .i64 undB hi0 A n c 0 (by decide) (by omega) hc W)
    have HZ := Lib.hid (show u8.M w w.heap.size (fun _ => False) (0 : UInt8) [.int .u8 0] from rfl)
    clear h0 hs
    go_enter Try.func77, Try.ntmps77
    go_wp2_with (at_builtin; refine Kd.R_append_zeros u8 (w0 := w) w.heap.size rfl (.tmp 20) (.tmp 21) 32 3 5 _ _ rfl undB (k := .i64) Try.underlying3 infoU8 rfl (by decide) (by decide) (.slice none 0 0) [] (0 : UInt8) (n : Int) (fun _ => True) rfl rfl HZ.out (fun _ _ => trivial) (Own.nil _ _) (by omega) (Below.refl _ _) (Nat.le_refl _) (by simpa using hn) ?_; intro v1 w1 hN hB _ _; rw [List.nil_append] at hN; obtain ⟨A1, c1, rfl, hc1, -⟩ := Kd.R_reads hN; have HN := Lib.hid hN; have HB := Lib.hid hB; rw [List.length_replicate, Int.toNat_natCast] at *; have hct := HCUT.out A1 c1 hc1; clear hN hB)
    go_ret
    exact ⟨_, rfl, (by have h := Kd.R_take (m := 0) HN.out (by simp); rw [List.take_zero] at h; exact h), HB.out⟩
def cl (x1 x2 : List UInt8) (k : Nat) : List UInt8 := if k = 0 then [] else if k = 1 then x1 else x1 ++ x2
def cz (n1 n2 : Nat) (k : Nat) : Nat := if k = 0 then 0 else if k = 1 then n1 else n1 + n2
set_option maxRecDepth 100000 in
set_option maxHeartbeats 1600000 in
theorem concat_any (g : Nat) (t : TypeId) (A1 A2 : Option Addr) (c1 c2 : Nat) (x1 x2 : List UInt8) (w : World) (hg : w.heap[g]? = some (.cells #[.slice A1 x1.length c1, .slice A2 x2.length c2] t (0, 0)))
    (h1 : Rd w A1 x1) (h2 : Rd w A2 x2) (hl : x1.length + x2.length ≤ 140737488355328) :
    Calls Try.prog 63 #[.slice (some ⟨g, 0, none⟩) 2 2] w (Made w (x1 ++ x2)) := by
  have HG := Lib.hid hg
  have c0 : w.cell? ⟨g, 0, none⟩ = some (.slice A1 x1.length c1) := blk_cell hg 0
  have c1' : w.cell? ⟨g, 1, none⟩ = some (.slice A2 x2.length c2) := blk_cell hg 1
  have H1 := Lib.hid h1
  have H2 := Lib.hid h2
  have HGR := Lib.hid (show Calls Try.prog 77 #[.slice none 0 0, .int .i64 ((x1.length : Int) + (x2.length : Int))] w _ from by have h := grow_any (x1.length + x2.length) w hl; rwa [Int.natCast_add] at h)
  clear hg h1 h2
  go_enter Try.func63, Try.ntmps63
  go_wp2_with fail
  go_loop [3, 11] (fun sz i => ∃ k : Nat, k ≤ 2 ∧ i = .int .i64 k ∧ sz = .int .i64 (cz x1.length x2.length k)) (fun _ i => 2 - (intOf i).toNat)
  case atStart => exact ⟨0, by omega, rfl, rfl⟩
  case round =>
    obtain ⟨k, hk, rfl, rfl⟩ := hrel
    rcases (show k = 0 ∨ k = 1 ∨ k = 2 by omega) with rfl | rfl | rfl
    · rw [show cz x1.length x2.length 0 = 0 from rfl]
      go_wp2_with fail
      go_round
      case rel => exact ⟨1, by omega, by go_num, by rw [show cz x1.length x2.length 1 = x1.length from rfl] <;> go_num⟩
      case measure => simp [intOf]
    · rw [show cz x1.length x2.length 1 = x1.length from rfl]
      go_wp2_with fail
      go_round
      case rel => exact ⟨2, by omega, by go_num, by rw [show cz x1.length x2.length 2 = x1.length + x2.length from rfl] <;> go_num⟩
      case measure => simp [intOf]
    · rw [show cz x1.length x2.length 2 = x1.length + x2.length from rfl]
      go_wp2_with fail
      refine HGR.out.mono ?_
      rintro e w1 ⟨v0, rfl, hN, hB⟩
      obtain ⟨Av0, cv0, rfl, -, -⟩ := Kd.R_reads hN
      have HN0 := Lib.hid hN
      have HB0 := Lib.hid hB
      clear hN hB
      go_wp2_with fail
      go_loopw [6, 27] (fun v i wr => ∃ (k : Nat) (Av : Option Addr) (nv cv : Nat), k ≤ 2 ∧ i = .int .i64 k ∧ v = .slice Av nv cv ∧ Hid (Own wr w.heap.size (.slice Av nv cv) (cl x1 x2 k)) ∧ Hid (Below w.heap.size w wr)) (fun _ i _ => 2 - (intOf i).toNat)
      case atStart => exact ⟨0, Av0, _, cv0, by omega, rfl, rfl, HN0, HB0⟩
      case round =>
        obtain ⟨k, Av, nv, cv, hk, rfl, rfl, HNk, HBk⟩ := hrel
        have HGk := Lib.hid (show wr.heap[g]? = some (.cells #[.slice A1 x1.length c1, .slice A2 x2.length c2] t (0, 0)) from blk_below HG.out HBk.out)
        have d0 : wr.cell? ⟨g, 0, none⟩ = some (.slice A1 x1.length c1) := blk_cell HGk.out 0
        have d1 : wr.cell? ⟨g, 1, none⟩ = some (.slice A2 x2.length c2) := blk_cell HGk.out 1
        have R1 := Lib.hid (H1.out.below HBk.out)
        have R2 := Lib.hid (H2.out.below HBk.out)
        have hl1 : ([] : List UInt8).length + x1.length ≤ 140737488355328 := by simp; omega
        rcases (show k = 0 ∨ k = 1 ∨ k = 2 by omega) with rfl | rfl | rfl
        · go_wp2_with (at_builtin; refine appRow (w0 := w) w.heap.size rfl (.tmp 31) (.tmp 32) rfl (.slice Av nv cv) [] x1 A1 x1.length c1 rfl rfl rfl HNk.out R1.out HBk.out HBk.out.size hl1 ?_; intro v1 w1 hN hB _ _; obtain ⟨Av1, cv1, rfl, -, -⟩ := Kd.R_reads hN; have HN1 := Lib.hid hN; have HB1 := Lib.hid hB; clear hN hB)
          go_roundw
          case rel => exact ⟨1, Av1, _, cv1, by omega, by go_num, rfl, HN1, HB1⟩
          case measure => simp [intOf]
        · go_wp2_with (at_builtin; refine appRow (w0 := w) w.heap.size rfl (.tmp 31) (.tmp 32) rfl (.slice Av nv cv) x1 x2 A2 x2.length c2 rfl rfl rfl HNk.out R2.out HBk.out HBk.out.size hl ?_; intro v1 w1 hN hB _ _; obtain ⟨Av1, cv1, rfl, -, -⟩ := Kd.R_reads hN; have HN1 := Lib.hid hN; have HB1 := Lib.hid hB; clear hN hB)
          go_roundw
          case rel => exact ⟨2, Av1, _, cv1, by omega, by go_num, rfl, Lib.hid (by rw [← List.length_append]; exact HN1.out), HB1⟩
          case measure => simp [intOf]
        · go_wp2_with fail
          go_ret
          exact ⟨_, rfl, HNk.out, HBk.out⟩
end Go.Proofs.Ytdkadeihhgjiaaa.Rc
/- record.data. -/
set_option linter.unusedVariables false
set_option linter.unusedSimpArgs false
namespace Go.Proofs.Ytdkadeihhgjiaaa.Rc
open Go.RowKit Go.Proofs.YtdkadeihhgjiaaaW.PrintWords Go.Proofs.Ytdkadeihhgjiaaa.B Go.Proofs.Ytdkadeihhgjiaaa.Fx Go.Proofs.Ytdkadeihhgjiaaa.Fr
def magicL : List UInt8 := [115, 116, 105, 108, 108, 97, 103, 101]
/-- a record's data -/
def dataL (k : Int) (d nm l : List UInt8) (n z : Int) : List UInt8 :=
  if k = 1 ∨ k = 2 then d ++ l
  else if k = 3 then [UInt8.ofNat nm.length] ++ nm ++ d
  else if k = 4 then [UInt8.ofNat nm.length] ++ nm
  else if k = 5 then d
  else if k = 7 then magicL ++ putB n.toNat 8
  else putB n.toNat 4 ++ putB z.toNat 4
theorem right_in {k : Int} {m : Nat} {nm : List UInt8} {n z : Int} (h : rightE k m nm n z = 0) : (k = 1 ∧ m ≤ 65504) ∨ (k = 2 ∧ m ≤ 65504) ∨ (k = 3 ∧ tagB nm = true) ∨ (k = 4 ∧ tagB nm = true) ∨ k = 5 ∨ (k = 6 ∧ 0 ≤ n ∧ n ≤ 4294967295 ∧ 0 ≤ z ∧ z ≤ 4294967295) ∨ (k = 7 ∧ 1 ≤ n ∧ n ≤ 99999999) ∨ (k = 8 ∧ 0 ≤ n ∧ n ≤ 4294967295 ∧ 0 ≤ z ∧ z ≤ 4294967295) := by
  unfold rightE at h
  by_cases h1 : k = 1 ∨ k = 2
  · rw [if_pos h1] at h
    by_cases h2 : 65504 < m
    · rw [if_pos h2] at h; omega
    · omega
  rw [if_neg h1] at h
  by_cases h2 : k = 3 ∨ k = 4
  · rw [if_pos h2] at h
    cases ht : tagB nm with
    | false => rw [ht] at h; cases h
    | true => rcases h2 with h2 | h2
              · exact .inr (.inr (.inl ⟨h2, rfl⟩))
              · exact .inr (.inr (.inr (.inl ⟨h2, rfl⟩)))
  rw [if_neg h2] at h
  by_cases h3 : k = 5
  · exact .inr (.inr (.inr (.inr (.inl h3))))
  rw [if_neg h3] at h
  by_cases h4 : k = 6 ∨ k = 8
  · rw [if_pos h4] at h
    by_cases h5 : 0 ≤ n ∧ n ≤ 4294967295 ∧ 0 ≤ z ∧ z ≤ 4294967295
    · rcases h4 with h4 | h4
      · exact .inr (.inr (.inr (.inr (.inr (.inl ⟨h4, h5⟩)))))
      · exact .inr (.inr (.inr (.inr (.inr (.inr (.inr ⟨h4, h5⟩))))))
    · rw [if_neg h5] at h; cases h
  rw [if_neg h4] at h
  by_cases h6 : k = 7
  · rw [if_pos h6] at h
    by_cases h5 : 1 ≤ n ∧ n ≤ 99999999
    · exact .inr (.inr (.inr (.inr (.inr (.inr (.inl ⟨h6, h5⟩))))))
    · rw [if_neg h5] at h; cases h
  · rw [if_neg h6] at h; cases h
theorem tag_len {nm : List UInt8} (h : tagB nm = true) : 1 ≤ nm.length ∧ nm.length ≤ 32 := by
  unfold tagB at h
  rw [Bool.and_eq_true] at h
  exact of_decide_eq_true h.1
theorem data_len {k : Int} {d nm l : List UInt8} {n z : Int} (hd : d.length = 32) (h : rightE k l.length nm n z = 0) : (dataL k d nm l n z).length ≤ 65536 := by
  rcases right_in h with ⟨rfl, q⟩ | ⟨rfl, q⟩ | ⟨rfl, q⟩ | ⟨rfl, q⟩ | rfl | ⟨rfl, q⟩ | ⟨rfl, q⟩ | ⟨rfl, q⟩
  · show (d ++ l).length ≤ _; rw [List.length_append]; omega
  · show (d ++ l).length ≤ _; rw [List.length_append]; omega
  · have := tag_len q
    show ([UInt8.ofNat nm.length] ++ nm ++ d).length ≤ _; simp only [List.length_append, List.length_cons, List.length_nil]; omega
  · have := tag_len q
    show ([UInt8.ofNat nm.length] ++ nm).length ≤ _; simp only [List.length_append, List.length_cons, List.length_nil]; omega
  · show d.length ≤ _; omega
  · show (putB n.toNat 4 ++ putB z.toNat 4).length ≤ _; rw [List.length_append, putB_length, putB_length]; decide
  · show (magicL ++ putB n.toNat 8).length ≤ _; rw [List.length_append, putB_length]; decide
  · show (putB n.toNat 4 ++ putB z.toNat 4).length ≤ _; rw [List.length_append, putB_length, putB_length]; decide
theorem putText_ok {s : List UInt8} (h : s.length ≤ 255) : putTextL [] s = [UInt8.ofNat s.length] ++ s := by
  unfold putTextL; rw [if_pos h]; rfl
set_option maxRecDepth 100000 in
set_option maxHeartbeats 3200000 in
theorem data_any (X : Array Value) (k : Int) (s : Nat) (d : List UInt8) (nm : ByteArray) (A : Option Addr) (l : List UInt8) (c : Nat) (n z : Int) (w : World) (hX : RecF X k s d nm A l.length c n z) (hr : Rd w A l) (hk : rightE k l.length nm.data.toList n z = 0) :
    Calls Try.prog 48 #[.agg X] w (Made w (dataL k d nm.data.toList l n z)) := by
  have h0 := hX.c0
  have h34 := hX.c34
  have h35 := hX.c35
  have h36 := hX.c36
  have h37 := hX.c37
  have hsz : nm.data.toList.length = nm.size := by simp
  obtain ⟨w1, hw1⟩ : ∃ w1, w.alloc (.cells X 34) = w1 := ⟨_, rfl⟩
  have hg : w1.heap[w.heap.size]? = some (.cells X 34 (0, 0)) := hw1 ▸ blk_new w _
  have hb0 : Below w.heap.size w w1 := hw1 ▸ below_alloc (Below.refl _ _) _
  have HRD := Lib.hid (hX.rd hg)
  have HB0 := Lib.hid hb0
  have HR := Lib.hid (hr.below hb0)
  have HG := Lib.hid hg
  have hdl := hX.dl
  have hcc := fun i => blk_cell HG.out i
  have hzz := blk_lt HG.out
  have hin := right_in hk
  clear hX hg hb0 hr hk
  rcases hin with ⟨rfl, hin⟩ | ⟨rfl, hin⟩ | ⟨rfl, hin⟩ | ⟨rfl, hin⟩ | rfl | ⟨rfl, hin⟩ | ⟨rfl, hin⟩ | ⟨rfl, hin⟩
  · have HE := Lib.hid (show dataL 1 d nm.data.toList l n z = d ++ l from rfl)
    have hll : d.length + l.length ≤ 140737488355328 := by omega
    have HS := Lib.hid (fun (W : World) (h : Below w1.heap.size w1 W) => (show W.cell? ⟨w.heap.size, 35, none⟩ = some (.slice A l.length c) ∧ Below w1.heap.size w1 W from ⟨(by rw [blk_cell (blk_below HG.out h) 35]; exact h35), h⟩))
    have HCC := Lib.hid (fun (W : World) (g : Nat) (t : TypeId) (hg : W.heap[g]? = some (.cells #[.slice (some ⟨w.heap.size, 2, none⟩) 32 32, .slice A l.length c] t (0, 0))) (h1 : Rd W (some ⟨w.heap.size, 2, none⟩) d) (h2 : Rd W A l) => concat_any g t _ A 32 c d l W (by rw [hdl]; exact hg) h1 h2 hll)
    clear h34 h36 h37 hsz
    go_enter Try.func48, Try.ntmps48
    go_wp2_with fail
    clear hw1
    have hx0 : Below w1.heap.size w1 w1.drew := below_drew (Below.refl _ _)
    have hs := HS.out _ hx0
    go_region_held3 (fun W => W.cell? ⟨w.heap.size, 35, none⟩ = some (.slice A l.length c) ∧ Below w1.heap.size w1 W) (first | assumption | exact HS.out _ (by assumption) | exact HS.out _ (below_alloc (by assumption) _))
      (first
        | (go_at_call 63; refine (HCC.out _ _ _ (blk_new _ _) (HRD.out.below (below_alloc hx0 _)) (HR.out.below (below_alloc hx0 _))).mono ?_; rintro e w2 ⟨v2, rfl, ho, hb⟩; have hx2 := below_step' (below_alloc hx0 _) hb; have HO2 := Lib.hid (show Own w2 w.heap.size v2 (d ++ l) from ho.lower (Nat.le_trans HB0.out.size (by simp))); clear ho hb)
        | fail)
    have HB2 := Lib.hid (below_step' HB0.out hx2)
    go_wp2_with fail
    go_ret
    rw [HE.out]
    exact ⟨_, rfl, HO2.out, HB2.out⟩
  · have HE := Lib.hid (show dataL 2 d nm.data.toList l n z = d ++ l from rfl)
    have hll : d.length + l.length ≤ 140737488355328 := by omega
    have HS := Lib.hid (fun (W : World) (h : Below w1.heap.size w1 W) => (show W.cell? ⟨w.heap.size, 35, none⟩ = some (.slice A l.length c) ∧ Below w1.heap.size w1 W from ⟨(by rw [blk_cell (blk_below HG.out h) 35]; exact h35), h⟩))
    have HCC := Lib.hid (fun (W : World) (g : Nat) (t : TypeId) (hg : W.heap[g]? = some (.cells #[.slice (some ⟨w.heap.size, 2, none⟩) 32 32, .slice A l.length c] t (0, 0))) (h1 : Rd W (some ⟨w.heap.size, 2, none⟩) d) (h2 : Rd W A l) => concat_any g t _ A 32 c d l W (by rw [hdl]; exact hg) h1 h2 hll)
    clear h34 h36 h37 hsz
    go_enter Try.func48, Try.ntmps48
    go_wp2_with fail
    clear hw1
    have hx0 : Below w1.heap.size w1 w1.drew := below_drew (Below.refl _ _)
    have hs := HS.out _ hx0
    go_region_held3 (fun W => W.cell? ⟨w.heap.size, 35, none⟩ = some (.slice A l.length c) ∧ Below w1.heap.size w1 W) (first | assumption | exact HS.out _ (by assumption) | exact HS.out _ (below_alloc (by assumption) _))
      (first
        | (go_at_call 63; refine (HCC.out _ _ _ (blk_new _ _) (HRD.out.below (below_alloc hx0 _)) (HR.out.below (below_alloc hx0 _))).mono ?_; rintro e w2 ⟨v2, rfl, ho, hb⟩; have hx2 := below_step' (below_alloc hx0 _) hb; have HO2 := Lib.hid (show Own w2 w.heap.size v2 (d ++ l) from ho.lower (Nat.le_trans HB0.out.size (by simp))); clear ho hb)
        | fail)
    have HB2 := Lib.hid (below_step' HB0.out hx2)
    go_wp2_with fail
    go_ret
    rw [HE.out]
    exact ⟨_, rfl, HO2.out, HB2.out⟩
  · have htl := tag_len hin
    have h255 : nm.data.toList.length ≤ 255 := by omega
    have HE := Lib.hid (show dataL 3 d nm.data.toList l n z = putTextL [] nm.data.toList ++ d by rw [putText_ok h255]; rfl)
    have hpl : (putTextL [] nm.data.toList).length + d.length ≤ 140737488355328 := by rw [putText_ok h255]; simp only [List.length_append, List.length_cons, List.length_nil]; omega
    have HPT := Lib.hid (fun (W : World) => putText_any none 0 [] nm W (by simp; omega) (Rd.nil W))
    clear h35 h36 h37 hsz
    go_enter Try.func48, Try.ntmps48
    go_wp2_with fail
    clear hw1
    refine (HPT.out _).mono ?_
    rintro e w1 ⟨v1, rfl, ho, hb⟩
    have HO1 := Lib.hid (show Own w1 w.heap.size v1 (putTextL [] nm.data.toList) from ho.lower HB0.out.size)
    have HB1 := Lib.hid (below_step' HB0.out hb)
    have HRD1 := Lib.hid (HRD.out.below hb)
    have HG1 := Lib.hid (blk_below HG.out hb)
    have hc1 := fun i => blk_cell HG1.out i
    clear ho hb hcc
    go_wp2_with (at_builtin; refine appRow (w0 := w) w.heap.size rfl (.tmp 27) (.tmp 29) rfl v1 (putTextL [] nm.data.toList) d (some ⟨w.heap.size, 2, none⟩) 32 32 rfl rfl hdl.symm HO1.out HRD1.out HB1.out HB1.out.size hpl ?_; intro v2 w2 hown hb _ _; have HO2 := Lib.hid hown; have HB2 := Lib.hid hb; clear hown hb)
    go_ret
    rw [HE.out]
    exact ⟨_, rfl, HO2.out, HB2.out⟩
  · have htl := tag_len hin
    have h255 : nm.data.toList.length ≤ 255 := by omega
    have HE := Lib.hid (show dataL 4 d nm.data.toList l n z = putTextL [] nm.data.toList by rw [putText_ok h255]; rfl)
    have HPT := Lib.hid (fun (W : World) => putText_any none 0 [] nm W (by simp; omega) (Rd.nil W))
    clear h35 h36 h37 hsz
    go_enter Try.func48, Try.ntmps48
    go_wp2_with fail
    clear hw1
    refine (HPT.out _).mono ?_
    rintro e w1 ⟨v1, rfl, ho, hb⟩
    have HO1 := Lib.hid (show Own w1 w.heap.size v1 (putTextL [] nm.data.toList) from ho.lower HB0.out.size)
    have HB1 := Lib.hid (below_step' HB0.out hb)
    have HG1 := Lib.hid (blk_below HG.out hb)
    have hc1 := fun i => blk_cell HG1.out i
    clear ho hb hcc
    go_wp2_with fail
    go_ret
    rw [HE.out]
    exact ⟨_, rfl, HO1.out, HB1.out⟩
  · have HE := Lib.hid (show dataL 5 d nm.data.toList l n z = [] ++ d from rfl)
    have hpl : ([] : List UInt8).length + d.length ≤ 140737488355328 := by simp; omega
    clear h34 h35 h36 h37 hsz
    go_enter Try.func48, Try.ntmps48
    go_wp2_with (at_builtin; refine appRow (w0 := w) w.heap.size rfl (.tmp 27) (.tmp 29) rfl (.slice none 0 0) [] d (some ⟨w.heap.size, 2, none⟩) 32 32 rfl rfl hdl.symm (Own.nil _ _) HRD.out HB0.out HB0.out.size hpl ?_; intro v2 w2 hown hb _ _; have HO2 := Lib.hid hown; have HB2 := Lib.hid hb; clear hown hb)
    go_ret
    rw [HE.out]
    exact ⟨_, rfl, HO2.out, HB2.out⟩
  · obtain ⟨n', rfl⟩ := Int.eq_ofNat_of_zero_le hin.1
    obtain ⟨z', rfl⟩ := Int.eq_ofNat_of_zero_le hin.2.2.1
    have HE := Lib.hid (show dataL 6 d nm.data.toList l n' z' = putL (putL [] n' 4) z' 4 by rw [putL4, putL4]; rfl)
    have hwn : IntKind.u64.wrap (n' : Int) = (n' : Int) := IntWalk.u64_in _ (by omega)
    have hwz : IntKind.u64.wrap (z' : Int) = (z' : Int) := IntWalk.u64_in _ (by omega)
    have HP1 := Lib.hid (fun (W : World) => put_any none 0 [] n' 4 W (by simp) (by omega) (Rd.nil W))
    have hpl : (putL [] n' 4).length ≤ 140737488355000 := by rw [putL4, List.nil_append, putB_length]; decide
    have HP2 := Lib.hid (fun (W : World) (A' : Option Addr) (c' : Nat) (h : Rd W A' (putL [] n' 4)) => put_any A' c' (putL [] n' 4) z' 4 W hpl (by omega) h)
    clear h34 h35 hsz hpl
    go_enter Try.func48, Try.ntmps48
    go_wp2_with fail
    clear hw1
    have hx0 : Below w1.heap.size w1 w1.drew := below_drew (Below.refl _ _)
    refine wp_region_held_drew (S := fun W => Below w1.heap.size w1 W) (by kernel_rfl) hx0 (fun hHeld => ?_)
    refine wpAnyH_take (i := 0) (v := _) rfl (by kernel_rfl) (by kernel_rfl) (by kernel_rfl) (fun _ _ _ h => h) (Or.inl ⟨by kernel_rfl, fun w _ => by go_simp <;> with_reducible rfl⟩) hHeld ?_
    simp only [List.getElem_toArray, List.getElem_cons_succ, List.getElem_cons_zero, Act.put, List.setIfInBounds_toArray, List.set_cons_zero, List.set_cons_succ]
    refine wpAnyH_take (i := 1) (v := _) rfl (by kernel_rfl) (by kernel_rfl) (by kernel_rfl) (fun _ _ _ h => h) (Or.inl ⟨by kernel_rfl, fun w _ => by go_simp <;> with_reducible rfl⟩) hHeld ?_
    simp only [List.getElem_toArray, List.getElem_cons_succ, List.getElem_cons_zero, Act.put, List.setIfInBounds_toArray, List.set_cons_zero, List.set_cons_succ]
    refine wpAnyH_take (i := 2) (v := .int .i64 n') rfl (by kernel_rfl) (by kernel_rfl) (by kernel_rfl) (fun _ _ _ h => h) (Or.inl ⟨by kernel_rfl, fun W h => by have q0 := blk_cell (blk_below HG.out h) 36; go_simp <;> with_reducible rfl⟩) hHeld ?_
    simp only [List.getElem_toArray, List.getElem_cons_succ, List.getElem_cons_zero, Act.put, List.setIfInBounds_toArray, List.set_cons_zero, List.set_cons_succ]
    refine wpAnyH_take (i := 3) (v := _) rfl (by kernel_rfl) (by kernel_rfl) (by kernel_rfl) (fun _ _ _ h => h) (Or.inl ⟨by kernel_rfl, fun w _ => by go_simp <;> with_reducible rfl⟩) hHeld ?_
    simp only [List.getElem_toArray, List.getElem_cons_succ, List.getElem_cons_zero, Act.put, List.setIfInBounds_toArray, List.set_cons_zero, List.set_cons_succ]
    refine wpAnyH_take (i := 5) (v := _) rfl (by kernel_rfl) (by kernel_rfl) (by kernel_rfl) (fun _ _ _ h => h) (Or.inl ⟨by kernel_rfl, fun w _ => by go_simp <;> with_reducible rfl⟩) hHeld ?_
    simp only [List.getElem_toArray, List.getElem_cons_succ, List.getElem_cons_zero, Act.put, List.setIfInBounds_toArray, List.set_cons_zero, List.set_cons_succ]
    refine wpAnyH_take (i := 6) (v := .int .i64 z') rfl (by kernel_rfl) (by kernel_rfl) (by kernel_rfl) (fun _ _ _ h => h) (Or.inl ⟨by kernel_rfl, fun W h => by have q0 := blk_cell (blk_below HG.out h) 37; go_simp <;> with_reducible rfl⟩) hHeld ?_
    simp only [List.getElem_toArray, List.getElem_cons_succ, List.getElem_cons_zero, Act.put, List.setIfInBounds_toArray, List.set_cons_zero, List.set_cons_succ]
    refine wpAnyH_take (i := 7) (v := _) rfl (by kernel_rfl) (by kernel_rfl) (by kernel_rfl) (fun _ _ _ h => h) (Or.inl ⟨by kernel_rfl, fun w _ => by go_simp <;> with_reducible rfl⟩) hHeld ?_
    simp only [List.getElem_toArray, List.getElem_cons_succ, List.getElem_cons_zero, Act.put, List.setIfInBounds_toArray, List.set_cons_zero, List.set_cons_succ]
    refine wpAnyH_ready (rs := [4]) (by kernel_rfl) (by simp) ?_
    refine AllReadyH.cons rfl (fun K hK => ?_) ?_
    case refine_2 => exact AllReadyH.nil
    go_simp
    refine (HP1.out _).mono ?_
    rintro e w2 ⟨v2, rfl, ho, hb⟩
    obtain ⟨A2, c2, rfl, -, hr2⟩ := ho.reads
    have HR2 := Lib.hid hr2
    refine hK.out _ _ (below_step' hHeld hb) (fun hHeld => ?_)
    clear hK K
    try simp only [List.getElem_toArray, List.getElem_cons_succ, List.getElem_cons_zero, Act.put, List.setIfInBounds_toArray, List.set_cons_zero, List.set_cons_succ]
    clear ho hr2 hb
    refine wpAnyH_ready (rs := [8]) (by kernel_rfl) (by simp) ?_
    refine AllReadyH.cons rfl (fun K hK => ?_) ?_
    case refine_2 => exact AllReadyH.nil
    go_simp
    refine (HP2.out _ _ _ HR2.out).mono ?_
    rintro e w3 ⟨v3, rfl, ho, hb⟩
    have HO3 := Lib.hid (show Own w3 w.heap.size v3 _ from ho.lower (Nat.le_trans HB0.out.size hHeld.size))
    refine hK.out _ _ (below_step' hHeld hb) (fun hHeld => ?_)
    clear hK K
    try simp only [List.getElem_toArray, List.getElem_cons_succ, List.getElem_cons_zero, Act.put, List.setIfInBounds_toArray, List.set_cons_zero, List.set_cons_succ]
    clear ho hb
    refine wpAnyH_take (i := 9) (v := _) rfl (by kernel_rfl) (by kernel_rfl) (by kernel_rfl) (fun _ _ _ h => h) (Or.inl ⟨by kernel_rfl, fun w _ => by go_simp <;> with_reducible rfl⟩) hHeld ?_
    simp only [List.getElem_toArray, List.getElem_cons_succ, List.getElem_cons_zero, Act.put, List.setIfInBounds_toArray, List.set_cons_zero, List.set_cons_succ]
    refine wpAnyH_done (by kernel_rfl) ?_ _
    have HB2 := Lib.hid (below_step' HB0.out hHeld)
    go_wp2_with fail
    go_ret
    rw [HE.out]
    exact ⟨_, rfl, HO3.out, HB2.out⟩
  · obtain ⟨n', rfl⟩ := Int.eq_ofNat_of_zero_le (show 0 ≤ n by omega)
    have HE := Lib.hid (show dataL 7 d nm.data.toList l n' z = putL magicL n' 8 by rw [putL8]; rfl)
    have hwn : IntKind.u64.wrap (n' : Int) = (n' : Int) := IntWalk.u64_in _ (by omega)
    have HP1 := Lib.hid (fun (W : World) (A' : Option Addr) (c' : Nat) (h : Rd W A' magicL) => (show Calls Try.prog 64 #[.slice A' 8 c', .int .u64 n', .int .i64 8] W (Made W (putL magicL n' 8)) from put_any A' c' magicL n' 8 W (by decide) (by omega) h))
    have c36 : w1.cell? ⟨w.heap.size, 36, none⟩ = some (.int .i64 n') := by rw [blk_cell HG.out 36]; exact h36
    have HL := Lib.hid (CrcW.rd_mark w1 magicL _ (8, 9) rfl (by decide))
    have HBL := Lib.hid (below_alloc HB0.out (.cells (magicL.map encB).toArray 5 (8, 9)))
    have kc := fun (w : World) (C : Array Value) (n c : Nat) => Lib.run_convert_bytes_const (P := Try.prog) w 32 5 C n c undB Try.underlying5
    clear h34 h35 h37 hsz
    go_enter Try.func48, Try.ntmps48
    go_wp2_with fail
    refine (HP1.out _ _ _ HL.out).mono ?_
    rintro e w2 ⟨v2, rfl, ho, hb⟩
    have HO2 := Lib.hid (show Own w2 w.heap.size v2 _ from ho.lower HBL.out.size)
    have HB2 := Lib.hid (below_step' HBL.out hb)
    clear ho hb
    go_wp2_with fail
    go_ret
    rw [HE.out]
    exact ⟨_, rfl, HO2.out, HB2.out⟩
  · obtain ⟨n', rfl⟩ := Int.eq_ofNat_of_zero_le hin.1
    obtain ⟨z', rfl⟩ := Int.eq_ofNat_of_zero_le hin.2.2.1
    have HE := Lib.hid (show dataL 8 d nm.data.toList l n' z' = putL (putL [] n' 4) z' 4 by rw [putL4, putL4]; rfl)
    have hwn : IntKind.u64.wrap (n' : Int) = (n' : Int) := IntWalk.u64_in _ (by omega)
    have hwz : IntKind.u64.wrap (z' : Int) = (z' : Int) := IntWalk.u64_in _ (by omega)
    have HP1 := Lib.hid (fun (W : World) => put_any none 0 [] n' 4 W (by simp) (by omega) (Rd.nil W))
    have hpl : (putL [] n' 4).length ≤ 140737488355000 := by rw [putL4, List.nil_append, putB_length]; decide
    have HP2 := Lib.hid (fun (W : World) (A' : Option Addr) (c' : Nat) (h : Rd W A' (putL [] n' 4)) => put_any A' c' (putL [] n' 4) z' 4 W hpl (by omega) h)
    clear h34 h35 hsz hpl
    go_enter Try.func48, Try.ntmps48
    go_wp2_with fail
    clear hw1
    have hx0 : Below w1.heap.size w1 w1.drew := below_drew (Below.refl _ _)
    refine wp_region_held_drew (S := fun W => Below w1.heap.size w1 W) (by kernel_rfl) hx0 (fun hHeld => ?_)
    refine wpAnyH_take (i := 0) (v := _) rfl (by kernel_rfl) (by kernel_rfl) (by kernel_rfl) (fun _ _ _ h => h) (Or.inl ⟨by kernel_rfl, fun w _ => by go_simp <;> with_reducible rfl⟩) hHeld ?_
    simp only [List.getElem_toArray, List.getElem_cons_succ, List.getElem_cons_zero, Act.put, List.setIfInBounds_toArray, List.set_cons_zero, List.set_cons_succ]
    refine wpAnyH_take (i := 1) (v := _) rfl (by kernel_rfl) (by kernel_rfl) (by kernel_rfl) (fun _ _ _ h => h) (Or.inl ⟨by kernel_rfl, fun w _ => by go_simp <;> with_reducible rfl⟩) hHeld ?_
    simp only [List.getElem_toArray, List.getElem_cons_succ, List.getElem_cons_zero, Act.put, List.setIfInBounds_toArray, List.set_cons_zero, List.set_cons_succ]
    refine wpAnyH_take (i := 2) (v := .int .i64 n') rfl (by kernel_rfl) (by kernel_rfl) (by kernel_rfl) (fun _ _ _ h => h) (Or.inl ⟨by kernel_rfl, fun W h => by have q0 := blk_cell (blk_below HG.out h) 36; go_simp <;> with_reducible rfl⟩) hHeld ?_
    simp only [List.getElem_toArray, List.getElem_cons_succ, List.getElem_cons_zero, Act.put, List.setIfInBounds_toArray, List.set_cons_zero, List.set_cons_succ]
    refine wpAnyH_take (i := 3) (v := _) rfl (by kernel_rfl) (by kernel_rfl) (by kernel_rfl) (fun _ _ _ h => h) (Or.inl ⟨by kernel_rfl, fun w _ => by go_simp <;> with_reducible rfl⟩) hHeld ?_
    simp only [List.getElem_toArray, List.getElem_cons_succ, List.getElem_cons_zero, Act.put, List.setIfInBounds_toArray, List.set_cons_zero, List.set_cons_succ]
    refine wpAnyH_take (i := 5) (v := _) rfl (by kernel_rfl) (by kernel_rfl) (by kernel_rfl) (fun _ _ _ h => h) (Or.inl ⟨by kernel_rfl, fun w _ => by go_simp <;> with_reducible rfl⟩) hHeld ?_
    simp only [List.getElem_toArray, List.getElem_cons_succ, List.getElem_cons_zero, Act.put, List.setIfInBounds_toArray, List.set_cons_zero, List.set_cons_succ]
    refine wpAnyH_take (i := 6) (v := .int .i64 z') rfl (by kernel_rfl) (by kernel_rfl) (by kernel_rfl) (fun _ _ _ h => h) (Or.inl ⟨by kernel_rfl, fun W h => by have q0 := blk_cell (blk_below HG.out h) 37; go_simp <;> with_reducible rfl⟩) hHeld ?_
    simp only [List.getElem_toArray, List.getElem_cons_succ, List.getElem_cons_zero, Act.put, List.setIfInBounds_toArray, List.set_cons_zero, List.set_cons_succ]
    refine wpAnyH_take (i := 7) (v := _) rfl (by kernel_rfl) (by kernel_rfl) (by kernel_rfl) (fun _ _ _ h => h) (Or.inl ⟨by kernel_rfl, fun w _ => by go_simp <;> with_reducible rfl⟩) hHeld ?_
    simp only [List.getElem_toArray, List.getElem_cons_succ, List.getElem_cons_zero, Act.put, List.setIfInBounds_toArray, List.set_cons_zero, List.set_cons_succ]
    refine wpAnyH_ready (rs := [4]) (by kernel_rfl) (by simp) ?_
    refine AllReadyH.cons rfl (fun K hK => ?_) ?_
    case refine_2 => exact AllReadyH.nil
    go_simp
    refine (HP1.out _).mono ?_
    rintro e w2 ⟨v2, rfl, ho, hb⟩
    obtain ⟨A2, c2, rfl, -, hr2⟩ := ho.reads
    have HR2 := Lib.hid hr2
    refine hK.out _ _ (below_step' hHeld hb) (fun hHeld => ?_)
    clear hK K
    try simp only [List.getElem_toArray, List.getElem_cons_succ, List.getElem_cons_zero, Act.put, List.setIfInBounds_toArray, List.set_cons_zero, List.set_cons_succ]
    clear ho hr2 hb
    refine wpAnyH_ready (rs := [8]) (by kernel_rfl) (by simp) ?_
    refine AllReadyH.cons rfl (fun K hK => ?_) ?_
    case refine_2 => exact AllReadyH.nil
    go_simp
    refine (HP2.out _ _ _ HR2.out).mono ?_
    rintro e w3 ⟨v3, rfl, ho, hb⟩
    have HO3 := Lib.hid (show Own w3 w.heap.size v3 _ from ho.lower (Nat.le_trans HB0.out.size hHeld.size))
    refine hK.out _ _ (below_step' hHeld hb) (fun hHeld => ?_)
    clear hK K
    try simp only [List.getElem_toArray, List.getElem_cons_succ, List.getElem_cons_zero, Act.put, List.setIfInBounds_toArray, List.set_cons_zero, List.set_cons_succ]
    clear ho hb
    refine wpAnyH_take (i := 9) (v := _) rfl (by kernel_rfl) (by kernel_rfl) (by kernel_rfl) (fun _ _ _ h => h) (Or.inl ⟨by kernel_rfl, fun w _ => by go_simp <;> with_reducible rfl⟩) hHeld ?_
    simp only [List.getElem_toArray, List.getElem_cons_succ, List.getElem_cons_zero, Act.put, List.setIfInBounds_toArray, List.set_cons_zero, List.set_cons_succ]
    refine wpAnyH_done (by kernel_rfl) ?_ _
    have HB2 := Lib.hid (below_step' HB0.out hHeld)
    go_wp2_with fail
    go_ret
    rw [HE.out]
    exact ⟨_, rfl, HO3.out, HB2.out⟩
end Go.Proofs.Ytdkadeihhgjiaaa.Rc
/- stillageref14.Data. -/
set_option linter.unusedVariables false
set_option linter.unusedSimpArgs false
namespace Go.Proofs.Ytdkadeihhgjiaaa.Rc
open Go.RowKit Go.Proofs.YtdkadeihhgjiaaaW.PrintWords Go.Proofs.Ytdkadeihhgjiaaa.B Go.Proofs.Ytdkadeihhgjiaaa.Fx Go.Proofs.Ytdkadeihhgjiaaa.Fr
set_option maxRecDepth 100000 in
set_option maxHeartbeats 3200000 in
theorem refdata_any (X : Array Value) (k : Int) (s : Nat) (d : List UInt8) (nm : ByteArray) (A : Option Addr) (l : List UInt8) (c : Nat) (n z : Int) (w : World) (hX : RecF X k s d nm A l.length c n z) (hr : Rd w A l) (hk : rightE k l.length nm.data.toList n z = 0) :
    Calls Try.prog 59 #[.agg X] w (Made w (dataL k d nm.data.toList l n z)) := by
  have h0 := hX.c0
  have h34 := hX.c34
  have h35 := hX.c35
  have h36 := hX.c36
  have h37 := hX.c37
  have hsz : nm.data.toList.length = nm.size := by simp
  obtain ⟨w1, hw1⟩ : ∃ w1, w.alloc (.cells X 34) = w1 := ⟨_, rfl⟩
  have hg : w1.heap[w.heap.size]? = some (.cells X 34 (0, 0)) := hw1 ▸ blk_new w _
  have hb0 : Below w.heap.size w w1 := hw1 ▸ below_alloc (Below.refl _ _) _
  have HRD := Lib.hid (hX.rd hg)
  have HB0 := Lib.hid hb0
  have HR := Lib.hid (hr.below hb0)
  have HG := Lib.hid hg
  have hdl := hX.dl
  have hcc := fun i => blk_cell HG.out i
  have hzz := blk_lt HG.out
  have hin := right_in hk
  clear hX hg hb0 hr hk
  rcases hin with ⟨rfl, hin⟩ | ⟨rfl, hin⟩ | ⟨rfl, hin⟩ | ⟨rfl, hin⟩ | rfl | ⟨rfl, hin⟩ | ⟨rfl, hin⟩ | ⟨rfl, hin⟩
  · have HE := Lib.hid (show dataL 1 d nm.data.toList l n z = [] ++ d ++ l from rfl)
    have hpl : ([] : List UInt8).length + d.length ≤ 140737488355328 := by simp; omega
    have hpl2 : ([] ++ d).length + l.length ≤ 140737488355328 := by simp; omega
    clear h34 h36 h37 hsz
    go_enter Try.func59, Try.ntmps59
    go_wp2_with (first | (at_builtin; refine appRow (w0 := w1) w1.heap.size rfl (.tmp 38) (.tmp 40) rfl (.slice none 0 0) [] d (some ⟨w.heap.size, 2, none⟩) 32 32 rfl rfl hdl.symm (Own.nil _ _) HRD.out (Below.refl _ _) (Nat.le_refl _) hpl ?_; intro v2 w2 hown hb _ _; have HO2 := Lib.hid hown; have HB2 := Lib.hid hb; have HG2 := Lib.hid (blk_below HG.out hb); have HR2 := Lib.hid (HR.out.below hb); have HRD2 := Lib.hid (HRD.out.below hb); have hcc2 := fun i => blk_cell HG2.out i; clear hown hb hcc) | (at_builtin; refine appRow (w0 := w1) w1.heap.size rfl (.tmp 48) (.tmp 50) rfl v2 ([] ++ d) l A l.length c rfl rfl rfl HO2.out HR2.out HB2.out HB2.out.size hpl2 ?_; intro v3 w3 hown hb _ _; have HO3 := Lib.hid hown; have HB3 := Lib.hid hb; have HG3 := Lib.hid (blk_below HG.out hb); have HR3 := Lib.hid (HR.out.below hb); have HRD3 := Lib.hid (HRD.out.below hb); have hcc3 := fun i => blk_cell HG3.out i; clear hown hb hcc2))
    clear hw1
    go_ret
    rw [HE.out]
    exact ⟨_, rfl, HO3.out.lower HB0.out.size, below_step' HB0.out HB3.out⟩
  · have HE := Lib.hid (show dataL 2 d nm.data.toList l n z = [] ++ d ++ l from rfl)
    have hpl : ([] : List UInt8).length + d.length ≤ 140737488355328 := by simp; omega
    have hpl2 : ([] ++ d).length + l.length ≤ 140737488355328 := by simp; omega
    clear h34 h36 h37 hsz
    go_enter Try.func59, Try.ntmps59
    go_wp2_with (first | (at_builtin; refine appRow (w0 := w1) w1.heap.size rfl (.tmp 38) (.tmp 40) rfl (.slice none 0 0) [] d (some ⟨w.heap.size, 2, none⟩) 32 32 rfl rfl hdl.symm (Own.nil _ _) HRD.out (Below.refl _ _) (Nat.le_refl _) hpl ?_; intro v2 w2 hown hb _ _; have HO2 := Lib.hid hown; have HB2 := Lib.hid hb; have HG2 := Lib.hid (blk_below HG.out hb); have HR2 := Lib.hid (HR.out.below hb); have HRD2 := Lib.hid (HRD.out.below hb); have hcc2 := fun i => blk_cell HG2.out i; clear hown hb hcc) | (at_builtin; refine appRow (w0 := w1) w1.heap.size rfl (.tmp 48) (.tmp 50) rfl v2 ([] ++ d) l A l.length c rfl rfl rfl HO2.out HR2.out HB2.out HB2.out.size hpl2 ?_; intro v3 w3 hown hb _ _; have HO3 := Lib.hid hown; have HB3 := Lib.hid hb; have HG3 := Lib.hid (blk_below HG.out hb); have HR3 := Lib.hid (HR.out.below hb); have HRD3 := Lib.hid (HRD.out.below hb); have hcc3 := fun i => blk_cell HG3.out i; clear hown hb hcc2))
    clear hw1
    go_ret
    rw [HE.out]
    exact ⟨_, rfl, HO3.out.lower HB0.out.size, below_step' HB0.out HB3.out⟩
  · have HE := Lib.hid (show dataL 3 d nm.data.toList l n z = [] ++ [UInt8.ofNat nm.data.toList.length] ++ nm.data.toList ++ d from rfl)
    have htl := tag_len hin
    have hw8 : IntKind.u8.wrap (nm.size : Int) = (nm.size : Int) := IntWalk.u8_in _ (by omega)
    have HP8 := Lib.hid (show (nm.size : Int) = ((UInt8.ofNat nm.data.toList.length).toNat : Int) from by simp; omega)
    have hpl : ([] ++ [UInt8.ofNat nm.data.toList.length] : List UInt8).length + nm.size ≤ 140737488355328 := by simp; omega
    have hpl2 : ([] ++ [UInt8.ofNat nm.data.toList.length] ++ nm.data.toList).length + d.length ≤ 140737488355328 := by simp; omega
    clear h35 h36 h37 hsz
    go_enter Try.func59, Try.ntmps59
    go_wp2_with (first | (at_builtin; refine app1 (w0 := w1) w1.heap.size rfl (.tmp 13) (.tmp 18) rfl (.slice none 0 0) [] (UInt8.ofNat nm.data.toList.length) nm.size rfl rfl HP8.out (Own.nil _ _) (Below.refl _ _) (Nat.le_refl _) (by decide) ?_; intro v2 w2 hown hb _ _; have HO2 := Lib.hid hown; have HB2 := Lib.hid hb; have HG2 := Lib.hid (blk_below HG.out hb); have HR2 := Lib.hid (HR.out.below hb); have HRD2 := Lib.hid (HRD.out.below hb); have hcc2 := fun i => blk_cell HG2.out i; clear hown hb hcc) | (at_builtin; refine appStr (w0 := w1) w1.heap.size rfl (.tmp 20) (.tmp 22) rfl v2 ([] ++ [UInt8.ofNat nm.data.toList.length]) nm rfl rfl HO2.out HB2.out HB2.out.size hpl ?_; intro v3 w3 hown hb _; have HO3 := Lib.hid hown; have HB3 := Lib.hid hb; have HG3 := Lib.hid (blk_below HG.out hb); have HR3 := Lib.hid (HR.out.below hb); have HRD3 := Lib.hid (HRD.out.below hb); have hcc3 := fun i => blk_cell HG3.out i; clear hown hb hcc2) | (at_builtin; refine appRow (w0 := w1) w1.heap.size rfl (.tmp 38) (.tmp 40) rfl v3 ([] ++ [UInt8.ofNat nm.data.toList.length] ++ nm.data.toList) d (some ⟨w.heap.size, 2, none⟩) 32 32 rfl rfl hdl.symm HO3.out HRD3.out HB3.out HB3.out.size hpl2 ?_; intro v4 w4 hown hb _ _; have HO4 := Lib.hid hown; have HB4 := Lib.hid hb; have HG4 := Lib.hid (blk_below HG.out hb); have HR4 := Lib.hid (HR.out.below hb); have HRD4 := Lib.hid (HRD.out.below hb); have hcc4 := fun i => blk_cell HG4.out i; clear hown hb hcc3))
    clear hw1
    go_ret
    rw [HE.out]
    exact ⟨_, rfl, HO4.out.lower HB0.out.size, below_step' HB0.out HB4.out⟩
  · have HE := Lib.hid (show dataL 4 d nm.data.toList l n z = [] ++ [UInt8.ofNat nm.data.toList.length] ++ nm.data.toList from rfl)
    have htl := tag_len hin
    have hw8 : IntKind.u8.wrap (nm.size : Int) = (nm.size : Int) := IntWalk.u8_in _ (by omega)
    have HP8 := Lib.hid (show (nm.size : Int) = ((UInt8.ofNat nm.data.toList.length).toNat : Int) from by simp; omega)
    have hpl : ([] ++ [UInt8.ofNat nm.data.toList.length] : List UInt8).length + nm.size ≤ 140737488355328 := by simp; omega
    clear h35 h36 h37 hsz
    go_enter Try.func59, Try.ntmps59
    go_wp2_with (first | (at_builtin; refine app1 (w0 := w1) w1.heap.size rfl (.tmp 13) (.tmp 18) rfl (.slice none 0 0) [] (UInt8.ofNat nm.data.toList.length) nm.size rfl rfl HP8.out (Own.nil _ _) (Below.refl _ _) (Nat.le_refl _) (by decide) ?_; intro v2 w2 hown hb _ _; have HO2 := Lib.hid hown; have HB2 := Lib.hid hb; have HG2 := Lib.hid (blk_below HG.out hb); have HR2 := Lib.hid (HR.out.below hb); have HRD2 := Lib.hid (HRD.out.below hb); have hcc2 := fun i => blk_cell HG2.out i; clear hown hb hcc) | (at_builtin; refine appStr (w0 := w1) w1.heap.size rfl (.tmp 20) (.tmp 22) rfl v2 ([] ++ [UInt8.ofNat nm.data.toList.length]) nm rfl rfl HO2.out HB2.out HB2.out.size hpl ?_; intro v3 w3 hown hb _; have HO3 := Lib.hid hown; have HB3 := Lib.hid hb; have HG3 := Lib.hid (blk_below HG.out hb); have HR3 := Lib.hid (HR.out.below hb); have HRD3 := Lib.hid (HRD.out.below hb); have hcc3 := fun i => blk_cell HG3.out i; clear hown hb hcc2))
    clear hw1
    go_ret
    rw [HE.out]
    exact ⟨_, rfl, HO3.out.lower HB0.out.size, below_step' HB0.out HB3.out⟩
  · have HE := Lib.hid (show dataL 5 d nm.data.toList l n z = [] ++ d from rfl)
    have hpl : ([] : List UInt8).length + d.length ≤ 140737488355328 := by simp; omega
    clear h34 h35 h36 h37 hsz
    go_enter Try.func59, Try.ntmps59
    go_wp2_with (at_builtin; refine appRow (w0 := w1) w1.heap.size rfl (.tmp 38) (.tmp 40) rfl (.slice none 0 0) [] d (some ⟨w.heap.size, 2, none⟩) 32 32 rfl rfl hdl.symm (Own.nil _ _) HRD.out (Below.refl _ _) (Nat.le_refl _) hpl ?_; intro v2 w2 hown hb _ _; have HO2 := Lib.hid hown; have HB2 := Lib.hid hb; have HG2 := Lib.hid (blk_below HG.out hb); have HR2 := Lib.hid (HR.out.below hb); have HRD2 := Lib.hid (HRD.out.below hb); have hcc2 := fun i => blk_cell HG2.out i; clear hown hb hcc)
    clear hw1
    go_ret
    rw [HE.out]
    exact ⟨_, rfl, HO2.out.lower HB0.out.size, below_step' HB0.out HB2.out⟩
  · obtain ⟨n', rfl⟩ := Int.eq_ofNat_of_zero_le hin.1
    obtain ⟨z', rfl⟩ := Int.eq_ofNat_of_zero_le hin.2.2.1
    have HE := Lib.hid (show dataL 6 d nm.data.toList l n' z' = ([] ++ putB n' 4) ++ putB z' 4 from rfl)
    have hwn : IntKind.u64.wrap (n' : Int) = (n' : Int) := IntWalk.u64_in _ (by omega)
    have hwz : IntKind.u64.wrap (z' : Int) = (z' : Int) := IntWalk.u64_in _ (by omega)
    have HP1 := Lib.hid (fun (W : World) => R01.put_any none 0 [] n' 4 W (by simp) (by omega) (by decide) (by decide) (Rd.nil W))
    have hpl : ([] ++ putB n' 4).length ≤ 140737488355000 := by rw [List.nil_append, putB_length]; decide
    have HP2 := Lib.hid (fun (W : World) (A' : Option Addr) (c' : Nat) (h : Rd W A' ([] ++ putB n' 4)) => R01.put_any A' c' ([] ++ putB n' 4) z' 4 W hpl (by omega) (by decide) (by decide) h)
    clear h34 h35 hsz hpl
    go_enter Try.func59, Try.ntmps59
    go_wp2_with fail
    clear hw1
    have hx0 : Below w1.heap.size w1 w1.drew := below_drew (Below.refl _ _)
    refine wp_region_held_drew (S := fun W => Below w1.heap.size w1 W) (by kernel_rfl) hx0 (fun hHeld => ?_)
    refine wpAnyH_take (i := 0) (v := _) rfl (by kernel_rfl) (by kernel_rfl) (by kernel_rfl) (fun _ _ _ h => h) (Or.inl ⟨by kernel_rfl, fun w _ => by go_simp <;> with_reducible rfl⟩) hHeld ?_
    simp only [List.getElem_toArray, List.getElem_cons_succ, List.getElem_cons_zero, Act.put, List.setIfInBounds_toArray, List.set_cons_zero, List.set_cons_succ]
    refine wpAnyH_take (i := 1) (v := _) rfl (by kernel_rfl) (by kernel_rfl) (by kernel_rfl) (fun _ _ _ h => h) (Or.inl ⟨by kernel_rfl, fun w _ => by go_simp <;> with_reducible rfl⟩) hHeld ?_
    simp only [List.getElem_toArray, List.getElem_cons_succ, List.getElem_cons_zero, Act.put, List.setIfInBounds_toArray, List.set_cons_zero, List.set_cons_succ]
    refine wpAnyH_take (i := 2) (v := .int .i64 n') rfl (by kernel_rfl) (by kernel_rfl) (by kernel_rfl) (fun _ _ _ h => h) (Or.inl ⟨by kernel_rfl, fun W h => by have q0 := blk_cell (blk_below HG.out h) 36; go_simp <;> with_reducible rfl⟩) hHeld ?_
    simp only [List.getElem_toArray, List.getElem_cons_succ, List.getElem_cons_zero, Act.put, List.setIfInBounds_toArray, List.set_cons_zero, List.set_cons_succ]
    refine wpAnyH_take (i := 3) (v := _) rfl (by kernel_rfl) (by kernel_rfl) (by kernel_rfl) (fun _ _ _ h => h) (Or.inl ⟨by kernel_rfl, fun w _ => by go_simp <;> with_reducible rfl⟩) hHeld ?_
    simp only [List.getElem_toArray, List.getElem_cons_succ, List.getElem_cons_zero, Act.put, List.setIfInBounds_toArray, List.set_cons_zero, List.set_cons_succ]
    refine wpAnyH_take (i := 5) (v := _) rfl (by kernel_rfl) (by kernel_rfl) (by kernel_rfl) (fun _ _ _ h => h) (Or.inl ⟨by kernel_rfl, fun w _ => by go_simp <;> with_reducible rfl⟩) hHeld ?_
    simp only [List.getElem_toArray, List.getElem_cons_succ, List.getElem_cons_zero, Act.put, List.setIfInBounds_toArray, List.set_cons_zero, List.set_cons_succ]
    refine wpAnyH_take (i := 6) (v := .int .i64 z') rfl (by kernel_rfl) (by kernel_rfl) (by kernel_rfl) (fun _ _ _ h => h) (Or.inl ⟨by kernel_rfl, fun W h => by have q0 := blk_cell (blk_below HG.out h) 37; go_simp <;> with_reducible rfl⟩) hHeld ?_
    simp only [List.getElem_toArray, List.getElem_cons_succ, List.getElem_cons_zero, Act.put, List.setIfInBounds_toArray, List.set_cons_zero, List.set_cons_succ]
    refine wpAnyH_take (i := 7) (v := _) rfl (by kernel_rfl) (by kernel_rfl) (by kernel_rfl) (fun _ _ _ h => h) (Or.inl ⟨by kernel_rfl, fun w _ => by go_simp <;> with_reducible rfl⟩) hHeld ?_
    simp only [List.getElem_toArray, List.getElem_cons_succ, List.getElem_cons_zero, Act.put, List.setIfInBounds_toArray, List.set_cons_zero, List.set_cons_succ]
    refine wpAnyH_ready (rs := [4]) (by kernel_rfl) (by simp) ?_
    refine AllReadyH.cons rfl (fun K hK => ?_) ?_
    case refine_2 => exact AllReadyH.nil
    go_simp
    refine (HP1.out _).mono ?_
    rintro e w2 ⟨v2, rfl, ho, hb⟩
    obtain ⟨A2, c2, rfl, -, hr2⟩ := ho.reads
    have HR2 := Lib.hid hr2
    refine hK.out _ _ (below_step' hHeld hb) (fun hHeld => ?_)
    clear hK K
    try simp only [List.getElem_toArray, List.getElem_cons_succ, List.getElem_cons_zero, Act.put, List.setIfInBounds_toArray, List.set_cons_zero, List.set_cons_succ]
    clear ho hr2 hb
    refine wpAnyH_ready (rs := [8]) (by kernel_rfl) (by simp) ?_
    refine AllReadyH.cons rfl (fun K hK => ?_) ?_
    case refine_2 => exact AllReadyH.nil
    go_simp
    refine (HP2.out _ _ _ HR2.out).mono ?_
    rintro e w3 ⟨v3, rfl, ho, hb⟩
    have HO3 := Lib.hid (show Own w3 w.heap.size v3 _ from ho.lower (Nat.le_trans HB0.out.size hHeld.size))
    refine hK.out _ _ (below_step' hHeld hb) (fun hHeld => ?_)
    clear hK K
    try simp only [List.getElem_toArray, List.getElem_cons_succ, List.getElem_cons_zero, Act.put, List.setIfInBounds_toArray, List.set_cons_zero, List.set_cons_succ]
    clear ho hb
    refine wpAnyH_take (i := 9) (v := _) rfl (by kernel_rfl) (by kernel_rfl) (by kernel_rfl) (fun _ _ _ h => h) (Or.inl ⟨by kernel_rfl, fun w _ => by go_simp <;> with_reducible rfl⟩) hHeld ?_
    simp only [List.getElem_toArray, List.getElem_cons_succ, List.getElem_cons_zero, Act.put, List.setIfInBounds_toArray, List.set_cons_zero, List.set_cons_succ]
    refine wpAnyH_done (by kernel_rfl) ?_ _
    have HB2 := Lib.hid (below_step' HB0.out hHeld)
    go_wp2_with fail
    go_ret
    rw [HE.out]
    exact ⟨_, rfl, HO3.out, HB2.out⟩
  · obtain ⟨n', rfl⟩ := Int.eq_ofNat_of_zero_le (show 0 ≤ n by omega)
    have HE := Lib.hid (show dataL 7 d nm.data.toList l n' z = magicL ++ putB n' 8 from rfl)
    have hwn : IntKind.u64.wrap (n' : Int) = (n' : Int) := IntWalk.u64_in _ (by omega)
    have HP1 := Lib.hid (fun (W : World) (A' : Option Addr) (c' : Nat) (h : Rd W A' magicL) => (show Calls Try.prog 56 #[.slice A' 8 c', .int .u64 n', .int .i64 8] W (Made W (magicL ++ putB n' 8)) from R01.put_any A' c' magicL n' 8 W (by decide) (by omega) (by decide) (by decide) h))
    have c36 : w1.cell? ⟨w.heap.size, 36, none⟩ = some (.int .i64 n') := by rw [blk_cell HG.out 36]; exact h36
    have HL := Lib.hid (CrcW.rd_mark w1 magicL _ (8, 9) rfl (by decide))
    have HBL := Lib.hid (below_alloc HB0.out (.cells (magicL.map encB).toArray 5 (8, 9)))
    have kc := fun (w : World) (C : Array Value) (n c : Nat) => Lib.run_convert_bytes_const (P := Try.prog) w 32 5 C n c undB Try.underlying5
    clear h34 h35 h37 hsz
    go_enter Try.func59, Try.ntmps59
    go_wp2_with fail
    refine (HP1.out _ _ _ HL.out).mono ?_
    rintro e w2 ⟨v2, rfl, ho, hb⟩
    have HO2 := Lib.hid (show Own w2 w.heap.size v2 _ from ho.lower HBL.out.size)
    have HB2 := Lib.hid (below_step' HBL.out hb)
    clear ho hb
    go_wp2_with fail
    go_ret
    rw [HE.out]
    exact ⟨_, rfl, HO2.out, HB2.out⟩
  · obtain ⟨n', rfl⟩ := Int.eq_ofNat_of_zero_le hin.1
    obtain ⟨z', rfl⟩ := Int.eq_ofNat_of_zero_le hin.2.2.1
    have HE := Lib.hid (show dataL 8 d nm.data.toList l n' z' = ([] ++ putB n' 4) ++ putB z' 4 from rfl)
    have hwn : IntKind.u64.wrap (n' : Int) = (n' : Int) := IntWalk.u64_in _ (by omega)
    have hwz : IntKind.u64.wrap (z' : Int) = (z' : Int) := IntWalk.u64_in _ (by omega)
    have HP1 := Lib.hid (fun (W : World) => R01.put_any none 0 [] n' 4 W (by simp) (by omega) (by decide) (by decide) (Rd.nil W))
    have hpl : ([] ++ putB n' 4).length ≤ 140737488355000 := by rw [List.nil_append, putB_length]; decide
    have HP2 := Lib.hid (fun (W : World) (A' : Option Addr) (c' : Nat) (h : Rd W A' ([] ++ putB n' 4)) => R01.put_any A' c' ([] ++ putB n' 4) z' 4 W hpl (by omega) (by decide) (by decide) h)
    clear h34 h35 hsz hpl
    go_enter Try.func59, Try.ntmps59
    go_wp2_with fail
    clear hw1
    have hx0 : Below w1.heap.size w1 w1.drew := below_drew (Below.refl _ _)
    refine wp_region_held_drew (S := fun W => Below w1.heap.size w1 W) (by kernel_rfl) hx0 (fun hHeld => ?_)
    refine wpAnyH_take (i := 0) (v := _) rfl (by kernel_rfl) (by kernel_rfl) (by kernel_rfl) (fun _ _ _ h => h) (Or.inl ⟨by kernel_rfl, fun w _ => by go_simp <;> with_reducible rfl⟩) hHeld ?_
    simp only [List.getElem_toArray, List.getElem_cons_succ, List.getElem_cons_zero, Act.put, List.setIfInBounds_toArray, List.set_cons_zero, List.set_cons_succ]
    refine wpAnyH_take (i := 1) (v := _) rfl (by kernel_rfl) (by kernel_rfl) (by kernel_rfl) (fun _ _ _ h => h) (Or.inl ⟨by kernel_rfl, fun w _ => by go_simp <;> with_reducible rfl⟩) hHeld ?_
    simp only [List.getElem_toArray, List.getElem_cons_succ, List.getElem_cons_zero, Act.put, List.setIfInBounds_toArray, List.set_cons_zero, List.set_cons_succ]
    refine wpAnyH_take (i := 2) (v := .int .i64 n') rfl (by kernel_rfl) (by kernel_rfl) (by kernel_rfl) (fun _ _ _ h => h) (Or.inl ⟨by kernel_rfl, fun W h => by have q0 := blk_cell (blk_below HG.out h) 36; go_simp <;> with_reducible rfl⟩) hHeld ?_
    simp only [List.getElem_toArray, List.getElem_cons_succ, List.getElem_cons_zero, Act.put, List.setIfInBounds_toArray, List.set_cons_zero, List.set_cons_succ]
    refine wpAnyH_take (i := 3) (v := _) rfl (by kernel_rfl) (by kernel_rfl) (by kernel_rfl) (fun _ _ _ h => h) (Or.inl ⟨by kernel_rfl, fun w _ => by go_simp <;> with_reducible rfl⟩) hHeld ?_
    simp only [List.getElem_toArray, List.getElem_cons_succ, List.getElem_cons_zero, Act.put, List.setIfInBounds_toArray, List.set_cons_zero, List.set_cons_succ]
    refine wpAnyH_take (i := 5) (v := _) rfl (by kernel_rfl) (by kernel_rfl) (by kernel_rfl) (fun _ _ _ h => h) (Or.inl ⟨by kernel_rfl, fun w _ => by go_simp <;> with_reducible rfl⟩) hHeld ?_
    simp only [List.getElem_toArray, List.getElem_cons_succ, List.getElem_cons_zero, Act.put, List.setIfInBounds_toArray, List.set_cons_zero, List.set_cons_succ]
    refine wpAnyH_take (i := 6) (v := .int .i64 z') rfl (by kernel_rfl) (by kernel_rfl) (by kernel_rfl) (fun _ _ _ h => h) (Or.inl ⟨by kernel_rfl, fun W h => by have q0 := blk_cell (blk_below HG.out h) 37; go_simp <;> with_reducible rfl⟩) hHeld ?_
    simp only [List.getElem_toArray, List.getElem_cons_succ, List.getElem_cons_zero, Act.put, List.setIfInBounds_toArray, List.set_cons_zero, List.set_cons_succ]
    refine wpAnyH_take (i := 7) (v := _) rfl (by kernel_rfl) (by kernel_rfl) (by kernel_rfl) (fun _ _ _ h => h) (Or.inl ⟨by kernel_rfl, fun w _ => by go_simp <;> with_reducible rfl⟩) hHeld ?_
    simp only [List.getElem_toArray, List.getElem_cons_succ, List.getElem_cons_zero, Act.put, List.setIfInBounds_toArray, List.set_cons_zero, List.set_cons_succ]
    refine wpAnyH_ready (rs := [4]) (by kernel_rfl) (by simp) ?_
    refine AllReadyH.cons rfl (fun K hK => ?_) ?_
    case refine_2 => exact AllReadyH.nil
    go_simp
    refine (HP1.out _).mono ?_
    rintro e w2 ⟨v2, rfl, ho, hb⟩
    obtain ⟨A2, c2, rfl, -, hr2⟩ := ho.reads
    have HR2 := Lib.hid hr2
    refine hK.out _ _ (below_step' hHeld hb) (fun hHeld => ?_)
    clear hK K
    try simp only [List.getElem_toArray, List.getElem_cons_succ, List.getElem_cons_zero, Act.put, List.setIfInBounds_toArray, List.set_cons_zero, List.set_cons_succ]
    clear ho hr2 hb
    refine wpAnyH_ready (rs := [8]) (by kernel_rfl) (by simp) ?_
    refine AllReadyH.cons rfl (fun K hK => ?_) ?_
    case refine_2 => exact AllReadyH.nil
    go_simp
    refine (HP2.out _ _ _ HR2.out).mono ?_
    rintro e w3 ⟨v3, rfl, ho, hb⟩
    have HO3 := Lib.hid (show Own w3 w.heap.size v3 _ from ho.lower (Nat.le_trans HB0.out.size hHeld.size))
    refine hK.out _ _ (below_step' hHeld hb) (fun hHeld => ?_)
    clear hK K
    try simp only [List.getElem_toArray, List.getElem_cons_succ, List.getElem_cons_zero, Act.put, List.setIfInBounds_toArray, List.set_cons_zero, List.set_cons_succ]
    clear ho hb
    refine wpAnyH_take (i := 9) (v := _) rfl (by kernel_rfl) (by kernel_rfl) (by kernel_rfl) (fun _ _ _ h => h) (Or.inl ⟨by kernel_rfl, fun w _ => by go_simp <;> with_reducible rfl⟩) hHeld ?_
    simp only [List.getElem_toArray, List.getElem_cons_succ, List.getElem_cons_zero, Act.put, List.setIfInBounds_toArray, List.set_cons_zero, List.set_cons_succ]
    refine wpAnyH_done (by kernel_rfl) ?_ _
    have HB2 := Lib.hid (below_step' HB0.out hHeld)
    go_wp2_with fail
    go_ret
    rw [HE.out]
    exact ⟨_, rfl, HO3.out, HB2.out⟩
end Go.Proofs.Ytdkadeihhgjiaaa.Rc
/- record.Make, record.Size; the document's Make, Size. -/
set_option linter.unusedVariables false
set_option linter.unusedSimpArgs false
namespace Go.Proofs.Ytdkadeihhgjiaaa.Rc
open Go.RowKit Go.Proofs.YtdkadeihhgjiaaaW.PrintWords Go.Proofs.Ytdkadeihhgjiaaa.B Go.Proofs.Ytdkadeihhgjiaaa.Fx Go.Proofs.Ytdkadeihhgjiaaa.Fr
/-- a record's frame -/
def makeR (k : Int) (s : Nat) (d nm l : List UInt8) (n z : Int) : List UInt8 := if rightE k l.length nm n z = 0 then makeL k.toNat s (dataL k d nm l n z) else []
/-- the end: bytes of the call's own, and an error's number -/
def MadeE (w : World) (l : List UInt8) (er : Nat) (e : Ending) (w' : World) : Prop := ∃ v, e = .returned (.tuple #[v, .int .i64 er]) ∧ Own w' w.heap.size v l ∧ Below w.heap.size w w'
theorem kind_in {k : Int} {m : Nat} {nm : List UInt8} {n z : Int} (h : rightE k m nm n z = 0) : 1 ≤ k ∧ k ≤ 8 := by
  rcases right_in h with ⟨rfl, q⟩ | ⟨rfl, q⟩ | ⟨rfl, q⟩ | ⟨rfl, q⟩ | rfl | ⟨rfl, q⟩ | ⟨rfl, q⟩ | ⟨rfl, q⟩ <;> decide
theorem makeR_len {k : Int} {s : Nat} {d nm l : List UInt8} {n z : Int} (hd : d.length = 32) : (makeR k s d nm l n z).length ≤ 65557 := by
  unfold makeR
  split
  · rename_i h
    rw [makeL_len]; have := data_len hd h; omega
  · simp
theorem RecF.info {X : Array Value} {k : Int} {s : Nat} {d : List UInt8} {nm : ByteArray} {A : Option Addr} {m c : Nat} {n z : Int} (h : RecF X k s d nm A m c n z) : (Try.prog.info? 34).map (·.size) = some X.size := by rw [h.size]; exact infoRec
theorem RecF.infoL {X : Array Value} {k : Int} {s : Nat} {d : List UInt8} {nm : ByteArray} {A : Option Addr} {m c : Nat} {n z : Int} (h : RecF X k s d nm A m c n z) : (Try.prog.info? 34).map (·.size) = some X.toList.length := by rw [Array.length_toList]; exact h.info
set_option maxRecDepth 100000 in
set_option maxHeartbeats 3200000 in
theorem make_any (X : Array Value) (k : Int) (s : Nat) (d : List UInt8) (nm : ByteArray) (A : Option Addr) (l : List UInt8) (c : Nat) (n z : Int) (w : World) (hX : RecF X k s d nm A l.length c n z) (hr : Rd w A l) (hs : s < 18446744073709551616) (hnm : nm.size ≤ 140737488355328) :
    Calls Try.prog 37 #[.agg X] w (MadeE w (makeR k s d nm.data.toList l n z) (rightE k l.length nm.data.toList n z)) := by
  have h0 := hX.c0
  have h1 := hX.c1
  obtain ⟨w1, hw1⟩ : ∃ w1, w.alloc (.cells X 34) = w1 := ⟨_, rfl⟩
  have hg : w1.heap[w.heap.size]? = some (.cells X 34 (0, 0)) := hw1 ▸ blk_new w _
  have hb0 : Below w.heap.size w w1 := hw1 ▸ below_alloc (Below.refl _ _) _
  have HB0 := Lib.hid hb0
  have HR := Lib.hid (hr.below hb0)
  have HG := Lib.hid hg
  have HI := Lib.hid hX.info
  have HIL := Lib.hid hX.infoL
  have hln := hr.len
  have HRT := Lib.hid (fun (W : World) => right_any X k s d nm A l.length c n z W hX hln hnm)
  have HDT := Lib.hid (fun (W : World) (h : Rd W A l) (he : rightE k l.length nm.data.toList n z = 0) => data_any X k s d nm A l c n z W hX h he)
  have HDL := Lib.hid (fun (he : rightE k l.length nm.data.toList n z = 0) => data_len (d := d) hX.dl he)
  have HKI := Lib.hid (fun (he : rightE k l.length nm.data.toList n z = 0) => kind_in he)
  have HME := Lib.hid (show ∀ er, rightE k l.length nm.data.toList n z = er → makeR k s d nm.data.toList l n z = if er = 0 then makeL k.toNat s (dataL k d nm.data.toList l n z) else [] from fun er he => by unfold makeR; rw [he])
  clear hX hg hb0 hr hln hnm
  generalize her : rightE k l.length nm.data.toList n z = er at *
  have HER := Lib.hid her
  clear her
  by_cases he0 : er = 0
  · subst he0
    have HM := Lib.hid (show makeR k s d nm.data.toList l n z = makeL (kindN k) s (dataL k d nm.data.toList l n z) from by rw [HME.out 0 rfl, if_pos rfl, kindN_of (by have := HKI.out rfl; omega) (by have := HKI.out rfl; omega)])
    have hdl := HDL.out rfl
    have hki := HKI.out rfl
    have HFM := Lib.hid (fun (W : World) (A' : Option Addr) (c' : Nat) (h : Rd W A' (dataL k d nm.data.toList l n z)) => Fr.make_any k s A' c' (dataL k d nm.data.toList l n z) W (by omega) hs (by omega) h)
    have HDT2 := Lib.hid (fun (W : World) (h : Rd W A l) => HDT.out W h rfl)
    have hcc := fun i => blk_cell HG.out i
    clear HDT HDL HKI HME
    generalize dataL k d nm.data.toList l n z = y at *
    go_enter Try.func37, Try.ntmps37
    go_wp2_with (refine wpList_load_row rfl 34 _ rfl w.heap.size rfl 34 X (0, 0) _ HG.out Try.underlying34 rfl HI.out ?_)
    refine (HRT.out _).mono ?_
    rintro e w2 ⟨rfl, hb⟩
    have HB2 := Lib.hid (below_step' HB0.out hb)
    have HG2 := Lib.hid (blk_below HG.out hb)
    have HR2 := Lib.hid (HR.out.below hb)
    clear hb hcc hw1
    go_wp2_with fail
    have hx0 : Below w2.heap.size w2 w2.drew := below_drew (Below.refl _ _)
    refine wp_region_held_drew (S := fun W => Below w2.heap.size w2 W) (by kernel_rfl) hx0 (fun hHeld => ?_)
    refine wpAnyH_take (i := 0) (v := _) rfl (by kernel_rfl) (by kernel_rfl) (by kernel_rfl) (fun _ _ _ h => h) (Or.inl ⟨by kernel_rfl, fun w _ => by go_simp <;> with_reducible rfl⟩) hHeld ?_
    simp only [List.getElem_toArray, List.getElem_cons_succ, List.getElem_cons_zero, Act.put, List.setIfInBounds_toArray, List.set_cons_zero, List.set_cons_succ]
    refine wpAnyH_take (i := 1) (v := .int .i64 k) rfl (by kernel_rfl) (by kernel_rfl) (by kernel_rfl) (fun _ _ _ h => h) (Or.inl ⟨by kernel_rfl, fun W h => by have q0 := blk_cell (blk_below HG2.out h) 0; go_simp <;> with_reducible rfl⟩) hHeld ?_
    simp only [List.getElem_toArray, List.getElem_cons_succ, List.getElem_cons_zero, Act.put, List.setIfInBounds_toArray, List.set_cons_zero, List.set_cons_succ]
    refine wpAnyH_take (i := 2) (v := _) rfl (by kernel_rfl) (by kernel_rfl) (by kernel_rfl) (fun _ _ _ h => h) (Or.inl ⟨by kernel_rfl, fun w _ => by go_simp <;> with_reducible rfl⟩) hHeld ?_
    simp only [List.getElem_toArray, List.getElem_cons_succ, List.getElem_cons_zero, Act.put, List.setIfInBounds_toArray, List.set_cons_zero, List.set_cons_succ]
    refine wpAnyH_take (i := 3) (v := .int .u64 s) rfl (by kernel_rfl) (by kernel_rfl) (by kernel_rfl) (fun _ _ _ h => h) (Or.inl ⟨by kernel_rfl, fun W h => by have q0 := blk_cell (blk_below HG2.out h) 1; go_simp <;> with_reducible rfl⟩) hHeld ?_
    simp only [List.getElem_toArray, List.getElem_cons_succ, List.getElem_cons_zero, Act.put, List.setIfInBounds_toArray, List.set_cons_zero, List.set_cons_succ]
    refine wpAnyH_take (i := 4) (v := .agg X.toList.toArray) rfl (by kernel_rfl) (by kernel_rfl) (by kernel_rfl) (fun _ _ _ h => h) (yieldsIf_load_mid (by kernel_rfl) 34 _ rfl _ 0 rfl X.toList _ (fun W h => range_row (blk_below HG2.out h)) Try.underlying34 rfl HIL.out) hHeld ?_
    simp only [List.getElem_toArray, List.getElem_cons_succ, List.getElem_cons_zero, Act.put, List.setIfInBounds_toArray, List.set_cons_zero, List.set_cons_succ]
    refine wpAnyH_ready (rs := [5]) (by kernel_rfl) (by simp) ?_
    refine AllReadyH.cons rfl (fun K hK => ?_) ?_
    case refine_2 => exact AllReadyH.nil
    go_simp
    refine (HDT2.out _ (HR2.out.below hHeld)).mono ?_
    rintro e w3 ⟨v3, rfl, ho, hb⟩
    obtain ⟨A3, c3, rfl, -, hr3⟩ := ho.reads
    have HR3 := Lib.hid hr3
    refine hK.out _ _ (below_step' hHeld hb) (fun hHeld => ?_)
    clear hK K
    try simp only [List.getElem_toArray, List.getElem_cons_succ, List.getElem_cons_zero, Act.put, List.setIfInBounds_toArray, List.set_cons_zero, List.set_cons_succ]
    clear ho hr3 hb
    refine wpAnyH_ready (rs := [6]) (by kernel_rfl) (by simp) ?_
    refine AllReadyH.cons rfl (fun K hK => ?_) ?_
    case refine_2 => exact AllReadyH.nil
    go_simp
    refine (HFM.out _ _ _ HR3.out).mono ?_
    rintro e w4 ⟨v4, rfl, ho, hb⟩
    have HO4 := Lib.hid (show Own w4 w.heap.size v4 _ from ho.lower (Nat.le_trans HB2.out.size hHeld.size))
    refine hK.out _ _ (below_step' hHeld hb) (fun hHeld => ?_)
    clear hK K
    try simp only [List.getElem_toArray, List.getElem_cons_succ, List.getElem_cons_zero, Act.put, List.setIfInBounds_toArray, List.set_cons_zero, List.set_cons_succ]
    clear ho hb
    refine wpAnyH_take (i := 7) (v := _) rfl (by kernel_rfl) (by kernel_rfl) (by kernel_rfl) (fun _ _ _ h => h) (Or.inl ⟨by kernel_rfl, fun w _ => by go_simp <;> with_reducible rfl⟩) hHeld ?_
    simp only [List.getElem_toArray, List.getElem_cons_succ, List.getElem_cons_zero, Act.put, List.setIfInBounds_toArray, List.set_cons_zero, List.set_cons_succ]
    refine wpAnyH_take (i := 8) (v := _) rfl (by kernel_rfl) (by kernel_rfl) (by kernel_rfl) (fun _ _ _ h => h) (Or.inl ⟨by kernel_rfl, fun w _ => by go_simp <;> with_reducible rfl⟩) hHeld ?_
    simp only [List.getElem_toArray, List.getElem_cons_succ, List.getElem_cons_zero, Act.put, List.setIfInBounds_toArray, List.set_cons_zero, List.set_cons_succ]
    refine wpAnyH_done (by kernel_rfl) ?_ _
    have HB4 := Lib.hid (below_step' HB2.out hHeld)
    go_wp2_with fail
    go_ret2
    rw [HM.out]
    exact ⟨_, rfl, HO4.out, HB4.out⟩
  · have HM := Lib.hid (show makeR k s d nm.data.toList l n z = [] from by rw [HME.out er rfl, if_neg he0])
    have hne : ((er : Int) != 0) = true := by rw [bne_iff_ne]; omega
    have hcc := fun i => blk_cell HG.out i
    clear HDT HDL HKI HME he0
    go_enter Try.func37, Try.ntmps37
    go_wp2_with (refine wpList_load_row rfl 34 _ rfl w.heap.size rfl 34 X (0, 0) _ HG.out Try.underlying34 rfl HI.out ?_)
    refine (HRT.out _).mono ?_
    rintro e w2 ⟨rfl, hb⟩
    have HB2 := Lib.hid (below_step' HB0.out hb)
    have HG2 := Lib.hid (blk_below HG.out hb)
    clear hb hcc hw1
    go_wp2_with fail
    go_ret2
    rw [HM.out]
    exact ⟨_, rfl, Own.nil _ _, HB2.out⟩
set_option maxRecDepth 100000 in
set_option maxHeartbeats 3200000 in
theorem refmake_any (X : Array Value) (k : Int) (s : Nat) (d : List UInt8) (nm : ByteArray) (A : Option Addr) (l : List UInt8) (c : Nat) (n z : Int) (w : World) (hX : RecF X k s d nm A l.length c n z) (hr : Rd w A l) (hs : s < 18446744073709551616) (hnm : nm.size ≤ 140737488355328) :
    Calls Try.prog 38 #[.agg X] w (MadeE w (makeR k s d nm.data.toList l n z) (rightE k l.length nm.data.toList n z)) := by
  have h0 := hX.c0
  have h1 := hX.c1
  obtain ⟨w1, hw1⟩ : ∃ w1, w.alloc (.cells X 34) = w1 := ⟨_, rfl⟩
  have hg : w1.heap[w.heap.size]? = some (.cells X 34 (0, 0)) := hw1 ▸ blk_new w _
  have hb0 : Below w.heap.size w w1 := hw1 ▸ below_alloc (Below.refl _ _) _
  have HB0 := Lib.hid hb0
  have HR := Lib.hid (hr.below hb0)
  have HG := Lib.hid hg
  have HI := Lib.hid hX.info
  have HIL := Lib.hid hX.infoL
  have hln := hr.len
  have HRT := Lib.hid (fun (W : World) => refright_any X k s d nm A l.length c n z W hX hln hnm)
  have HDT := Lib.hid (fun (W : World) (h : Rd W A l) (he : rightE k l.length nm.data.toList n z = 0) => refdata_any X k s d nm A l c n z W hX h he)
  have HDL := Lib.hid (fun (he : rightE k l.length nm.data.toList n z = 0) => data_len (d := d) hX.dl he)
  have HKI := Lib.hid (fun (he : rightE k l.length nm.data.toList n z = 0) => kind_in he)
  have HME := Lib.hid (show ∀ er, rightE k l.length nm.data.toList n z = er → makeR k s d nm.data.toList l n z = if er = 0 then makeL k.toNat s (dataL k d nm.data.toList l n z) else [] from fun er he => by unfold makeR; rw [he])
  clear hX hg hb0 hr hln hnm
  generalize her : rightE k l.length nm.data.toList n z = er at *
  have HER := Lib.hid her
  clear her
  by_cases he0 : er = 0
  · subst he0
    have HM := Lib.hid (show makeR k s d nm.data.toList l n z = makeL (kindN k) s (dataL k d nm.data.toList l n z) from by rw [HME.out 0 rfl, if_pos rfl, kindN_of (by have := HKI.out rfl; omega) (by have := HKI.out rfl; omega)])
    have hdl := HDL.out rfl
    have hki := HKI.out rfl
    have HFM := Lib.hid (fun (W : World) (A' : Option Addr) (c' : Nat) (h : Rd W A' (dataL k d nm.data.toList l n z)) => Fr.refmake_any k s A' c' (dataL k d nm.data.toList l n z) W (by omega) hs (by omega) h)
    have HDT2 := Lib.hid (fun (W : World) (h : Rd W A l) => HDT.out W h rfl)
    have hcc := fun i => blk_cell HG.out i
    clear HDT HDL HKI HME
    generalize dataL k d nm.data.toList l n z = y at *
    go_enter Try.func38, Try.ntmps38
    go_wp2_with (refine wpList_load_row rfl 34 _ rfl w.heap.size rfl 34 X (0, 0) _ HG.out Try.underlying34 rfl HI.out ?_)
    refine (HRT.out _).mono ?_
    rintro e w2 ⟨rfl, hb⟩
    have HB2 := Lib.hid (below_step' HB0.out hb)
    have HG2 := Lib.hid (blk_below HG.out hb)
    have HR2 := Lib.hid (HR.out.below hb)
    clear hb hcc hw1
    go_wp2_with fail
    have hx0 : Below w2.heap.size w2 w2.drew := below_drew (Below.refl _ _)
    refine wp_region_held_drew (S := fun W => Below w2.heap.size w2 W) (by kernel_rfl) hx0 (fun hHeld => ?_)
    refine wpAnyH_take (i := 0) (v := _) rfl (by kernel_rfl) (by kernel_rfl) (by kernel_rfl) (fun _ _ _ h => h) (Or.inl ⟨by kernel_rfl, fun w _ => by go_simp <;> with_reducible rfl⟩) hHeld ?_
    simp only [List.getElem_toArray, List.getElem_cons_succ, List.getElem_cons_zero, Act.put, List.setIfInBounds_toArray, List.set_cons_zero, List.set_cons_succ]
    refine wpAnyH_take (i := 1) (v := .int .i64 k) rfl (by kernel_rfl) (by kernel_rfl) (by kernel_rfl) (fun _ _ _ h => h) (Or.inl ⟨by kernel_rfl, fun W h => by have q0 := blk_cell (blk_below HG2.out h) 0; go_simp <;> with_reducible rfl⟩) hHeld ?_
    simp only [List.getElem_toArray, List.getElem_cons_succ, List.getElem_cons_zero, Act.put, List.setIfInBounds_toArray, List.set_cons_zero, List.set_cons_succ]
    refine wpAnyH_take (i := 2) (v := _) rfl (by kernel_rfl) (by kernel_rfl) (by kernel_rfl) (fun _ _ _ h => h) (Or.inl ⟨by kernel_rfl, fun w _ => by go_simp <;> with_reducible rfl⟩) hHeld ?_
    simp only [List.getElem_toArray, List.getElem_cons_succ, List.getElem_cons_zero, Act.put, List.setIfInBounds_toArray, List.set_cons_zero, List.set_cons_succ]
    refine wpAnyH_take (i := 3) (v := .int .u64 s) rfl (by kernel_rfl) (by kernel_rfl) (by kernel_rfl) (fun _ _ _ h => h) (Or.inl ⟨by kernel_rfl, fun W h => by have q0 := blk_cell (blk_below HG2.out h) 1; go_simp <;> with_reducible rfl⟩) hHeld ?_
    simp only [List.getElem_toArray, List.getElem_cons_succ, List.getElem_cons_zero, Act.put, List.setIfInBounds_toArray, List.set_cons_zero, List.set_cons_succ]
    refine wpAnyH_take (i := 4) (v := .agg X.toList.toArray) rfl (by kernel_rfl) (by kernel_rfl) (by kernel_rfl) (fun _ _ _ h => h) (yieldsIf_load_mid (by kernel_rfl) 34 _ rfl _ 0 rfl X.toList _ (fun W h => range_row (blk_below HG2.out h)) Try.underlying34 rfl HIL.out) hHeld ?_
    simp only [List.getElem_toArray, List.getElem_cons_succ, List.getElem_cons_zero, Act.put, List.setIfInBounds_toArray, List.set_cons_zero, List.set_cons_succ]
    refine wpAnyH_ready (rs := [5]) (by kernel_rfl) (by simp) ?_
    refine AllReadyH.cons rfl (fun K hK => ?_) ?_
    case refine_2 => exact AllReadyH.nil
    go_simp
    refine (HDT2.out _ (HR2.out.below hHeld)).mono ?_
    rintro e w3 ⟨v3, rfl, ho, hb⟩
    obtain ⟨A3, c3, rfl, -, hr3⟩ := ho.reads
    have HR3 := Lib.hid hr3
    refine hK.out _ _ (below_step' hHeld hb) (fun hHeld => ?_)
    clear hK K
    try simp only [List.getElem_toArray, List.getElem_cons_succ, List.getElem_cons_zero, Act.put, List.setIfInBounds_toArray, List.set_cons_zero, List.set_cons_succ]
    clear ho hr3 hb
    refine wpAnyH_ready (rs := [6]) (by kernel_rfl) (by simp) ?_
    refine AllReadyH.cons rfl (fun K hK => ?_) ?_
    case refine_2 => exact AllReadyH.nil
    go_simp
    refine (HFM.out _ _ _ HR3.out).mono ?_
    rintro e w4 ⟨v4, rfl, ho, hb⟩
    have HO4 := Lib.hid (show Own w4 w.heap.size v4 _ from ho.lower (Nat.le_trans HB2.out.size hHeld.size))
    refine hK.out _ _ (below_step' hHeld hb) (fun hHeld => ?_)
    clear hK K
    try simp only [List.getElem_toArray, List.getElem_cons_succ, List.getElem_cons_zero, Act.put, List.setIfInBounds_toArray, List.set_cons_zero, List.set_cons_succ]
    clear ho hb
    refine wpAnyH_take (i := 7) (v := _) rfl (by kernel_rfl) (by kernel_rfl) (by kernel_rfl) (fun _ _ _ h => h) (Or.inl ⟨by kernel_rfl, fun w _ => by go_simp <;> with_reducible rfl⟩) hHeld ?_
    simp only [List.getElem_toArray, List.getElem_cons_succ, List.getElem_cons_zero, Act.put, List.setIfInBounds_toArray, List.set_cons_zero, List.set_cons_succ]
    refine wpAnyH_take (i := 8) (v := _) rfl (by kernel_rfl) (by kernel_rfl) (by kernel_rfl) (fun _ _ _ h => h) (Or.inl ⟨by kernel_rfl, fun w _ => by go_simp <;> with_reducible rfl⟩) hHeld ?_
    simp only [List.getElem_toArray, List.getElem_cons_succ, List.getElem_cons_zero, Act.put, List.setIfInBounds_toArray, List.set_cons_zero, List.set_cons_succ]
    refine wpAnyH_done (by kernel_rfl) ?_ _
    have HB4 := Lib.hid (below_step' HB2.out hHeld)
    go_wp2_with fail
    go_ret2
    rw [HM.out]
    exact ⟨_, rfl, HO4.out, HB4.out⟩
  · have HM := Lib.hid (show makeR k s d nm.data.toList l n z = [] from by rw [HME.out er rfl, if_neg he0])
    have hne : ((er : Int) != 0) = true := by rw [bne_iff_ne]; omega
    have hcc := fun i => blk_cell HG.out i
    clear HDT HDL HKI HME he0
    go_enter Try.func38, Try.ntmps38
    go_wp2_with (refine wpList_load_row rfl 34 _ rfl w.heap.size rfl 34 X (0, 0) _ HG.out Try.underlying34 rfl HI.out ?_)
    refine (HRT.out _).mono ?_
    rintro e w2 ⟨rfl, hb⟩
    have HB2 := Lib.hid (below_step' HB0.out hb)
    have HG2 := Lib.hid (blk_below HG.out hb)
    clear hb hcc hw1
    go_wp2_with (refine wpList_load_row rfl 34 _ rfl w.heap.size rfl 34 X (0, 0) _ HG2.out Try.underlying34 rfl HI.out ?_)
    refine (HRT.out _).mono ?_
    rintro e w3 ⟨rfl, hb⟩
    have HB3 := Lib.hid (below_step' HB2.out hb)
    clear hb
    go_wp2_with fail
    go_ret2
    rw [HM.out]
    exact ⟨_, rfl, Own.nil _ _, HB3.out⟩
set_option maxRecDepth 100000 in
set_option maxHeartbeats 3200000 in
theorem size_any (X : Array Value) (k : Int) (s : Nat) (d : List UInt8) (nm : ByteArray) (A : Option Addr) (l : List UInt8) (c : Nat) (n z : Int) (w : World) (hX : RecF X k s d nm A l.length c n z) (hr : Rd w A l) (hs : s < 18446744073709551616) (hnm : nm.size ≤ 140737488355328) :
    Calls Try.prog 21 #[.agg X] w (Kept (.int .i64 (makeR k s d nm.data.toList l n z).length) w) := by
  have h0 := hX.c0
  have h1 := hX.c1
  obtain ⟨w1, hw1⟩ : ∃ w1, w.alloc (.cells X 34) = w1 := ⟨_, rfl⟩
  have hg : w1.heap[w.heap.size]? = some (.cells X 34 (0, 0)) := hw1 ▸ blk_new w _
  have hb0 : Below w.heap.size w w1 := hw1 ▸ below_alloc (Below.refl _ _) _
  have HB0 := Lib.hid hb0
  have HR := Lib.hid (hr.below hb0)
  have HG := Lib.hid hg
  have HI := Lib.hid hX.info
  have HIL := Lib.hid hX.infoL
  have hln := hr.len
  have HRT := Lib.hid (fun (W : World) => right_any X k s d nm A l.length c n z W hX hln hnm)
  have HDT := Lib.hid (fun (W : World) (h : Rd W A l) (he : rightE k l.length nm.data.toList n z = 0) => data_any X k s d nm A l c n z W hX h he)
  have HDL := Lib.hid (fun (he : rightE k l.length nm.data.toList n z = 0) => data_len (d := d) hX.dl he)
  have HKI := Lib.hid (fun (he : rightE k l.length nm.data.toList n z = 0) => kind_in he)
  have HME := Lib.hid (show ∀ er, rightE k l.length nm.data.toList n z = er → makeR k s d nm.data.toList l n z = if er = 0 then makeL k.toNat s (dataL k d nm.data.toList l n z) else [] from fun er he => by unfold makeR; rw [he])
  clear hX hg hb0 hr hln hnm
  generalize her : rightE k l.length nm.data.toList n z = er at *
  have HER := Lib.hid her
  clear her
  by_cases he0 : er = 0
  · subst he0
    have HM := Lib.hid (show ((makeR k s d nm.data.toList l n z).length : Int) = ((dataL k d nm.data.toList l n z).length : Int) + 21 from by rw [HME.out 0 rfl, if_pos rfl, makeL_len]; omega)
    have hdl := HDL.out rfl
    have HFM := Lib.hid (fun (W : World) => Fr.size_any ((dataL k d nm.data.toList l n z).length : Int) W (by omega) (by omega))
    have HDT2 := Lib.hid (fun (W : World) (h : Rd W A l) => HDT.out W h rfl)
    have hcc := fun i => blk_cell HG.out i
    clear HDT HDL HKI HME
    generalize dataL k d nm.data.toList l n z = y at *
    go_enter Try.func21, Try.ntmps21
    go_wp2_with (refine wpList_load_row rfl 34 _ rfl w.heap.size rfl 34 X (0, 0) _ HG.out Try.underlying34 rfl HI.out ?_)
    refine (HRT.out _).mono ?_
    rintro e w2 ⟨rfl, hb⟩
    have HB2 := Lib.hid (below_step' HB0.out hb)
    have HG2 := Lib.hid (blk_below HG.out hb)
    have HR2 := Lib.hid (HR.out.below hb)
    clear hb hcc hw1
    go_wp2_with (refine wpList_load_row rfl 34 _ rfl w.heap.size rfl 34 X (0, 0) _ HG2.out Try.underlying34 rfl HI.out ?_)
    refine (HDT2.out _ HR2.out).mono ?_
    rintro e w3 ⟨v3, rfl, ho, hb⟩
    obtain ⟨A3, c3, rfl, -, -⟩ := ho.reads
    have HB3 := Lib.hid (below_step' HB2.out hb)
    clear ho hb
    go_wp2_with fail
    refine (HFM.out _).mono ?_
    rintro e w4 ⟨rfl, hw4⟩
    rw [← hw4] at HB3
    clear hw4
    go_wp2_with fail
    go_ret
    rw [HM.out]
    exact ⟨rfl, HB3.out⟩
  · have HM := Lib.hid (show ((makeR k s d nm.data.toList l n z).length : Int) = 0 from by rw [HME.out er rfl, if_neg he0]; rfl)
    have hne : ((er : Int) != 0) = true := by rw [bne_iff_ne]; omega
    have hcc := fun i => blk_cell HG.out i
    clear HDT HDL HKI HME he0
    go_enter Try.func21, Try.ntmps21
    go_wp2_with (refine wpList_load_row rfl 34 _ rfl w.heap.size rfl 34 X (0, 0) _ HG.out Try.underlying34 rfl HI.out ?_)
    refine (HRT.out _).mono ?_
    rintro e w2 ⟨rfl, hb⟩
    have HB2 := Lib.hid (below_step' HB0.out hb)
    clear hb hcc hw1
    go_wp2_with fail
    go_ret
    rw [HM.out]
    exact ⟨rfl, HB2.out⟩
set_option maxRecDepth 100000 in
set_option maxHeartbeats 3200000 in
theorem refsize_any (X : Array Value) (k : Int) (s : Nat) (d : List UInt8) (nm : ByteArray) (A : Option Addr) (l : List UInt8) (c : Nat) (n z : Int) (w : World) (hX : RecF X k s d nm A l.length c n z) (hr : Rd w A l) (hs : s < 18446744073709551616) (hnm : nm.size ≤ 140737488355328) :
    Calls Try.prog 31 #[.agg X] w (Kept (.int .i64 (makeR k s d nm.data.toList l n z).length) w) := by
  obtain ⟨w1, hw1⟩ : ∃ w1, w.alloc (.cells X 34) = w1 := ⟨_, rfl⟩
  have hg : w1.heap[w.heap.size]? = some (.cells X 34 (0, 0)) := hw1 ▸ blk_new w _
  have hb0 : Below w.heap.size w w1 := hw1 ▸ below_alloc (Below.refl _ _) _
  have HB0 := Lib.hid hb0
  have HG := Lib.hid hg
  have HI := Lib.hid hX.info
  have HMK := Lib.hid (refmake_any X k s d nm A l c n z w1 hX (hr.below hb0) hs hnm)
  clear hX hg hb0 hr hs hnm
  generalize makeR k s d nm.data.toList l n z = y at *
  generalize rightE k l.length nm.data.toList n z = er at *
  go_enter Try.func31, Try.ntmps31
  go_wp2_with (refine wpList_load_row rfl 34 _ rfl w.heap.size rfl 34 X (0, 0) _ HG.out Try.underlying34 rfl HI.out ?_)
  refine HMK.out.mono ?_
  rintro e w2 ⟨v2, rfl, ho, hb⟩
  obtain ⟨A3, c3, rfl, -, -⟩ := ho.reads
  have HB2 := Lib.hid (below_step' HB0.out hb)
  clear ho hb
  go_wp2_with fail
  go_ret
  exact ⟨rfl, HB2.out⟩
end Go.Proofs.Ytdkadeihhgjiaaa.Rc
/- records: fields that are set; what data tells. -/
set_option linter.unusedVariables false
set_option linter.unusedSimpArgs false
namespace Go.Proofs.Ytdkadeihhgjiaaa.Rc
open Go.RowKit Go.Proofs.YtdkadeihhgjiaaaW.PrintWords Go.Proofs.Ytdkadeihhgjiaaa.B Go.Proofs.Ytdkadeihhgjiaaa.Fx Go.Proofs.Ytdkadeihhgjiaaa.Fr
section
variable {P : Program} {ops : Array Oper} {rest : List Oper} {o : Oper} {a : Act} {Q : Exit → Act → World → Prop} {w : World}
theorem wpList_allocZ (h1 : o.guard = none) (T : TypeId) (ho : o.op = .alloc T) (zs : Array Value) (hz : ∀ w, (zeroValue T).run P w = .ok (.agg zs) w)
    (h : wpList P ops Q rest (a.put o.dst (.pointer (some ⟨w.heap.size, 0, none⟩))) (w.alloc (.cells zs T))) : wpList P ops Q (o :: rest) a w :=
  wpList_plain h1 fun K hK => wp_allocZ T ho zs hz (hK _ _ h)
end
/-- one block is turned -/
structure Upd (g : Nat) (T : TypeId) (Y : Array Value) (w w' : World) : Prop where
  at_ : w'.heap[g]? = some (.cells Y T (0, 0))
  off : ∀ k, k ≠ g → w'.heap[k]? = w.heap[k]?
  bel : Below g w w'
theorem Upd.to {g : Nat} {T : TypeId} {Y : Array Value} {w0 w w' : World} (h : Upd g T Y w w') {B : Nat} (hB : B ≤ g) (hb : Below B w0 w) : Below B w0 w' := hb.trans (h.bel.mono hB)
theorem Upd.drew {g : Nat} {T : TypeId} {Y : Array Value} {w w' : World} (h : Upd g T Y w w') : Upd g T Y w w'.drew := ⟨h.at_, h.off, below_drew h.bel⟩
theorem upd_cell {g : Nat} {T : TypeId} {X : Array Value} {w : World} (hg : w.heap[g]? = some (.cells X T (0, 0))) (j : Nat) (v : Value) : Upd g T (X.setIfInBounds j v) w (w.setCell ⟨g, j, none⟩ v) :=
  ⟨blk_set hg j v, fun k hk => Below.heap_setCell w ⟨g, j, none⟩ v k hk, (Below.refl g w).setCell (Nat.le_refl g) _⟩
theorem Buf.upd {W W' : World} {base g : Nat} {T : TypeId} {X Y : Array Value} {v : Value} {l : List UInt8} (h : Buf W base v l) (hu : Upd g T Y W W') (hg : W.heap[g]? = some (.cells X T (0, 0))) (hT : 5 ≠ T) : Buf W' base v l :=
  h.move (fun k cells fr hk => hu.off k (by
    rintro rfl
    rw [hg] at hk
    injection hk with hk
    injection hk with _ hk
    exact hT hk.symm))
theorem Buf.nil (W : World) (base : Nat) : Buf W base (.slice none 0 0) [] := .inl ⟨rfl, rfl⟩
theorem upd_row {g : Nat} {T : TypeId} {X : Array Value} {w : World} (hg : w.heap[g]? = some (.cells X T (0, 0))) (Y : Array Value) : Upd g T Y w (w.setRow g Y) :=
  ⟨setRow_heap w g _ Y _ _ hg, fun k hk => setRow_other w g k Y hk, below_setRow (Below.refl _ _) (Nat.le_refl _) Y⟩
section
variable {P : Program} {ops : Array Oper} {rest : List Oper} {o : Oper} {a : Act} {Q : Exit → Act → World → Prop} {w : World}
theorem wpList_copyU (hgd : o.guard = none) (d s : Operand) (dT sT : TypeId)
    (ho : o.op = .call { callee := .builtin .copy, args := #[d, s], argTypes := #[dT, sT] }) (elem : TypeId) (hu : P.underlying dT = some (.slice elem)) (hsz : (P.info? elem).map (·.size) = some 1)
    (dp sp : Option Addr) (dLen dCap sLen sCap : Nat) (hd : a.eval d = .slice dp dLen dCap) (hs : a.eval s = .slice sp sLen sCap)
    (g off : Nat) (cur : List Value) (t : TypeId) (hg : w.heap[g]? = some (.cells cur.toArray t (0, 0))) (cs : List Value) (hn : cs.length = Nat.min sLen dLen)
    (hpos : 0 < cs.length → dp = some ⟨g, off, none⟩ ∧ ∃ ad, sp = some ad ∧ ∀ j v, cs[j]? = some v → w.cell? (ad.add j) = some v)
    (hfit : off + cs.length ≤ cur.length) (h1 : ∀ v ∈ cs, v.oneCell' = true)
    (h : ∀ w', Upd g t (splice cur off cs).toArray w w' → wpList P ops Q rest (a.put o.dst (goInt cs.length)) w') :
    wpList P ops Q (o :: rest) a w := by
  by_cases h0 : cs.length = 0
  · obtain rfl : cs = [] := List.eq_nil_of_length_eq_zero h0
    refine wpList_copy_nothing hgd d s dT sT ho elem hu hsz dp sp dLen dCap sLen sCap hd hs (by simpa using hn.symm) ?_
    exact h w ⟨by simpa [splice] using hg, fun _ _ => rfl, Below.refl _ _⟩
  · obtain ⟨rfl, ad, rfl, hsrc⟩ := hpos (by omega)
    refine wpList_copy_own hgd d s dT sT ho elem hu hsz g off dLen dCap ad sLen sCap hd hs cur.toArray t hg cs hn hsrc (by simpa using hfit) h1 ?_
    have hU := upd_row hg (cur.toArray.toList.take off ++ (cs ++ cur.toArray.toList.drop (off + cs.length))).toArray
    exact h _ (by simpa [splice] using hU)
end
def z32 : List UInt8 := List.replicate 32 0
/-- the zero record -/
def zRec : Array Value := recC 0 0 z32 ⟨#[]⟩ none 0 0 0 0
theorem zRecF : RecF zRec 0 0 z32 ⟨#[]⟩ none 0 0 0 0 := recF rfl
theorem zeroRec (w : World) : (zeroValue 34).run Try.prog w = .ok (.agg zRec) w := by kernel_rfl
theorem run_blk2 (w : World) (C D : Array Value) (T T' : TypeId) : ((w.alloc (.cells C T)).alloc (.cells D T')).heap[w.heap.size]? = some (.cells C T (0, 0)) ∧ ((w.alloc (.cells C T)).alloc (.cells D T')).heap[w.heap.size + 1]? = some (.cells D T' (0, 0)) ∧ Below w.heap.size w ((w.alloc (.cells C T)).alloc (.cells D T')) := by
  refine ⟨blk_below (blk_new w _) (below_alloc (Below.refl _ _) _), ?_, below_alloc (below_alloc (Below.refl _ _) _) _⟩
  have h := blk_new (w.alloc (.cells C T)) (.cells D T')
  rwa [show (w.alloc (.cells C T)).heap.size = w.heap.size + 1 by simp] at h
section
variable {X : Array Value} {k : Int} {s : Nat} {d : List UInt8} {nm : ByteArray} {A : Option Addr} {m c : Nat} {n z : Int}
theorem recC_list : (recC k s d nm A m c n z).toList = Value.int .i64 k :: .int .u64 s :: (d.map encB ++ [.string nm, .slice A m c, .int .i64 n, .int .i64 z]) := rfl
theorem RecF.set (h : RecF X k s d nm A m c n z) (j : Nat) (v : Value) : X.setIfInBounds (2 + 32 + j) v = (Value.int .i64 k :: .int .u64 s :: (d.map encB ++ ([Value.string nm, .slice A m c, .int .i64 n, .int .i64 z].set j v))).toArray := by
  rw [h.eq, recC, List.setIfInBounds_toArray, show 2 + 32 + j = (32 + j) + 1 + 1 by omega, List.set_cons_succ, List.set_cons_succ, List.set_append_right _ _ (by simp [h.dl])]
  simp [h.dl]
theorem RecF.setName (h : RecF X k s d nm A m c n z) (nm' : ByteArray) : RecF (X.setIfInBounds 34 (.string nm')) k s d nm' A m c n z := ⟨h.set 0 _, h.dl⟩
theorem RecF.setData (h : RecF X k s d nm A m c n z) (A' : Option Addr) (m' c' : Nat) : RecF (X.setIfInBounds 35 (.slice A' m' c')) k s d nm A' m' c' n z := ⟨h.set 1 _, h.dl⟩
theorem RecF.setN (h : RecF X k s d nm A m c n z) (n' : Int) : RecF (X.setIfInBounds 36 (.int .i64 n')) k s d nm A m c n' z := ⟨h.set 2 _, h.dl⟩
theorem RecF.setZ (h : RecF X k s d nm A m c n z) (z' : Int) : RecF (X.setIfInBounds 37 (.int .i64 z')) k s d nm A m c n z' := ⟨h.set 3 _, h.dl⟩
theorem RecF.setS (h : RecF X k s d nm A m c n z) (s' : Nat) : RecF (X.setIfInBounds 1 (.int .u64 s')) k s' d nm A m c n z := ⟨by rw [h.eq, recC, List.setIfInBounds_toArray]; rfl, h.dl⟩
theorem RecF.setD (h : RecF X k s d nm A m c n z) {d' : List UInt8} (hd : d'.length = 32) : RecF (splice X.toList 2 (d'.map encB)).toArray k s d' nm A m c n z := ⟨by
  have e : splice X.toList 2 (d'.map encB) = Value.int .i64 k :: .int .u64 s :: (d'.map encB ++ [.string nm, .slice A m c, .int .i64 n, .int .i64 z]) := by
    rw [h.eq, recC_list]
    unfold splice
    rw [show (2 + (d'.map encB).length) = 32 + 2 by simp [hd]]
    show [Value.int .i64 k, .int .u64 s] ++ (d'.map encB ++ ((d.map encB ++ [Value.string nm, .slice A m c, .int .i64 n, .int .i64 z]).drop 32)) = _
    rw [List.drop_left' (by simp [h.dl])]; rfl
  rw [e]; rfl, hd⟩
/-- some record's cells -/
structure RecS (X : Array Value) : Prop where
  size : X.size = 38
  one : X.all (·.oneCell') = true
theorem RecF.recS (h : RecF X k s d nm A m c n z) : RecS X := ⟨h.size, h.one⟩
theorem RecS.cell (h : RecS X) {j : Nat} (hj : j < 38) : ∃ v, X[j]? = some v := ⟨X[j]'(by rw [h.size]; exact hj), Array.getElem?_eq_getElem _⟩
theorem RecS.info (h : RecS X) : (Try.prog.info? 34).map (·.size) = some X.size := by rw [h.size]; exact infoRec
theorem RecS.infoL (h : RecS X) : (Try.prog.info? 34).map (·.size) = some X.toList.length := by rw [Array.length_toList]; exact h.info
theorem RecS.splice (h : RecS X) (cs : List Value) (hl : cs.length ≤ 32) (h1 : ∀ v ∈ cs, v.oneCell' = true) : RecS (Go.splice X.toList 2 cs).toArray := by
  have hs : X.toList.length = 38 := by rw [Array.length_toList]; exact h.size
  refine ⟨by rw [List.size_toArray, length_splice _ _ _ (by omega)]; exact hs, Array.all_eq_true_iff_forall_mem.2 (fun v hv => ?_)⟩
  have ha := Array.all_eq_true_iff_forall_mem.1 h.one
  rw [List.mem_toArray] at hv
  unfold Go.splice at hv
  rcases List.mem_append.1 hv with hv | hv
  · exact ha v (by simpa using List.mem_of_mem_take hv)
  rcases List.mem_append.1 hv with hv | hv
  · exact h1 v hv
  · exact ha v (by simpa using List.mem_of_mem_drop hv)
theorem RecS.set (h : RecS X) (j : Nat) (v : Value) (hv : v.oneCell' = true) : RecS (X.setIfInBounds j v) := by
  refine ⟨by rw [Array.size_setIfInBounds]; exact h.size, Array.all_eq_true_iff_forall_mem.2 (fun u hu => ?_)⟩
  have ha := Array.all_eq_true_iff_forall_mem.1 h.one
  rcases Array.mem_or_eq_of_mem_setIfInBounds hu with hu | hu
  · exact ha u hu
  · rw [hu]; exact hv
end
theorem one_encs (l : List UInt8) : ∀ v ∈ l.map encB, v.oneCell' = true := by
  intro v hv; obtain ⟨y, -, rfl⟩ := List.mem_map.1 hv; rfl
/-! ### what data tells -/
def restL (b : List UInt8) : List UInt8 := b.drop (textEnd b 0).toNat
theorem textEnd_in {b : List UInt8} (h : textOk b 0 = true) : 0 ≤ textEnd b 0 ∧ textEnd b 0 ≤ b.length := by
  have hb := bt_bd b 0
  unfold textEnd; rw [if_pos h]
  have h2 := of_decide_eq_true h
  rw [show (0 : Int).toNat = 0 from rfl] at *
  omega
def okF (k : Int) (b : List UInt8) : Bool :=
  if k = 1 ∨ k = 2 then decide (32 ≤ b.length)
  else if k = 3 then (textOk b 0 && decide ((restL b).length = 32))
  else if k = 4 then (textOk b 0 && decide ((restL b).length = 0))
  else if k = 5 then decide (b.length = 32)
  else if k = 7 then decide (b.length = 16 ∧ b.take 8 = magicL)
  else decide (b.length = 8)
def dF (k : Int) (b : List UInt8) : List UInt8 := if k = 1 ∨ k = 2 then b.take 32 else if k = 3 then restL b else if k = 5 then b else z32
def nmF (k : Int) (b : List UInt8) : ByteArray := if k = 3 ∨ k = 4 then textS b 0 else ⟨#[]⟩
def lF (k : Int) (b : List UInt8) : List UInt8 := if k = 1 ∨ k = 2 then b.drop 32 else []
def numN (b : List UInt8) (p q : Int) : Nat := if takeN b p q ≤ 4294967295 then takeN b p q else 0
def nF (k : Int) (b : List UInt8) : Int := if k = 6 ∨ k = 8 then numN b 0 4 else if k = 7 then numN b 8 8 else 0
def zF (k : Int) (b : List UInt8) : Int := if k = 6 ∨ k = 8 then numN b 4 4 else 0
/-- the end of reading data -/
def FillE (k : Int) (s : Nat) (b : List UInt8) (w : World) (e : Ending) (w' : World) : Prop :=
  (okF k b = true ∧ ∃ X A c, e = .returned (.tuple #[.agg X, .bool true]) ∧ RecF X k s (dF k b) (nmF k b) A (lF k b).length c (nF k b) (zF k b) ∧ Buf w' w.heap.size (.slice A (lF k b).length c) (lF k b) ∧ Below w.heap.size w w') ∨
  (okF k b = false ∧ ∃ X, e = .returned (.tuple #[.agg X, .bool false]) ∧ RecS X ∧ Below w.heap.size w w')
set_option maxRecDepth 100000 in
theorem number_any (A : Option Addr) (c : Nat) (b : List UInt8) (p q : Int) (w : World) (hl : b.length ≤ 140737488355328) (hr : Rd w A b) :
    Calls Try.prog 69 #[.slice A b.length c, .int .i64 p, .int .i64 q] w (Still (.int .i64 (numN b p q)) w) := by
  have HT := Lib.hid (take_any A c b p q w hl hr)
  have HN := Lib.hid (show ∀ t, takeN b p q = t → numN b p q = if t ≤ 4294967295 then t else 0 from fun t h => by unfold numN; rw [h])
  clear hr
  generalize hq : takeN b p q = t at *
  generalize takeOk b p q = tk at *
  clear hq
  by_cases h : t ≤ 4294967295
  · have hg : ¬ (4294967295 : Int) < (t : Int) := by omega
    have hw : IntKind.i64.wrap (t : Int) = (t : Int) := IntWalk.i64_in _ (by omega)
    have HE := Lib.hid (show numN b p q = t by rw [HN.out t rfl, if_pos h])
    go_enter Try.func69, Try.ntmps69
    go_wp2_with fail
    refine HT.out.mono ?_
    rintro e w1 ⟨rfl, hw1⟩
    go_wp2_with fail
    go_ret
    exact ⟨ret_eq (by rw [HE.out]; try rfl), by first | exact hw1 | rfl⟩
  · have hg : (4294967295 : Int) < (t : Int) := by omega
    have HE := Lib.hid (show numN b p q = 0 by rw [HN.out t rfl, if_neg h])
    go_enter Try.func69, Try.ntmps69
    go_wp2_with fail
    refine HT.out.mono ?_
    rintro e w1 ⟨rfl, hw1⟩
    go_wp2_with fail
    go_ret
    exact ⟨ret_eq (by rw [HE.out]; try rfl), by first | exact hw1 | rfl⟩
end Go.Proofs.Ytdkadeihhgjiaaa.Rc
