/- coder: NewReader. -/
import Derived.Test.YteeemiacibjaoaaCoR5
import Derived.Test.YteeemiacibjaoaaHasPre
import Derived.Test.YteeemiacibjaoaaClone
set_option linter.unusedVariables false
set_option linter.unusedSimpArgs false
namespace Go.Proofs.Yteeemiacibjaoaa.Co
open Go.RowKit Go.Proofs.YteeemiacibjaoaaW.PrintWords Go.Proofs.Yteeemiacibjaoaa.B Go.Proofs.Yteeemiacibjaoaa.Fx Go.Proofs.Yteeemiacibjaoaa.Fr

/-- a new reader: its bytes, its place, what is wrong -/
def newL (m l : List UInt8) : List UInt8 := if l.length < m.length + 4 then [] else l.take (l.length - 4)
def newAt (m l : List UInt8) : Nat := if l.length < m.length + 4 then 0 else m.length
def newE (m l : List UInt8) : Nat := if l.length < m.length + 4 then 4 else if takeN l ((l.length - 4 : Nat) : Int) 4 ≠ csum (l.take (l.length - 4)) then 5 else if Lib.hasPrefix (l.take (l.length - 4)) m = true then 0 else 3
def NewD (m l : List UInt8) (w : World) (x : Ending) (w' : World) : Prop := ∃ g, x = .returned (.pointer (some ⟨g, 0, none⟩)) ∧ RdS w' w.heap.size g (newL m l) (newAt m l) (newE m l) ∧ Below w.heap.size w w'
theorem takeN_lt4 (l : List UInt8) (p : Int) : takeN l p 4 < 4294967296 := by
  unfold takeN
  split
  · exact le_take_lt _ 4
  · decide
theorem seal_new {m x : List UInt8} (h : Lib.hasPrefix x m = true) (hm : m.length ≤ x.length) : newL m (seal4 x) = x ∧ newAt m (seal4 x) = m.length ∧ newE m (seal4 x) = 0 := by
  have hl := seal4_len x
  have h1 : ¬ (seal4 x).length < m.length + 4 := by omega
  have h2 : (seal4 x).length - 4 = x.length := by omega
  have h3 : (seal4 x).take x.length = x := by unfold seal4; exact List.take_left
  have h4 : takeN (seal4 x) (x.length : Nat) 4 = csum x := by
    have h5 := (takeN_at (l := seal4 x) (p := x.length) (k := 4) (by omega) (by omega) (by omega)).2
    rw [show ((4 : Nat) : Int) = 4 from rfl] at h5
    rw [h5, show (seal4 x).drop x.length = putB (csum x) 4 from by unfold seal4; exact List.drop_left, List.take_of_length_le (by rw [putB_length]; omega), le_putB]
    exact Nat.mod_eq_of_lt (csum_lt x)
  refine ⟨?_, ?_, ?_⟩
  · unfold newL; rw [if_neg h1, h2, h3]
  · unfold newAt; rw [if_neg h1]
  · unfold newE; rw [if_neg h1, h2, h3, h4, if_neg (by simp), if_pos h]
set_option maxRecDepth 100000 in
set_option maxHeartbeats 800000 in
theorem newr_any (s : ByteArray) (A : Option Addr) (c : Nat) (l : List UInt8) (w : World) (hsz : s.size ≤ 9223372036854775000) (hl : l.length ≤ 140737488355328) (hc : l.length ≤ c) (hr : Rd w A l) :
    Calls Try.prog 37 #[.string s, .slice A l.length c] w (NewD s.data.toList l w) := by
  have h3 : s.data.toList.length = s.size := by rw [Array.length_toList]; rfl
  by_cases h1 : l.length < s.size + 4
  · have e1 : newL s.data.toList l = [] := if_pos (by omega)
    have e2 : newAt s.data.toList l = 0 := if_pos (by omega)
    have e3 : newE s.data.toList l = 4 := if_pos (by omega)
    unfold NewD
    rw [e1, e2, e3]
    clear e1 e2 e3 h3 hr
    go_enter Try.func37, Try.ntmps37
    go_wp2_with fail
    go_ret
    exact ⟨_, rfl, ⟨Nat.le_refl _, _, blk_new w _, .inl ⟨rfl, rfl⟩⟩, below_alloc (Below.refl _ _) _⟩
  · have e1 : newL s.data.toList l = l.take (l.length - 4) := if_neg (by omega)
    have e2 : newAt s.data.toList l = s.size := by unfold newAt; rw [if_neg (by omega), h3]
    obtain ⟨n, hn⟩ : ∃ n, l.length - 4 = n := ⟨_, rfl⟩
    obtain ⟨y, hy, hcut, hrd, hyc, hyl⟩ := cutTo (A := A) (l := l) (c := c) (n : Int) (by omega) (by omega) hc
    rw [Int.toNat_natCast] at hy hyl
    have e3 : newE s.data.toList l = if takeN l (n : Int) 4 ≠ csum y then 5 else if Lib.hasPrefix y s.data.toList = true then 0 else 3 := by
      unfold newE; rw [if_neg (by omega), hn, hy.out]
    unfold NewD
    rw [e1, e2, e3, hn, ← hy.out]
    have hnl : (l.length : Int) - 4 = (n : Int) := by omega
    have HT := Lib.hid (fun (W : World) (h : Rd W A l) => take_any A c l (n : Int) 4 W hl h)
    have HCl := Lib.hid (Cl.clone_any A c y w (by omega) (hrd w hr))
    have HS := Lib.hid (fun (W : World) (A' : Option Addr) (c' : Nat) (h : Rd W A' y) => (show Calls Try.prog 70 #[.slice A' y.length c'] W (Kept (.int .u32 (csum y : Nat)) W) from CrcW.sum_any A' c' y W h))
    have HP := Lib.hid (fun (W : World) => Hp.pre_any ⟨y.toArray⟩ s W)
    have HSTR := Lib.hid (fun (W : World) (A' : Option Addr) (c' : Nat) (h : Rd W A' y) => string_run c' h)
    have htl := takeN_lt4 l (n : Int)
    have HR := Lib.hid hr
    clear e1 e2 e3 h3 hr hrd hy
    generalize takeN l (n : Int) 4 = t at *
    generalize takeOk l (n : Int) 4 = tk at *
    have hcs := csum_lt y
    generalize csum y = cs at *
    have hpl : (⟨y.toArray⟩ : ByteArray).data.toList = y := rfl
    rw [hpl] at HP
    generalize Lib.hasPrefix y s.data.toList = q at *
    clear hpl
    have hw : IntKind.u32.wrap (t : Int) = (t : Int) := IntWalk.u32_in _ (by omega)
    have hw2 : IntKind.i64.wrap ((l.length : Int) - 4) = (l.length : Int) - 4 := IntWalk.i64_in _ (by omega)
    have hcond : ¬ ((n : Int) < (s.size : Int)) := by omega
    have HYL := Lib.hid hyl
    have hyl2 : y.length ≤ 140737488355328 := by omega
    clear hyl hn h1
    by_cases ht : t = cs
    · have hq : ((t : Int) == (cs : Int)) = true := by rw [ht]; exact beq_self_eq_true _
      rw [if_neg (by simpa using ht)]
      clear ht
      cases q
      all_goals
        go_enter Try.func37, Try.ntmps37
        go_wp2_with fail
        refine HCl.out.mono ?_
        rintro e w1 ⟨v1, rfl, hown, hb⟩
        obtain ⟨A1, c1, rfl, hc1, -⟩ := hown.reads
        have HB1 := Lib.hid hb
        have HO1 := Lib.hid hown
        have HR1 := Lib.hid (HR.out.below hb)
        have hb1 := HB1.out.size
        clear hb hown
        go_wp2_with fail
        refine (HT.out _ (HR1.out.below (below_alloc (Below.refl _ _) _))).mono ?_
        rintro e w2 ⟨rfl, rfl⟩
        go_wp2_with fail
        have HO2 := Lib.hid (HO1.out.below (below_alloc (Below.refl w1.heap.size w1) (.cells #[.slice A1 y.length c1, .int .i64 s.size, .int .i64 0] 110)))
        refine (HS.out _ A1 c1 HO2.out.rd).mono ?_
        rintro e w3 ⟨rfl, hb⟩
        have HG3 := Lib.hid (blk_below (blk_new w1 (.cells #[.slice A1 y.length c1, .int .i64 s.size, .int .i64 0] 110)) hb)
        have HO3 := Lib.hid (HO2.out.below hb)
        have HB3 := Lib.hid (below_then HB1.out HB1.out.size (below_then (below_alloc (Below.refl w1.heap.size w1) (.cells #[.slice A1 y.length c1, .int .i64 s.size, .int .i64 0] 110)) (by simp) hb))
        have hcc3 := fun i => blk_cell HG3.out i
        have hff3 := fun i => blk_frozen HG3.out i
        have hz3 := blk_lt HG3.out
        have hst := HSTR.out w3 A1 c1 HO3.out.rd
        clear hb
        go_wp2_with fail
        refine (HP.out _).mono ?_
        rintro e w4 ⟨rfl, rfl⟩
        go_wp2_with fail
        go_ret
      · exact ⟨_, rfl, ⟨hb1, _, blk_set HG3.out 2 _, Buf.of_own (HO3.out.set HG3.out (by decide) 2 _)⟩, below_set' HB3.out hb1⟩
      · exact ⟨_, rfl, ⟨hb1, _, HG3.out, Buf.of_own HO3.out⟩, HB3.out⟩
    · have hq : ((t : Int) == (cs : Int)) = false := by rw [beq_eq_false_iff_ne]; omega
      rw [if_pos ht]
      clear ht
      go_enter Try.func37, Try.ntmps37
      go_wp2_with fail
      refine HCl.out.mono ?_
      rintro e w1 ⟨v1, rfl, hown, hb⟩
      obtain ⟨A1, c1, rfl, hc1, -⟩ := hown.reads
      have HB1 := Lib.hid hb
      have HO1 := Lib.hid hown
      have HR1 := Lib.hid (HR.out.below hb)
      have hb1 := HB1.out.size
      clear hb hown
      go_wp2_with fail
      refine (HT.out _ (HR1.out.below (below_alloc (Below.refl _ _) _))).mono ?_
      rintro e w2 ⟨rfl, rfl⟩
      go_wp2_with fail
      have HO2 := Lib.hid (HO1.out.below (below_alloc (Below.refl w1.heap.size w1) (.cells #[.slice A1 y.length c1, .int .i64 s.size, .int .i64 0] 110)))
      refine (HS.out _ A1 c1 HO2.out.rd).mono ?_
      rintro e w3 ⟨rfl, hb⟩
      have HG3 := Lib.hid (blk_below (blk_new w1 (.cells #[.slice A1 y.length c1, .int .i64 s.size, .int .i64 0] 110)) hb)
      have HO3 := Lib.hid (HO2.out.below hb)
      have HB3 := Lib.hid (below_then HB1.out HB1.out.size (below_then (below_alloc (Below.refl w1.heap.size w1) (.cells #[.slice A1 y.length c1, .int .i64 s.size, .int .i64 0] 110)) (by simp) hb))
      have hcc3 := fun i => blk_cell HG3.out i
      have hff3 := fun i => blk_frozen HG3.out i
      have hz3 := blk_lt HG3.out
      clear hb
      go_wp2_with fail
      go_ret
      exact ⟨_, rfl, ⟨hb1, _, blk_set HG3.out 2 _, Buf.of_own (HO3.out.set HG3.out (by decide) 2 _)⟩, below_set' HB3.out hb1⟩
end Go.Proofs.Yteeemiacibjaoaa.Co
