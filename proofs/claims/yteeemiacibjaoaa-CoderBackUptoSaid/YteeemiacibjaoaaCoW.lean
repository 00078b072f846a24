/- coder: the writer's walks. -/
import Derived.Test.YteeemiacibjaoaaVarPut
import Derived.Test.YteeemiacibjaoaaFrMake
import Derived.Test.YteeemiacibjaoaaBaseS
import Derived.Test.YteeemiacibjaoaaCut
import Derived.Test.YteeemiacibjaoaaBuf
import Derived.Deep.RegionHeld3
set_option linter.unusedVariables false
set_option linter.unusedSimpArgs false
namespace Go.Proofs.Yteeemiacibjaoaa.Co
open Go.RowKit Go.Proofs.YteeemiacibjaoaaW.PrintWords Go.Proofs.Yteeemiacibjaoaa.B Go.Proofs.Yteeemiacibjaoaa.Fx Go.Proofs.Yteeemiacibjaoaa.Fr

/-- a writer: the bytes that it has, and whether something was odd -/
def WrS (W : World) (base g : Nat) (l : List UInt8) (odd : Bool) : Prop := base ≤ g ∧ ∃ v, W.heap[g]? = some (.cells #[v, .bool odd] 120 (0, 0)) ∧ Buf W base v l
/-- the end of a call that answers nothing -/
def Did (base : Nat) (w : World) (S : World → Prop) (e : Ending) (w' : World) : Prop := e = .returned (.tuple #[]) ∧ S w' ∧ Below base w w'
theorem below_set' {B : Nat} {w W : World} {g j : Nat} {v : Value} (h : Below B w W) (hg : B ≤ g) : Below B w (W.setCell ⟨g, j, none⟩ v) := h.setCell hg _
set_option maxRecDepth 100000 in
set_option maxHeartbeats 400000 in
theorem wseq_any (base g : Nat) (l : List UInt8) (odd : Bool) (n : Nat) (w : World) (hn : n < 18446744073709551616) (hl : l.length ≤ 140737488355000) (h : WrS w base g l odd) :
    Calls Try.prog 44 #[.pointer (some ⟨g, 0, none⟩), .int .u64 n] w (Did base w (fun W => WrS W base g (l ++ V.enc n) odd)) := by
  obtain ⟨hbg, v, hb, hown⟩ := h
  obtain ⟨A, c, rfl, -, hr⟩ := hown.reads
  have HG := Lib.hid hb
  have hp := Vr.put_any A c l n w hl hn hr
  obtain ⟨y, hy⟩ : ∃ y, l ++ V.enc n = y := ⟨_, rfl⟩
  rw [hy] at hp ⊢
  have HP := Lib.hid hp
  have hcc := fun i => blk_cell hb i
  have hz := blk_lt hb
  clear hb hown hr hp hy
  go_enter Try.func44, Try.ntmps44
  go_wp2_with fail
  refine HP.out.mono ?_
  rintro e w1 ⟨v1, rfl, hown, hb⟩
  obtain ⟨A1, c1, rfl, -, -⟩ := hown.reads
  have HB := Lib.hid hb
  have HO := Lib.hid (hown.lower (show base ≤ w.heap.size by omega))
  have HG1 := Lib.hid (blk_below HG.out hb)
  have hcc1 := fun i => blk_cell HG1.out i
  have hff1 := fun i => blk_frozen HG1.out i
  clear hown hb hcc
  go_wp2_with fail
  go_end0
  exact ⟨rfl, ⟨hbg, _, blk_set HG1.out 0 _, Buf.of_own (HO.out.set HG1.out (by decide) 0 _)⟩, below_set' (HB.out.mono (by omega)) hbg⟩
set_option maxRecDepth 100000 in
set_option maxHeartbeats 400000 in
theorem wnum_any (base g : Nat) (l : List UInt8) (odd : Bool) (n : Int) (w : World) (hn : -9223372036854775808 ≤ n ∧ n ≤ 9223372036854775807) (hl : l.length ≤ 140737488355000) (h : WrS w base g l odd) :
    Calls Try.prog 43 #[.pointer (some ⟨g, 0, none⟩), .int .i64 n] w (Did base w (fun W => WrS W base g (l ++ V.enc n.toNat) (odd || decide (n < 0)))) := by
  obtain ⟨hbg, v, hb, hown⟩ := h
  obtain ⟨A, c, rfl, -, hr⟩ := hown.reads
  have HG := Lib.hid hb
  have HO := Lib.hid hown
  have hcc := fun i => blk_cell hb i
  have hff := fun i => blk_frozen hb i
  have hz := blk_lt hb
  clear hb hown hr
  by_cases h0 : n < 0
  · have HD := Lib.hid (show (odd || decide (n < 0)) = true by simp [h0])
    have HT := Lib.hid (show n.toNat = 0 by omega)
    have HS := Lib.hid (fun (W : World) (h : WrS W base g l true) => wseq_any base g l true 0 W (by omega) hl h)
    cases odd
    all_goals
      go_enter Try.func43, Try.ntmps43
      go_wp2_with fail
      refine (HS.out _ ⟨hbg, _, blk_set HG.out 1 _, HO.out.set HG.out (by decide) 1 _⟩).mono ?_
      rintro e w1 ⟨rfl, hs, hb⟩
      have HS1 := Lib.hid hs
      have HB1 := Lib.hid hb
      clear hs hb
      go_wp2_with fail
      go_end0
      exact ⟨rfl, by rw [HD.out, HT.out]; exact HS1.out, (below_set' (Below.refl _ _) hbg).trans HB1.out⟩
  · obtain ⟨m, rfl⟩ := Int.eq_ofNat_of_zero_le (show 0 ≤ n by omega)
    have HD := Lib.hid (show (odd || decide ((m : Int) < 0)) = odd by rw [show decide ((m : Int) < 0) = false by simp, Bool.or_false])
    have HT := Lib.hid (show (m : Int).toNat = m by omega)
    have HS := Lib.hid (fun (W : World) (h : WrS W base g l odd) => wseq_any base g l odd m W (by omega) hl h)
    cases odd
    all_goals
      go_enter Try.func43, Try.ntmps43
      go_wp2_with fail
      refine (HS.out _ ⟨hbg, _, blk_set HG.out 1 _, HO.out.set HG.out (by decide) 1 _⟩).mono ?_
      rintro e w1 ⟨rfl, hs, hb⟩
      have HS1 := Lib.hid hs
      have HB1 := Lib.hid hb
      clear hs hb
      go_wp2_with fail
      go_end0
      exact ⟨rfl, by rw [HD.out, HT.out]; exact HS1.out, (below_set' (Below.refl _ _) hbg).trans HB1.out⟩
set_option maxRecDepth 100000 in
set_option maxHeartbeats 400000 in
theorem wtext_any (base g : Nat) (l : List UInt8) (odd : Bool) (s : ByteArray) (w : World) (hl : l.length + s.size ≤ 140737488355000) (h : WrS w base g l odd) :
    Calls Try.prog 45 #[.pointer (some ⟨g, 0, none⟩), .string s] w (Did base w (fun W => WrS W base g (putTextL l s.data.toList) (odd || !decide (s.size ≤ 255)))) := by
  obtain ⟨hbg, v, hb, hown⟩ := h
  obtain ⟨A, c, rfl, -, hr⟩ := hown.reads
  have HG := Lib.hid hb
  have hp := putText_any A c l s w hl hr
  obtain ⟨y, hy⟩ : ∃ y, putTextL l s.data.toList = y := ⟨_, rfl⟩
  obtain ⟨q, hq⟩ : ∃ q, decide (s.size ≤ 255) = q := ⟨_, rfl⟩
  rw [hy, hq] at hp ⊢
  have HP := Lib.hid hp
  have hcc := fun i => blk_cell hb i
  have hz := blk_lt hb
  clear hb hown hr hp hy hq
  cases odd <;> cases q
  all_goals
    go_enter Try.func45, Try.ntmps45
    go_wp2_with fail
    refine HP.out.mono ?_
    rintro e w1 ⟨v1, rfl, hown, hb⟩
    obtain ⟨A1, c1, rfl, -, -⟩ := hown.reads
    have HB := Lib.hid hb
    have HO := Lib.hid (hown.lower (show base ≤ w.heap.size by omega))
    have HG1 := Lib.hid (blk_below HG.out hb)
    have hcc1 := fun i => blk_cell HG1.out i
    have hff1 := fun i => blk_frozen HG1.out i
    clear hown hb hcc
    go_wp2_with fail
    go_end0
    exact ⟨rfl, ⟨hbg, _, blk_set (blk_set HG1.out 0 _) 1 _, Buf.of_own ((HO.out.set HG1.out (by decide) 0 _).set (blk_set HG1.out 0 _) (by decide) 1 _)⟩, below_set' (below_set' (HB.out.mono (by omega)) hbg) hbg⟩
def BytesR (l : List UInt8) (odd : Bool) (w : World) (e : Ending) (w' : World) : Prop := ∃ v, e = .returned (.tuple #[v, .int .i64 (if odd = true then 2 else 0)]) ∧ Own w' w.heap.size v (if odd = true then [] else seal4 l) ∧ Below w.heap.size w w'
set_option maxRecDepth 100000 in
set_option maxHeartbeats 800000 in
theorem wbytes_any (base g : Nat) (l : List UInt8) (odd : Bool) (w : World) (hl : l.length ≤ 140737488354000) (h : WrS w base g l odd) :
    Calls Try.prog 47 #[.pointer (some ⟨g, 0, none⟩)] w (BytesR l odd w) := by
  obtain ⟨hbg, v, hb, hown⟩ := h
  obtain ⟨A, c, rfl, -, hr⟩ := hown.reads
  have HG := Lib.hid hb
  have HR := Lib.hid hr
  have hcc := fun i => blk_cell hb i
  have hz := blk_lt hb
  clear hb hown hr
  cases odd with
  | true =>
    go_enter Try.func47, Try.ntmps47
    go_wp2
    go_ret2
    exact ⟨.slice none 0 0, rfl, Own.nil _ _, Below.refl _ _⟩
  | false =>
    have hlt := csum_lt l
    have HL := Lib.hid (show putL l (csum l) 4 = seal4 l from putL4 l (csum l))
    have HS := Lib.hid (fun (W : World) (h : Rd W A l) => (show Calls Try.prog 70 #[.slice A l.length c] W (Kept (.int .u32 (csum l : Nat)) W) from CrcW.sum_any A c l W h))
    generalize csum l = s at *
    have HPU := Lib.hid (fun (W : World) (h : Rd W A l) => (show Calls Try.prog 53 #[.slice A l.length c, .int .u64 s, .int .i64 4] W (Made W (seal4 l)) from HL.out ▸ put_any A c l s 4 W (by omega) (by omega) h))
    have c0 : w.cell? ⟨g, 0, none⟩ = some (.slice A l.length c) := hcc 0
    have HC0 := Lib.hid (show w.drew.cell? ⟨g, 0, none⟩ = some (.slice A l.length c) from c0)
    have HRd := Lib.hid (show Rd w.drew A l from HR.out.drewN 1)
    have HBd := Lib.hid (show Below w.heap.size w w.drew from below_drew (Below.refl _ _))
    go_enter Try.func47, Try.ntmps47
    go_wp2_with fail
    clear hcc c0 HG HR
    have hs := HC0.out
    have wf : IntKind.u64.wrap (s : Int) = (s : Int) := IntWalk.u64_in _ (by omega)
    go_region_held3 (fun W => W.cell? ⟨g, 0, none⟩ = some (.slice A l.length c)) (first | assumption)
      (first
        | (go_at_call 70; refine (HS.out _ HRd.out).mono ?_; rintro e w1 ⟨rfl, hb⟩; have hs1 := pw_cell_below hb HC0.out; have HR1 := Lib.hid (HRd.out.below hb); have HB1 := Lib.hid (below_then HBd.out HBd.out.size hb); clear hb)
        | (go_at_call 53; refine (HPU.out w1 HR1.out).mono ?_; rintro e w2 ⟨v2, rfl, hown, hb⟩; have hs2 := pw_cell_below hb hs1; have HO2 := Lib.hid (hown.lower HB1.out.size); have HB2 := Lib.hid (below_step' HB1.out hb); clear hown hb)
        | fail)
    go_wp2_with fail
    go_ret2
    exact ⟨v2, rfl, HO2.out, HB2.out⟩
end Go.Proofs.Yteeemiacibjaoaa.Co
