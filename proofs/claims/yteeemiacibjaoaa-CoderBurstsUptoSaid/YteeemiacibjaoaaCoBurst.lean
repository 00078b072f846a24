/- law23: CoderBursts. -/
import Derived.Test.YteeemiacibjaoaaCoWrite
import Derived.Test.YteeemiacibjaoaaCoLives
import Derived.Test.YteeemiacibjaoaaSame
import Derived.Test.YteeemiacibjaoaaCoNew
import Derived.Test.YteeemiacibjaoaaTurnB
set_option linter.unusedVariables false
set_option linter.unusedSimpArgs false
namespace Go.Proofs.Yteeemiacibjaoaa.Co
open Go.RowKit Go.Proofs.YteeemiacibjaoaaW.PrintWords Go.Proofs.Yteeemiacibjaoaa.B Go.Proofs.Yteeemiacibjaoaa.Fx Go.Proofs.Yteeemiacibjaoaa.Fr Go.Proofs.Yteeemiacibjaoaa.O

abbrev Bu : Type := Int64 × UInt32
def kBu : Kd Bu := Kd.pair O.i64 O.u32
def mu32 (x : UInt32) : Nat := 1
def mBu (x : Bu) : Nat := mi x.1 + mu32 x.2 + 1
theorem opnBu : Opn Try.prog 64 kBu mBu :=
  opn_struct Try.underlying64 (by kernel_rfl) (opnF_cons rfl (show Opn Try.prog 3 O.i64 mi from opn_i64 Try.underlying3 (by kernel_rfl)) (opnF_one rfl (show Opn Try.prog 42 O.u32 mu32 from opn_u32 Try.underlying42 (by kernel_rfl))))
/-- turned bytes have another sum -/
theorem burst_new {m L y : List UInt8} (hm : m.length ≤ L.length) (hb : CrcW.Burst (seal4 L) y) (hne : seal4 L ≠ y) : newE m y = 5 := by
  obtain ⟨h1, h2⟩ := hb
  have hl := seal4_len L
  have h4 : 4 ≤ (seal4 L).length := by omega
  have hw : wholeB y = false := by
    cases hq : wholeB y with
    | false => rfl
    | true => exact absurd (whole_burst h2 h4 (whole_seal L) hq) hne
  obtain ⟨n, hn⟩ : ∃ n, y.length - 4 = n := ⟨_, rfl⟩
  have htk := (takeN_at (l := y) (p := n) (k := 4) (by omega) (by omega) (by omega)).2
  rw [List.take_of_length_le (by rw [List.length_drop]; omega)] at htk
  unfold wholeB at hw
  rw [hn, decide_eq_false_iff_not] at hw
  unfold newE
  rw [if_neg (by omega), hn, show takeN y (n : Int) 4 = le (y.drop n) from htk, if_pos hw]
theorem bu_cells {w : World} {x : Bu} {cs : Array Value} (h : kBu.K w x cs.toList) : cs[0]? = some (.int .i64 x.1.toInt) ∧ cs[1]? = some (.int .u32 x.2.toNat) := by
  obtain ⟨c0, r0, h0, h1, h2⟩ := h
  have h1 : c0 = [_] := h1
  have h2 : r0 = [_] := h2
  rw [h1, h2] at h0
  rw [← Array.getElem?_toList, ← Array.getElem?_toList, h0]
  exact ⟨rfl, rfl⟩
set_option maxRecDepth 100000 in
set_option maxHeartbeats 1600000 in
theorem bursts_any (s : ByteArray) (AL : Option Addr) (cL : Nat) (l : List Pt) (cs : Array Value) (bu : Bu) (w : World) (hs : s.size ≤ 1048576) (hrl : RdP w AL l) (hcl : l.length ≤ cL) (hm : ms mPt l ≤ 1048576) (hbu : kBu.K w bu cs.toList) (hmb : mBu bu ≤ 1048576) :
    Calls Try.prog 9 #[.string s, .slice AL l.length cL, .agg cs] w (Kept (.bool true) w) := by
  obtain ⟨x0, x1⟩ := bu_cells hbu
  have hmk := bu.2.toNat_lt
  have hbt : -9223372036854775808 ≤ bu.1.toInt ∧ bu.1.toInt ≤ 9223372036854775807 := ⟨bu.1.le_toInt, by have := bu.1.toInt_lt; omega⟩
  generalize bu.2.toNat = mask at *
  generalize bu.1.toInt = bit at *
  have HRL := Lib.hid hrl
  have HW1 := Lib.hid (fun (W : World) (h : RdP W AL l) => write_any s AL cL l W hs hm h)
  have hbl : (wrB s.data.toList l).length ≤ 16000000 := by have := wrB_len s.data.toList l; simp at this; omega
  have hml : s.data.toList.length ≤ (wrB s.data.toList l).length := by unfold wrB; rw [List.length_append]; omega
  have HNE := Lib.hid (fun (y : List UInt8) (h1 : CrcW.Burst (seal4 (wrB s.data.toList l)) y) (h2 : seal4 (wrB s.data.toList l) ≠ y) => burst_new hml h1 h2)
  have HNEW := Lib.hid (fun (A : Option Addr) (c : Nat) (y : List UInt8) (W : World) (hl : y.length ≤ 140737488355328) (hc : y.length ≤ c) (hr : Rd W A y) => newr_any s A c y W (by omega) hl hc hr)
  have HTU := Lib.hid (fun (A : Option Addr) (c : Nat) (y : List UInt8) (W : World) (hr : Rd W A y) (hl : y.length ≤ 16777216) => CrcW.turn_burst A c y bit mask W hr hl (by omega) hbt)
  have HLV := Lib.hid (fun W : World => lives_any W)
  generalize wrB s.data.toList l = L at *
  have HLL := Lib.hid hbl
  clear hrl hbt hbl hml hbu hmb hm hmk
  cases hok : okL l with
  | false =>
    rw [hok] at HW1
    have HW2 := Lib.hid HW1.out
    clear HW1 hok
    go_enter Try.func9, Try.ntmps9
    go_wp2_with fail
    refine (HW2.out _ (HRL.out.below (below_alloc (Below.refl _ _) _))).mono ?_
    rintro e w1 h1
    obtain ⟨A1, c1, x, rfl, hx, hc1, hown, hb⟩ := bytesR_of h1
    have hx2 : x.length ≤ 16777216 := by have := HLL.out; rw [hx.out]; simp
    have HB1 := Lib.hid (below_then (below_alloc (Below.refl _ _) _) (by simp) hb)
    have HG1 := Lib.hid (blk_below (blk_new w (.cells cs 64)) hb)
    have HR1 := Lib.hid hown.rd
    have d0 : w1.cell? ⟨w.heap.size, 0, none⟩ = some (.int .i64 bit) := (blk_cell HG1.out 0).trans x0
    have d1 : w1.cell? ⟨w.heap.size, 1, none⟩ = some (.int .u32 mask) := (blk_cell HG1.out 1).trans x1
    have hz1 := blk_lt HG1.out
    clear h1 hown hb hx
    go_wp2_with fail
    refine (HTU.out A1 c1 x w1 HR1.out hx2).mono ?_
    rintro e w2 ⟨v2, y, rfl, hown, hbu, hb⟩
    obtain ⟨A2, c2, rfl, hc2, -⟩ := hown.reads
    have HB2 := Lib.hid (below_step' HB1.out hb)
    clear hown hbu hb
    go_wp2_with fail
    refine (HLV.out _).mono ?_
    rintro e w3 ⟨rfl, hb⟩
    have HB3 := Lib.hid (below_step' HB2.out hb)
    clear hb
    go_wp2_with fail
    go_ret
    exact ⟨rfl, HB3.out⟩
  | true =>
    rw [hok] at HW1
    have HW2 := Lib.hid HW1.out
    clear HW1 hok
    go_enter Try.func9, Try.ntmps9
    go_wp2_with fail
    refine (HW2.out _ (HRL.out.below (below_alloc (Below.refl _ _) _))).mono ?_
    rintro e w1 h1
    obtain ⟨A1, c1, x, rfl, hx, hc1, hown, hb⟩ := bytesR_of h1
    have hx1 : x = seal4 L := by rw [hx.out]; simp
    have hx2 : x.length ≤ 16777216 := by have := HLL.out; rw [hx1, seal4_len]; omega
    have HX := Lib.hid hx1
    have HB1 := Lib.hid (below_then (below_alloc (Below.refl _ _) _) (by simp) hb)
    have HG1 := Lib.hid (blk_below (blk_new w (.cells cs 64)) hb)
    have HR1 := Lib.hid hown.rd
    have d0 : w1.cell? ⟨w.heap.size, 0, none⟩ = some (.int .i64 bit) := (blk_cell HG1.out 0).trans x0
    have d1 : w1.cell? ⟨w.heap.size, 1, none⟩ = some (.int .u32 mask) := (blk_cell HG1.out 1).trans x1
    have hz1 := blk_lt HG1.out
    clear h1 hown hb hx hx1
    go_wp2_with fail
    refine (HTU.out A1 c1 x w1 HR1.out hx2).mono ?_
    rintro e w2 ⟨v2, y, rfl, hown, hbu, hb⟩
    obtain ⟨A2, c2, rfl, hc2, -⟩ := hown.reads
    have HB2 := Lib.hid (below_step' HB1.out hb)
    have HR2 := Lib.hid hown.rd
    have HRX := Lib.hid (HR1.out.below hb)
    have hyl : y.length ≤ 16777216 := by rw [hbu.1]; exact hx2
    have HBU := Lib.hid (HX.out ▸ hbu)
    clear hown hbu hb
    by_cases hxy : x = y
    · have HS := Lib.hid (show R01.sameB x y = true by unfold R01.sameB; exact decide_eq_true hxy)
      clear hxy
      go_wp2_with fail
      refine (R01.same_any A1 c1 x A2 c2 y w2 (by omega) HRX.out HR2.out).mono ?_
      rintro e w3 ⟨rfl, n3, rfl⟩
      rw [HS.out]
      go_wp2_with fail
      refine (HLV.out _).mono ?_
      rintro e w4 ⟨rfl, hb⟩
      have HB4 := Lib.hid (below_step' (pw_below_drewN HB2.out n3) hb)
      clear hb
      go_wp2_with fail
      go_ret
      exact ⟨rfl, HB4.out⟩
    · have HS := Lib.hid (show R01.sameB x y = false by unfold R01.sameB; exact decide_eq_false hxy)
      have HE := Lib.hid (HNE.out y HBU.out (by rw [← HX.out]; exact hxy))
      clear hxy
      go_wp2_with fail
      refine (R01.same_any A1 c1 x A2 c2 y w2 (by omega) HRX.out HR2.out).mono ?_
      rintro e w3 ⟨rfl, n3, rfl⟩
      rw [HS.out]
      go_wp2_with fail
      have HR3 := Lib.hid (HR2.out.drewN n3)
      refine (HNEW.out A2 c2 y (w2.drewN n3) (by omega) hc2 HR3.out).mono ?_
      rintro e w4 ⟨g, rfl, hs4, hb⟩
      rw [HE.out] at hs4
      have HB4 := Lib.hid (below_step' (pw_below_drewN HB2.out n3) hb)
      have HEN := Lib.hid (show Calls Try.prog 38 #[.pointer (some ⟨g, 0, none⟩)] w4 (Quiet (.int .i64 5) w4) from by have h := rend_any _ g _ _ 5 w4 hs4; unfold endN at h; rwa [if_pos (by decide)] at h)
      clear hs4 hb
      go_wp2_with fail
      refine HEN.out.mono ?_
      rintro e w5 ⟨rfl, n5, rfl⟩
      go_wp2_with fail
      refine (HLV.out _).mono ?_
      rintro e w6 ⟨rfl, hb⟩
      have HB6 := Lib.hid (below_step' (pw_below_drewN HB4.out n5) hb)
      clear hb
      go_wp2_with fail
      go_ret
      exact ⟨rfl, HB6.out⟩
end Go.Proofs.Yteeemiacibjaoaa.Co
