/- a part taken: the reader's take, and the document's. -/
import Derived.Test.YteeemiacibjaoaaCoTakeN
import Derived.Test.YteeemiacibjaoaaCoRefT2
set_option linter.unusedVariables false
set_option linter.unusedSimpArgs false
namespace Go.Proofs.Yteeemiacibjaoaa.Co
open Go.RowKit Go.Proofs.YteeemiacibjaoaaW.PrintWords Go.Proofs.Yteeemiacibjaoaa.B Go.Proofs.Yteeemiacibjaoaa.Fx Go.Proofs.Yteeemiacibjaoaa.Fr Go.Proofs.Yteeemiacibjaoaa.O

def Z32 : List UInt8 := List.replicate 32 0
/-- what is wrong with the part at the head of bytes -/
def tkErr (x : List UInt8) (k most : Int) : Nat := if k = 0 then numErr x 0 most else if k = 1 then V.tErr x 0 else if k = 2 then textErr x 0 else digErr x 0
/-- the part -/
def tkPart (x : List UInt8) (k most : Int) : Array Value :=
  if k = 0 then prt k (if numErr x 0 most = 0 then V.tNum x 0 else 0 : Nat) 0 ⟨#[]⟩ Z32 else if k = 1 then prt k 0 (V.tNum x 0) ⟨#[]⟩ Z32
  else if k = 2 then prt k 0 0 (textS x 0) Z32 else prt k 0 0 ⟨#[]⟩ (if digErr x 0 = 0 then x.take 32 else Z32)
/-- how many bytes it has -/
def tkLen (x : List UInt8) (k : Int) : Nat := if k = 0 ∨ k = 1 then (V.tEnd x 0).toNat else if k = 2 then (textEnd x 0).toNat else 32
theorem kp_prt (k : Int) : KP k = prt k 0 0 ⟨#[]⟩ Z32 := (prt_kp k).symm
theorem tNum_err {x : List UInt8} {p : Int} (h : V.tErr x p ≠ 0) : V.tNum x p = 0 := by unfold V.tNum; rw [if_neg h]
theorem numErr0 (x : List UInt8) (most : Int) : numErr x 0 most = if V.tErr x 0 ≠ 0 then V.tErr x 0 else if most < 0 ∨ most < (V.tNum x 0 : Int) then 20 else 0 := rfl
theorem reftake_any (A : Option Addr) (c : Nat) (x : List UInt8) (k most : Int) (w : World) (hm : -9223372036854775808 ≤ most ∧ most ≤ 9223372036854775807) (hl : x.length ≤ 16000000) (hc : x.length ≤ c) (hr : Rd w A x) :
    Calls Try.prog 40 #[.agg #[.slice A x.length c, .int .i64 0], .int .i64 k, .int .i64 most] w (TkO A x (tkPart x k most) (if tkErr x k most = 0 then x.drop (tkLen x k) else []) (tkErr x k most) w) := by
  by_cases k0 : k = 0
  · have e1 : tkErr x k most = numErr x 0 most := if_pos k0
    have e2 : tkPart x k most = prt k (if numErr x 0 most = 0 then V.tNum x 0 else 0 : Nat) 0 ⟨#[]⟩ Z32 := if_pos k0
    have e3 : tkLen x k = (V.tEnd x 0).toNat := if_pos (.inl k0)
    rw [e1, e2, e3]
    by_cases h1 : V.tErr x 0 = 0
    · by_cases h2 : most < 0
      · have h3 : numErr x 0 most = 20 := by rw [numErr0, if_neg (by simpa using h1), if_pos (.inl h2)]
        rw [h3, if_neg (by decide), if_neg (by decide)]
        have := rtk0_neg A c x k most w k0 h1 h2 hl hc hr
        rwa [kp_prt] at this
      · by_cases h3 : most < (V.tNum x 0 : Int)
        · have h4 : numErr x 0 most = 20 := by rw [numErr0, if_neg (by simpa using h1), if_pos (.inr h3)]
          rw [h4, if_neg (by decide), if_neg (by decide)]
          have := rtk0_big A c x k most w k0 h1 ⟨by omega, hm.2, h3⟩ hl hc hr
          rwa [kp_prt] at this
        · have h4 : numErr x 0 most = 0 := by rw [numErr0, if_neg (by simpa using h1), if_neg (by omega)]
          rw [h4, if_pos rfl, if_pos rfl]
          exact rtk0_ok A c x k most w k0 h1 ⟨by omega, hm.2, by omega⟩ hl hc hr
    · have h3 : numErr x 0 most = V.tErr x 0 := by rw [numErr0, if_pos h1]
      rw [h3, if_neg h1, if_neg h1]
      have := rtk0_err A c x k most w k0 h1 hl hc hr
      rwa [kp_prt] at this
  by_cases k1 : k = 1
  · have e1 : tkErr x k most = V.tErr x 0 := by unfold tkErr; rw [if_neg k0, if_pos k1]
    have e2 : tkPart x k most = prt k 0 (V.tNum x 0) ⟨#[]⟩ Z32 := by unfold tkPart; rw [if_neg k0, if_pos k1]
    have e3 : tkLen x k = (V.tEnd x 0).toNat := if_pos (.inr k1)
    rw [e1, e2, e3]
    by_cases h1 : V.tErr x 0 = 0
    · rw [if_pos h1]
      have := rtk1_ok A c x k most w k1 h1 hl hc hr
      rwa [h1]
    · rw [if_neg h1, tNum_err h1]
      have := rtk1_err A c x k most w k1 h1 hl hc hr
      rwa [kp_prt] at this
  by_cases k2 : k = 2
  · have e1 : tkErr x k most = textErr x 0 := by unfold tkErr; rw [if_neg k0, if_neg k1, if_pos k2]
    have e2 : tkPart x k most = prt k 0 0 (textS x 0) Z32 := by unfold tkPart; rw [if_neg k0, if_neg k1, if_pos k2]
    have e3 : tkLen x k = (textEnd x 0).toNat := by unfold tkLen; rw [if_neg (by omega), if_pos k2]
    rw [e1, e2, e3]
    by_cases h1 : textOk x 0 = true
    · have h2 : textErr x 0 = 0 := if_pos h1
      rw [h2, if_pos rfl]
      exact rtk2_ok A c x k most w k2 h1 hl hc hr
    · have h2 : textErr x 0 = 4 := if_neg h1
      have h3 : textS x 0 = ⟨#[]⟩ := by unfold textS; rw [if_neg h1]
      rw [h2, if_neg (by decide), h3]
      have := rtk2_no A c x k most w k2 (by simpa using h1) hl hc hr
      rwa [kp_prt] at this
  · have e1 : tkErr x k most = digErr x 0 := by unfold tkErr; rw [if_neg k0, if_neg k1, if_neg k2]
    have e2 : tkPart x k most = prt k 0 0 ⟨#[]⟩ (if digErr x 0 = 0 then x.take 32 else Z32) := by unfold tkPart; rw [if_neg k0, if_neg k1, if_neg k2]
    have e3 : tkLen x k = 32 := by unfold tkLen; rw [if_neg (by omega), if_neg k2]
    rw [e1, e2, e3]
    by_cases h1 : x.length < 32
    · have h2 : digErr x 0 = 4 := if_pos (by omega)
      rw [h2, if_neg (by decide), if_neg (by decide)]
      have := rtk3_no A c x k most w ⟨k0, k1, k2⟩ h1 hl hc hr
      rwa [kp_prt] at this
    · have h2 : digErr x 0 = 0 := if_neg (by omega)
      rw [h2, if_pos rfl, if_pos rfl]
      exact rtk3_ok A c x k most w ⟨k0, k1, k2⟩ h1 hl hc hr
/-! ### the reader's -/
theorem firm_rd {base g : Nat} {L : List UInt8} {a e : Nat} {w : World} (hbw : base ≤ w.heap.size) (hg : g < w.heap.size) : Firm w.heap.size (fun W => RdS W base g L a e ∧ Below base w W ∧ ∀ b, b ≠ g → b < w.heap.size → W.heap[b]? = w.heap[b]?) := fun W b cs hb h hc => by
  obtain ⟨⟨hbg, v, hb2, hown⟩, hB, hO⟩ := h
  refine ⟨fun i u => ⟨⟨hbg, v, blk_far hb2 (p := ⟨b, i, none⟩) (by show g ≠ b; omega) u, hown.set hc (by decide) i u⟩, below_set' hB (by omega), fun j hj hlt => (Below.heap_setCell W ⟨b, i, none⟩ u j (by show j ≠ b; omega)).trans (hO j hj hlt)⟩, fun u => ⟨rds_setRow ⟨hbg, v, hb2, hown⟩ (by omega) hc (by decide) u, below_setRow hB (by omega) u, fun j hj hlt => (setRow_other W b j u (by omega)).trans (hO j hj hlt)⟩⟩
theorem tk_of_rd {base g : Nat} {L : List UInt8} {a e : Nat} {v : Value} {w W : World} {x : Ending} {w' : World} (hW : Below w.heap.size w W) (hbw : base ≤ w.heap.size) (h : RdD base g L a e v W x w') : TkR W (fun b => b = g) v (fun W' => RdS W' base g L a e ∧ Below base w W' ∧ ∀ b, b ≠ g → b < w.heap.size → W'.heap[b]? = w.heap[b]?) x w' :=
  ⟨h.1, ⟨h.2.1, (hW.mono hbw).trans h.2.2.1, fun b hb hlt => (h.2.2.2 b hb (Nat.lt_of_lt_of_le hlt hW.size)).trans (hW.block b hlt)⟩, h.2.2.1.size, fun k hk hlt => h.2.2.2 k hk hlt⟩
theorem RdS.below {W W1 : World} {base g : Nat} {l : List UInt8} {a e : Nat} (h : RdS W base g l a e) (hb : Below W.heap.size W W1) : RdS W1 base g l a e := by
  obtain ⟨hbg, v, hb2, hown⟩ := h
  exact ⟨hbg, v, blk_below hb2 hb, hown.below hb⟩
theorem RdS.lt {W : World} {base g : Nat} {l : List UInt8} {a e : Nat} (h : RdS W base g l a e) : g < W.heap.size := by
  obtain ⟨hbg, v, hb2, hown⟩ := h
  exact blk_lt hb2
def TkL (P : Array Value) (base g : Nat) (L : List UInt8) (a e : Nat) (w : World) (x : Ending) (w' : World) : Prop := x = .returned (.agg P) ∧ RdS w' base g L a e ∧ Below base w w' ∧ ∀ b, b ≠ g → b < w.heap.size → w'.heap[b]? = w.heap[b]?
theorem out0 (k n : Int) : (#[.int .i64 k, .int .i64 n, .int .u64 0, .string ⟨#[]⟩, .int .u8 0, .int .u8 0, .int .u8 0, .int .u8 0, .int .u8 0, .int .u8 0, .int .u8 0, .int .u8 0, .int .u8 0, .int .u8 0, .int .u8 0, .int .u8 0, .int .u8 0, .int .u8 0, .int .u8 0, .int .u8 0, .int .u8 0, .int .u8 0, .int .u8 0, .int .u8 0, .int .u8 0, .int .u8 0, .int .u8 0, .int .u8 0, .int .u8 0, .int .u8 0, .int .u8 0, .int .u8 0, .int .u8 0, .int .u8 0, .int .u8 0, .int .u8 0] : Array Value) = prt k n 0 ⟨#[]⟩ Z32 := (ko_1 k n)
theorem out1 (k : Int) (n : Nat) : (#[.int .i64 k, .int .i64 0, .int .u64 n, .string ⟨#[]⟩, .int .u8 0, .int .u8 0, .int .u8 0, .int .u8 0, .int .u8 0, .int .u8 0, .int .u8 0, .int .u8 0, .int .u8 0, .int .u8 0, .int .u8 0, .int .u8 0, .int .u8 0, .int .u8 0, .int .u8 0, .int .u8 0, .int .u8 0, .int .u8 0, .int .u8 0, .int .u8 0, .int .u8 0, .int .u8 0, .int .u8 0, .int .u8 0, .int .u8 0, .int .u8 0, .int .u8 0, .int .u8 0, .int .u8 0, .int .u8 0, .int .u8 0, .int .u8 0] : Array Value) = prt k 0 n ⟨#[]⟩ Z32 := (ko_2 k n)
theorem out2 (k : Int) (t : ByteArray) : (#[.int .i64 k, .int .i64 0, .int .u64 0, .string t, .int .u8 0, .int .u8 0, .int .u8 0, .int .u8 0, .int .u8 0, .int .u8 0, .int .u8 0, .int .u8 0, .int .u8 0, .int .u8 0, .int .u8 0, .int .u8 0, .int .u8 0, .int .u8 0, .int .u8 0, .int .u8 0, .int .u8 0, .int .u8 0, .int .u8 0, .int .u8 0, .int .u8 0, .int .u8 0, .int .u8 0, .int .u8 0, .int .u8 0, .int .u8 0, .int .u8 0, .int .u8 0, .int .u8 0, .int .u8 0, .int .u8 0, .int .u8 0] : Array Value) = prt k 0 0 t Z32 := (ko_3 k t)
section
variable {L : List UInt8} {a : Nat} (ha : a ≤ L.length)
include ha
theorem tErr_drop : V.tErr L a = V.tErr (L.drop a) 0 := by
  unfold V.tErr
  rw [if_neg (by omega), if_neg (by omega)]
  simp
theorem tNum_drop : V.tNum L a = V.tNum (L.drop a) 0 := by
  unfold V.tNum
  rw [tErr_drop ha]
  simp
theorem tEnd_drop (h : V.tErr (L.drop a) 0 = 0) : V.tEnd L a = (a : Int) + V.tEnd (L.drop a) 0 := by
  unfold V.tEnd
  rw [tErr_drop ha, if_pos h, if_pos h]
  simp
theorem numErr_drop (n : Int) : numErr L a n = numErr (L.drop a) 0 n := by
  rw [numErr0]; unfold numErr; rw [tErr_drop ha, tNum_drop ha]
theorem textOk_drop : textOk L a = textOk (L.drop a) 0 := by
  unfold textOk B.bt
  rw [List.length_drop]
  simp only [Int.toNat_natCast, show (0 : Int).toNat = 0 from rfl, List.getD_eq_getElem?_getD, List.getElem?_drop, Nat.add_zero]
  congr 1
  rw [eq_iff_iff]
  omega
theorem textS_drop : textS L a = textS (L.drop a) 0 := by
  unfold textS
  rw [textOk_drop ha]
  simp [List.drop_drop, Nat.add_comm]
theorem textEnd_drop (h : textOk (L.drop a) 0 = true) : textEnd L a = (a : Int) + textEnd (L.drop a) 0 := by
  unfold textEnd B.bt
  rw [textOk_drop ha, if_pos h, if_pos h]
  simp; omega
theorem digErr_drop : digErr L a = digErr (L.drop a) 0 := by
  unfold digErr
  rw [List.length_drop]
  by_cases h : L.length < a + 32
  · rw [if_pos h, if_pos (by omega)]
  · rw [if_neg h, if_neg (by omega)]
end
set_option maxRecDepth 100000 in
theorem lawtake_any (base g : Nat) (L : List UInt8) (a e : Nat) (k n : Int) (cs : Array Value) (hcs : cs.size = 36) (h0 : cs[0]? = some (.int .i64 k)) (h1 : cs[1]? = some (.int .i64 n)) (w : World) (ha : a ≤ L.length) (hL : L.length ≤ 16000000) (hn : -9223372036854775808 ≤ n ∧ n ≤ 9223372036854775807) (hbw : base ≤ w.heap.size) (h : RdS w base g L a e) :
    Calls Try.prog 41 #[.pointer (some ⟨g, 0, none⟩), .agg cs] w (TkL (if e = 0 then tkPart (L.drop a) k n else prt k 0 0 ⟨#[]⟩ Z32) base g L (if e = 0 ∧ tkErr (L.drop a) k n = 0 then a + tkLen (L.drop a) k else a) (if e = 0 then tkErr (L.drop a) k n else e) w) := by
  have hg := h.lt
  have hw : ∀ W, Below w.heap.size w W → RdS W base g L a e := fun W hW => h.below hW
  have hbW : ∀ W, Below w.heap.size w W → base ≤ W.heap.size := fun W hW => Nat.le_trans hbw hW.size
  by_cases k0 : k = 0
  · refine (take0 _ k n k0 cs hcs h0 h1 w (fun b => b = g) (fun b hb hh => by omega) _ (firm_rd hbw hg) _ (fun W hW => (rnum_any base g L a e n W hn (by omega) (hbW W hW) (hw W hW)).mono (fun _ _ h => tk_of_rd hW hbw h))).mono ?_
    rintro x w' ⟨rfl, hs, hB⟩
    have e1 : tkErr (L.drop a) k n = numErr L a n := by unfold tkErr; rw [if_pos k0, numErr_drop ha]
    have e2 : tkPart (L.drop a) k n = prt k (if numErr L a n = 0 then V.tNum L a else 0 : Nat) 0 ⟨#[]⟩ Z32 := by unfold tkPart; rw [if_pos k0, numErr_drop ha, tNum_drop ha]
    have e3 : tkLen (L.drop a) k = (V.tEnd (L.drop a) 0).toNat := if_pos (.inl k0)
    refine ⟨?_, ?_, hB⟩
    · rw [out0, e2]
      by_cases he : e = 0
      · rw [if_pos he]
        by_cases h2 : numErr L a n = 0
        · rw [if_pos ⟨he, h2⟩, if_pos h2]
        · rw [if_neg (fun h => h2 h.2), if_neg h2]
      · rw [if_neg he, if_neg (fun h => he h.1)]; rfl
    · rw [e1, e3]
      have q1 : rdErr e (numErr L a n) = if e = 0 then numErr L a n else e := rfl
      have q2 : rdAt e (numErr L a n) (numEnd L a n) a = if e = 0 ∧ numErr L a n = 0 then a + (V.tEnd (L.drop a) 0).toNat else a := by
        unfold rdAt
        split
        · rename_i hh
          have h3 : V.tErr (L.drop a) 0 = 0 := by
            have h4 := hh.2; rw [numErr_drop ha, numErr0] at h4
            by_cases h5 : V.tErr (L.drop a) 0 ≠ 0
            · rw [if_pos h5] at h4; exact h4
            · simpa using h5
          obtain ⟨en, hen, -⟩ := num_end h3
          unfold numEnd; rw [if_pos hh.2, tEnd_drop ha h3, hen]; omega
        · rfl
      rw [q1, q2] at hs
      exact hs
  by_cases k1 : k = 1
  · refine (take1 _ k n k1 cs hcs h0 h1 w (fun b => b = g) (fun b hb hh => by omega) _ (firm_rd hbw hg) _ (fun W hW => (rseq_any base g L a e W (by omega) (hbW W hW) (hw W hW)).mono (fun _ _ h => tk_of_rd hW hbw h))).mono ?_
    rintro x w' ⟨rfl, hs, hB⟩
    have e1 : tkErr (L.drop a) k n = V.tErr L a := by unfold tkErr; rw [if_neg k0, if_pos k1, tErr_drop ha]
    have e2 : tkPart (L.drop a) k n = prt k 0 (V.tNum L a) ⟨#[]⟩ Z32 := by unfold tkPart; rw [if_neg k0, if_pos k1, tNum_drop ha]
    have e3 : tkLen (L.drop a) k = (V.tEnd (L.drop a) 0).toNat := if_pos (.inr k1)
    refine ⟨?_, ?_, hB⟩
    · rw [out1, e2]
      by_cases he : e = 0
      · rw [if_pos he, if_pos he]
      · rw [if_neg he, if_neg he]
    · rw [e1, e3]
      have q1 : rdErr e (V.tErr L a) = if e = 0 then V.tErr L a else e := rfl
      have q2 : rdAt e (V.tErr L a) (V.tEnd L a) a = if e = 0 ∧ V.tErr L a = 0 then a + (V.tEnd (L.drop a) 0).toNat else a := by
        unfold rdAt
        split
        · rename_i hh
          have h3 : V.tErr (L.drop a) 0 = 0 := by rw [← tErr_drop ha]; exact hh.2
          obtain ⟨en, hen, -⟩ := num_end h3
          rw [tEnd_drop ha h3, hen]; omega
        · rfl
      rw [q1, q2] at hs
      exact hs
  by_cases k2 : k = 2
  · refine (take2 _ k n k2 cs hcs h0 h1 w (fun b => b = g) (fun b hb hh => by omega) _ (firm_rd hbw hg) _ (fun W hW => (rtext_any base g L a e W (by omega) (hbW W hW) (hw W hW)).mono (fun _ _ h => tk_of_rd hW hbw h))).mono ?_
    rintro x w' ⟨rfl, hs, hB⟩
    have q0 : textErr L a = textErr (L.drop a) 0 := by unfold textErr; rw [textOk_drop ha]; rfl
    have e1 : tkErr (L.drop a) k n = textErr L a := by unfold tkErr; rw [if_neg k0, if_neg k1, if_pos k2, q0]
    have e2 : tkPart (L.drop a) k n = prt k 0 0 (textS L a) Z32 := by unfold tkPart; rw [if_neg k0, if_neg k1, if_pos k2, textS_drop ha]
    have e3 : tkLen (L.drop a) k = (textEnd (L.drop a) 0).toNat := by unfold tkLen; rw [if_neg (by omega), if_pos k2]
    refine ⟨?_, ?_, hB⟩
    · rw [out2, e2]
      by_cases he : e = 0
      · rw [if_pos he, if_pos he]
      · rw [if_neg he, if_neg he]
    · rw [e1, e3]
      have q1 : rdErr e (textErr L a) = if e = 0 then textErr L a else e := rfl
      have q2 : rdAt e (textErr L a) (textEnd L a) a = if e = 0 ∧ textErr L a = 0 then a + (textEnd (L.drop a) 0).toNat else a := by
        unfold rdAt
        split
        · rename_i hh
          have h3 : textOk (L.drop a) 0 = true := by
            rw [← textOk_drop ha]
            have h4 := hh.2
            unfold textErr at h4
            by_cases h5 : textOk L a = true
            · exact h5
            · rw [if_neg h5] at h4; cases h4
          obtain ⟨en, hen, -⟩ := text_end h3
          rw [textEnd_drop ha h3, hen]; omega
        · rfl
      rw [q1, q2] at hs
      exact hs
  · have hout : ∃ d : List UInt8, d.length = 32 ∧ (if e = 0 ∧ digErr L a = 0 then digCells L a else zero32) = (d.map encB).toArray ∧ d = if e = 0 then (if digErr L a = 0 then (L.drop a).take 32 else Z32) else Z32 := by
      by_cases he : e = 0
      · by_cases hd : digErr L a = 0
        · refine ⟨(L.drop a).take 32, ?_, by rw [if_pos ⟨he, hd⟩]; rfl, by rw [if_pos he, if_pos hd]⟩
          unfold digErr at hd
          rw [List.length_take, List.length_drop]
          split at hd
          · cases hd
          · omega
        · exact ⟨Z32, by simp [Z32], by rw [if_neg (fun h => hd h.2)]; rfl, by rw [if_pos he, if_neg hd]⟩
      · exact ⟨Z32, by simp [Z32], by rw [if_neg (fun h => he h.1)]; rfl, by rw [if_neg he]⟩
    obtain ⟨d, hd32, hdo, hdd⟩ := hout
    refine (take3 _ k n k0 k1 k2 cs hcs h0 h1 w (fun b => b = g) (fun b hb hh => by omega) _ (firm_rd hbw hg) ((d.map encB).toArray) (by simp [hd32]) (by simp [encB, Value.oneCell']) (fun W hW => (rdig_any base g L a e W ha (by omega) (hbW W hW) (hw W hW)).mono (fun _ _ h => tk_of_rd hW hbw (hdo ▸ h)))).mono ?_
    rintro x w' ⟨rfl, hs, hB⟩
    have e1 : tkErr (L.drop a) k n = digErr L a := by unfold tkErr; rw [if_neg k0, if_neg k1, if_neg k2, digErr_drop ha]
    have e2 : tkPart (L.drop a) k n = prt k 0 0 ⟨#[]⟩ (if digErr L a = 0 then (L.drop a).take 32 else Z32) := by unfold tkPart; rw [if_neg k0, if_neg k1, if_neg k2, digErr_drop ha]
    have e3 : tkLen (L.drop a) k = 32 := by unfold tkLen; rw [if_neg (by omega), if_neg k2]
    refine ⟨?_, ?_, hB⟩
    · rw [e2, hdd]
      by_cases he : e = 0
      · rw [if_pos he, if_pos he]; rfl
      · rw [if_neg he, if_neg he]; rfl
    · rw [e1, e3]
      have q1 : rdErr e (digErr L a) = if e = 0 then digErr L a else e := rfl
      have q2 : rdAt e (digErr L a) (digEnd L a) a = if e = 0 ∧ digErr L a = 0 then a + 32 else a := by
        unfold rdAt
        split
        · rename_i hh
          have h4 := hh.2
          unfold digErr at h4
          unfold digEnd
          split at h4
          · cases h4
          · rename_i h5; rw [if_neg h5]; omega
        · rfl
      rw [q1, q2] at hs
      exact hs
/-! ### one step of both -/
def stP (x : List UInt8) (e : Nat) (k n : Int) : Array Value := if e = 0 then tkPart x k n else prt k 0 0 ⟨#[]⟩ Z32
def stY (x : List UInt8) (e : Nat) (k n : Int) : List UInt8 := if e = 0 then (if tkErr x k n = 0 then x.drop (tkLen x k) else []) else x
def stE (x : List UInt8) (e : Nat) (k n : Int) : Nat := if e = 0 then tkErr x k n else e
def stA (a : Nat) (x : List UInt8) (e : Nat) (k n : Int) : Nat := if e = 0 ∧ tkErr x k n = 0 then a + tkLen x k else a
theorem reftake_st (A : Option Addr) (c : Nat) (x : List UInt8) (e : Nat) (k n : Int) (w : World) (hm : -9223372036854775808 ≤ n ∧ n ≤ 9223372036854775807) (hl : x.length ≤ 16000000) (hc : x.length ≤ c) (hr : Rd w A x) :
    Calls Try.prog 40 #[.agg (rdC A x.length c e), .int .i64 k, .int .i64 n] w (TkO A x (stP x e k n) (stY x e k n) (stE x e k n) w) := by
  unfold stP stY stE
  by_cases he : e = 0
  · subst he
    exact reftake_any A c x k n w hm hl hc hr
  · rw [if_neg he, if_neg he, if_neg he, ← kp_prt]
    exact rtk_err A c x e k n w he hc hr
theorem tkLen_le {x : List UInt8} {k n : Int} (h : tkErr x k n = 0) : tkLen x k ≤ x.length := by
  unfold tkErr at h
  unfold tkLen
  by_cases k0 : k = 0
  · rw [if_pos k0] at h
    rw [if_pos (.inl k0)]
    have h3 : V.tErr x 0 = 0 := by
      rw [numErr0] at h
      by_cases h5 : V.tErr x 0 ≠ 0
      · rw [if_pos h5] at h; exact h
      · simpa using h5
    obtain ⟨en, hen, hle⟩ := num_end h3
    rw [hen]; simpa using hle
  rw [if_neg k0] at h
  by_cases k1 : k = 1
  · rw [if_pos k1] at h
    rw [if_pos (.inr k1)]
    obtain ⟨en, hen, hle⟩ := num_end h
    rw [hen]; simpa using hle
  rw [if_neg k1] at h
  rw [if_neg (by omega)]
  by_cases k2 : k = 2
  · rw [if_pos k2] at h ⊢
    have h3 : textOk x 0 = true := by
      unfold textErr at h
      by_cases h5 : textOk x ((0 : Nat) : Int) = true
      · exact h5
      · rw [if_neg h5] at h; cases h
    obtain ⟨en, hen, hle⟩ := text_end h3
    rw [hen]; simpa using hle
  · rw [if_neg k2] at h ⊢
    unfold digErr at h
    split at h
    · cases h
    · omega
theorem st_next {L x : List UInt8} {a e : Nat} {k n : Int} (ha : a ≤ L.length) (hx : x = if e = 0 then L.drop a else []) :
    stA a x e k n ≤ L.length ∧ stY x e k n = (if stE x e k n = 0 then L.drop (stA a x e k n) else []) := by
  unfold stA stY stE
  by_cases he : e = 0
  · rw [if_pos he] at hx
    by_cases ht : tkErr x k n = 0
    · rw [if_pos ⟨he, ht⟩, if_pos he, if_pos ht, if_pos he, if_pos ht, hx]
      have h1 := tkLen_le ht
      rw [hx, List.length_drop] at h1
      exact ⟨by omega, by rw [List.drop_drop]⟩
    · rw [if_neg (fun h => ht h.2), if_pos he, if_neg ht, if_pos he, if_neg ht]
      exact ⟨ha, rfl⟩
  · rw [if_neg he] at hx
    rw [if_neg (fun h => he h.1), if_neg he, if_neg he, if_neg he, hx]
    exact ⟨ha, rfl⟩
theorem stP_prt (x : List UInt8) (e : Nat) (k n : Int) : ∃ n' s t d, stP x e k n = prt k n' s t d ∧ d.length = 32 := by
  unfold stP tkPart
  have hz : Z32.length = 32 := by simp [Z32]
  split
  · split
    · exact ⟨_, _, _, _, rfl, hz⟩
    split
    · exact ⟨_, _, _, _, rfl, hz⟩
    split
    · exact ⟨_, _, _, _, rfl, hz⟩
    · refine ⟨_, _, _, _, rfl, ?_⟩
      split
      · rename_i h
        unfold digErr at h
        split at h
        · cases h
        · rw [List.length_take]; omega
      · exact hz
  · exact ⟨_, _, _, _, rfl, hz⟩
theorem prt_self (k n : Int) (s : Nat) (t : ByteArray) (d : List UInt8) (hd : d.length = 32) (W : World) : (binOp .neq 73 (.agg (prt k n s t d)) (.agg (prt k n s t d))).run Try.prog W = .ok (.bool false) W := by
  have h := part_eql k n k n s s t t d d hd hd W
  have h2 := neq_of_eql h
  rw [h2]; simp
theorem lawtake_st (base g : Nat) (L : List UInt8) (a e : Nat) (x : List UInt8) (hx : x = if e = 0 then L.drop a else []) (k n : Int) (cs : Array Value) (hcs : cs.size = 36) (h0 : cs[0]? = some (.int .i64 k)) (h1 : cs[1]? = some (.int .i64 n)) (w : World) (ha : a ≤ L.length) (hL : L.length ≤ 16000000) (hn : -9223372036854775808 ≤ n ∧ n ≤ 9223372036854775807) (hbw : base ≤ w.heap.size) (h : RdS w base g L a e) :
    Calls Try.prog 41 #[.pointer (some ⟨g, 0, none⟩), .agg cs] w (TkL (stP x e k n) base g L (stA a x e k n) (stE x e k n) w) := by
  have h2 := lawtake_any base g L a e k n cs hcs h0 h1 w ha hL hn hbw h
  unfold stP stA stE
  by_cases he : e = 0
  · rw [if_pos he] at hx
    rw [hx]; exact h2
  · rw [if_neg he, if_neg (fun h => he h.1), if_neg he]
    rw [if_neg he, if_neg (fun h => he h.1), if_neg he] at h2
    exact h2
theorem new_ref (m b : List UInt8) : newAt m b ≤ (newL m b).length ∧ (newL m b).length ≤ b.length ∧ refL m b = (if newE m b = 0 then (newL m b).drop (newAt m b) else []) := by
  unfold newAt newL refL
  by_cases h : b.length < m.length + 4
  · rw [if_pos h, if_pos h]
    have he : newE m b = 4 := if_pos h
    rw [he]
    exact ⟨Nat.le_refl _, by simp, rfl⟩
  · rw [if_neg h, if_neg h, List.length_take]
    exact ⟨by omega, by omega, rfl⟩
theorem end_eq {L x : List UInt8} {a e : Nat} (ha : a ≤ L.length) (hx : x = if e = 0 then L.drop a else []) : (if e = 0 ∧ 0 < x.length then 3 else e) = endN L a e := by
  unfold endN
  by_cases he : e = 0
  · rw [if_pos he] at hx
    rw [if_neg (show ¬ e ≠ 0 from fun h => h he), hx, List.length_drop]
    by_cases h : a = L.length
    · rw [if_neg (by omega), if_pos h, he]
    · rw [if_pos ⟨he, by omega⟩, if_neg h]
  · rw [if_neg (fun h => he h.1), if_pos he]
theorem zeroRd (w : World) : (zeroValue 70).run Try.prog w = .ok (.agg #[.slice none 0 0, .int .i64 0]) w := by kernel_rfl
theorem RdS.ne {W : World} {base g k : Nat} {l : List UInt8} {a e : Nat} (h : RdS W base g l a e) {cs : Array Value} {t : TypeId} (hb : W.heap[k]? = some (.cells cs t (0, 0))) (ht : t ≠ 110) : k ≠ g := by
  obtain ⟨hbg, v, hb2, hown⟩ := h
  exact blk_ne hb hb2 ht
theorem setRow_size (w : World) (g : Nat) (cs : Array Value) : (w.setRow g cs).heap.size = w.heap.size := by simp
theorem infoPt' {x : Pt} (h : x.2.2.2.2.length = 32) : (Try.prog.info? 73).map (·.size) = some (prtP x).toList.length := by rw [Array.length_toList]; exact infoPt h
end Go.Proofs.Yteeemiacibjaoaa.Co
