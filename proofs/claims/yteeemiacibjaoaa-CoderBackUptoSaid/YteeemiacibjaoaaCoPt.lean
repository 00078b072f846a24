/- parts in a slice: what is read; which bytes they are. -/
import Derived.Test.YteeemiacibjaoaaOpen
import Derived.Test.YteeemiacibjaoaaCoEq
set_option linter.unusedVariables false
set_option linter.unusedSimpArgs false
namespace Go.Proofs.Yteeemiacibjaoaa.Co
open Go.RowKit Go.Proofs.YteeemiacibjaoaaW.PrintWords Go.Proofs.Yteeemiacibjaoaa.B Go.Proofs.Yteeemiacibjaoaa.Fx Go.Proofs.Yteeemiacibjaoaa.Fr Go.Proofs.Yteeemiacibjaoaa.O

abbrev Pt : Type := Int64 × Int64 × UInt64 × ByteArray × List UInt8
def kD : Kd (List UInt8) := Kd.arr 32 u8 (by decide)
def kPt : Kd Pt := Kd.pair O.i64 (Kd.pair O.i64 (Kd.pair O.u64 (Kd.pair Kd.string kD)))
def mi (x : Int64) : Nat := 1
def mu (x : UInt64) : Nat := 1
def mS (s : ByteArray) : Nat := s.size + 1
def mB (x : UInt8) : Nat := 1
def mPt (x : Pt) : Nat := mi x.1 + (mi x.2.1 + (mu x.2.2.1 + (mS x.2.2.2.1 + ms mB x.2.2.2.2))) + 1
theorem opnD : Opn Try.prog 52 kD (ms mB) := opn_arr (by decide) Try.underlying52 (by kernel_rfl) (show Opn Try.prog 5 u8 mB from opn_u8 Try.underlying5 (by kernel_rfl))
theorem opnPt : Opn Try.prog 73 kPt mPt :=
  opn_struct Try.underlying73 (by kernel_rfl)
    (opnF_cons rfl (show Opn Try.prog 3 O.i64 mi from opn_i64 Try.underlying3 (by kernel_rfl))
      (opnF_cons rfl (show Opn Try.prog 3 O.i64 mi from opn_i64 Try.underlying3 (by kernel_rfl))
        (opnF_cons rfl (show Opn Try.prog 23 O.u64 mu from opn_u64 Try.underlying23 (by kernel_rfl))
          (opnF_cons rfl (show Opn Try.prog 9 Kd.string mS from opn_string Try.underlying9 (by kernel_rfl)) (opnF_one rfl opnD)))))
/-- 32 bytes' cells -/
theorem kD_cells {w : World} {d : List UInt8} {cs : List Value} (h : kD.K w d cs) : d.length = 32 ∧ cs = d.map encB := by
  obtain ⟨h1, h2, h3⟩ := h
  refine ⟨h1, ?_⟩
  have h2' : cs.length = d.length * 1 := h2
  apply List.ext_getElem
  · simp [h2']
  · intro i hi hi2
    have hid : i < d.length := by omega
    have h4 : (cs.drop (i * 1)).take 1 = [encB d[i]] := h3 i d[i] (by simp [hid])
    rw [Nat.mul_one, List.drop_eq_getElem_cons hi, List.take_succ_cons] at h4
    injection h4 with h4
    rw [h4, List.getElem_map]
def prtP (x : Pt) : Array Value := prt x.1.toInt x.2.1.toInt x.2.2.1.toNat x.2.2.2.1 x.2.2.2.2
theorem prtP_list (x : Pt) : (prtP x).toList = .int .i64 x.1.toInt :: .int .i64 x.2.1.toInt :: .int .u64 x.2.2.1.toNat :: .string x.2.2.2.1 :: x.2.2.2.2.map encB := by simp [prtP, prt]
theorem prtP_size {x : Pt} (h : x.2.2.2.2.length = 32) : (prtP x).size = 36 := by unfold prtP prt; simp [h]
theorem kPt_cells {w : World} {x : Pt} {cs : List Value} (h : kPt.K w x cs) : x.2.2.2.2.length = 32 ∧ cs = (prtP x).toList := by
  obtain ⟨c0, r0, rfl, h0, c1, r1, rfl, h1, c2, r2, rfl, h2, c3, r3, rfl, h3, h4⟩ := h
  obtain ⟨h5, h6⟩ := kD_cells h4
  refine ⟨h5, ?_⟩
  rw [show c0 = [_] from h0, show c1 = [_] from h1, show c2 = [_] from h2, show c3 = [_] from h3, h6]
  simp [prtP, prt]
def RdP (w : World) (A : Option Addr) (l : List Pt) : Prop := kPt.C w A l.length l
theorem RdP.below {w w1 : World} {A : Option Addr} {l : List Pt} (h : RdP w A l) (hb : Below w.heap.size w w1) : RdP w1 A l := Kd.C_below h hb
theorem RdP.len {w : World} {A : Option Addr} {l : List Pt} (h : RdP w A l) : l.length ≤ 9223372036854775807 := h.2.1
def pt (l : List Pt) (i : Nat) : Pt := l.getD i (0, 0, 0, ⟨#[]⟩, [])
theorem field_cell' {w : World} {ad : Addr} {m j : Nat} {v : Value} (h : w.cell? (ad.add (m + (j + 1))) = some v) : w.cell? { block := (ad.add m).block, off := (ad.add m).off + (j + 1) } = some v := by
  rw [← h]
  unfold Addr.add
  rw [if_neg (show ¬ m + (j + 1) = 0 by omega)]
  by_cases hm : m = 0
  · subst hm; simp
  · rw [if_neg hm]; simp [Nat.add_assoc]
/-- an element's cells -/
theorem RdP.cells {w : World} {A : Option Addr} {l : List Pt} (h : RdP w A l) (i : Nat) (hi : i < l.length) :
    ∃ ad, A = some ad ∧ (pt l i).2.2.2.2.length = 32 ∧ ∀ j v, (prtP (pt l i)).toList[j]? = some v → w.cell? (ad.add (i * 36 + j)) = some v := by
  obtain ⟨ad, c, e, hl, hK, hc⟩ := Kd.C_get h (0, 0, 0, ⟨#[]⟩, []) (i : Int) (by omega) (by omega)
  rw [Int.toNat_natCast] at hK hc
  obtain ⟨h1, h2⟩ := kPt_cells hK
  subst h2
  exact ⟨ad, e, h1, fun j v hv => hc j v hv⟩
/-- as the walk spells them -/
theorem RdP.walk {w : World} {A : Option Addr} {l : List Pt} (h : RdP w A l) (i : Nat) (hi : i < l.length) :
    ∃ ad, A = some ad ∧ (pt l i).2.2.2.2.length = 32 ∧ w.cell? (ad.add (i * 36)) = some (.int .i64 (pt l i).1.toInt) ∧ w.cell? { block := (ad.add (i * 36)).block, off := (ad.add (i * 36)).off + 1 } = some (.int .i64 (pt l i).2.1.toInt) ∧ w.cell? { block := (ad.add (i * 36)).block, off := (ad.add (i * 36)).off + 2 } = some (.int .u64 (pt l i).2.2.1.toNat) ∧ w.cell? { block := (ad.add (i * 36)).block, off := (ad.add (i * 36)).off + 3 } = some (.string (pt l i).2.2.2.1) ∧
      w.rangeAt (ad.add (i * 36)).block ((ad.add (i * 36)).off + 4) ((pt l i).2.2.2.2.map encB) ∧ w.rangeAt (ad.add (i * 36)).block (ad.add (i * 36)).off (prtP (pt l i)).toList ∧ Hid (Value.pointer (some (ad.add (i * 36))) = .pointer (some ⟨(ad.add (i * 36)).block, (ad.add (i * 36)).off, none⟩)) := by
  obtain ⟨ad, e, h1, hc⟩ := h.cells i hi
  have h0 : w.cell? (ad.add (i * 36)) = some (.int .i64 (pt l i).1.toInt) := hc 0 _ (by rw [prtP_list]; rfl)
  have e0 : ad.add (i * 36) = ⟨(ad.add (i * 36)).block, (ad.add (i * 36)).off, none⟩ := by
    have hk : (ad.add (i * 36)).spot = none := by
      generalize ad.add (i * 36) = a at h0
      unfold World.cell? at h0
      cases hs : a.spot with
      | none => rfl
      | some x => rw [hs] at h0; split at h0 <;> simp at h0
    generalize ad.add (i * 36) = a at hk
    cases a; simp at hk; simp [hk]
  have hr : w.rangeAt (ad.add (i * 36)).block (ad.add (i * 36)).off (prtP (pt l i)).toList := by
    intro j v hv
    cases j with
    | zero => rw [Nat.add_zero, ← e0]; exact hc 0 v hv
    | succ j => exact field_cell' (hc (j + 1) v hv)
  refine ⟨ad, e, h1, h0, hr 1 _ (by rw [prtP_list]; rfl), hr 2 _ (by rw [prtP_list]; rfl), hr 3 _ (by rw [prtP_list]; rfl), ?_, hr, congrArg (fun q => Value.pointer (some q)) e0⟩
  intro j v hv
  rw [Nat.add_assoc]
  refine hr (4 + j) v ?_
  rw [prtP_list, show 4 + j = j + 1 + 1 + 1 + 1 by omega]
  exact hv
theorem RdP.walk' {w : World} {ad : Addr} {l : List Pt} (h : RdP w (some ad) l) (i : Nat) (hi : i < l.length) :
    w.cell? (ad.add (i * 36)) = some (.int .i64 (pt l i).1.toInt) ∧ w.cell? { block := (ad.add (i * 36)).block, off := (ad.add (i * 36)).off + 1 } = some (.int .i64 (pt l i).2.1.toInt) ∧ w.rangeAt (ad.add (i * 36)).block (ad.add (i * 36)).off (prtP (pt l i)).toList ∧ Hid (Value.pointer (some (ad.add (i * 36))) = .pointer (some ⟨(ad.add (i * 36)).block, (ad.add (i * 36)).off, none⟩)) := by
  obtain ⟨ad', e, h1, c0, c1, -, -, -, hr, h0⟩ := h.walk i hi
  injection e with e; subst e
  exact ⟨c0, c1, hr, h0⟩
/-! ### which bytes parts are -/
def okP (p : Pt) : Bool := if p.1.toInt = 0 then decide (0 ≤ p.2.1.toInt) else if p.1.toInt = 1 then true else if p.1.toInt = 2 then decide (p.2.2.2.1.size ≤ 255) else true
def encP (p : Pt) : List UInt8 :=
  if p.1.toInt = 0 then V.enc p.2.1.toInt.toNat else if p.1.toInt = 1 then V.enc p.2.2.1.toNat
  else if p.1.toInt = 2 then (if p.2.2.2.1.data.toList.length ≤ 255 then UInt8.ofNat p.2.2.2.1.data.toList.length :: p.2.2.2.1.data.toList else []) else p.2.2.2.2
def wrB (m : List UInt8) (l : List Pt) : List UInt8 := m ++ (l.map encP).flatten
def okL (l : List Pt) : Bool := l.all okP
theorem wrB_nil (m : List UInt8) : wrB m [] = m := by simp [wrB]
theorem wrB_snoc (m : List UInt8) (l : List Pt) (p : Pt) : wrB m (l ++ [p]) = wrB m l ++ encP p := by simp [wrB]
theorem okL_snoc (l : List Pt) (p : Pt) : okL (l ++ [p]) = (okL l && okP p) := by simp [okL]
theorem take_snoc (l : List Pt) (k : Nat) (h : k < l.length) : l.take (k + 1) = l.take k ++ [pt l k] := by
  rw [List.take_succ_eq_append_getElem h]; simp [pt, h]
theorem okL_false {l : List Pt} {k : Nat} (h : okL (l.take k) = false) : okL l = false := by
  rw [← List.take_append_drop k l]
  simp only [okL, List.all_append] at h ⊢
  rw [h]; rfl
theorem putText_enc (b t : List UInt8) : putTextL b t = b ++ (if t.length ≤ 255 then UInt8.ofNat t.length :: t else []) := by
  unfold putTextL; split <;> simp
theorem toInt_lt (x : Int64) : x.toInt.toNat < 18446744073709551616 := by have := x.toInt_lt; omega
theorem encP_len (p : Pt) : (encP p).length ≤ 2 * mPt p := by
  have h1 := V.enc_len10 (toInt_lt p.2.1)
  have h2 := V.enc_len10 p.2.2.1.toNat_lt
  have h3 := ms_len (m := mB) (fun _ => Nat.le_refl 1) p.2.2.2.2
  have h4 : p.2.2.2.1.data.toList.length = p.2.2.2.1.size := by simp
  unfold encP mPt mi mu mS
  split; · omega
  split; · omega
  split
  · split
    · rw [List.length_cons]; omega
    · simp
  · omega
theorem encL_len : ∀ l : List Pt, (l.map encP).flatten.length ≤ 2 * (l.map mPt).sum
  | [] => by simp
  | p :: l => by
    have h1 := encP_len p
    have h2 := encL_len l
    simp only [List.map_cons, List.flatten_cons, List.length_append, List.sum_cons]; omega
theorem wrB_len (m : List UInt8) (l : List Pt) : (wrB m l).length ≤ m.length + 2 * ms mPt l := by
  have := encL_len l
  unfold wrB ms
  rw [List.length_append]; omega
theorem ms_take (l : List Pt) (k : Nat) : ms mPt (l.take k) ≤ ms mPt l := by
  have h : ((l.take k).map mPt).sum + ((l.drop k).map mPt).sum = (l.map mPt).sum := by
    rw [← List.sum_append, ← List.map_append, List.take_append_drop]
  unfold ms; omega
end Go.Proofs.Yteeemiacibjaoaa.Co
