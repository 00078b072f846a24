/- records: what an argument's reading gives. -/
import Derived.Test.YtceldlijbehkdaaOpen
import Derived.Test.YtceldlijbehkdaaRcWEq
import Derived.SizedLaws
import Derived.ChangeSlices
set_option linter.unusedVariables false
set_option linter.unusedSimpArgs false
namespace Go.Proofs.Ytceldlijbehkdaa.O
open Go.ChangeShapes Go.WideShapes Go.RowKit Go.Deep
section
variable {P : Program} {e : TypeId}
theorem sized_sl {H : Type} {enc : TypeId × Value → H} {W : World} {base : Nat} {spare : Nat → Bool} {held : Bool} {t : TypeId} {a : Option Addr} {len cap : Nat} {d : DataW H} {ps : List MemPlace} {ts : List TypeId} {ds : List (DataW H)} {j : Nat}
    (hsz : (DataW.weightsEach P ts ds).all (· ≤ reachBytes) = true) (ht : ts[j]? = some t) (hd : ds[j]? = some d) (hu : P.underlying t = some (.slice e)) {B : Nat} (hB : P.bytesOf e = B)
    (h : DataW.Trod enc P W base spare held t (.slice a len cap) d ps) : len * B ≤ 140737488351232 := by
  obtain ⟨fuel, hf⟩ := h
  rcases open_slice hu hf with ⟨hcs, _⟩ | ⟨a', len', cap', n, k, D, Pl, hcs, hb, hl, hm, hn, hx, hel⟩
  · simp [Value.cells] at hcs
    obtain ⟨rfl, rfl, rfl⟩ := hcs
    simp
  · simp [Value.cells] at hcs
    obtain ⟨rfl, rfl, rfl⟩ := hcs
    obtain ⟨hx, _⟩ := Prod.mk.inj hx
    subst hx
    have z := sized_slice hsz ht hd hu
    rw [hB] at z
    refine Nat.le_trans (Nat.mul_le_mul_right _ ?_) z
    simp
    try omega
theorem sized_fld {H : Type} {enc : TypeId × Value → H} {W : World} {base : Nat} {spare : Nat → Bool} {held : Bool} {t : TypeId} {cs : Array Value} {d : DataW H} {ps : List MemPlace} {ts : List TypeId} {ds : List (DataW H)} {j : Nat} {fs : Array Field}
    (hsz : (DataW.weightsEach P ts ds).all (· ≤ reachBytes) = true) (ht : ts[j]? = some t) (hd : ds[j]? = some d) (hu : P.underlying t = some (.struct fs)) {i : Nat} {f : Field} (hf : fs[i]? = some f) (hue : P.underlying f.type = some (.slice e)) {B : Nat} (hB : P.bytesOf e = B) (hc : P.cellsOf f.type = 1)
    (h : DataW.Trod enc P W base spare held t (.agg cs) d ps) {A : Option Addr} {len cap : Nat} (hcs : cs.toList[f.offset]? = some (.slice A len cap)) : len * B ≤ 140737488351232 := by
  obtain ⟨fuel, hfu⟩ := h
  obtain ⟨xs, n, _, hx, _, hlen, hfi⟩ := DataW.trod_struct hu hfu
  have h1 := hfi i f hf
  have hi : i < fs.size := (Array.getElem?_eq_some_iff.1 hf).1
  have hi2 : i < xs.length := by omega
  obtain ⟨hd1, _⟩ := Prod.mk.inj hx
  have hcell : (cs.toList.drop f.offset).take 1 = [.slice A len cap] := by
    obtain ⟨h3, h4⟩ := List.getElem?_eq_some_iff.1 hcs
    rw [List.drop_eq_getElem_cons h3, List.take_succ_cons, h4]; rfl
  rw [hc] at h1
  have hcells : (Value.agg cs).cells = cs := rfl
  rw [hcells, hcell, List.getElem?_eq_getElem hi2] at h1
  have hsz2 : (DataW.weightsEach P (fs.toList.map (·.type)) (xs.map (·.1))).all (· ≤ reachBytes) = true := by
    rw [List.all_eq_true] at hsz ⊢
    intro m hm
    exact hsz m (DataW.weights_mem_each ht hd m (by rw [hd1]; simp only [DataW.weights, hu]; exact hm))
  refine sized_sl (j := i) (t := f.type) (d := (xs[i]).1) (ps := (xs[i]).2) (a := A) (cap := cap) (base := base) (W := W) (spare := spare) (held := held) (enc := enc) hsz2 ?_ ?_ hue hB ⟨n, by simpa [Value.cells] using h1⟩
  · rw [List.getElem?_map, Array.getElem?_toList, hf]; rfl
  · rw [List.getElem?_map, List.getElem?_eq_getElem hi2]; rfl
end
theorem sized_str {P : Program} {H : Type} {enc : TypeId × Value → H} {W : World} {base : Nat} {spare : Nat → Bool} {held : Bool} {t : TypeId} {cs : Array Value} {d : DataW H} {ps : List MemPlace} {ts : List TypeId} {ds : List (DataW H)} {j : Nat} {fs : Array Field}
    (hsz : (DataW.weightsEach P ts ds).all (· ≤ reachBytes) = true) (ht : ts[j]? = some t) (hd : ds[j]? = some d) (hu : P.underlying t = some (.struct fs)) {i : Nat} {f : Field} (hf : fs[i]? = some f) (hue : P.underlying f.type = some .string) (hc : P.cellsOf f.type = 1)
    (h : DataW.Trod enc P W base spare held t (.agg cs) d ps) {s : ByteArray} (hcs : cs.toList[f.offset]? = some (.string s)) : s.size ≤ 140737488351232 := by
  obtain ⟨fuel, hfu⟩ := h
  obtain ⟨xs, n, _, hx, _, hlen, hfi⟩ := DataW.trod_struct hu hfu
  have h1 := hfi i f hf
  have hi : i < fs.size := (Array.getElem?_eq_some_iff.1 hf).1
  have hi2 : i < xs.length := by omega
  obtain ⟨hd1, _⟩ := Prod.mk.inj hx
  have hcell : (cs.toList.drop f.offset).take 1 = [.string s] := by
    obtain ⟨h3, h4⟩ := List.getElem?_eq_some_iff.1 hcs
    rw [List.drop_eq_getElem_cons h3, List.take_succ_cons, h4]; rfl
  rw [hc] at h1
  have hcells : (Value.agg cs).cells = cs := rfl
  rw [hcells, hcell, List.getElem?_eq_getElem hi2] at h1
  have hsz2 : (DataW.weightsEach P (fs.toList.map (·.type)) (xs.map (·.1))).all (· ≤ reachBytes) = true := by
    rw [List.all_eq_true] at hsz ⊢
    intro m hm
    exact hsz m (DataW.weights_mem_each ht hd m (by rw [hd1]; simp only [DataW.weights, hu]; exact hm))
  obtain ⟨s', e1, e2, -⟩ := DataW.trod_string hue h1
  obtain rfl : s = s' := by simpa using e1
  have z := sized_string (j := i) (t := f.type) (bytes := s.data.toList) hsz2 (by rw [List.getElem?_map, Array.getElem?_toList, hf]; rfl) (by rw [List.getElem?_map, List.getElem?_eq_getElem hi2, e2]; rfl)
  rw [Array.length_toList] at z
  exact z
end Go.Proofs.Ytceldlijbehkdaa.O
namespace Go.Proofs.Ytceldlijbehkdaa.Rc
open Go.RowKit Go.Proofs.YtceldlijbehkdaaW.PrintWords Go.Proofs.Ytceldlijbehkdaa.B Go.Proofs.Ytceldlijbehkdaa.Fx Go.Proofs.Ytceldlijbehkdaa.Fr Go.Proofs.Ytceldlijbehkdaa.O
abbrev RecV : Type := Int64 × UInt64 × List UInt8 × ByteArray × List UInt8 × Int64 × Int64
abbrev LocV : Type := Int64 × Int64 × Int64
def kD : Kd (List UInt8) := Kd.arr 32 u8 (by decide)
def kRec : Kd RecV := Kd.pair O.i64 (Kd.pair O.u64 (Kd.pair kD (Kd.pair Kd.string (Kd.pair (Kd.slice 5 u8) (Kd.pair O.i64 O.i64)))))
def kLoc : Kd LocV := Kd.pair O.i64 (Kd.pair O.i64 O.i64)
def mi (x : Int64) : Nat := 1
def mu (x : UInt64) : Nat := 1
def mS (s : ByteArray) : Nat := s.size + 1
def mB (x : UInt8) : Nat := 1
def mRec (x : RecV) : Nat := mi x.1 + (mu x.2.1 + (ms mB x.2.2.1 + (mS x.2.2.2.1 + (ms mB x.2.2.2.2.1 + (mi x.2.2.2.2.2.1 + mi x.2.2.2.2.2.2))))) + 1
def mLoc (x : LocV) : Nat := mi x.1 + (mi x.2.1 + mi x.2.2) + 1
theorem opnI : Opn Try.prog 3 O.i64 mi := opn_i64 Try.underlying3 (by kernel_rfl)
theorem opnD : Opn Try.prog 25 kD (ms mB) := opn_arr (by decide) Try.underlying25 (by kernel_rfl) (show Opn Try.prog 5 u8 mB from opn_u8 Try.underlying5 (by kernel_rfl))
theorem opnB : Opn Try.prog 22 (Kd.slice 5 u8) (ms mB) := opn_slice Try.underlying22 (by kernel_rfl) (show Opn Try.prog 5 u8 mB from opn_u8 Try.underlying5 (by kernel_rfl))
theorem opnRec : Opn Try.prog 27 kRec mRec :=
  opn_struct Try.underlying27 (by kernel_rfl)
    (opnF_cons rfl opnI
      (opnF_cons rfl (show Opn Try.prog 23 O.u64 mu from opn_u64 Try.underlying23 (by kernel_rfl))
        (opnF_cons rfl opnD
          (opnF_cons rfl (show Opn Try.prog 9 Kd.string mS from opn_string Try.underlying9 (by kernel_rfl))
            (opnF_cons rfl opnB (opnF_cons rfl opnI (opnF_one rfl opnI)))))))
theorem opnLoc : Opn Try.prog 44 kLoc mLoc :=
  opn_struct Try.underlying44 (by kernel_rfl) (opnF_cons rfl opnI (opnF_cons rfl opnI (opnF_one rfl opnI)))
/-- 32 bytes' cells -/
theorem kD_cells {w : World} {d : List UInt8} {cs : List Value} (h : kD.K w d cs) : d.length = 32 ∧ cs = d.map encB := by
  obtain ⟨h1, h2, h3⟩ := h
  refine ⟨h1, ?_⟩
  have h2' : cs.length = d.length * 1 := h2
  apply List.ext_getElem
  · simp [h2']
  · intro i hi hi2
    have hid : i < d.length := by omega
    have h4 : (cs.drop (i * 1)).take 1 = [encB d[i]] := h3 i d[i] (by simp [hid])
    rw [Nat.mul_one, List.drop_eq_getElem_cons hi, List.take_succ_cons] at h4
    injection h4 with h4
    rw [h4, List.getElem_map]
theorem kRec_cells {w : World} {x : RecV} {cs : Array Value} (h : kRec.K w x cs.toList) :
    ∃ A c, RecF cs x.1.toInt x.2.1.toNat x.2.2.1 x.2.2.2.1 A x.2.2.2.2.1.length c x.2.2.2.2.2.1.toInt x.2.2.2.2.2.2.toInt ∧ x.2.2.2.2.1.length ≤ c ∧ Rd w A x.2.2.2.2.1 := by
  obtain ⟨c0, r0, e0, h0, c1, r1, rfl, h1, c2, r2, rfl, h2, c3, r3, rfl, h3, c4, r4, rfl, ⟨A, c, h4, hc, hr⟩, c5, r5, rfl, h5, h6⟩ := h
  obtain ⟨h7, h8⟩ := kD_cells h2
  refine ⟨A, c, ⟨?_, h7⟩, hc, hr⟩
  apply Array.ext'
  rw [e0, show c0 = [_] from h0, show c1 = [_] from h1, show c3 = [_] from h3, show c4 = [_] from h4, show c5 = [_] from h5, show r5 = [_] from h6, h8]
  simp [recC]
theorem kLoc_cells {w : World} {x : LocV} {cs : Array Value} (h : kLoc.K w x cs.toList) : cs = #[.int .i64 x.1.toInt, .int .i64 x.2.1.toInt, .int .i64 x.2.2.toInt] := by
  obtain ⟨c0, r0, e0, h0, c1, r1, rfl, h1, h2⟩ := h
  apply Array.ext'
  rw [e0, show c0 = [_] from h0, show c1 = [_] from h1, show r1 = [_] from h2]
  rfl
theorem i64_bd (x : Int64) : -9223372036854775808 ≤ x.toInt ∧ x.toInt ≤ 9223372036854775807 := by
  have h1 := x.le_toInt; have h2 := x.toInt_lt; omega
end Go.Proofs.Ytceldlijbehkdaa.Rc
