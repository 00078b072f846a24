/- How long a slice can be that lies in a struct that is read. -/
import Derived.Test.YtkgbimkjpllakaaSizedSl
set_option linter.unusedVariables false
set_option linter.unusedSimpArgs false
namespace Go.Proofs.Ytkgbimkjpllakaa.O
open Go.ChangeShapes Go.WideShapes Go.RowKit Go.Deep
variable {P : Program} {e : TypeId}
theorem sized_fld {H : Type} {enc : TypeId × Value → H} {W : World} {base : Nat} {spare : Nat → Bool} {held : Bool} {t : TypeId} {cs : Array Value} {d : DataW H} {ps : List MemPlace} {ts : List TypeId} {ds : List (DataW H)} {j : Nat} {fs : Array Field}
    (hsz : (DataW.weightsEach P ts ds).all (· ≤ reachBytes) = true) (ht : ts[j]? = some t) (hd : ds[j]? = some d) (hu : P.underlying t = some (.struct fs)) {i : Nat} {f : Field} (hf : fs[i]? = some f) (hue : P.underlying f.type = some (.slice e)) {B : Nat} (hB : P.bytesOf e = B) (hc : P.cellsOf f.type = 1)
    (h : DataW.Trod enc P W base spare held t (.agg cs) d ps) {A : Option Addr} {len cap : Nat} (hcs : cs.toList[f.offset]? = some (.slice A len cap)) : len * B ≤ 140737488351232 := by
  obtain ⟨fuel, hfu⟩ := h
  obtain ⟨xs, n, _, hx, _, hlen, hfi⟩ := DataW.trod_struct hu hfu
  have h1 := hfi i f hf
  have hi : i < fs.size := (Array.getElem?_eq_some_iff.1 hf).1
  have hi2 : i < xs.length := by omega
  obtain ⟨hd1, _⟩ := Prod.mk.inj hx
  have hcell : (cs.toList.drop f.offset).take 1 = [.slice A len cap] := by
    obtain ⟨h3, h4⟩ := List.getElem?_eq_some_iff.1 hcs
    rw [List.drop_eq_getElem_cons h3, List.take_succ_cons, h4]; rfl
  rw [hc] at h1
  have hcells : (Value.agg cs).cells = cs := rfl
  rw [hcells, hcell, List.getElem?_eq_getElem hi2] at h1
  have hsz2 : (DataW.weightsEach P (fs.toList.map (·.type)) (xs.map (·.1))).all (· ≤ reachBytes) = true := by
    rw [List.all_eq_true] at hsz ⊢
    intro m hm
    exact hsz m (DataW.weights_mem_each ht hd m (by rw [hd1]; simp only [DataW.weights, hu]; exact hm))
  refine sized_sl (j := i) (t := f.type) (d := (xs[i]).1) (ps := (xs[i]).2) (a := A) (cap := cap) (base := base) (W := W) (spare := spare) (held := held) (enc := enc) hsz2 ?_ ?_ hue hB ⟨n, by simpa [Value.cells] using h1⟩
  · rw [List.getElem?_map, Array.getElem?_toList, hf]; rfl
  · rw [List.getElem?_map, List.getElem?_eq_getElem hi2]; rfl
end Go.Proofs.Ytkgbimkjpllakaa.O
