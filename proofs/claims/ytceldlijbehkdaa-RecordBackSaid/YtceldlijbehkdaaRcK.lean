/- records: cells; what is wrong with one. -/
import Derived.Test.YtceldlijbehkdaaRcTagR
import Derived.Test.YtceldlijbehkdaaEqY
import Derived.Test.YtceldlijbehkdaaBox
set_option linter.unusedVariables false
set_option linter.unusedSimpArgs false
namespace Go.Proofs.Ytceldlijbehkdaa.Rc
open Go.RowKit Go.Proofs.YtceldlijbehkdaaW.PrintWords Go.Proofs.Ytceldlijbehkdaa.B
/-- a record's cells -/
def recC (k : Int) (s : Nat) (d : List UInt8) (nm : ByteArray) (A : Option Addr) (m c : Nat) (n z : Int) : Array Value :=
  (Value.int .i64 k :: .int .u64 s :: (d.map encB ++ [.string nm, .slice A m c, .int .i64 n, .int .i64 z])).toArray
structure RecF (X : Array Value) (k : Int) (s : Nat) (d : List UInt8) (nm : ByteArray) (A : Option Addr) (m c : Nat) (n z : Int) : Prop where
  eq : X = recC k s d nm A m c n z
  dl : d.length = 32
section
variable {X : Array Value} {k : Int} {s : Nat} {d : List UInt8} {nm : ByteArray} {A : Option Addr} {m c : Nat} {n z : Int}
theorem recF (hd : d.length = 32) : RecF (recC k s d nm A m c n z) k s d nm A m c n z := ⟨rfl, hd⟩
theorem RecF.c0 (h : RecF X k s d nm A m c n z) : X[0]? = some (.int .i64 k) := by rw [h.eq]; simp [recC]
theorem RecF.c1 (h : RecF X k s d nm A m c n z) : X[1]? = some (.int .u64 s) := by rw [h.eq]; simp [recC]
theorem RecF.tl (h : RecF X k s d nm A m c n z) (j : Nat) : X[2 + 32 + j]? = ([.string nm, .slice A m c, .int .i64 n, .int .i64 z] : List Value)[j]? := by
  rw [h.eq, recC, List.getElem?_toArray, show 2 + 32 + j = (32 + j) + 1 + 1 by omega, List.getElem?_cons_succ, List.getElem?_cons_succ, List.getElem?_append_right (by simp [h.dl])]
  simp [h.dl]
theorem RecF.c34 (h : RecF X k s d nm A m c n z) : X[34]? = some (.string nm) := h.tl 0
theorem RecF.c35 (h : RecF X k s d nm A m c n z) : X[35]? = some (.slice A m c) := h.tl 1
theorem RecF.c36 (h : RecF X k s d nm A m c n z) : X[36]? = some (.int .i64 n) := h.tl 2
theorem RecF.c37 (h : RecF X k s d nm A m c n z) : X[37]? = some (.int .i64 z) := h.tl 3
theorem RecF.size (h : RecF X k s d nm A m c n z) : X.size = 38 := by rw [h.eq]; simp [recC, h.dl]
theorem RecF.dig (h : RecF X k s d nm A m c n z) (j : Nat) (v : Value) (hv : (d.map encB)[j]? = some v) : X[2 + j]? = some v := by
  have hj : j < (d.map encB).length := (List.getElem?_eq_some_iff.1 hv).1
  rw [h.eq, recC, List.getElem?_toArray, show 2 + j = j + 1 + 1 by omega, List.getElem?_cons_succ, List.getElem?_cons_succ, List.getElem?_append_left hj, hv]
theorem RecF.one (h : RecF X k s d nm A m c n z) : X.all (·.oneCell') = true := by
  rw [h.eq, recC]
  refine Array.all_eq_true_iff_forall_mem.2 (fun v hv => ?_)
  rw [List.mem_toArray] at hv
  rcases List.mem_cons.1 hv with rfl | hv
  · rfl
  rcases List.mem_cons.1 hv with rfl | hv
  · rfl
  rcases List.mem_append.1 hv with hv | hv
  · obtain ⟨y, -, rfl⟩ := List.mem_map.1 hv; rfl
  · simp at hv
    rcases hv with rfl | rfl | rfl | rfl <;> rfl
/-- the digest of a boxed record is read -/
theorem RecF.rd (h : RecF X k s d nm A m c n z) {W : World} {g : Nat} {t : TypeId} {fr : Nat × Nat} (hg : W.heap[g]? = some (.cells X t fr)) : Rd W (some ⟨g, 2, none⟩) d :=
  rd_at (range_blk hg (fun j v hv => h.dig j v hv)) (by rw [h.dl]; decide)
end
theorem infoRec : (Try.prog.info? 27).map (·.size) = some 38 := by kernel_rfl
/-- what is wrong with a record -/
def rightE (k : Int) (m : Nat) (nm : List UInt8) (n z : Int) : Nat :=
  if k = 1 ∨ k = 2 then (if 65504 < m then 18 else 0)
  else if k = 3 ∨ k = 4 then (if tagB nm then 0 else 12)
  else if k = 5 then 0
  else if k = 6 ∨ k = 8 then (if 0 ≤ n ∧ n ≤ 4294967295 ∧ 0 ≤ z ∧ z ≤ 4294967295 then 0 else 20)
  else if k = 7 then (if 1 ≤ n ∧ n ≤ 99999999 then 0 else 20)
  else 2
end Go.Proofs.Ytceldlijbehkdaa.Rc
