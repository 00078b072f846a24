/- coder: the digest's closure. -/
import Derived.Test.YteeemiacibjaoaaCoR2
import Derived.Test.YteeemiacibjaoaaCopyAt
set_option linter.unusedVariables false
set_option linter.unusedSimpArgs false
namespace Go.Proofs.Yteeemiacibjaoaa.Co
open Go.RowKit Go.Proofs.YteeemiacibjaoaaW.PrintWords Go.Proofs.Yteeemiacibjaoaa.B Go.Proofs.Yteeemiacibjaoaa.Fx Go.Proofs.Yteeemiacibjaoaa.Fr

/-- a digest read -/
def digCells (l : List UInt8) (at' : Nat) : Array Value := (((l.drop at').take 32).map encB).toArray
def digErr (l : List UInt8) (at' : Nat) : Nat := if l.length < at' + 32 then 4 else 0
def digEnd (l : List UInt8) (at' : Nat) : Int := if l.length < at' + 32 then 0 else (at' : Int) + 32
set_option maxRecDepth 100000 in
set_option maxHeartbeats 800000 in
theorem dig1_any (at' g r o : Nat) (A : Option Addr) (c : Nat) (l : List UInt8) (cur : List Value) (hcu : cur.length = 32) (w : World) (hl : l.length ≤ 140737488355328) (hat : at' ≤ l.length) (hc : l.length ≤ c) (hr : Rd w A l)
    (hg : w.heap[g]? = some (.cells #[.slice A l.length c, .int .i64 at', .int .i64 0] 110 (0, 0))) (hbr : w.heap[r]? = some (.cells #[.pointer (some ⟨g, 0, none⟩)] 65 (0, 0))) (hbo : w.heap[o]? = some (.cells cur.toArray 52 (0, 0))) :
    Calls Try.prog 93 #[.int .i64 at', .pointer (some ⟨r, 0, none⟩), .pointer (some ⟨o, 0, none⟩)] w (ClosD (digEnd l at') (digErr l at') (fun W => if digErr l at' = 0 then W.heap[o]? = some (.cells (digCells l at') 52 (0, 0)) ∧ Below o w W else W = w)) := by
  have HR := Lib.hid hr
  have HC := Lib.hid hcu
  have hcg := fun i => blk_cell hg i
  have hcr := fun i => blk_cell hbr i
  have HO := Lib.hid hbo
  have hco := fun i => blk_cell hbo i
  have hfo := fun i => blk_frozen hbo i
  have hz := blk_lt hg
  have hz1 := blk_lt hbr
  have hz2 := blk_lt hbo
  clear hg hbr hbo hr hcu
  by_cases h1 : l.length < at' + 32
  · have h2 : digEnd l at' = 0 := if_pos h1
    have h3 : digErr l at' = 4 := if_pos h1
    rw [h2, h3]
    clear h2 h3
    go_enter Try.func93, Try.ntmps93
    go_wp2_with fail
    go_ret2
    exact ⟨rfl, rfl⟩
  · have h2 : digEnd l at' = (at' : Int) + 32 := if_neg h1
    have h3 : digErr l at' = 0 := if_neg h1
    rw [h2, h3]
    obtain ⟨A', y, c', hy, hcut, hrd, hyc, hyl⟩ := cutF (A := A) (l := l) (c := c) (at' : Int) (by omega) (by omega) hc
    rw [Int.toNat_natCast] at hyl
    have hdc : digCells l at' = ((y.take 32).map encB).toArray := by unfold digCells; rw [hy.out, Int.toNat_natCast]
    have H5 := Lib.hid hdc
    have hy32 : 32 ≤ y.length := by omega
    have hw : IntKind.i64.wrap ((at' : Int) + 32) = (at' : Int) + 32 := IntWalk.i64_in _ (by omega)
    have hcl : (encs encB (y.take 32)).length = 32 := by simp [encs]; omega
    have HCL := Lib.hid hcl
    have HY := Lib.hid (hrd w HR.out)
    obtain ⟨ad, rfl, -⟩ := HY.out.at_ 0 (by omega)
    have hsp : splice cur 0 (encs encB (y.take 32)) = encs encB (y.take 32) := by
      unfold splice; rw [List.take_zero, List.nil_append, List.drop_of_length_le (by rw [HC.out]; omega), List.append_nil]
    have HSP := Lib.hid hsp
    have HS := Lib.hid (HY.out.take (m := 32) hy32).src
    have HONE := Lib.hid (show ∀ v ∈ encs encB (y.take 32), v.oneCell' = true from by
      intro v hv
      obtain ⟨x, -, rfl⟩ := List.mem_map.1 hv
      rfl)
    clear h2 h3 hdc hcl hsp hy hyl
    go_enter Try.func93, Try.ntmps93
    go_wp2_with fail
    go_region_law (refine step_copy_splice rfl (.tmp 15) (.tmp 21) 22 22 rfl 5 undB (by kernel_rfl) _ _ _ _ _ _ rfl rfl o 0 cur 52 HO.out (encs encB (y.take 32)) (by rw [HCL.out]; exact (Nat.min_eq_right hy32).symm) (fun hp => ⟨rfl, _, rfl, HS.out⟩) (by rw [HCL.out, HC.out]; exact Nat.le_refl _) HONE.out o w (below_drew (Below.refl _ _)) (Nat.le_refl _) ?_; intro w4 hg4 hb4)
    go_wp2_with fail
    go_ret2
    refine ⟨?_, ?_⟩
    · show Ending.returned (.tuple #[.int .i64 (IntKind.i64.wrap ((at' : Int) + ((encs encB (y.take 32)).length : Int))), .int .i64 0]) = _
      rw [HCL.out]
      show Ending.returned (.tuple #[.int .i64 (IntKind.i64.wrap ((at' : Int) + 32)), .int .i64 0]) = _
      rw [hw]; rfl
    · show w4.heap[o]? = some (.cells (digCells l at') 52 (0, 0)) ∧ Below o w w4
      rw [H5.out, ← show encs encB (y.take 32) = (y.take 32).map encB from rfl, ← HSP.out]; exact ⟨hg4.out, hb4⟩
end Go.Proofs.Yteeemiacibjaoaa.Co
