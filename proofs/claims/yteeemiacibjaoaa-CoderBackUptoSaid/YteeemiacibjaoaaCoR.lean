/- coder: the reader's part and its closures. -/
import Derived.Test.YteeemiacibjaoaaCoW
import Derived.Test.YteeemiacibjaoaaVarTake
set_option linter.unusedVariables false
set_option linter.unusedSimpArgs false
namespace Go.Proofs.Yteeemiacibjaoaa.Co
open Go.RowKit Go.Proofs.YteeemiacibjaoaaW.PrintWords Go.Proofs.Yteeemiacibjaoaa.B Go.Proofs.Yteeemiacibjaoaa.Fx Go.Proofs.Yteeemiacibjaoaa.Fr

/-- a reader: its bytes, the place, what is wrong -/
def RdS (W : World) (base g : Nat) (l : List UInt8) (at' e : Nat) : Prop := base ≤ g ∧ ∃ v, W.heap[g]? = some (.cells #[v, .int .i64 at', .int .i64 e] 110 (0, 0)) ∧ Buf W base v l
/-- the end of part -/
def PartD (g : Nat) (endv : Int) (e1 : Nat) (S : World → Prop) (x : Ending) (w' : World) : Prop := x = .returned (.tuple #[]) ∧ ∃ w1, S w1 ∧ w' = if e1 = 0 then w1.setCell ⟨g, 1, none⟩ (.int .i64 endv) else w1.setCell ⟨g, 2, none⟩ (.int .i64 e1)
def ClosD (endv : Int) (e1 : Nat) (S : World → Prop) (x : Ending) (w' : World) : Prop := x = .returned (.tuple #[.int .i64 endv, .int .i64 e1]) ∧ S w'
set_option maxRecDepth 100000 in
set_option maxHeartbeats 400000 in
theorem part_nil (N : Nat) (caps : Array Value) (w : World) :
    Calls Try.prog 84 #[.pointer none, .func (.func N) #[] caps] w (Still (.tuple #[]) w) := by
  go_enter Try.func84, Try.ntmps84
  go_wp2
  refine bodyPost_ret (results_none rfl _ _ _) rfl ?_
  exact ⟨rfl, rfl⟩
set_option maxRecDepth 100000 in
set_option maxHeartbeats 400000 in
theorem part_done (g at' e N : Nat) (caps : Array Value) (v : Value) (w : World) (he : e ≠ 0) (hb : w.heap[g]? = some (.cells #[v, .int .i64 at', .int .i64 e] 110 (0, 0))) :
    Calls Try.prog 84 #[.pointer (some ⟨g, 0, none⟩), .func (.func N) #[] caps] w (Still (.tuple #[]) w) := by
  have hcc := fun i => blk_cell hb i
  have hq : ((e : Int) == 0) = false := by simpa using he
  go_enter Try.func84, Try.ntmps84
  go_wp2
  refine bodyPost_ret (results_none rfl _ _ _) rfl ?_
  exact ⟨rfl, rfl⟩
set_option maxRecDepth 100000 in
set_option maxHeartbeats 400000 in
theorem part_ok (g at' N : Nat) (caps : Array Value) (v : Value) (w : World) (endv : Int) (e1 : Nat) (S : World → Prop) (hb : w.heap[g]? = some (.cells #[v, .int .i64 at', .int .i64 0] 110 (0, 0)))
    (hen : ∀ W, (callFunc N (#[.int .i64 at'] ++ caps)).run Try.prog W = .ok (.enter N (#[.int .i64 at'] ++ caps)) W)
    (hc : Calls Try.prog N (#[.int .i64 at'] ++ caps) w (ClosD endv e1 S)) (hS : ∀ W, S W → W.heap[g]? = some (.cells #[v, .int .i64 at', .int .i64 0] 110 (0, 0))) :
    Calls Try.prog 84 #[.pointer (some ⟨g, 0, none⟩), .func (.func N) #[] caps] w (PartD g endv e1 S) := by
  have hcc := fun i => blk_cell hb i
  have hz := blk_lt hb
  have HC := Lib.hid hc
  have HS := Lib.hid hS
  clear hc hS
  by_cases h0 : e1 = 0
  · subst h0
    go_enter Try.func84, Try.ntmps84
    go_wp2_with fail
    refine HC.out.mono ?_
    rintro e w1 ⟨rfl, hs⟩
    have HG1 := Lib.hid (HS.out _ hs)
    have HSS := Lib.hid hs
    have hcc1 := fun i => blk_cell HG1.out i
    have hff1 := fun i => blk_frozen HG1.out i
    clear hs hcc
    go_wp2_with fail
    go_end0
    exact ⟨rfl, w1, HSS.out, rfl⟩
  · have hq : ((e1 : Int) == 0) = false := by simpa using h0
    have H0 := Lib.hid h0
    clear h0
    go_enter Try.func84, Try.ntmps84
    go_wp2_with fail
    refine HC.out.mono ?_
    rintro e w1 ⟨rfl, hs⟩
    have HG1 := Lib.hid (HS.out _ hs)
    have HSS := Lib.hid hs
    have hcc1 := fun i => blk_cell HG1.out i
    have hff1 := fun i => blk_frozen HG1.out i
    clear hs hcc
    go_wp2_with fail
    refine bodyPost_ret (results_none rfl _ _ _) rfl ?_
    exact ⟨rfl, w1, HSS.out, by rw [if_neg H0.out]⟩
/-- the three boxes of a number's call: the reader's pointer, the most, the answer -/
def Box1 (W : World) (r : Nat) (t : TypeId) (v : Value) : Prop := W.heap[r]? = some (.cells #[v] t (0, 0))
end Go.Proofs.Yteeemiacibjaoaa.Co
