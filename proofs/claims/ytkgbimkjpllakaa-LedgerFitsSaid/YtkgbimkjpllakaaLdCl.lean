/- ledger: Victim's closures. -/
import Derived.Test.YtkgbimkjpllakaaLdIn
set_option linter.unusedVariables false
set_option linter.unusedSimpArgs false
namespace Go.Proofs.Ytkgbimkjpllakaa.Ld
open Go.RowKit Go.Proofs.YtkgbimkjpllakaaW.PrintWords Go.Proofs.Ytkgbimkjpllakaa.B Go.Proofs.Ytkgbimkjpllakaa.O Go.Proofs.Ytkgbimkjpllakaa.Sc

/-- some share, in a world behind -/
def ShareB (x y : Nat) (w : World) (e : Ending) (w' : World) : Prop := ∃ r, e = .returned (.float .f64 r) ∧ IsShare x y r ∧ Below w.heap.size w w'
set_option maxRecDepth 100000 in
theorem one_any (s a l : Int) (w : World) : Calls Try.prog 49 #[.agg #[.int .i64 s, .int .i64 a, .int .i64 l]] w (ShareB (floatOfInt .f64 l) (floatOfInt .f64 a) w) := by
  have HS := Lib.hid (fun (W : World) => share_any l a W)
  generalize floatOfInt .f64 l = x at *
  generalize floatOfInt .f64 a = y at *
  have hb1 : Below w.heap.size w (w.alloc (.cells #[.int .i64 s, .int .i64 a, .int .i64 l] 55)) := below_alloc (Below.refl _ _) _
  have HB1 := Lib.hid hb1
  clear hb1
  go_enter Try.func49, Try.ntmps49
  go_wp2_with fail
  refine (HS.out _).mono ?_
  rintro e w1 ⟨r, n, rfl, hi, hw⟩
  have HI := Lib.hid hi
  have HB2 := Lib.hid (show Below w.heap.size w w1 from hw ▸ pw_below_drewN HB1.out n)
  clear hi hw
  go_wp2_with fail
  go_ret
  exact ⟨r, rfl, HI.out, HB2.out⟩
end Go.Proofs.Ytkgbimkjpllakaa.Ld
