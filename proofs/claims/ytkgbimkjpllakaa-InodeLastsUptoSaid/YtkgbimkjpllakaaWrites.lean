/- writes: the walks of slices.Clone, Right, Apply. -/
import Derived.Test.YtkgbimkjpllakaaClone
import Derived.BigQuiet
import Derived.WalkSpells
import Derived.Deep.RegionHeld3
set_option linter.unusedVariables false
set_option linter.unusedSimpArgs false
namespace Go.Proofs.Ytkgbimkjpllakaa.Wr
open Go.RowKit Go.Proofs.YtkgbimkjpllakaaW.PrintWords Go.Proofs.Ytkgbimkjpllakaa.B

/-- may a change be? -/
def rightB (off : Int) (n : Nat) : Bool := decide (0 ≤ off ∧ off ≤ 1048576 - (n : Int))
set_option maxHeartbeats 400000 in
theorem right_any (cut : Bool) (off : Int) (A : Option Addr) (c : Nat) (l : List UInt8) (w : World) (hl : l.length ≤ 9223372036854775807) (hb : -9223372036854775808 ≤ off ∧ off ≤ 9223372036854775807) :
    Calls Try.prog 12 #[.agg #[.bool cut, .int .i64 off, .slice A l.length c]] w (Kept (.bool (rightB off l.length)) w) := by
  by_cases h0 : 0 ≤ off
  · obtain ⟨p, hp⟩ : ∃ p, decide (off ≤ 1048576 - (l.length : Int)) = p := ⟨_, rfl⟩
    have HP := Lib.hid (show rightB off l.length = p by rw [← hp]; unfold rightB; simp [h0])
    go_enter Try.func12, Try.ntmps12
    go_wp2
    go_ret
    exact ⟨ret_eq (by rw [HP.out]; rfl), below_alloc (Below.refl _ _) _⟩
  · have HP := Lib.hid (show rightB off l.length = false by unfold rightB; exact decide_eq_false (by omega))
    go_enter Try.func12, Try.ntmps12
    go_wp2
    go_ret
    exact ⟨ret_eq (by rw [HP.out]; rfl), below_alloc (Below.refl _ _) _⟩
set_option maxHeartbeats 400000 in
theorem refright_any (cut : Bool) (off : Int) (A : Option Addr) (c : Nat) (l : List UInt8) (w : World) (hl : l.length ≤ 9223372036854775807) (hb : -9223372036854775808 ≤ off ∧ off ≤ 9223372036854775807) :
    Calls Try.prog 13 #[.agg #[.bool cut, .int .i64 off, .slice A l.length c]] w (Kept (.bool (rightB off l.length)) w) := by
  by_cases h0 : 0 ≤ off
  · obtain ⟨p, hp⟩ : ∃ p, decide (off ≤ 1048576 - (l.length : Int)) = p := ⟨_, rfl⟩
    have HP := Lib.hid (show rightB off l.length = p by rw [← hp]; unfold rightB; simp [h0])
    go_enter Try.func13, Try.ntmps13
    go_wp2
    go_ret
    exact ⟨ret_eq (by rw [HP.out]; rfl), below_alloc (Below.refl _ _) _⟩
  · have HP := Lib.hid (show rightB off l.length = false by unfold rightB; exact decide_eq_false (by omega))
    go_enter Try.func13, Try.ntmps13
    go_wp2
    go_ret
    exact ⟨ret_eq (by rw [HP.out]; rfl), below_alloc (Below.refl _ _) _⟩
end Go.Proofs.Ytkgbimkjpllakaa.Wr
