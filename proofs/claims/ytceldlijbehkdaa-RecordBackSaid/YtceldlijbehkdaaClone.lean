/- slices.Clone of bytes. -/
import Derived.Test.YtceldlijbehkdaaBase
import Derived.WalkSpells
set_option linter.unusedVariables false
set_option linter.unusedSimpArgs false
namespace Go.Proofs.Ytceldlijbehkdaa.Cl
open Go.RowKit Go.Proofs.YtceldlijbehkdaaW.PrintWords Go.Proofs.Ytceldlijbehkdaa.B

set_option maxRecDepth 100000 in
set_option maxHeartbeats 400000 in
theorem clone_any (A : Option Addr) (c : Nat) (l : List UInt8) (w : World) (hl : l.length ≤ 140737488355328) (hr : Rd w A l) :
    Calls Try.prog 64 #[.slice A l.length c] w (Made w l) := by
  have HR := Lib.hid hr
  clear hr
  cases A with
  | none =>
    have h0 : l = [] := by
      rcases Nat.eq_zero_or_pos l.length with h | h
      · exact List.eq_nil_of_length_eq_zero h
      · obtain ⟨ad, h1, _⟩ := HR.out.at_ 0 h; cases h1
    subst h0
    have hn : ∀ W : World, (binOp .eql 22 (.slice none 0 c) (.slice none 0 0)).run Try.prog W = .ok (.bool true) W := fun W => Lib.run_eql_slice_nil W 22 5 none 0 c 0 0 undB
    go_enter Try.func64, Try.ntmps64
    go_wp2
    go_ret
    exact ⟨_, rfl, Own.nil _ _, Below.refl _ _⟩
  | some ad =>
    have hn : ∀ W : World, (binOp .eql 22 (.slice (some ad) l.length c) (.slice none 0 0)).run Try.prog W = .ok (.bool false) W := fun W => Lib.run_eql_slice_nil W 22 5 (some ad) l.length c 0 0 undB
    go_enter Try.func64, Try.ntmps64
    go_wp2_with (at_builtin; go_loud (refine appRow (w0 := w) w.heap.size rfl (.tmp 5) (.tmp 6) rfl _ [] l (some ad) l.length c rfl rfl rfl (own_lit w w.heap.size (Nat.le_refl _) [] _ rfl (by simp)) (HR.out.below (below_alloc (Below.refl _ _) _)) (below_alloc (Below.refl _ _) _) (by simp) (by simpa using hl) ?_); intro v2 w2 hown hb _ _; have HO2 := Lib.hid hown; have HB2 := Lib.hid hb; clear hown hb)
    go_ret
    exact ⟨_, rfl, by have := HO2.out; simpa using this, HB2.out⟩
end Go.Proofs.Ytceldlijbehkdaa.Cl
