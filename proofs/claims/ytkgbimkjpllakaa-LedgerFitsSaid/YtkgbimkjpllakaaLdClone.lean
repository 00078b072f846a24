/- slices.Clone of loads. -/
import Derived.Test.YtkgbimkjpllakaaLdClr
set_option linter.unusedVariables false
set_option linter.unusedSimpArgs false
namespace Go.Proofs.Ytkgbimkjpllakaa.Ld
open Go.RowKit Go.Proofs.YtkgbimkjpllakaaW.PrintWords Go.Proofs.Ytkgbimkjpllakaa.B Go.Proofs.Ytkgbimkjpllakaa.O Go.Proofs.Ytkgbimkjpllakaa.Sc

theorem undLo : Try.prog.underlying 49 = some (.slice 55) := Try.underlying49
theorem infoLo : (Try.prog.info? 55).map (fun i => (i.zero, i.size, i.bytes)) = some (some (.agg zLo), 3, 24) := by kernel_rfl
theorem lo_free {w : World} {x : Lo} {c : List Value} (h : kLo.K w x c) (W : World) (b : Nat) (ok : Nat → Prop) : kLo.M W b ok x c := by
  obtain ⟨c0, r0, rfl, h0, c1, r1, rfl, h1, h2⟩ := h
  exact ⟨c0, _, rfl, h0, c1, r1, rfl, h1, h2⟩
/-- own loads -/
def OwnL (w : World) (base : Nat) (v : Value) (l : List Lo) : Prop := Kd.R kLo 55 w base (fun _ => True) v l
def MadeL (w : World) (l : List Lo) (e : Ending) (w' : World) : Prop := ∃ v, e = .returned v ∧ OwnL w' w.heap.size v l ∧ Below w.heap.size w w'
theorem empty_row (W : World) : Kd.R kLo 55 (W.alloc (.cells #[] 55)) W.heap.size (fun _ => True) (.slice (some ⟨W.heap.size, 0, none⟩) 0 0) [] := by
  have h2 := World.ownsRow_lit (base := W.heap.size) (e := 55) (size := 3) W #[] 0 (Nat.le_refl _) (by simp [maxLen]) (by simp)
  exact ⟨fun _ _ => trivial, [], (by have h3 := h2; simp at h3; exact h3), by simp, fun j p hj => by simp at hj⟩
set_option maxRecDepth 100000 in
set_option maxHeartbeats 400000 in
theorem clonel_any (A : Option Addr) (c : Nat) (l : List Lo) (w : World) (hl : l.length * 24 ≤ 140737488355328) (hr : RdL w A l) :
    Calls Try.prog 52 #[.slice A l.length c] w (MadeL w l) := by
  have HR := Lib.hid hr
  clear hr
  cases A with
  | none =>
    have h0 : l = [] := by
      rcases Nat.eq_zero_or_pos l.length with h | h
      · exact List.eq_nil_of_length_eq_zero h
      · obtain ⟨ad, h1, _⟩ := HR.out.cells 0 h; cases h1
    subst h0
    have hn : ∀ W : World, (binOp .eql 49 (.slice none 0 c) (.slice none 0 0)).run Try.prog W = .ok (.bool true) W := fun W => Lib.run_eql_slice_nil W 49 55 none 0 c 0 0 undLo
    go_enter Try.func52, Try.ntmps52
    go_wp2
    go_ret
    exact ⟨_, rfl, Kd.R_nil _ _ _ _ _, Below.refl _ _⟩
  | some ad =>
    have hn : ∀ W : World, (binOp .eql 49 (.slice (some ad) l.length c) (.slice none 0 0)).run Try.prog W = .ok (.bool false) W := fun W => Lib.run_eql_slice_nil W 49 55 (some ad) l.length c 0 0 undLo
    have HE := Lib.hid (empty_row w)
    have HL := Lib.hid (show (([] : List Lo).length + l.length) * 24 ≤ 140737488355328 by simpa using hl)
    have HR2 := Lib.hid (HR.out.below (below_alloc (Below.refl w.heap.size w) (.cells #[] 55)))
    go_enter Try.func52, Try.ntmps52
    go_wp2_with (at_builtin; go_loud (refine Kd.R_append_rows kLo (w0 := w) w.heap.size rfl (.tmp 5) (.tmp 6) 49 55 _ _ rfl undLo infoLo rfl (by decide) (by decide) _ [] l (some ad) l.length c (fun _ => True) (fun k => some k ≠ (Value.slice (some ⟨w.heap.size, 0, none⟩) 0 0).ownBlock) rfl rfl HE.out HR2.out (fun x cs h => lo_free h _ _ _) (fun k hk => ⟨trivial, hk⟩) (fun _ _ => trivial) (below_alloc (Below.refl _ _) _) (by simp) HL.out ?_); intro v2 w2 hown hb _ _; have HO2 := Lib.hid hown; have HB2 := Lib.hid hb; clear hown hb)
    go_ret
    exact ⟨_, rfl, (by have h := HO2.out; rw [List.nil_append] at h; exact h), HB2.out⟩
end Go.Proofs.Ytkgbimkjpllakaa.Ld
