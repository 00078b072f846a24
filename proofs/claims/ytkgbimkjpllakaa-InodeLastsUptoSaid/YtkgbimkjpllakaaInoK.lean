/- files: what is read, with its footprint. -/
import Derived.Test.YtkgbimkjpllakaaWrKind
import Derived.Test.YtkgbimkjpllakaaWNEv
import Derived.Test.YtkgbimkjpllakaaWFoot
set_option linter.unusedVariables false
set_option linter.unusedSimpArgs false
namespace Go.Proofs.Ytkgbimkjpllakaa.In
open Go.RowKit Go.Proofs.YtkgbimkjpllakaaW.PrintWords Go.Proofs.Ytkgbimkjpllakaa.B Go.Proofs.Ytkgbimkjpllakaa.O Go.Proofs.Ytkgbimkjpllakaa.Wr

abbrev Ino : Type := List UInt8 × List Wt
def kBy : Kd (List UInt8) := Kd.slice 5 u8
def kPe : Kd (List Wt) := Kd.slice 26 kWr
def kIn : Kd Ino := Kd.pair kBy kPe
def mIn (x : Ino) : Nat := ms (fun _ : UInt8 => 1) x.1 + ms mWr x.2 + 1
theorem opnIn : Opn Try.prog 37 kIn mIn :=
  opn_struct Try.underlying37 (by kernel_rfl) (opnF_cons rfl (opn_slice Try.underlying22 (by kernel_rfl) (opn_u8 Try.underlying5 (by kernel_rfl))) (opnF_one rfl (opn_slice Try.underlying23 (by kernel_rfl) opnWr)))
theorem heapWr : Kd.Heap kWr := Kd.heap_pair Kd.heap_scalar (Kd.heap_pair Kd.heap_scalar (Kd.heap_slice _ Kd.heap_scalar))
theorem heapIn : Kd.Heap kIn := Kd.heap_pair (Kd.heap_slice _ Kd.heap_scalar) (Kd.heap_slice _ heapWr)
/-- what comes in -/
theorem fk_came {α : Type} {d : Kd α} (hd : Kd.Heap d) {w : World} {x : α} {cs : List Value} (h : d.K w x cs) : Kd.FK d w (fun k => k < w.heap.size) x cs := fun W' hW => hd.K (fun k hk => hW k hk hk) h
theorem f_came {α : Type} {d : Kd α} (hd : Kd.Heap d) {w : World} {A : Option Addr} {n : Nat} {xs : List α} (h : d.C w A n xs) : Kd.F d w (fun k => k < w.heap.size) A n xs := fun W' hW => hd.C (fun k hk => hW k hk hk) h
/-- bytes read with their footprint -/
def FB (w : World) (ok : Nat → Prop) (A : Option Addr) (l : List UInt8) : Prop := Kd.F u8 w ok A l.length l
def FW (w : World) (ok : Nat → Prop) (A : Option Addr) (l : List Wt) : Prop := Kd.F kWr w ok A l.length l
theorem FB.rd {w : World} {ok : Nat → Prop} {A : Option Addr} {l : List UInt8} (h : FB w ok A l) : Rd w A l := Kd.F_now h
theorem FW.rd {w : World} {ok : Nat → Prop} {A : Option Addr} {l : List Wt} (h : FW w ok A l) : RdW w A l := Kd.F_now h
theorem FB.below {w w1 : World} {ok : Nat → Prop} {A : Option Addr} {l : List UInt8} (h : FB w ok A l) (hb : Below w.heap.size w w1) : FB w1 ok A l := Kd.F_below h hb
theorem FW.below {w w1 : World} {ok : Nat → Prop} {A : Option Addr} {l : List Wt} (h : FW w ok A l) (hb : Below w.heap.size w w1) : FW w1 ok A l := Kd.F_below h hb
/-- a file's cells -/
theorem in_cells {w : World} {ok : Nat → Prop} {x : Ino} {cs : List Value} (h : Kd.FK kIn w ok x cs) : ∃ A c A2 c2, cs = [.slice A x.1.length c, .slice A2 x.2.length c2] ∧ x.1.length ≤ c ∧ x.2.length ≤ c2 ∧ FB w ok A x.1 ∧ FW w ok A2 x.2 := by
  have key : ∀ W, kIn.K W x cs → ∃ A c A2 c2, cs = [.slice A x.1.length c, .slice A2 x.2.length c2] ∧ x.1.length ≤ c ∧ x.2.length ≤ c2 ∧ Rd W A x.1 ∧ RdW W A2 x.2 := by
    rintro W ⟨c0, c1, rfl, ⟨A, c, rfl, h1, h2⟩, ⟨A2, c2, rfl, h3, h4⟩⟩
    exact ⟨A, c, A2, c2, rfl, h1, h3, h2, h4⟩
  obtain ⟨A, c, A2, c2, hcs, h1, h2, -, -⟩ := key w (h w (fun _ _ _ => rfl))
  refine ⟨A, c, A2, c2, hcs, h1, h2, fun W' hW => ?_, fun W' hW => ?_⟩
  · obtain ⟨A', c', A2', c2', h3, -, -, h4, -⟩ := key W' (h W' hW)
    rw [hcs] at h3
    injection h3 with h3 h5
    injection h3 with h3
    rw [h3]; exact h4
  · obtain ⟨A', c', A2', c2', h3, -, -, -, h4⟩ := key W' (h W' hW)
    rw [hcs] at h3
    injection h3 with h3 h5
    injection h5 with h5 h6
    injection h5 with h5
    rw [h5]; exact h4
theorem in_mk {w : World} {ok : Nat → Prop} {b : List UInt8} {l : List Wt} {A A2 : Option Addr} {c c2 : Nat} (h1 : b.length ≤ c) (h2 : l.length ≤ c2) (hb : FB w ok A b) (hl : FW w ok A2 l) : Kd.FK kIn w ok (b, l) [.slice A b.length c, .slice A2 l.length c2] :=
  fun W' hW => ⟨[_], [_], rfl, ⟨A, c, rfl, h1, hb W' hW⟩, ⟨A2, c2, rfl, h2, hl W' hW⟩⟩
/-- bytes of the call's own, with their footprint -/
theorem own_fb {w : World} {base : Nat} {A : Option Addr} {n c : Nat} {l : List UInt8} (h : Own w base (.slice A n c) l) : FB w (fun k => base ≤ k) A l := by
  have h1 := Kd.R_mono (Kd.R_bound h) (ok' := fun k => base ≤ k) (fun k hk => hk.2.1)
  have h2 := Kd.N_F (Kd.R_N h1)
  have h3 := Kd.F_len h2
  unfold FB
  rw [h3]; exact h2
theorem fb_nil (w : World) (ok : Nat → Prop) : FB w ok none [] := Kd.F_nil u8 w ok
theorem fw_nil (w : World) (ok : Nat → Prop) : FW w ok none [] := Kd.F_nil kWr w ok
theorem infoIn : (Try.prog.info? 37).map (·.size) = some 2 := by kernel_rfl
theorem infoWr : (Try.prog.info? 26).map (fun i => (i.zero, i.size, i.bytes)) = some (some (.agg #[.bool false, .int .i64 0, .slice none 0 0]), 3, 40) := by kernel_rfl
theorem undWr : Try.prog.underlying 23 = some (.slice 26) := Try.underlying23
/-- the end: a file -/
def InoE (x : Ino) (ok : Nat → Prop) (w : World) (e : Ending) (w' : World) : Prop := ∃ cs, e = .returned (.agg cs) ∧ Kd.FK kIn w' (fun k => ok k ∨ w.heap.size ≤ k) x cs.toList ∧ Below w.heap.size w w'
/-- a file, and a number -/
def InoN (x : Ino) (n : Nat) (ok : Nat → Prop) (w : World) (e : Ending) (w' : World) : Prop := ∃ cs, e = .returned (.tuple #[.agg cs, .int .i64 n]) ∧ Kd.FK kIn w' (fun k => ok k ∨ w.heap.size ≤ k) x cs.toList ∧ Below w.heap.size w w'
end Go.Proofs.Ytkgbimkjpllakaa.In
