/- ledger: loads that are read; slices.IndexFunc by Victim's closure. -/
import Derived.Test.YtkgbimkjpllakaaLdCl2
import Derived.Test.YtkgbimkjpllakaaWrKind
set_option linter.unusedVariables false
set_option linter.unusedSimpArgs false
namespace Go.Proofs.Ytkgbimkjpllakaa.Ld
open Go.RowKit Go.Proofs.YtkgbimkjpllakaaW.PrintWords Go.Proofs.Ytkgbimkjpllakaa.B Go.Proofs.Ytkgbimkjpllakaa.O Go.Proofs.Ytkgbimkjpllakaa.Sc

abbrev Lo : Type := Int64 × Int64 × Int64
def kLo : Kd Lo := Kd.pair O.i64 (Kd.pair O.i64 O.i64)
def m1 (x : Int64) : Nat := 1
def mLo (x : Lo) : Nat := m1 x.1 + (m1 x.2.1 + m1 x.2.2) + 1
theorem opnLo : Opn Try.prog 55 kLo mLo :=
  opn_struct Try.underlying55 (by kernel_rfl) (opnF_cons rfl (show Opn Try.prog 3 O.i64 m1 from opn_i64 Try.underlying3 (by kernel_rfl)) (opnF_cons rfl (show Opn Try.prog 3 O.i64 m1 from opn_i64 Try.underlying3 (by kernel_rfl)) (opnF_one rfl (show Opn Try.prog 3 O.i64 m1 from opn_i64 Try.underlying3 (by kernel_rfl)))))
def RdL (w : World) (A : Option Addr) (l : List Lo) : Prop := kLo.C w A l.length l
def lo (l : List Lo) (i : Nat) : Lo := l.getD i (0, 0, 0)
theorem RdL.len {w : World} {A : Option Addr} {l : List Lo} (h : RdL w A l) : l.length ≤ 9223372036854775807 := h.2.1
theorem RdL.below {w w1 : World} {A : Option Addr} {l : List Lo} (h : RdL w A l) (hb : Below w.heap.size w w1) : RdL w1 A l := Kd.C_below h hb
theorem RdL.cells {w : World} {A : Option Addr} {l : List Lo} (h : RdL w A l) (i : Nat) (hi : i < l.length) :
    ∃ ad, A = some ad ∧ w.cell? (ad.add (i * 3)) = some (.int .i64 (lo l i).1.toInt) ∧ w.cell? { block := (ad.add (i * 3)).block, off := (ad.add (i * 3)).off + 1 } = some (.int .i64 (lo l i).2.1.toInt) ∧ w.cell? { block := (ad.add (i * 3)).block, off := (ad.add (i * 3)).off + 2 } = some (.int .i64 (lo l i).2.2.toInt) := by
  obtain ⟨ad, c, e, hl, hK, hc⟩ := Kd.C_get h (0, 0, 0) (i : Int) (by omega) (by omega)
  rw [Int.toNat_natCast] at hK hc
  obtain ⟨c0, r0, rfl, h0, c1, r1, rfl, h1, h2⟩ := hK
  rw [show c0 = [_] from h0, show c1 = [_] from h1, show r1 = [_] from h2] at hc
  exact ⟨ad, e, hc 0 _ rfl, Wr.field_cell (j := 0) (hc 1 _ rfl), Wr.field_cell (j := 1) (hc 2 _ rfl)⟩
/-- is a load passed over? -/
def delB (n : List Int64) (lim : Nat) (x : Lo) : Bool := inB n x.1.toInt || !belowB (floatOfInt .f64 x.2.2.toInt) (floatOfInt .f64 x.2.1.toInt) lim
/-- the closure and what it holds -/
structure Held (gn gf gl : Nat) (An : Option Addr) (cn : Nat) (n : List Int64) (lim : Nat) (w : World) : Prop where
  n_ : w.cell? ⟨gn, 0, none⟩ = some (.slice An n.length cn)
  f_ : w.cell? ⟨gf, 0, none⟩ = some (.func (.func 49) #[] #[])
  l_ : w.cell? ⟨gl, 0, none⟩ = some (.float .f64 lim)
  r_ : RdI w An n
theorem Held.below {gn gf gl : Nat} {An : Option Addr} {cn : Nat} {n : List Int64} {lim : Nat} {w w1 : World} (h : Held gn gf gl An cn n lim w) (hb : Below w.heap.size w w1) : Held gn gf gl An cn n lim w1 :=
  ⟨pw_cell_below hb h.n_, pw_cell_below hb h.f_, pw_cell_below hb h.l_, h.r_.below hb⟩
theorem del_any (x : Lo) (gn gf gl : Nat) (An : Option Addr) (cn : Nat) (n : List Int64) (lim : Nat) (w : World) (hlim : lim < 18446744073709551616) (h : Held gn gf gl An cn n lim w) :
    Calls Try.prog 53 #[.agg #[.int .i64 x.1.toInt, .int .i64 x.2.1.toInt, .int .i64 x.2.2.toInt], .pointer (some ⟨gn, 0, none⟩), .pointer (some ⟨gf, 0, none⟩), .pointer (some ⟨gl, 0, none⟩)] w (Told (.bool (delB n lim x)) w) :=
  two_any _ _ _ gn gf gl An cn n lim w hlim h.n_ h.f_ h.l_ h.r_
/-- the first that is passed over -/
def Firsts (p : Lo → Bool) (l : List Lo) (w : World) (e : Ending) (w' : World) : Prop := ∃ r : Int, e = .returned (.int .i64 r) ∧ ((r = -1 ∧ ∀ j, j < l.length → p (lo l j) = false) ∨ ∃ k : Nat, r = k ∧ k < l.length ∧ p (lo l k) = true ∧ ∀ j, j < k → p (lo l j) = false) ∧ Below w.heap.size w w'
set_option maxRecDepth 100000 in
set_option maxHeartbeats 800000 in
theorem idx_any (A : Option Addr) (c : Nat) (l : List Lo) (gn gf gl : Nat) (An : Option Addr) (cn : Nat) (n : List Int64) (lim : Nat) (w : World) (hlim : lim < 18446744073709551616) (h : Held gn gf gl An cn n lim w) (hr : RdL w A l) :
    Calls Try.prog 61 #[.slice A l.length c, .func (.func 53) #[] #[.pointer (some ⟨gn, 0, none⟩), .pointer (some ⟨gf, 0, none⟩), .pointer (some ⟨gl, 0, none⟩)]] w (Firsts (delB n lim) l w) := by
  have HDEL := Lib.hid (fun (x : Lo) (W : World) (hb : Below w.heap.size w W) => del_any x gn gf gl An cn n lim W hlim (h.below hb))
  have HR := Lib.hid hr
  have hl := hr.len
  generalize delB n lim = p at *
  clear hr h
  go_enter Try.func61, Try.ntmps61
  go_wp2_with fail
  go_loopw [8] (fun i wr => ∃ k : Nat, k ≤ l.length ∧ i = .int .i64 k ∧ Hid (∀ j, j < k → p (lo l j) = false) ∧ Hid (Below w.heap.size w wr)) (fun i _ => l.length - (intOf i).toNat)
  case atStart => exact ⟨0, by omega, rfl, fun j hj => by omega, Below.refl _ _⟩
  case round =>
    obtain ⟨k, hk, rfl, HK, HB⟩ := hrel
    by_cases hlt : k < l.length
    · obtain ⟨ad, rfl, e0, e1, e2⟩ := (HR.out.below HB.out).cells k hlt
      have HDk := Lib.hid (HDEL.out (lo l k) wr HB.out)
      generalize hx : lo l k = x at *
      have HX := Lib.hid hx
      generalize x.1.toInt = x0 at *
      generalize x.2.1.toInt = x1 at *
      generalize x.2.2.toInt = x2 at *
      clear hx
      cases hp : p x with
      | true =>
        rw [hp] at HDk
        have HP := Lib.hid hp
        clear hp
        go_wp2_with fail
        refine HDk.out.mono ?_
        rintro e w2 ⟨rfl, hb⟩
        have HB2 := Lib.hid (below_step' HB.out hb)
        clear hb
        go_wp2_with fail
        go_ret
        exact ⟨k, rfl, .inr ⟨k, rfl, hlt, by rw [HX.out]; exact HP.out, HK.out⟩, HB2.out⟩
      | false =>
        rw [hp] at HDk
        have HK2 := Lib.hid (show ∀ j, j < k + 1 → p (lo l j) = false from fun j hj => by
          rcases Nat.lt_or_ge j k with h | h
          · exact HK.out j h
          · rw [show j = k by omega, HX.out]; exact hp)
        clear hp
        go_wp2_with fail
        refine HDk.out.mono ?_
        rintro e w2 ⟨rfl, hb⟩
        have HB2 := Lib.hid (below_step' HB.out hb)
        clear hb
        go_wp2_with fail
        go_roundw
        case rel => exact ⟨k + 1, by omega, by go_num, HK2, HB2⟩
        case measure => simp [intOf]; omega
    · obtain rfl : k = l.length := by omega
      go_wp2_with fail
      go_ret
      exact ⟨-1, rfl, .inl ⟨rfl, HK.out⟩, HB.out⟩
end Go.Proofs.Ytkgbimkjpllakaa.Ld
