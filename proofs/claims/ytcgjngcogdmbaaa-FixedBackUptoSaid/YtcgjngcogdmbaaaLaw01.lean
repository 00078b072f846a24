/- stillagelaw01: the walks of lives, FixedTakes. -/
import Derived.Test.YtcgjngcogdmbaaaRef01
set_option linter.unusedVariables false
set_option linter.unusedSimpArgs false
namespace Go.Proofs.Ytcgjngcogdmbaaa.L01
open Go.RowKit Go.Proofs.YtcgjngcogdmbaaaW.PrintWords Go.Proofs.Ytcgjngcogdmbaaa.B Go.Proofs.Ytcgjngcogdmbaaa.Fx

theorem put258 : putL [] 258 4 = [2, 1, 0, 0] := by decide
theorem take258 : Value.tuple #[.int .u64 (takeN [2, 1, 0, 0] 0 4), .bool (takeOk [2, 1, 0, 0] 0 4)] = .tuple #[.int .u64 258, .bool true] := by
  rw [show takeN [2, 1, 0, 0] 0 4 = 258 by decide, show takeOk [2, 1, 0, 0] 0 4 = true by decide]; rfl
set_option maxHeartbeats 400000 in
theorem lives_any (w : World) : Calls Try.prog 34 #[] w (Kept (.bool true) w) := by
  go_enter Try.func34, Try.ntmps34
  go_wp2_with fail
  refine (put_any none 0 [] 258 4 w (by simp) (by omega) (Rd.nil w)).mono ?_
  rintro e w1 ⟨v1, rfl, hown, hb⟩
  rw [put258] at hown
  obtain ⟨A, c, rfl, hc, hrd⟩ := hown.reads
  have HR := Lib.hid hrd
  have HB := Lib.hid hb
  clear hown hrd hb hc
  go_wp2_with fail
  refine (take_any A c [2, 1, 0, 0] 0 4 w1 (by simp) HR.out).mono ?_
  rintro e w2 ⟨rfl, rfl⟩
  rw [take258]
  go_wp2_with fail
  refine (R01.same_any A c [2, 1, 0, 0] (some ⟨w2.heap.size, 0, none⟩) 4 [2, 1, 0, 0] _ (by simp) (HR.out.below (below_alloc (Below.refl _ _) _)) (rd_lit w2 [2, 1, 0, 0] _ rfl (by simp))).mono ?_
  rintro e w3 ⟨rfl, n, rfl⟩
  rw [show R01.sameB [2, 1, 0, 0] [2, 1, 0, 0] = true by decide]
  go_wp2
  go_ret
  exact ⟨rfl, below_step' HB.out (pw_below_drewN (below_alloc (Below.refl _ _) _) n)⟩
set_option maxHeartbeats 400000 in
theorem takes_any (A : Option Addr) (c : Nat) (l : List UInt8) (pos size : Int) (w : World) (hr : Rd w A l) (hc : l.length ≤ c) (hl : l.length ≤ 140737488351232) (_ : -9223372036854775808 ≤ pos ∧ pos ≤ 9223372036854775807) (_ : -9223372036854775808 ≤ size ∧ size ≤ 9223372036854775807) :
    Calls Try.prog 10 #[.slice A l.length c, .int .i64 pos, .int .i64 size] w (Kept (.bool true) w) := by
  have HR := Lib.hid hr
  have HC := Lib.hid hc
  clear hr hc
  have H1 := Lib.hid (take_any A c l pos size w (by omega) HR.out)
  have H2 := Lib.hid (R01.take_any A c l pos size w (by omega) HR.out)
  have H3 := Lib.hid (takeText_any A c l pos w (by omega) HC.out HR.out)
  have H4 := Lib.hid (R01.takeText_any A c l pos w (by omega) HC.out HR.out)
  generalize takeN l pos size = n at *
  generalize takeOk l pos size = ok at *
  have HV := Lib.hid (show textV l pos = .tuple #[.string (textS l pos), .int .i64 (textEnd l pos), .bool (textOk l pos)] from rfl)
  rw [HV.out] at H3 H4
  generalize textS l pos = s at *
  generalize textEnd l pos = e at *
  generalize textOk l pos = k at *
  clear HV
  go_enter Try.func10, Try.ntmps10
  go_wp2_with (first
    | (go_at_call 30; refine H1.out.mono ?_; rintro e w' ⟨rfl, rfl⟩)
    | (go_at_call 31; refine H2.out.mono ?_; rintro e w' ⟨rfl, rfl⟩)
    | (go_at_call 32; refine H3.out.mono ?_; rintro e w' ⟨rfl, rfl⟩)
    | (go_at_call 33; refine H4.out.mono ?_; rintro e w' ⟨rfl, rfl⟩)
    | (go_at_call 34; refine (lives_any _).mono ?_; rintro e w' ⟨rfl, hb⟩; have HB := Lib.hid hb; clear hb))
  go_ret
  exact ⟨rfl, HB.out⟩
end Go.Proofs.Ytcgjngcogdmbaaa.L01
