/- LedgerLeast: for every input the law returns true, and its arguments read as they did. -/
import Derived.Test.YtkgbimkjpllakaaRows
import Derived.Test.YtkgbimkjpllakaaOpen
import Derived.Test.YtkgbimkjpllakaaLdLeastW
import Derived.Test.YtkgbimkjpllakaaSizedSl
import Derived.Test.YtkgbimkjpllakaaWSized
import Derived.WalkKit
import Derived.ProofKit
import Derived.OpenShut
import Derived.ShutString
import Derived.ChangeOld
import Derived.Below
import Derived.SizedLaws
import Derived.JoinedCond
import Derived.Carry
import Derived.Laws.Cover2
namespace Go.Proofs.Ytkgbimkjpllakaa.ledgerLeastRow_
open Go.ChangeShapes Go.WideShapes Go.ChangeAt Go.RowKit Go.Proofs.Ytkgbimkjpllakaa.O
open Go.ChangeMaps (open_string shut_string)
set_option linter.unusedVariables false
set_option linter.unusedSimpArgs false
theorem own : ownKnob Try.prog.godebug = none := by kernel_rfl
theorem laidOut : laidOutB Try.prog = true := by kernel_rfl
set_option maxRecDepth 100000 in
theorem lifted (os : Os) (started : os.Started) (H : Type) (enc : TypeId × Value → H) :
    ReturnsInHanded {} Try.checked os 9 .any (Rows.ledgerLeastSpec.pre6 enc Try.prog Try.f9 Rows.ledgerLeastRow.domain false) (Rows.ledgerLeastSpec.post enc Try.prog Try.f9 false true false false) := by
  refine returnsInHanded_of_change_sized (C := Try.checked) own started (by kernel_rfl) Try.func9
    (ChangeSpec.witness6 (enc := enc) (C := Try.checked) false ⟨#[], #[.slice none 0 0, .float .f64 0], []⟩ 8 (by kernel_rfl) (by kernel_rfl) (by kernel_rfl) (by kernel_rfl)) ?_
  intro W base args ds gs before hval0 hW hcnd hsz0 _
  have hsz : (DataW.weightsEach Try.prog (Try.f9.params.toList ++ Rows.ledgerLeastSpec.plain.varTypes Try.prog) (ds ++ gs)).all (· ≤ reachBytes) = true := hsz0
  have hval : ∀ (j : Nat) t v, Try.f9.params[j]? = some t → args[j]? = some v → Value.okWide Try.prog W .any base t v := hval0
  have hW' := hW
  obtain ⟨p, q, hA0, hV, rfl, hfz, hnd⟩ := hW
  have hA : DataW.TrodAll enc Try.prog W 0 (fun _ => true) true Try.f9.params.toList args.toList ds p := hA0
  rw [Try.params9] at hA hval hsz
  obtain ⟨v0, vs0, d0, ds0, p0, q0, hargs, rfl, rfl, h0, r0⟩ := trodAll_cons hA
  obtain ⟨v1, vs1, d1, ds1, p1, q1, rfl, rfl, rfl, h1, r1⟩ := trodAll_cons r0
  obtain ⟨rfl, rfl, rfl⟩ := trodAll_nil r1
  obtain rfl : args = #[v0, v1] := by cases args; simp_all
  obtain ⟨rfl, rfl⟩ := trodVars_none hV
  have k0 := h0
  have lt0 : ∀ x ∈ p0, x.block < W.heap.size := by obtain ⟨m, hm⟩ := k0; exact DataW.trod_lt m _ _ _ hm
  have k1 := h1
  have lt1 : ∀ x ∈ p1, x.block < W.heap.size := by obtain ⟨m, hm⟩ := k1; exact DataW.trod_lt m _ _ _ hm
  obtain ⟨a0, len0, cap0, rfl⟩ := okWide_slice Try.underlying49 (hval 0 49 v0 rfl rfl)
  have y0 : len0 * 24 ≤ 140737488351232 := O.sized_sl hsz (j := 0) (t := 49) rfl rfl Try.underlying49 (by kernel_rfl) h0
  obtain ⟨l0, A0, c0, hc0, hr0, hm0, e0⟩ : ∃ (l : List _) (A : Option Addr) (c : Nat), l.length ≤ c ∧ (Ld.kLo).C W A l.length l ∧ ms (Ld.mLo) l ≤ Rows.uptoBulk d0 ∧ Value.slice a0 len0 cap0 = .slice A l.length c := by
    obtain ⟨fuel, hf⟩ := h0
    obtain ⟨l, ⟨A, c, e, h1, h2⟩, h3⟩ := (opn_slice Try.underlying49 (by kernel_rfl) (Ld.opnLo)).opn hf
    exact ⟨l, A, c, h1, h2, h3, by simpa [Value.cells] using e⟩
  injection e0 with ea0 el0 ec0
  subst ea0 el0 ec0
  obtain ⟨a1, rfl, rfl, rfl, w1⟩ := open_float Try.underlying50 (hval 1 50 v1 rfl rfl) h1
  have b1 : a1 < 18446744073709551616 := by simpa [Lit.wf] using w1
  clear hA0 hval0 hsz0 hsz
  refine (Ld.ledgerleast_any _ _ l0 a1 W hr0 hc0 y0 b1).mono fun e W' ⟨he, bel⟩ => ?_
  subst he
  exact ⟨_, rfl, _, _, _, [], _, [], hW', trodAll_mk1 (shut_bool Try.underlying4 _), (trodAll_cons_mk (Below.trod laidOut (by kernel_rfl) (of_decide_eq_true (by kernel_rfl)) k0 bel lt0) (trodAll_cons_mk (Below.trod laidOut (by kernel_rfl) (of_decide_eq_true (by kernel_rfl)) k1 bel lt1) trodAll_mk0)), rfl, bel.frame _, fun h => by cases h⟩
theorem over : Rows.ledgerLeastRow.holds Try.pinned (OpenSpec.ofChange Rows.ledgerLeastSpec) :=
  OpenClaim.holds_of_wide 9 Try.f9 rfl rfl rfl rfl rfl rfl rfl ⟨rfl, rfl, rfl, rfl, rfl⟩ rfl rfl rfl rfl rfl (by kernel_rfl) Try.func9 (by kernel_rfl)
    (of_decide_eq_true (by kernel_rfl)) (by unfold Func.isWrapper; first | (rw [if_pos (by decide +kernel)]; kernel_rfl) | (rw [if_neg (by decide +kernel)]; exact ⟨rfl, rfl⟩))
    (fun os started H enc _ => lifted os started H enc)
end Go.Proofs.Ytkgbimkjpllakaa.ledgerLeastRow_
namespace Go.Proofs.Ytkgbimkjpllakaa
theorem ledgerLeast_holds : Rows.LedgerLeastSaid := ledgerLeastRow_.over
end Go.Proofs.Ytkgbimkjpllakaa
#print axioms Go.Proofs.Ytkgbimkjpllakaa.ledgerLeast_holds

