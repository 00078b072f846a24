/- slices.DeleteFunc of loads by Victim's closure. -/
import Derived.Test.YtkgbimkjpllakaaLdDel2
set_option linter.unusedVariables false
set_option linter.unusedSimpArgs false
namespace Go.Proofs.Ytkgbimkjpllakaa.Ld
open Go.RowKit Go.Proofs.YtkgbimkjpllakaaW.PrintWords Go.Proofs.Ytkgbimkjpllakaa.B Go.Proofs.Ytkgbimkjpllakaa.O Go.Proofs.Ytkgbimkjpllakaa.Sc
theorem dfunc_any (A : Option Addr) (c : Nat) (l : List Lo) (base : Nat) (gn gf gl : Nat) (An : Option Addr) (cn : Nat) (n : List Int64) (lim : Nat) (w : World) (hlim : lim < 18446744073709551616) (h : ∀ W, Below base w W → Held gn gf gl An cn n lim W) (hbase : base ≤ w.heap.size) (ho : OwnL w base (.slice A l.length c) l) :
    Calls Try.prog 51 #[.slice A l.length c, .func (.func 53) #[] #[.pointer (some ⟨gn, 0, none⟩), .pointer (some ⟨gf, 0, none⟩), .pointer (some ⟨gl, 0, none⟩)]] w (DelE (l.filter (fun x => !delB n lim x)) base w) := by
  by_cases hs : ∃ j, j < l.length ∧ delB n lim (lo l j) = true
  · exact del1_any A c l base gn gf gl An cn n lim w hlim h hbase ho hs
  · have hall : ∀ j, j < l.length → delB n lim (lo l j) = false := fun j hj => by
      cases hd : delB n lim (lo l j) with
      | false => rfl
      | true => exact absurd ⟨j, hj, hd⟩ hs
    have hf := keep_none (Nat.le_refl l.length) hall
    rw [List.take_length] at hf
    rw [hf]
    exact del0_any A c l base gn gf gl An cn n lim w hlim (h w (Below.refl _ _)) hbase ho hall
end Go.Proofs.Ytkgbimkjpllakaa.Ld
