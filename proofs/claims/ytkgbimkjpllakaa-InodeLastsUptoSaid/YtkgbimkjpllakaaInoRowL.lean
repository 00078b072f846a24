/- stillagelaw10: InodeLasts as its row takes it. -/
import Derived.Test.YtkgbimkjpllakaaInoLst
set_option linter.unusedVariables false
set_option linter.unusedSimpArgs false
namespace Go.Proofs.Ytkgbimkjpllakaa.In
open Go.RowKit Go.Proofs.YtkgbimkjpllakaaW.PrintWords Go.Proofs.Ytkgbimkjpllakaa.B Go.Proofs.Ytkgbimkjpllakaa.O Go.Proofs.Ytkgbimkjpllakaa.Wr Go.Proofs.Ytkgbimkjpllakaa.R01
theorem ms_one (b : List UInt8) : ms (fun _ : UInt8 => 1) b = b.length + 1 := by
  unfold ms
  induction b with
  | nil => rfl
  | cons x b ih => simp only [List.map_cons, List.sum_cons, List.length_cons] at *; omega
theorem lasts_row (cs : Array Value) (x : Ino) (Ad : Option Addr) (cd : Nat) (d : List UInt8) (Ac : Option Addr) (cc : Nat) (ch : List UInt8) (w : World) (hK : kIn.K w x cs.toList) (hm : mIn x ≤ 1048576) (hr : Rd w Ad d) (hc : d.length ≤ cd) (hs : d.length ≤ 1048576) (hr2 : Rd w Ac ch) (hc2 : ch.length ≤ cc) (hs2 : ch.length ≤ 1048576) :
    Calls Try.prog 6 #[.agg cs, .slice Ad d.length cd, .slice Ac ch.length cc] w (Kept (.bool true) w) := by
  obtain ⟨A, c, A2, c2, rfl, h1, h2, h3, h4⟩ := ino_of hK
  unfold mIn at hm
  rw [ms_one] at hm
  exact lasts_law A c x.1 A2 c2 x.2 Ad cd d Ac cc ch w (by omega) h3 h4 h1 hr hc hs hr2 hc2 hs2
end Go.Proofs.Ytkgbimkjpllakaa.In
