/- stillagelaw10: the laws as the rows take them. -/
import Derived.Test.YtkgbimkjpllakaaInoLaw
import Derived.Test.YtkgbimkjpllakaaSizedF
set_option linter.unusedVariables false
set_option linter.unusedSimpArgs false
namespace Go.Proofs.Ytkgbimkjpllakaa.In
open Go.RowKit Go.Proofs.YtkgbimkjpllakaaW.PrintWords Go.Proofs.Ytkgbimkjpllakaa.B Go.Proofs.Ytkgbimkjpllakaa.O Go.Proofs.Ytkgbimkjpllakaa.Wr Go.Proofs.Ytkgbimkjpllakaa.R01
theorem ino_of {cs : Array Value} {x : Ino} {w : World} (hK : kIn.K w x cs.toList) : ∃ A c A2 c2, cs = #[.slice A x.1.length c, .slice A2 x.2.length c2] ∧ x.1.length ≤ c ∧ x.2.length ≤ c2 ∧ Rd w A x.1 ∧ RdW w A2 x.2 := by
  obtain ⟨A, c, A2, c2, h1, h2, h3, h4, h5⟩ := in_cells (fk_came heapIn hK)
  exact ⟨A, c, A2, c2, Array.toList_inj.1 h1, h2, h3, h4.rd, h5.rd⟩
theorem crash_row (cs : Array Value) (x : Ino) (Ac : Option Addr) (cc : Nat) (ch : List UInt8) (w : World) (hK : kIn.K w x cs.toList) (y0 : ∀ A n k, cs.toList[0]? = some (.slice A n k) → n * 1 ≤ 140737488351232) (y1 : ∀ A n k, cs.toList[1]? = some (.slice A n k) → n * 40 ≤ 140737488351232) (hr : Rd w Ac ch) (hc : ch.length ≤ cc) (hs : ch.length ≤ 140737488351232) :
    Calls Try.prog 7 #[.agg cs, .slice Ac ch.length cc] w (Kept (.bool true) w) := by
  obtain ⟨A, c, A2, c2, rfl, h1, h2, h3, h4⟩ := ino_of hK
  have z0 := y0 A x.1.length c rfl
  exact crash_law A c x.1 A2 c2 x.2 Ac cc ch w (by omega) h3 h4 h1 hc hr (by omega)
theorem does_row (cs : Array Value) (x : Ino) (Ad : Option Addr) (cd : Nat) (d : List UInt8) (n : Int) (w : World) (hK : kIn.K w x cs.toList) (y0 : ∀ A n k, cs.toList[0]? = some (.slice A n k) → n * 1 ≤ 140737488351232) (y1 : ∀ A n k, cs.toList[1]? = some (.slice A n k) → n * 40 ≤ 140737488351232) (hr : Rd w Ad d) (hc : d.length ≤ cd) (hs : d.length ≤ 140737488351232) (hn : -9223372036854775808 ≤ n ∧ n ≤ 9223372036854775807) :
    Calls Try.prog 11 #[.agg cs, .slice Ad d.length cd, .int .i64 n] w (Kept (.bool true) w) := by
  obtain ⟨A, c, A2, c2, rfl, h1, h2, h3, h4⟩ := ino_of hK
  have z0 := y0 A x.1.length c rfl
  have z1 := y1 A2 x.2.length c2 rfl
  exact does_law A c x.1 A2 c2 x.2 Ad cd d n w (by omega) h3 h4 h1 h2 hr hc (by omega) hn.1 hn.2 (by omega)
end Go.Proofs.Ytkgbimkjpllakaa.In
