/- bytes of a constant. -/
import Derived.Test.YtkgbimkjpllakaaBase
import Derived.Lib.SlBytesConst
set_option linter.unusedVariables false
set_option linter.unusedSimpArgs false
namespace Go.Proofs.Ytkgbimkjpllakaa.B
open Go.RowKit Go.Proofs.YtkgbimkjpllakaaW.PrintWords
theorem rd_mark (W : World) (l : List UInt8) (cs : Array Value) (fr : Nat × Nat) (h : cs = (l.map encB).toArray) (hl : l.length ≤ 9223372036854775807) : Rd (W.alloc (.cells cs 5 fr)) (some ⟨W.heap.size, 0, none⟩) l := by
  subst h
  refine Kd.C_of_reads (enc := encB) (d := (0 : UInt8)) ⟨rfl, hl, fun _ => ⟨_, rfl, fun j hj => ?_⟩⟩
  rw [show (⟨W.heap.size, 0, none⟩ : Addr).add j = ⟨W.heap.size, j, none⟩ from add_plain _ _]
  have hb := blk_new W (.cells (l.map encB).toArray 5 fr)
  rw [cell_of_row _ _ _ _ _ _ hb]
  simp [hj]
end Go.Proofs.Ytkgbimkjpllakaa.B
