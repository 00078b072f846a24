/- law23: take from a nil reader. -/
import Derived.Test.YteeemiacibjaoaaCoTake3
set_option linter.unusedVariables false
set_option linter.unusedSimpArgs false
namespace Go.Proofs.Yteeemiacibjaoaa.Co
open Go.RowKit Go.Proofs.YteeemiacibjaoaaW.PrintWords Go.Proofs.Yteeemiacibjaoaa.B Go.Proofs.Yteeemiacibjaoaa.Fx Go.Proofs.Yteeemiacibjaoaa.Fr

theorem firm_below (w : World) : Firm w.heap.size (fun W => Below w.heap.size w W) := fun W b cs hb h _ => ⟨fun i u => below_set' h hb, fun u => below_setRow h hb u⟩
theorem tk_of_kept {w W : World} {v : Value} {x : Ending} {w' : World} (hW : Below w.heap.size w W) (h : Kept v W x w') : TkR W (fun _ => False) v (fun W' => Below w.heap.size w W') x w' :=
  ⟨h.1, hW.trans (h.2.mono hW.size), h.2.size, fun k _ hk => h.2.block k hk⟩
theorem kp_app (k : Int) : #[Value.int .i64 k, .int .i64 0, .int .u64 0, .string ⟨#[]⟩] ++ zero32 = KP k := by
  apply Array.toList_inj.1
  rw [Array.toList_append]
  unfold zero32 KP
  rfl
theorem take_nil (k n : Int) (cs : Array Value) (hcs : cs.size = 36) (h0 : cs[0]? = some (.int .i64 k)) (h1 : cs[1]? = some (.int .i64 n)) (w : World) :
    Calls Try.prog 41 #[.pointer none, .agg cs] w (Kept (.agg (KP k)) w) := by
  by_cases k0 : k = 0
  · refine (take0 (.pointer none) k n k0 cs hcs h0 h1 w (fun _ => False) (fun _ _ h => h) _ (firm_below w) 0 (fun W hW => (rnum_nil n W).mono (fun _ _ h => tk_of_kept hW h))).mono ?_
    rintro x w' ⟨rfl, hb⟩; exact ⟨rfl, hb⟩
  by_cases k1 : k = 1
  · refine (take1 (.pointer none) k n k1 cs hcs h0 h1 w (fun _ => False) (fun _ _ h => h) _ (firm_below w) 0 (fun W hW => (rseq_nil W).mono (fun _ _ h => tk_of_kept hW h))).mono ?_
    rintro x w' ⟨rfl, hb⟩; exact ⟨rfl, hb⟩
  by_cases k2 : k = 2
  · refine (take2 (.pointer none) k n k2 cs hcs h0 h1 w (fun _ => False) (fun _ _ h => h) _ (firm_below w) ⟨#[]⟩ (fun W hW => (rtext_nil W).mono (fun _ _ h => tk_of_kept hW h))).mono ?_
    rintro x w' ⟨rfl, hb⟩; exact ⟨rfl, hb⟩
  · refine (take3 (.pointer none) k n k0 k1 k2 cs hcs h0 h1 w (fun _ => False) (fun _ _ h => h) _ (firm_below w) zero32 rfl (by unfold zero32; simp [Value.oneCell']) (fun W hW => (rdig_nil W).mono (fun _ _ h => tk_of_kept hW h))).mono ?_
    rintro x w' ⟨rfl, hb⟩; rw [kp_app]; exact ⟨rfl, hb⟩
end Go.Proofs.Yteeemiacibjaoaa.Co
