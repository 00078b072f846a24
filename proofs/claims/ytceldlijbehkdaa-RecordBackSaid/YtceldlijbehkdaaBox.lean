/- A variable of a struct: made and filled in one step. Append onto a buffer in a plain region. Bytes within a block. -/
import Derived.Test.YtceldlijbehkdaaBuf
import Derived.Deep.MidRow
set_option linter.unusedVariables false
set_option linter.unusedSimpArgs false
namespace Go.Proofs.Ytceldlijbehkdaa.B
open Go.RowKit Go.Proofs.YtceldlijbehkdaaW.PrintWords

theorem setRow_alloc (w : World) (old cs : Array Value) (t : TypeId) : (w.alloc (.cells old t)).setRow w.heap.size cs = w.alloc (.cells cs t) := by
  unfold World.setRow World.alloc
  congr 1
  apply Array.ext
  · simp
  · intro i h1 h2
    simp only [Array.getElem_modify, Array.getElem_push]
    simp at h1
    split
    · rename_i hk; subst hk; simp
    · rename_i hk
      rw [dif_pos (by omega), dif_pos (by omega)]
section
variable {P : Program} {ops : Array Oper} {rest : List Oper} {o o1 o2 : Oper} {a : Act} {Q : Exit → Act → World → Prop} {w : World}
theorem run_allocZ (T : TypeId) (zs : Array Value) (hz : ∀ w, (zeroValue T).run P w = .ok (.agg zs) w) (w : World) : (Instr.alloc T true (.tuple #[])).run P w = .ok (.pointer (some ⟨w.heap.size, 0, none⟩)) (w.alloc (.cells zs T)) := by
  unfold Instr.alloc
  simp only [Sem.run_bind, hz, Result.andThen_ok]
  simp [newVar, newRow, Value.cells]
/-- an alloc as an operation -/
theorem wp_allocZ (T : TypeId) (ho : o.op = .alloc T) (zs : Array Value) (hz : ∀ w, (zeroValue T).run P w = .ok (.agg zs) w) {K : Act → World → Prop}
    (h : K (a.put o.dst (.pointer (some ⟨w.heap.size, 0, none⟩))) (w.alloc (.cells zs T))) : o.wp P a w K Q := by
  unfold Oper.wp execOp
  simp only [ho, Sem.run_bind, Sem.run_pure, run_allocZ T zs hz, Result.andThen_ok]
  exact h
/-- 'x := v', x a struct's variable -/
theorem wpList_box (h1 : o1.guard = none) (h2 : o2.guard = none) (T : TypeId) (x y : Operand) (ho1 : o1.op = .alloc T) (ho2 : o2.op = .store T x y) (cells zs : Array Value) (hz : ∀ w, (zeroValue T).run P w = .ok (.agg zs) w)
    (hx : (a.put o1.dst (.pointer (some ⟨w.heap.size, 0, none⟩))).eval x = .pointer (some ⟨w.heap.size, 0, none⟩)) (hy : (a.put o1.dst (.pointer (some ⟨w.heap.size, 0, none⟩))).eval y = .agg cells) (hs : zs.size = cells.size) (hi : (P.info? T).map (·.size) = some cells.size) (hc : cells.all (·.oneCell') = true)
    (h : wpList P ops Q rest ((a.put o1.dst (.pointer (some ⟨w.heap.size, 0, none⟩))).put o2.dst undef) (w.alloc (.cells cells T))) : wpList P ops Q (o1 :: o2 :: rest) a w := by
  refine wpList_plain h1 fun K hK => ?_
  unfold Oper.wp execOp
  simp only [ho1, Sem.run_bind, Sem.run_pure, run_allocZ T zs hz, Result.andThen_ok]
  refine hK _ _ ?_
  refine wpList_plain h2 fun K hK => ?_
  refine wp_store_row T x y ho2 w.heap.size cells hx hy T zs (blk_new w _) hi hs hc ?_
  rw [setRow_alloc]
  exact hK _ _ h
end
section
variable {ops : Array Oper} {rest : List Oper} {o : Oper} {a : Act} {Q : Exit → Act → World → Prop} {w0 W : World}
/-- append(v, ys...) onto a buffer -/
theorem appBuf (base : Nat) (hgd : o.guard = none) (s x : Operand) (ho : o.op = .call { callee := .builtin .append, args := #[s, x], argTypes := #[22, 22] })
    (v : Value) (xs ys : List UInt8) (ad : Addr) (m c : Nat) (hs : a.eval s = v) (hx : a.eval x = .slice (some ad) m c) (hm : m = ys.length) (hp : 0 < ys.length) (HO : Buf W base v xs) (HR : Rd W (some ad) ys) (HB : Below base w0 W) (hbase : base ≤ W.heap.size) (hl : xs.length + ys.length ≤ 140737488355328)
    (h : ∀ A1 c1 w1, Buf w1 base (.slice A1 (xs ++ ys).length c1) (xs ++ ys) → Below base w0 w1 → (∀ (k : Nat) (t : TypeId) (cells : Array Value), 5 ≠ t → W.heap[k]? = some (Obj.cells cells t (0, 0)) → w1.heap[k]? = W.heap[k]?) → wpList Try.prog ops Q rest (a.put o.dst (.slice A1 (xs ++ ys).length c1)) w1) :
    wpList Try.prog ops Q (o :: rest) a W := by
  refine wpList_plain hgd fun K hK => ?_
  have h1 := appBufS (E := True) (Q := Q) (Kc := K) (ops := ops) base hgd s x ho v xs ys ad m c hs hx hm hp HO HR HB hbase hl (fun A1 c1 w1 q1 q2 q3 => hK _ _ (h A1 c1 w1 q1 q2 q3))
  rwa [if_pos (by simp [Region.wanted, hgd])] at h1
end
/-- bytes within a block -/
theorem rd_at {W : World} {g o : Nat} {l : List UInt8} (h : W.rangeAt g o (l.map encB)) (hl : l.length ≤ 9223372036854775807) : Rd W (some ⟨g, o, none⟩) l := by
  refine Kd.C_of_reads (enc := encB) (d := (0 : UInt8)) ⟨rfl, hl, fun _ => ⟨_, rfl, fun j hj => ?_⟩⟩
  have h1 : W.cell? ⟨g, o + j, none⟩ = some (encB (l.getD j 0)) := h j _ (by simp [hj])
  rw [← h1]
  congr 1
  unfold Addr.add
  split
  · subst_vars; rfl
  · rfl
theorem range_blk {W : World} {g o : Nat} {t : TypeId} {cs : Array Value} {fr : Nat × Nat} {l : List Value} (h : W.heap[g]? = some (.cells cs t fr)) (hc : ∀ j v, l[j]? = some v → cs[o + j]? = some v) : W.rangeAt g o l := fun j v hv => by
  rw [cell_of_row W g (o + j) cs t fr h]; exact hc j v hv
theorem range_row {W : World} {g : Nat} {t : TypeId} {cs : Array Value} {fr : Nat × Nat} (h : W.heap[g]? = some (.cells cs t fr)) : W.rangeAt g 0 cs.toList := range_blk h (fun j v hv => by rw [Nat.zero_add]; simpa using hv)
/-- two rows stored -/
theorem two_rows {W w : World} {base g6 g7 : Nat} {t6 t7 : TypeId} {o6 o7 : Array Value} (C6 C7 : Array Value) (h6 : W.heap[g6]? = some (.cells o6 t6 (0, 0))) (h7 : W.heap[g7]? = some (.cells o7 t7 (0, 0))) (hne : g6 ≠ g7) (hb : Below base w W) (b6 : base ≤ g6) (b7 : base ≤ g7) :
    ((W.setRow g6 C6).setRow g7 C7).heap[g6]? = some (.cells C6 t6 (0, 0)) ∧ ((W.setRow g6 C6).setRow g7 C7).heap[g7]? = some (.cells C7 t7 (0, 0)) ∧ Below base w ((W.setRow g6 C6).setRow g7 C7) := by
  refine ⟨?_, ?_, below_setRow (below_setRow hb b6 C6) b7 C7⟩
  · rw [setRow_other _ _ _ _ hne]; exact setRow_heap W g6 _ C6 _ _ h6
  · exact setRow_heap _ g7 _ C7 _ _ ((setRow_other W g6 g7 C6 hne.symm).trans h7)
end Go.Proofs.Ytceldlijbehkdaa.B
