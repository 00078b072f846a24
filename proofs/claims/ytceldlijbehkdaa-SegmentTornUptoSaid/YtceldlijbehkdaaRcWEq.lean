/- a word is equal to itself. -/
import Derived.Test.YtceldlijbehkdaaRcWord
import Derived.Laws.StructEq
import Derived.Stop.BytesEq
set_option linter.unusedVariables false
set_option linter.unusedSimpArgs false
namespace Go.Proofs.Ytceldlijbehkdaa.Rc
open Go.RowKit Go.Proofs.YtceldlijbehkdaaW.PrintWords Go.Proofs.Ytceldlijbehkdaa.B Go.Proofs.Ytceldlijbehkdaa.Fx Go.Proofs.Ytceldlijbehkdaa.Fr
set_option maxRecDepth 100000 in
theorem word_self {X : Array Value} {k : Int} {s : Nat} {d : List UInt8} {nm : ByteArray} {z l1 l2 l3 : Int} (h : WordF X k s d nm z l1 l2 l3) (w : World) : (binOp .eql 50 (.agg X) (.agg X)).run Try.prog w = .ok (.bool true) w := by
  have hU := Try.underlying50
  have hf : Try.prog.fieldsOf 50 = match Try.prog.underlying 50 with | some (.struct fs) => fs | _ => #[] := by unfold Program.fieldsOf; rfl
  rw [hU] at hf
  rw [run_eql_struct, run_equalIn_agg w 9999 50 _ _ (by rw [hU, hf]) (by kernel_rfl), hf]
  have c0 := h.c0
  have c1 := h.c1
  have c34 := h.c34
  have c35 := h.c35
  have p0 : ∀ (W : World), (part 3 X 0).run Try.prog W = .ok (.int .i64 k) W := by
    intro W; simp [part, isAgg, run_underlying Try.underlying3, c0]
  have p1 : ∀ (W : World), (part 23 X 1).run Try.prog W = .ok (.int .u64 s) W := by
    intro W; simp [part, isAgg, run_underlying Try.underlying23, c1]
  have p3 : ∀ (W : World), (part 9 X 34).run Try.prog W = .ok (.string nm) W := by
    intro W; simp [part, isAgg, run_underlying Try.underlying9, c34]
  have p4 : ∀ (W : World), (part 3 X 35).run Try.prog W = .ok (.int .i64 z) W := by
    intro W; simp [part, isAgg, run_underlying Try.underlying3, c35]
  obtain ⟨i, hi, hsz⟩ := Option.map_eq_some_iff.1 infoDig
  obtain ⟨j, hj, hszj⟩ := Option.map_eq_some_iff.1 (show (Try.prog.info? 44).map (·.size) = some 3 by kernel_rfl)
  have hd := h.dl
  have p2 : ∀ (W : World), (part 25 X 2).run Try.prog W = .ok (.agg (d.map encB).toArray) W := by
    intro W
    have hx : X.extract 2 34 = (d.map encB).toArray := by
      apply Array.toList_inj.1
      rw [Array.toList_extract, h.eq]
      show (((d.map encB ++ [Value.string nm, .int .i64 z, .int .i64 l1, .int .i64 l2, .int .i64 l3])).take 32) = _
      rw [List.take_left' (by simp [hd])]
    simp [part, isAgg, run_underlying Try.underlying25, sizeOf, typeInfo, hi, hsz, hx]
  have p5 : ∀ (W : World), (part 44 X 36).run Try.prog W = .ok (.agg #[.int .i64 l1, .int .i64 l2, .int .i64 l3]) W := by
    intro W
    have hx : X.extract 36 39 = #[.int .i64 l1, .int .i64 l2, .int .i64 l3] := by
      apply Array.toList_inj.1
      rw [Array.toList_extract, h.eq]
      show (((d.map encB ++ [Value.string nm, .int .i64 z, .int .i64 l1, .int .i64 l2, .int .i64 l3]).drop 34).take 3) = _
      rw [show 34 = (d.map encB).length + 2 by simp [hd], ← List.drop_drop, List.drop_left' rfl]; rfl
    simp [part, isAgg, run_underlying Try.underlying44, sizeOf, typeInfo, hj, hszj, hx]
  obtain ⟨i8, hi8, hz8⟩ := Option.map_eq_some_iff.1 infoU8
  have q4 : (Op.equalIn 9999 25 (.agg (d.map encB).toArray) (.agg (d.map encB).toArray)).run Try.prog w = .ok (d == d) w :=
    run_equalIn_bytes w 9997 _ _ 32 Try.underlying25 Try.underlying5 (fun W => by simp only [Prod.mk.injEq] at hz8; simp [sizeOf, typeInfo, hi8, hz8.2.1]) d d hd hd
  have e0 := fun (a b : Int) => run_equalIn_int (P := Try.prog) w 9998 3 .i64 .i64 a b Try.underlying3
  have e2 := fun (a b : Int) => run_equalIn_int (P := Try.prog) w 9998 23 .u64 .u64 a b Try.underlying23
  have e3 := fun (a b : ByteArray) => run_equalIn_string (P := Try.prog) w 9998 9 a b Try.underlying9
  have e5 : (Op.equalIn 9999 44 (.agg #[.int .i64 l1, .int .i64 l2, .int .i64 l3]) (.agg #[.int .i64 l1, .int .i64 l2, .int .i64 l3])).run Try.prog w = .ok true w := loc_self' l1 l2 l3 w
  simp only [Op.eqFields]
  simp [Result.andThen, p0, p1, p2, p3, p4, p5, q4, e0, e2, e3, e5]
where
  loc_self' (l1 l2 l3 : Int) (w : World) : (Op.equalIn 9999 44 (.agg #[.int .i64 l1, .int .i64 l2, .int .i64 l3]) (.agg #[.int .i64 l1, .int .i64 l2, .int .i64 l3])).run Try.prog w = .ok true w := by
    have hU := Try.underlying44
    have hf : Try.prog.fieldsOf 44 = match Try.prog.underlying 44 with | some (.struct fs) => fs | _ => #[] := by unfold Program.fieldsOf; rfl
    rw [hU] at hf
    rw [run_equalIn_agg w 9998 44 _ _ (by rw [hU, hf]) (by kernel_rfl), hf]
    have p0 : ∀ (W : World), (part 3 #[Value.int .i64 l1, .int .i64 l2, .int .i64 l3] 0).run Try.prog W = .ok (.int .i64 l1) W := by
      intro W; simp [part, isAgg, run_underlying Try.underlying3]
    have p1 : ∀ (W : World), (part 3 #[Value.int .i64 l1, .int .i64 l2, .int .i64 l3] 1).run Try.prog W = .ok (.int .i64 l2) W := by
      intro W; simp [part, isAgg, run_underlying Try.underlying3]
    have p2 : ∀ (W : World), (part 3 #[Value.int .i64 l1, .int .i64 l2, .int .i64 l3] 2).run Try.prog W = .ok (.int .i64 l3) W := by
      intro W; simp [part, isAgg, run_underlying Try.underlying3]
    have e0 := fun (a b : Int) => run_equalIn_int (P := Try.prog) w 9997 3 .i64 .i64 a b Try.underlying3
    simp only [Op.eqFields]
    simp [Result.andThen, p0, p1, p2, e0]
end Go.Proofs.Ytceldlijbehkdaa.Rc
