/- The compare of two aggregates as one operation: in a region that draws its order, in a plain one. -/
import Derived.Test.YtceldlijbehkdaaBase
import Derived.OrdersHeld
import Derived.Deep.MidRow
import Derived.Laws.StructEq
import Derived.Stop.BytesEq
set_option linter.unusedVariables false
set_option linter.unusedSimpArgs false
namespace Go.Proofs.Ytceldlijbehkdaa.B
open Go.RowKit Go.Proofs.YtceldlijbehkdaaW.PrintWords

section
variable {P : Program} {ops : Array Oper} {S : World → Prop} {o : Oper} {a : Act} {rest : List Oper} {Q : Exit → Act → World → Prop} {w : World}
theorem exec_eq (bop : BinOp) (ty ty' : TypeId) (x y : Operand) (ho : o.op = .binOp bop ty x y ty') (xs ys : Array Value) (hx : a.eval x = .agg xs) (hy : a.eval y = .agg ys) (hm : P.eqGuardType P.depth ty = false) (v : Value) (W : World) (h : (binOp bop ty (.agg xs) (.agg ys)).run P W = .ok v W) :
    (execOp a.eval o).run P W = .ok (.value v) W := by
  unfold execOp
  simp only [ho, hx, hy, Sem.run_bind, Sem.run_pure, run_eqGuard_agg W bop ty x y xs ys hm, Result.andThen_ok, h]
theorem yields_eq (bop : BinOp) (ty ty' : TypeId) (x y : Operand) (ho : o.op = .binOp bop ty x y ty') (xs ys : Array Value) (hx : a.eval x = .agg xs) (hy : a.eval y = .agg ys) (hm : P.eqGuardType P.depth ty = false) (v : Value) (hw : Region.wanted o (yielded ops a.tmps) = true) (h : ∀ W, (binOp bop ty (.agg xs) (.agg ys)).run P W = .ok v W) :
    YieldsIf P ops S o v a := .inl ⟨hw, fun W _ => exec_eq bop ty ty' x y ho xs ys hx hy hm v W (h W)⟩
theorem wpList_eq (hgd : o.guard = none) (bop : BinOp) (ty ty' : TypeId) (x y : Operand) (ho : o.op = .binOp bop ty x y ty') (xs ys : Array Value) (hx : a.eval x = .agg xs) (hy : a.eval y = .agg ys) (hm : P.eqGuardType P.depth ty = false) (v : Value) (h : (binOp bop ty (.agg xs) (.agg ys)).run P w = .ok v w)
    (hk : wpList P ops Q rest (a.put o.dst v) w) : wpList P ops Q (o :: rest) a w := by
  refine wpList_plain hgd fun K hK => ?_
  unfold Oper.wp
  rw [exec_eq bop ty ty' x y ho xs ys hx hy hm v w h]
  exact hK _ _ hk
theorem wpList_eqG (hw : Region.wanted o (yielded ops a.tmps) = true) (bop : BinOp) (ty ty' : TypeId) (x y : Operand) (ho : o.op = .binOp bop ty x y ty') (xs ys : Array Value) (hx : a.eval x = .agg xs) (hy : a.eval y = .agg ys) (hm : P.eqGuardType P.depth ty = false) (v : Value) (h : (binOp bop ty (.agg xs) (.agg ys)).run P w = .ok v w)
    (hk : wpList P ops Q rest (a.put o.dst v) w) : wpList P ops Q (o :: rest) a w := by
  refine wpList_step fun K hK => ?_
  rw [if_pos hw]
  unfold Oper.wp
  rw [exec_eq bop ty ty' x y ho xs ys hx hy hm v w h]
  exact hK _ _ hk
/-- a load of a whole array, under a guard that holds -/
theorem wpList_load_midG (hw : Region.wanted o (yielded ops a.tmps) = true) (ty : TypeId) (x : Operand) (ho : o.op = .load ty x)
    (b off : Nat) (hx : a.eval x = .pointer (some ⟨b, off, none⟩)) (cs : List Value) (d : TypeDesc) (hc : w.rangeAt b off cs)
    (hu : P.underlying ty = some d) (hd : d.isRow = true) (hi : (P.info? ty).map (·.size) = some cs.length)
    (h : wpList P ops Q rest (a.put o.dst (.agg cs.toArray)) w) : wpList P ops Q (o :: rest) a w := by
  refine wpList_step fun K hK => ?_
  rw [if_pos hw]
  exact wp_load_mid ty x ho b off hx cs d hc hu hd hi (hK _ _ h)
end
/-- equality of 32 bytes -/
theorem eql_dig (a b : List UInt8) (ha : a.length = 32) (hb : b.length = 32) (W : World) (e : TypeId) (n : Nat) (he : e = 5) (t : TypeId) (ht : Try.prog.underlying t = some (.array 32 e)) :
    (binOp .eql t (.agg (a.map encB).toArray) (.agg (b.map encB).toArray)).run Try.prog W = .ok (.bool (a == b)) W := by
  subst he
  obtain ⟨i8, hi8, hz8⟩ := Option.map_eq_some_iff.1 infoU8
  exact run_eql_bytes W t 5 32 ht Try.underlying5 (fun W => by simp only [Prod.mk.injEq] at hz8; simp [sizeOf, typeInfo, hi8, hz8.2.1]) a b ha hb
theorem neq_run {r : Result Bool} {b : Bool} {W : World} (h : (r.andThen fun b w' => .ok (Value.bool b) w') = .ok (.bool b) W) : (r.andThen fun b w' => .ok (Value.bool (!b)) w') = .ok (.bool (!b)) W := by
  cases r with
  | ok b' w' =>
    simp only [Result.andThen_ok] at h ⊢
    injection h with h1 h2
    injection h1 with h1
    rw [h1, h2]
  | halt x w' => simp [Result.andThen] at h
theorem neq_of_eql {t : TypeId} {xs ys : Array Value} {b : Bool} {W : World} (h : (binOp .eql t (.agg xs) (.agg ys)).run Try.prog W = .ok (.bool b) W) : (binOp .neq t (.agg xs) (.agg ys)).run Try.prog W = .ok (.bool (!b)) W :=
  (run_neq_struct W t xs ys).trans (neq_run ((run_eql_struct W t xs ys).symm.trans h))
end Go.Proofs.Ytceldlijbehkdaa.B
