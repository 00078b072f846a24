/- law23: two parts compared. -/
import Derived.Test.YteeemiacibjaoaaCoTakeN
import Derived.Laws.StructEq
import Derived.Stop.BytesEq
set_option linter.unusedVariables false
set_option linter.unusedSimpArgs false
namespace Go.Proofs.Yteeemiacibjaoaa.Co
open Go.RowKit Go.Proofs.YteeemiacibjaoaaW.PrintWords Go.Proofs.Yteeemiacibjaoaa.B Go.Proofs.Yteeemiacibjaoaa.Fx Go.Proofs.Yteeemiacibjaoaa.Fr

def prt (k n : Int) (s : Nat) (t : ByteArray) (d : List UInt8) : Array Value := #[.int .i64 k, .int .i64 n, .int .u64 s, .string t] ++ (d.map encB).toArray
set_option maxRecDepth 100000 in
theorem part_eql (k n k' n' : Int) (s s' : Nat) (t t' : ByteArray) (d d' : List UInt8) (hd : d.length = 32) (hd' : d'.length = 32) (w : World) :
    (binOp .eql 73 (.agg (prt k n s t d)) (.agg (prt k' n' s' t' d'))).run Try.prog w = .ok (.bool (k == k' && (n == n' && ((s : Int) == s' && (t.toList == t'.toList && d == d'))))) w := by
  have hU := Try.underlying73
  have hf : Try.prog.fieldsOf 73 = match Try.prog.underlying 73 with | some (.struct fs) => fs | _ => #[] := by unfold Program.fieldsOf; rfl
  rw [hU] at hf
  rw [run_eql_struct, run_equalIn_agg w 9999 73 _ _ (by rw [hU, hf]) (by kernel_rfl), hf]
  have p0 : ∀ (k n : Int) (s : Nat) (t : ByteArray) (d : List UInt8) (W : World), (part 3 (prt k n s t d) 0).run Try.prog W = .ok (.int .i64 k) W := by
    intro k n s t d W; simp [part, isAgg, run_underlying Try.underlying3, prt]
  have p1 : ∀ (k n : Int) (s : Nat) (t : ByteArray) (d : List UInt8) (W : World), (part 3 (prt k n s t d) 1).run Try.prog W = .ok (.int .i64 n) W := by
    intro k n s t d W; simp [part, isAgg, run_underlying Try.underlying3, prt]
  have p2 : ∀ (k n : Int) (s : Nat) (t : ByteArray) (d : List UInt8) (W : World), (part 23 (prt k n s t d) 2).run Try.prog W = .ok (.int .u64 s) W := by
    intro k n s t d W; simp [part, isAgg, run_underlying Try.underlying23, prt]
  have p3 : ∀ (k n : Int) (s : Nat) (t : ByteArray) (d : List UInt8) (W : World), (part 9 (prt k n s t d) 3).run Try.prog W = .ok (.string t) W := by
    intro k n s t d W; simp [part, isAgg, run_underlying Try.underlying9, prt]
  have i52 : ∃ i, Try.prog.info? 52 = some i ∧ i.size = 32 := Option.map_eq_some_iff.1 (show (Try.prog.info? 52).map (·.size) = some 32 by kernel_rfl)
  obtain ⟨i, hi, hsz⟩ := i52
  have p4 : ∀ (k n : Int) (s : Nat) (t : ByteArray) (d : List UInt8) (W : World), d.length = 32 → (part 52 (prt k n s t d) 4).run Try.prog W = .ok (.agg (d.map encB).toArray) W := by
    intro k n s t d W h
    have hx : (prt k n s t d).extract 4 36 = (d.map encB).toArray := by
      apply Array.toList_inj.1
      rw [Array.toList_extract]; simp [prt]; exact List.take_of_length_le (by simp [h])
    simp [part, isAgg, run_underlying Try.underlying52, sizeOf, typeInfo, hi, hsz, hx]
  obtain ⟨i8, hi8, hz8⟩ := Option.map_eq_some_iff.1 infoU8
  have q4 : (Op.equalIn 9999 52 (.agg (d.map encB).toArray) (.agg (d'.map encB).toArray)).run Try.prog w = .ok (d == d') w :=
    run_equalIn_bytes w 9997 _ _ 32 Try.underlying52 Try.underlying5 (fun W => by simp only [Prod.mk.injEq] at hz8; simp [sizeOf, typeInfo, hi8, hz8.2.1]) d d' hd hd'
  have e0 := fun (a b : Int) => run_equalIn_int (P := Try.prog) w 9998 3 .i64 .i64 a b Try.underlying3
  have e2 := fun (a b : Int) => run_equalIn_int (P := Try.prog) w 9998 23 .u64 .u64 a b Try.underlying23
  have e3 := fun (a b : ByteArray) => run_equalIn_string (P := Try.prog) w 9998 9 a b Try.underlying9
  simp only [Op.eqFields]
  cases h0 : (k == k') <;> cases h1 : (n == n') <;> cases h2 : ((s : Int) == s') <;> cases h3 : (t.toList == t'.toList) <;> cases h4 : (d == d') <;>
    simp [Result.andThen, p0, p1, p2, p3, p4 _ _ _ _ _ _ hd, p4 _ _ _ _ _ _ hd', q4, e0, e2, e3, h0, h1, h2, h3, h4]
theorem prt_kp (k : Int) : prt k 0 0 ⟨#[]⟩ (List.replicate 32 0) = KP k := by
  unfold prt KP
  rw [show ((List.replicate 32 (0 : UInt8)).map encB).toArray = zero32 from rfl]
  exact kp_app k
theorem kp_eq (k : Int) (W : World) : (binOp .eql 73 (.agg (KP k)) (.agg (KP k))).run Try.prog W = .ok (.bool true) W := by
  have h := part_eql k 0 k 0 0 0 ⟨#[]⟩ ⟨#[]⟩ (List.replicate 32 0) (List.replicate 32 0) (by simp) (by simp) W
  rw [prt_kp] at h
  rw [h]
  simp
end Go.Proofs.Yteeemiacibjaoaa.Co
