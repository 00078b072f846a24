/- a slice of one struct: built in one step. -/
import Derived.Test.YtceldlijbehkdaaBase
import Derived.Test.YtceldlijbehkdaaBtK
import Derived.Test.YtceldlijbehkdaaRcParse
import Derived.Test.YtceldlijbehkdaaRcWord
set_option linter.unusedVariables false
set_option linter.unusedSimpArgs false
namespace Go.Proofs.Ytceldlijbehkdaa.B
open Go.RowKit Go.Proofs.YtceldlijbehkdaaW.PrintWords
theorem fold_list : ∀ (ys pre Z : List Value), Z.length = ys.length → (ys.zipIdx pre.length).foldl (fun (cs : Array Value) (x : Value × Nat) => cs.setIfInBounds x.2 x.1) (pre ++ Z).toArray = (pre ++ ys).toArray
  | [], pre, Z, h => by
    obtain rfl : Z = [] := List.eq_nil_of_length_eq_zero h
    rfl
  | y :: ys, pre, [], h => by simp at h
  | y :: ys, pre, z :: Z, h => by
    have ih := fold_list ys (pre ++ [y]) Z (by simpa using h)
    rw [List.zipIdx_cons, List.foldl_cons]
    have e : ((pre ++ z :: Z).toArray.setIfInBounds pre.length y) = (pre ++ [y] ++ Z).toArray := by
      rw [List.setIfInBounds_toArray, List.set_append_right _ _ (Nat.le_refl _), Nat.sub_self, List.set_cons_zero]; simp
    show (ys.zipIdx (pre.length + 1)).foldl _ ((pre ++ z :: Z).toArray.setIfInBounds pre.length y) = _
    rw [e]
    rw [List.length_append] at ih
    rw [show pre ++ y :: ys = pre ++ [y] ++ ys by simp]
    exact ih
theorem fold_cells (Y Z : Array Value) (h : Z.size = Y.size) : Y.zipIdx.foldl (fun (cs : Array Value) (x : Value × Nat) => cs.setIfInBounds x.2 x.1) Z = Y := by
  rw [← Array.foldl_toList, Array.toList_zipIdx]
  have h1 := fold_list Y.toList [] Z.toList (by simpa using h)
  simpa using h1
section
variable {P : Program} {ops : Array Oper} {rest : List Oper} {o : Oper} {a : Act} {Q : Exit → Act → World → Prop} {w : World}
theorem run_buildOne (t e : TypeId) (hu : P.underlying t = some (.slice e)) (Y zs : Array Value) (hi : (P.info? e).map (·.size) = some Y.size) (hn : 0 < Y.size ∧ Y.size ≤ 16777216) (hz : ∀ w, (zeroValue e).run P w = .ok (.agg zs) w) (w : World) :
    (Instr.buildSlice t 1 #[(0, .agg Y)]).run P w = .ok (.slice (some ⟨w.heap.size, 0, none⟩) 1 1) (w.alloc (.cells Y e)) := by
  have hf := fold_cells Y ((Array.range Y.size).map (zs[· % zs.size]!)) (by simp)
  have hc : (Value.agg Y).cells = Y := rfl
  have hfill : Instr.fill (fun i => some (i * Y.size, Y.size)) ((Array.range (1 * Y.size)).map (zs[· % zs.size]!)) [(0, .agg Y)] = some Y := by
    unfold Instr.fill
    simp only [hc, Nat.zero_mul, Nat.zero_add, Nat.one_mul]
    rw [if_neg (by simp)]
    unfold Instr.fill
    rw [hf]
  unfold Instr.buildSlice
  obtain ⟨i, hi1, hi2⟩ := Option.map_eq_some_iff.1 hi
  have hs : ∀ w, (sizeOf e).run P w = .ok Y.size w := fun w => by
    rw [run_sizeOf w hi1]; unfold Program.cellsOf; rw [hi1]; simp [hi2]
  simp only [Sem.run_bind, run_underlying hu, hs, Result.andThen_ok, Sem.run_pure]
  rw [if_neg (by omega), if_neg (by omega)]
  simp only [Sem.run_bind, hz, Result.andThen_ok, Sem.run_pure]
  have hc2 : (Value.agg zs).cells = zs := rfl
  rw [hc2, hfill]
  simp [newRow]
theorem wpList_buildOne (h1 : o.guard = none) (t e : TypeId) (x : Operand) (ho : o.op = .buildSlice t 1 #[(0, x)]) (hu : P.underlying t = some (.slice e)) (Y zs : Array Value) (hx : a.eval x = .agg Y) (hi : (P.info? e).map (·.size) = some Y.size) (hn : 0 < Y.size ∧ Y.size ≤ 16777216) (hz : ∀ w, (zeroValue e).run P w = .ok (.agg zs) w)
    (h : wpList P ops Q rest (a.put o.dst (.slice (some ⟨w.heap.size, 0, none⟩) 1 1)) (w.alloc (.cells Y e))) : wpList P ops Q (o :: rest) a w := by
  refine wpList_plain h1 fun K hK => ?_
  unfold Oper.wp execOp
  simp only [ho, Sem.run_bind, Sem.run_pure, List.map_toArray, List.map_cons, List.map_nil, hx, run_buildOne t e hu Y zs hi hn hz, Result.andThen_ok]
  exact hK _ _ h
end
end Go.Proofs.Ytceldlijbehkdaa.B
/- batches: words in a row; what parsing a batch answers, in plain. -/
set_option linter.unusedVariables false
set_option linter.unusedSimpArgs false
namespace Go.Proofs.Ytceldlijbehkdaa.Bt
open Go.RowKit Go.Proofs.YtceldlijbehkdaaW.PrintWords Go.Proofs.Ytceldlijbehkdaa.B Go.Proofs.Ytceldlijbehkdaa.Fx Go.Proofs.Ytceldlijbehkdaa.Fr Go.Proofs.Ytceldlijbehkdaa.O Go.Proofs.Ytceldlijbehkdaa.Rc
/-- a word -/
structure Wd where
  k : Int
  s : Nat
  d : List UInt8
  nm : ByteArray
  z : Int
  l1 : Int
  l2 : Int
  l3 : Int
/-- its cells -/
def WdC (x : Wd) (cs : List Value) : Prop := WordF cs.toArray x.k x.s x.d x.nm x.z x.l1 x.l2 x.l3
def kW : Kd Wd where
  sz := 39
  E := []
  K := fun _ x cs => WdC x cs
  M := fun _ _ _ x cs => WdC x cs
  K_len := fun h => by have := WordF.size h; rwa [List.size_toArray] at this
  K_one := fun h u hu => Array.all_eq_true_iff_forall_mem.1 (WordF.one h) u (by simpa using hu)
  K_below := fun _ h => h
  K_of_M := fun h => h
  M_mono := fun _ h => h
  M_bound := fun h => h
  M_move := fun _ h => h
  M_lower := fun _ h => h
/-- own words, read words -/
def OwnW (w : World) (base : Nat) (v : Value) (l : List Wd) : Prop := Kd.R kW 50 w base (fun _ => True) v l
def RdW (w : World) (A : Option Addr) (l : List Wd) : Prop := kW.C w A l.length l
theorem RdW.below {w w1 : World} {A : Option Addr} {l : List Wd} (h : RdW w A l) (hb : Below w.heap.size w w1) : RdW w1 A l := Kd.C_below h hb
theorem OwnW.below {w w1 : World} {base : Nat} {v : Value} {l : List Wd} (h : OwnW w base v l) (hb : Below w.heap.size w w1) : OwnW w1 base v l := Kd.R_below h hb
theorem OwnW.nil (w : World) (base : Nat) : OwnW w base (.slice none 0 0) [] := Kd.R_nil _ _ _ _ _
theorem OwnW.reads {w : World} {base : Nat} {v : Value} {l : List Wd} (h : OwnW w base v l) : ∃ A c, v = .slice A l.length c ∧ l.length ≤ c ∧ RdW w A l := Kd.R_reads h
theorem undWd : Try.prog.underlying 62 = some (.slice 50) := Try.underlying62
theorem infoWdB : (Try.prog.info? 50).map (fun i => (i.zero, i.size, i.bytes)) = some (some (.agg zWord), 39, 96) := by kernel_rfl
def zWd : Wd := ⟨0, 0, [], ⟨#[]⟩, 0, 0, 0, 0⟩
def wd (l : List Wd) (i : Nat) : Wd := l.getD i zWd
/-- an element's cells, as the walk spells them -/
theorem RdW.walk {w : World} {A : Option Addr} {l : List Wd} (h : RdW w A l) (i : Nat) (hi : i < l.length) :
    ∃ ad X, A = some ad ∧ WdC (wd l i) X ∧ (∀ (j : Nat) (v : Value), X[j]? = some v → w.cell? (ad.add (i * 39 + j)) = some v) ∧
      w.cell? (ad.add (i * 39)) = some (.int .i64 (wd l i).k) ∧ w.rangeAt (ad.add (i * 39)).block (ad.add (i * 39)).off X ∧ Hid (Value.pointer (some (ad.add (i * 39))) = .pointer (some ⟨(ad.add (i * 39)).block, (ad.add (i * 39)).off, none⟩)) := by
  obtain ⟨ad, c, e, hl, hK, hc⟩ := Kd.C_get h zWd (i : Int) (by omega) (by omega)
  rw [Int.toNat_natCast] at hK hc
  have hX : WdC (wd l i) c := hK
  have hc' : ∀ (j : Nat) (v : Value), c[j]? = some v → w.cell? (ad.add (i * 39 + j)) = some v := fun j v hv => hc j v hv
  have h0 : w.cell? (ad.add (i * 39)) = some (.int .i64 (wd l i).k) := hc' 0 _ (by have := WordF.c0 hX; simpa using this)
  have e0 : ad.add (i * 39) = ⟨(ad.add (i * 39)).block, (ad.add (i * 39)).off, none⟩ := by
    have hk : (ad.add (i * 39)).spot = none := by
      generalize ad.add (i * 39) = a at h0
      unfold World.cell? at h0
      cases hs : a.spot with
      | none => rfl
      | some x => rw [hs] at h0; split at h0 <;> simp at h0
    generalize ad.add (i * 39) = a at hk
    cases a; simp at hk; simp [hk]
  refine ⟨ad, c, e, hX, hc', h0, ?_, congrArg (fun q => Value.pointer (some q)) e0⟩
  intro j v hv
  cases j with
  | zero => rw [Nat.add_zero, ← e0]; exact hc' 0 v hv
  | succ j => exact field_cell' (hc' (j + 1) v hv)
/-! ### what parsing answers -/
/-- the word of the record at a place -/
def wdOf (b : List UInt8) (at_ sg : Int) : Wd :=
  ⟨pKind b at_, pSeq b at_, dW (pKind b at_) (dF (pKind b at_) (pData b at_)), nmW (pKind b at_) (nmF (pKind b at_) (pData b at_)), zW (pKind b at_) (lF (pKind b at_) (pData b at_)).length (zF (pKind b at_) (pData b at_)), sg, at_, pEnd b at_ - at_⟩
/-- the number of the last word -/
def lastS (o : List Wd) : Nat := (wd o (o.length - 1)).s
def parF (b : List UInt8) (frm sg : Int) : Nat → Int → List Wd → List Wd × Int × Nat × Nat
  | 0, _, _ => ([], 0, 0, 3)
  | f + 1, at_, o =>
    if recE b at_ ≠ 0 then ([], 0, 0, recE b at_)
    else if (o.length = 0 ∧ mayB (pKind b at_) = false) ∨ (o.length ≠ 0 ∧ (pSeq b at_ = 0 ∨ pSeq b at_ - 1 ≠ lastS o)) then ([], 0, 0, 3)
    else if mayB (pKind b at_) = true then parF b frm sg f (pEnd b at_) (o ++ [wdOf b at_ sg])
    else if (pKind b at_ : Int) = 6 ∧ nF (pKind b at_) (pData b at_) = (o.length : Int) ∧ zF (pKind b at_) (pData b at_) = at_ - frm then (o, pEnd b at_, pSeq b at_, 0)
    else ([], 0, 0, 3)
/-- the batch at a place -/
def parL (b : List UInt8) (at_ sg : Int) : List Wd × Int × Nat × Nat := parF b at_ sg (b.length + 1) at_ []
theorem lastS_snoc (o : List Wd) (x : Wd) : lastS (o ++ [x]) = x.s := by simp [lastS, wd]
section
variable {b : List UInt8} {frm sg at_ : Int} {f : Nat} {o : List Wd}
theorem parF_err (h : recE b at_ ≠ 0) : parF b frm sg (f + 1) at_ o = ([], 0, 0, recE b at_) := by unfold parF; rw [if_pos h]
theorem parF_seq (h : recE b at_ = 0) (h2 : (o.length = 0 ∧ mayB (pKind b at_) = false) ∨ (o.length ≠ 0 ∧ (pSeq b at_ = 0 ∨ pSeq b at_ - 1 ≠ lastS o))) : parF b frm sg (f + 1) at_ o = ([], 0, 0, 3) := by
  unfold parF; rw [if_neg (by simp [h]), if_pos h2]
theorem parF_go (h : recE b at_ = 0) (h2 : ¬ ((o.length = 0 ∧ mayB (pKind b at_) = false) ∨ (o.length ≠ 0 ∧ (pSeq b at_ = 0 ∨ pSeq b at_ - 1 ≠ lastS o)))) (h3 : mayB (pKind b at_) = true) :
    parF b frm sg (f + 1) at_ o = parF b frm sg f (pEnd b at_) (o ++ [wdOf b at_ sg]) := by
  rw [parF, if_neg (by simp [h]), if_neg h2, if_pos h3]
theorem parF_end (h : recE b at_ = 0) (h2 : ¬ ((o.length = 0 ∧ mayB (pKind b at_) = false) ∨ (o.length ≠ 0 ∧ (pSeq b at_ = 0 ∨ pSeq b at_ - 1 ≠ lastS o)))) (h3 : mayB (pKind b at_) = false)
    (h4 : (pKind b at_ : Int) = 6 ∧ nF (pKind b at_) (pData b at_) = (o.length : Int) ∧ zF (pKind b at_) (pData b at_) = at_ - frm) : parF b frm sg (f + 1) at_ o = (o, pEnd b at_, pSeq b at_, 0) := by
  rw [parF, if_neg (by simp [h]), if_neg h2, if_neg (by simp [h3]), if_pos h4]
theorem parF_no (h : recE b at_ = 0) (h2 : ¬ ((o.length = 0 ∧ mayB (pKind b at_) = false) ∨ (o.length ≠ 0 ∧ (pSeq b at_ = 0 ∨ pSeq b at_ - 1 ≠ lastS o)))) (h3 : mayB (pKind b at_) = false)
    (h4 : ¬ ((pKind b at_ : Int) = 6 ∧ nF (pKind b at_) (pData b at_) = (o.length : Int) ∧ zF (pKind b at_) (pData b at_) = at_ - frm)) : parF b frm sg (f + 1) at_ o = ([], 0, 0, 3) := by
  rw [parF, if_neg (by simp [h]), if_neg h2, if_neg (by simp [h3]), if_neg h4]
end
theorem rec_p {b : List UInt8} {at_ : Int} (h : recE b at_ = 0) : pErr b at_ = 0 := by
  by_cases h1 : pErr b at_ = 0
  · exact h1
  · unfold recE at h; rw [if_pos h1] at h; exact h
theorem lF_le (k : Int) (y : List UInt8) : (lF k y).length ≤ y.length := by
  unfold lF
  split
  · rw [List.length_drop]; omega
  · simp
/-- a right record lies within the bytes -/
theorem rec_in {b : List UInt8} {at_ : Int} (h : recE b at_ = 0) : 0 ≤ at_ ∧ at_ + 21 ≤ pEnd b at_ ∧ pEnd b at_ ≤ (b.length : Int) := by
  have h1 := rec_p h
  obtain ⟨h2, h3, h4⟩ := pErr_ok h1
  have h5 := (pErrX_ok h4).2.2.2.2.1
  rw [List.length_drop] at h5
  unfold pEnd
  rw [if_pos h1]
  omega
/-- the end: words, the batch's end, its number, an error -/
def BParsed (r : List Wd × Int × Nat × Nat) (w : World) (e : Ending) (w' : World) : Prop :=
  ∃ v, e = .returned (.tuple #[v, .int .i64 r.2.1, .int .u64 r.2.2.1, .int .i64 r.2.2.2]) ∧ OwnW w' w.heap.size v r.1 ∧ Below w.heap.size w w'
theorem results_tmp4 {fn : Func} {t u v x : Tmp} (h : fn.results = #[.tmp t, .tmp u, .tmp v, .tmp x]) (tmps : Array Value) (P : Program) (w : World) :
    (results fn tmps).run P w = .ok (.tuple #[tmps.getD t undef, tmps.getD u undef, tmps.getD v undef, tmps.getD x undef]) w := by
  simp [results, h]
theorem may_still (k : Int) (w : World) : Calls Try.prog 57 #[.int .i64 k] w (Still (.bool (mayB k)) w) := by
  by_cases h1 : 1 ≤ k
  · have HM := Lib.hid (show mayB k = decide (k ≤ 5) by unfold mayB; simp [h1])
    go_enter Try.func57, Try.ntmps57
    go_wp2
    go_ret
    exact ⟨ret_eq (by rw [HM.out]; rfl), rfl⟩
  · have HM := Lib.hid (show mayB k = false by unfold mayB; simp [h1])
    go_enter Try.func57, Try.ntmps57
    go_wp2
    go_ret
    exact ⟨ret_eq (by rw [HM.out]; rfl), rfl⟩
end Go.Proofs.Ytceldlijbehkdaa.Bt
