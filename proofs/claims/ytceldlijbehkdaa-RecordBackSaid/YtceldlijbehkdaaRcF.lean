/- records: fields that are set; what data tells. -/
import Derived.Test.YtceldlijbehkdaaRcMake
import Derived.Test.YtceldlijbehkdaaFrParse
import Derived.Test.YtceldlijbehkdaaClone
import Derived.Laws.CopyOwn
set_option linter.unusedVariables false
set_option linter.unusedSimpArgs false
namespace Go.Proofs.Ytceldlijbehkdaa.Rc
open Go.RowKit Go.Proofs.YtceldlijbehkdaaW.PrintWords Go.Proofs.Ytceldlijbehkdaa.B Go.Proofs.Ytceldlijbehkdaa.Fx Go.Proofs.Ytceldlijbehkdaa.Fr
section
variable {P : Program} {ops : Array Oper} {rest : List Oper} {o : Oper} {a : Act} {Q : Exit → Act → World → Prop} {w : World}
theorem wpList_allocZ (h1 : o.guard = none) (T : TypeId) (ho : o.op = .alloc T) (zs : Array Value) (hz : ∀ w, (zeroValue T).run P w = .ok (.agg zs) w)
    (h : wpList P ops Q rest (a.put o.dst (.pointer (some ⟨w.heap.size, 0, none⟩))) (w.alloc (.cells zs T))) : wpList P ops Q (o :: rest) a w :=
  wpList_plain h1 fun K hK => wp_allocZ T ho zs hz (hK _ _ h)
end
/-- one block is turned -/
structure Upd (g : Nat) (T : TypeId) (Y : Array Value) (w w' : World) : Prop where
  at_ : w'.heap[g]? = some (.cells Y T (0, 0))
  off : ∀ k, k ≠ g → w'.heap[k]? = w.heap[k]?
  bel : Below g w w'
theorem Upd.to {g : Nat} {T : TypeId} {Y : Array Value} {w0 w w' : World} (h : Upd g T Y w w') {B : Nat} (hB : B ≤ g) (hb : Below B w0 w) : Below B w0 w' := hb.trans (h.bel.mono hB)
theorem Upd.drew {g : Nat} {T : TypeId} {Y : Array Value} {w w' : World} (h : Upd g T Y w w') : Upd g T Y w w'.drew := ⟨h.at_, h.off, below_drew h.bel⟩
theorem upd_cell {g : Nat} {T : TypeId} {X : Array Value} {w : World} (hg : w.heap[g]? = some (.cells X T (0, 0))) (j : Nat) (v : Value) : Upd g T (X.setIfInBounds j v) w (w.setCell ⟨g, j, none⟩ v) :=
  ⟨blk_set hg j v, fun k hk => Below.heap_setCell w ⟨g, j, none⟩ v k hk, (Below.refl g w).setCell (Nat.le_refl g) _⟩
theorem Buf.upd {W W' : World} {base g : Nat} {T : TypeId} {X Y : Array Value} {v : Value} {l : List UInt8} (h : Buf W base v l) (hu : Upd g T Y W W') (hg : W.heap[g]? = some (.cells X T (0, 0))) (hT : 5 ≠ T) : Buf W' base v l :=
  h.move (fun k cells fr hk => hu.off k (by
    rintro rfl
    rw [hg] at hk
    injection hk with hk
    injection hk with _ hk
    exact hT hk.symm))
theorem Buf.nil (W : World) (base : Nat) : Buf W base (.slice none 0 0) [] := .inl ⟨rfl, rfl⟩
theorem upd_row {g : Nat} {T : TypeId} {X : Array Value} {w : World} (hg : w.heap[g]? = some (.cells X T (0, 0))) (Y : Array Value) : Upd g T Y w (w.setRow g Y) :=
  ⟨setRow_heap w g _ Y _ _ hg, fun k hk => setRow_other w g k Y hk, below_setRow (Below.refl _ _) (Nat.le_refl _) Y⟩
section
variable {P : Program} {ops : Array Oper} {rest : List Oper} {o : Oper} {a : Act} {Q : Exit → Act → World → Prop} {w : World}
theorem wpList_copyU (hgd : o.guard = none) (d s : Operand) (dT sT : TypeId)
    (ho : o.op = .call { callee := .builtin .copy, args := #[d, s], argTypes := #[dT, sT] }) (elem : TypeId) (hu : P.underlying dT = some (.slice elem)) (hsz : (P.info? elem).map (·.size) = some 1)
    (dp sp : Option Addr) (dLen dCap sLen sCap : Nat) (hd : a.eval d = .slice dp dLen dCap) (hs : a.eval s = .slice sp sLen sCap)
    (g off : Nat) (cur : List Value) (t : TypeId) (hg : w.heap[g]? = some (.cells cur.toArray t (0, 0))) (cs : List Value) (hn : cs.length = Nat.min sLen dLen)
    (hpos : 0 < cs.length → dp = some ⟨g, off, none⟩ ∧ ∃ ad, sp = some ad ∧ ∀ j v, cs[j]? = some v → w.cell? (ad.add j) = some v)
    (hfit : off + cs.length ≤ cur.length) (h1 : ∀ v ∈ cs, v.oneCell' = true)
    (h : ∀ w', Upd g t (splice cur off cs).toArray w w' → wpList P ops Q rest (a.put o.dst (goInt cs.length)) w') :
    wpList P ops Q (o :: rest) a w := by
  by_cases h0 : cs.length = 0
  · obtain rfl : cs = [] := List.eq_nil_of_length_eq_zero h0
    refine wpList_copy_nothing hgd d s dT sT ho elem hu hsz dp sp dLen dCap sLen sCap hd hs (by simpa using hn.symm) ?_
    exact h w ⟨by simpa [splice] using hg, fun _ _ => rfl, Below.refl _ _⟩
  · obtain ⟨rfl, ad, rfl, hsrc⟩ := hpos (by omega)
    refine wpList_copy_own hgd d s dT sT ho elem hu hsz g off dLen dCap ad sLen sCap hd hs cur.toArray t hg cs hn hsrc (by simpa using hfit) h1 ?_
    have hU := upd_row hg (cur.toArray.toList.take off ++ (cs ++ cur.toArray.toList.drop (off + cs.length))).toArray
    exact h _ (by simpa [splice] using hU)
end
def z32 : List UInt8 := List.replicate 32 0
/-- the zero record -/
def zRec : Array Value := recC 0 0 z32 ⟨#[]⟩ none 0 0 0 0
theorem zRecF : RecF zRec 0 0 z32 ⟨#[]⟩ none 0 0 0 0 := recF rfl
theorem zeroRec (w : World) : (zeroValue 27).run Try.prog w = .ok (.agg zRec) w := by kernel_rfl
theorem run_blk2 (w : World) (C D : Array Value) (T T' : TypeId) : ((w.alloc (.cells C T)).alloc (.cells D T')).heap[w.heap.size]? = some (.cells C T (0, 0)) ∧ ((w.alloc (.cells C T)).alloc (.cells D T')).heap[w.heap.size + 1]? = some (.cells D T' (0, 0)) ∧ Below w.heap.size w ((w.alloc (.cells C T)).alloc (.cells D T')) := by
  refine ⟨blk_below (blk_new w _) (below_alloc (Below.refl _ _) _), ?_, below_alloc (below_alloc (Below.refl _ _) _) _⟩
  have h := blk_new (w.alloc (.cells C T)) (.cells D T')
  rwa [show (w.alloc (.cells C T)).heap.size = w.heap.size + 1 by simp] at h
section
variable {X : Array Value} {k : Int} {s : Nat} {d : List UInt8} {nm : ByteArray} {A : Option Addr} {m c : Nat} {n z : Int}
theorem recC_list : (recC k s d nm A m c n z).toList = Value.int .i64 k :: .int .u64 s :: (d.map encB ++ [.string nm, .slice A m c, .int .i64 n, .int .i64 z]) := rfl
theorem RecF.set (h : RecF X k s d nm A m c n z) (j : Nat) (v : Value) : X.setIfInBounds (2 + 32 + j) v = (Value.int .i64 k :: .int .u64 s :: (d.map encB ++ ([Value.string nm, .slice A m c, .int .i64 n, .int .i64 z].set j v))).toArray := by
  rw [h.eq, recC, List.setIfInBounds_toArray, show 2 + 32 + j = (32 + j) + 1 + 1 by omega, List.set_cons_succ, List.set_cons_succ, List.set_append_right _ _ (by simp [h.dl])]
  simp [h.dl]
theorem RecF.setName (h : RecF X k s d nm A m c n z) (nm' : ByteArray) : RecF (X.setIfInBounds 34 (.string nm')) k s d nm' A m c n z := ⟨h.set 0 _, h.dl⟩
theorem RecF.setData (h : RecF X k s d nm A m c n z) (A' : Option Addr) (m' c' : Nat) : RecF (X.setIfInBounds 35 (.slice A' m' c')) k s d nm A' m' c' n z := ⟨h.set 1 _, h.dl⟩
theorem RecF.setN (h : RecF X k s d nm A m c n z) (n' : Int) : RecF (X.setIfInBounds 36 (.int .i64 n')) k s d nm A m c n' z := ⟨h.set 2 _, h.dl⟩
theorem RecF.setZ (h : RecF X k s d nm A m c n z) (z' : Int) : RecF (X.setIfInBounds 37 (.int .i64 z')) k s d nm A m c n z' := ⟨h.set 3 _, h.dl⟩
theorem RecF.setS (h : RecF X k s d nm A m c n z) (s' : Nat) : RecF (X.setIfInBounds 1 (.int .u64 s')) k s' d nm A m c n z := ⟨by rw [h.eq, recC, List.setIfInBounds_toArray]; rfl, h.dl⟩
theorem RecF.setD (h : RecF X k s d nm A m c n z) {d' : List UInt8} (hd : d'.length = 32) : RecF (splice X.toList 2 (d'.map encB)).toArray k s d' nm A m c n z := ⟨by
  have e : splice X.toList 2 (d'.map encB) = Value.int .i64 k :: .int .u64 s :: (d'.map encB ++ [.string nm, .slice A m c, .int .i64 n, .int .i64 z]) := by
    rw [h.eq, recC_list]
    unfold splice
    rw [show (2 + (d'.map encB).length) = 32 + 2 by simp [hd]]
    show [Value.int .i64 k, .int .u64 s] ++ (d'.map encB ++ ((d.map encB ++ [Value.string nm, .slice A m c, .int .i64 n, .int .i64 z]).drop 32)) = _
    rw [List.drop_left' (by simp [h.dl])]; rfl
  rw [e]; rfl, hd⟩
/-- some record's cells -/
structure RecS (X : Array Value) : Prop where
  size : X.size = 38
  one : X.all (·.oneCell') = true
theorem RecF.recS (h : RecF X k s d nm A m c n z) : RecS X := ⟨h.size, h.one⟩
theorem RecS.cell (h : RecS X) {j : Nat} (hj : j < 38) : ∃ v, X[j]? = some v := ⟨X[j]'(by rw [h.size]; exact hj), Array.getElem?_eq_getElem _⟩
theorem RecS.info (h : RecS X) : (Try.prog.info? 27).map (·.size) = some X.size := by rw [h.size]; exact infoRec
theorem RecS.infoL (h : RecS X) : (Try.prog.info? 27).map (·.size) = some X.toList.length := by rw [Array.length_toList]; exact h.info
theorem RecS.splice (h : RecS X) (cs : List Value) (hl : cs.length ≤ 32) (h1 : ∀ v ∈ cs, v.oneCell' = true) : RecS (Go.splice X.toList 2 cs).toArray := by
  have hs : X.toList.length = 38 := by rw [Array.length_toList]; exact h.size
  refine ⟨by rw [List.size_toArray, length_splice _ _ _ (by omega)]; exact hs, Array.all_eq_true_iff_forall_mem.2 (fun v hv => ?_)⟩
  have ha := Array.all_eq_true_iff_forall_mem.1 h.one
  rw [List.mem_toArray] at hv
  unfold Go.splice at hv
  rcases List.mem_append.1 hv with hv | hv
  · exact ha v (by simpa using List.mem_of_mem_take hv)
  rcases List.mem_append.1 hv with hv | hv
  · exact h1 v hv
  · exact ha v (by simpa using List.mem_of_mem_drop hv)
theorem RecS.set (h : RecS X) (j : Nat) (v : Value) (hv : v.oneCell' = true) : RecS (X.setIfInBounds j v) := by
  refine ⟨by rw [Array.size_setIfInBounds]; exact h.size, Array.all_eq_true_iff_forall_mem.2 (fun u hu => ?_)⟩
  have ha := Array.all_eq_true_iff_forall_mem.1 h.one
  rcases Array.mem_or_eq_of_mem_setIfInBounds hu with hu | hu
  · exact ha u hu
  · rw [hu]; exact hv
end
theorem one_encs (l : List UInt8) : ∀ v ∈ l.map encB, v.oneCell' = true := by
  intro v hv; obtain ⟨y, -, rfl⟩ := List.mem_map.1 hv; rfl
/-! ### what data tells -/
def restL (b : List UInt8) : List UInt8 := b.drop (textEnd b 0).toNat
theorem textEnd_in {b : List UInt8} (h : textOk b 0 = true) : 0 ≤ textEnd b 0 ∧ textEnd b 0 ≤ b.length := by
  have hb := bt_bd b 0
  unfold textEnd; rw [if_pos h]
  have h2 := of_decide_eq_true h
  rw [show (0 : Int).toNat = 0 from rfl] at *
  omega
def okF (k : Int) (b : List UInt8) : Bool :=
  if k = 1 ∨ k = 2 then decide (32 ≤ b.length)
  else if k = 3 then (textOk b 0 && decide ((restL b).length = 32))
  else if k = 4 then (textOk b 0 && decide ((restL b).length = 0))
  else if k = 5 then decide (b.length = 32)
  else if k = 7 then decide (b.length = 16 ∧ b.take 8 = magicL)
  else decide (b.length = 8)
def dF (k : Int) (b : List UInt8) : List UInt8 := if k = 1 ∨ k = 2 then b.take 32 else if k = 3 then restL b else if k = 5 then b else z32
def nmF (k : Int) (b : List UInt8) : ByteArray := if k = 3 ∨ k = 4 then textS b 0 else ⟨#[]⟩
def lF (k : Int) (b : List UInt8) : List UInt8 := if k = 1 ∨ k = 2 then b.drop 32 else []
def numN (b : List UInt8) (p q : Int) : Nat := if takeN b p q ≤ 4294967295 then takeN b p q else 0
def nF (k : Int) (b : List UInt8) : Int := if k = 6 ∨ k = 8 then numN b 0 4 else if k = 7 then numN b 8 8 else 0
def zF (k : Int) (b : List UInt8) : Int := if k = 6 ∨ k = 8 then numN b 4 4 else 0
/-- the end of reading data -/
def FillE (k : Int) (s : Nat) (b : List UInt8) (w : World) (e : Ending) (w' : World) : Prop :=
  (okF k b = true ∧ ∃ X A c, e = .returned (.tuple #[.agg X, .bool true]) ∧ RecF X k s (dF k b) (nmF k b) A (lF k b).length c (nF k b) (zF k b) ∧ Buf w' w.heap.size (.slice A (lF k b).length c) (lF k b) ∧ Below w.heap.size w w') ∨
  (okF k b = false ∧ ∃ X, e = .returned (.tuple #[.agg X, .bool false]) ∧ RecS X ∧ Below w.heap.size w w')
set_option maxRecDepth 100000 in
theorem number_any (A : Option Addr) (c : Nat) (b : List UInt8) (p q : Int) (w : World) (hl : b.length ≤ 140737488355328) (hr : Rd w A b) :
    Calls Try.prog 66 #[.slice A b.length c, .int .i64 p, .int .i64 q] w (Still (.int .i64 (numN b p q)) w) := by
  have HT := Lib.hid (take_any A c b p q w hl hr)
  have HN := Lib.hid (show ∀ t, takeN b p q = t → numN b p q = if t ≤ 4294967295 then t else 0 from fun t h => by unfold numN; rw [h])
  clear hr
  generalize hq : takeN b p q = t at *
  generalize takeOk b p q = tk at *
  clear hq
  by_cases h : t ≤ 4294967295
  · have hg : ¬ (4294967295 : Int) < (t : Int) := by omega
    have hw : IntKind.i64.wrap (t : Int) = (t : Int) := IntWalk.i64_in _ (by omega)
    have HE := Lib.hid (show numN b p q = t by rw [HN.out t rfl, if_pos h])
    go_enter Try.func66, Try.ntmps66
    go_wp2_with fail
    refine HT.out.mono ?_
    rintro e w1 ⟨rfl, hw1⟩
    go_wp2_with fail
    go_ret
    exact ⟨ret_eq (by rw [HE.out]; try rfl), by first | exact hw1 | rfl⟩
  · have hg : (4294967295 : Int) < (t : Int) := by omega
    have HE := Lib.hid (show numN b p q = 0 by rw [HN.out t rfl, if_neg h])
    go_enter Try.func66, Try.ntmps66
    go_wp2_with fail
    refine HT.out.mono ?_
    rintro e w1 ⟨rfl, hw1⟩
    go_wp2_with fail
    go_ret
    exact ⟨ret_eq (by rw [HE.out]; try rfl), by first | exact hw1 | rfl⟩
end Go.Proofs.Ytceldlijbehkdaa.Rc
