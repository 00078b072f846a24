/- Words of this seat's walks: bytes that are read (Rd), bytes of the call's own (Own), ends of calls. -/
import Derived.Test.YtceldlijbehkdaaProg
import Derived.Test.YtceldlijbehkdaaWWords
import Derived.Handy
import Derived.Lib.Hide
set_option linter.unusedVariables false
set_option linter.unusedSimpArgs false
namespace Go.Proofs.Ytceldlijbehkdaa.B
open Go.RowKit Go.Proofs.YtceldlijbehkdaaW.PrintWords

def encB (b : UInt8) : Value := .int .u8 b.toNat
def u8 : Kd UInt8 := Kd.scalar encB (fun _ => rfl)
/-- bytes that are read -/
def Rd (w : World) (A : Option Addr) (l : List UInt8) : Prop := u8.C w A l.length l
/-- bytes of the call's own -/
def Own (w : World) (base : Nat) (v : Value) (l : List UInt8) : Prop := u8.R 5 w base (fun _ => True) v l
def bt (l : List UInt8) (i : Nat) : Int := ((l.getD i 0).toNat : Int)
theorem bt_bd (l : List UInt8) (i : Nat) : 0 ≤ bt l i ∧ bt l i ≤ 255 := by
  unfold bt; have := (l.getD i 0).toNat_lt; omega
theorem Rd.len {w : World} {A : Option Addr} {l : List UInt8} (h : Rd w A l) : l.length ≤ 9223372036854775807 := h.2.1
theorem Rd.at_ {w : World} {A : Option Addr} {l : List UInt8} (h : Rd w A l) (i : Nat) (hi : i < l.length) : ∃ ad, A = some ad ∧ w.cell? (ad.add i) = some (.int .u8 (bt l i)) := by
  obtain ⟨ad, h1, h2⟩ := ReadsOf.at_ (Kd.reads_of_C (enc := encB) (d := (0 : UInt8)) (h1 := fun _ => rfl) h) i (by omega) (by omega)
  exact ⟨ad, h1, by simpa [rdOf, encB, bt] using h2⟩
theorem Rd.below {w w1 : World} {A : Option Addr} {l : List UInt8} (h : Rd w A l) (hb : Below w.heap.size w w1) : Rd w1 A l := Kd.C_below h hb
theorem Rd.drewN {w : World} {A : Option Addr} {l : List UInt8} (h : Rd w A l) (n : Nat) : Rd (w.drewN n) A l := Kd.C_drewN h n
theorem Rd.nil (w : World) : Rd w none [] := Kd.C_nil u8 w
theorem Rd.take {w : World} {A : Option Addr} {l : List UInt8} (h : Rd w A l) {m : Nat} (hm : m ≤ l.length) : Rd w A (l.take m) := Kd.C_take h hm
theorem Rd.drop {w : World} {A : Option Addr} {l : List UInt8} {c : Nat} (h : Rd w A l) {m : Nat} (hm : m ≤ l.length) (hc : l.length ≤ c) : Rd w (if c = m then A else A.map (·.add m)) (l.drop m) := by
  have := Kd.C_drop (k := u8) (c := c) h hm hc
  rwa [show u8.sz = 1 from rfl, Nat.mul_one] at this
theorem Own.reads {w : World} {base : Nat} {v : Value} {l : List UInt8} (h : Own w base v l) : ∃ A c, v = .slice A l.length c ∧ l.length ≤ c ∧ Rd w A l := Kd.R_reads h
theorem Own.nil (w : World) (base : Nat) : Own w base (.slice none 0 0) [] := Kd.R_nil u8 5 w base _
theorem Own.below {w w1 : World} {base : Nat} {v : Value} {l : List UInt8} (h : Own w base v l) (hb : Below w.heap.size w w1) : Own w1 base v l := Kd.R_below h hb
theorem Own.lower {w : World} {base base' : Nat} {v : Value} {l : List UInt8} (h : Own w base v l) (hb : base' ≤ base) : Own w base' v l := Kd.R_lower h hb
theorem below_step' {w W w2 : World} (h : Below w.heap.size w W) (k : Below W.heap.size W w2) : Below w.heap.size w w2 := below_then h h.size k
/-- the end: a value, the world as it was -/
def Still (v : Value) (w : World) (e : Ending) (w' : World) : Prop := e = .returned v ∧ w' = w
/-- the end: a value, orders drawn -/
def Quiet (v : Value) (w : World) (e : Ending) (w' : World) : Prop := e = .returned v ∧ ∃ n, w' = w.drewN n
/-- the end: a value; what there was is as it was -/
def Kept (v : Value) (w : World) (e : Ending) (w' : World) : Prop := e = .returned v ∧ Below w.heap.size w w'
/-- the end: bytes of the call's own -/
def Made (w : World) (l : List UInt8) (e : Ending) (w' : World) : Prop := ∃ v, e = .returned v ∧ Own w' w.heap.size v l ∧ Below w.heap.size w w'
/-- the end: bytes of the call's own, and a truth -/
def Made2 (w : World) (l : List UInt8) (b : Bool) (e : Ending) (w' : World) : Prop := ∃ v, e = .returned (.tuple #[v, .bool b]) ∧ Own w' w.heap.size v l ∧ Below w.heap.size w w'
theorem ret_eq {a b : Value} (h : a = b) : Ending.returned a = .returned b := by rw [h]
theorem infoU8 : (Try.prog.info? 5).map (fun i => (i.zero, i.size, i.bytes)) = some (some (.int .u8 0), 1, 1) := by kernel_rfl
theorem undB : Try.prog.underlying 22 = some (.slice 5) := Try.underlying22
section
variable {ops : Array Oper} {rest : List Oper} {o : Oper} {a : Act} {Q : Exit → Act → World → Prop} {w0 W : World}
/-- make([]byte, n, c) -/
theorem make_u8 (base : Nat) (hgd : o.guard = none) (x y : Operand) (ho : o.op = .makeSlice 22 x y) (n c : Int) (hx : a.eval x = .int .i64 n) (hy : a.eval y = .int .i64 c) (h0 : 0 ≤ n) (h1 : n ≤ c) (hc : c ≤ 281474976710656)
    (HB : Below base w0 W) (hbase : base ≤ W.heap.size) (h : ∀ v1 w1, Own w1 base v1 (List.replicate n.toNat 0) → Below base w0 w1 → wpList Try.prog ops Q rest (a.put o.dst v1) w1) : wpList Try.prog ops Q (o :: rest) a W := by
  obtain ⟨i0, hi, hzz⟩ := Option.map_eq_some_iff.1 infoU8
  simp only [Prod.mk.injEq] at hzz
  obtain ⟨hz0, hz1, hz2⟩ := hzz
  have hr := run_make (P := Try.prog) W 22 5 i0 _ undB hi hz0 .i64 .i64 n c h0 h1 (by rw [hz2]; omega) (by omega)
  rw [hz1, Nat.mul_one] at hr
  refine wpList_plain hgd fun K hK => ?_
  unfold Oper.wp
  simp [execOp, ho, hx, hy, hr, Result.andThen]
  refine hK _ _ (h _ _ ?_ (HB.alloc hbase _))
  refine Kd.R_of_own ?_ (fun _ _ => trivial)
  have hcells : (madeCells (Value.int .u8 0).cells c.toNat).toList = List.replicate c.toNat (Value.int .u8 0) := by
    apply List.ext_getElem
    · simp [size_madeCells]
    · intro i h1 h2; simp [madeCells, Value.cells, Nat.mod_one]
  refine ⟨by simp [encs], .inr ⟨W.heap.size, c.toNat, madeCells (Value.int .u8 0).cells c.toNat, ?_, hbase, blk_new W _, ?_, ?_, ?_, ?_⟩⟩
  · simp
  · simp; omega
  · unfold maxLen; omega
  · simp [size_madeCells]
  · rw [hcells]; simp [encs, encB, List.take_replicate]; omega
/-- append(v, x), x one byte -/
theorem app1 (base : Nat) (hgd : o.guard = none) (s x : Operand) (ho : o.op = .call { callee := .builtin .append, args := #[s, x], argTypes := #[22, 22] })
    (v : Value) (xs : List UInt8) (p : UInt8) (n : Int) (hs : a.eval s = v) (hx : a.eval x = .slice (some ⟨W.heap.size, 0, none⟩) 1 1) (hp : n = p.toNat) (HO : Own W base v xs) (HB : Below base w0 W) (hbase : base ≤ W.heap.size) (hl : xs.length + 1 ≤ 140737488355328)
    (h : ∀ v1 w1, Own w1 base v1 (xs ++ [p]) → Below base w0 w1 → W.grownBy w1 v.ownBlock → (v1.ownBlock = v.ownBlock ∨ ∃ b, v1.ownBlock = some b ∧ W.heap.size ≤ b) → wpList Try.prog ops Q rest (a.put o.dst v1) w1) :
    wpList Try.prog ops Q (o :: rest) a (W.alloc (.cells #[.int .u8 n] 5)) := by
  subst hp
  exact Kd.R_append u8 base hgd s x 22 5 _ 1 ho undB infoU8 rfl (by decide) (by decide) v xs p [encB p] (fun _ => True) (fun k => some k ≠ v.ownBlock) hs hx rfl (fun k hk => ⟨trivial, hk⟩) (fun _ _ => trivial) HO HB hbase (by omega) h
/-- append(v, ys...) -/
theorem appRow (base : Nat) (hgd : o.guard = none) (s x : Operand) (ho : o.op = .call { callee := .builtin .append, args := #[s, x], argTypes := #[22, 22] })
    (v : Value) (xs ys : List UInt8) (A : Option Addr) (m c : Nat) (hs : a.eval s = v) (hx : a.eval x = .slice A m c) (hm : m = ys.length) (HO : Own W base v xs) (HR : Rd W A ys) (HB : Below base w0 W) (hbase : base ≤ W.heap.size) (hl : xs.length + ys.length ≤ 140737488355328)
    (h : ∀ v1 w1, Own w1 base v1 (xs ++ ys) → Below base w0 w1 → W.grownBy w1 v.ownBlock → (v1.ownBlock = v.ownBlock ∨ ∃ b, v1.ownBlock = some b ∧ W.heap.size ≤ b) → wpList Try.prog ops Q rest (a.put o.dst v1) w1) :
    wpList Try.prog ops Q (o :: rest) a W := by
  subst hm
  exact Kd.R_append_row encB 0 base hgd s x 22 5 _ 1 ho undB infoU8 rfl (by decide) v xs ys A _ c (fun _ => True) hs hx (fun _ _ => trivial) HO HR HB hbase (by omega) h
theorem nums_enc (l : List UInt8) : nums .u8 (l.map fun b => (b.toNat : Int)) = encs encB l := by simp [nums, encs, encB]
/-- append(v, s...), s a string -/
theorem appStr (base : Nat) (hgd : o.guard = none) (s x : Operand) (ho : o.op = .call { callee := .builtin .append, args := #[s, x], argTypes := #[22, 9] })
    (v : Value) (xs : List UInt8) (y : ByteArray) (hs : a.eval s = v) (hx : a.eval x = .string y) (HO : Own W base v xs) (HB : Below base w0 W) (hbase : base ≤ W.heap.size) (hl : xs.length + y.size ≤ 140737488355328)
    (h : ∀ v1 w1, Own w1 base v1 (xs ++ y.data.toList) → Below base w0 w1 → W.grownBy w1 v.ownBlock → wpList Try.prog ops Q rest (a.put o.dst v1) w1) :
    wpList Try.prog ops Q (o :: rest) a W := by
  have HO' := Kd.own_of_R HO
  rw [← nums_enc] at HO'
  refine print_append_str (P := Try.prog) (w0 := w0) base hgd s x 22 9 5 ho undB Try.underlying9 infoU8 v (xs.map fun b => (b.toNat : Int)) y hs hx (by simpa using HO') HB hbase (by simpa using hl) ?_
  intro v1 w1 hown hb hg
  refine h v1 w1 (Kd.R_of_own ?_ (fun _ _ => trivial)) hb hg
  have e : (xs.map fun b => (b.toNat : Int)) ++ bytesOf y = (xs ++ y.data.toList).map fun b => (b.toNat : Int) := by simp [bytesOf]
  rw [e, nums_enc] at hown
  simpa using hown
/-- copy(v, ys) -/
theorem copy_u8 (base : Nat) (hgd : o.guard = none) (s x : Operand) (ho : o.op = .call { callee := .builtin .copy, args := #[s, x], argTypes := #[22, 22] })
    (v : Value) (xs ys : List UInt8) (A : Option Addr) (m c : Nat) (hs : a.eval s = v) (hx : a.eval x = .slice A m c) (hm : m = ys.length) (HO : Own W base v xs) (HR : Rd W A ys) (HB : Below base w0 W) (hbase : base ≤ W.heap.size)
    (h : ∀ w1, Own w1 base v (ys.take (min ys.length xs.length) ++ xs.drop (min ys.length xs.length)) → Below base w0 w1 → W.grownBy w1 v.ownBlock → wpList Try.prog ops Q rest (a.put o.dst (.int .i64 ((min ys.length xs.length : Nat) : Int))) w1) :
    wpList Try.prog ops Q (o :: rest) a W := by
  subst hm
  exact Kd.R_copy (enc := encB) (0 : UInt8) base hgd s x 22 22 5 ho undB (by have := infoU8; obtain ⟨i0, hi, hzz⟩ := Option.map_eq_some_iff.1 this; simp only [Prod.mk.injEq] at hzz; rw [hi]; simp [hzz.2.1]) v xs ys A _ c _ hs hx HO HR HB hbase h
end
/-- a literal -/
theorem rd_lit (W : World) (l : List UInt8) (cs : Array Value) (h : cs = (l.map encB).toArray) (hl : l.length ≤ 9223372036854775807) : Rd (W.alloc (.cells cs 5)) (some ⟨W.heap.size, 0, none⟩) l := by
  subst h
  refine Kd.C_of_reads (enc := encB) (d := (0 : UInt8)) ⟨rfl, hl, fun _ => ⟨_, rfl, fun j hj => ?_⟩⟩
  rw [show (⟨W.heap.size, 0, none⟩ : Addr).add j = ⟨W.heap.size, j, none⟩ from add_plain _ _]
  have hb := blk_new W (.cells (l.map encB).toArray 5)
  rw [blk_cell hb]
  simp [hj]
/-- a literal is the call's own -/
theorem own_lit (W : World) (base : Nat) (hb : base ≤ W.heap.size) (l : List UInt8) (cs : Array Value) (h : cs = (l.map encB).toArray) (hl : l.length ≤ 9223372036854775807) : Own (W.alloc (.cells cs 5)) base (.slice (some ⟨W.heap.size, 0, none⟩) l.length l.length) l := by
  subst h
  refine Kd.R_of_own ?_ (fun _ _ => trivial)
  have h2 := World.ownsRow_lit (base := base) (e := 5) (size := 1) W (l.map encB).toArray l.length hb (by simpa [maxLen] using hl) (by simp)
  simpa [encs] using h2
/-! ### strings -/
theorem rd_ints {w : World} {A : Option Addr} {l : List UInt8} (h : Rd w A l) : ReadsInt w .u8 A l.length (l.map fun b => (b.toNat : Int)) := by
  have h1 := Kd.reads_of_C (enc := encB) (d := (0 : UInt8)) (h1 := fun _ => rfl) h
  refine ⟨by simp, h1.2.1, fun hn => ?_⟩
  obtain ⟨ad, e, hc⟩ := h1.2.2 hn
  refine ⟨ad, e, fun j hj => ?_⟩
  rw [hc j hj]
  simp [encB, hj]
theorem strOf (l : List UInt8) : strOfNums (l.map fun b => (b.toNat : Int)) = ⟨l.toArray⟩ := by
  simp [strOfNums, List.map_map, Function.comp_def]
/-- string(b) -/
theorem string_run {w : World} {A : Option Addr} {l : List UInt8} (c : Nat) (h : Rd w A l) : (convert 22 9 (.slice A l.length c)).run Try.prog w = .ok (.string ⟨l.toArray⟩) w := by
  rw [string_of_reads (P := Try.prog) undB Try.underlying5 Try.underlying9 (rd_ints h), strOf]
theorem infoU8' : ∃ i, Try.prog.info? 5 = some i ∧ i.size = 1 := by
  obtain ⟨i0, hi, hzz⟩ := Option.map_eq_some_iff.1 infoU8
  simp only [Prod.mk.injEq] at hzz
  exact ⟨i0, hi, hzz.2.1⟩
/-- b[lo:hi]: a list of its own name -/
theorem cutMid {A : Option Addr} {l : List UInt8} {c : Nat} (lo hi : Int) (h0 : 0 ≤ lo) (h1 : lo ≤ hi) (h2 : hi ≤ l.length) (hc : l.length ≤ c) :
    ∃ (A' : Option Addr) (y : List UInt8), Hid (y = (l.take hi.toNat).drop lo.toNat) ∧ (∀ W : World, (Instr.slice 22 (.slice A l.length c) (some (.int .i64 lo)) (some (.int .i64 hi)) none).run Try.prog W = .ok (.slice A' y.length (c - lo.toNat)) W) ∧ (∀ w : World, Rd w A l → Rd w A' y) ∧ y.length ≤ c - lo.toNat ∧ y.length = hi.toNat - lo.toNat := by
  obtain ⟨i0, hi0, hs⟩ := infoU8'
  have hl : ((l.take hi.toNat).drop lo.toNat).length = hi.toNat - lo.toNat := by rw [List.length_drop, List.length_take]; omega
  refine ⟨if c = lo.toNat then A else A.map (·.add (lo.toNat * 1)), _, rfl, fun W => ?_, fun w h => ?_, by omega, hl⟩
  · have := cut_mid (P := Try.prog) 22 5 .i64 .i64 undB hi0 1 hs A l.length c lo hi h0 h1 h2 hc W
    rw [hl, this]
  · have := Kd.C_mid (k := u8) (c := c) (lo := lo.toNat) (hi := hi.toNat) h (by omega) (by omega) hc
    exact this
/-- b[:hi] -/
theorem cutTo {A : Option Addr} {l : List UInt8} {c : Nat} (hi : Int) (h0 : 0 ≤ hi) (h2 : hi ≤ l.length) (hc : l.length ≤ c) :
    ∃ y : List UInt8, Hid (y = l.take hi.toNat) ∧ (∀ W : World, (Instr.slice 22 (.slice A l.length c) none (some (.int .i64 hi)) none).run Try.prog W = .ok (.slice A y.length c) W) ∧ (∀ w : World, Rd w A l → Rd w A y) ∧ y.length ≤ c ∧ y.length = hi.toNat := by
  obtain ⟨i0, hi0, hs⟩ := infoU8'
  have hl : (l.take hi.toNat).length = hi.toNat := by rw [List.length_take]; omega
  refine ⟨_, rfl, fun W => ?_, fun w h => h.take (by omega), by omega, hl⟩
  rw [cut_to (P := Try.prog) 22 5 .i64 undB hi0 A l.length c hi h0 h2 hc W, hl]
/-- b[lo:] -/
theorem cutFrom {A : Option Addr} {l : List UInt8} {c : Nat} (lo : Int) (h0 : 0 ≤ lo) (h2 : lo ≤ l.length) (hc : l.length ≤ c) :
    ∃ (A' : Option Addr) (y : List UInt8), Hid (y = l.drop lo.toNat) ∧ (∀ W : World, (Instr.slice 22 (.slice A l.length c) (some (.int .i64 lo)) none none).run Try.prog W = .ok (.slice A' y.length (c - lo.toNat)) W) ∧ (∀ w : World, Rd w A l → Rd w A' y) ∧ y.length ≤ c - lo.toNat ∧ y.length = l.length - lo.toNat := by
  obtain ⟨i0, hi0, hs⟩ := infoU8'
  refine ⟨if c = lo.toNat then A else A.map (·.add (lo.toNat * 1)), _, rfl, fun W => ?_, fun w h => ?_, by rw [List.length_drop]; omega, List.length_drop⟩
  · rw [cut_from (P := Try.prog) 22 5 .i64 undB hi0 1 hs A l.length c lo h0 h2 W, List.length_drop]
  · have := Kd.C_drop (k := u8) (c := c) (m := lo.toNat) h (by omega) hc
    exact this
end Go.Proofs.Ytceldlijbehkdaa.B
