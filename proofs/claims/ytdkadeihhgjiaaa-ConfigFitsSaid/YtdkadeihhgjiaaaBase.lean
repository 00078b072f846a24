/- Words of this seat's walks: bytes that are read (Rd), bytes of the call's own (Own), ends of calls. -/
import Derived.Test.YtdkadeihhgjiaaaProg
import Derived.Test.YtdkadeihhgjiaaaWWords
import Derived.Handy
import Derived.Lib.Hide
import Derived.Deep.RegionHeld3
import Derived.Laws.CopyOwn
import Derived.Deep.RegionLaw
import Derived.Deep.RegionLawGrows
import Derived.Deep.MidRow
import Derived.WalkSpells
import Derived.OrdersHeld
import Derived.Laws.StructEq
import Derived.Stop.BytesEq
import Derived.BigQuiet
import Derived.Test.YtdkadeihhgjiaaaRows
import Derived.Test.YtdkadeihhgjiaaaWArr
import Derived.Deep.Slices
import Derived.ProofKit
import Derived.OpenShut
set_option linter.unusedVariables false
set_option linter.unusedSimpArgs false
namespace Go.Proofs.Ytdkadeihhgjiaaa.B
open Go.RowKit Go.Proofs.YtdkadeihhgjiaaaW.PrintWords

def encB (b : UInt8) : Value := .int .u8 b.toNat
def u8 : Kd UInt8 := Kd.scalar encB (fun _ => rfl)
/-- bytes that are read -/
def Rd (w : World) (A : Option Addr) (l : List UInt8) : Prop := u8.C w A l.length l
/-- bytes of the call's own -/
def Own (w : World) (base : Nat) (v : Value) (l : List UInt8) : Prop := u8.R 5 w base (fun _ => True) v l
def bt (l : List UInt8) (i : Nat) : Int := ((l.getD i 0).toNat : Int)
theorem bt_bd (l : List UInt8) (i : Nat) : 0 ≤ bt l i ∧ bt l i ≤ 255 := by
  unfold bt; have := (l.getD i 0).toNat_lt; omega
theorem Rd.len {w : World} {A : Option Addr} {l : List UInt8} (h : Rd w A l) : l.length ≤ 9223372036854775807 := h.2.1
theorem Rd.at_ {w : World} {A : Option Addr} {l : List UInt8} (h : Rd w A l) (i : Nat) (hi : i < l.length) : ∃ ad, A = some ad ∧ w.cell? (ad.add i) = some (.int .u8 (bt l i)) := by
  obtain ⟨ad, h1, h2⟩ := ReadsOf.at_ (Kd.reads_of_C (enc := encB) (d := (0 : UInt8)) (h1 := fun _ => rfl) h) i (by omega) (by omega)
  exact ⟨ad, h1, by simpa [rdOf, encB, bt] using h2⟩
theorem Rd.below {w w1 : World} {A : Option Addr} {l : List UInt8} (h : Rd w A l) (hb : Below w.heap.size w w1) : Rd w1 A l := Kd.C_below h hb
theorem Rd.drewN {w : World} {A : Option Addr} {l : List UInt8} (h : Rd w A l) (n : Nat) : Rd (w.drewN n) A l := Kd.C_drewN h n
theorem Rd.nil (w : World) : Rd w none [] := Kd.C_nil u8 w
theorem Rd.take {w : World} {A : Option Addr} {l : List UInt8} (h : Rd w A l) {m : Nat} (hm : m ≤ l.length) : Rd w A (l.take m) := Kd.C_take h hm
theorem Rd.drop {w : World} {A : Option Addr} {l : List UInt8} {c : Nat} (h : Rd w A l) {m : Nat} (hm : m ≤ l.length) (hc : l.length ≤ c) : Rd w (if c = m then A else A.map (·.add m)) (l.drop m) := by
  have := Kd.C_drop (k := u8) (c := c) h hm hc
  rwa [show u8.sz = 1 from rfl, Nat.mul_one] at this
theorem Own.reads {w : World} {base : Nat} {v : Value} {l : List UInt8} (h : Own w base v l) : ∃ A c, v = .slice A l.length c ∧ l.length ≤ c ∧ Rd w A l := Kd.R_reads h
theorem Own.nil (w : World) (base : Nat) : Own w base (.slice none 0 0) [] := Kd.R_nil u8 5 w base _
theorem Own.below {w w1 : World} {base : Nat} {v : Value} {l : List UInt8} (h : Own w base v l) (hb : Below w.heap.size w w1) : Own w1 base v l := Kd.R_below h hb
theorem Own.lower {w : World} {base base' : Nat} {v : Value} {l : List UInt8} (h : Own w base v l) (hb : base' ≤ base) : Own w base' v l := Kd.R_lower h hb
theorem below_step' {w W w2 : World} (h : Below w.heap.size w W) (k : Below W.heap.size W w2) : Below w.heap.size w w2 := below_then h h.size k
/-- the end: a value, the world as it was -/
def Still (v : Value) (w : World) (e : Ending) (w' : World) : Prop := e = .returned v ∧ w' = w
/-- the end: a value, orders drawn -/
def Quiet (v : Value) (w : World) (e : Ending) (w' : World) : Prop := e = .returned v ∧ ∃ n, w' = w.drewN n
/-- the end: a value; what there was is as it was -/
def Kept (v : Value) (w : World) (e : Ending) (w' : World) : Prop := e = .returned v ∧ Below w.heap.size w w'
/-- the end: bytes of the call's own -/
def Made (w : World) (l : List UInt8) (e : Ending) (w' : World) : Prop := ∃ v, e = .returned v ∧ Own w' w.heap.size v l ∧ Below w.heap.size w w'
/-- the end: bytes of the call's own, and a truth -/
def Made2 (w : World) (l : List UInt8) (b : Bool) (e : Ending) (w' : World) : Prop := ∃ v, e = .returned (.tuple #[v, .bool b]) ∧ Own w' w.heap.size v l ∧ Below w.heap.size w w'
theorem ret_eq {a b : Value} (h : a = b) : Ending.returned a = .returned b := by rw [h]
theorem infoU8 : (Try.prog.info? 5).map (fun i => (i.zero, i.size, i.bytes)) = some (some (.int .u8 0), 1, 1) := by kernel_rfl
theorem undB : Try.prog.underlying 32 = some (.slice 5) := Try.underlying32
section
variable {ops : Array Oper} {rest : List Oper} {o : Oper} {a : Act} {Q : Exit → Act → World → Prop} {w0 W : World}
/-- make([]byte, n, c) -/
theorem make_u8 (base : Nat) (hgd : o.guard = none) (x y : Operand) (ho : o.op = .makeSlice 32 x y) (n c : Int) (hx : a.eval x = .int .i64 n) (hy : a.eval y = .int .i64 c) (h0 : 0 ≤ n) (h1 : n ≤ c) (hc : c ≤ 281474976710656)
    (HB : Below base w0 W) (hbase : base ≤ W.heap.size) (h : ∀ v1 w1, Own w1 base v1 (List.replicate n.toNat 0) → Below base w0 w1 → wpList Try.prog ops Q rest (a.put o.dst v1) w1) : wpList Try.prog ops Q (o :: rest) a W := by
  obtain ⟨i0, hi, hzz⟩ := Option.map_eq_some_iff.1 infoU8
  simp only [Prod.mk.injEq] at hzz
  obtain ⟨hz0, hz1, hz2⟩ := hzz
  have hr := run_make (P := Try.prog) W 32 5 i0 _ undB hi hz0 .i64 .i64 n c h0 h1 (by rw [hz2]; omega) (by omega)
  rw [hz1, Nat.mul_one] at hr
  refine wpList_plain hgd fun K hK => ?_
  unfold Oper.wp
  simp [execOp, ho, hx, hy, hr, Result.andThen]
  refine hK _ _ (h _ _ ?_ (HB.alloc hbase _))
  refine Kd.R_of_own ?_ (fun _ _ => trivial)
  have hcells : (madeCells (Value.int .u8 0).cells c.toNat).toList = List.replicate c.toNat (Value.int .u8 0) := by
    apply List.ext_getElem
    · simp [size_madeCells]
    · intro i h1 h2; simp [madeCells, Value.cells, Nat.mod_one]
  refine ⟨by simp [encs], .inr ⟨W.heap.size, c.toNat, madeCells (Value.int .u8 0).cells c.toNat, ?_, hbase, blk_new W _, ?_, ?_, ?_, ?_⟩⟩
  · simp
  · simp; omega
  · unfold maxLen; omega
  · simp [size_madeCells]
  · rw [hcells]; simp [encs, encB, List.take_replicate]; omega
/-- append(v, x), x one byte -/
theorem app1 (base : Nat) (hgd : o.guard = none) (s x : Operand) (ho : o.op = .call { callee := .builtin .append, args := #[s, x], argTypes := #[32, 32] })
    (v : Value) (xs : List UInt8) (p : UInt8) (n : Int) (hs : a.eval s = v) (hx : a.eval x = .slice (some ⟨W.heap.size, 0, none⟩) 1 1) (hp : n = p.toNat) (HO : Own W base v xs) (HB : Below base w0 W) (hbase : base ≤ W.heap.size) (hl : xs.length + 1 ≤ 140737488355328)
    (h : ∀ v1 w1, Own w1 base v1 (xs ++ [p]) → Below base w0 w1 → W.grownBy w1 v.ownBlock → (v1.ownBlock = v.ownBlock ∨ ∃ b, v1.ownBlock = some b ∧ W.heap.size ≤ b) → wpList Try.prog ops Q rest (a.put o.dst v1) w1) :
    wpList Try.prog ops Q (o :: rest) a (W.alloc (.cells #[.int .u8 n] 5)) := by
  subst hp
  exact Kd.R_append u8 base hgd s x 32 5 _ 1 ho undB infoU8 rfl (by decide) (by decide) v xs p [encB p] (fun _ => True) (fun k => some k ≠ v.ownBlock) hs hx rfl (fun k hk => ⟨trivial, hk⟩) (fun _ _ => trivial) HO HB hbase (by omega) h
/-- append(v, ys...) -/
theorem appRow (base : Nat) (hgd : o.guard = none) (s x : Operand) (ho : o.op = .call { callee := .builtin .append, args := #[s, x], argTypes := #[32, 32] })
    (v : Value) (xs ys : List UInt8) (A : Option Addr) (m c : Nat) (hs : a.eval s = v) (hx : a.eval x = .slice A m c) (hm : m = ys.length) (HO : Own W base v xs) (HR : Rd W A ys) (HB : Below base w0 W) (hbase : base ≤ W.heap.size) (hl : xs.length + ys.length ≤ 140737488355328)
    (h : ∀ v1 w1, Own w1 base v1 (xs ++ ys) → Below base w0 w1 → W.grownBy w1 v.ownBlock → (v1.ownBlock = v.ownBlock ∨ ∃ b, v1.ownBlock = some b ∧ W.heap.size ≤ b) → wpList Try.prog ops Q rest (a.put o.dst v1) w1) :
    wpList Try.prog ops Q (o :: rest) a W := by
  subst hm
  exact Kd.R_append_row encB 0 base hgd s x 32 5 _ 1 ho undB infoU8 rfl (by decide) v xs ys A _ c (fun _ => True) hs hx (fun _ _ => trivial) HO HR HB hbase (by omega) h
theorem nums_enc (l : List UInt8) : nums .u8 (l.map fun b => (b.toNat : Int)) = encs encB l := by simp [nums, encs, encB]
/-- append(v, s...), s a string -/
theorem appStr (base : Nat) (hgd : o.guard = none) (s x : Operand) (ho : o.op = .call { callee := .builtin .append, args := #[s, x], argTypes := #[32, 9] })
    (v : Value) (xs : List UInt8) (y : ByteArray) (hs : a.eval s = v) (hx : a.eval x = .string y) (HO : Own W base v xs) (HB : Below base w0 W) (hbase : base ≤ W.heap.size) (hl : xs.length + y.size ≤ 140737488355328)
    (h : ∀ v1 w1, Own w1 base v1 (xs ++ y.data.toList) → Below base w0 w1 → W.grownBy w1 v.ownBlock → wpList Try.prog ops Q rest (a.put o.dst v1) w1) :
    wpList Try.prog ops Q (o :: rest) a W := by
  have HO' := Kd.own_of_R HO
  rw [← nums_enc] at HO'
  refine print_append_str (P := Try.prog) (w0 := w0) base hgd s x 32 9 5 ho undB Try.underlying9 infoU8 v (xs.map fun b => (b.toNat : Int)) y hs hx (by simpa using HO') HB hbase (by simpa using hl) ?_
  intro v1 w1 hown hb hg
  refine h v1 w1 (Kd.R_of_own ?_ (fun _ _ => trivial)) hb hg
  have e : (xs.map fun b => (b.toNat : Int)) ++ bytesOf y = (xs ++ y.data.toList).map fun b => (b.toNat : Int) := by simp [bytesOf]
  rw [e, nums_enc] at hown
  simpa using hown
/-- copy(v, ys) -/
theorem copy_u8 (base : Nat) (hgd : o.guard = none) (s x : Operand) (ho : o.op = .call { callee := .builtin .copy, args := #[s, x], argTypes := #[32, 32] })
    (v : Value) (xs ys : List UInt8) (A : Option Addr) (m c : Nat) (hs : a.eval s = v) (hx : a.eval x = .slice A m c) (hm : m = ys.length) (HO : Own W base v xs) (HR : Rd W A ys) (HB : Below base w0 W) (hbase : base ≤ W.heap.size)
    (h : ∀ w1, Own w1 base v (ys.take (min ys.length xs.length) ++ xs.drop (min ys.length xs.length)) → Below base w0 w1 → W.grownBy w1 v.ownBlock → wpList Try.prog ops Q rest (a.put o.dst (.int .i64 ((min ys.length xs.length : Nat) : Int))) w1) :
    wpList Try.prog ops Q (o :: rest) a W := by
  subst hm
  exact Kd.R_copy (enc := encB) (0 : UInt8) base hgd s x 32 32 5 ho undB (by have := infoU8; obtain ⟨i0, hi, hzz⟩ := Option.map_eq_some_iff.1 this; simp only [Prod.mk.injEq] at hzz; rw [hi]; simp [hzz.2.1]) v xs ys A _ c _ hs hx HO HR HB hbase h
end
/-- a literal -/
theorem rd_lit (W : World) (l : List UInt8) (cs : Array Value) (h : cs = (l.map encB).toArray) (hl : l.length ≤ 9223372036854775807) : Rd (W.alloc (.cells cs 5)) (some ⟨W.heap.size, 0, none⟩) l := by
  subst h
  refine Kd.C_of_reads (enc := encB) (d := (0 : UInt8)) ⟨rfl, hl, fun _ => ⟨_, rfl, fun j hj => ?_⟩⟩
  rw [show (⟨W.heap.size, 0, none⟩ : Addr).add j = ⟨W.heap.size, j, none⟩ from add_plain _ _]
  have hb := blk_new W (.cells (l.map encB).toArray 5)
  rw [blk_cell hb]
  simp [hj]
/-- a literal is the call's own -/
theorem own_lit (W : World) (base : Nat) (hb : base ≤ W.heap.size) (l : List UInt8) (cs : Array Value) (h : cs = (l.map encB).toArray) (hl : l.length ≤ 9223372036854775807) : Own (W.alloc (.cells cs 5)) base (.slice (some ⟨W.heap.size, 0, none⟩) l.length l.length) l := by
  subst h
  refine Kd.R_of_own ?_ (fun _ _ => trivial)
  have h2 := World.ownsRow_lit (base := base) (e := 5) (size := 1) W (l.map encB).toArray l.length hb (by simpa [maxLen] using hl) (by simp)
  simpa [encs] using h2
/-! ### strings -/
theorem rd_ints {w : World} {A : Option Addr} {l : List UInt8} (h : Rd w A l) : ReadsInt w .u8 A l.length (l.map fun b => (b.toNat : Int)) := by
  have h1 := Kd.reads_of_C (enc := encB) (d := (0 : UInt8)) (h1 := fun _ => rfl) h
  refine ⟨by simp, h1.2.1, fun hn => ?_⟩
  obtain ⟨ad, e, hc⟩ := h1.2.2 hn
  refine ⟨ad, e, fun j hj => ?_⟩
  rw [hc j hj]
  simp [encB, hj]
theorem strOf (l : List UInt8) : strOfNums (l.map fun b => (b.toNat : Int)) = ⟨l.toArray⟩ := by
  simp [strOfNums, List.map_map, Function.comp_def]
/-- string(b) -/
theorem string_run {w : World} {A : Option Addr} {l : List UInt8} (c : Nat) (h : Rd w A l) : (convert 32 9 (.slice A l.length c)).run Try.prog w = .ok (.string ⟨l.toArray⟩) w := by
  rw [string_of_reads (P := Try.prog) undB Try.underlying5 Try.underlying9 (rd_ints h), strOf]
theorem infoU8' : ∃ i, Try.prog.info? 5 = some i ∧ i.size = 1 := by
  obtain ⟨i0, hi, hzz⟩ := Option.map_eq_some_iff.1 infoU8
  simp only [Prod.mk.injEq] at hzz
  exact ⟨i0, hi, hzz.2.1⟩
/-- b[lo:hi]: a list of its own name -/
theorem cutMid {A : Option Addr} {l : List UInt8} {c : Nat} (lo hi : Int) (h0 : 0 ≤ lo) (h1 : lo ≤ hi) (h2 : hi ≤ l.length) (hc : l.length ≤ c) :
    ∃ (A' : Option Addr) (y : List UInt8), Hid (y = (l.take hi.toNat).drop lo.toNat) ∧ (∀ W : World, (Instr.slice 32 (.slice A l.length c) (some (.int .i64 lo)) (some (.int .i64 hi)) none).run Try.prog W = .ok (.slice A' y.length (c - lo.toNat)) W) ∧ (∀ w : World, Rd w A l → Rd w A' y) ∧ y.length ≤ c - lo.toNat ∧ y.length = hi.toNat - lo.toNat := by
  obtain ⟨i0, hi0, hs⟩ := infoU8'
  have hl : ((l.take hi.toNat).drop lo.toNat).length = hi.toNat - lo.toNat := by rw [List.length_drop, List.length_take]; omega
  refine ⟨if c = lo.toNat then A else A.map (·.add (lo.toNat * 1)), _, rfl, fun W => ?_, fun w h => ?_, by omega, hl⟩
  · have := cut_mid (P := Try.prog) 32 5 .i64 .i64 undB hi0 1 hs A l.length c lo hi h0 h1 h2 hc W
    rw [hl, this]
  · have := Kd.C_mid (k := u8) (c := c) (lo := lo.toNat) (hi := hi.toNat) h (by omega) (by omega) hc
    exact this
/-- b[:hi] -/
theorem cutTo {A : Option Addr} {l : List UInt8} {c : Nat} (hi : Int) (h0 : 0 ≤ hi) (h2 : hi ≤ l.length) (hc : l.length ≤ c) :
    ∃ y : List UInt8, Hid (y = l.take hi.toNat) ∧ (∀ W : World, (Instr.slice 32 (.slice A l.length c) none (some (.int .i64 hi)) none).run Try.prog W = .ok (.slice A y.length c) W) ∧ (∀ w : World, Rd w A l → Rd w A y) ∧ y.length ≤ c ∧ y.length = hi.toNat := by
  obtain ⟨i0, hi0, hs⟩ := infoU8'
  have hl : (l.take hi.toNat).length = hi.toNat := by rw [List.length_take]; omega
  refine ⟨_, rfl, fun W => ?_, fun w h => h.take (by omega), by omega, hl⟩
  rw [cut_to (P := Try.prog) 32 5 .i64 undB hi0 A l.length c hi h0 h2 hc W, hl]
/-- b[lo:] -/
theorem cutFrom {A : Option Addr} {l : List UInt8} {c : Nat} (lo : Int) (h0 : 0 ≤ lo) (h2 : lo ≤ l.length) (hc : l.length ≤ c) :
    ∃ (A' : Option Addr) (y : List UInt8), Hid (y = l.drop lo.toNat) ∧ (∀ W : World, (Instr.slice 32 (.slice A l.length c) (some (.int .i64 lo)) none none).run Try.prog W = .ok (.slice A' y.length (c - lo.toNat)) W) ∧ (∀ w : World, Rd w A l → Rd w A' y) ∧ y.length ≤ c - lo.toNat ∧ y.length = l.length - lo.toNat := by
  obtain ⟨i0, hi0, hs⟩ := infoU8'
  refine ⟨if c = lo.toNat then A else A.map (·.add (lo.toNat * 1)), _, rfl, fun W => ?_, fun w h => ?_, by rw [List.length_drop]; omega, List.length_drop⟩
  · rw [cut_from (P := Try.prog) 32 5 .i64 undB hi0 1 hs A l.length c lo h0 h2 W, List.length_drop]
  · have := Kd.C_drop (k := u8) (c := c) (m := lo.toNat) h (by omega) hc
    exact this
end Go.Proofs.Ytdkadeihhgjiaaa.B
/- append of bytes as a step of a region that draws its order. -/
set_option linter.unusedVariables false
set_option linter.unusedSimpArgs false
namespace Go.Proofs.Ytdkadeihhgjiaaa.B
open Go.RowKit Go.Proofs.YtdkadeihhgjiaaaW.PrintWords

section
variable {ops : Array Oper} {o : Oper} {a : Act} {Q : Exit → Act → World → Prop} {Kc : Act → World → Prop} {w0 W : World}
/-- append(v, ys...) -/
theorem appRowS (base : Nat) (hw : Region.wanted o (yielded ops a.tmps) = true) (s x : Operand) (ho : o.op = .call { callee := .builtin .append, args := #[s, x], argTypes := #[32, 32] })
    (v : Value) (xs ys : List UInt8) (A : Option Addr) (m c : Nat) (hs : a.eval s = v) (hx : a.eval x = .slice A m c) (hm : m = ys.length) (HO : Own W base v xs) (HR : Rd W A ys) (HB : Below base w0 W) (hbase : base ≤ W.heap.size) (hl : xs.length + ys.length ≤ 140737488355328)
    (h : ∀ v1 w1, Own w1 base v1 (xs ++ ys) → Below base w0 w1 → W.grownBy w1 v.ownBlock → (v1.ownBlock = v.ownBlock ∨ ∃ b, v1.ownBlock = some b ∧ W.heap.size ≤ b) → Kc (a.put o.dst v1) w1) :
    if Region.wanted o (yielded ops a.tmps) = true then Oper.wp Try.prog o a W Kc Q else Kc (a.put o.dst undef) W := by
  subst hm
  exact Kd.R_append_rows_step (P := Try.prog) u8 (Rr := u8.K W) base hw s x 32 5 _ 1 ho undB infoU8 rfl (by decide) (by decide) v xs ys A _ c (fun _ => True) (fun _ => False) hs hx HO HR (fun _ _ h => h) (fun _ hk => hk.elim) (fun _ _ => trivial) HB hbase (by omega) h
end
end Go.Proofs.Ytdkadeihhgjiaaa.B
/- copy into the middle of bytes of the call's own, in a region that draws its order. -/
set_option linter.unusedVariables false
set_option linter.unusedSimpArgs false
namespace Go.Proofs.Ytdkadeihhgjiaaa.B
open Go.RowKit Go.Proofs.YtdkadeihhgjiaaaW.PrintWords

/-- the row of bytes of one's own, whole -/
theorem Own.row {w : World} {base : Nat} {v : Value} {l : List UInt8} (h : Own w base v l) (hp : 0 < l.length) : ∃ (g cap : Nat) (cur : List Value), v = .slice (some ⟨g, 0, none⟩) l.length cap ∧ base ≤ g ∧ w.heap[g]? = some (.cells cur.toArray 5 (0, 0)) ∧ l.length ≤ cap ∧ cap ≤ maxLen ∧ cur.length = cap ∧ cur.take l.length = encs encB l := by
  rcases (Kd.own_of_R h).2 with ⟨-, h0⟩ | ⟨g, cap, cur, hv, hb, hg, hn, hm, hs, ht⟩
  · omega
  · exact ⟨g, cap, cur.toList, hv, hb, by simpa using hg, hn, hm, by simpa using hs, by simpa using ht⟩
/-- ys laid over xs from off on -/
def over (xs : List UInt8) (off : Nat) (ys : List UInt8) : List UInt8 := xs.take off ++ (ys ++ xs.drop (off + ys.length))
theorem over_len {xs : List UInt8} {off : Nat} {ys : List UInt8} (h : off + ys.length ≤ xs.length) : (over xs off ys).length = xs.length := by
  unfold over; simp only [List.length_append, List.length_take, List.length_drop]; omega
theorem Own.of_splice {w' : World} {base g cap : Nat} {cur : List Value} {l ys : List UInt8} {off : Nat} (hb : base ≤ g) (hn : l.length ≤ cap) (hm : cap ≤ maxLen) (hc : cur.length = cap) (ht : cur.take l.length = encs encB l) (hf : off + ys.length ≤ l.length)
    (hg : w'.heap[g]? = some (.cells (splice cur off (encs encB ys)).toArray 5 (0, 0))) : Own w' base (.slice (some ⟨g, 0, none⟩) l.length cap) (over l off ys) := by
  have hle : (encs encB ys).length = ys.length := by simp [encs]
  have hlen : (over l off ys).length = l.length := over_len hf
  rw [← hlen]
  refine Kd.R_of_own ⟨by simp [encs], .inr ⟨g, cap, _, rfl, hb, hg, by omega, hm, ?_, ?_⟩⟩ (fun _ _ => trivial)
  · rw [List.size_toArray, length_splice _ _ _ (by omega), hc, Nat.mul_one]
  · rw [Nat.mul_one, hlen]
    show (splice cur off (encs encB ys)).take l.length = encs encB (over l off ys)
    apply List.ext_getElem?
    intro i
    have htk : ∀ j, j < l.length → cur[j]? = (l[j]?).map encB := by
      intro j hj
      have h1 : (cur.take l.length)[j]? = (encs encB l)[j]? := by rw [ht]
      rw [List.getElem?_take_of_lt hj] at h1
      rw [h1]; simp [encs]
    by_cases hi : i < l.length
    · rw [List.getElem?_take_of_lt hi]
      unfold splice over
      simp only [encs, List.map_append, List.getElem?_append, List.length_take, List.length_map, List.getElem?_map, List.getElem?_drop, List.map_take, List.map_drop]
      have e1 : min off cur.length = off := by omega
      have e2 : min off l.length = off := by omega
      rw [e1, e2]
      by_cases h1 : i < off
      · rw [if_pos h1, if_pos h1, List.getElem?_take_of_lt h1, List.getElem?_take_of_lt h1, htk i hi, List.getElem?_map]
      · rw [if_neg h1, if_neg h1]
        by_cases h2 : i - off < ys.length
        · rw [if_pos h2, if_pos h2]
        · rw [if_neg h2, if_neg h2, htk _ (by omega)]
    · rw [List.getElem?_take_eq_none (by omega), List.getElem?_eq_none]
      simp [encs, hlen]; omega
/-- what is copied -/
theorem Rd.src {w : World} {ad : Addr} {d : List UInt8} (h : Rd w (some ad) d) : ∀ j v, (encs encB d)[j]? = some v → w.cell? (ad.add j) = some v := by
  intro j v hv
  have hj : j < d.length := by
    have := (List.getElem?_eq_some_iff.1 hv).1; simpa [encs] using this
  obtain ⟨ad', h1, h2⟩ := h.at_ j hj
  injection h1 with h1
  subst h1
  rw [h2]
  rw [← hv]
  simp [encs, hj, encB, B.bt]
/-- b[lo:] of a row of one's own -/
theorem cutOwn {g n c : Nat} (lo : Int) (h0 : 0 ≤ lo) (h1 : lo ≤ n) (hc : n ≤ c) (hne : lo.toNat < c) (W : World) :
    (Instr.slice 32 (.slice (some ⟨g, 0, none⟩) n c) (some (.int .i64 lo)) none none).run Try.prog W = .ok (.slice (some ⟨g, lo.toNat, none⟩) (n - lo.toNat) (c - lo.toNat)) W := by
  obtain ⟨i0, hi0, hs⟩ := infoU8'
  rw [cut_from (P := Try.prog) 32 5 .i64 undB hi0 1 hs (some ⟨g, 0, none⟩) n c lo h0 h1 W, if_neg (by omega)]
  rw [Nat.mul_one]
  show Result.ok (Value.slice (some ((⟨g, 0, none⟩ : Addr).add lo.toNat)) _ _) W = _
  rw [show (⟨g, 0, none⟩ : Addr).add lo.toNat = ⟨g, lo.toNat, none⟩ from add_plain _ _]
end Go.Proofs.Ytdkadeihhgjiaaa.B
/- A buffer of bytes: a row of the call's own, or a conversion's. -/
set_option linter.unusedVariables false
set_option linter.unusedSimpArgs false
namespace Go.Proofs.Ytdkadeihhgjiaaa.B
open Go.RowKit Go.Proofs.YtdkadeihhgjiaaaW.PrintWords

def Buf (W : World) (base : Nat) (v : Value) (l : List UInt8) : Prop :=
  (v = .slice none 0 0 ∧ l = []) ∨ ∃ (b cap : Nat) (cur : Array Value) (fr : Nat × Nat), v = .slice (some ⟨b, 0, none⟩) l.length cap ∧ base ≤ b ∧ W.heap[b]? = some (Obj.cells cur 5 fr) ∧ (fr = (0, 0) ∨ fr = (cap, cap + 1)) ∧ l.length ≤ cap ∧ cap ≤ maxLen ∧ cur.size = cap ∧ cur.toList.take l.length = encs encB l
theorem Buf.of_own {W : World} {base : Nat} {v : Value} {l : List UInt8} (h : Own W base v l) : Buf W base v l := by
  rcases (Kd.own_of_R h).2 with ⟨rfl, h0⟩ | ⟨g, cap, cur, hv, hb, hg, hn, hm, hs, ht⟩
  · exact .inl ⟨rfl, List.eq_nil_of_length_eq_zero h0⟩
  · exact .inr ⟨g, cap, cur, (0, 0), hv, hb, hg, .inl rfl, hn, hm, by simpa using hs, by simpa using ht⟩
theorem Buf.reads {W : World} {base : Nat} {v : Value} {l : List UInt8} (h : Buf W base v l) : ∃ A c, v = .slice A l.length c ∧ l.length ≤ c ∧ Rd W A l := by
  rcases h with ⟨rfl, rfl⟩ | ⟨b, cap, cur, fr, hv, hb, hg, hf, hn, hm, hs, ht⟩
  · exact ⟨none, 0, rfl, Nat.le_refl _, Rd.nil _⟩
  · refine ⟨some ⟨b, 0, none⟩, cap, hv, hn, Kd.C_of_reads (enc := encB) (d := (0 : UInt8)) ⟨rfl, by unfold maxLen at hm; omega, fun _ => ⟨_, rfl, fun j hj => ?_⟩⟩⟩
    rw [show (⟨b, 0, none⟩ : Addr).add j = ⟨b, j, none⟩ from add_plain _ _, cell_of_row _ _ _ _ _ _ hg]
    have h1 : (cur.toList.take l.length)[j]? = (encs encB l)[j]? := by rw [ht]
    rw [List.getElem?_take_of_lt hj, encs_get (d := (0 : UInt8)) l j hj] at h1
    simpa using h1
theorem Buf.move {W W1 : World} {base : Nat} {v : Value} {l : List UInt8} (h : Buf W base v l) (hm : ∀ (k : Nat) (cells : Array Value) (fr : Nat × Nat), W.heap[k]? = some (Obj.cells cells 5 fr) → W1.heap[k]? = W.heap[k]?) : Buf W1 base v l := by
  rcases h with h | ⟨b, cap, cur, fr, hv, hb, hg, r⟩
  · exact .inl h
  · exact .inr ⟨b, cap, cur, fr, hv, hb, (hm b cur fr hg).trans hg, r⟩
theorem Buf.below {W W1 : World} {base : Nat} {v : Value} {l : List UInt8} (h : Buf W base v l) (hb : Below W.heap.size W W1) : Buf W1 base v l :=
  h.move (fun k cells fr hk => hb.block k (blk_lt hk))
theorem Buf.lower {W : World} {base base' : Nat} {v : Value} {l : List UInt8} (h : Buf W base v l) (hb : base' ≤ base) : Buf W base' v l := by
  rcases h with h | ⟨b, cap, cur, fr, hv, hb', r⟩
  · exact .inl h
  · exact .inr ⟨b, cap, cur, fr, hv, by omega, r⟩
theorem Buf.set {W : World} {base : Nat} {v : Value} {l : List UInt8} (h : Buf W base v l) {g t : Nat} {cells : Array Value} (hb : W.heap[g]? = some (Obj.cells cells t (0, 0))) (ht : 5 ≠ t) (j : Nat) (u : Value) : Buf (W.setCell ⟨g, j, none⟩ u) base v l :=
  h.move (fun k cs fr hk => Below.heap_setCell W ⟨g, j, none⟩ u k (by
    rintro rfl
    rw [hb] at hk
    injection hk with hk
    injection hk with _ hk
    exact ht hk.symm))
theorem setCells_mark {g : Nat} {e : TypeId} {fr : Nat × Nat} : ∀ (vs : List Value) (o : Nat) (w : World) (cur : Array Value), w.heap[g]? = some (Obj.cells cur e fr) → o + vs.length ≤ cur.size →
    ∃ cur', (w.setCells g o vs).heap[g]? = some (Obj.cells cur' e fr) ∧ cur'.size = cur.size ∧ cur'.toList = cur.toList.take o ++ vs ++ cur.toList.drop (o + vs.length)
  | [], o, w, cur, h, _ => ⟨cur, h, rfl, by simp⟩
  | v :: r, o, w, cur, h, hl => by
    have h2 : (w.setCell ⟨g, o, none⟩ v).heap[g]? = some (Obj.cells (cur.setIfInBounds o v) e fr) := by simp [World.setCell, Array.getElem?_modify, h]
    simp only [List.length_cons] at hl
    obtain ⟨cur', h3, h4, h5⟩ := setCells_mark r (o + 1) (w.setCell ⟨g, o, none⟩ v) _ h2 (by simp; omega)
    refine ⟨cur', h3, by rw [h4]; simp, ?_⟩
    rw [h5, Array.toList_setIfInBounds]
    have ho : o < cur.toList.length := by rw [Array.length_toList]; omega
    rw [List.take_set, List.drop_set_of_lt (by omega)]
    simp only [List.length_cons]
    rw [show o + 1 + r.length = o + (r.length + 1) by omega]
    congr 1
    rw [List.take_succ_eq_append_getElem ho, List.set_append_right _ _ (by rw [List.length_take]; omega)]
    have ho' : o < cur.size := by omega
    simp [Nat.min_eq_left (Nat.le_of_lt ho')]
section
variable {ops : Array Oper} {o : Oper} {a : Act} {Q : Exit → Act → World → Prop} {Kc : Act → World → Prop} {w0 W : World} {E : Prop}
/-- append(v, ys...) onto a buffer, in a region that draws -/
theorem appBufS (base : Nat) (hgd : o.guard = none) (s x : Operand) (ho : o.op = .call { callee := .builtin .append, args := #[s, x], argTypes := #[32, 32] })
    (v : Value) (xs ys : List UInt8) (ad : Addr) (m c : Nat) (hs : a.eval s = v) (hx : a.eval x = .slice (some ad) m c) (hm : m = ys.length) (hp : 0 < ys.length) (HO : Buf W base v xs) (HR : Rd W (some ad) ys) (HB : Below base w0 W) (hbase : base ≤ W.heap.size) (hl : xs.length + ys.length ≤ 140737488355328)
    (h : ∀ A1 c1 w1, Buf w1 base (.slice A1 (xs ++ ys).length c1) (xs ++ ys) → Below base w0 w1 → (∀ (k : Nat) (t : TypeId) (cells : Array Value), 5 ≠ t → W.heap[k]? = some (Obj.cells cells t (0, 0)) → w1.heap[k]? = W.heap[k]?) → Kc (a.put o.dst (.slice A1 (xs ++ ys).length c1)) w1) :
    if Region.wanted o (yielded ops a.tmps) = true then Oper.wp Try.prog o a W Kc Q else E := by
  subst hm
  obtain ⟨i0, hi, hzz⟩ := Option.map_eq_some_iff.1 infoU8
  simp only [Prod.mk.injEq] at hzz
  obtain ⟨hz0, hz1, hz2⟩ := hzz
  have hsl : (xs ++ ys).length = xs.length + ys.length := List.length_append
  have hnews : ∀ j u, (encs encB ys)[j]? = some u → W.cell? (ad.add j) = some u := HR.src
  have hone : ∀ u ∈ encs encB ys, u.oneCell' = true := by
    intro u hu
    obtain ⟨y, -, rfl⟩ := List.mem_map.1 hu
    rfl
  have grow : ∀ (ao : Option Addr) (cap : Nat) (hv : v = .slice ao xs.length cap) (hnone : ao = none → xs.length = 0 ∧ cap = 0) (hold : ∀ b, ao = some b → ∀ j u, (encs encB xs)[j]? = some u → W.cell? (b.add j) = some u) (hfull : cap < xs.length + ys.length), if Region.wanted o (yielded ops a.tmps) = true then Oper.wp Try.prog o a W Kc Q else E := by
    intro ao cap hv hnone hold hfull
    refine step_append_grows hgd s x 32 ho 5 i0 (.int .u8 0) 1 1 undB hi hz0 hz1 hz2 rfl (by decide) ao xs.length cap (encs encB xs) (hs.trans hv) hnone (by simp [encs]) hold ad ys.length c (encs encB ys) hx (by simp [encs]) hnews hone hfull (by unfold maxLen; omega) (by omega) ?_
    intro v' w' hown hg
    have hO : Own w' W.heap.size v' (xs ++ ys) := Kd.R_of_own (by rw [encs_append, hsl]; exact hown) (fun _ _ => trivial)
    obtain ⟨A1, c1, rfl, -, -⟩ := hO.reads
    exact h A1 c1 w' ((Buf.of_own hO).lower hbase) (pw_below_grown HB none hbase hg (fun k hk => by cases hk)) (fun k t cells _ hk => hg.block k (blk_lt hk) (by simp))
  rcases HO with ⟨rfl, rfl⟩ | ⟨b, cap, cur, fr, hv, hb, hg, hf, hn, hmx, hsz, ht⟩
  · exact grow none 0 rfl (fun _ => ⟨rfl, rfl⟩) (fun b hb => by cases hb) (by simpa using hp)
  · by_cases hroom : xs.length + ys.length ≤ cap
    · have hle : (encs encB ys).length = ys.length := by simp [encs]
      obtain ⟨cur', q1, q2, q3⟩ := setCells_mark (encs encB ys) (xs.length) W cur hg (by rw [hle, hsz]; exact hroom)
      refine step_append_room hgd s x 32 ho 5 i0 1 undB hi hz1 b 0 xs.length cap (hs.trans hv) ad ys.length c (encs encB ys) hx (by simp [encs]) hnews hone hroom (fun j hj => ?_) ?_
      · rw [hle] at hj
        have hj' : 0 + xs.length * 1 + j < cur.size := by omega
        refine ⟨?_, ?_⟩
        · rw [cell_of_row _ _ _ _ _ _ hg]
          simp only [Array.getElem?_eq_getElem hj', Option.isSome_some]
        · simp only [World.frozen?, hg]
          rcases hf with rfl | rfl
          · simp
          · simp only [Bool.and_eq_false_iff, decide_eq_false_iff_not]; left; omega
      · rw [show 0 + xs.length * 1 = xs.length by omega, ← hsl]
        refine h (some ⟨b, 0, none⟩) cap _ (.inr ⟨b, cap, cur', fr, rfl, hb, q1, hf, by omega, hmx, by rw [q2, hsz], ?_⟩) ?_ ?_
        · rw [q3, encs_append, hsl]
          have hl1 : (cur.toList.take xs.length ++ encs encB ys).length = xs.length + ys.length := by
            have hc : cur.toList.length = cap := by rw [← hsz]; simp
            rw [List.length_append, List.length_take, hc, hle]; omega
          rw [List.take_left' hl1, ht]
        · obtain ⟨s1, s2, s3, s4⟩ := setCells_same b (encs encB ys) xs.length W
          exact HB.trans ⟨s1, s2, s3, by rw [s4]; exact Nat.le_refl _, fun k hk => setCells_far _ _ k (by omega)⟩
        · intro k t cells hne hk
          refine setCells_far _ _ k ?_
          rintro rfl
          rw [hg] at hk
          injection hk with hk
          injection hk with _ hk
          exact hne hk
    · exact grow (some ⟨b, 0, none⟩) cap hv (fun h => by cases h) (fun b' hb' => by
        injection hb' with hb'
        subst hb'
        have hr : Rd W (some ⟨b, 0, none⟩) xs := by
          obtain ⟨A', c', e', -, hr⟩ := Buf.reads (W := W) (base := base) (v := v) (l := xs) (.inr ⟨b, cap, cur, fr, hv, hb, hg, hf, hn, hmx, hsz, ht⟩)
          rw [hv] at e'
          injection e' with e1
          rw [e1]; exact hr
        exact hr.src) (by omega)
end
end Go.Proofs.Ytdkadeihhgjiaaa.B
/- A variable of a struct: made and filled in one step. Append onto a buffer in a plain region. Bytes within a block. -/
set_option linter.unusedVariables false
set_option linter.unusedSimpArgs false
namespace Go.Proofs.Ytdkadeihhgjiaaa.B
open Go.RowKit Go.Proofs.YtdkadeihhgjiaaaW.PrintWords

theorem setRow_alloc (w : World) (old cs : Array Value) (t : TypeId) : (w.alloc (.cells old t)).setRow w.heap.size cs = w.alloc (.cells cs t) := by
  unfold World.setRow World.alloc
  congr 1
  apply Array.ext
  · simp
  · intro i h1 h2
    simp only [Array.getElem_modify, Array.getElem_push]
    simp at h1
    split
    · rename_i hk; subst hk; simp
    · rename_i hk
      rw [dif_pos (by omega), dif_pos (by omega)]
section
variable {P : Program} {ops : Array Oper} {rest : List Oper} {o o1 o2 : Oper} {a : Act} {Q : Exit → Act → World → Prop} {w : World}
theorem run_allocZ (T : TypeId) (zs : Array Value) (hz : ∀ w, (zeroValue T).run P w = .ok (.agg zs) w) (w : World) : (Instr.alloc T true (.tuple #[])).run P w = .ok (.pointer (some ⟨w.heap.size, 0, none⟩)) (w.alloc (.cells zs T)) := by
  unfold Instr.alloc
  simp only [Sem.run_bind, hz, Result.andThen_ok]
  simp [newVar, newRow, Value.cells]
/-- an alloc as an operation -/
theorem wp_allocZ (T : TypeId) (ho : o.op = .alloc T) (zs : Array Value) (hz : ∀ w, (zeroValue T).run P w = .ok (.agg zs) w) {K : Act → World → Prop}
    (h : K (a.put o.dst (.pointer (some ⟨w.heap.size, 0, none⟩))) (w.alloc (.cells zs T))) : o.wp P a w K Q := by
  unfold Oper.wp execOp
  simp only [ho, Sem.run_bind, Sem.run_pure, run_allocZ T zs hz, Result.andThen_ok]
  exact h
/-- 'x := v', x a struct's variable -/
theorem wpList_box (h1 : o1.guard = none) (h2 : o2.guard = none) (T : TypeId) (x y : Operand) (ho1 : o1.op = .alloc T) (ho2 : o2.op = .store T x y) (cells zs : Array Value) (hz : ∀ w, (zeroValue T).run P w = .ok (.agg zs) w)
    (hx : (a.put o1.dst (.pointer (some ⟨w.heap.size, 0, none⟩))).eval x = .pointer (some ⟨w.heap.size, 0, none⟩)) (hy : (a.put o1.dst (.pointer (some ⟨w.heap.size, 0, none⟩))).eval y = .agg cells) (hs : zs.size = cells.size) (hi : (P.info? T).map (·.size) = some cells.size) (hc : cells.all (·.oneCell') = true)
    (h : wpList P ops Q rest ((a.put o1.dst (.pointer (some ⟨w.heap.size, 0, none⟩))).put o2.dst undef) (w.alloc (.cells cells T))) : wpList P ops Q (o1 :: o2 :: rest) a w := by
  refine wpList_plain h1 fun K hK => ?_
  unfold Oper.wp execOp
  simp only [ho1, Sem.run_bind, Sem.run_pure, run_allocZ T zs hz, Result.andThen_ok]
  refine hK _ _ ?_
  refine wpList_plain h2 fun K hK => ?_
  refine wp_store_row T x y ho2 w.heap.size cells hx hy T zs (blk_new w _) hi hs hc ?_
  rw [setRow_alloc]
  exact hK _ _ h
end
section
variable {ops : Array Oper} {rest : List Oper} {o : Oper} {a : Act} {Q : Exit → Act → World → Prop} {w0 W : World}
/-- append(v, ys...) onto a buffer -/
theorem appBuf (base : Nat) (hgd : o.guard = none) (s x : Operand) (ho : o.op = .call { callee := .builtin .append, args := #[s, x], argTypes := #[32, 32] })
    (v : Value) (xs ys : List UInt8) (ad : Addr) (m c : Nat) (hs : a.eval s = v) (hx : a.eval x = .slice (some ad) m c) (hm : m = ys.length) (hp : 0 < ys.length) (HO : Buf W base v xs) (HR : Rd W (some ad) ys) (HB : Below base w0 W) (hbase : base ≤ W.heap.size) (hl : xs.length + ys.length ≤ 140737488355328)
    (h : ∀ A1 c1 w1, Buf w1 base (.slice A1 (xs ++ ys).length c1) (xs ++ ys) → Below base w0 w1 → (∀ (k : Nat) (t : TypeId) (cells : Array Value), 5 ≠ t → W.heap[k]? = some (Obj.cells cells t (0, 0)) → w1.heap[k]? = W.heap[k]?) → wpList Try.prog ops Q rest (a.put o.dst (.slice A1 (xs ++ ys).length c1)) w1) :
    wpList Try.prog ops Q (o :: rest) a W := by
  refine wpList_plain hgd fun K hK => ?_
  have h1 := appBufS (E := True) (Q := Q) (Kc := K) (ops := ops) base hgd s x ho v xs ys ad m c hs hx hm hp HO HR HB hbase hl (fun A1 c1 w1 q1 q2 q3 => hK _ _ (h A1 c1 w1 q1 q2 q3))
  rwa [if_pos (by simp [Region.wanted, hgd])] at h1
end
/-- bytes within a block -/
theorem rd_at {W : World} {g o : Nat} {l : List UInt8} (h : W.rangeAt g o (l.map encB)) (hl : l.length ≤ 9223372036854775807) : Rd W (some ⟨g, o, none⟩) l := by
  refine Kd.C_of_reads (enc := encB) (d := (0 : UInt8)) ⟨rfl, hl, fun _ => ⟨_, rfl, fun j hj => ?_⟩⟩
  have h1 : W.cell? ⟨g, o + j, none⟩ = some (encB (l.getD j 0)) := h j _ (by simp [hj])
  rw [← h1]
  congr 1
  unfold Addr.add
  split
  · subst_vars; rfl
  · rfl
theorem range_blk {W : World} {g o : Nat} {t : TypeId} {cs : Array Value} {fr : Nat × Nat} {l : List Value} (h : W.heap[g]? = some (.cells cs t fr)) (hc : ∀ j v, l[j]? = some v → cs[o + j]? = some v) : W.rangeAt g o l := fun j v hv => by
  rw [cell_of_row W g (o + j) cs t fr h]; exact hc j v hv
theorem range_row {W : World} {g : Nat} {t : TypeId} {cs : Array Value} {fr : Nat × Nat} (h : W.heap[g]? = some (.cells cs t fr)) : W.rangeAt g 0 cs.toList := range_blk h (fun j v hv => by rw [Nat.zero_add]; simpa using hv)
/-- two rows stored -/
theorem two_rows {W w : World} {base g6 g7 : Nat} {t6 t7 : TypeId} {o6 o7 : Array Value} (C6 C7 : Array Value) (h6 : W.heap[g6]? = some (.cells o6 t6 (0, 0))) (h7 : W.heap[g7]? = some (.cells o7 t7 (0, 0))) (hne : g6 ≠ g7) (hb : Below base w W) (b6 : base ≤ g6) (b7 : base ≤ g7) :
    ((W.setRow g6 C6).setRow g7 C7).heap[g6]? = some (.cells C6 t6 (0, 0)) ∧ ((W.setRow g6 C6).setRow g7 C7).heap[g7]? = some (.cells C7 t7 (0, 0)) ∧ Below base w ((W.setRow g6 C6).setRow g7 C7) := by
  refine ⟨?_, ?_, below_setRow (below_setRow hb b6 C6) b7 C7⟩
  · rw [setRow_other _ _ _ _ hne]; exact setRow_heap W g6 _ C6 _ _ h6
  · exact setRow_heap _ g7 _ C7 _ _ ((setRow_other W g6 g7 C6 hne.symm).trans h7)
end Go.Proofs.Ytdkadeihhgjiaaa.B
/- slices.Clone of bytes. -/
set_option linter.unusedVariables false
set_option linter.unusedSimpArgs false
namespace Go.Proofs.Ytdkadeihhgjiaaa.Cl
open Go.RowKit Go.Proofs.YtdkadeihhgjiaaaW.PrintWords Go.Proofs.Ytdkadeihhgjiaaa.B

set_option maxRecDepth 100000 in
set_option maxHeartbeats 400000 in
theorem clone_any (A : Option Addr) (c : Nat) (l : List UInt8) (w : World) (hl : l.length ≤ 140737488355328) (hr : Rd w A l) :
    Calls Try.prog 67 #[.slice A l.length c] w (Made w l) := by
  have HR := Lib.hid hr
  clear hr
  cases A with
  | none =>
    have h0 : l = [] := by
      rcases Nat.eq_zero_or_pos l.length with h | h
      · exact List.eq_nil_of_length_eq_zero h
      · obtain ⟨ad, h1, _⟩ := HR.out.at_ 0 h; cases h1
    subst h0
    have hn : ∀ W : World, (binOp .eql 32 (.slice none 0 c) (.slice none 0 0)).run Try.prog W = .ok (.bool true) W := fun W => Lib.run_eql_slice_nil W 32 5 none 0 c 0 0 undB
    go_enter Try.func67, Try.ntmps67
    go_wp2
    go_ret
    exact ⟨_, rfl, Own.nil _ _, Below.refl _ _⟩
  | some ad =>
    have hn : ∀ W : World, (binOp .eql 32 (.slice (some ad) l.length c) (.slice none 0 0)).run Try.prog W = .ok (.bool false) W := fun W => Lib.run_eql_slice_nil W 32 5 (some ad) l.length c 0 0 undB
    go_enter Try.func67, Try.ntmps67
    go_wp2_with (at_builtin; go_loud (refine appRow (w0 := w) w.heap.size rfl (.tmp 5) (.tmp 6) rfl _ [] l (some ad) l.length c rfl rfl rfl (own_lit w w.heap.size (Nat.le_refl _) [] _ rfl (by simp)) (HR.out.below (below_alloc (Below.refl _ _) _)) (below_alloc (Below.refl _ _) _) (by simp) (by simpa using hl) ?_); intro v2 w2 hown hb _ _; have HO2 := Lib.hid hown; have HB2 := Lib.hid hb; clear hown hb)
    go_ret
    exact ⟨_, rfl, by have := HO2.out; simpa using this, HB2.out⟩
end Go.Proofs.Ytdkadeihhgjiaaa.Cl
/- Slices of bytes cut: capacities of their own names. -/
set_option linter.unusedVariables false
set_option linter.unusedSimpArgs false
namespace Go.Proofs.Ytdkadeihhgjiaaa.B
open Go.RowKit Go.Proofs.YtdkadeihhgjiaaaW.PrintWords

/-- b[lo:] -/
theorem cutF {A : Option Addr} {l : List UInt8} {c : Nat} (lo : Int) (h0 : 0 ≤ lo) (h2 : lo ≤ l.length) (hc : l.length ≤ c) :
    ∃ (A' : Option Addr) (y : List UInt8) (c' : Nat), Hid (y = l.drop lo.toNat) ∧ (∀ W : World, (Instr.slice 32 (.slice A l.length c) (some (.int .i64 lo)) none none).run Try.prog W = .ok (.slice A' y.length c') W) ∧ (∀ w : World, Rd w A l → Rd w A' y) ∧ y.length ≤ c' ∧ y.length = l.length - lo.toNat := by
  obtain ⟨A', y, h⟩ := cutFrom (A := A) (l := l) (c := c) lo h0 h2 hc
  exact ⟨A', y, _, h⟩
/-- b[lo:hi] -/
theorem cutM {A : Option Addr} {l : List UInt8} {c : Nat} (lo hi : Int) (h0 : 0 ≤ lo) (h1 : lo ≤ hi) (h2 : hi ≤ l.length) (hc : l.length ≤ c) :
    ∃ (A' : Option Addr) (y : List UInt8) (c' : Nat), Hid (y = (l.take hi.toNat).drop lo.toNat) ∧ (∀ W : World, (Instr.slice 32 (.slice A l.length c) (some (.int .i64 lo)) (some (.int .i64 hi)) none).run Try.prog W = .ok (.slice A' y.length c') W) ∧ (∀ w : World, Rd w A l → Rd w A' y) ∧ y.length ≤ c' ∧ y.length = hi.toNat - lo.toNat := by
  obtain ⟨A', y, h⟩ := cutMid (A := A) (l := l) (c := c) lo hi h0 h1 h2 hc
  exact ⟨A', y, _, h⟩
theorem Own.far {w : World} {base : Nat} {v : Value} {l : List UInt8} (h : Own w base v l) {p : Addr} (hp : p.block < base) (u : Value) : Own (w.setCell p u) base v l :=
  Kd.R_mono (Kd.R_far (Kd.R_bound h) (fun k hk => by have := hk.2.1; omega) u) (fun _ _ => trivial)
theorem Own.rd {w : World} {base : Nat} {A : Option Addr} {n c : Nat} {l : List UInt8} (h : Own w base (.slice A n c) l) : Rd w A l := by
  obtain ⟨A', c', e, -, hr⟩ := h.reads
  injection e with e1
  subst e1
  exact hr
theorem Rd.cell {w : World} {ad : Addr} {l : List UInt8} (h : Rd w (some ad) l) (i : Nat) (hi : i < l.length) : w.cell? (ad.add i) = some (.int .u8 (bt l i)) := by
  obtain ⟨ad', e, hc⟩ := h.at_ i hi
  injection e with e; subst e; exact hc
theorem Own.set {W : World} {base : Nat} {v : Value} {l : List UInt8} (h : Own W base v l) {g t : Nat} {cells : Array Value} (hb : W.heap[g]? = some (.cells cells t (0, 0))) (ht : 5 ≠ t) (j : Nat) (u : Value) : Own (W.setCell ⟨g, j, none⟩ u) base v l :=
  Kd.R_set h hb (fun q hq => by
    have : q = 5 := by simpa [u8, Kd.scalar] using hq
    rw [this]; exact ht) j u
end Go.Proofs.Ytdkadeihhgjiaaa.B
/- The compare of two aggregates as one operation: in a region that draws its order, in a plain one. -/
set_option linter.unusedVariables false
set_option linter.unusedSimpArgs false
namespace Go.Proofs.Ytdkadeihhgjiaaa.B
open Go.RowKit Go.Proofs.YtdkadeihhgjiaaaW.PrintWords

section
variable {P : Program} {ops : Array Oper} {S : World → Prop} {o : Oper} {a : Act} {rest : List Oper} {Q : Exit → Act → World → Prop} {w : World}
theorem exec_eq (bop : BinOp) (ty ty' : TypeId) (x y : Operand) (ho : o.op = .binOp bop ty x y ty') (xs ys : Array Value) (hx : a.eval x = .agg xs) (hy : a.eval y = .agg ys) (hm : P.eqGuardType P.depth ty = false) (v : Value) (W : World) (h : (binOp bop ty (.agg xs) (.agg ys)).run P W = .ok v W) :
    (execOp a.eval o).run P W = .ok (.value v) W := by
  unfold execOp
  simp only [ho, hx, hy, Sem.run_bind, Sem.run_pure, run_eqGuard_agg W bop ty x y xs ys hm, Result.andThen_ok, h]
theorem yields_eq (bop : BinOp) (ty ty' : TypeId) (x y : Operand) (ho : o.op = .binOp bop ty x y ty') (xs ys : Array Value) (hx : a.eval x = .agg xs) (hy : a.eval y = .agg ys) (hm : P.eqGuardType P.depth ty = false) (v : Value) (hw : Region.wanted o (yielded ops a.tmps) = true) (h : ∀ W, (binOp bop ty (.agg xs) (.agg ys)).run P W = .ok v W) :
    YieldsIf P ops S o v a := .inl ⟨hw, fun W _ => exec_eq bop ty ty' x y ho xs ys hx hy hm v W (h W)⟩
theorem wpList_eq (hgd : o.guard = none) (bop : BinOp) (ty ty' : TypeId) (x y : Operand) (ho : o.op = .binOp bop ty x y ty') (xs ys : Array Value) (hx : a.eval x = .agg xs) (hy : a.eval y = .agg ys) (hm : P.eqGuardType P.depth ty = false) (v : Value) (h : (binOp bop ty (.agg xs) (.agg ys)).run P w = .ok v w)
    (hk : wpList P ops Q rest (a.put o.dst v) w) : wpList P ops Q (o :: rest) a w := by
  refine wpList_plain hgd fun K hK => ?_
  unfold Oper.wp
  rw [exec_eq bop ty ty' x y ho xs ys hx hy hm v w h]
  exact hK _ _ hk
theorem wpList_eqG (hw : Region.wanted o (yielded ops a.tmps) = true) (bop : BinOp) (ty ty' : TypeId) (x y : Operand) (ho : o.op = .binOp bop ty x y ty') (xs ys : Array Value) (hx : a.eval x = .agg xs) (hy : a.eval y = .agg ys) (hm : P.eqGuardType P.depth ty = false) (v : Value) (h : (binOp bop ty (.agg xs) (.agg ys)).run P w = .ok v w)
    (hk : wpList P ops Q rest (a.put o.dst v) w) : wpList P ops Q (o :: rest) a w := by
  refine wpList_step fun K hK => ?_
  rw [if_pos hw]
  unfold Oper.wp
  rw [exec_eq bop ty ty' x y ho xs ys hx hy hm v w h]
  exact hK _ _ hk
/-- a load of a whole array, under a guard that holds -/
theorem wpList_load_midG (hw : Region.wanted o (yielded ops a.tmps) = true) (ty : TypeId) (x : Operand) (ho : o.op = .load ty x)
    (b off : Nat) (hx : a.eval x = .pointer (some ⟨b, off, none⟩)) (cs : List Value) (d : TypeDesc) (hc : w.rangeAt b off cs)
    (hu : P.underlying ty = some d) (hd : d.isRow = true) (hi : (P.info? ty).map (·.size) = some cs.length)
    (h : wpList P ops Q rest (a.put o.dst (.agg cs.toArray)) w) : wpList P ops Q (o :: rest) a w := by
  refine wpList_step fun K hK => ?_
  rw [if_pos hw]
  exact wp_load_mid ty x ho b off hx cs d hc hu hd hi (hK _ _ h)
end
/-- equality of 32 bytes -/
theorem eql_dig (a b : List UInt8) (ha : a.length = 32) (hb : b.length = 32) (W : World) (e : TypeId) (n : Nat) (he : e = 5) (t : TypeId) (ht : Try.prog.underlying t = some (.array 32 e)) :
    (binOp .eql t (.agg (a.map encB).toArray) (.agg (b.map encB).toArray)).run Try.prog W = .ok (.bool (a == b)) W := by
  subst he
  obtain ⟨i8, hi8, hz8⟩ := Option.map_eq_some_iff.1 infoU8
  exact run_eql_bytes W t 5 32 ht Try.underlying5 (fun W => by simp only [Prod.mk.injEq] at hz8; simp [sizeOf, typeInfo, hi8, hz8.2.1]) a b ha hb
theorem neq_run {r : Result Bool} {b : Bool} {W : World} (h : (r.andThen fun b w' => .ok (Value.bool b) w') = .ok (.bool b) W) : (r.andThen fun b w' => .ok (Value.bool (!b)) w') = .ok (.bool (!b)) W := by
  cases r with
  | ok b' w' =>
    simp only [Result.andThen_ok] at h ⊢
    injection h with h1 h2
    injection h1 with h1
    rw [h1, h2]
  | halt x w' => simp [Result.andThen] at h
theorem neq_of_eql {t : TypeId} {xs ys : Array Value} {b : Bool} {W : World} (h : (binOp .eql t (.agg xs) (.agg ys)).run Try.prog W = .ok (.bool b) W) : (binOp .neq t (.agg xs) (.agg ys)).run Try.prog W = .ok (.bool (!b)) W :=
  (run_neq_struct W t xs ys).trans (neq_run ((run_eql_struct W t xs ys).symm.trans h))
end Go.Proofs.Ytdkadeihhgjiaaa.B
/- stillageref01.Same (for seats without Fixed). -/
set_option linter.unusedVariables false
set_option linter.unusedSimpArgs false
namespace Go.Proofs.Ytdkadeihhgjiaaa.R01
open Go.RowKit Go.Proofs.YtdkadeihhgjiaaaW.PrintWords Go.Proofs.Ytdkadeihhgjiaaa.B

def sameB (a b : List UInt8) : Bool := decide (a = b)
theorem take_snoc_eq {a b : List UInt8} {k : Nat} (ha : k < a.length) (hb : k < b.length) (h : a.take k = b.take k) (hx : B.bt a k = B.bt b k) : a.take (k + 1) = b.take (k + 1) := by
  rw [List.take_succ_eq_append_getElem ha, List.take_succ_eq_append_getElem hb, h]
  congr 2
  have : (a.getD k 0).toNat = (b.getD k 0).toNat := by unfold B.bt at hx; omega
  simp [ha, hb] at this
  exact UInt8.toNat_inj.1 this
theorem sameB_ne {a b : List UInt8} {k : Nat} (ha : k < a.length) (hb : k < b.length) (hx : B.bt a k ≠ B.bt b k) : sameB a b = false := by
  unfold sameB; simp only [decide_eq_false_iff_not]
  rintro rfl; exact hx rfl
set_option maxHeartbeats 400000 in
theorem same_any (A : Option Addr) (c : Nat) (a : List UInt8) (A' : Option Addr) (c' : Nat) (b : List UInt8) (w : World) (hl : a.length ≤ 140737488355328) (hr : Rd w A a) (hr' : Rd w A' b) :
    Calls Try.prog 26 #[.slice A a.length c, .slice A' b.length c'] w (Quiet (.bool (sameB a b)) w) := by
  have HR := Lib.hid hr
  have HR' := Lib.hid hr'
  clear hr hr'
  by_cases h1 : a.length = b.length
  · have HL := Lib.hid h1
    have h1' : ((a.length : Int) != b.length) = false := by simp [h1]
    have hle1 : a.length ≤ b.length := by omega
    have hle2 : b.length ≤ a.length := by omega
    clear h1
    go_enter Try.func26, Try.ntmps26
    go_wp2
    go_loopw [5] (fun i wr => ∃ k n : Nat, k ≤ a.length ∧ i = .int .i64 k ∧ Hid (a.take k = b.take k) ∧ wr = w.drewN n) (fun i _ => a.length - (intOf i).toNat)
    case atStart => exact ⟨0, 0, by omega, rfl, rfl, rfl⟩
    case round =>
      obtain ⟨k, n, hk, rfl, HK, rfl⟩ := hrel
      by_cases hlt : k < a.length
      · obtain ⟨ad, rfl, hc⟩ := HR.out.at_ k hlt
        obtain ⟨ad', rfl, hc'⟩ := HR'.out.at_ k (by omega)
        have hk2 : k < b.length := by omega
        go_wp2
        go_quiet (fail)
        rw [World.drewN_drewN]
        by_cases hx : B.bt a k = B.bt b k
        · have HK2 := Lib.hid (take_snoc_eq hlt hk2 HK.out hx)
          have hx' : (B.bt a k != B.bt b k) = false := by simp [hx]
          clear hx
          go_wp2
          go_roundw
          case rel => exact ⟨k + 1, _, by omega, by go_num, HK2, rfl⟩
          case measure => simp [intOf]; omega
        · have HS := Lib.hid (sameB_ne hlt hk2 hx)
          have hx' : (B.bt a k != B.bt b k) = true := by simp [hx]
          clear hx
          go_wp2
          go_ret
          exact ⟨ret_eq (by rw [HS.out]; rfl), _, rfl⟩
      · obtain rfl : k = a.length := by omega
        have HS := Lib.hid (show sameB a b = true by have := HK.out; rw [HL.out, List.take_length] at this; rw [← HL.out, List.take_length] at this; simpa [sameB] using this)
        go_wp2
        go_ret
        exact ⟨ret_eq (by rw [HS.out]; rfl), n, rfl⟩
  · have HS := Lib.hid (show sameB a b = false by unfold sameB; simp only [decide_eq_false_iff_not]; rintro rfl; exact h1 rfl)
    have h1' : ((a.length : Int) != b.length) = true := by simp; omega
    clear h1
    go_enter Try.func26, Try.ntmps26
    go_wp2
    go_ret
    exact ⟨ret_eq (by rw [HS.out]; rfl), 0, rfl⟩
end Go.Proofs.Ytdkadeihhgjiaaa.R01
/- What the reading of an argument gives: a Lean value of a kind (Kd), and that it is no larger than the reading's bulk. -/
set_option linter.unusedVariables false
set_option linter.unusedSimpArgs false
namespace Go.Proofs.Ytdkadeihhgjiaaa.O
open Go.RowKit Go.Proofs.YtdkadeihhgjiaaaW.PrintWords Go.Proofs.Ytdkadeihhgjiaaa.B Go.Deep

/-! ### kinds of single cells -/
def i64 : Kd Int64 := Kd.scalar (fun x => .int .i64 x.toInt) (fun _ => rfl)
def u64 : Kd UInt64 := Kd.scalar (fun x => .int .u64 x.toNat) (fun _ => rfl)
def u32 : Kd UInt32 := Kd.scalar (fun x => .int .u32 x.toNat) (fun _ => rfl)
def f64 : Kd UInt64 := Kd.scalar (fun x => .float .f64 x.toNat) (fun _ => rfl)

/-! ### bulk -/
theorem bulk_one {H : Type} (d : DataW H) : 1 ≤ Rows.uptoBulk d := by
  cases d with
  | lit l => cases l <;> simp [Rows.uptoBulk]
  | nil => simp [Rows.uptoBulk]
  | ptr d => simp [Rows.uptoBulk]
  | slice elems spare => simp [Rows.uptoBulk]
  | agg parts => simp [Rows.uptoBulk]
  | iface t d => simp [Rows.uptoBulk]
  | map entries => simp [Rows.uptoBulk]
  | held h => simp [Rows.uptoBulk]
theorem bulk_all {H : Type} : ∀ l : List (DataW H), Rows.uptoBulkAll l = (l.map Rows.uptoBulk).sum
  | [] => by simp [Rows.uptoBulkAll]
  | d :: l => by simp [Rows.uptoBulkAll, bulk_all l]
theorem sum_le {α : Type} (f g : α → Nat) : ∀ l : List α, (∀ x ∈ l, f x ≤ g x) → (l.map f).sum ≤ (l.map g).sum
  | [], _ => by simp
  | x :: l, h => by
    have h1 := h x List.mem_cons_self
    have h2 := sum_le f g l (fun y hy => h y (List.mem_cons_of_mem _ hy))
    simp only [List.map_cons, List.sum_cons]; omega
theorem len_le_sum {α : Type} (f : α → Nat) : ∀ l : List α, (∀ x ∈ l, 1 ≤ f x) → l.length ≤ (l.map f).sum
  | [], _ => by simp
  | x :: l, h => by
    have h1 := h x List.mem_cons_self
    have h2 := len_le_sum f l (fun y hy => h y (List.mem_cons_of_mem _ hy))
    simp only [List.map_cons, List.sum_cons, List.length_cons]; omega
theorem bound {H : Type} {l : List (DataW H)} (hk : Rows.uptoSmall H l = true) : Rows.uptoBulkAll l ≤ 1048576 := of_decide_eq_true hk

/-- A reading of type t is a value of kind d, of measure m at most its bulk. -/
structure Opn (P : Program) (t : TypeId) {α : Type} (d : Kd α) (m : α → Nat) : Prop where
  size : P.cellsOf t = d.sz
  opn : ∀ {H : Type} {enc : TypeId × Value → H} {w : World} {base : Nat} {spare : Nat → Bool} {held : Bool} {fuel : Nat} {cs : List Value} {x : DataW H × List MemPlace},
    DataW.trod enc P w base spare held fuel t cs = some x → ∃ a, d.K w a cs ∧ m a ≤ Rows.uptoBulk x.1
variable {P : Program} {t e : TypeId}
theorem opn_u8 (ht : P.underlying t = some (.int .u8)) (hs : P.cellsOf t = 1) : Opn P t u8 (fun _ => 1) := ⟨hs, fun h => by
  obtain ⟨n, rfl, rfl, hw⟩ := DataW.trod_int ht h
  have hb : 0 ≤ n ∧ n ≤ 255 := by simpa [Lit.wf, IntKind.min, IntKind.max, IntKind.bits, IntKind.signed] using hw
  refine ⟨UInt8.ofNat n.toNat, ?_, bulk_one _⟩
  show _ = [encB _]
  simp [encB]; omega⟩
theorem opn_u64 (ht : P.underlying t = some (.int .u64)) (hs : P.cellsOf t = 1) : Opn P t u64 (fun _ => 1) := ⟨hs, fun h => by
  obtain ⟨n, rfl, rfl, hw⟩ := DataW.trod_int ht h
  have hb : 0 ≤ n ∧ n ≤ 18446744073709551615 := by simpa [Lit.wf, IntKind.min, IntKind.max, IntKind.bits, IntKind.signed] using hw
  refine ⟨UInt64.ofNat n.toNat, ?_, bulk_one _⟩
  show _ = [Value.int _ _]
  simp; omega⟩
theorem opn_u32 (ht : P.underlying t = some (.int .u32)) (hs : P.cellsOf t = 1) : Opn P t u32 (fun _ => 1) := ⟨hs, fun h => by
  obtain ⟨n, rfl, rfl, hw⟩ := DataW.trod_int ht h
  have hb : 0 ≤ n ∧ n ≤ 4294967295 := by simpa [Lit.wf, IntKind.min, IntKind.max, IntKind.bits, IntKind.signed] using hw
  refine ⟨UInt32.ofNat n.toNat, ?_, bulk_one _⟩
  show _ = [Value.int _ _]
  simp; omega⟩
theorem opn_i64 (ht : P.underlying t = some (.int .i64)) (hs : P.cellsOf t = 1) : Opn P t i64 (fun _ => 1) := ⟨hs, fun h => by
  obtain ⟨n, rfl, rfl, hw⟩ := DataW.trod_int ht h
  have hb : -9223372036854775808 ≤ n ∧ n ≤ 9223372036854775807 := by simpa [Lit.wf, IntKind.min, IntKind.max, IntKind.bits, IntKind.signed] using hw
  refine ⟨Int64.ofInt n, ?_, bulk_one _⟩
  show _ = [Value.int _ _]
  rw [Int64.toInt_ofInt_of_le (by simpa using hb.1) (by simp; omega)]⟩
theorem opn_bool (ht : P.underlying t = some .bool) (hs : P.cellsOf t = 1) : Opn P t Kd.bool (fun _ => 1) := ⟨hs, fun h => by
  obtain ⟨b, rfl, rfl⟩ := DataW.trod_bool ht h
  exact ⟨b, rfl, bulk_one _⟩⟩
theorem opn_string (ht : P.underlying t = some .string) (hs : P.cellsOf t = 1) : Opn P t Kd.string (fun s => s.size + 1) := ⟨hs, fun h => by
  obtain ⟨s, rfl, rfl, _⟩ := DataW.trod_string ht h
  exact ⟨s, rfl, by simp [Rows.uptoBulk]⟩⟩
theorem opn_f64 (ht : P.underlying t = some (.float .f64)) (hs : P.cellsOf t = 1) : Opn P t f64 (fun _ => 1) := ⟨hs, fun {H enc w base spare held fuel cs x} h => by
  cases fuel with
  | zero => simp [DataW.trod] at h
  | succ n =>
    unfold DataW.trod at h
    rw [ht] at h
    split at h <;> simp_all
    rename_i k k' b he
    obtain ⟨⟨hk, hw⟩, hx⟩ := h
    subst hk
    subst he
    subst hx
    refine ⟨⟨UInt64.ofNat b, ?_⟩, bulk_one _⟩
    show _ = [Value.float _ _]
    have hb : b < 18446744073709551616 := by simpa [Lit.wf] using hw
    simp; omega⟩
/-- a slice's measure -/
def ms {α : Type} (m : α → Nat) (l : List α) : Nat := (l.map m).sum + 1
theorem ms_len {α : Type} {m : α → Nat} (hm : ∀ x, 1 ≤ m x) (l : List α) : l.length + 1 ≤ ms m l := by
  have := len_le_sum m l (fun x _ => hm x); unfold ms; omega
theorem cells_some {w : World} {base : Nat} {a : Addr} {n : Nat} {cs : List Value} (h : w.cells? base a n = some cs) : cs.length = n ∧ ∀ j u, cs[j]? = some u → w.cell? (a.add j) = some u := by
  unfold World.cells? at h
  split at h
  · have hl : cs.length = n := by simpa using mapM_some_length h
    refine ⟨hl, fun j u hu => ?_⟩
    have hj : j < n := by have := (List.getElem?_eq_some_iff.1 hu).1; omega
    have := mapM_some_get h j j (by simp [hj])
    rw [this, hu]
  · cases h
theorem choose_list {α : Type} {Q : Nat → α → Prop} : ∀ n : Nat, (∀ i, i < n → ∃ a, Q i a) → ∃ l : List α, l.length = n ∧ ∀ (i : Nat) (a : α), l[i]? = some a → Q i a
  | 0, _ => ⟨[], rfl, fun i a h => by simp at h⟩
  | n + 1, h => by
    obtain ⟨l, hl, hq⟩ := choose_list n (fun i hi => h i (by omega))
    obtain ⟨a, ha⟩ := h n (by omega)
    refine ⟨l ++ [a], by simp [hl], fun i b hb => ?_⟩
    by_cases hi : i < l.length
    · rw [List.getElem?_append_left hi] at hb; exact hq i b hb
    · have : i = n := by
        have := (List.getElem?_eq_some_iff.1 hb).1
        simp at this; omega
      subst this
      rw [List.getElem?_append_right (by omega)] at hb
      simp [hl] at hb
      subst hb; exact ha
theorem sum_range {α : Type} (m : α → Nat) : ∀ (l : List α) (g : Nat → Nat), (∀ (i : Nat) (a : α), l[i]? = some a → m a ≤ g i) → (l.map m).sum ≤ ((List.range l.length).map g).sum
  | [], _, _ => by simp
  | a :: l, g, h => by
    have h1 := h 0 a rfl
    have h2 := sum_range m l (fun i => g (i + 1)) (fun i b hb => h (i + 1) b (by simpa using hb))
    rw [List.length_cons, List.range_succ_eq_map, List.map_cons, List.map_cons, List.sum_cons, List.sum_cons, List.map_map]
    have h3 : ((List.range l.length).map (g ∘ Nat.succ)).sum = ((List.range l.length).map fun i => g (i + 1)).sum := rfl
    omega
theorem opn_slice {α : Type} {d : Kd α} {m : α → Nat} (ht : P.underlying t = some (.slice e)) (hs : P.cellsOf t = 1) (he : Opn P e d m) : Opn P t (Kd.slice e d) (ms m) := ⟨hs, fun {H enc w base spare held fuel cs x} h => by
  rcases open_slice ht h with ⟨rfl, rfl⟩ | ⟨a, len, cap, n, k, D, Pl, rfl, hb, hl, hm, hn, rfl, hel⟩
  · exact ⟨[], ⟨none, 0, rfl, by simp, Kd.C_nil d w⟩, by simp [ms, Rows.uptoBulk]⟩
  · have hln : len ≤ n := by rw [hn]; split <;> omega
    obtain ⟨l, hll, hq⟩ := choose_list (Q := fun i a0 => ∃ cs', w.cells? base (a.add (i * P.cellsOf e)) (P.cellsOf e) = some cs' ∧ d.K w a0 cs' ∧ m a0 ≤ Rows.uptoBulk (D i)) len (fun i hi => by
      obtain ⟨cs', h1, h2⟩ := hel i (by omega)
      obtain ⟨a0, h3, h4⟩ := he.opn h2
      exact ⟨a0, cs', h1, h3, h4⟩)
    refine ⟨l, ⟨some a, cap, by rw [hll], by omega, ⟨rfl, by unfold maxLen at hm; omega, fun _ => ⟨a, rfl, fun j p hj => ?_⟩⟩⟩, ?_⟩
    · obtain ⟨cs', h1, h2, _⟩ := hq j p hj
      obtain ⟨h3, h4⟩ := cells_some h1
      refine ⟨cs', by rw [h3, he.size], h2, fun i u hu => ?_⟩
      have := h4 i u hu
      rwa [Deep.add_add, he.size] at this
    · have h1 := sum_range m l (fun i => Rows.uptoBulk (D i)) (fun i a0 hi => by obtain ⟨_, _, _, h⟩ := hq i a0 hi; exact h)
      rw [hll] at h1
      simp only [ms, Rows.uptoBulk, bulk_all, List.map_map]
      have h2 : ((List.range len).map (Rows.uptoBulk ∘ D)).sum = ((List.range len).map fun i => Rows.uptoBulk (D i)).sum := rfl
      omega⟩
theorem opn_arr {α : Type} {d : Kd α} {m : α → Nat} {n : Nat} (hs0 : 0 < d.sz) (ht : P.underlying t = some (.array n e)) (hs : P.cellsOf t = n * d.sz) (he : Opn P e d m) : Opn P t (Kd.arr n d hs0) (ms m) := ⟨hs, fun {H enc w base spare held fuel cs x} h => by
  obtain ⟨xs, k, _, rfl, hl, hxl, hel⟩ := DataW.trod_array ht h
  obtain ⟨l, hll, hq⟩ := choose_list (Q := fun i a0 => ∃ y, xs[i]? = some y ∧ d.K w a0 ((cs.drop (i * d.sz)).take d.sz) ∧ m a0 ≤ Rows.uptoBulk y.1) n (fun i hi => by
    have h1 := hel i hi
    rw [List.getElem?_eq_getElem (by omega), he.size] at h1
    obtain ⟨a0, h3, h4⟩ := he.opn h1
    exact ⟨a0, _, List.getElem?_eq_getElem (by omega), h3, h4⟩)
  refine ⟨l, ⟨hll, by rw [hl, hs, hll], fun j p hj => ?_⟩, ?_⟩
  · obtain ⟨_, _, h2, _⟩ := hq j p hj; exact h2
  · have h1 := sum_range m l (fun i => ((xs[i]?).map fun y => Rows.uptoBulk y.1).getD 0) (fun i a0 hi => by obtain ⟨y, h0, _, h⟩ := hq i a0 hi; simp only [h0, Option.map_some, Option.getD_some]; exact h)
    have h2 : ((List.range l.length).map fun i => ((xs[i]?).map fun y => Rows.uptoBulk y.1).getD 0) = xs.map fun y => Rows.uptoBulk y.1 := by
      apply List.ext_getElem
      · simp; omega
      · intro i h1 h2; simp at h1 h2; simp [h2]
    rw [h2] at h1
    simp only [ms, Rows.uptoBulk, bulk_all, List.map_map]
    have h3 : (xs.map (Rows.uptoBulk ∘ fun x => x.1)).sum = (xs.map fun y => Rows.uptoBulk y.1).sum := rfl
    omega⟩
/-- the fields of a struct from cell o on -/
structure OpnF (P : Program) (fs : List Field) (o : Nat) {α : Type} (d : Kd α) (m : α → Nat) : Prop where
  opn : ∀ {H : Type} {enc : TypeId × Value → H} {w : World} {base : Nat} {spare : Nat → Bool} {held : Bool} {fuel : Nat} {cs : List Value} {xs : List (DataW H × List MemPlace)},
    cs.length = o + d.sz → xs.length = fs.length → (∀ (i : Nat) (f : Field), fs[i]? = some f → DataW.trod enc P w base spare held fuel f.type ((cs.drop f.offset).take (P.cellsOf f.type)) = xs[i]?) →
    ∃ a, d.K w a (cs.drop o) ∧ m a ≤ (xs.map fun x => Rows.uptoBulk x.1).sum
theorem opnF_one {f : Field} {o : Nat} {α : Type} {d : Kd α} {m : α → Nat} (ho : f.offset = o) (h : Opn P f.type d m) : OpnF P [f] o d m := ⟨fun {H enc w base spare held fuel cs xs} hl hx hf => by
  obtain ⟨x, rfl⟩ : ∃ x, xs = [x] := by match xs, hx with | [x], _ => exact ⟨x, rfl⟩
  have h1 := hf 0 f rfl
  rw [ho, h.size, List.take_of_length_le (by rw [List.length_drop]; omega)] at h1
  obtain ⟨a, h2, h3⟩ := h.opn (x := x) (by simpa using h1)
  exact ⟨a, h2, by simpa using h3⟩⟩
theorem opnF_cons {f : Field} {fs : List Field} {o : Nat} {α β : Type} {d : Kd α} {d' : Kd β} {m : α → Nat} {m' : β → Nat} (ho : f.offset = o) (h : Opn P f.type d m) (hr : OpnF P fs (o + d.sz) d' m') : OpnF P (f :: fs) o (Kd.pair d d') (fun x => m x.1 + m' x.2) := ⟨fun {H enc w base spare held fuel cs xs} hl hx hf => by
  obtain ⟨x, ys, rfl⟩ : ∃ x ys, xs = x :: ys := by match xs, hx with | x :: ys, _ => exact ⟨x, ys, rfl⟩
  have hl' : cs.length = o + (d.sz + d'.sz) := hl
  have h1 := hf 0 f rfl
  rw [ho, h.size] at h1
  obtain ⟨a, h2, h3⟩ := h.opn (x := x) (by simpa using h1)
  obtain ⟨b, h4, h5⟩ := hr.opn (cs := cs) (xs := ys) (by omega) (by simpa using hx) (fun i g hg => by have := hf (i + 1) g (by simpa using hg); simpa using this)
  refine ⟨(a, b), ⟨_, _, ?_, h2, h4⟩, ?_⟩
  · rw [← List.drop_drop, List.take_append_drop]
  · simp only [List.map_cons, List.sum_cons]; omega⟩
theorem opn_struct {fs : Array Field} {α : Type} {d : Kd α} {m : α → Nat} (ht : P.underlying t = some (.struct fs)) (hs : P.cellsOf t = d.sz) (h : OpnF P fs.toList 0 d m) : Opn P t d (fun x => m x + 1) := ⟨hs, fun {H enc w base spare held fuel cs x} hx => by
  obtain ⟨xs, n, _, rfl, hl, hlen, hf⟩ := DataW.trod_struct ht hx
  obtain ⟨a, h1, h2⟩ := h.opn (cs := cs) (xs := xs) (by omega) (by simpa using hlen) (fun i f hi => hf i f (by simpa using hi))
  refine ⟨a, by simpa using h1, ?_⟩
  simp only [Rows.uptoBulk, bulk_all, List.map_map]
  have h3 : (xs.map (Rows.uptoBulk ∘ fun x => x.1)).sum = (xs.map fun y => Rows.uptoBulk y.1).sum := rfl
  omega⟩
end Go.Proofs.Ytdkadeihhgjiaaa.O
