/- What the reading of an argument gives: a Lean value of a kind (Kd), and that it is no larger than the reading's bulk. -/
import Derived.Test.YtceldlijbehkdaaRows
import Derived.Test.YtceldlijbehkdaaBase
import Derived.Test.YtceldlijbehkdaaWArr
import Derived.Deep.Slices
import Derived.ProofKit
import Derived.OpenShut
set_option linter.unusedVariables false
set_option linter.unusedSimpArgs false
namespace Go.Proofs.Ytceldlijbehkdaa.O
open Go.RowKit Go.Proofs.YtceldlijbehkdaaW.PrintWords Go.Proofs.Ytceldlijbehkdaa.B Go.Deep

/-! ### kinds of single cells -/
def i64 : Kd Int64 := Kd.scalar (fun x => .int .i64 x.toInt) (fun _ => rfl)
def u64 : Kd UInt64 := Kd.scalar (fun x => .int .u64 x.toNat) (fun _ => rfl)
def u32 : Kd UInt32 := Kd.scalar (fun x => .int .u32 x.toNat) (fun _ => rfl)
def f64 : Kd UInt64 := Kd.scalar (fun x => .float .f64 x.toNat) (fun _ => rfl)

/-! ### bulk -/
theorem bulk_one {H : Type} (d : DataW H) : 1 ≤ Rows.uptoBulk d := by
  cases d with
  | lit l => cases l <;> simp [Rows.uptoBulk]
  | nil => simp [Rows.uptoBulk]
  | ptr d => simp [Rows.uptoBulk]
  | slice elems spare => simp [Rows.uptoBulk]
  | agg parts => simp [Rows.uptoBulk]
  | iface t d => simp [Rows.uptoBulk]
  | map entries => simp [Rows.uptoBulk]
  | held h => simp [Rows.uptoBulk]
theorem bulk_all {H : Type} : ∀ l : List (DataW H), Rows.uptoBulkAll l = (l.map Rows.uptoBulk).sum
  | [] => by simp [Rows.uptoBulkAll]
  | d :: l => by simp [Rows.uptoBulkAll, bulk_all l]
theorem sum_le {α : Type} (f g : α → Nat) : ∀ l : List α, (∀ x ∈ l, f x ≤ g x) → (l.map f).sum ≤ (l.map g).sum
  | [], _ => by simp
  | x :: l, h => by
    have h1 := h x List.mem_cons_self
    have h2 := sum_le f g l (fun y hy => h y (List.mem_cons_of_mem _ hy))
    simp only [List.map_cons, List.sum_cons]; omega
theorem len_le_sum {α : Type} (f : α → Nat) : ∀ l : List α, (∀ x ∈ l, 1 ≤ f x) → l.length ≤ (l.map f).sum
  | [], _ => by simp
  | x :: l, h => by
    have h1 := h x List.mem_cons_self
    have h2 := len_le_sum f l (fun y hy => h y (List.mem_cons_of_mem _ hy))
    simp only [List.map_cons, List.sum_cons, List.length_cons]; omega
theorem bound {H : Type} {l : List (DataW H)} (hk : Rows.uptoSmall H l = true) : Rows.uptoBulkAll l ≤ 1048576 := of_decide_eq_true hk

/-- A reading of type t is a value of kind d, of measure m at most its bulk. -/
structure Opn (P : Program) (t : TypeId) {α : Type} (d : Kd α) (m : α → Nat) : Prop where
  size : P.cellsOf t = d.sz
  opn : ∀ {H : Type} {enc : TypeId × Value → H} {w : World} {base : Nat} {spare : Nat → Bool} {held : Bool} {fuel : Nat} {cs : List Value} {x : DataW H × List MemPlace},
    DataW.trod enc P w base spare held fuel t cs = some x → ∃ a, d.K w a cs ∧ m a ≤ Rows.uptoBulk x.1
variable {P : Program} {t e : TypeId}
theorem opn_u8 (ht : P.underlying t = some (.int .u8)) (hs : P.cellsOf t = 1) : Opn P t u8 (fun _ => 1) := ⟨hs, fun h => by
  obtain ⟨n, rfl, rfl, hw⟩ := DataW.trod_int ht h
  have hb : 0 ≤ n ∧ n ≤ 255 := by simpa [Lit.wf, IntKind.min, IntKind.max, IntKind.bits, IntKind.signed] using hw
  refine ⟨UInt8.ofNat n.toNat, ?_, bulk_one _⟩
  show _ = [encB _]
  simp [encB]; omega⟩
theorem opn_u64 (ht : P.underlying t = some (.int .u64)) (hs : P.cellsOf t = 1) : Opn P t u64 (fun _ => 1) := ⟨hs, fun h => by
  obtain ⟨n, rfl, rfl, hw⟩ := DataW.trod_int ht h
  have hb : 0 ≤ n ∧ n ≤ 18446744073709551615 := by simpa [Lit.wf, IntKind.min, IntKind.max, IntKind.bits, IntKind.signed] using hw
  refine ⟨UInt64.ofNat n.toNat, ?_, bulk_one _⟩
  show _ = [Value.int _ _]
  simp; omega⟩
theorem opn_u32 (ht : P.underlying t = some (.int .u32)) (hs : P.cellsOf t = 1) : Opn P t u32 (fun _ => 1) := ⟨hs, fun h => by
  obtain ⟨n, rfl, rfl, hw⟩ := DataW.trod_int ht h
  have hb : 0 ≤ n ∧ n ≤ 4294967295 := by simpa [Lit.wf, IntKind.min, IntKind.max, IntKind.bits, IntKind.signed] using hw
  refine ⟨UInt32.ofNat n.toNat, ?_, bulk_one _⟩
  show _ = [Value.int _ _]
  simp; omega⟩
theorem opn_i64 (ht : P.underlying t = some (.int .i64)) (hs : P.cellsOf t = 1) : Opn P t i64 (fun _ => 1) := ⟨hs, fun h => by
  obtain ⟨n, rfl, rfl, hw⟩ := DataW.trod_int ht h
  have hb : -9223372036854775808 ≤ n ∧ n ≤ 9223372036854775807 := by simpa [Lit.wf, IntKind.min, IntKind.max, IntKind.bits, IntKind.signed] using hw
  refine ⟨Int64.ofInt n, ?_, bulk_one _⟩
  show _ = [Value.int _ _]
  rw [Int64.toInt_ofInt_of_le (by simpa using hb.1) (by simp; omega)]⟩
theorem opn_bool (ht : P.underlying t = some .bool) (hs : P.cellsOf t = 1) : Opn P t Kd.bool (fun _ => 1) := ⟨hs, fun h => by
  obtain ⟨b, rfl, rfl⟩ := DataW.trod_bool ht h
  exact ⟨b, rfl, bulk_one _⟩⟩
theorem opn_string (ht : P.underlying t = some .string) (hs : P.cellsOf t = 1) : Opn P t Kd.string (fun s => s.size + 1) := ⟨hs, fun h => by
  obtain ⟨s, rfl, rfl, _⟩ := DataW.trod_string ht h
  exact ⟨s, rfl, by simp [Rows.uptoBulk]⟩⟩
theorem opn_f64 (ht : P.underlying t = some (.float .f64)) (hs : P.cellsOf t = 1) : Opn P t f64 (fun _ => 1) := ⟨hs, fun {H enc w base spare held fuel cs x} h => by
  cases fuel with
  | zero => simp [DataW.trod] at h
  | succ n =>
    unfold DataW.trod at h
    rw [ht] at h
    split at h <;> simp_all
    rename_i k k' b he
    obtain ⟨⟨hk, hw⟩, hx⟩ := h
    subst hk
    subst he
    subst hx
    refine ⟨⟨UInt64.ofNat b, ?_⟩, bulk_one _⟩
    show _ = [Value.float _ _]
    have hb : b < 18446744073709551616 := by simpa [Lit.wf] using hw
    simp; omega⟩
/-- a slice's measure -/
def ms {α : Type} (m : α → Nat) (l : List α) : Nat := (l.map m).sum + 1
theorem ms_len {α : Type} {m : α → Nat} (hm : ∀ x, 1 ≤ m x) (l : List α) : l.length + 1 ≤ ms m l := by
  have := len_le_sum m l (fun x _ => hm x); unfold ms; omega
theorem cells_some {w : World} {base : Nat} {a : Addr} {n : Nat} {cs : List Value} (h : w.cells? base a n = some cs) : cs.length = n ∧ ∀ j u, cs[j]? = some u → w.cell? (a.add j) = some u := by
  unfold World.cells? at h
  split at h
  · have hl : cs.length = n := by simpa using mapM_some_length h
    refine ⟨hl, fun j u hu => ?_⟩
    have hj : j < n := by have := (List.getElem?_eq_some_iff.1 hu).1; omega
    have := mapM_some_get h j j (by simp [hj])
    rw [this, hu]
  · cases h
theorem choose_list {α : Type} {Q : Nat → α → Prop} : ∀ n : Nat, (∀ i, i < n → ∃ a, Q i a) → ∃ l : List α, l.length = n ∧ ∀ (i : Nat) (a : α), l[i]? = some a → Q i a
  | 0, _ => ⟨[], rfl, fun i a h => by simp at h⟩
  | n + 1, h => by
    obtain ⟨l, hl, hq⟩ := choose_list n (fun i hi => h i (by omega))
    obtain ⟨a, ha⟩ := h n (by omega)
    refine ⟨l ++ [a], by simp [hl], fun i b hb => ?_⟩
    by_cases hi : i < l.length
    · rw [List.getElem?_append_left hi] at hb; exact hq i b hb
    · have : i = n := by
        have := (List.getElem?_eq_some_iff.1 hb).1
        simp at this; omega
      subst this
      rw [List.getElem?_append_right (by omega)] at hb
      simp [hl] at hb
      subst hb; exact ha
theorem sum_range {α : Type} (m : α → Nat) : ∀ (l : List α) (g : Nat → Nat), (∀ (i : Nat) (a : α), l[i]? = some a → m a ≤ g i) → (l.map m).sum ≤ ((List.range l.length).map g).sum
  | [], _, _ => by simp
  | a :: l, g, h => by
    have h1 := h 0 a rfl
    have h2 := sum_range m l (fun i => g (i + 1)) (fun i b hb => h (i + 1) b (by simpa using hb))
    rw [List.length_cons, List.range_succ_eq_map, List.map_cons, List.map_cons, List.sum_cons, List.sum_cons, List.map_map]
    have h3 : ((List.range l.length).map (g ∘ Nat.succ)).sum = ((List.range l.length).map fun i => g (i + 1)).sum := rfl
    omega
theorem opn_slice {α : Type} {d : Kd α} {m : α → Nat} (ht : P.underlying t = some (.slice e)) (hs : P.cellsOf t = 1) (he : Opn P e d m) : Opn P t (Kd.slice e d) (ms m) := ⟨hs, fun {H enc w base spare held fuel cs x} h => by
  rcases open_slice ht h with ⟨rfl, rfl⟩ | ⟨a, len, cap, n, k, D, Pl, rfl, hb, hl, hm, hn, rfl, hel⟩
  · exact ⟨[], ⟨none, 0, rfl, by simp, Kd.C_nil d w⟩, by simp [ms, Rows.uptoBulk]⟩
  · have hln : len ≤ n := by rw [hn]; split <;> omega
    obtain ⟨l, hll, hq⟩ := choose_list (Q := fun i a0 => ∃ cs', w.cells? base (a.add (i * P.cellsOf e)) (P.cellsOf e) = some cs' ∧ d.K w a0 cs' ∧ m a0 ≤ Rows.uptoBulk (D i)) len (fun i hi => by
      obtain ⟨cs', h1, h2⟩ := hel i (by omega)
      obtain ⟨a0, h3, h4⟩ := he.opn h2
      exact ⟨a0, cs', h1, h3, h4⟩)
    refine ⟨l, ⟨some a, cap, by rw [hll], by omega, ⟨rfl, by unfold maxLen at hm; omega, fun _ => ⟨a, rfl, fun j p hj => ?_⟩⟩⟩, ?_⟩
    · obtain ⟨cs', h1, h2, _⟩ := hq j p hj
      obtain ⟨h3, h4⟩ := cells_some h1
      refine ⟨cs', by rw [h3, he.size], h2, fun i u hu => ?_⟩
      have := h4 i u hu
      rwa [Deep.add_add, he.size] at this
    · have h1 := sum_range m l (fun i => Rows.uptoBulk (D i)) (fun i a0 hi => by obtain ⟨_, _, _, h⟩ := hq i a0 hi; exact h)
      rw [hll] at h1
      simp only [ms, Rows.uptoBulk, bulk_all, List.map_map]
      have h2 : ((List.range len).map (Rows.uptoBulk ∘ D)).sum = ((List.range len).map fun i => Rows.uptoBulk (D i)).sum := rfl
      omega⟩
theorem opn_arr {α : Type} {d : Kd α} {m : α → Nat} {n : Nat} (hs0 : 0 < d.sz) (ht : P.underlying t = some (.array n e)) (hs : P.cellsOf t = n * d.sz) (he : Opn P e d m) : Opn P t (Kd.arr n d hs0) (ms m) := ⟨hs, fun {H enc w base spare held fuel cs x} h => by
  obtain ⟨xs, k, _, rfl, hl, hxl, hel⟩ := DataW.trod_array ht h
  obtain ⟨l, hll, hq⟩ := choose_list (Q := fun i a0 => ∃ y, xs[i]? = some y ∧ d.K w a0 ((cs.drop (i * d.sz)).take d.sz) ∧ m a0 ≤ Rows.uptoBulk y.1) n (fun i hi => by
    have h1 := hel i hi
    rw [List.getElem?_eq_getElem (by omega), he.size] at h1
    obtain ⟨a0, h3, h4⟩ := he.opn h1
    exact ⟨a0, _, List.getElem?_eq_getElem (by omega), h3, h4⟩)
  refine ⟨l, ⟨hll, by rw [hl, hs, hll], fun j p hj => ?_⟩, ?_⟩
  · obtain ⟨_, _, h2, _⟩ := hq j p hj; exact h2
  · have h1 := sum_range m l (fun i => ((xs[i]?).map fun y => Rows.uptoBulk y.1).getD 0) (fun i a0 hi => by obtain ⟨y, h0, _, h⟩ := hq i a0 hi; simp only [h0, Option.map_some, Option.getD_some]; exact h)
    have h2 : ((List.range l.length).map fun i => ((xs[i]?).map fun y => Rows.uptoBulk y.1).getD 0) = xs.map fun y => Rows.uptoBulk y.1 := by
      apply List.ext_getElem
      · simp; omega
      · intro i h1 h2; simp at h1 h2; simp [h2]
    rw [h2] at h1
    simp only [ms, Rows.uptoBulk, bulk_all, List.map_map]
    have h3 : (xs.map (Rows.uptoBulk ∘ fun x => x.1)).sum = (xs.map fun y => Rows.uptoBulk y.1).sum := rfl
    omega⟩
/-- the fields of a struct from cell o on -/
structure OpnF (P : Program) (fs : List Field) (o : Nat) {α : Type} (d : Kd α) (m : α → Nat) : Prop where
  opn : ∀ {H : Type} {enc : TypeId × Value → H} {w : World} {base : Nat} {spare : Nat → Bool} {held : Bool} {fuel : Nat} {cs : List Value} {xs : List (DataW H × List MemPlace)},
    cs.length = o + d.sz → xs.length = fs.length → (∀ (i : Nat) (f : Field), fs[i]? = some f → DataW.trod enc P w base spare held fuel f.type ((cs.drop f.offset).take (P.cellsOf f.type)) = xs[i]?) →
    ∃ a, d.K w a (cs.drop o) ∧ m a ≤ (xs.map fun x => Rows.uptoBulk x.1).sum
theorem opnF_one {f : Field} {o : Nat} {α : Type} {d : Kd α} {m : α → Nat} (ho : f.offset = o) (h : Opn P f.type d m) : OpnF P [f] o d m := ⟨fun {H enc w base spare held fuel cs xs} hl hx hf => by
  obtain ⟨x, rfl⟩ : ∃ x, xs = [x] := by match xs, hx with | [x], _ => exact ⟨x, rfl⟩
  have h1 := hf 0 f rfl
  rw [ho, h.size, List.take_of_length_le (by rw [List.length_drop]; omega)] at h1
  obtain ⟨a, h2, h3⟩ := h.opn (x := x) (by simpa using h1)
  exact ⟨a, h2, by simpa using h3⟩⟩
theorem opnF_cons {f : Field} {fs : List Field} {o : Nat} {α β : Type} {d : Kd α} {d' : Kd β} {m : α → Nat} {m' : β → Nat} (ho : f.offset = o) (h : Opn P f.type d m) (hr : OpnF P fs (o + d.sz) d' m') : OpnF P (f :: fs) o (Kd.pair d d') (fun x => m x.1 + m' x.2) := ⟨fun {H enc w base spare held fuel cs xs} hl hx hf => by
  obtain ⟨x, ys, rfl⟩ : ∃ x ys, xs = x :: ys := by match xs, hx with | x :: ys, _ => exact ⟨x, ys, rfl⟩
  have hl' : cs.length = o + (d.sz + d'.sz) := hl
  have h1 := hf 0 f rfl
  rw [ho, h.size] at h1
  obtain ⟨a, h2, h3⟩ := h.opn (x := x) (by simpa using h1)
  obtain ⟨b, h4, h5⟩ := hr.opn (cs := cs) (xs := ys) (by omega) (by simpa using hx) (fun i g hg => by have := hf (i + 1) g (by simpa using hg); simpa using this)
  refine ⟨(a, b), ⟨_, _, ?_, h2, h4⟩, ?_⟩
  · rw [← List.drop_drop, List.take_append_drop]
  · simp only [List.map_cons, List.sum_cons]; omega⟩
theorem opn_struct {fs : Array Field} {α : Type} {d : Kd α} {m : α → Nat} (ht : P.underlying t = some (.struct fs)) (hs : P.cellsOf t = d.sz) (h : OpnF P fs.toList 0 d m) : Opn P t d (fun x => m x + 1) := ⟨hs, fun {H enc w base spare held fuel cs x} hx => by
  obtain ⟨xs, n, _, rfl, hl, hlen, hf⟩ := DataW.trod_struct ht hx
  obtain ⟨a, h1, h2⟩ := h.opn (cs := cs) (xs := xs) (by omega) (by simpa using hlen) (fun i f hi => hf i f (by simpa using hi))
  refine ⟨a, by simpa using h1, ?_⟩
  simp only [Rows.uptoBulk, bulk_all, List.map_map]
  have h3 : (xs.map (Rows.uptoBulk ∘ fun x => x.1)).sum = (xs.map fun y => Rows.uptoBulk y.1).sum := rfl
  omega⟩
end Go.Proofs.Ytceldlijbehkdaa.O
