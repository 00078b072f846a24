/- stillageref16.Build. -/
import Derived.Test.YtceldlijbehkdaaSgBackP
import Derived.Test.YtceldlijbehkdaaSgEnd
set_option linter.unusedVariables false
set_option linter.unusedSimpArgs false
namespace Go.Proofs.Ytceldlijbehkdaa.Sg
open Go.RowKit Go.Proofs.YtceldlijbehkdaaW.PrintWords Go.Proofs.Ytceldlijbehkdaa.B Go.Proofs.Ytceldlijbehkdaa.Fx Go.Proofs.Ytceldlijbehkdaa.Fr Go.Proofs.Ytceldlijbehkdaa.O Go.Proofs.Ytceldlijbehkdaa.Rc Go.Proofs.Ytceldlijbehkdaa.Bt
def kL : Kd (List RecV) := Kd.slice 27 kRec
def RdLL (w : World) (A : Option Addr) (ls : List (List RecV)) : Prop := kL.C w A ls.length ls
theorem RdLL.below {w w1 : World} {A : Option Addr} {ls : List (List RecV)} (h : RdLL w A ls) (hb : Below w.heap.size w w1) : RdLL w1 A ls := Kd.C_below h hb
def rl (ls : List (List RecV)) (i : Nat) : List RecV := ls.getD i []
theorem RdLL.walk {w : World} {A : Option Addr} {ls : List (List RecV)} (h : RdLL w A ls) (i : Nat) (hi : i < ls.length) :
    ∃ ad A2 c2, A = some ad ∧ w.cell? (ad.add i) = some (.slice A2 (rl ls i).length c2) ∧ (rl ls i).length ≤ c2 ∧ RdR w A2 (rl ls i) := by
  obtain ⟨ad, c, e, hl, hK, hc⟩ := Kd.C_get h [] (i : Int) (by omega) (by omega)
  rw [Int.toNat_natCast] at hK hc
  obtain ⟨A2, c2, rfl, h1, h2⟩ := hK
  have h0 := hc 0 _ rfl
  rw [show i * kL.sz + 0 = i by show i * 1 + 0 = i; omega] at h0
  exact ⟨ad, A2, c2, e, h0, h1, h2⟩
/-- what is built, or why not -/
def bldE (n : Int) (s : Nat) (ls : List (List RecV)) (sl : Bool) : Nat :=
  if rightE 7 0 [] n 0 ≠ 0 then rightE 7 0 [] n 0
  else if batsE ((s + 1) % 18446744073709551616) ls ≠ 0 then batsE ((s + 1) % 18446744073709551616) ls
  else if sl then rightE 8 0 [] (manyL ls) ((headR n s ++ batsB ((s + 1) % 18446744073709551616) ls).length : Nat) else 0
def bldB (n : Int) (s : Nat) (ls : List (List RecV)) (sl : Bool) : List UInt8 :=
  if bldE n s ls sl = 0 then headR n s ++ batsB ((s + 1) % 18446744073709551616) ls ++ (if sl then footR (manyL ls) ((headR n s ++ batsB ((s + 1) % 18446744073709551616) ls).length : Nat) (batsN ((s + 1) % 18446744073709551616) ls) else []) else []
theorem rl_take (ls : List (List RecV)) (k : Nat) (h : k < ls.length) : ls.take (k + 1) = ls.take k ++ [rl ls k] := by
  rw [List.take_succ_eq_append_getElem h]; simp [rl, h]
theorem batsB_app : ∀ (a b : List (List RecV)) (q : Nat), batsB q (a ++ b) = batsB q a ++ batsB (batsN q a) b
  | [], b, q => by simp [batsB, batsN]
  | l :: a, b, q => by rw [List.cons_append, batsB, batsB, batsN, batsB_app a b, List.append_assoc]
theorem batsN_app : ∀ (a b : List (List RecV)) (q : Nat), batsN q (a ++ b) = batsN (batsN q a) b
  | [], b, q => rfl
  | l :: a, b, q => by rw [List.cons_append, batsN, batsN, batsN_app a b]
theorem batsE_app : ∀ (a b : List (List RecV)) (q : Nat), batsE q a = 0 → batsE q (a ++ b) = batsE (batsN q a) b
  | [], b, q, _ => rfl
  | l :: a, b, q, h => by
    unfold batsE at h
    by_cases h0 : batE q l = 0
    · rw [if_neg (by simp [h0])] at h
      rw [List.cons_append, batsE, if_neg (by simp [h0]), batsN, batsE_app a b _ h]
    · rw [if_pos h0] at h; exact absurd h h0
theorem manyL_app : ∀ (a b : List (List RecV)), manyL (a ++ b) = manyL a + manyL b
  | [], b => by simp [manyL]
  | l :: a, b => by rw [List.cons_append, manyL, manyL, manyL_app a b, Nat.add_assoc]
theorem sum_mem : ∀ (l : List Nat) (x : Nat), x ∈ l → x ≤ l.sum
  | [], x, h => by simp at h
  | y :: l, x, h => by
    rw [List.sum_cons]
    rcases List.mem_cons.1 h with rfl | h
    · omega
    · have := sum_mem l x h; omega
theorem ms_row {ls : List (List RecV)} (h : ms (ms mRec) ls ≤ 1048576) (k : Nat) : ms mRec (rl ls k) ≤ 1048576 := by
  by_cases hk : k < ls.length
  · have h1 : rl ls k ∈ ls := by unfold rl; simp [hk]
    have h2 := sum_mem (ls.map (ms mRec)) (ms mRec (rl ls k)) (List.mem_map_of_mem h1)
    unfold ms at h h2 ⊢
    omega
  · have : rl ls k = [] := by unfold rl; simp [List.getElem?_eq_none (by omega : ls.length ≤ k)]
    rw [this]; decide
theorem batB_le {l : List RecV} (s : Nat) (hd : ∀ x ∈ l, (vD x).length = 32) (hn : l.length ≤ 26886) : (batB s l).length ≤ 65557 * l.length + 29 := by
  have h := allR_le l s hd
  unfold batB
  split
  · rw [List.length_append, cmt_len (by omega) (by omega)]; omega
  · simp
theorem batsB_le : ∀ (ls : List (List RecV)) (q : Nat), (∀ l ∈ ls, (∀ x ∈ l, (vD x).length = 32) ∧ l.length ≤ 26886) → (batsB q ls).length ≤ 65557 * manyL ls + 29 * ls.length
  | [], q, _ => by simp [batsB]
  | l :: ls, q, h => by
    have h1 := batB_le (l := l) q (h l (by simp)).1 (h l (by simp)).2
    have h2 := batsB_le ls (q + l.length + 1) (fun x hx => h x (by simp [hx]))
    rw [batsB, manyL, List.length_append, List.length_cons]; omega
theorem many_le : ∀ (ls : List (List RecV)), (∀ l ∈ ls, ∀ x ∈ l, (vD x).length = 32) → 39 * manyL ls + ls.length ≤ (ls.map (ms mRec)).sum
  | [], _ => by simp [manyL]
  | l :: ls, h => by
    have h1 := ms_ge l (h l (by simp))
    have h2 := many_le ls (fun x hx => h x (by simp [hx]))
    have h3 : ms mRec l = (l.map mRec).sum + 1 := rfl
    rw [manyL, List.length_cons, List.map_cons, List.sum_cons, h3]; omega
theorem rl_mem {ls : List (List RecV)} {k : Nat} (h : k < ls.length) : rl ls k ∈ ls := by unfold rl; simp [h]
theorem RdLL.d32 {w : World} {A : Option Addr} {ls : List (List RecV)} (h : RdLL w A ls) : ∀ l ∈ ls, ∀ x ∈ l, (vD x).length = 32 := by
  intro l hl
  obtain ⟨i, hi, rfl⟩ := List.getElem_of_mem hl
  obtain ⟨ad, A2, c2, -, -, -, h2⟩ := h.walk i hi
  have h3 := h2.d32
  rwa [show rl ls i = ls[i] by unfold rl; simp [hi]] at h3
/-- the end -/
def Built (n : Int) (s : Nat) (ls : List (List RecV)) (sl : Bool) (w : World) (e : Ending) (w' : World) : Prop := ∃ v, e = .returned (.tuple #[v, .int .i64 (bldE n s ls sl)]) ∧ Buf w' w.heap.size v (bldB n s ls sl) ∧ Below w.heap.size w w'
end Go.Proofs.Ytceldlijbehkdaa.Sg
