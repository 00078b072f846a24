/- A buffer of bytes: a row of the call's own, or a conversion's. -/
import Derived.Test.YtceldlijbehkdaaBaseS
import Derived.Test.YtceldlijbehkdaaCopyAt
import Derived.Deep.RegionLawGrows
set_option linter.unusedVariables false
set_option linter.unusedSimpArgs false
namespace Go.Proofs.Ytceldlijbehkdaa.B
open Go.RowKit Go.Proofs.YtceldlijbehkdaaW.PrintWords

def Buf (W : World) (base : Nat) (v : Value) (l : List UInt8) : Prop :=
  (v = .slice none 0 0 ∧ l = []) ∨ ∃ (b cap : Nat) (cur : Array Value) (fr : Nat × Nat), v = .slice (some ⟨b, 0, none⟩) l.length cap ∧ base ≤ b ∧ W.heap[b]? = some (Obj.cells cur 5 fr) ∧ (fr = (0, 0) ∨ fr = (cap, cap + 1)) ∧ l.length ≤ cap ∧ cap ≤ maxLen ∧ cur.size = cap ∧ cur.toList.take l.length = encs encB l
theorem Buf.of_own {W : World} {base : Nat} {v : Value} {l : List UInt8} (h : Own W base v l) : Buf W base v l := by
  rcases (Kd.own_of_R h).2 with ⟨rfl, h0⟩ | ⟨g, cap, cur, hv, hb, hg, hn, hm, hs, ht⟩
  · exact .inl ⟨rfl, List.eq_nil_of_length_eq_zero h0⟩
  · exact .inr ⟨g, cap, cur, (0, 0), hv, hb, hg, .inl rfl, hn, hm, by simpa using hs, by simpa using ht⟩
theorem Buf.reads {W : World} {base : Nat} {v : Value} {l : List UInt8} (h : Buf W base v l) : ∃ A c, v = .slice A l.length c ∧ l.length ≤ c ∧ Rd W A l := by
  rcases h with ⟨rfl, rfl⟩ | ⟨b, cap, cur, fr, hv, hb, hg, hf, hn, hm, hs, ht⟩
  · exact ⟨none, 0, rfl, Nat.le_refl _, Rd.nil _⟩
  · refine ⟨some ⟨b, 0, none⟩, cap, hv, hn, Kd.C_of_reads (enc := encB) (d := (0 : UInt8)) ⟨rfl, by unfold maxLen at hm; omega, fun _ => ⟨_, rfl, fun j hj => ?_⟩⟩⟩
    rw [show (⟨b, 0, none⟩ : Addr).add j = ⟨b, j, none⟩ from add_plain _ _, cell_of_row _ _ _ _ _ _ hg]
    have h1 : (cur.toList.take l.length)[j]? = (encs encB l)[j]? := by rw [ht]
    rw [List.getElem?_take_of_lt hj, encs_get (d := (0 : UInt8)) l j hj] at h1
    simpa using h1
theorem Buf.move {W W1 : World} {base : Nat} {v : Value} {l : List UInt8} (h : Buf W base v l) (hm : ∀ (k : Nat) (cells : Array Value) (fr : Nat × Nat), W.heap[k]? = some (Obj.cells cells 5 fr) → W1.heap[k]? = W.heap[k]?) : Buf W1 base v l := by
  rcases h with h | ⟨b, cap, cur, fr, hv, hb, hg, r⟩
  · exact .inl h
  · exact .inr ⟨b, cap, cur, fr, hv, hb, (hm b cur fr hg).trans hg, r⟩
theorem Buf.below {W W1 : World} {base : Nat} {v : Value} {l : List UInt8} (h : Buf W base v l) (hb : Below W.heap.size W W1) : Buf W1 base v l :=
  h.move (fun k cells fr hk => hb.block k (blk_lt hk))
theorem Buf.lower {W : World} {base base' : Nat} {v : Value} {l : List UInt8} (h : Buf W base v l) (hb : base' ≤ base) : Buf W base' v l := by
  rcases h with h | ⟨b, cap, cur, fr, hv, hb', r⟩
  · exact .inl h
  · exact .inr ⟨b, cap, cur, fr, hv, by omega, r⟩
theorem Buf.set {W : World} {base : Nat} {v : Value} {l : List UInt8} (h : Buf W base v l) {g t : Nat} {cells : Array Value} (hb : W.heap[g]? = some (Obj.cells cells t (0, 0))) (ht : 5 ≠ t) (j : Nat) (u : Value) : Buf (W.setCell ⟨g, j, none⟩ u) base v l :=
  h.move (fun k cs fr hk => Below.heap_setCell W ⟨g, j, none⟩ u k (by
    rintro rfl
    rw [hb] at hk
    injection hk with hk
    injection hk with _ hk
    exact ht hk.symm))
theorem setCells_mark {g : Nat} {e : TypeId} {fr : Nat × Nat} : ∀ (vs : List Value) (o : Nat) (w : World) (cur : Array Value), w.heap[g]? = some (Obj.cells cur e fr) → o + vs.length ≤ cur.size →
    ∃ cur', (w.setCells g o vs).heap[g]? = some (Obj.cells cur' e fr) ∧ cur'.size = cur.size ∧ cur'.toList = cur.toList.take o ++ vs ++ cur.toList.drop (o + vs.length)
  | [], o, w, cur, h, _ => ⟨cur, h, rfl, by simp⟩
  | v :: r, o, w, cur, h, hl => by
    have h2 : (w.setCell ⟨g, o, none⟩ v).heap[g]? = some (Obj.cells (cur.setIfInBounds o v) e fr) := by simp [World.setCell, Array.getElem?_modify, h]
    simp only [List.length_cons] at hl
    obtain ⟨cur', h3, h4, h5⟩ := setCells_mark r (o + 1) (w.setCell ⟨g, o, none⟩ v) _ h2 (by simp; omega)
    refine ⟨cur', h3, by rw [h4]; simp, ?_⟩
    rw [h5, Array.toList_setIfInBounds]
    have ho : o < cur.toList.length := by rw [Array.length_toList]; omega
    rw [List.take_set, List.drop_set_of_lt (by omega)]
    simp only [List.length_cons]
    rw [show o + 1 + r.length = o + (r.length + 1) by omega]
    congr 1
    rw [List.take_succ_eq_append_getElem ho, List.set_append_right _ _ (by rw [List.length_take]; omega)]
    have ho' : o < cur.size := by omega
    simp [Nat.min_eq_left (Nat.le_of_lt ho')]
section
variable {ops : Array Oper} {o : Oper} {a : Act} {Q : Exit → Act → World → Prop} {Kc : Act → World → Prop} {w0 W : World} {E : Prop}
/-- append(v, ys...) onto a buffer, in a region that draws -/
theorem appBufS (base : Nat) (hgd : o.guard = none) (s x : Operand) (ho : o.op = .call { callee := .builtin .append, args := #[s, x], argTypes := #[22, 22] })
    (v : Value) (xs ys : List UInt8) (ad : Addr) (m c : Nat) (hs : a.eval s = v) (hx : a.eval x = .slice (some ad) m c) (hm : m = ys.length) (hp : 0 < ys.length) (HO : Buf W base v xs) (HR : Rd W (some ad) ys) (HB : Below base w0 W) (hbase : base ≤ W.heap.size) (hl : xs.length + ys.length ≤ 140737488355328)
    (h : ∀ A1 c1 w1, Buf w1 base (.slice A1 (xs ++ ys).length c1) (xs ++ ys) → Below base w0 w1 → (∀ (k : Nat) (t : TypeId) (cells : Array Value), 5 ≠ t → W.heap[k]? = some (Obj.cells cells t (0, 0)) → w1.heap[k]? = W.heap[k]?) → Kc (a.put o.dst (.slice A1 (xs ++ ys).length c1)) w1) :
    if Region.wanted o (yielded ops a.tmps) = true then Oper.wp Try.prog o a W Kc Q else E := by
  subst hm
  obtain ⟨i0, hi, hzz⟩ := Option.map_eq_some_iff.1 infoU8
  simp only [Prod.mk.injEq] at hzz
  obtain ⟨hz0, hz1, hz2⟩ := hzz
  have hsl : (xs ++ ys).length = xs.length + ys.length := List.length_append
  have hnews : ∀ j u, (encs encB ys)[j]? = some u → W.cell? (ad.add j) = some u := HR.src
  have hone : ∀ u ∈ encs encB ys, u.oneCell' = true := by
    intro u hu
    obtain ⟨y, -, rfl⟩ := List.mem_map.1 hu
    rfl
  have grow : ∀ (ao : Option Addr) (cap : Nat) (hv : v = .slice ao xs.length cap) (hnone : ao = none → xs.length = 0 ∧ cap = 0) (hold : ∀ b, ao = some b → ∀ j u, (encs encB xs)[j]? = some u → W.cell? (b.add j) = some u) (hfull : cap < xs.length + ys.length), if Region.wanted o (yielded ops a.tmps) = true then Oper.wp Try.prog o a W Kc Q else E := by
    intro ao cap hv hnone hold hfull
    refine step_append_grows hgd s x 22 ho 5 i0 (.int .u8 0) 1 1 undB hi hz0 hz1 hz2 rfl (by decide) ao xs.length cap (encs encB xs) (hs.trans hv) hnone (by simp [encs]) hold ad ys.length c (encs encB ys) hx (by simp [encs]) hnews hone hfull (by unfold maxLen; omega) (by omega) ?_
    intro v' w' hown hg
    have hO : Own w' W.heap.size v' (xs ++ ys) := Kd.R_of_own (by rw [encs_append, hsl]; exact hown) (fun _ _ => trivial)
    obtain ⟨A1, c1, rfl, -, -⟩ := hO.reads
    exact h A1 c1 w' ((Buf.of_own hO).lower hbase) (pw_below_grown HB none hbase hg (fun k hk => by cases hk)) (fun k t cells _ hk => hg.block k (blk_lt hk) (by simp))
  rcases HO with ⟨rfl, rfl⟩ | ⟨b, cap, cur, fr, hv, hb, hg, hf, hn, hmx, hsz, ht⟩
  · exact grow none 0 rfl (fun _ => ⟨rfl, rfl⟩) (fun b hb => by cases hb) (by simpa using hp)
  · by_cases hroom : xs.length + ys.length ≤ cap
    · have hle : (encs encB ys).length = ys.length := by simp [encs]
      obtain ⟨cur', q1, q2, q3⟩ := setCells_mark (encs encB ys) (xs.length) W cur hg (by rw [hle, hsz]; exact hroom)
      refine step_append_room hgd s x 22 ho 5 i0 1 undB hi hz1 b 0 xs.length cap (hs.trans hv) ad ys.length c (encs encB ys) hx (by simp [encs]) hnews hone hroom (fun j hj => ?_) ?_
      · rw [hle] at hj
        have hj' : 0 + xs.length * 1 + j < cur.size := by omega
        refine ⟨?_, ?_⟩
        · rw [cell_of_row _ _ _ _ _ _ hg]
          simp only [Array.getElem?_eq_getElem hj', Option.isSome_some]
        · simp only [World.frozen?, hg]
          rcases hf with rfl | rfl
          · simp
          · simp only [Bool.and_eq_false_iff, decide_eq_false_iff_not]; left; omega
      · rw [show 0 + xs.length * 1 = xs.length by omega, ← hsl]
        refine h (some ⟨b, 0, none⟩) cap _ (.inr ⟨b, cap, cur', fr, rfl, hb, q1, hf, by omega, hmx, by rw [q2, hsz], ?_⟩) ?_ ?_
        · rw [q3, encs_append, hsl]
          have hl1 : (cur.toList.take xs.length ++ encs encB ys).length = xs.length + ys.length := by
            have hc : cur.toList.length = cap := by rw [← hsz]; simp
            rw [List.length_append, List.length_take, hc, hle]; omega
          rw [List.take_left' hl1, ht]
        · obtain ⟨s1, s2, s3, s4⟩ := setCells_same b (encs encB ys) xs.length W
          exact HB.trans ⟨s1, s2, s3, by rw [s4]; exact Nat.le_refl _, fun k hk => setCells_far _ _ k (by omega)⟩
        · intro k t cells hne hk
          refine setCells_far _ _ k ?_
          rintro rfl
          rw [hg] at hk
          injection hk with hk
          injection hk with _ hk
          exact hne hk
    · exact grow (some ⟨b, 0, none⟩) cap hv (fun h => by cases h) (fun b' hb' => by
        injection hb' with hb'
        subst hb'
        have hr : Rd W (some ⟨b, 0, none⟩) xs := by
          obtain ⟨A', c', e', -, hr⟩ := Buf.reads (W := W) (base := base) (v := v) (l := xs) (.inr ⟨b, cap, cur, fr, hv, hb, hg, hf, hn, hmx, hsz, ht⟩)
          rw [hv] at e'
          injection e' with e1
          rw [e1]; exact hr
        exact hr.src) (by omega)
end
end Go.Proofs.Ytceldlijbehkdaa.B
