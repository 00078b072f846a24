/- copy into the middle of bytes of the call's own, in a region that draws its order. -/
import Derived.Test.YtceldlijbehkdaaBase
import Derived.Laws.CopyOwn
import Derived.Deep.RegionLaw
set_option linter.unusedVariables false
set_option linter.unusedSimpArgs false
namespace Go.Proofs.Ytceldlijbehkdaa.B
open Go.RowKit Go.Proofs.YtceldlijbehkdaaW.PrintWords

/-- the row of bytes of one's own, whole -/
theorem Own.row {w : World} {base : Nat} {v : Value} {l : List UInt8} (h : Own w base v l) (hp : 0 < l.length) : ∃ (g cap : Nat) (cur : List Value), v = .slice (some ⟨g, 0, none⟩) l.length cap ∧ base ≤ g ∧ w.heap[g]? = some (.cells cur.toArray 5 (0, 0)) ∧ l.length ≤ cap ∧ cap ≤ maxLen ∧ cur.length = cap ∧ cur.take l.length = encs encB l := by
  rcases (Kd.own_of_R h).2 with ⟨-, h0⟩ | ⟨g, cap, cur, hv, hb, hg, hn, hm, hs, ht⟩
  · omega
  · exact ⟨g, cap, cur.toList, hv, hb, by simpa using hg, hn, hm, by simpa using hs, by simpa using ht⟩
/-- ys laid over xs from off on -/
def over (xs : List UInt8) (off : Nat) (ys : List UInt8) : List UInt8 := xs.take off ++ (ys ++ xs.drop (off + ys.length))
theorem over_len {xs : List UInt8} {off : Nat} {ys : List UInt8} (h : off + ys.length ≤ xs.length) : (over xs off ys).length = xs.length := by
  unfold over; simp only [List.length_append, List.length_take, List.length_drop]; omega
theorem Own.of_splice {w' : World} {base g cap : Nat} {cur : List Value} {l ys : List UInt8} {off : Nat} (hb : base ≤ g) (hn : l.length ≤ cap) (hm : cap ≤ maxLen) (hc : cur.length = cap) (ht : cur.take l.length = encs encB l) (hf : off + ys.length ≤ l.length)
    (hg : w'.heap[g]? = some (.cells (splice cur off (encs encB ys)).toArray 5 (0, 0))) : Own w' base (.slice (some ⟨g, 0, none⟩) l.length cap) (over l off ys) := by
  have hle : (encs encB ys).length = ys.length := by simp [encs]
  have hlen : (over l off ys).length = l.length := over_len hf
  rw [← hlen]
  refine Kd.R_of_own ⟨by simp [encs], .inr ⟨g, cap, _, rfl, hb, hg, by omega, hm, ?_, ?_⟩⟩ (fun _ _ => trivial)
  · rw [List.size_toArray, length_splice _ _ _ (by omega), hc, Nat.mul_one]
  · rw [Nat.mul_one, hlen]
    show (splice cur off (encs encB ys)).take l.length = encs encB (over l off ys)
    apply List.ext_getElem?
    intro i
    have htk : ∀ j, j < l.length → cur[j]? = (l[j]?).map encB := by
      intro j hj
      have h1 : (cur.take l.length)[j]? = (encs encB l)[j]? := by rw [ht]
      rw [List.getElem?_take_of_lt hj] at h1
      rw [h1]; simp [encs]
    by_cases hi : i < l.length
    · rw [List.getElem?_take_of_lt hi]
      unfold splice over
      simp only [encs, List.map_append, List.getElem?_append, List.length_take, List.length_map, List.getElem?_map, List.getElem?_drop, List.map_take, List.map_drop]
      have e1 : min off cur.length = off := by omega
      have e2 : min off l.length = off := by omega
      rw [e1, e2]
      by_cases h1 : i < off
      · rw [if_pos h1, if_pos h1, List.getElem?_take_of_lt h1, List.getElem?_take_of_lt h1, htk i hi, List.getElem?_map]
      · rw [if_neg h1, if_neg h1]
        by_cases h2 : i - off < ys.length
        · rw [if_pos h2, if_pos h2]
        · rw [if_neg h2, if_neg h2, htk _ (by omega)]
    · rw [List.getElem?_take_eq_none (by omega), List.getElem?_eq_none]
      simp [encs, hlen]; omega
/-- what is copied -/
theorem Rd.src {w : World} {ad : Addr} {d : List UInt8} (h : Rd w (some ad) d) : ∀ j v, (encs encB d)[j]? = some v → w.cell? (ad.add j) = some v := by
  intro j v hv
  have hj : j < d.length := by
    have := (List.getElem?_eq_some_iff.1 hv).1; simpa [encs] using this
  obtain ⟨ad', h1, h2⟩ := h.at_ j hj
  injection h1 with h1
  subst h1
  rw [h2]
  rw [← hv]
  simp [encs, hj, encB, B.bt]
/-- b[lo:] of a row of one's own -/
theorem cutOwn {g n c : Nat} (lo : Int) (h0 : 0 ≤ lo) (h1 : lo ≤ n) (hc : n ≤ c) (hne : lo.toNat < c) (W : World) :
    (Instr.slice 22 (.slice (some ⟨g, 0, none⟩) n c) (some (.int .i64 lo)) none none).run Try.prog W = .ok (.slice (some ⟨g, lo.toNat, none⟩) (n - lo.toNat) (c - lo.toNat)) W := by
  obtain ⟨i0, hi0, hs⟩ := infoU8'
  rw [cut_from (P := Try.prog) 22 5 .i64 undB hi0 1 hs (some ⟨g, 0, none⟩) n c lo h0 h1 W, if_neg (by omega)]
  rw [Nat.mul_one]
  show Result.ok (Value.slice (some ((⟨g, 0, none⟩ : Addr).add lo.toNat)) _ _) W = _
  rw [show (⟨g, 0, none⟩ : Addr).add lo.toNat = ⟨g, lo.toNat, none⟩ from add_plain _ _]
end Go.Proofs.Ytceldlijbehkdaa.B
