/- stillageref28.Victim: the walk. -/
import Derived.Test.YtkgbimkjpllakaaLdVicW
set_option linter.unusedVariables false
set_option linter.unusedSimpArgs false
namespace Go.Proofs.Ytkgbimkjpllakaa.Ld
open Go.RowKit Go.Proofs.YtkgbimkjpllakaaW.PrintWords Go.Proofs.Ytkgbimkjpllakaa.B Go.Proofs.Ytkgbimkjpllakaa.O Go.Proofs.Ytkgbimkjpllakaa.Sc
/-- the least so far -/
def St (m : List Lo) (b : Nat) (s : Int) (f : Bool) : Prop := (f = false ∧ m = [] ∧ s = 0) ∨ (f = true ∧ b < 18446744073709551616 ∧ ∃ k, k < m.length ∧ s = (lo m k).1.toInt ∧ b = shN (lo m k) ∧ (∀ j, j < m.length → Flo.pl b ≤ Flo.pl (shN (lo m j))) ∧ ∀ j, j < k → Flo.pl b < Flo.pl (shN (lo m j)))
theorem St.vic {m : List Lo} {b : Nat} {s : Int} {f : Bool} (h : St m b s f) : IsVic m s := by
  rcases h with ⟨-, h1, h2⟩ | ⟨-, -, k, hk, hs, hb, h1, h2⟩
  · exact .inl ⟨h1, h2⟩
  · subst hb; exact .inr ⟨k, hk, hs, h1, h2⟩
theorem lo_left {m : List Lo} {x : Lo} {j : Nat} (h : j < m.length) : lo (m ++ [x]) j = lo m j := by
  unfold lo; rw [List.getD_eq_getElem?_getD, List.getD_eq_getElem?_getD, List.getElem?_append_left h]
theorem lo_last {m : List Lo} {x : Lo} : lo (m ++ [x]) m.length = x := by
  unfold lo; rw [List.getD_eq_getElem?_getD, List.getElem?_append_right (Nat.le_refl _)]; simp
theorem St.first {m : List Lo} {b : Nat} {s : Int} {x : Lo} (h : St m b s false) (hx : shN x < 18446744073709551616) : St (m ++ [x]) (shN x) x.1.toInt true := by
  rcases h with ⟨-, h1, -⟩ | ⟨h, -⟩
  · subst h1
    refine .inr ⟨rfl, hx, 0, by simp, rfl, rfl, fun j hj => ?_, fun j hj => by omega⟩
    have : j = 0 := by simpa using hj
    subst this; exact Int.le_refl _
  · cases h
theorem St.less {m : List Lo} {b : Nat} {s : Int} {x : Lo} (h : St m b s true) (hx : shN x < 18446744073709551616) (hl : Flo.pl (shN x) < Flo.pl b) : St (m ++ [x]) (shN x) x.1.toInt true := by
  rcases h with ⟨h, -⟩ | ⟨-, -, k, hk, hs, hb, h1, h2⟩
  · cases h
  · refine .inr ⟨rfl, hx, m.length, by simp, by rw [lo_last], by rw [lo_last], fun j hj => ?_, fun j hj => ?_⟩
    · rcases Nat.lt_or_ge j m.length with h | h
      · rw [lo_left h]; have := h1 j h; omega
      · have : j = m.length := by simp at hj; omega
        subst this; rw [lo_last]; exact Int.le_refl _
    · rw [lo_left hj]; have := h1 j hj; omega
theorem St.keep {m : List Lo} {b : Nat} {s : Int} {x : Lo} (h : St m b s true) (hl : ¬ Flo.pl (shN x) < Flo.pl b) : St (m ++ [x]) b s true := by
  rcases h with ⟨h, -⟩ | ⟨-, hb0, k, hk, hs, hb, h1, h2⟩
  · cases h
  · refine .inr ⟨rfl, hb0, k, by simp; omega, by rw [lo_left hk]; exact hs, by rw [lo_left hk]; exact hb, fun j hj => ?_, fun j hj => ?_⟩
    · rcases Nat.lt_or_ge j m.length with h | h
      · rw [lo_left h]; exact h1 j h
      · have : j = m.length := by simp at hj; omega
        subst this; rw [lo_last]; omega
    · rw [lo_left (by omega)]; exact h2 j hj
theorem may_step {n : List Int64} {lim : Nat} {l : List Lo} {k : Nat} (hk : k < l.length) : mayL n lim (l.take (k + 1)) = mayL n lim (l.take k) ++ (if delB n lim (lo l k) = true then [] else [lo l k]) := by
  unfold mayL
  rw [List.take_succ_eq_append_getElem hk, List.filter_append, lo_getElem hk]
  congr 1
  cases hd : delB n lim l[k] <;> simp [hd]
set_option maxRecDepth 100000 in
set_option maxHeartbeats 3200000 in
theorem refvictim_any (A : Option Addr) (c : Nat) (l : List Lo) (lim : Nat) (An : Option Addr) (cn : Nat) (n : List Int64) (w : World) (hl : l.length ≤ 140737488355328) (hlim : lim < 18446744073709551616) (hr : RdL w A l) (hn : RdI w An n) :
    Calls Try.prog 33 #[.slice A l.length c, .float .f64 lim, .slice An n.length cn] w (VicE l n lim w) := by
  have HR := Lib.hid hr
  have HN := Lib.hid hn
  clear hr hn
  go_enter Try.func33, Try.ntmps33
  go_wp2_with fail
  go_loopw [7, 8, 9, 10] (fun b s f i wr => ∃ (k bb : Nat) (ss : Int) (ff : Bool), k ≤ l.length ∧ i = .int .i64 k ∧ b = .float .f64 bb ∧ s = .int .i64 ss ∧ f = .bool ff ∧ Hid (St (mayL n lim (l.take k)) bb ss ff) ∧ Hid (Below w.heap.size w wr)) (fun _ _ _ i _ => l.length - (intOf i).toNat)
  case atStart => exact ⟨0, 0, 0, false, by omega, rfl, rfl, rfl, rfl, .inl ⟨rfl, rfl, rfl⟩, Below.refl _ _⟩
  case round =>
    obtain ⟨k, bb, ss, ff, hk, rfl, rfl, rfl, rfl, HS, HB⟩ := hrel
    by_cases hlt : k < l.length
    · have hms := may_step (n := n) (lim := lim) hlt
      have HRk := Lib.hid (HR.out.below HB.out)
      obtain ⟨ad, rfl, e0, e1, e2⟩ := HRk.out.cells k hlt
      have HSH := Lib.hid (fun (W : World) => refshare_any (lo l k).2.2.toInt (lo l k).2.1.toInt W)
      have HIN := Lib.hid (fun (W : World) (h : RdI W An n) => refin_any An cn n (lo l k).1.toInt W h)
      have HSO := Lib.hid (fun r (h : delB n lim (lo l k) = false) (hi : IsShare (floatOfInt .f64 (lo l k).2.2.toInt) (floatOfInt .f64 (lo l k).2.1.toInt) r) => share_of h hi)
      have HLT := Lib.hid (fun (h : delB n lim (lo l k) = false) => shN_lt h)
      have HBO := Lib.hid (fun r (hi : IsShare (floatOfInt .f64 (lo l k).2.2.toInt) (floatOfInt .f64 (lo l k).2.1.toInt) r) => below_of hi hlim)
      have HDE := Lib.hid (show delB n lim (lo l k) = (inB n (lo l k).1.toInt || !belowB (floatOfInt .f64 (lo l k).2.2.toInt) (floatOfInt .f64 (lo l k).2.1.toInt) lim) from rfl)
      have HC := Lib.hid (fun (W : World) (h : Below wr.heap.size wr W) => (show W.cell? { block := (ad.add (k * 3)).block, off := (ad.add (k * 3)).off + 1 } = some (.int .i64 (lo l k).2.1.toInt) ∧ W.cell? { block := (ad.add (k * 3)).block, off := (ad.add (k * 3)).off + 2 } = some (.int .i64 (lo l k).2.2.toInt) from ⟨pw_cell_below h e1, pw_cell_below h e2⟩))
      have HC0 := Lib.hid (fun (W : World) (h : Below wr.heap.size wr W) => pw_cell_below h e0)
      have hk0 : (0 : Int) ≤ (k : Int) := by omega
      have hk1 : (k : Int) < (l.length : Int) := by omega
      generalize hx : lo l k = x at *
      generalize hx1 : x.2.1.toInt = x1 at *
      generalize hx2 : x.2.2.toInt = x2 at *
      generalize floatOfInt .f64 x1 = f1 at *
      generalize floatOfInt .f64 x2 = f2 at *
      generalize belowB f2 f1 lim = p at *
      generalize delB n lim x = dl at *
      have HMS := Lib.hid hms
      clear hms hx1 hx2
      go_wp2_with fail
      have hs := HC.out _ (below_drew (Below.refl _ _))
      clear e1 e2
      go_region_held3 (fun W => W.cell? { block := (ad.add (k * 3)).block, off := (ad.add (k * 3)).off + 1 } = some (.int .i64 x1) ∧ W.cell? { block := (ad.add (k * 3)).block, off := (ad.add (k * 3)).off + 2 } = some (.int .i64 x2)) (first | assumption | exact HC.out _ (by assumption))
        (first
          | (go_at_call 35; refine (HSH.out _).mono ?_; rintro e w2 ⟨r, nd, rfl, hi, hw2⟩; have hx2 : Below wr.heap.size wr w2 := (by rw [hw2]; exact pw_below_drewN (below_drew (Below.refl _ _)) nd); clear hw2)
          | fail)
      have e0' := HC0.out w2 hx2
      have ho := HBO.out r hi
      have hrl := hi.1
      have HI := Lib.hid hi
      have HX2 := Lib.hid hx2
      have HB2 := Lib.hid (below_step' HB.out hx2)
      obtain ⟨q, hq⟩ : ∃ q, inB n x.1.toInt = q := ⟨_, rfl⟩
      obtain ⟨x0, hx0⟩ : ∃ x0, x.1.toInt = x0 := ⟨_, rfl⟩
      rw [hq] at HDE HIN
      rw [hx0] at HIN HC0 e0'
      have HX0 := Lib.hid hx0
      clear hq hx0 e0 hs hi hx2
      cases q with
      | true =>
        have HS2 := Lib.hid (show St (mayL n lim (l.take (k + 1))) bb ss ff from by rw [HMS.out, HDE.out]; simpa using HS.out)
        go_wp2_with fail
        refine (HIN.out _ (HN.out.below HB2.out)).mono ?_
        rintro e w3 ⟨rfl, n3, hw3⟩
        have HB3 := Lib.hid (show Below w.heap.size w w3 from hw3 ▸ pw_below_drewN HB2.out n3)
        clear hw3
        go_wp2_with fail
        go_roundw
        case rel => exact ⟨k + 1, bb, ss, ff, by omega, by go_num, rfl, rfl, rfl, HS2, HB3⟩
        case measure => simp [intOf]; omega
      | false =>
        cases p with
        | false =>
          have HS2 := Lib.hid (show St (mayL n lim (l.take (k + 1))) bb ss ff from by rw [HMS.out, HDE.out]; simpa using HS.out)
          go_wp2_with fail
          refine (HIN.out _ (HN.out.below HB2.out)).mono ?_
          rintro e w3 ⟨rfl, n3, hw3⟩
          have HB3 := Lib.hid (show Below w.heap.size w w3 from hw3 ▸ pw_below_drewN HB2.out n3)
          clear hw3
          go_wp2_with fail
          go_roundw
          case rel => exact ⟨k + 1, bb, ss, ff, by omega, by go_num, rfl, rfl, rfl, HS2, HB3⟩
          case measure => simp [intOf]; omega
        | true =>
          have hdl : dl = false := by rw [HDE.out]; rfl
          have HRS := Lib.hid (HSO.out r hdl HI.out)
          have HXL := Lib.hid (HLT.out hdl)
          have HM2 := Lib.hid (show mayL n lim (l.take (k + 1)) = mayL n lim (l.take k) ++ [x] from by rw [HMS.out, hdl]; rfl)
          clear hdl
          go_wp2_with fail
          refine (HIN.out _ (HN.out.below HB2.out)).mono ?_
          rintro e w3 ⟨rfl, n3, hw3⟩
          have e3 := HC0.out w3 (hw3 ▸ pw_below_drewN HX2.out n3)
          have HB3 := Lib.hid (show Below w.heap.size w w3 from hw3 ▸ pw_below_drewN HB2.out n3)
          clear hw3 e0'
          cases ff with
          | false =>
            have HS2 := Lib.hid (show St (mayL n lim (l.take (k + 1))) r x0 true from by rw [HM2.out, HRS.out, ← HX0.out]; exact HS.out.first HXL.out)
            go_wp2_with fail
            go_roundw
            case rel => exact ⟨k + 1, r, x0, true, by omega, by go_num, rfl, rfl, rfl, HS2, HB3⟩
            case measure => simp [intOf]; omega
          | true =>
            have hbb : bb < 18446744073709551616 := by
              rcases HS.out with ⟨h, -⟩ | ⟨-, h, -⟩
              · cases h
              · exact h
            have HO := Lib.hid (fun (W : World) => reforder_any r bb W hrl hbb)
            have HZ := Lib.hid (ordN_lt r bb)
            generalize Flo.ordN r bb = z at *
            by_cases hz : z < 0
            · have HS2 := Lib.hid (show St (mayL n lim (l.take (k + 1))) r x0 true from by rw [HM2.out, HRS.out, ← HX0.out]; exact HS.out.less HXL.out (by rw [← HRS.out]; exact HZ.out.1 hz))
              go_wp2_with fail
              refine (HO.out _).mono ?_
              rintro e w4 ⟨rfl, hw4⟩
              rw [← hw4] at HB3 e3
              clear hw4
              go_wp2_with fail
              go_roundw
              case rel => exact ⟨k + 1, r, x0, true, by omega, by go_num, rfl, rfl, rfl, HS2, HB3⟩
              case measure => simp [intOf]; omega
            · have HS2 := Lib.hid (show St (mayL n lim (l.take (k + 1))) bb ss true from by rw [HM2.out]; exact HS.out.keep (by rw [← HRS.out]; exact fun h => hz (HZ.out.2 h)))
              go_wp2_with fail
              refine (HO.out _).mono ?_
              rintro e w4 ⟨rfl, hw4⟩
              rw [← hw4] at HB3 e3
              clear hw4
              go_wp2_with fail
              go_roundw
              case rel => exact ⟨k + 1, bb, ss, true, by omega, by go_num, rfl, rfl, rfl, HS2, HB3⟩
              case measure => simp [intOf]; omega
    · obtain rfl : k = l.length := by omega
      rw [List.take_length] at HS
      go_wp2_with fail
      go_ret
      exact ⟨_, rfl, HS.out.vic, HB.out⟩
end Go.Proofs.Ytkgbimkjpllakaa.Ld
