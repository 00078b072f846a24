/- name.Tag, the document's own Tag. -/
import Derived.Test.YtceldlijbehkdaaBase
import Derived.BigQuiet
set_option linter.unusedVariables false
set_option linter.unusedSimpArgs false
namespace Go.Proofs.Ytceldlijbehkdaa.Rc
open Go.RowKit Go.Proofs.YtceldlijbehkdaaW.PrintWords Go.Proofs.Ytceldlijbehkdaa.B
def plainN (c : Nat) : Bool := decide ((97 ≤ c ∧ c ≤ 122) ∨ (48 ≤ c ∧ c ≤ 57))
def midN (c : Nat) : Bool := decide (c = 46 ∨ c = 95 ∨ c = 45)
/-- is a text a tag's name? -/
def tagB (s : List UInt8) : Bool := decide (1 ≤ s.length ∧ s.length ≤ 32) && (plainN (s.getD 0 0).toNat && s.all (fun c => plainN c.toNat || midN c.toNat))
set_option maxRecDepth 100000 in
theorem plain_any (c : Nat) (w : World) (hc : c < 256) : Calls Try.prog 74 #[.int .u8 c] w (Still (.bool (plainN c)) w) := by
  by_cases h1 : 97 ≤ c
  · by_cases h2 : c ≤ 122
    · have HP := Lib.hid (show plainN c = true from decide_eq_true (by omega))
      have d0 : decide (97 ≤ (c : Int)) = true := decide_eq_true (by omega)
      have d1 : decide ((c : Int) ≤ 122) = true := decide_eq_true (by omega)
      go_enter Try.func74, Try.ntmps74
      go_wp2
      go_ret
      exact ⟨ret_eq (by rw [HP.out]; try rfl), rfl⟩
    · have HP := Lib.hid (show plainN c = false from decide_eq_false (by omega))
      have d0 : decide (97 ≤ (c : Int)) = true := decide_eq_true (by omega)
      have d1 : decide ((c : Int) ≤ 122) = false := decide_eq_false (by omega)
      have d2 : decide (48 ≤ (c : Int)) = true := decide_eq_true (by omega)
      have d3 : decide ((c : Int) ≤ 57) = false := decide_eq_false (by omega)
      go_enter Try.func74, Try.ntmps74
      go_wp2
      go_ret
      exact ⟨ret_eq (by rw [HP.out]; try rfl), rfl⟩
  · by_cases h2 : 48 ≤ c
    · by_cases h3 : c ≤ 57
      · have HP := Lib.hid (show plainN c = true from decide_eq_true (by omega))
        have d0 : decide (97 ≤ (c : Int)) = false := decide_eq_false (by omega)
        have d1 : decide (48 ≤ (c : Int)) = true := decide_eq_true (by omega)
        have d2 : decide ((c : Int) ≤ 57) = true := decide_eq_true (by omega)
        go_enter Try.func74, Try.ntmps74
        go_wp2
        go_ret
        exact ⟨ret_eq (by rw [HP.out]; try rfl), rfl⟩
      · have HP := Lib.hid (show plainN c = false from decide_eq_false (by omega))
        have d0 : decide (97 ≤ (c : Int)) = false := decide_eq_false (by omega)
        have d1 : decide (48 ≤ (c : Int)) = true := decide_eq_true (by omega)
        have d2 : decide ((c : Int) ≤ 57) = false := decide_eq_false (by omega)
        go_enter Try.func74, Try.ntmps74
        go_wp2
        go_ret
        exact ⟨ret_eq (by rw [HP.out]; try rfl), rfl⟩
    · have HP := Lib.hid (show plainN c = false from decide_eq_false (by omega))
      have d0 : decide (97 ≤ (c : Int)) = false := decide_eq_false (by omega)
      have d1 : decide (48 ≤ (c : Int)) = false := decide_eq_false (by omega)
      go_enter Try.func74, Try.ntmps74
      go_wp2
      go_ret
      exact ⟨ret_eq (by rw [HP.out]; try rfl), rfl⟩
section
variable {ops : Array Oper} {rest : List Oper} {o : Oper} {a : Act} {Q : Exit → Act → World → Prop} {w : World}
theorem run_idx (l : List UInt8) (k : Int) (h0 : 0 ≤ k) (h1 : k < l.length) (W : World) : (Instr.index 9 (.string ⟨l.toArray⟩) (.int .i64 k)).run Try.prog W = .ok (.int .u8 (bt l k.toNat)) W := by
  have hk : k.toNat < l.length := by omega
  rw [run_index_string (P := Try.prog) W 9 _ .i64 k Try.underlying9, dif_pos ⟨h0, by simpa [ByteArray.size] using h1⟩]
  congr 2
  unfold B.bt
  simp [List.getD_eq_getElem?_getD, List.getElem?_eq_getElem hk, ByteArray.getElem_eq_getElem_data]
/-- s[k] -/
theorem wpList_idx (hw : Region.wanted o (yielded ops a.tmps) = true) (x y : Operand) (ho : o.op = .index 9 x y) (l : List UInt8) (k v : Int) (hx : a.eval x = .string ⟨l.toArray⟩) (hy : a.eval y = .int .i64 k) (h0 : 0 ≤ k) (h1 : k < l.length) (hv : B.bt l k.toNat = v)
    (h : wpList Try.prog ops Q rest (a.put o.dst (.int .u8 v)) w) : wpList Try.prog ops Q (o :: rest) a w := by
  subst hv
  refine wpList_step fun K hK => ?_
  rw [if_pos hw]
  unfold Oper.wp execOp
  simp only [ho, hx, hy, Sem.run_bind, Sem.run_pure, run_idx l k h0 h1, Result.andThen_ok]
  exact hK _ _ h
end
set_option maxRecDepth 100000 in
set_option maxHeartbeats 1600000 in
theorem tag_any (s : ByteArray) (w : World) (hs : s.size ≤ 140737488355328) : Calls Try.prog 52 #[.string s] w (Still (.bool (tagB s.data.toList)) w) := by
  obtain ⟨l, rfl⟩ : ∃ l : List UInt8, s = ⟨l.toArray⟩ := ⟨s.data.toList, by cases s; simp⟩
  have hsz : (⟨l.toArray⟩ : ByteArray).size = l.length := by simp [ByteArray.size]
  rw [hsz] at hs
  show Calls _ _ _ _ (Still (.bool (tagB l)) w)
  by_cases h0 : l = []
  · subst h0
    have HT := Lib.hid (show tagB [] = false from rfl)
    clear hsz
    go_enter Try.func52, Try.ntmps52
    go_wp2_with fail
    go_ret
    exact ⟨ret_eq (by rw [HT.out]; try rfl), rfl⟩
  · have hp : 1 ≤ l.length := by
      rcases Nat.eq_zero_or_pos l.length with h | h
      · exact absurd (List.eq_nil_of_length_eq_zero h) h0
      · exact h
    have he : l.isEmpty = false := by cases l with
      | nil => exact absurd rfl h0
      | cons a b => rfl
    clear h0
    by_cases h32 : l.length ≤ 32
    · have hd : decide ((32 : Int) < (l.length : Int)) = false := decide_eq_false (by omega)
      have hl0 : (0 : Int) < (l.length : Int) := by omega
      have hb := bt_bd l 0
      obtain ⟨c, hc⟩ : ∃ c : Nat, bt l 0 = (c : Int) := ⟨(bt l 0).toNat, by omega⟩
      have HPL := Lib.hid (fun (W : World) => plain_any c W (by omega))
      have HQ := Lib.hid (show tagB l = (plainN c && l.all (fun c => plainN c.toNat || midN c.toNat)) from by
        unfold tagB
        rw [decide_eq_true ⟨hp, h32⟩, Bool.true_and]
        unfold B.bt at hc
        rw [show (l.getD 0 0).toNat = c by omega])
      generalize hpc : plainN c = q at *
      clear hpc
      have HC0 := Lib.hid hc
      clear hc hb
      go_enter Try.func52, Try.ntmps52
      go_wp2_with (refine wpList_idx rfl _ _ rfl l 0 c rfl rfl (Int.le_refl 0) hl0 HC0.out ?_)
      refine (HPL.out w).mono ?_
      rintro e w1 ⟨rfl, hw1⟩
      rw [hw1]
      clear hw1 w1
      clear hd
      cases q with
      | false =>
        have HT := Lib.hid (show tagB l = false by rw [HQ.out]; rfl)
        go_wp2_with fail
        go_ret
        exact ⟨ret_eq (by rw [HT.out]; try rfl), rfl⟩
      | true =>
        have HQ2 := Lib.hid (show tagB l = l.all (fun c => plainN c.toNat || midN c.toNat) by rw [HQ.out, Bool.true_and])
        clear HQ HPL HC0
        go_wp2_with fail
        go_loopw [20] (fun i wr => ∃ k : Nat, k ≤ l.length ∧ i = .int .i64 k ∧ Hid ((l.take k).all (fun c => plainN c.toNat || midN c.toNat) = true) ∧ wr = w) (fun i _ => l.length - (intOf i).toNat)
        case atStart => exact ⟨0, by omega, rfl, rfl, rfl⟩
        case round =>
          obtain ⟨k, hk, rfl, HK, rfl⟩ := hrel
          by_cases hlt : k < l.length
          · have hb := bt_bd l k
            obtain ⟨c, hc⟩ : ∃ c : Nat, B.bt l k = (c : Int) := ⟨(B.bt l k).toNat, by omega⟩
            have HPL := Lib.hid (fun (W : World) => plain_any c W (by omega))
            have hgc : (l.getD k 0).toNat = c := by unfold B.bt at hc; omega
            have HST := Lib.hid (show (l.take (k + 1)).all (fun c => plainN c.toNat || midN c.toNat) = (plainN c || midN c) by
              have hg : l[k] = l.getD k 0 := by simp [List.getD_eq_getElem?_getD, hlt]
              rw [List.take_succ_eq_append_getElem hlt, List.all_append, HK.out, Bool.true_and, hg]
              show ((plainN (l.getD k 0).toNat || midN (l.getD k 0).toNat) && true) = _
              rw [hgc, Bool.and_true])
            have HNO := Lib.hid (show (plainN c || midN c) = false → tagB l = false by
              intro h
              rw [HQ2.out, ← List.take_append_drop (k + 1) l, List.all_append, HST.out, h]; rfl)
            have HC0 := Lib.hid (show B.bt l (k : Int).toNat = (c : Int) by rw [Int.toNat_natCast]; exact hc)
            have hk0 : (0 : Int) ≤ (k : Int) := by omega
            have hk1 : (k : Int) < (l.length : Int) := by omega
            generalize hpc : plainN c = q at *
            clear hpc hb hc hgc
            cases q with
            | true =>
              have HK2 := Lib.hid (show (l.take (k + 1)).all (fun c => plainN c.toNat || midN c.toNat) = true by rw [HST.out]; rfl)
              go_wp2_with (refine wpList_idx rfl _ _ rfl l k c rfl rfl hk0 hk1 HC0.out ?_)
              refine (HPL.out _).mono ?_
              rintro e w1 ⟨rfl, hw1⟩
              rw [hw1]
              clear hw1 w1
              go_wp2_with fail
              go_roundw
              case rel => exact ⟨k + 1, by omega, by go_num, HK2, by trivial⟩
              case measure => simp [intOf]; omega
            | false =>
              by_cases h46 : c = 46
              · have HK2 := Lib.hid (show (l.take (k + 1)).all (fun c => plainN c.toNat || midN c.toNat) = true by rw [HST.out, h46]; rfl)
                have e1 : ((c : Int) != 46) = false := by rw [h46]; rfl
                clear h46
                go_wp2_with (refine wpList_idx rfl _ _ rfl l k c rfl rfl hk0 hk1 HC0.out ?_)
                refine (HPL.out _).mono ?_
                rintro e w1 ⟨rfl, hw1⟩
                rw [hw1]
                clear hw1 w1
                go_wp2_with fail
                go_roundw
                case rel => exact ⟨k + 1, by omega, by go_num, HK2, by trivial⟩
                case measure => simp [intOf]; omega
              · have e1 : ((c : Int) != 46) = true := by rw [bne_iff_ne]; omega
                by_cases h95 : c = 95
                · have HK2 := Lib.hid (show (l.take (k + 1)).all (fun c => plainN c.toNat || midN c.toNat) = true by rw [HST.out, h95]; rfl)
                  have e2 : ((c : Int) != 95) = false := by rw [h95]; rfl
                  clear h95 h46
                  go_wp2_with (refine wpList_idx rfl _ _ rfl l k c rfl rfl hk0 hk1 HC0.out ?_)
                  refine (HPL.out _).mono ?_
                  rintro e w1 ⟨rfl, hw1⟩
                  rw [hw1]
                  clear hw1 w1
                  go_wp2_with fail
                  go_roundw
                  case rel => exact ⟨k + 1, by omega, by go_num, HK2, by trivial⟩
                  case measure => simp [intOf]; omega
                · have e2 : ((c : Int) != 95) = true := by rw [bne_iff_ne]; omega
                  by_cases h45 : c = 45
                  · have HK2 := Lib.hid (show (l.take (k + 1)).all (fun c => plainN c.toNat || midN c.toNat) = true by rw [HST.out, h45]; rfl)
                    have e3 : ((c : Int) != 45) = false := by rw [h45]; rfl
                    clear h95 h46 h45
                    go_wp2_with (refine wpList_idx rfl _ _ rfl l k c rfl rfl hk0 hk1 HC0.out ?_)
                    refine (HPL.out _).mono ?_
                    rintro e w1 ⟨rfl, hw1⟩
                    rw [hw1]
                    clear hw1 w1
                    go_wp2_with fail
                    go_roundw
                    case rel => exact ⟨k + 1, by omega, by go_num, HK2, by trivial⟩
                    case measure => simp [intOf]; omega
                  · have e3 : ((c : Int) != 45) = true := by rw [bne_iff_ne]; omega
                    have HT := Lib.hid (HNO.out (by unfold midN; rw [decide_eq_false (by omega)]; rfl))
                    clear h95 h46 h45
                    go_wp2_with (refine wpList_idx rfl _ _ rfl l k c rfl rfl hk0 hk1 HC0.out ?_)
                    refine (HPL.out _).mono ?_
                    rintro e w1 ⟨rfl, hw1⟩
                    rw [hw1]
                    clear hw1 w1
                    go_wp2_with fail
                    go_ret
                    exact ⟨ret_eq (by rw [HT.out]; try rfl), rfl⟩
          · obtain rfl : k = l.length := by omega
            have HT := Lib.hid (show tagB l = true by rw [HQ2.out]; have h := HK.out; rw [List.take_length] at h; exact h)
            go_wp2_with fail
            go_ret
            exact ⟨ret_eq (by rw [HT.out]; try rfl), rfl⟩
    · have hd : decide ((32 : Int) < (l.length : Int)) = true := decide_eq_true (by omega)
      have HT := Lib.hid (show tagB l = false by unfold tagB; rw [decide_eq_false (by omega)]; rfl)
      clear hsz
      go_enter Try.func52, Try.ntmps52
      go_wp2_with fail
      go_ret
      exact ⟨ret_eq (by rw [HT.out]; try rfl), rfl⟩
end Go.Proofs.Ytceldlijbehkdaa.Rc
