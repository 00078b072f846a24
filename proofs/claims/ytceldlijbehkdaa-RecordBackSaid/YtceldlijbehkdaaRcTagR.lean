/- stillageref08.Tag. -/
import Derived.Test.YtceldlijbehkdaaRcTag
set_option linter.unusedVariables false
set_option linter.unusedSimpArgs false
namespace Go.Proofs.Ytceldlijbehkdaa.Rc
open Go.RowKit Go.Proofs.YtceldlijbehkdaaW.PrintWords Go.Proofs.Ytceldlijbehkdaa.B
def inT (t : List UInt8) (c : Nat) : Bool := t.any (fun x => x.toNat == c)
def figs : List UInt8 := [97, 98, 99, 100, 101, 102, 103, 104, 105, 106, 107, 108, 109, 110, 111, 112, 113, 114, 115, 116, 117, 118, 119, 120, 121, 122, 48, 49, 50, 51, 52, 53, 54, 55, 56, 57]
theorem in_figs : ∀ c : Nat, c < 256 → inT figs c = plainN c := by decide +kernel
theorem in_mid : ∀ c : Nat, c < 256 → inT [46, 95, 45] c = midN c := by decide +kernel
set_option maxRecDepth 100000 in
set_option maxHeartbeats 1600000 in
theorem one_any (c : Nat) (l : List UInt8) (w : World) (hs : l.length ≤ 140737488355328) : Calls Try.prog 75 #[.int .u8 c, .string ⟨l.toArray⟩] w (Still (.bool (inT l c)) w) := by
  have hsz : (⟨l.toArray⟩ : ByteArray).size = l.length := by simp [ByteArray.size]
  go_enter Try.func75, Try.ntmps75
  go_wp2_with fail
  go_loopw [5] (fun i wr => ∃ k : Nat, k ≤ l.length ∧ i = .int .i64 k ∧ Hid (inT (l.take k) c = false) ∧ Hid (wr = w)) (fun i _ => l.length - (intOf i).toNat)
  case atStart => exact ⟨0, by omega, rfl, rfl, rfl⟩
  case round =>
    obtain ⟨k, hk, rfl, HK, HW⟩ := hrel
    by_cases hlt : k < l.length
    · have hb := bt_bd l k
      obtain ⟨d, hc⟩ : ∃ c : Nat, B.bt l k = (c : Int) := ⟨(B.bt l k).toNat, by omega⟩
      have hgc : (l.getD k 0).toNat = d := by unfold B.bt at hc; omega
      have hg : l[k] = l.getD k 0 := by simp [List.getD_eq_getElem?_getD, hlt]
      have HC0 := Lib.hid (show B.bt l (k : Int).toNat = (d : Int) by rw [Int.toNat_natCast]; exact hc)
      have HST := Lib.hid (show inT (l.take (k + 1)) c = (d == c) by
        unfold inT
        rw [List.take_succ_eq_append_getElem hlt, List.any_append, show (l.take k).any (fun x => x.toNat == c) = false from HK.out, Bool.false_or, hg]
        show (((l.getD k 0).toNat == c) || false) = _
        rw [hgc, Bool.or_false])
      have HYE := Lib.hid (show (d == c) = true → inT l c = true by
        intro h
        unfold inT
        rw [← List.take_append_drop (k + 1) l, List.any_append, show (l.take (k + 1)).any (fun x => x.toNat == c) = true from HST.out.trans h]; rfl)
      have hk0 : (0 : Int) ≤ (k : Int) := by omega
      have hk1 : (k : Int) < (l.length : Int) := by omega
      clear hb hc hgc hg
      by_cases hdc : d = c
      · have HT := Lib.hid (HYE.out (by rw [hdc]; exact beq_self_eq_true c))
        have e1 : ((d : Int) == (c : Int)) = true := by rw [hdc]; exact beq_self_eq_true _
        clear hdc
        go_wp2_with (refine wpList_idx rfl _ _ rfl l k d rfl rfl hk0 hk1 HC0.out ?_)
        go_ret
        exact ⟨ret_eq (by rw [HT.out]; try rfl), HW.out⟩
      · have HK2 := Lib.hid (show inT (l.take (k + 1)) c = false by rw [HST.out]; exact beq_eq_false_iff_ne.2 hdc)
        have e1 : ((d : Int) == (c : Int)) = false := by rw [beq_eq_false_iff_ne]; omega
        clear hdc
        go_wp2_with (refine wpList_idx rfl _ _ rfl l k d rfl rfl hk0 hk1 HC0.out ?_)
        go_roundw
        case rel => exact ⟨k + 1, by omega, by go_num, HK2, HW⟩
        case measure => simp [intOf]; omega
    · obtain rfl : k = l.length := by omega
      have HT := Lib.hid (show inT l c = false by have h := HK.out; rw [List.take_length] at h; exact h)
      go_wp2_with fail
      go_ret
      exact ⟨ret_eq (by rw [HT.out]; try rfl), HW.out⟩
set_option maxRecDepth 100000 in
set_option maxHeartbeats 1600000 in
theorem reftag_any (s : ByteArray) (w : World) (hs : s.size ≤ 140737488355328) : Calls Try.prog 53 #[.string s] w (Still (.bool (tagB s.data.toList)) w) := by
  obtain ⟨l, rfl⟩ : ∃ l : List UInt8, s = ⟨l.toArray⟩ := ⟨s.data.toList, by cases s; simp⟩
  have hsz : (⟨l.toArray⟩ : ByteArray).size = l.length := by simp [ByteArray.size]
  rw [hsz] at hs
  show Calls _ _ _ _ (Still (.bool (tagB l)) w)
  go_enter Try.func53, Try.ntmps53
  go_wp2_with fail
  go_loopw [4] (fun i wr => ∃ k : Nat, k ≤ l.length ∧ i = .int .i64 k ∧ Hid ((l.take k).all (fun c => plainN c.toNat || midN c.toNat) = true) ∧ Hid (0 < k → plainN (l.getD 0 0).toNat = true) ∧ Hid (wr = w)) (fun i _ => l.length - (intOf i).toNat)
  case atStart => exact ⟨0, by omega, rfl, rfl, fun h => absurd h (by omega), rfl⟩
  case round =>
    obtain ⟨k, hk, rfl, HK, HP, HW⟩ := hrel
    by_cases hlt : k < l.length
    · have hb := bt_bd l k
      obtain ⟨c, hc⟩ : ∃ c : Nat, B.bt l k = (c : Int) := ⟨(B.bt l k).toNat, by omega⟩
      have hc256 : c < 256 := by omega
      have H1 := Lib.hid (fun (W : World) => (show Calls Try.prog 75 #[.int .u8 c, .string ⟨#[97, 98, 99, 100, 101, 102, 103, 104, 105, 106, 107, 108, 109, 110, 111, 112, 113, 114, 115, 116, 117, 118, 119, 120, 121, 122, 48, 49, 50, 51, 52, 53, 54, 55, 56, 57]⟩] W (Still (.bool (plainN c)) W) from in_figs c hc256 ▸ one_any c figs W (by decide)))
      have H2 := Lib.hid (fun (W : World) => (show Calls Try.prog 75 #[.int .u8 c, .string ⟨#[46, 95, 45]⟩] W (Still (.bool (midN c)) W) from in_mid c hc256 ▸ one_any c [46, 95, 45] W (by decide)))
      have hgc : (l.getD k 0).toNat = c := by unfold B.bt at hc; omega
      have hg : l[k] = l.getD k 0 := by simp [List.getD_eq_getElem?_getD, hlt]
      have HC0 := Lib.hid (show B.bt l (k : Int).toNat = (c : Int) by rw [Int.toNat_natCast]; exact hc)
      have HST := Lib.hid (show (l.take (k + 1)).all (fun c => plainN c.toNat || midN c.toNat) = (plainN c || midN c) by
        rw [List.take_succ_eq_append_getElem hlt, List.all_append, HK.out, Bool.true_and, hg]
        show ((plainN (l.getD k 0).toNat || midN (l.getD k 0).toNat) && true) = _
        rw [hgc, Bool.and_true])
      have HNO := Lib.hid (show (plainN c || midN c) = false → tagB l = false by
        intro h
        have e : l.all (fun c => plainN c.toNat || midN c.toNat) = false := by
          rw [← List.take_append_drop (k + 1) l, List.all_append, HST.out, h]; rfl
        unfold tagB
        rw [e, Bool.and_false, Bool.and_false])
      have HP1 := Lib.hid (show k = 0 → plainN c = false → tagB l = false by
        intro h1 h2
        subst h1
        unfold tagB
        rw [hgc, h2, Bool.false_and, Bool.and_false])
      have HP2 := Lib.hid (show plainN c = true → 0 < k + 1 → plainN (l.getD 0 0).toNat = true by
        intro h1 _
        rcases Nat.eq_zero_or_pos k with h | h
        · subst h; rw [hgc]; exact h1
        · exact HP.out h)
      have hk0 : (0 : Int) ≤ (k : Int) := by omega
      have hk1 : (k : Int) < (l.length : Int) := by omega
      generalize hpc : plainN c = q at *
      generalize hmc : midN c = m at *
      clear hpc hmc hb hc hgc hg
      cases q with
      | true =>
        have HK2 := Lib.hid (show (l.take (k + 1)).all (fun c => plainN c.toNat || midN c.toNat) = true by rw [HST.out]; rfl)
        have HP3 := Lib.hid (HP2.out rfl)
        go_wp2_with (refine wpList_idx rfl _ _ rfl l k c rfl rfl hk0 hk1 HC0.out ?_)
        refine (H1.out _).mono ?_
        rintro e w1 ⟨rfl, hw1⟩
        rw [← hw1] at HW
        clear hw1
        go_wp2_with fail
        go_roundw
        case rel => exact ⟨k + 1, by omega, by go_num, HK2, HP3, HW⟩
        case measure => simp [intOf]; omega
      | false =>
        by_cases hz : k = 0
        · have HT := Lib.hid (HP1.out hz rfl)
          have e0 : ((k : Int) == 0) = true := by rw [hz]; rfl
          clear hz
          go_wp2_with (refine wpList_idx rfl _ _ rfl l k c rfl rfl hk0 hk1 HC0.out ?_)
          refine (H1.out _).mono ?_
          rintro e w1 ⟨rfl, hw1⟩
          rw [← hw1] at HW
          clear hw1
          go_wp2_with fail
          go_ret
          exact ⟨ret_eq (by rw [HT.out]; try rfl), HW.out⟩
        · have e0 : ((k : Int) == 0) = false := by rw [beq_eq_false_iff_ne]; omega
          have HP3 := Lib.hid (show 0 < k + 1 → plainN (l.getD 0 0).toNat = true from fun _ => HP.out (by omega))
          cases m with
          | true =>
            have HK2 := Lib.hid (show (l.take (k + 1)).all (fun c => plainN c.toNat || midN c.toNat) = true by rw [HST.out]; rfl)
            go_wp2_with (refine wpList_idx rfl _ _ rfl l k c rfl rfl hk0 hk1 HC0.out ?_)
            refine (H1.out _).mono ?_
            rintro e w1 ⟨rfl, hw1⟩
            rw [← hw1] at HW
            clear hw1
            go_wp2_with (refine wpList_idx rfl _ _ rfl l k c rfl rfl hk0 hk1 HC0.out ?_)
            refine (H2.out _).mono ?_
            rintro e w2 ⟨rfl, hw1⟩
            rw [← hw1] at HW
            clear hw1
            go_wp2_with fail
            go_roundw
            case rel => exact ⟨k + 1, by omega, by go_num, HK2, HP3, HW⟩
            case measure => simp [intOf]; omega
          | false =>
            have HT := Lib.hid (HNO.out rfl)
            go_wp2_with (refine wpList_idx rfl _ _ rfl l k c rfl rfl hk0 hk1 HC0.out ?_)
            refine (H1.out _).mono ?_
            rintro e w1 ⟨rfl, hw1⟩
            rw [← hw1] at HW
            clear hw1
            go_wp2_with (refine wpList_idx rfl _ _ rfl l k c rfl rfl hk0 hk1 HC0.out ?_)
            refine (H2.out _).mono ?_
            rintro e w2 ⟨rfl, hw1⟩
            rw [← hw1] at HW
            clear hw1
            go_wp2_with fail
            go_ret
            exact ⟨ret_eq (by rw [HT.out]; try rfl), HW.out⟩
    · obtain rfl : k = l.length := by omega
      have HA := Lib.hid (show l.all (fun c => plainN c.toNat || midN c.toNat) = true by have h := HK.out; rw [List.take_length] at h; exact h)
      by_cases h1 : 1 ≤ l.length
      · have g1 : decide ((1 : Int) ≤ (l.length : Int)) = true := decide_eq_true (by omega)
        have HTA := Lib.hid (show tagB l = decide (1 ≤ l.length ∧ l.length ≤ 32) by unfold tagB; rw [HA.out, HP.out (by omega), Bool.and_true, Bool.and_true])
        by_cases h2 : l.length ≤ 32
        · have g2 : decide ((l.length : Int) ≤ 32) = true := decide_eq_true (by omega)
          have HT := Lib.hid (show tagB l = true by rw [HTA.out]; exact decide_eq_true ⟨h1, h2⟩)
          go_wp2_with fail
          go_ret
          exact ⟨ret_eq (by rw [HT.out]; try rfl), HW.out⟩
        · have g2 : decide ((l.length : Int) ≤ 32) = false := decide_eq_false (by omega)
          have HT := Lib.hid (show tagB l = false by rw [HTA.out]; exact decide_eq_false (by omega))
          go_wp2_with fail
          go_ret
          exact ⟨ret_eq (by rw [HT.out]; try rfl), HW.out⟩
      · have g1 : decide ((1 : Int) ≤ (l.length : Int)) = false := decide_eq_false (by omega)
        have HT := Lib.hid (show tagB l = false by unfold tagB; rw [decide_eq_false (by omega)]; rfl)
        go_wp2_with fail
        go_ret
        exact ⟨ret_eq (by rw [HT.out]; try rfl), HW.out⟩
end Go.Proofs.Ytceldlijbehkdaa.Rc
