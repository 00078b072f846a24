/- name.Tag, the document's own Tag. -/
import Derived.Test.YtdkadeihhgjiaaaBase
import Derived.BigQuiet
set_option linter.unusedVariables false
set_option linter.unusedSimpArgs false
namespace Go.Proofs.Ytdkadeihhgjiaaa.Rc
open Go.RowKit Go.Proofs.YtdkadeihhgjiaaaW.PrintWords Go.Proofs.Ytdkadeihhgjiaaa.B
def plainN (c : Nat) : Bool := decide ((97 ≤ c ∧ c ≤ 122) ∨ (48 ≤ c ∧ c ≤ 57))
def midN (c : Nat) : Bool := decide (c = 46 ∨ c = 95 ∨ c = 45)
/-- is a text a tag's name? -/
def tagB (s : List UInt8) : Bool := decide (1 ≤ s.length ∧ s.length ≤ 32) && (plainN (s.getD 0 0).toNat && s.all (fun c => plainN c.toNat || midN c.toNat))
set_option maxRecDepth 100000 in
theorem plain_any (c : Nat) (w : World) (hc : c < 256) : Calls Try.prog 74 #[.int .u8 c] w (Still (.bool (plainN c)) w) := by
  by_cases h1 : 97 ≤ c
  · by_cases h2 : c ≤ 122
    · have HP := Lib.hid (show plainN c = true from decide_eq_true (by omega))
      have d0 : decide (97 ≤ (c : Int)) = true := decide_eq_true (by omega)
      have d1 : decide ((c : Int) ≤ 122) = true := decide_eq_true (by omega)
      go_enter Try.func74, Try.ntmps74
      go_wp2
      go_ret
      exact ⟨ret_eq (by rw [HP.out]; try rfl), rfl⟩
    · have HP := Lib.hid (show plainN c = false from decide_eq_false (by omega))
      have d0 : decide (97 ≤ (c : Int)) = true := decide_eq_true (by omega)
      have d1 : decide ((c : Int) ≤ 122) = false := decide_eq_false (by omega)
      have d2 : decide (48 ≤ (c : Int)) = true := decide_eq_true (by omega)
      have d3 : decide ((c : Int) ≤ 57) = false := decide_eq_false (by omega)
      go_enter Try.func74, Try.ntmps74
      go_wp2
      go_ret
      exact ⟨ret_eq (by rw [HP.out]; try rfl), rfl⟩
  · by_cases h2 : 48 ≤ c
    · by_cases h3 : c ≤ 57
      · have HP := Lib.hid (show plainN c = true from decide_eq_true (by omega))
        have d0 : decide (97 ≤ (c : Int)) = false := decide_eq_false (by omega)
        have d1 : decide (48 ≤ (c : Int)) = true := decide_eq_true (by omega)
        have d2 : decide ((c : Int) ≤ 57) = true := decide_eq_true (by omega)
        go_enter Try.func74, Try.ntmps74
        go_wp2
        go_ret
        exact ⟨ret_eq (by rw [HP.out]; try rfl), rfl⟩
      · have HP := Lib.hid (show plainN c = false from decide_eq_false (by omega))
        have d0 : decide (97 ≤ (c : Int)) = false := decide_eq_false (by omega)
        have d1 : decide (48 ≤ (c : Int)) = true := decide_eq_true (by omega)
        have d2 : decide ((c : Int) ≤ 57) = false := decide_eq_false (by omega)
        go_enter Try.func74, Try.ntmps74
        go_wp2
        go_ret
        exact ⟨ret_eq (by rw [HP.out]; try rfl), rfl⟩
    · have HP := Lib.hid (show plainN c = false from decide_eq_false (by omega))
      have d0 : decide (97 ≤ (c : Int)) = false := decide_eq_false (by omega)
      have d1 : decide (48 ≤ (c : Int)) = false := decide_eq_false (by omega)
      go_enter Try.func74, Try.ntmps74
      go_wp2
      go_ret
      exact ⟨ret_eq (by rw [HP.out]; try rfl), rfl⟩
section
variable {ops : Array Oper} {rest : List Oper} {o : Oper} {a : Act} {Q : Exit → Act → World → Prop} {w : World}
theorem run_idx (l : List UInt8) (k : Int) (h0 : 0 ≤ k) (h1 : k < l.length) (W : World) : (Instr.index 9 (.string ⟨l.toArray⟩) (.int .i64 k)).run Try.prog W = .ok (.int .u8 (bt l k.toNat)) W := by
  have hk : k.toNat < l.length := by omega
  rw [run_index_string (P := Try.prog) W 9 _ .i64 k Try.underlying9, dif_pos ⟨h0, by simpa [ByteArray.size] using h1⟩]
  congr 2
  unfold B.bt
  simp [List.getD_eq_getElem?_getD, List.getElem?_eq_getElem hk, ByteArray.getElem_eq_getElem_data]
/-- s[k] -/
theorem wpList_idx (hw : Region.wanted o (yielded ops a.tmps) = true) (x y : Operand) (ho : o.op = .index 9 x y) (l : List UInt8) (k v : Int) (hx : a.eval x = .string ⟨l.toArray⟩) (hy : a.eval y = .int .i64 k) (h0 : 0 ≤ k) (h1 : k < l.length) (hv : B.bt l k.toNat = v)
    (h : wpList Try.prog ops Q rest (a.put o.dst (.int .u8 v)) w) : wpList Try.prog ops Q (o :: rest) a w := by
  subst hv
  refine wpList_step fun K hK => ?_
  rw [if_pos hw]
  unfold Oper.wp execOp
  simp only [ho, hx, hy, Sem.run_bind, Sem.run_pure, run_idx l k h0 h1, Result.andThen_ok]
  exact hK _ _ h
end
set_option maxRecDepth 100000 in
set_option maxHeartbeats 1600000 in
theorem tag_any (s : ByteArray) (w : World) (hs : s.size ≤ 140737488355328) : Calls Try.prog 60 #[.string s] w (Still (.bool (tagB s.data.toList)) w) := by
  obtain ⟨l, rfl⟩ : ∃ l : List UInt8, s = ⟨l.toArray⟩ := ⟨s.data.toList, by cases s; simp⟩
  have hsz : (⟨l.toArray⟩ : ByteArray).size = l.length := by simp [ByteArray.size]
  rw [hsz] at hs
  show Calls _ _ _ _ (Still (.bool (tagB l)) w)
  by_cases h0 : l = []
  · subst h0
    have HT := Lib.hid (show tagB [] = false from rfl)
    clear hsz
    go_enter Try.func60, Try.ntmps60
    go_wp2_with fail
    go_ret
    exact ⟨ret_eq (by rw [HT.out]; try rfl), rfl⟩
  · have hp : 1 ≤ l.length := by
      rcases Nat.eq_zero_or_pos l.length with h | h
      · exact absurd (List.eq_nil_of_length_eq_zero h) h0
      · exact h
    have he : l.isEmpty = false := by cases l with
      | nil => exact absurd rfl h0
      | cons a b => rfl
    clear h0
    by_cases h32 : l.length ≤ 32
    · have hd : decide ((32 : Int) < (l.length : Int)) = false := decide_eq_false (by omega)
      have hl0 : (0 : Int) < (l.length : Int) := by omega
      have hb := bt_bd l 0
      obtain ⟨c, hc⟩ : ∃ c : Nat, bt l 0 = (c : Int) := ⟨(bt l 0).toNat, by omega⟩
      have HPL := Lib.hid (fun (W : World) => plain_any c W (by omega))
      have HQ := Lib.hid (show tagB l = (plainN c && l.all (fun c => plainN c.toNat || midN c.toNat)) from by
        unfold tagB
        rw [decide_eq_true ⟨hp, h32⟩, Bool.true_and]
        unfold B.bt at hc
        rw [show (l.getD 0 0).toNat = c by omega])
      generalize hpc : plainN c = q at *
      clear hpc
      have HC0 := Lib.hid hc
      clear hc hb
      go_enter Try.func60, Try.ntmps60
      go_wp2_with (refine wpList_idx rfl _ _ rfl l 0 c rfl rfl (Int.le_refl 0) hl0 HC0.out ?_)
      refine (HPL.out w).mono ?_
      rintro e w1 ⟨rfl, hw1⟩
      rw [hw1]
      clear hw1 w1
      clear hd
      cases q with
      | false =>
        have HT := Lib.hid (show tagB l = false by rw [HQ.out]; rfl)
        go_wp2_with fail
        go_ret
        exact ⟨ret_eq (by rw [HT.out]; try rfl), rfl⟩
      | true =>
        have HQ2 := Lib.hid (show tagB l = l.all (fun c => plainN c.toNat || midN c.toNat) by rw [HQ.out, Bool.true_and])
        clear HQ HPL HC0
        go_wp2_with fail
        go_loopw [20] (fun i wr => ∃ k : Nat, k ≤ l.length ∧ i = .int .i64 k ∧ Hid ((l.take k).all (fun c => plainN c.toNat || midN c.toNat) = true) ∧ wr = w) (fun i _ => l.length - (intOf i).toNat)
        case atStart => exact ⟨0, by omega, rfl, rfl, rfl⟩
        case round =>
          obtain ⟨k, hk, rfl, HK, rfl⟩ := hrel
          by_cases hlt : k < l.length
          · have hb := bt_bd l k
            obtain ⟨c, hc⟩ : ∃ c : Nat, B.bt l k = (c : Int) := ⟨(B.bt l k).toNat, by omega⟩
            have HPL := Lib.hid (fun (W : World) => plain_any c W (by omega))
            have hgc : (l.getD k 0).toNat = c := by unfold B.bt at hc; omega
            have HST := Lib.hid (show (l.take (k + 1)).all (fun c => plainN c.toNat || midN c.toNat) = (plainN c || midN c) by
              have hg : l[k] = l.getD k 0 := by simp [List.getD_eq_getElem?_getD, hlt]
              rw [List.take_succ_eq_append_getElem hlt, List.all_append, HK.out, Bool.true_and, hg]
              show ((plainN (l.getD k 0).toNat || midN (l.getD k 0).toNat) && true) = _
              rw [hgc, Bool.and_true])
            have HNO := Lib.hid (show (plainN c || midN c) = false → tagB l = false by
              intro h
              rw [HQ2.out, ← List.take_append_drop (k + 1) l, List.all_append, HST.out, h]; rfl)
            have HC0 := Lib.hid (show B.bt l (k : Int).toNat = (c : Int) by rw [Int.toNat_natCast]; exact hc)
            have hk0 : (0 : Int) ≤ (k : Int) := by omega
            have hk1 : (k : Int) < (l.length : Int) := by omega
            generalize hpc : plainN c = q at *
            clear hpc hb hc hgc
            cases q with
            | true =>
              have HK2 := Lib.hid (show (l.take (k + 1)).all (fun c => plainN c.toNat || midN c.toNat) = true by rw [HST.out]; rfl)
              go_wp2_with (refine wpList_idx rfl _ _ rfl l k c rfl rfl hk0 hk1 HC0.out ?_)
              refine (HPL.out _).mono ?_
              rintro e w1 ⟨rfl, hw1⟩
              rw [hw1]
              clear hw1 w1
              go_wp2_with fail
              go_roundw
              case rel => exact ⟨k + 1, by omega, by go_num, HK2, by trivial⟩
              case measure => simp [intOf]; omega
            | false =>
              by_cases h46 : c = 46
              · have HK2 := Lib.hid (show (l.take (k + 1)).all (fun c => plainN c.toNat || midN c.toNat) = true by rw [HST.out, h46]; rfl)
                have e1 : ((c : Int) != 46) = false := by rw [h46]; rfl
                clear h46
                go_wp2_with (refine wpList_idx rfl _ _ rfl l k c rfl rfl hk0 hk1 HC0.out ?_)
                refine (HPL.out _).mono ?_
                rintro e w1 ⟨rfl, hw1⟩
                rw [hw1]
                clear hw1 w1
                go_wp2_with fail
                go_roundw
                case rel => exact ⟨k + 1, by omega, by go_num, HK2, by trivial⟩
                case measure => simp [intOf]; omega
              · have e1 : ((c : Int) != 46) = true := by rw [bne_iff_ne]; omega
                by_cases h95 : c = 95
                · have HK2 := Lib.hid (show (l.take (k + 1)).all (fun c => plainN c.toNat || midN c.toNat) = true by rw [HST.out, h95]; rfl)
                  have e2 : ((c : Int) != 95) = false := by rw [h95]; rfl
                  clear h95 h46
                  go_wp2_with (refine wpList_idx rfl _ _ rfl l k c rfl rfl hk0 hk1 HC0.out ?_)
                  refine (HPL.out _).mono ?_
                  rintro e w1 ⟨rfl, hw1⟩
                  rw [hw1]
                  clear hw1 w1
                  go_wp2_with fail
                  go_roundw
                  case rel => exact ⟨k + 1, by omega, by go_num, HK2, by trivial⟩
                  case measure => simp [intOf]; omega
                · have e2 : ((c : Int) != 95) = true := by rw [bne_iff_ne]; omega
                  by_cases h45 : c = 45
                  · have HK2 := Lib.hid (show (l.take (k + 1)).all (fun c => plainN c.toNat || midN c.toNat) = true by rw [HST.out, h45]; rfl)
                    have e3 : ((c : Int) != 45) = false := by rw [h45]; rfl
                    clear h95 h46 h45
                    go_wp2_with (refine wpList_idx rfl _ _ rfl l k c rfl rfl hk0 hk1 HC0.out ?_)
                    refine (HPL.out _).mono ?_
                    rintro e w1 ⟨rfl, hw1⟩
                    rw [hw1]
                    clear hw1 w1
                    go_wp2_with fail
                    go_roundw
                    case rel => exact ⟨k + 1, by omega, by go_num, HK2, by trivial⟩
                    case measure => simp [intOf]; omega
                  · have e3 : ((c : Int) != 45) = true := by rw [bne_iff_ne]; omega
                    have HT := Lib.hid (HNO.out (by unfold midN; rw [decide_eq_false (by omega)]; rfl))
                    clear h95 h46 h45
                    go_wp2_with (refine wpList_idx rfl _ _ rfl l k c rfl rfl hk0 hk1 HC0.out ?_)
                    refine (HPL.out _).mono ?_
                    rintro e w1 ⟨rfl, hw1⟩
                    rw [hw1]
                    clear hw1 w1
                    go_wp2_with fail
                    go_ret
                    exact ⟨ret_eq (by rw [HT.out]; try rfl), rfl⟩
          · obtain rfl : k = l.length := by omega
            have HT := Lib.hid (show tagB l = true by rw [HQ2.out]; have h := HK.out; rw [List.take_length] at h; exact h)
            go_wp2_with fail
            go_ret
            exact ⟨ret_eq (by rw [HT.out]; try rfl), rfl⟩
    · have hd : decide ((32 : Int) < (l.length : Int)) = true := decide_eq_true (by omega)
      have HT := Lib.hid (show tagB l = false by unfold tagB; rw [decide_eq_false (by omega)]; rfl)
      clear hsz
      go_enter Try.func60, Try.ntmps60
      go_wp2_with fail
      go_ret
      exact ⟨ret_eq (by rw [HT.out]; try rfl), rfl⟩
end Go.Proofs.Ytdkadeihhgjiaaa.Rc
/- stillageref08.Tag. -/
set_option linter.unusedVariables false
set_option linter.unusedSimpArgs false
namespace Go.Proofs.Ytdkadeihhgjiaaa.Rc
open Go.RowKit Go.Proofs.YtdkadeihhgjiaaaW.PrintWords Go.Proofs.Ytdkadeihhgjiaaa.B
def inT (t : List UInt8) (c : Nat) : Bool := t.any (fun x => x.toNat == c)
def figs : List UInt8 := [97, 98, 99, 100, 101, 102, 103, 104, 105, 106, 107, 108, 109, 110, 111, 112, 113, 114, 115, 116, 117, 118, 119, 120, 121, 122, 48, 49, 50, 51, 52, 53, 54, 55, 56, 57]
theorem in_figs : ∀ c : Nat, c < 256 → inT figs c = plainN c := by decide +kernel
theorem in_mid : ∀ c : Nat, c < 256 → inT [46, 95, 45] c = midN c := by decide +kernel
set_option maxRecDepth 100000 in
set_option maxHeartbeats 1600000 in
theorem one_any (c : Nat) (l : List UInt8) (w : World) (hs : l.length ≤ 140737488355328) : Calls Try.prog 75 #[.int .u8 c, .string ⟨l.toArray⟩] w (Still (.bool (inT l c)) w) := by
  have hsz : (⟨l.toArray⟩ : ByteArray).size = l.length := by simp [ByteArray.size]
  go_enter Try.func75, Try.ntmps75
  go_wp2_with fail
  go_loopw [5] (fun i wr => ∃ k : Nat, k ≤ l.length ∧ i = .int .i64 k ∧ Hid (inT (l.take k) c = false) ∧ Hid (wr = w)) (fun i _ => l.length - (intOf i).toNat)
  case atStart => exact ⟨0, by omega, rfl, rfl, rfl⟩
  case round =>
    obtain ⟨k, hk, rfl, HK, HW⟩ := hrel
    by_cases hlt : k < l.length
    · have hb := bt_bd l k
      obtain ⟨d, hc⟩ : ∃ c : Nat, B.bt l k = (c : Int) := ⟨(B.bt l k).toNat, by omega⟩
      have hgc : (l.getD k 0).toNat = d := by unfold B.bt at hc; omega
      have hg : l[k] = l.getD k 0 := by simp [List.getD_eq_getElem?_getD, hlt]
      have HC0 := Lib.hid (show B.bt l (k : Int).toNat = (d : Int) by rw [Int.toNat_natCast]; exact hc)
      have HST := Lib.hid (show inT (l.take (k + 1)) c = (d == c) by
        unfold inT
        rw [List.take_succ_eq_append_getElem hlt, List.any_append, show (l.take k).any (fun x => x.toNat == c) = false from HK.out, Bool.false_or, hg]
        show (((l.getD k 0).toNat == c) || false) = _
        rw [hgc, Bool.or_false])
      have HYE := Lib.hid (show (d == c) = true → inT l c = true by
        intro h
        unfold inT
        rw [← List.take_append_drop (k + 1) l, List.any_append, show (l.take (k + 1)).any (fun x => x.toNat == c) = true from HST.out.trans h]; rfl)
      have hk0 : (0 : Int) ≤ (k : Int) := by omega
      have hk1 : (k : Int) < (l.length : Int) := by omega
      clear hb hc hgc hg
      by_cases hdc : d = c
      · have HT := Lib.hid (HYE.out (by rw [hdc]; exact beq_self_eq_true c))
        have e1 : ((d : Int) == (c : Int)) = true := by rw [hdc]; exact beq_self_eq_true _
        clear hdc
        go_wp2_with (refine wpList_idx rfl _ _ rfl l k d rfl rfl hk0 hk1 HC0.out ?_)
        go_ret
        exact ⟨ret_eq (by rw [HT.out]; try rfl), HW.out⟩
      · have HK2 := Lib.hid (show inT (l.take (k + 1)) c = false by rw [HST.out]; exact beq_eq_false_iff_ne.2 hdc)
        have e1 : ((d : Int) == (c : Int)) = false := by rw [beq_eq_false_iff_ne]; omega
        clear hdc
        go_wp2_with (refine wpList_idx rfl _ _ rfl l k d rfl rfl hk0 hk1 HC0.out ?_)
        go_roundw
        case rel => exact ⟨k + 1, by omega, by go_num, HK2, HW⟩
        case measure => simp [intOf]; omega
    · obtain rfl : k = l.length := by omega
      have HT := Lib.hid (show inT l c = false by have h := HK.out; rw [List.take_length] at h; exact h)
      go_wp2_with fail
      go_ret
      exact ⟨ret_eq (by rw [HT.out]; try rfl), HW.out⟩
set_option maxRecDepth 100000 in
set_option maxHeartbeats 1600000 in
theorem reftag_any (s : ByteArray) (w : World) (hs : s.size ≤ 140737488355328) : Calls Try.prog 61 #[.string s] w (Still (.bool (tagB s.data.toList)) w) := by
  obtain ⟨l, rfl⟩ : ∃ l : List UInt8, s = ⟨l.toArray⟩ := ⟨s.data.toList, by cases s; simp⟩
  have hsz : (⟨l.toArray⟩ : ByteArray).size = l.length := by simp [ByteArray.size]
  rw [hsz] at hs
  show Calls _ _ _ _ (Still (.bool (tagB l)) w)
  go_enter Try.func61, Try.ntmps61
  go_wp2_with fail
  go_loopw [4] (fun i wr => ∃ k : Nat, k ≤ l.length ∧ i = .int .i64 k ∧ Hid ((l.take k).all (fun c => plainN c.toNat || midN c.toNat) = true) ∧ Hid (0 < k → plainN (l.getD 0 0).toNat = true) ∧ Hid (wr = w)) (fun i _ => l.length - (intOf i).toNat)
  case atStart => exact ⟨0, by omega, rfl, rfl, fun h => absurd h (by omega), rfl⟩
  case round =>
    obtain ⟨k, hk, rfl, HK, HP, HW⟩ := hrel
    by_cases hlt : k < l.length
    · have hb := bt_bd l k
      obtain ⟨c, hc⟩ : ∃ c : Nat, B.bt l k = (c : Int) := ⟨(B.bt l k).toNat, by omega⟩
      have hc256 : c < 256 := by omega
      have H1 := Lib.hid (fun (W : World) => (show Calls Try.prog 75 #[.int .u8 c, .string ⟨#[97, 98, 99, 100, 101, 102, 103, 104, 105, 106, 107, 108, 109, 110, 111, 112, 113, 114, 115, 116, 117, 118, 119, 120, 121, 122, 48, 49, 50, 51, 52, 53, 54, 55, 56, 57]⟩] W (Still (.bool (plainN c)) W) from in_figs c hc256 ▸ one_any c figs W (by decide)))
      have H2 := Lib.hid (fun (W : World) => (show Calls Try.prog 75 #[.int .u8 c, .string ⟨#[46, 95, 45]⟩] W (Still (.bool (midN c)) W) from in_mid c hc256 ▸ one_any c [46, 95, 45] W (by decide)))
      have hgc : (l.getD k 0).toNat = c := by unfold B.bt at hc; omega
      have hg : l[k] = l.getD k 0 := by simp [List.getD_eq_getElem?_getD, hlt]
      have HC0 := Lib.hid (show B.bt l (k : Int).toNat = (c : Int) by rw [Int.toNat_natCast]; exact hc)
      have HST := Lib.hid (show (l.take (k + 1)).all (fun c => plainN c.toNat || midN c.toNat) = (plainN c || midN c) by
        rw [List.take_succ_eq_append_getElem hlt, List.all_append, HK.out, Bool.true_and, hg]
        show ((plainN (l.getD k 0).toNat || midN (l.getD k 0).toNat) && true) = _
        rw [hgc, Bool.and_true])
      have HNO := Lib.hid (show (plainN c || midN c) = false → tagB l = false by
        intro h
        have e : l.all (fun c => plainN c.toNat || midN c.toNat) = false := by
          rw [← List.take_append_drop (k + 1) l, List.all_append, HST.out, h]; rfl
        unfold tagB
        rw [e, Bool.and_false, Bool.and_false])
      have HP1 := Lib.hid (show k = 0 → plainN c = false → tagB l = false by
        intro h1 h2
        subst h1
        unfold tagB
        rw [hgc, h2, Bool.false_and, Bool.and_false])
      have HP2 := Lib.hid (show plainN c = true → 0 < k + 1 → plainN (l.getD 0 0).toNat = true by
        intro h1 _
        rcases Nat.eq_zero_or_pos k with h | h
        · subst h; rw [hgc]; exact h1
        · exact HP.out h)
      have hk0 : (0 : Int) ≤ (k : Int) := by omega
      have hk1 : (k : Int) < (l.length : Int) := by omega
      generalize hpc : plainN c = q at *
      generalize hmc : midN c = m at *
      clear hpc hmc hb hc hgc hg
      cases q with
      | true =>
        have HK2 := Lib.hid (show (l.take (k + 1)).all (fun c => plainN c.toNat || midN c.toNat) = true by rw [HST.out]; rfl)
        have HP3 := Lib.hid (HP2.out rfl)
        go_wp2_with (refine wpList_idx rfl _ _ rfl l k c rfl rfl hk0 hk1 HC0.out ?_)
        refine (H1.out _).mono ?_
        rintro e w1 ⟨rfl, hw1⟩
        rw [← hw1] at HW
        clear hw1
        go_wp2_with fail
        go_roundw
        case rel => exact ⟨k + 1, by omega, by go_num, HK2, HP3, HW⟩
        case measure => simp [intOf]; omega
      | false =>
        by_cases hz : k = 0
        · have HT := Lib.hid (HP1.out hz rfl)
          have e0 : ((k : Int) == 0) = true := by rw [hz]; rfl
          clear hz
          go_wp2_with (refine wpList_idx rfl _ _ rfl l k c rfl rfl hk0 hk1 HC0.out ?_)
          refine (H1.out _).mono ?_
          rintro e w1 ⟨rfl, hw1⟩
          rw [← hw1] at HW
          clear hw1
          go_wp2_with fail
          go_ret
          exact ⟨ret_eq (by rw [HT.out]; try rfl), HW.out⟩
        · have e0 : ((k : Int) == 0) = false := by rw [beq_eq_false_iff_ne]; omega
          have HP3 := Lib.hid (show 0 < k + 1 → plainN (l.getD 0 0).toNat = true from fun _ => HP.out (by omega))
          cases m with
          | true =>
            have HK2 := Lib.hid (show (l.take (k + 1)).all (fun c => plainN c.toNat || midN c.toNat) = true by rw [HST.out]; rfl)
            go_wp2_with (refine wpList_idx rfl _ _ rfl l k c rfl rfl hk0 hk1 HC0.out ?_)
            refine (H1.out _).mono ?_
            rintro e w1 ⟨rfl, hw1⟩
            rw [← hw1] at HW
            clear hw1
            go_wp2_with (refine wpList_idx rfl _ _ rfl l k c rfl rfl hk0 hk1 HC0.out ?_)
            refine (H2.out _).mono ?_
            rintro e w2 ⟨rfl, hw1⟩
            rw [← hw1] at HW
            clear hw1
            go_wp2_with fail
            go_roundw
            case rel => exact ⟨k + 1, by omega, by go_num, HK2, HP3, HW⟩
            case measure => simp [intOf]; omega
          | false =>
            have HT := Lib.hid (HNO.out rfl)
            go_wp2_with (refine wpList_idx rfl _ _ rfl l k c rfl rfl hk0 hk1 HC0.out ?_)
            refine (H1.out _).mono ?_
            rintro e w1 ⟨rfl, hw1⟩
            rw [← hw1] at HW
            clear hw1
            go_wp2_with (refine wpList_idx rfl _ _ rfl l k c rfl rfl hk0 hk1 HC0.out ?_)
            refine (H2.out _).mono ?_
            rintro e w2 ⟨rfl, hw1⟩
            rw [← hw1] at HW
            clear hw1
            go_wp2_with fail
            go_ret
            exact ⟨ret_eq (by rw [HT.out]; try rfl), HW.out⟩
    · obtain rfl : k = l.length := by omega
      have HA := Lib.hid (show l.all (fun c => plainN c.toNat || midN c.toNat) = true by have h := HK.out; rw [List.take_length] at h; exact h)
      by_cases h1 : 1 ≤ l.length
      · have g1 : decide ((1 : Int) ≤ (l.length : Int)) = true := decide_eq_true (by omega)
        have HTA := Lib.hid (show tagB l = decide (1 ≤ l.length ∧ l.length ≤ 32) by unfold tagB; rw [HA.out, HP.out (by omega), Bool.and_true, Bool.and_true])
        by_cases h2 : l.length ≤ 32
        · have g2 : decide ((l.length : Int) ≤ 32) = true := decide_eq_true (by omega)
          have HT := Lib.hid (show tagB l = true by rw [HTA.out]; exact decide_eq_true ⟨h1, h2⟩)
          go_wp2_with fail
          go_ret
          exact ⟨ret_eq (by rw [HT.out]; try rfl), HW.out⟩
        · have g2 : decide ((l.length : Int) ≤ 32) = false := decide_eq_false (by omega)
          have HT := Lib.hid (show tagB l = false by rw [HTA.out]; exact decide_eq_false (by omega))
          go_wp2_with fail
          go_ret
          exact ⟨ret_eq (by rw [HT.out]; try rfl), HW.out⟩
      · have g1 : decide ((1 : Int) ≤ (l.length : Int)) = false := decide_eq_false (by omega)
        have HT := Lib.hid (show tagB l = false by unfold tagB; rw [decide_eq_false (by omega)]; rfl)
        go_wp2_with fail
        go_ret
        exact ⟨ret_eq (by rw [HT.out]; try rfl), HW.out⟩
end Go.Proofs.Ytdkadeihhgjiaaa.Rc
/- records: cells; what is wrong with one. -/
set_option linter.unusedVariables false
set_option linter.unusedSimpArgs false
namespace Go.Proofs.Ytdkadeihhgjiaaa.Rc
open Go.RowKit Go.Proofs.YtdkadeihhgjiaaaW.PrintWords Go.Proofs.Ytdkadeihhgjiaaa.B
/-- a record's cells -/
def recC (k : Int) (s : Nat) (d : List UInt8) (nm : ByteArray) (A : Option Addr) (m c : Nat) (n z : Int) : Array Value :=
  (Value.int .i64 k :: .int .u64 s :: (d.map encB ++ [.string nm, .slice A m c, .int .i64 n, .int .i64 z])).toArray
structure RecF (X : Array Value) (k : Int) (s : Nat) (d : List UInt8) (nm : ByteArray) (A : Option Addr) (m c : Nat) (n z : Int) : Prop where
  eq : X = recC k s d nm A m c n z
  dl : d.length = 32
section
variable {X : Array Value} {k : Int} {s : Nat} {d : List UInt8} {nm : ByteArray} {A : Option Addr} {m c : Nat} {n z : Int}
theorem recF (hd : d.length = 32) : RecF (recC k s d nm A m c n z) k s d nm A m c n z := ⟨rfl, hd⟩
theorem RecF.c0 (h : RecF X k s d nm A m c n z) : X[0]? = some (.int .i64 k) := by rw [h.eq]; simp [recC]
theorem RecF.c1 (h : RecF X k s d nm A m c n z) : X[1]? = some (.int .u64 s) := by rw [h.eq]; simp [recC]
theorem RecF.tl (h : RecF X k s d nm A m c n z) (j : Nat) : X[2 + 32 + j]? = ([.string nm, .slice A m c, .int .i64 n, .int .i64 z] : List Value)[j]? := by
  rw [h.eq, recC, List.getElem?_toArray, show 2 + 32 + j = (32 + j) + 1 + 1 by omega, List.getElem?_cons_succ, List.getElem?_cons_succ, List.getElem?_append_right (by simp [h.dl])]
  simp [h.dl]
theorem RecF.c34 (h : RecF X k s d nm A m c n z) : X[34]? = some (.string nm) := h.tl 0
theorem RecF.c35 (h : RecF X k s d nm A m c n z) : X[35]? = some (.slice A m c) := h.tl 1
theorem RecF.c36 (h : RecF X k s d nm A m c n z) : X[36]? = some (.int .i64 n) := h.tl 2
theorem RecF.c37 (h : RecF X k s d nm A m c n z) : X[37]? = some (.int .i64 z) := h.tl 3
theorem RecF.size (h : RecF X k s d nm A m c n z) : X.size = 38 := by rw [h.eq]; simp [recC, h.dl]
theorem RecF.dig (h : RecF X k s d nm A m c n z) (j : Nat) (v : Value) (hv : (d.map encB)[j]? = some v) : X[2 + j]? = some v := by
  have hj : j < (d.map encB).length := (List.getElem?_eq_some_iff.1 hv).1
  rw [h.eq, recC, List.getElem?_toArray, show 2 + j = j + 1 + 1 by omega, List.getElem?_cons_succ, List.getElem?_cons_succ, List.getElem?_append_left hj, hv]
theorem RecF.one (h : RecF X k s d nm A m c n z) : X.all (·.oneCell') = true := by
  rw [h.eq, recC]
  refine Array.all_eq_true_iff_forall_mem.2 (fun v hv => ?_)
  rw [List.mem_toArray] at hv
  rcases List.mem_cons.1 hv with rfl | hv
  · rfl
  rcases List.mem_cons.1 hv with rfl | hv
  · rfl
  rcases List.mem_append.1 hv with hv | hv
  · obtain ⟨y, -, rfl⟩ := List.mem_map.1 hv; rfl
  · simp at hv
    rcases hv with rfl | rfl | rfl | rfl <;> rfl
/-- the digest of a boxed record is read -/
theorem RecF.rd (h : RecF X k s d nm A m c n z) {W : World} {g : Nat} {t : TypeId} {fr : Nat × Nat} (hg : W.heap[g]? = some (.cells X t fr)) : Rd W (some ⟨g, 2, none⟩) d :=
  rd_at (range_blk hg (fun j v hv => h.dig j v hv)) (by rw [h.dl]; decide)
end
theorem infoRec : (Try.prog.info? 34).map (·.size) = some 38 := by kernel_rfl
/-- what is wrong with a record -/
def rightE (k : Int) (m : Nat) (nm : List UInt8) (n z : Int) : Nat :=
  if k = 1 ∨ k = 2 then (if 65504 < m then 18 else 0)
  else if k = 3 ∨ k = 4 then (if tagB nm then 0 else 12)
  else if k = 5 then 0
  else if k = 6 ∨ k = 8 then (if 0 ≤ n ∧ n ≤ 4294967295 ∧ 0 ≤ z ∧ z ≤ 4294967295 then 0 else 20)
  else if k = 7 then (if 1 ≤ n ∧ n ≤ 99999999 then 0 else 20)
  else 2
end Go.Proofs.Ytdkadeihhgjiaaa.Rc
/- record.Right, the document's own Right. -/
set_option linter.unusedVariables false
set_option linter.unusedSimpArgs false
namespace Go.Proofs.Ytdkadeihhgjiaaa.Rc
open Go.RowKit Go.Proofs.YtdkadeihhgjiaaaW.PrintWords Go.Proofs.Ytdkadeihhgjiaaa.B

set_option maxRecDepth 100000 in
set_option maxHeartbeats 3200000 in
theorem right_any (X : Array Value) (k : Int) (s : Nat) (d : List UInt8) (nm : ByteArray) (A : Option Addr) (m c : Nat) (n z : Int) (w : World) (hX : RecF X k s d nm A m c n z) (hm : m ≤ 9223372036854775807) (hnm : nm.size ≤ 140737488355328) :
    Calls Try.prog 39 #[.agg X] w (Kept (.int .i64 (rightE k m nm.data.toList n z)) w) := by
  have h0 := hX.c0
  have h34 := hX.c34
  have h35 := hX.c35
  have h36 := hX.c36
  have h37 := hX.c37
  have HTG := Lib.hid (fun (W : World) => tag_any nm W hnm)
  have hTL : ∀ b, tagB nm.data.toList = b → (3 = 1 ∨ 3 = 3) := fun _ _ => .inr rfl
  clear hX hnm hTL
  by_cases k1 : k = 1
  · subst k1
    clear HTG
    by_cases hb : 65504 < m
    · clear h36 h37 h34
      have HE := Lib.hid (show rightE 1 m nm.data.toList n z = 18 from by unfold rightE; rw [if_pos (by omega), if_pos hb])
      have d0 : decide ((65504 : Int) < (m : Int)) = true := decide_eq_true (by omega)
      go_enter Try.func39, Try.ntmps39
      go_wp2_with fail
      go_ret
      exact ⟨ret_eq (by rw [HE.out]; try rfl), below_alloc (Below.refl _ _) _⟩
    · clear h36 h37 h34
      have HE := Lib.hid (show rightE 1 m nm.data.toList n z = 0 from by unfold rightE; rw [if_pos (by omega), if_neg hb])
      have d0 : decide ((65504 : Int) < (m : Int)) = false := decide_eq_false (by omega)
      go_enter Try.func39, Try.ntmps39
      go_wp2_with fail
      go_ret
      exact ⟨ret_eq (by rw [HE.out]; try rfl), below_alloc (Below.refl _ _) _⟩
  by_cases k2 : k = 2
  · subst k2
    clear HTG
    by_cases hb : 65504 < m
    · clear h36 h37 h34
      have HE := Lib.hid (show rightE 2 m nm.data.toList n z = 18 from by unfold rightE; rw [if_pos (by omega), if_pos hb])
      have d0 : decide ((65504 : Int) < (m : Int)) = true := decide_eq_true (by omega)
      go_enter Try.func39, Try.ntmps39
      go_wp2_with fail
      go_ret
      exact ⟨ret_eq (by rw [HE.out]; try rfl), below_alloc (Below.refl _ _) _⟩
    · clear h36 h37 h34
      have HE := Lib.hid (show rightE 2 m nm.data.toList n z = 0 from by unfold rightE; rw [if_pos (by omega), if_neg hb])
      have d0 : decide ((65504 : Int) < (m : Int)) = false := decide_eq_false (by omega)
      go_enter Try.func39, Try.ntmps39
      go_wp2_with fail
      go_ret
      exact ⟨ret_eq (by rw [HE.out]; try rfl), below_alloc (Below.refl _ _) _⟩
  by_cases k3 : k = 3
  · subst k3
    clear h35 h36 h37
    cases hb : tagB nm.data.toList
    · rw [hb] at HTG
      have HE := Lib.hid (show rightE 3 m nm.data.toList n z = 12 from by unfold rightE; rw [if_neg (by omega), if_pos (by omega), hb]; rfl)
      go_enter Try.func39, Try.ntmps39
      go_wp2_with fail
      refine (HTG.out _).mono ?_
      rintro e w1 ⟨rfl, hw1⟩
      rw [hw1]
      clear hw1 w1
      go_wp2_with fail
      go_ret
      exact ⟨ret_eq (by rw [HE.out]; try rfl), below_alloc (Below.refl _ _) _⟩
    · rw [hb] at HTG
      have HE := Lib.hid (show rightE 3 m nm.data.toList n z = 0 from by unfold rightE; rw [if_neg (by omega), if_pos (by omega), hb]; rfl)
      go_enter Try.func39, Try.ntmps39
      go_wp2_with fail
      refine (HTG.out _).mono ?_
      rintro e w1 ⟨rfl, hw1⟩
      rw [hw1]
      clear hw1 w1
      go_wp2_with fail
      go_ret
      exact ⟨ret_eq (by rw [HE.out]; try rfl), below_alloc (Below.refl _ _) _⟩
  by_cases k4 : k = 4
  · subst k4
    clear h35 h36 h37
    cases hb : tagB nm.data.toList
    · rw [hb] at HTG
      have HE := Lib.hid (show rightE 4 m nm.data.toList n z = 12 from by unfold rightE; rw [if_neg (by omega), if_pos (by omega), hb]; rfl)
      go_enter Try.func39, Try.ntmps39
      go_wp2_with fail
      refine (HTG.out _).mono ?_
      rintro e w1 ⟨rfl, hw1⟩
      rw [hw1]
      clear hw1 w1
      go_wp2_with fail
      go_ret
      exact ⟨ret_eq (by rw [HE.out]; try rfl), below_alloc (Below.refl _ _) _⟩
    · rw [hb] at HTG
      have HE := Lib.hid (show rightE 4 m nm.data.toList n z = 0 from by unfold rightE; rw [if_neg (by omega), if_pos (by omega), hb]; rfl)
      go_enter Try.func39, Try.ntmps39
      go_wp2_with fail
      refine (HTG.out _).mono ?_
      rintro e w1 ⟨rfl, hw1⟩
      rw [hw1]
      clear hw1 w1
      go_wp2_with fail
      go_ret
      exact ⟨ret_eq (by rw [HE.out]; try rfl), below_alloc (Below.refl _ _) _⟩
  by_cases k5 : k = 5
  · subst k5
    clear h35 h36 h37 h34 HTG
    have HE := Lib.hid (show rightE 5 m nm.data.toList n z = 0 from by unfold rightE; rw [if_neg (by omega), if_neg (by omega), if_pos rfl])
    go_enter Try.func39, Try.ntmps39
    go_wp2_with fail
    go_ret
    exact ⟨ret_eq (by rw [HE.out]; try rfl), below_alloc (Below.refl _ _) _⟩
  by_cases k6 : k = 6
  · subst k6
    clear h34 h35 HTG
    by_cases q4 : n < 0
    · have HE := Lib.hid (show rightE 6 m nm.data.toList n z = 20 from by unfold rightE; rw [if_neg (by omega), if_neg (by omega), if_neg (by omega), if_pos (by omega), if_neg (by omega)])
      have d0 : decide (n < 0) = true := decide_eq_true (by omega)
      go_enter Try.func39, Try.ntmps39
      go_wp2_with fail
      go_ret
      exact ⟨ret_eq (by rw [HE.out]; try rfl), below_alloc (Below.refl _ _) _⟩
    · skip
      by_cases q6 : 4294967295 < n
      · have HE := Lib.hid (show rightE 6 m nm.data.toList n z = 20 from by unfold rightE; rw [if_neg (by omega), if_neg (by omega), if_neg (by omega), if_pos (by omega), if_neg (by omega)])
        have d0 : decide (n < 0) = false := decide_eq_false (by omega)
        have d1 : decide (4294967295 < n) = true := decide_eq_true (by omega)
        go_enter Try.func39, Try.ntmps39
        go_wp2_with fail
        go_ret
        exact ⟨ret_eq (by rw [HE.out]; try rfl), below_alloc (Below.refl _ _) _⟩
      · skip
        by_cases q8 : z < 0
        · have HE := Lib.hid (show rightE 6 m nm.data.toList n z = 20 from by unfold rightE; rw [if_neg (by omega), if_neg (by omega), if_neg (by omega), if_pos (by omega), if_neg (by omega)])
          have d0 : decide (n < 0) = false := decide_eq_false (by omega)
          have d1 : decide (4294967295 < n) = false := decide_eq_false (by omega)
          have d2 : decide (z < 0) = true := decide_eq_true (by omega)
          go_enter Try.func39, Try.ntmps39
          go_wp2_with fail
          go_ret
          exact ⟨ret_eq (by rw [HE.out]; try rfl), below_alloc (Below.refl _ _) _⟩
        · skip
          by_cases q10 : 4294967295 < z
          · have HE := Lib.hid (show rightE 6 m nm.data.toList n z = 20 from by unfold rightE; rw [if_neg (by omega), if_neg (by omega), if_neg (by omega), if_pos (by omega), if_neg (by omega)])
            have d0 : decide (n < 0) = false := decide_eq_false (by omega)
            have d1 : decide (4294967295 < n) = false := decide_eq_false (by omega)
            have d2 : decide (z < 0) = false := decide_eq_false (by omega)
            have d3 : decide (4294967295 < z) = true := decide_eq_true (by omega)
            go_enter Try.func39, Try.ntmps39
            go_wp2_with fail
            go_ret
            exact ⟨ret_eq (by rw [HE.out]; try rfl), below_alloc (Below.refl _ _) _⟩
          · skip
            have HE := Lib.hid (show rightE 6 m nm.data.toList n z = 0 from by unfold rightE; rw [if_neg (by omega), if_neg (by omega), if_neg (by omega), if_pos (by omega), if_pos (by omega)])
            have d0 : decide (n < 0) = false := decide_eq_false (by omega)
            have d1 : decide (4294967295 < n) = false := decide_eq_false (by omega)
            have d2 : decide (z < 0) = false := decide_eq_false (by omega)
            have d3 : decide (4294967295 < z) = false := decide_eq_false (by omega)
            go_enter Try.func39, Try.ntmps39
            go_wp2_with fail
            go_ret
            exact ⟨ret_eq (by rw [HE.out]; try rfl), below_alloc (Below.refl _ _) _⟩
  by_cases k7 : k = 7
  · subst k7
    clear h34 h35 h37 HTG
    by_cases q0 : n < 1
    · have HE := Lib.hid (show rightE 7 m nm.data.toList n z = 20 from by unfold rightE; rw [if_neg (by omega), if_neg (by omega), if_neg (by omega), if_neg (by omega), if_pos rfl, if_neg (by omega)])
      have d0 : decide (n < 1) = true := decide_eq_true (by omega)
      go_enter Try.func39, Try.ntmps39
      go_wp2_with fail
      go_ret
      exact ⟨ret_eq (by rw [HE.out]; try rfl), below_alloc (Below.refl _ _) _⟩
    · by_cases q1 : 99999999 < n
      · have HE := Lib.hid (show rightE 7 m nm.data.toList n z = 20 from by unfold rightE; rw [if_neg (by omega), if_neg (by omega), if_neg (by omega), if_neg (by omega), if_pos rfl, if_neg (by omega)])
        have d0 : decide (n < 1) = false := decide_eq_false (by omega)
        have d1 : decide (99999999 < n) = true := decide_eq_true (by omega)
        go_enter Try.func39, Try.ntmps39
        go_wp2_with fail
        go_ret
        exact ⟨ret_eq (by rw [HE.out]; try rfl), below_alloc (Below.refl _ _) _⟩
      · have HE := Lib.hid (show rightE 7 m nm.data.toList n z = 0 from by unfold rightE; rw [if_neg (by omega), if_neg (by omega), if_neg (by omega), if_neg (by omega), if_pos rfl, if_pos (by omega)])
        have d0 : decide (n < 1) = false := decide_eq_false (by omega)
        have d1 : decide (99999999 < n) = false := decide_eq_false (by omega)
        go_enter Try.func39, Try.ntmps39
        go_wp2_with fail
        go_ret
        exact ⟨ret_eq (by rw [HE.out]; try rfl), below_alloc (Below.refl _ _) _⟩
  by_cases k8 : k = 8
  · subst k8
    clear h34 h35 HTG
    by_cases q4 : n < 0
    · have HE := Lib.hid (show rightE 8 m nm.data.toList n z = 20 from by unfold rightE; rw [if_neg (by omega), if_neg (by omega), if_neg (by omega), if_pos (by omega), if_neg (by omega)])
      have d0 : decide (n < 0) = true := decide_eq_true (by omega)
      go_enter Try.func39, Try.ntmps39
      go_wp2_with fail
      go_ret
      exact ⟨ret_eq (by rw [HE.out]; try rfl), below_alloc (Below.refl _ _) _⟩
    · skip
      by_cases q6 : 4294967295 < n
      · have HE := Lib.hid (show rightE 8 m nm.data.toList n z = 20 from by unfold rightE; rw [if_neg (by omega), if_neg (by omega), if_neg (by omega), if_pos (by omega), if_neg (by omega)])
        have d0 : decide (n < 0) = false := decide_eq_false (by omega)
        have d1 : decide (4294967295 < n) = true := decide_eq_true (by omega)
        go_enter Try.func39, Try.ntmps39
        go_wp2_with fail
        go_ret
        exact ⟨ret_eq (by rw [HE.out]; try rfl), below_alloc (Below.refl _ _) _⟩
      · skip
        by_cases q8 : z < 0
        · have HE := Lib.hid (show rightE 8 m nm.data.toList n z = 20 from by unfold rightE; rw [if_neg (by omega), if_neg (by omega), if_neg (by omega), if_pos (by omega), if_neg (by omega)])
          have d0 : decide (n < 0) = false := decide_eq_false (by omega)
          have d1 : decide (4294967295 < n) = false := decide_eq_false (by omega)
          have d2 : decide (z < 0) = true := decide_eq_true (by omega)
          go_enter Try.func39, Try.ntmps39
          go_wp2_with fail
          go_ret
          exact ⟨ret_eq (by rw [HE.out]; try rfl), below_alloc (Below.refl _ _) _⟩
        · skip
          by_cases q10 : 4294967295 < z
          · have HE := Lib.hid (show rightE 8 m nm.data.toList n z = 20 from by unfold rightE; rw [if_neg (by omega), if_neg (by omega), if_neg (by omega), if_pos (by omega), if_neg (by omega)])
            have d0 : decide (n < 0) = false := decide_eq_false (by omega)
            have d1 : decide (4294967295 < n) = false := decide_eq_false (by omega)
            have d2 : decide (z < 0) = false := decide_eq_false (by omega)
            have d3 : decide (4294967295 < z) = true := decide_eq_true (by omega)
            go_enter Try.func39, Try.ntmps39
            go_wp2_with fail
            go_ret
            exact ⟨ret_eq (by rw [HE.out]; try rfl), below_alloc (Below.refl _ _) _⟩
          · skip
            have HE := Lib.hid (show rightE 8 m nm.data.toList n z = 0 from by unfold rightE; rw [if_neg (by omega), if_neg (by omega), if_neg (by omega), if_pos (by omega), if_pos (by omega)])
            have d0 : decide (n < 0) = false := decide_eq_false (by omega)
            have d1 : decide (4294967295 < n) = false := decide_eq_false (by omega)
            have d2 : decide (z < 0) = false := decide_eq_false (by omega)
            have d3 : decide (4294967295 < z) = false := decide_eq_false (by omega)
            go_enter Try.func39, Try.ntmps39
            go_wp2_with fail
            go_ret
            exact ⟨ret_eq (by rw [HE.out]; try rfl), below_alloc (Below.refl _ _) _⟩
  have b1 : (k == 1) = false := beq_eq_false_iff_ne.2 k1
  have b2 : (k == 2) = false := beq_eq_false_iff_ne.2 k2
  have b3 : (k == 3) = false := beq_eq_false_iff_ne.2 k3
  have b4 : (k == 4) = false := beq_eq_false_iff_ne.2 k4
  have b5 : (k == 5) = false := beq_eq_false_iff_ne.2 k5
  have b6 : (k == 6) = false := beq_eq_false_iff_ne.2 k6
  have b7 : (k == 7) = false := beq_eq_false_iff_ne.2 k7
  have b8 : (k == 8) = false := beq_eq_false_iff_ne.2 k8
  have HE := Lib.hid (show rightE k m nm.data.toList n z = 2 from by unfold rightE; rw [if_neg (by omega), if_neg (by omega), if_neg (by omega), if_neg (by omega), if_neg (by omega)])
  clear k1 k2 k3 k4 k5 k6 k7 k8 h34 h35 h36 h37 HTG
  go_enter Try.func39, Try.ntmps39
  go_wp2_with fail
  go_ret
  exact ⟨ret_eq (by rw [HE.out]; try rfl), below_alloc (Below.refl _ _) _⟩
set_option maxRecDepth 100000 in
set_option maxHeartbeats 3200000 in
theorem refright_any (X : Array Value) (k : Int) (s : Nat) (d : List UInt8) (nm : ByteArray) (A : Option Addr) (m c : Nat) (n z : Int) (w : World) (hX : RecF X k s d nm A m c n z) (hm : m ≤ 9223372036854775807) (hnm : nm.size ≤ 140737488355328) :
    Calls Try.prog 40 #[.agg X] w (Kept (.int .i64 (rightE k m nm.data.toList n z)) w) := by
  have h0 := hX.c0
  have h34 := hX.c34
  have h35 := hX.c35
  have h36 := hX.c36
  have h37 := hX.c37
  have HTG := Lib.hid (fun (W : World) => reftag_any nm W hnm)
  have hTL : ∀ b, tagB nm.data.toList = b → (3 = 1 ∨ 3 = 3) := fun _ _ => .inr rfl
  clear hX hnm hTL
  by_cases k1 : k = 1
  · subst k1
    clear HTG
    by_cases hb : 65504 < m
    · clear h36 h37 h34
      have HE := Lib.hid (show rightE 1 m nm.data.toList n z = 18 from by unfold rightE; rw [if_pos (by omega), if_pos hb])
      have d0 : decide ((65504 : Int) < (m : Int)) = true := decide_eq_true (by omega)
      go_enter Try.func40, Try.ntmps40
      go_wp2_with fail
      go_ret
      exact ⟨ret_eq (by rw [HE.out]; try rfl), below_alloc (Below.refl _ _) _⟩
    · clear h36 h37 h34
      have HE := Lib.hid (show rightE 1 m nm.data.toList n z = 0 from by unfold rightE; rw [if_pos (by omega), if_neg hb])
      have d0 : decide ((65504 : Int) < (m : Int)) = false := decide_eq_false (by omega)
      go_enter Try.func40, Try.ntmps40
      go_wp2_with fail
      go_ret
      exact ⟨ret_eq (by rw [HE.out]; try rfl), below_alloc (Below.refl _ _) _⟩
  by_cases k2 : k = 2
  · subst k2
    clear HTG
    by_cases hb : 65504 < m
    · clear h36 h37 h34
      have HE := Lib.hid (show rightE 2 m nm.data.toList n z = 18 from by unfold rightE; rw [if_pos (by omega), if_pos hb])
      have d0 : decide ((65504 : Int) < (m : Int)) = true := decide_eq_true (by omega)
      go_enter Try.func40, Try.ntmps40
      go_wp2_with fail
      go_ret
      exact ⟨ret_eq (by rw [HE.out]; try rfl), below_alloc (Below.refl _ _) _⟩
    · clear h36 h37 h34
      have HE := Lib.hid (show rightE 2 m nm.data.toList n z = 0 from by unfold rightE; rw [if_pos (by omega), if_neg hb])
      have d0 : decide ((65504 : Int) < (m : Int)) = false := decide_eq_false (by omega)
      go_enter Try.func40, Try.ntmps40
      go_wp2_with fail
      go_ret
      exact ⟨ret_eq (by rw [HE.out]; try rfl), below_alloc (Below.refl _ _) _⟩
  by_cases k3 : k = 3
  · subst k3
    clear h35 h36 h37
    cases hb : tagB nm.data.toList
    · rw [hb] at HTG
      have HE := Lib.hid (show rightE 3 m nm.data.toList n z = 12 from by unfold rightE; rw [if_neg (by omega), if_pos (by omega), hb]; rfl)
      go_enter Try.func40, Try.ntmps40
      go_wp2_with fail
      refine (HTG.out _).mono ?_
      rintro e w1 ⟨rfl, hw1⟩
      rw [hw1]
      clear hw1 w1
      go_wp2_with fail
      go_ret
      exact ⟨ret_eq (by rw [HE.out]; try rfl), below_alloc (Below.refl _ _) _⟩
    · rw [hb] at HTG
      have HE := Lib.hid (show rightE 3 m nm.data.toList n z = 0 from by unfold rightE; rw [if_neg (by omega), if_pos (by omega), hb]; rfl)
      go_enter Try.func40, Try.ntmps40
      go_wp2_with fail
      refine (HTG.out _).mono ?_
      rintro e w1 ⟨rfl, hw1⟩
      rw [hw1]
      clear hw1 w1
      go_wp2_with fail
      go_ret
      exact ⟨ret_eq (by rw [HE.out]; try rfl), below_alloc (Below.refl _ _) _⟩
  by_cases k4 : k = 4
  · subst k4
    clear h35 h36 h37
    cases hb : tagB nm.data.toList
    · rw [hb] at HTG
      have HE := Lib.hid (show rightE 4 m nm.data.toList n z = 12 from by unfold rightE; rw [if_neg (by omega), if_pos (by omega), hb]; rfl)
      go_enter Try.func40, Try.ntmps40
      go_wp2_with fail
      refine (HTG.out _).mono ?_
      rintro e w1 ⟨rfl, hw1⟩
      rw [hw1]
      clear hw1 w1
      go_wp2_with fail
      go_ret
      exact ⟨ret_eq (by rw [HE.out]; try rfl), below_alloc (Below.refl _ _) _⟩
    · rw [hb] at HTG
      have HE := Lib.hid (show rightE 4 m nm.data.toList n z = 0 from by unfold rightE; rw [if_neg (by omega), if_pos (by omega), hb]; rfl)
      go_enter Try.func40, Try.ntmps40
      go_wp2_with fail
      refine (HTG.out _).mono ?_
      rintro e w1 ⟨rfl, hw1⟩
      rw [hw1]
      clear hw1 w1
      go_wp2_with fail
      go_ret
      exact ⟨ret_eq (by rw [HE.out]; try rfl), below_alloc (Below.refl _ _) _⟩
  by_cases k5 : k = 5
  · subst k5
    clear h35 h36 h37 h34 HTG
    have HE := Lib.hid (show rightE 5 m nm.data.toList n z = 0 from by unfold rightE; rw [if_neg (by omega), if_neg (by omega), if_pos rfl])
    go_enter Try.func40, Try.ntmps40
    go_wp2_with fail
    go_ret
    exact ⟨ret_eq (by rw [HE.out]; try rfl), below_alloc (Below.refl _ _) _⟩
  by_cases k6 : k = 6
  · subst k6
    clear h34 h35 HTG
    by_cases q4 : n < 0
    · have HE := Lib.hid (show rightE 6 m nm.data.toList n z = 20 from by unfold rightE; rw [if_neg (by omega), if_neg (by omega), if_neg (by omega), if_pos (by omega), if_neg (by omega)])
      have d0 : decide (n < 0) = true := decide_eq_true (by omega)
      go_enter Try.func40, Try.ntmps40
      go_wp2_with fail
      go_ret
      exact ⟨ret_eq (by rw [HE.out]; try rfl), below_alloc (Below.refl _ _) _⟩
    · skip
      by_cases q6 : z < 0
      · have HE := Lib.hid (show rightE 6 m nm.data.toList n z = 20 from by unfold rightE; rw [if_neg (by omega), if_neg (by omega), if_neg (by omega), if_pos (by omega), if_neg (by omega)])
        have d0 : decide (n < 0) = false := decide_eq_false (by omega)
        have d1 : decide (z < 0) = true := decide_eq_true (by omega)
        go_enter Try.func40, Try.ntmps40
        go_wp2_with fail
        go_ret
        exact ⟨ret_eq (by rw [HE.out]; try rfl), below_alloc (Below.refl _ _) _⟩
      · skip
        by_cases q8 : 4294967295 < n
        · have HE := Lib.hid (show rightE 6 m nm.data.toList n z = 20 from by unfold rightE; rw [if_neg (by omega), if_neg (by omega), if_neg (by omega), if_pos (by omega), if_neg (by omega)])
          have d0 : decide (n < 0) = false := decide_eq_false (by omega)
          have d1 : decide (z < 0) = false := decide_eq_false (by omega)
          have d2 : decide (4294967296 ≤ n) = true := decide_eq_true (by omega)
          go_enter Try.func40, Try.ntmps40
          go_wp2_with fail
          go_ret
          exact ⟨ret_eq (by rw [HE.out]; try rfl), below_alloc (Below.refl _ _) _⟩
        · skip
          by_cases q10 : 4294967295 < z
          · have HE := Lib.hid (show rightE 6 m nm.data.toList n z = 20 from by unfold rightE; rw [if_neg (by omega), if_neg (by omega), if_neg (by omega), if_pos (by omega), if_neg (by omega)])
            have d0 : decide (n < 0) = false := decide_eq_false (by omega)
            have d1 : decide (z < 0) = false := decide_eq_false (by omega)
            have d2 : decide (4294967296 ≤ n) = false := decide_eq_false (by omega)
            have d3 : decide (4294967296 ≤ z) = true := decide_eq_true (by omega)
            go_enter Try.func40, Try.ntmps40
            go_wp2_with fail
            go_ret
            exact ⟨ret_eq (by rw [HE.out]; try rfl), below_alloc (Below.refl _ _) _⟩
          · skip
            have HE := Lib.hid (show rightE 6 m nm.data.toList n z = 0 from by unfold rightE; rw [if_neg (by omega), if_neg (by omega), if_neg (by omega), if_pos (by omega), if_pos (by omega)])
            have d0 : decide (n < 0) = false := decide_eq_false (by omega)
            have d1 : decide (z < 0) = false := decide_eq_false (by omega)
            have d2 : decide (4294967296 ≤ n) = false := decide_eq_false (by omega)
            have d3 : decide (4294967296 ≤ z) = false := decide_eq_false (by omega)
            go_enter Try.func40, Try.ntmps40
            go_wp2_with fail
            go_ret
            exact ⟨ret_eq (by rw [HE.out]; try rfl), below_alloc (Below.refl _ _) _⟩
  by_cases k7 : k = 7
  · subst k7
    clear h34 h35 h37 HTG
    by_cases q0 : n < 1
    · have HE := Lib.hid (show rightE 7 m nm.data.toList n z = 20 from by unfold rightE; rw [if_neg (by omega), if_neg (by omega), if_neg (by omega), if_neg (by omega), if_pos rfl, if_neg (by omega)])
      have d0 : decide (n < 1) = true := decide_eq_true (by omega)
      go_enter Try.func40, Try.ntmps40
      go_wp2_with fail
      go_ret
      exact ⟨ret_eq (by rw [HE.out]; try rfl), below_alloc (Below.refl _ _) _⟩
    · by_cases q1 : 99999999 < n
      · have HE := Lib.hid (show rightE 7 m nm.data.toList n z = 20 from by unfold rightE; rw [if_neg (by omega), if_neg (by omega), if_neg (by omega), if_neg (by omega), if_pos rfl, if_neg (by omega)])
        have d0 : decide (n < 1) = false := decide_eq_false (by omega)
        have d1 : decide (99999999 < n) = true := decide_eq_true (by omega)
        go_enter Try.func40, Try.ntmps40
        go_wp2_with fail
        go_ret
        exact ⟨ret_eq (by rw [HE.out]; try rfl), below_alloc (Below.refl _ _) _⟩
      · have HE := Lib.hid (show rightE 7 m nm.data.toList n z = 0 from by unfold rightE; rw [if_neg (by omega), if_neg (by omega), if_neg (by omega), if_neg (by omega), if_pos rfl, if_pos (by omega)])
        have d0 : decide (n < 1) = false := decide_eq_false (by omega)
        have d1 : decide (99999999 < n) = false := decide_eq_false (by omega)
        go_enter Try.func40, Try.ntmps40
        go_wp2_with fail
        go_ret
        exact ⟨ret_eq (by rw [HE.out]; try rfl), below_alloc (Below.refl _ _) _⟩
  by_cases k8 : k = 8
  · subst k8
    clear h34 h35 HTG
    by_cases q4 : n < 0
    · have HE := Lib.hid (show rightE 8 m nm.data.toList n z = 20 from by unfold rightE; rw [if_neg (by omega), if_neg (by omega), if_neg (by omega), if_pos (by omega), if_neg (by omega)])
      have d0 : decide (n < 0) = true := decide_eq_true (by omega)
      go_enter Try.func40, Try.ntmps40
      go_wp2_with fail
      go_ret
      exact ⟨ret_eq (by rw [HE.out]; try rfl), below_alloc (Below.refl _ _) _⟩
    · skip
      by_cases q6 : z < 0
      · have HE := Lib.hid (show rightE 8 m nm.data.toList n z = 20 from by unfold rightE; rw [if_neg (by omega), if_neg (by omega), if_neg (by omega), if_pos (by omega), if_neg (by omega)])
        have d0 : decide (n < 0) = false := decide_eq_false (by omega)
        have d1 : decide (z < 0) = true := decide_eq_true (by omega)
        go_enter Try.func40, Try.ntmps40
        go_wp2_with fail
        go_ret
        exact ⟨ret_eq (by rw [HE.out]; try rfl), below_alloc (Below.refl _ _) _⟩
      · skip
        by_cases q8 : 4294967295 < n
        · have HE := Lib.hid (show rightE 8 m nm.data.toList n z = 20 from by unfold rightE; rw [if_neg (by omega), if_neg (by omega), if_neg (by omega), if_pos (by omega), if_neg (by omega)])
          have d0 : decide (n < 0) = false := decide_eq_false (by omega)
          have d1 : decide (z < 0) = false := decide_eq_false (by omega)
          have d2 : decide (4294967296 ≤ n) = true := decide_eq_true (by omega)
          go_enter Try.func40, Try.ntmps40
          go_wp2_with fail
          go_ret
          exact ⟨ret_eq (by rw [HE.out]; try rfl), below_alloc (Below.refl _ _) _⟩
        · skip
          by_cases q10 : 4294967295 < z
          · have HE := Lib.hid (show rightE 8 m nm.data.toList n z = 20 from by unfold rightE; rw [if_neg (by omega), if_neg (by omega), if_neg (by omega), if_pos (by omega), if_neg (by omega)])
            have d0 : decide (n < 0) = false := decide_eq_false (by omega)
            have d1 : decide (z < 0) = false := decide_eq_false (by omega)
            have d2 : decide (4294967296 ≤ n) = false := decide_eq_false (by omega)
            have d3 : decide (4294967296 ≤ z) = true := decide_eq_true (by omega)
            go_enter Try.func40, Try.ntmps40
            go_wp2_with fail
            go_ret
            exact ⟨ret_eq (by rw [HE.out]; try rfl), below_alloc (Below.refl _ _) _⟩
          · skip
            have HE := Lib.hid (show rightE 8 m nm.data.toList n z = 0 from by unfold rightE; rw [if_neg (by omega), if_neg (by omega), if_neg (by omega), if_pos (by omega), if_pos (by omega)])
            have d0 : decide (n < 0) = false := decide_eq_false (by omega)
            have d1 : decide (z < 0) = false := decide_eq_false (by omega)
            have d2 : decide (4294967296 ≤ n) = false := decide_eq_false (by omega)
            have d3 : decide (4294967296 ≤ z) = false := decide_eq_false (by omega)
            go_enter Try.func40, Try.ntmps40
            go_wp2_with fail
            go_ret
            exact ⟨ret_eq (by rw [HE.out]; try rfl), below_alloc (Below.refl _ _) _⟩
  clear h34 h35 h36 h37 HTG
  by_cases q1 : k < 1
  · have HE := Lib.hid (show rightE k m nm.data.toList n z = 2 from by unfold rightE; rw [if_neg (by omega), if_neg (by omega), if_neg (by omega), if_neg (by omega), if_neg (by omega)])
    clear k1 k2 k3 k4 k5 k6 k7 k8
    have d0 : decide (k < 1) = true := decide_eq_true (by omega)
    go_enter Try.func40, Try.ntmps40
    go_wp2_with fail
    go_ret
    exact ⟨ret_eq (by rw [HE.out]; try rfl), below_alloc (Below.refl _ _) _⟩
  · have HE := Lib.hid (show rightE k m nm.data.toList n z = 2 from by unfold rightE; rw [if_neg (by omega), if_neg (by omega), if_neg (by omega), if_neg (by omega), if_neg (by omega)])
    have d0 : decide (k < 1) = false := decide_eq_false (by omega)
    have d1 : decide (8 < k) = true := decide_eq_true (by omega)
    clear k1 k2 k3 k4 k5 k6 k7 k8
    go_enter Try.func40, Try.ntmps40
    go_wp2_with fail
    go_ret
    exact ⟨ret_eq (by rw [HE.out]; try rfl), below_alloc (Below.refl _ _) _⟩
end Go.Proofs.Ytdkadeihhgjiaaa.Rc
