/- record.Right, the document's own Right. -/
import Derived.Test.YtceldlijbehkdaaRcK
set_option linter.unusedVariables false
set_option linter.unusedSimpArgs false
namespace Go.Proofs.Ytceldlijbehkdaa.Rc
open Go.RowKit Go.Proofs.YtceldlijbehkdaaW.PrintWords Go.Proofs.Ytceldlijbehkdaa.B

set_option maxRecDepth 100000 in
set_option maxHeartbeats 3200000 in
theorem right_any (X : Array Value) (k : Int) (s : Nat) (d : List UInt8) (nm : ByteArray) (A : Option Addr) (m c : Nat) (n z : Int) (w : World) (hX : RecF X k s d nm A m c n z) (hm : m ≤ 9223372036854775807) (hnm : nm.size ≤ 140737488355328) :
    Calls Try.prog 23 #[.agg X] w (Kept (.int .i64 (rightE k m nm.data.toList n z)) w) := by
  have h0 := hX.c0
  have h34 := hX.c34
  have h35 := hX.c35
  have h36 := hX.c36
  have h37 := hX.c37
  have HTG := Lib.hid (fun (W : World) => tag_any nm W hnm)
  have hTL : ∀ b, tagB nm.data.toList = b → (3 = 1 ∨ 3 = 3) := fun _ _ => .inr rfl
  clear hX hnm hTL
  by_cases k1 : k = 1
  · subst k1
    clear HTG
    by_cases hb : 65504 < m
    · clear h36 h37 h34
      have HE := Lib.hid (show rightE 1 m nm.data.toList n z = 18 from by unfold rightE; rw [if_pos (by omega), if_pos hb])
      have d0 : decide ((65504 : Int) < (m : Int)) = true := decide_eq_true (by omega)
      go_enter Try.func23, Try.ntmps23
      go_wp2_with fail
      go_ret
      exact ⟨ret_eq (by rw [HE.out]; try rfl), below_alloc (Below.refl _ _) _⟩
    · clear h36 h37 h34
      have HE := Lib.hid (show rightE 1 m nm.data.toList n z = 0 from by unfold rightE; rw [if_pos (by omega), if_neg hb])
      have d0 : decide ((65504 : Int) < (m : Int)) = false := decide_eq_false (by omega)
      go_enter Try.func23, Try.ntmps23
      go_wp2_with fail
      go_ret
      exact ⟨ret_eq (by rw [HE.out]; try rfl), below_alloc (Below.refl _ _) _⟩
  by_cases k2 : k = 2
  · subst k2
    clear HTG
    by_cases hb : 65504 < m
    · clear h36 h37 h34
      have HE := Lib.hid (show rightE 2 m nm.data.toList n z = 18 from by unfold rightE; rw [if_pos (by omega), if_pos hb])
      have d0 : decide ((65504 : Int) < (m : Int)) = true := decide_eq_true (by omega)
      go_enter Try.func23, Try.ntmps23
      go_wp2_with fail
      go_ret
      exact ⟨ret_eq (by rw [HE.out]; try rfl), below_alloc (Below.refl _ _) _⟩
    · clear h36 h37 h34
      have HE := Lib.hid (show rightE 2 m nm.data.toList n z = 0 from by unfold rightE; rw [if_pos (by omega), if_neg hb])
      have d0 : decide ((65504 : Int) < (m : Int)) = false := decide_eq_false (by omega)
      go_enter Try.func23, Try.ntmps23
      go_wp2_with fail
      go_ret
      exact ⟨ret_eq (by rw [HE.out]; try rfl), below_alloc (Below.refl _ _) _⟩
  by_cases k3 : k = 3
  · subst k3
    clear h35 h36 h37
    cases hb : tagB nm.data.toList
    · rw [hb] at HTG
      have HE := Lib.hid (show rightE 3 m nm.data.toList n z = 12 from by unfold rightE; rw [if_neg (by omega), if_pos (by omega), hb]; rfl)
      go_enter Try.func23, Try.ntmps23
      go_wp2_with fail
      refine (HTG.out _).mono ?_
      rintro e w1 ⟨rfl, hw1⟩
      rw [hw1]
      clear hw1 w1
      go_wp2_with fail
      go_ret
      exact ⟨ret_eq (by rw [HE.out]; try rfl), below_alloc (Below.refl _ _) _⟩
    · rw [hb] at HTG
      have HE := Lib.hid (show rightE 3 m nm.data.toList n z = 0 from by unfold rightE; rw [if_neg (by omega), if_pos (by omega), hb]; rfl)
      go_enter Try.func23, Try.ntmps23
      go_wp2_with fail
      refine (HTG.out _).mono ?_
      rintro e w1 ⟨rfl, hw1⟩
      rw [hw1]
      clear hw1 w1
      go_wp2_with fail
      go_ret
      exact ⟨ret_eq (by rw [HE.out]; try rfl), below_alloc (Below.refl _ _) _⟩
  by_cases k4 : k = 4
  · subst k4
    clear h35 h36 h37
    cases hb : tagB nm.data.toList
    · rw [hb] at HTG
      have HE := Lib.hid (show rightE 4 m nm.data.toList n z = 12 from by unfold rightE; rw [if_neg (by omega), if_pos (by omega), hb]; rfl)
      go_enter Try.func23, Try.ntmps23
      go_wp2_with fail
      refine (HTG.out _).mono ?_
      rintro e w1 ⟨rfl, hw1⟩
      rw [hw1]
      clear hw1 w1
      go_wp2_with fail
      go_ret
      exact ⟨ret_eq (by rw [HE.out]; try rfl), below_alloc (Below.refl _ _) _⟩
    · rw [hb] at HTG
      have HE := Lib.hid (show rightE 4 m nm.data.toList n z = 0 from by unfold rightE; rw [if_neg (by omega), if_pos (by omega), hb]; rfl)
      go_enter Try.func23, Try.ntmps23
      go_wp2_with fail
      refine (HTG.out _).mono ?_
      rintro e w1 ⟨rfl, hw1⟩
      rw [hw1]
      clear hw1 w1
      go_wp2_with fail
      go_ret
      exact ⟨ret_eq (by rw [HE.out]; try rfl), below_alloc (Below.refl _ _) _⟩
  by_cases k5 : k = 5
  · subst k5
    clear h35 h36 h37 h34 HTG
    have HE := Lib.hid (show rightE 5 m nm.data.toList n z = 0 from by unfold rightE; rw [if_neg (by omega), if_neg (by omega), if_pos rfl])
    go_enter Try.func23, Try.ntmps23
    go_wp2_with fail
    go_ret
    exact ⟨ret_eq (by rw [HE.out]; try rfl), below_alloc (Below.refl _ _) _⟩
  by_cases k6 : k = 6
  · subst k6
    clear h34 h35 HTG
    by_cases q4 : n < 0
    · have HE := Lib.hid (show rightE 6 m nm.data.toList n z = 20 from by unfold rightE; rw [if_neg (by omega), if_neg (by omega), if_neg (by omega), if_pos (by omega), if_neg (by omega)])
      have d0 : decide (n < 0) = true := decide_eq_true (by omega)
      go_enter Try.func23, Try.ntmps23
      go_wp2_with fail
      go_ret
      exact ⟨ret_eq (by rw [HE.out]; try rfl), below_alloc (Below.refl _ _) _⟩
    · skip
      by_cases q6 : 4294967295 < n
      · have HE := Lib.hid (show rightE 6 m nm.data.toList n z = 20 from by unfold rightE; rw [if_neg (by omega), if_neg (by omega), if_neg (by omega), if_pos (by omega), if_neg (by omega)])
        have d0 : decide (n < 0) = false := decide_eq_false (by omega)
        have d1 : decide (4294967295 < n) = true := decide_eq_true (by omega)
        go_enter Try.func23, Try.ntmps23
        go_wp2_with fail
        go_ret
        exact ⟨ret_eq (by rw [HE.out]; try rfl), below_alloc (Below.refl _ _) _⟩
      · skip
        by_cases q8 : z < 0
        · have HE := Lib.hid (show rightE 6 m nm.data.toList n z = 20 from by unfold rightE; rw [if_neg (by omega), if_neg (by omega), if_neg (by omega), if_pos (by omega), if_neg (by omega)])
          have d0 : decide (n < 0) = false := decide_eq_false (by omega)
          have d1 : decide (4294967295 < n) = false := decide_eq_false (by omega)
          have d2 : decide (z < 0) = true := decide_eq_true (by omega)
          go_enter Try.func23, Try.ntmps23
          go_wp2_with fail
          go_ret
          exact ⟨ret_eq (by rw [HE.out]; try rfl), below_alloc (Below.refl _ _) _⟩
        · skip
          by_cases q10 : 4294967295 < z
          · have HE := Lib.hid (show rightE 6 m nm.data.toList n z = 20 from by unfold rightE; rw [if_neg (by omega), if_neg (by omega), if_neg (by omega), if_pos (by omega), if_neg (by omega)])
            have d0 : decide (n < 0) = false := decide_eq_false (by omega)
            have d1 : decide (4294967295 < n) = false := decide_eq_false (by omega)
            have d2 : decide (z < 0) = false := decide_eq_false (by omega)
            have d3 : decide (4294967295 < z) = true := decide_eq_true (by omega)
            go_enter Try.func23, Try.ntmps23
            go_wp2_with fail
            go_ret
            exact ⟨ret_eq (by rw [HE.out]; try rfl), below_alloc (Below.refl _ _) _⟩
          · skip
            have HE := Lib.hid (show rightE 6 m nm.data.toList n z = 0 from by unfold rightE; rw [if_neg (by omega), if_neg (by omega), if_neg (by omega), if_pos (by omega), if_pos (by omega)])
            have d0 : decide (n < 0) = false := decide_eq_false (by omega)
            have d1 : decide (4294967295 < n) = false := decide_eq_false (by omega)
            have d2 : decide (z < 0) = false := decide_eq_false (by omega)
            have d3 : decide (4294967295 < z) = false := decide_eq_false (by omega)
            go_enter Try.func23, Try.ntmps23
            go_wp2_with fail
            go_ret
            exact ⟨ret_eq (by rw [HE.out]; try rfl), below_alloc (Below.refl _ _) _⟩
  by_cases k7 : k = 7
  · subst k7
    clear h34 h35 h37 HTG
    by_cases q0 : n < 1
    · have HE := Lib.hid (show rightE 7 m nm.data.toList n z = 20 from by unfold rightE; rw [if_neg (by omega), if_neg (by omega), if_neg (by omega), if_neg (by omega), if_pos rfl, if_neg (by omega)])
      have d0 : decide (n < 1) = true := decide_eq_true (by omega)
      go_enter Try.func23, Try.ntmps23
      go_wp2_with fail
      go_ret
      exact ⟨ret_eq (by rw [HE.out]; try rfl), below_alloc (Below.refl _ _) _⟩
    · by_cases q1 : 99999999 < n
      · have HE := Lib.hid (show rightE 7 m nm.data.toList n z = 20 from by unfold rightE; rw [if_neg (by omega), if_neg (by omega), if_neg (by omega), if_neg (by omega), if_pos rfl, if_neg (by omega)])
        have d0 : decide (n < 1) = false := decide_eq_false (by omega)
        have d1 : decide (99999999 < n) = true := decide_eq_true (by omega)
        go_enter Try.func23, Try.ntmps23
        go_wp2_with fail
        go_ret
        exact ⟨ret_eq (by rw [HE.out]; try rfl), below_alloc (Below.refl _ _) _⟩
      · have HE := Lib.hid (show rightE 7 m nm.data.toList n z = 0 from by unfold rightE; rw [if_neg (by omega), if_neg (by omega), if_neg (by omega), if_neg (by omega), if_pos rfl, if_pos (by omega)])
        have d0 : decide (n < 1) = false := decide_eq_false (by omega)
        have d1 : decide (99999999 < n) = false := decide_eq_false (by omega)
        go_enter Try.func23, Try.ntmps23
        go_wp2_with fail
        go_ret
        exact ⟨ret_eq (by rw [HE.out]; try rfl), below_alloc (Below.refl _ _) _⟩
  by_cases k8 : k = 8
  · subst k8
    clear h34 h35 HTG
    by_cases q4 : n < 0
    · have HE := Lib.hid (show rightE 8 m nm.data.toList n z = 20 from by unfold rightE; rw [if_neg (by omega), if_neg (by omega), if_neg (by omega), if_pos (by omega), if_neg (by omega)])
      have d0 : decide (n < 0) = true := decide_eq_true (by omega)
      go_enter Try.func23, Try.ntmps23
      go_wp2_with fail
      go_ret
      exact ⟨ret_eq (by rw [HE.out]; try rfl), below_alloc (Below.refl _ _) _⟩
    · skip
      by_cases q6 : 4294967295 < n
      · have HE := Lib.hid (show rightE 8 m nm.data.toList n z = 20 from by unfold rightE; rw [if_neg (by omega), if_neg (by omega), if_neg (by omega), if_pos (by omega), if_neg (by omega)])
        have d0 : decide (n < 0) = false := decide_eq_false (by omega)
        have d1 : decide (4294967295 < n) = true := decide_eq_true (by omega)
        go_enter Try.func23, Try.ntmps23
        go_wp2_with fail
        go_ret
        exact ⟨ret_eq (by rw [HE.out]; try rfl), below_alloc (Below.refl _ _) _⟩
      · skip
        by_cases q8 : z < 0
        · have HE := Lib.hid (show rightE 8 m nm.data.toList n z = 20 from by unfold rightE; rw [if_neg (by omega), if_neg (by omega), if_neg (by omega), if_pos (by omega), if_neg (by omega)])
          have d0 : decide (n < 0) = false := decide_eq_false (by omega)
          have d1 : decide (4294967295 < n) = false := decide_eq_false (by omega)
          have d2 : decide (z < 0) = true := decide_eq_true (by omega)
          go_enter Try.func23, Try.ntmps23
          go_wp2_with fail
          go_ret
          exact ⟨ret_eq (by rw [HE.out]; try rfl), below_alloc (Below.refl _ _) _⟩
        · skip
          by_cases q10 : 4294967295 < z
          · have HE := Lib.hid (show rightE 8 m nm.data.toList n z = 20 from by unfold rightE; rw [if_neg (by omega), if_neg (by omega), if_neg (by omega), if_pos (by omega), if_neg (by omega)])
            have d0 : decide (n < 0) = false := decide_eq_false (by omega)
            have d1 : decide (4294967295 < n) = false := decide_eq_false (by omega)
            have d2 : decide (z < 0) = false := decide_eq_false (by omega)
            have d3 : decide (4294967295 < z) = true := decide_eq_true (by omega)
            go_enter Try.func23, Try.ntmps23
            go_wp2_with fail
            go_ret
            exact ⟨ret_eq (by rw [HE.out]; try rfl), below_alloc (Below.refl _ _) _⟩
          · skip
            have HE := Lib.hid (show rightE 8 m nm.data.toList n z = 0 from by unfold rightE; rw [if_neg (by omega), if_neg (by omega), if_neg (by omega), if_pos (by omega), if_pos (by omega)])
            have d0 : decide (n < 0) = false := decide_eq_false (by omega)
            have d1 : decide (4294967295 < n) = false := decide_eq_false (by omega)
            have d2 : decide (z < 0) = false := decide_eq_false (by omega)
            have d3 : decide (4294967295 < z) = false := decide_eq_false (by omega)
            go_enter Try.func23, Try.ntmps23
            go_wp2_with fail
            go_ret
            exact ⟨ret_eq (by rw [HE.out]; try rfl), below_alloc (Below.refl _ _) _⟩
  have b1 : (k == 1) = false := beq_eq_false_iff_ne.2 k1
  have b2 : (k == 2) = false := beq_eq_false_iff_ne.2 k2
  have b3 : (k == 3) = false := beq_eq_false_iff_ne.2 k3
  have b4 : (k == 4) = false := beq_eq_false_iff_ne.2 k4
  have b5 : (k == 5) = false := beq_eq_false_iff_ne.2 k5
  have b6 : (k == 6) = false := beq_eq_false_iff_ne.2 k6
  have b7 : (k == 7) = false := beq_eq_false_iff_ne.2 k7
  have b8 : (k == 8) = false := beq_eq_false_iff_ne.2 k8
  have HE := Lib.hid (show rightE k m nm.data.toList n z = 2 from by unfold rightE; rw [if_neg (by omega), if_neg (by omega), if_neg (by omega), if_neg (by omega), if_neg (by omega)])
  clear k1 k2 k3 k4 k5 k6 k7 k8 h34 h35 h36 h37 HTG
  go_enter Try.func23, Try.ntmps23
  go_wp2_with fail
  go_ret
  exact ⟨ret_eq (by rw [HE.out]; try rfl), below_alloc (Below.refl _ _) _⟩
set_option maxRecDepth 100000 in
set_option maxHeartbeats 3200000 in
theorem refright_any (X : Array Value) (k : Int) (s : Nat) (d : List UInt8) (nm : ByteArray) (A : Option Addr) (m c : Nat) (n z : Int) (w : World) (hX : RecF X k s d nm A m c n z) (hm : m ≤ 9223372036854775807) (hnm : nm.size ≤ 140737488355328) :
    Calls Try.prog 24 #[.agg X] w (Kept (.int .i64 (rightE k m nm.data.toList n z)) w) := by
  have h0 := hX.c0
  have h34 := hX.c34
  have h35 := hX.c35
  have h36 := hX.c36
  have h37 := hX.c37
  have HTG := Lib.hid (fun (W : World) => reftag_any nm W hnm)
  have hTL : ∀ b, tagB nm.data.toList = b → (3 = 1 ∨ 3 = 3) := fun _ _ => .inr rfl
  clear hX hnm hTL
  by_cases k1 : k = 1
  · subst k1
    clear HTG
    by_cases hb : 65504 < m
    · clear h36 h37 h34
      have HE := Lib.hid (show rightE 1 m nm.data.toList n z = 18 from by unfold rightE; rw [if_pos (by omega), if_pos hb])
      have d0 : decide ((65504 : Int) < (m : Int)) = true := decide_eq_true (by omega)
      go_enter Try.func24, Try.ntmps24
      go_wp2_with fail
      go_ret
      exact ⟨ret_eq (by rw [HE.out]; try rfl), below_alloc (Below.refl _ _) _⟩
    · clear h36 h37 h34
      have HE := Lib.hid (show rightE 1 m nm.data.toList n z = 0 from by unfold rightE; rw [if_pos (by omega), if_neg hb])
      have d0 : decide ((65504 : Int) < (m : Int)) = false := decide_eq_false (by omega)
      go_enter Try.func24, Try.ntmps24
      go_wp2_with fail
      go_ret
      exact ⟨ret_eq (by rw [HE.out]; try rfl), below_alloc (Below.refl _ _) _⟩
  by_cases k2 : k = 2
  · subst k2
    clear HTG
    by_cases hb : 65504 < m
    · clear h36 h37 h34
      have HE := Lib.hid (show rightE 2 m nm.data.toList n z = 18 from by unfold rightE; rw [if_pos (by omega), if_pos hb])
      have d0 : decide ((65504 : Int) < (m : Int)) = true := decide_eq_true (by omega)
      go_enter Try.func24, Try.ntmps24
      go_wp2_with fail
      go_ret
      exact ⟨ret_eq (by rw [HE.out]; try rfl), below_alloc (Below.refl _ _) _⟩
    · clear h36 h37 h34
      have HE := Lib.hid (show rightE 2 m nm.data.toList n z = 0 from by unfold rightE; rw [if_pos (by omega), if_neg hb])
      have d0 : decide ((65504 : Int) < (m : Int)) = false := decide_eq_false (by omega)
      go_enter Try.func24, Try.ntmps24
      go_wp2_with fail
      go_ret
      exact ⟨ret_eq (by rw [HE.out]; try rfl), below_alloc (Below.refl _ _) _⟩
  by_cases k3 : k = 3
  · subst k3
    clear h35 h36 h37
    cases hb : tagB nm.data.toList
    · rw [hb] at HTG
      have HE := Lib.hid (show rightE 3 m nm.data.toList n z = 12 from by unfold rightE; rw [if_neg (by omega), if_pos (by omega), hb]; rfl)
      go_enter Try.func24, Try.ntmps24
      go_wp2_with fail
      refine (HTG.out _).mono ?_
      rintro e w1 ⟨rfl, hw1⟩
      rw [hw1]
      clear hw1 w1
      go_wp2_with fail
      go_ret
      exact ⟨ret_eq (by rw [HE.out]; try rfl), below_alloc (Below.refl _ _) _⟩
    · rw [hb] at HTG
      have HE := Lib.hid (show rightE 3 m nm.data.toList n z = 0 from by unfold rightE; rw [if_neg (by omega), if_pos (by omega), hb]; rfl)
      go_enter Try.func24, Try.ntmps24
      go_wp2_with fail
      refine (HTG.out _).mono ?_
      rintro e w1 ⟨rfl, hw1⟩
      rw [hw1]
      clear hw1 w1
      go_wp2_with fail
      go_ret
      exact ⟨ret_eq (by rw [HE.out]; try rfl), below_alloc (Below.refl _ _) _⟩
  by_cases k4 : k = 4
  · subst k4
    clear h35 h36 h37
    cases hb : tagB nm.data.toList
    · rw [hb] at HTG
      have HE := Lib.hid (show rightE 4 m nm.data.toList n z = 12 from by unfold rightE; rw [if_neg (by omega), if_pos (by omega), hb]; rfl)
      go_enter Try.func24, Try.ntmps24
      go_wp2_with fail
      refine (HTG.out _).mono ?_
      rintro e w1 ⟨rfl, hw1⟩
      rw [hw1]
      clear hw1 w1
      go_wp2_with fail
      go_ret
      exact ⟨ret_eq (by rw [HE.out]; try rfl), below_alloc (Below.refl _ _) _⟩
    · rw [hb] at HTG
      have HE := Lib.hid (show rightE 4 m nm.data.toList n z = 0 from by unfold rightE; rw [if_neg (by omega), if_pos (by omega), hb]; rfl)
      go_enter Try.func24, Try.ntmps24
      go_wp2_with fail
      refine (HTG.out _).mono ?_
      rintro e w1 ⟨rfl, hw1⟩
      rw [hw1]
      clear hw1 w1
      go_wp2_with fail
      go_ret
      exact ⟨ret_eq (by rw [HE.out]; try rfl), below_alloc (Below.refl _ _) _⟩
  by_cases k5 : k = 5
  · subst k5
    clear h35 h36 h37 h34 HTG
    have HE := Lib.hid (show rightE 5 m nm.data.toList n z = 0 from by unfold rightE; rw [if_neg (by omega), if_neg (by omega), if_pos rfl])
    go_enter Try.func24, Try.ntmps24
    go_wp2_with fail
    go_ret
    exact ⟨ret_eq (by rw [HE.out]; try rfl), below_alloc (Below.refl _ _) _⟩
  by_cases k6 : k = 6
  · subst k6
    clear h34 h35 HTG
    by_cases q4 : n < 0
    · have HE := Lib.hid (show rightE 6 m nm.data.toList n z = 20 from by unfold rightE; rw [if_neg (by omega), if_neg (by omega), if_neg (by omega), if_pos (by omega), if_neg (by omega)])
      have d0 : decide (n < 0) = true := decide_eq_true (by omega)
      go_enter Try.func24, Try.ntmps24
      go_wp2_with fail
      go_ret
      exact ⟨ret_eq (by rw [HE.out]; try rfl), below_alloc (Below.refl _ _) _⟩
    · skip
      by_cases q6 : z < 0
      · have HE := Lib.hid (show rightE 6 m nm.data.toList n z = 20 from by unfold rightE; rw [if_neg (by omega), if_neg (by omega), if_neg (by omega), if_pos (by omega), if_neg (by omega)])
        have d0 : decide (n < 0) = false := decide_eq_false (by omega)
        have d1 : decide (z < 0) = true := decide_eq_true (by omega)
        go_enter Try.func24, Try.ntmps24
        go_wp2_with fail
        go_ret
        exact ⟨ret_eq (by rw [HE.out]; try rfl), below_alloc (Below.refl _ _) _⟩
      · skip
        by_cases q8 : 4294967295 < n
        · have HE := Lib.hid (show rightE 6 m nm.data.toList n z = 20 from by unfold rightE; rw [if_neg (by omega), if_neg (by omega), if_neg (by omega), if_pos (by omega), if_neg (by omega)])
          have d0 : decide (n < 0) = false := decide_eq_false (by omega)
          have d1 : decide (z < 0) = false := decide_eq_false (by omega)
          have d2 : decide (4294967296 ≤ n) = true := decide_eq_true (by omega)
          go_enter Try.func24, Try.ntmps24
          go_wp2_with fail
          go_ret
          exact ⟨ret_eq (by rw [HE.out]; try rfl), below_alloc (Below.refl _ _) _⟩
        · skip
          by_cases q10 : 4294967295 < z
          · have HE := Lib.hid (show rightE 6 m nm.data.toList n z = 20 from by unfold rightE; rw [if_neg (by omega), if_neg (by omega), if_neg (by omega), if_pos (by omega), if_neg (by omega)])
            have d0 : decide (n < 0) = false := decide_eq_false (by omega)
            have d1 : decide (z < 0) = false := decide_eq_false (by omega)
            have d2 : decide (4294967296 ≤ n) = false := decide_eq_false (by omega)
            have d3 : decide (4294967296 ≤ z) = true := decide_eq_true (by omega)
            go_enter Try.func24, Try.ntmps24
            go_wp2_with fail
            go_ret
            exact ⟨ret_eq (by rw [HE.out]; try rfl), below_alloc (Below.refl _ _) _⟩
          · skip
            have HE := Lib.hid (show rightE 6 m nm.data.toList n z = 0 from by unfold rightE; rw [if_neg (by omega), if_neg (by omega), if_neg (by omega), if_pos (by omega), if_pos (by omega)])
            have d0 : decide (n < 0) = false := decide_eq_false (by omega)
            have d1 : decide (z < 0) = false := decide_eq_false (by omega)
            have d2 : decide (4294967296 ≤ n) = false := decide_eq_false (by omega)
            have d3 : decide (4294967296 ≤ z) = false := decide_eq_false (by omega)
            go_enter Try.func24, Try.ntmps24
            go_wp2_with fail
            go_ret
            exact ⟨ret_eq (by rw [HE.out]; try rfl), below_alloc (Below.refl _ _) _⟩
  by_cases k7 : k = 7
  · subst k7
    clear h34 h35 h37 HTG
    by_cases q0 : n < 1
    · have HE := Lib.hid (show rightE 7 m nm.data.toList n z = 20 from by unfold rightE; rw [if_neg (by omega), if_neg (by omega), if_neg (by omega), if_neg (by omega), if_pos rfl, if_neg (by omega)])
      have d0 : decide (n < 1) = true := decide_eq_true (by omega)
      go_enter Try.func24, Try.ntmps24
      go_wp2_with fail
      go_ret
      exact ⟨ret_eq (by rw [HE.out]; try rfl), below_alloc (Below.refl _ _) _⟩
    · by_cases q1 : 99999999 < n
      · have HE := Lib.hid (show rightE 7 m nm.data.toList n z = 20 from by unfold rightE; rw [if_neg (by omega), if_neg (by omega), if_neg (by omega), if_neg (by omega), if_pos rfl, if_neg (by omega)])
        have d0 : decide (n < 1) = false := decide_eq_false (by omega)
        have d1 : decide (99999999 < n) = true := decide_eq_true (by omega)
        go_enter Try.func24, Try.ntmps24
        go_wp2_with fail
        go_ret
        exact ⟨ret_eq (by rw [HE.out]; try rfl), below_alloc (Below.refl _ _) _⟩
      · have HE := Lib.hid (show rightE 7 m nm.data.toList n z = 0 from by unfold rightE; rw [if_neg (by omega), if_neg (by omega), if_neg (by omega), if_neg (by omega), if_pos rfl, if_pos (by omega)])
        have d0 : decide (n < 1) = false := decide_eq_false (by omega)
        have d1 : decide (99999999 < n) = false := decide_eq_false (by omega)
        go_enter Try.func24, Try.ntmps24
        go_wp2_with fail
        go_ret
        exact ⟨ret_eq (by rw [HE.out]; try rfl), below_alloc (Below.refl _ _) _⟩
  by_cases k8 : k = 8
  · subst k8
    clear h34 h35 HTG
    by_cases q4 : n < 0
    · have HE := Lib.hid (show rightE 8 m nm.data.toList n z = 20 from by unfold rightE; rw [if_neg (by omega), if_neg (by omega), if_neg (by omega), if_pos (by omega), if_neg (by omega)])
      have d0 : decide (n < 0) = true := decide_eq_true (by omega)
      go_enter Try.func24, Try.ntmps24
      go_wp2_with fail
      go_ret
      exact ⟨ret_eq (by rw [HE.out]; try rfl), below_alloc (Below.refl _ _) _⟩
    · skip
      by_cases q6 : z < 0
      · have HE := Lib.hid (show rightE 8 m nm.data.toList n z = 20 from by unfold rightE; rw [if_neg (by omega), if_neg (by omega), if_neg (by omega), if_pos (by omega), if_neg (by omega)])
        have d0 : decide (n < 0) = false := decide_eq_false (by omega)
        have d1 : decide (z < 0) = true := decide_eq_true (by omega)
        go_enter Try.func24, Try.ntmps24
        go_wp2_with fail
        go_ret
        exact ⟨ret_eq (by rw [HE.out]; try rfl), below_alloc (Below.refl _ _) _⟩
      · skip
        by_cases q8 : 4294967295 < n
        · have HE := Lib.hid (show rightE 8 m nm.data.toList n z = 20 from by unfold rightE; rw [if_neg (by omega), if_neg (by omega), if_neg (by omega), if_pos (by omega), if_neg (by omega)])
          have d0 : decide (n < 0) = false := decide_eq_false (by omega)
          have d1 : decide (z < 0) = false := decide_eq_false (by omega)
          have d2 : decide (4294967296 ≤ n) = true := decide_eq_true (by omega)
          go_enter Try.func24, Try.ntmps24
          go_wp2_with fail
          go_ret
          exact ⟨ret_eq (by rw [HE.out]; try rfl), below_alloc (Below.refl _ _) _⟩
        · skip
          by_cases q10 : 4294967295 < z
          · have HE := Lib.hid (show rightE 8 m nm.data.toList n z = 20 from by unfold rightE; rw [if_neg (by omega), if_neg (by omega), if_neg (by omega), if_pos (by omega), if_neg (by omega)])
            have d0 : decide (n < 0) = false := decide_eq_false (by omega)
            have d1 : decide (z < 0) = false := decide_eq_false (by omega)
            have d2 : decide (4294967296 ≤ n) = false := decide_eq_false (by omega)
            have d3 : decide (4294967296 ≤ z) = true := decide_eq_true (by omega)
            go_enter Try.func24, Try.ntmps24
            go_wp2_with fail
            go_ret
            exact ⟨ret_eq (by rw [HE.out]; try rfl), below_alloc (Below.refl _ _) _⟩
          · skip
            have HE := Lib.hid (show rightE 8 m nm.data.toList n z = 0 from by unfold rightE; rw [if_neg (by omega), if_neg (by omega), if_neg (by omega), if_pos (by omega), if_pos (by omega)])
            have d0 : decide (n < 0) = false := decide_eq_false (by omega)
            have d1 : decide (z < 0) = false := decide_eq_false (by omega)
            have d2 : decide (4294967296 ≤ n) = false := decide_eq_false (by omega)
            have d3 : decide (4294967296 ≤ z) = false := decide_eq_false (by omega)
            go_enter Try.func24, Try.ntmps24
            go_wp2_with fail
            go_ret
            exact ⟨ret_eq (by rw [HE.out]; try rfl), below_alloc (Below.refl _ _) _⟩
  clear h34 h35 h36 h37 HTG
  by_cases q1 : k < 1
  · have HE := Lib.hid (show rightE k m nm.data.toList n z = 2 from by unfold rightE; rw [if_neg (by omega), if_neg (by omega), if_neg (by omega), if_neg (by omega), if_neg (by omega)])
    clear k1 k2 k3 k4 k5 k6 k7 k8
    have d0 : decide (k < 1) = true := decide_eq_true (by omega)
    go_enter Try.func24, Try.ntmps24
    go_wp2_with fail
    go_ret
    exact ⟨ret_eq (by rw [HE.out]; try rfl), below_alloc (Below.refl _ _) _⟩
  · have HE := Lib.hid (show rightE k m nm.data.toList n z = 2 from by unfold rightE; rw [if_neg (by omega), if_neg (by omega), if_neg (by omega), if_neg (by omega), if_neg (by omega)])
    have d0 : decide (k < 1) = false := decide_eq_false (by omega)
    have d1 : decide (8 < k) = true := decide_eq_true (by omega)
    clear k1 k2 k3 k4 k5 k6 k7 k8
    go_enter Try.func24, Try.ntmps24
    go_wp2_with fail
    go_ret
    exact ⟨ret_eq (by rw [HE.out]; try rfl), below_alloc (Below.refl _ _) _⟩
end Go.Proofs.Ytceldlijbehkdaa.Rc
