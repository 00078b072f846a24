/- stillageref05: the walk of Sum. -/
import Derived.Test.YtceldlijbehkdaaCrcBits
set_option linter.unusedVariables false
set_option linter.unusedSimpArgs false
namespace Go.Proofs.Ytceldlijbehkdaa.CrcW
open Go.RowKit Go.Proofs.YtceldlijbehkdaaW.PrintWords Go.Proofs.Ytceldlijbehkdaa.B

theorem flip_step {j : Nat} {xs : List Bool} (h : j < xs.length) : (Crc.flipN j xs).set j (! rdOf false (Crc.flipN j xs) j) = Crc.flipN (j + 1) xs := by
  have hl : ((xs.take j).map (! ·)).length = j := by rw [List.length_map, List.length_take]; omega
  have e : xs.drop j = xs[j] :: xs.drop (j + 1) := List.drop_eq_getElem_cons h
  unfold Crc.flipN rdOf
  rw [Int.toNat_natCast, e]
  have h2 : ((xs.take j).map (! ·) ++ xs[j] :: xs.drop (j + 1)).getD j false = xs[j] := by
    rw [List.getD_eq_getElem?_getD, List.getElem?_append_right (by omega), hl, Nat.sub_self]; simp [h]
  rw [h2, List.set_append_right _ _ (by omega), hl, Nat.sub_self]
  simp only [List.set_cons_zero]
  rw [List.take_succ_eq_append_getElem h, List.map_append, List.append_assoc]
  rfl
/-- what a round of the division computes -/
theorem dv_facts (q : Nat) (hq : q < 4294967296) : ∃ d : Nat, ((q : Int) * 2) % 4294967296 = (d : Int) ∧ d ≤ 4294967294 ∧ Hid (d = q * 2 % 4294967296) := ⟨_, by omega, by omega, rfl⟩
theorem dv_xor (x : Nat) (hx : x < 4294967296) : ∃ z : Nat, bits .xor .u32 (x : Int) 517762881 = (z : Int) ∧ z < 4294967296 ∧ Hid (z = x ^^^ 0x1edc6f41) := ⟨_, xor_u32 x 0x1edc6f41 hx (by decide), Nat.xor_lt_two_pow (n := 32) (by omega) (by decide), rfl⟩
theorem rv_facts (k q : Nat) (hk : k < 32) : ∃ e t : Nat, ((q : Int) / 2 ^ k).tmod 2 = (t : Int) ∧ t ≤ 1 ∧ e ≤ 2147483647 ∧ Hid (e = Crc.rv k q) ∧ Hid (2 * e + t = Crc.rv (k + 1) q) := by
  have h1 : (((q : Int) / 2 ^ k).tmod 2) = ((q / 2 ^ k % 2 : Nat) : Int) := by
    rw [Int.natCast_emod, Int.natCast_ediv, Int.natCast_pow]
    exact Int.tmod_eq_emod_of_nonneg (Int.ediv_nonneg (by omega) (Int.pow_nonneg (by decide)))
  have h2 : ∀ j, Crc.rv j q < 2 ^ j := by
    intro j
    induction j with
    | zero => simp [Crc.rv]
    | succ j ih => simp only [Crc.rv, Nat.pow_succ]; omega
  refine ⟨Crc.rv k q, q / 2 ^ k % 2, h1, by omega, ?_, rfl, rfl⟩
  have := h2 k
  have : 2 ^ k ≤ 2 ^ 31 := Nat.pow_le_pow_right (by decide) (by omega)
  omega
theorem flip_len (j : Nat) (xs : List Bool) : (Crc.flipN j xs).length = xs.length := by
  unfold Crc.flipN; rw [List.length_append, List.length_map, List.length_take, List.length_drop]; omega
set_option maxRecDepth 100000 in
set_option maxHeartbeats 400000 in
theorem refsum_any (A : Option Addr) (c : Nat) (l : List UInt8) (w : World) (hr : Rd w A l) (hl : l.length ≤ 16777216) :
    Calls Try.prog 48 #[.slice A l.length c] w (Kept (.int .u32 (Crc.sum (nums8 l) : Nat)) w) := by
  have HR := Lib.hid hr
  have HL := Lib.hid (Crc.ref_sum (nums8_lt l))
  obtain ⟨xs, hx⟩ : ∃ xs, xs = Crc.bitsAll (nums8 l) := ⟨_, rfl⟩
  have hxl : xs.length ≤ 134217728 := by rw [hx, Crc.bitsAll_len, nums8, List.length_map]; omega
  have HB := Lib.hid (bits_any A c l w hr hl)
  rw [← hx] at HB HL
  clear hr hx
  go_enter Try.func48, Try.ntmps48
  go_wp2_with fail
  refine HB.out.mono ?_
  rintro e w1 ⟨v1, rfl, hown, hb⟩
  have HO1 := Lib.hid hown
  have HB1 := Lib.hid hb
  clear hown hb
  go_wp2
  go_loopw [3, 4] (fun v i wr => ∃ j : Nat, j ≤ 32 ∧ i = .int .i64 j ∧ Hid (OwnB wr w.heap.size v (xs ++ List.replicate j false)) ∧ Hid (Below w.heap.size w wr)) (fun _ i _ => 32 - (intOf i).toNat)
  case atStart => exact ⟨0, by omega, rfl, by simpa using HO1, HB1⟩
  case round =>
    obtain ⟨j, hj, rfl, HO, HBj⟩ := hrel
    by_cases hlt : j < 32
    · obtain ⟨y, hy⟩ : ∃ y, y = xs ++ List.replicate j false := ⟨_, rfl⟩
      rw [← hy] at HO
      have hyl : y.length + 1 ≤ 140737488355328 := by rw [hy, List.length_append, List.length_replicate]; omega
      have HY := Lib.hid (show y ++ [false] = xs ++ List.replicate (j + 1) false by rw [hy, List.replicate_succ', List.append_assoc])
      clear hy
      go_wp2_with (at_builtin; refine appB (w0 := w) w.heap.size rfl (.tmp 18) (.tmp 19) rfl _ y false rfl rfl HO.out HBj.out HBj.out.size hyl ?_; intro v3 w3 hown hb _ _; have HO3 := Lib.hid hown; have HB3 := Lib.hid hb; clear hown hb)
      go_round
      case rel => exact ⟨j + 1, by omega, by go_num, Lib.hid (by rw [← HY.out]; exact HO3.out), HB3⟩
      case measure => simp [intOf]; omega
    · have h32 : j = 32 := by omega
      subst h32
      obtain ⟨y, hy⟩ : ∃ y, y = xs ++ List.replicate 32 false := ⟨_, rfl⟩
      rw [← hy] at HO HL
      have hyl : y.length ≤ 134217760 := by rw [hy, List.length_append, List.length_replicate]; omega
      have hy32 : 32 ≤ y.length := by rw [hy, List.length_append, List.length_replicate]; omega
      clear hy
      obtain ⟨g, cap, rfl, hgb, -, -⟩ := Kd.R_form HO.out (by omega)
      go_wp2
      go_loopw [5] (fun i wr => ∃ j : Nat, j ≤ 32 ∧ i = .int .i64 j ∧ Hid (OwnB wr w.heap.size (.slice (some ⟨g, 0, none⟩) y.length cap) (Crc.flipN j y)) ∧ Hid (Below w.heap.size w wr)) (fun i _ => 32 - (intOf i).toNat)
      case atStart => exact ⟨0, by omega, rfl, by simpa [Crc.flipN] using HO, HBj⟩
      case round =>
        obtain ⟨j, hj, rfl, HOj, HBk⟩ := hrel
        by_cases hlt2 : j < 32
        · obtain ⟨hc, hf⟩ := Kd.R_celln (enc := encBo) (h1 := fun _ => rfl) false HOj.out (j : Int) (by omega) (by omega)
          rw [Int.toNat_natCast] at hc hf
          have HST := Lib.hid (flip_step (show j < y.length by omega))
          have HP := Lib.hid (fun b => Kd.R_putn (enc := encBo) (h1 := fun _ => rfl) HOj.out (j : Int) b)
          generalize rdOf false (Crc.flipN j y) j = p at *
          unfold encBo at hc
          go_wp2
          go_round
          case rel => exact ⟨j + 1, by omega, by go_num, Lib.hid (by rw [← HST.out]; exact HP.out _), Lib.hid (below_set HBk.out hgb)⟩
          case measure => simp [intOf]; omega
        · have h32 : j = 32 := by omega
          subst h32
          have hRD := (Kd.R_reads' HOj.out).2.2
          obtain ⟨L, hL⟩ : ∃ L, L = Crc.flipN 32 y := ⟨_, rfl⟩
          rw [← hL] at hRD HL
          have hLl : L.length = y.length := by rw [hL, flip_len]
          rw [← hLl] at hyl hy32
          have HRD := Lib.hid (fun (k : Nat) (hk : k < L.length) => (show wr.cell? ⟨g, k, none⟩ = some (.bool (rdOf false L k)) from by
            obtain ⟨ad, h1, h2⟩ := ReadsOf.at_ (Kd.reads_of_C (enc := encBo) (d := false) (h1 := fun _ => rfl) hRD) k (by omega) (by omega)
            injection h1 with h1
            subst h1
            rw [Int.toNat_natCast, show (⟨g, 0, none⟩ : Addr).add k = ⟨g, k, none⟩ from add_plain _ _] at h2
            exact h2))
          have HLL := Lib.hid hLl
          rw [← hLl]
          clear hRD hL hLl HOj
          go_wp2
          go_loop [7, 8] (fun r i => ∃ k q : Nat, k ≤ L.length ∧ i = .int .i64 k ∧ r = .int .u32 q ∧ q < 4294967296 ∧ Hid (q = (L.take k).foldl Crc.dv 0)) (fun _ i => L.length - (intOf i).toNat)
          case atStart => exact ⟨0, 0, by omega, rfl, rfl, by omega, rfl⟩
          case round =>
            obtain ⟨k, q, hk, rfl, rfl, hq, HQ⟩ := hrel
            by_cases hkl : k < L.length
            · have hc := HRD.out k hkl
              have HN := Lib.hid (show (L.take (k + 1)).foldl Crc.dv 0 = Crc.dv q (rdOf false L k) by
                rw [List.take_succ_eq_append_getElem hkl, List.foldl_append, ← HQ.out]; simp [rdOf, hkl])
              generalize rdOf false L k = p at *
              obtain ⟨d, hd, hdl, HD⟩ := dv_facts q hq
              cases p with
              | true =>
                by_cases htop : 2147483648 ≤ q
                · obtain ⟨z, hz, hzl, HZ⟩ := dv_xor (d + 1) (by omega)
                  have hz' : bits .xor .u32 ((d : Int) + 1) 517762881 = (z : Int) := by rw [← hz]; rfl
                  have htop' : (2147483648 : Int) ≤ (q : Int) := by omega
                  have HV := Lib.hid (show z = (L.take (k + 1)).foldl Crc.dv 0 by rw [HN.out, HZ.out, HD.out]; unfold Crc.dv; rw [if_pos htop]; simp [Crc.b2n])
                  go_wp2
                  go_round
                  case rel => exact ⟨k + 1, z, by omega, by go_num, rfl, hzl, HV⟩
                  case measure => simp [intOf]; omega
                · have htop' : ¬ (2147483648 : Int) ≤ (q : Int) := by omega
                  have HV := Lib.hid (show (d + 1) = (L.take (k + 1)).foldl Crc.dv 0 by rw [HN.out, HD.out]; unfold Crc.dv; rw [if_neg htop]; rfl)
                  go_wp2
                  go_round
                  case rel => exact ⟨k + 1, (d + 1), by omega, by go_num, by go_num, by omega, HV⟩
                  case measure => simp [intOf]; omega
              | false =>
                by_cases htop : 2147483648 ≤ q
                · obtain ⟨z, hz, hzl, HZ⟩ := dv_xor d (by omega)
                  have hz' : bits .xor .u32 (d : Int) 517762881 = (z : Int) := hz
                  have htop' : (2147483648 : Int) ≤ (q : Int) := by omega
                  have HV := Lib.hid (show z = (L.take (k + 1)).foldl Crc.dv 0 by rw [HN.out, HZ.out, HD.out]; unfold Crc.dv; rw [if_pos htop]; simp [Crc.b2n])
                  go_wp2
                  go_round
                  case rel => exact ⟨k + 1, z, by omega, by go_num, rfl, hzl, HV⟩
                  case measure => simp [intOf]; omega
                · have htop' : ¬ (2147483648 : Int) ≤ (q : Int) := by omega
                  have HV := Lib.hid (show d = (L.take (k + 1)).foldl Crc.dv 0 by rw [HN.out, HD.out]; unfold Crc.dv; rw [if_neg htop]; simp [Crc.b2n])
                  go_wp2
                  go_round
                  case rel => exact ⟨k + 1, d, by omega, by go_num, congrArg (Value.int .u32) (by omega), by omega, HV⟩
                  case measure => simp [intOf]; omega
            · have hkl2 : k = L.length := by omega
              subst hkl2
              rw [List.take_length] at HQ
              rw [← HQ.out] at HL
              go_wp2
              go_loop [10, 11] (fun r i => ∃ k e : Nat, k ≤ 32 ∧ i = .int .i64 k ∧ r = .int .u32 e ∧ e < 4294967296 ∧ Hid (e = Crc.rv k q)) (fun _ i => 32 - (intOf i).toNat)
              case atStart => exact ⟨0, 0, by omega, rfl, rfl, by omega, rfl⟩
              case round =>
                obtain ⟨k, e, hk, rfl, rfl, he, HE⟩ := hrel
                by_cases hk32 : k < 32
                · obtain ⟨e', t, ht, ht1, he1, HE1, HE2⟩ := rv_facts k q hk32
                  obtain rfl : e = e' := HE.out.trans HE1.out.symm
                  go_wp2
                  go_round
                  case rel => exact ⟨k + 1, 2 * e + t, by omega, by go_num, by go_num, by omega, HE2⟩
                  case measure => simp [intOf]; omega
                · have hk2 : k = 32 := by omega
                  subst hk2
                  have hsg : IntKind.u32.signed = false := rfl
                  obtain ⟨z, hz, hzlt, HZ⟩ := not_facts e he
                  go_wp2
                  go_ret
                  exact ⟨ret_eq (by rw [HZ.out, HE.out, HL.out]; rfl), HBk.out⟩
end Go.Proofs.Ytceldlijbehkdaa.CrcW
