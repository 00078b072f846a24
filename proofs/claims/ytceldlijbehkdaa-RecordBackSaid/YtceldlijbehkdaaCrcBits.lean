/- stillageref05: the walks of bits and Sum. -/
import Derived.Test.YtceldlijbehkdaaCrcMore
import Derived.Test.YtceldlijbehkdaaCrcRef
set_option linter.unusedVariables false
set_option linter.unusedSimpArgs false
namespace Go.Proofs.Ytceldlijbehkdaa.CrcW
open Go.RowKit Go.Proofs.YtceldlijbehkdaaW.PrintWords Go.Proofs.Ytceldlijbehkdaa.B

def encBo (b : Bool) : Value := .bool b
def kbo : Kd Bool := Kd.scalar encBo (fun _ => rfl)
def OwnB (w : World) (base : Nat) (v : Value) (l : List Bool) : Prop := kbo.R 4 w base (fun _ => True) v l
theorem OwnB.nil (w : World) (base : Nat) : OwnB w base (.slice none 0 0) [] := Kd.R_nil kbo 4 w base _
theorem OwnB.below {w w1 : World} {base : Nat} {v : Value} {l : List Bool} (h : OwnB w base v l) (hb : Below w.heap.size w w1) : OwnB w1 base v l := Kd.R_below h hb
theorem infoBo : (Try.prog.info? 4).map (fun i => (i.zero, i.size, i.bytes)) = some (some (.bool false), 1, 1) := by kernel_rfl
theorem undBo : Try.prog.underlying 117 = some (.slice 4) := by kernel_rfl
section
variable {ops : Array Oper} {rest : List Oper} {o : Oper} {a : Act} {Q : Exit → Act → World → Prop} {w0 W : World}
/-- append(v, x), x one truth -/
theorem appB (base : Nat) (hgd : o.guard = none) (s x : Operand) (ho : o.op = .call { callee := .builtin .append, args := #[s, x], argTypes := #[117, 117] })
    (v : Value) (xs : List Bool) (p : Bool) (hs : a.eval s = v) (hx : a.eval x = .slice (some ⟨W.heap.size, 0, none⟩) 1 1) (HO : OwnB W base v xs) (HB : Below base w0 W) (hbase : base ≤ W.heap.size) (hl : xs.length + 1 ≤ 140737488355328)
    (h : ∀ v1 w1, OwnB w1 base v1 (xs ++ [p]) → Below base w0 w1 → W.grownBy w1 v.ownBlock → (v1.ownBlock = v.ownBlock ∨ ∃ b, v1.ownBlock = some b ∧ W.heap.size ≤ b) → wpList Try.prog ops Q rest (a.put o.dst v1) w1) :
    wpList Try.prog ops Q (o :: rest) a (W.alloc (.cells #[.bool p] 4)) := by
  exact Kd.R_append kbo base hgd s x 117 4 _ 1 ho undBo infoBo rfl (by decide) (by decide) v xs p [encBo p] (fun _ => True) (fun k => some k ≠ v.ownBlock) hs hx rfl (fun k hk => ⟨trivial, hk⟩) (fun _ _ => trivial) HO HB hbase (by omega) h
end
theorem bitsAll_append : ∀ a b : List Nat, Crc.bitsAll (a ++ b) = Crc.bitsAll a ++ Crc.bitsAll b
  | [], b => rfl
  | c :: a, b => by simp only [List.cons_append, Crc.bitsAll, bitsAll_append a b, List.append_assoc]
theorem bits_next {l : List UInt8} {k : Nat} (h : k < l.length) : Crc.bitsAll (nums8 (l.take (k + 1))) = Crc.bitsAll (nums8 (l.take k)) ++ Crc.bitsOf (l.getD k 0).toNat := by
  rw [List.take_succ_eq_append_getElem h]
  simp only [nums8, List.map_append, List.map_cons, List.map_nil, bitsAll_append]
  simp [Crc.bitsAll, h]
theorem bitsOf_next {c j : Nat} (h : j < 8) : (Crc.bitsOf c).take (j + 1) = (Crc.bitsOf c).take j ++ [c / 2 ^ j % 2 == 1] := by
  rw [List.take_succ_eq_append_getElem (by rw [Crc.bitsOf_len]; exact h)]
  simp [Crc.bitsOf]
theorem bit_test (b j : Nat) : ∃ p : Bool, ((((b : Int) / 2 ^ j).tmod 2) == 1) = p ∧ Hid (p = (b / 2 ^ j % 2 == 1)) := by
  refine ⟨_, ?_, rfl⟩
  have e : (((b : Int) / 2 ^ j).tmod 2) = ((b / 2 ^ j % 2 : Nat) : Int) := by
    rw [Int.natCast_emod, Int.natCast_ediv, Int.natCast_pow]
    exact Int.tmod_eq_emod_of_nonneg (Int.ediv_nonneg (by omega) (Int.pow_nonneg (by decide)))
  rw [e]
  rcases Nat.mod_two_eq_zero_or_one (b / 2 ^ j) with h | h <;> rw [h] <;> rfl
set_option maxRecDepth 100000 in
set_option maxHeartbeats 400000 in
theorem bits_any (A : Option Addr) (c : Nat) (l : List UInt8) (w : World) (hr : Rd w A l) (hl : l.length ≤ 16777216) :
    Calls Try.prog 69 #[.slice A l.length c] w (fun e w' => ∃ v, e = .returned v ∧ OwnB w' w.heap.size v (Crc.bitsAll (nums8 l)) ∧ Below w.heap.size w w') := by
  have HR := Lib.hid hr
  clear hr
  go_enter Try.func69, Try.ntmps69
  go_wp2
  go_loopw [3, 4] (fun v i wr => ∃ k : Nat, k ≤ l.length ∧ i = .int .i64 k ∧ Hid (OwnB wr w.heap.size v (Crc.bitsAll (nums8 (l.take k)))) ∧ Hid (Below w.heap.size w wr)) (fun _ i _ => l.length - (intOf i).toNat)
  case atStart => exact ⟨0, by omega, rfl, OwnB.nil _ _, Below.refl _ _⟩
  case round =>
    obtain ⟨k, hk, rfl, HO, HB⟩ := hrel
    by_cases hlt : k < l.length
    · go_wp2
      go_loopw [3, 5] (fun v i wr => ∃ j : Nat, j ≤ 8 ∧ i = .int .i64 j ∧ Hid (OwnB wr w.heap.size v (Crc.bitsAll (nums8 (l.take k)) ++ (Crc.bitsOf (l.getD k 0).toNat).take j)) ∧ Hid (Below w.heap.size w wr)) (fun _ i _ => 8 - (intOf i).toNat)
      case atStart => exact ⟨0, by omega, rfl, by simpa using HO, HB⟩
      case round =>
        obtain ⟨j, hj, rfl, HO2, HB2⟩ := hrel
        by_cases hj8 : j < 8
        · obtain ⟨ad, rfl, hcell⟩ := (HR.out.below HB2.out).at_ k hlt
          obtain ⟨b, hb⟩ : ∃ b, b = (l.getD k 0).toNat := ⟨_, rfl⟩
          have hbl : b < 256 := by rw [hb]; exact (l.getD k 0).toNat_lt
          rw [show bt l k = (b : Int) from by rw [hb]; rfl] at hcell
          have HBB := Lib.hid hb
          clear hb
          obtain ⟨p, hp, HP⟩ := bit_test b j
          obtain ⟨y, hy⟩ : ∃ y, y = Crc.bitsAll (nums8 (l.take k)) ++ (Crc.bitsOf (l.getD k 0).toNat).take j := ⟨_, rfl⟩
          rw [← hy] at HO2
          have hyl : y.length + 1 ≤ 140737488355328 := by
            have : ∀ m : List Nat, (Crc.bitsAll m).length = 8 * m.length := Crc.bitsAll_len
            rw [hy, List.length_append, this, nums8, List.length_map, List.length_take, List.length_take, Crc.bitsOf_len]; omega
          have HY := Lib.hid (show y ++ [p] = Crc.bitsAll (nums8 (l.take k)) ++ (Crc.bitsOf (l.getD k 0).toNat).take (j + 1) by rw [hy, bitsOf_next hj8, HP.out, ← HBB.out, List.append_assoc])
          clear hy
          go_wp2_with (at_builtin; refine appB (w0 := w) w.heap.size rfl (.tmp 16) (.tmp 26) rfl _ y p rfl rfl HO2.out HB2.out HB2.out.size hyl ?_; intro v3 w3 hown hb _ _; have HO3 := Lib.hid hown; have HB3 := Lib.hid hb; clear hown hb)
          go_round
          case rel => exact ⟨j + 1, by omega, by go_num, Lib.hid (by rw [← HY.out]; exact HO3.out), HB3⟩
          case measure => simp [intOf]; omega
        · have h8 : j = 8 := by omega
          subst h8
          rw [show (Crc.bitsOf (l.getD k 0).toNat).take 8 = Crc.bitsOf (l.getD k 0).toNat from List.take_of_length_le (by rw [Crc.bitsOf_len]; omega), ← bits_next hlt] at HO2
          go_wp2
          go_round
          case rel => exact ⟨k + 1, by omega, by go_num, HO2, HB2⟩
          case measure => simp [intOf]; omega
    · have hkl : k = l.length := by omega
      subst hkl
      rw [List.take_length] at HO
      go_wp2
      go_ret
      exact ⟨_, rfl, HO.out, HB.out⟩
end Go.Proofs.Ytceldlijbehkdaa.CrcW
