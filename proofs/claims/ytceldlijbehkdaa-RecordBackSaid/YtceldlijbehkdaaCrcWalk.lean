/- crc: the walks of nibbles, More, Sum, lives. -/
import Derived.Test.YtceldlijbehkdaaBase
import Derived.Test.YtceldlijbehkdaaCrc
import Derived.Deep.MidRow
import Derived.Lib.EndianBits
set_option linter.unusedVariables false
set_option linter.unusedSimpArgs false
namespace Go.Proofs.Ytceldlijbehkdaa.CrcW
open Go.RowKit Go.Proofs.YtceldlijbehkdaaW.PrintWords Go.Proofs.Ytceldlijbehkdaa.B

theorem xor_u32 (a b : Nat) (ha : a < 4294967296) (hb : b < 4294967296) : bits .xor .u32 (a : Int) (b : Int) = ((a ^^^ b : Nat) : Int) := by
  have hx : a ^^^ b < 2 ^ 32 := Nat.xor_lt_two_pow (by omega) (by omega)
  have h1 : (BitVec.ofInt 32 (a : Int)).toNat = a := by
    rw [BitVec.ofInt_natCast, BitVec.toNat_ofNat]; exact Nat.mod_eq_of_lt (by omega)
  have h2 : (BitVec.ofInt 32 (b : Int)).toNat = b := by
    rw [BitVec.ofInt_natCast, BitVec.toNat_ofNat]; exact Nat.mod_eq_of_lt (by omega)
  show IntKind.u32.wrap ((BitVec.ofInt 32 (a : Int) ^^^ BitVec.ofInt 32 (b : Int)).toNat : Int) = _
  rw [BitVec.toNat_xor, h1, h2, IntKind.wrap_u32]
  omega
theorem xor_u8 (a b : Nat) (ha : a < 256) (hb : b < 256) : bits .xor .u8 (a : Int) (b : Int) = ((a ^^^ b : Nat) : Int) := by
  have hx : a ^^^ b < 2 ^ 8 := Nat.xor_lt_two_pow (by omega) (by omega)
  have h1 : (BitVec.ofInt 8 (a : Int)).toNat = a := by
    rw [BitVec.ofInt_natCast, BitVec.toNat_ofNat]; exact Nat.mod_eq_of_lt (by omega)
  have h2 : (BitVec.ofInt 8 (b : Int)).toNat = b := by
    rw [BitVec.ofInt_natCast, BitVec.toNat_ofNat]; exact Nat.mod_eq_of_lt (by omega)
  show IntKind.u8.wrap ((BitVec.ofInt 8 (a : Int) ^^^ BitVec.ofInt 8 (b : Int)).toNat : Int) = _
  rw [BitVec.toNat_xor, h1, h2, IntKind.wrap_u8]
  omega
theorem and1 (x : Nat) (h : x < 4294967296) : bits .and .u32 (x : Int) 1 = (x : Int) % 2 := bits_mask .u32 32 (by decide) wraps_u32 1 (by decide) x (by omega) (by omega)
theorem and15 (x : Nat) (h : x < 256) : bits .and .u8 (x : Int) 15 = (x : Int) % 16 := bits_mask .u8 8 (by decide) wraps_u8 4 (by decide) x (by omega) (by omega)
theorem odd_step {y : Nat} (h : y < 4294967296) (ho : y % 2 = 1) : bits .xor .u32 ((y : Int) / 2) 2197175160 = (Crc.step y : Nat) := by
  have := xor_u32 (y / 2) Crc.poly (by omega) (by decide)
  rw [Int.natCast_ediv] at this
  refine Eq.trans this ?_
  unfold Crc.step; rw [if_pos ho]
theorem even_step {y : Nat} (ho : ¬ y % 2 = 1) : ((y : Int) / 2) = (Crc.step y : Nat) := by
  unfold Crc.step; rw [if_neg ho]; simp
/-- the table, as far as it is filled -/
def tab (i : Nat) : List Value := (List.range 16).map fun j => .int .u32 (if j < i then Crc.nib j else 0 : Nat)
theorem und70 : Try.prog.underlying 128 = some (.array 16 92) := by kernel_rfl
theorem info70 : (Try.prog.info? 128).map (·.size) = some 16 := by kernel_rfl
theorem tab_get (i j : Nat) (h : j < 16) : (tab i)[j]? = some (.int .u32 (if j < i then Crc.nib j else 0 : Nat)) := by simp [tab, h]
theorem tab_len (i : Nat) : (tab i).length = 16 := by simp [tab]
theorem tab16 : tab 16 = [.int .u32 (Crc.nib 0 : Nat), .int .u32 (Crc.nib 1 : Nat), .int .u32 (Crc.nib 2 : Nat), .int .u32 (Crc.nib 3 : Nat), .int .u32 (Crc.nib 4 : Nat), .int .u32 (Crc.nib 5 : Nat), .int .u32 (Crc.nib 6 : Nat), .int .u32 (Crc.nib 7 : Nat), .int .u32 (Crc.nib 8 : Nat), .int .u32 (Crc.nib 9 : Nat), .int .u32 (Crc.nib 10 : Nat), .int .u32 (Crc.nib 11 : Nat), .int .u32 (Crc.nib 12 : Nat), .int .u32 (Crc.nib 13 : Nat), .int .u32 (Crc.nib 14 : Nat), .int .u32 (Crc.nib 15 : Nat)] := rfl
theorem tab_set (i : Nat) (h : i < 16) : (tab i).toArray.setIfInBounds i (.int .u32 (Crc.nib i : Nat)) = (tab (i + 1)).toArray := by
  rw [List.setIfInBounds_toArray]
  congr 1
  apply List.ext_getElem?
  intro j
  rw [List.getElem?_set]
  by_cases e : i = j
  · subst e; simp [tab, h]
  · rw [if_neg e]
    have : j < i + 1 ↔ j < i := by omega
    by_cases hj : j < 16
    · simp [tab, this, hj]
    · simp [tab, hj]
set_option maxRecDepth 100000 in
set_option maxHeartbeats 400000 in
theorem nibbles_any (w : World) : Calls Try.prog 82 #[] w (Kept (.agg (tab 16).toArray) w) := by
  go_enter Try.func82, Try.ntmps82
  go_wp2
  go_loopw [4] (fun i wr => ∃ k : Nat, k ≤ 16 ∧ i = .int .i64 k ∧ Hid (wr = (w.alloc (.cells #[.int .u32 0, .int .u32 0, .int .u32 0, .int .u32 0, .int .u32 0, .int .u32 0, .int .u32 0, .int .u32 0, .int .u32 0, .int .u32 0, .int .u32 0, .int .u32 0, .int .u32 0, .int .u32 0, .int .u32 0, .int .u32 0] 128)).alloc (.cells (tab k).toArray 128))) (fun i _ => 16 - (intOf i).toNat)
  case atStart => exact ⟨0, by omega, rfl, rfl⟩
  case round =>
    obtain ⟨k, hk, rfl, HW⟩ := hrel
    by_cases hlt : k < 16
    · go_wp2
      go_loop [3, 9] (fun x d => ∃ (m : Nat) (y : Nat), m ≤ 4 ∧ y < 4294967296 ∧ x = .int .u32 y ∧ d = .int .i64 m ∧ Hid (Crc.steps (4 - m) y = Crc.nib k)) (fun _ d => 4 - (intOf d).toNat)
      case atStart => exact ⟨0, k, by omega, by omega, rfl, rfl, rfl⟩
      case round =>
        obtain ⟨m, y, hm, hy, rfl, rfl, HS⟩ := hrel
        by_cases hm4 : m < 4
        · by_cases hodd : y % 2 = 1
          · have ha := and1 y hy
            have ho : (((y : Int) % 2) == 1) = true := by simp; omega
            have hx := odd_step hy hodd
            have hlt' := Crc.step_lt hy
            have HS2 := Lib.hid (show Crc.steps (4 - (m + 1)) (Crc.step y) = Crc.nib k by rw [← HS.out, show 4 - m = 4 - (m + 1) + 1 by omega]; rfl)
            clear hodd
            go_wp2
            go_round
            case rel => exact ⟨m + 1, Crc.step y, by omega, hlt', by go_num, by go_num, HS2⟩
            case measure => simp [intOf]; omega
          · have ha := and1 y hy
            have ho : (((y : Int) % 2) == 1) = false := by simp; omega
            have hx := even_step hodd
            have hlt' := Crc.step_lt hy
            have HS2 := Lib.hid (show Crc.steps (4 - (m + 1)) (Crc.step y) = Crc.nib k by rw [← HS.out, show 4 - m = 4 - (m + 1) + 1 by omega]; rfl)
            clear hodd
            go_wp2
            go_round
            case rel => exact ⟨m + 1, Crc.step y, by omega, hlt', by go_num, by go_num, HS2⟩
            case measure => simp [intOf]; omega
        · have h4 : m = 4 := by omega
          subst h4
          have HY := Lib.hid (show y = Crc.nib k from HS.out)
          have hw := HW.out
          subst hw
          have hg := tab_get k k hlt
          rw [if_neg (Nat.lt_irrefl k)] at hg
          go_wp2
          go_round
          case rel => exact ⟨k + 1, by omega, by go_num, Lib.hid (by rw [← tab_set k hlt, ← HY.out]; simp)⟩
          case measure => simp [intOf]; omega
    · have h4 : k = 16 := by omega
      subst h4
      have hw := HW.out
      subst hw
      rw [tab16]
      go_wp2
      refine bodyPost_ret_by (results_single rfl (.cell _ _ _ _ _ rfl (blk_alloc (blk_new _ _) _) und70 rfl info70 .nil)) rfl ?_
      exact ⟨by rw [tab16], below_alloc (below_alloc (Below.refl _ _) _) _⟩

end Go.Proofs.Ytceldlijbehkdaa.CrcW
