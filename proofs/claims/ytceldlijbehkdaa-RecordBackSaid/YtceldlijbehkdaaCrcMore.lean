/- crc: the walks of More, Sum, lives. -/
import Derived.Test.YtceldlijbehkdaaCrcWalk
import Derived.Lib.SlBytesConst
set_option linter.unusedVariables false
set_option linter.unusedSimpArgs false
namespace Go.Proofs.Ytceldlijbehkdaa.CrcW
open Go.RowKit Go.Proofs.YtceldlijbehkdaaW.PrintWords Go.Proofs.Ytceldlijbehkdaa.B

/-- bytes as numbers -/
def nums8 (l : List UInt8) : List Nat := l.map (·.toNat)
theorem nums8_lt (l : List UInt8) : ∀ c ∈ nums8 l, c < 256 := by
  intro c hc
  obtain ⟨b, -, rfl⟩ := List.mem_map.1 hc
  exact b.toNat_lt
theorem nib_lt {i : Nat} (h : i < 16) : Crc.nib i < 4294967296 := Crc.steps_lt 4 (by omega)
/-- what one round computes -/
theorem round_facts (x c : Nat) (hx : x < 4294967296) (hc : c < 256) :
    ∃ xl cl k1 n1 y yl ch k2 n2 z : Nat, bits .and .u8 ((x : Int) % 256) 15 = (xl : Int) ∧ bits .and .u8 (c : Int) 15 = (cl : Int) ∧ bits .xor .u8 (xl : Int) (cl : Int) = (k1 : Int) ∧ k1 < 16 ∧ Hid (n1 = Crc.nib k1) ∧
      bits .xor .u32 ((x : Int) / 16) (n1 : Int) = (y : Int) ∧ y < 4294967296 ∧ bits .and .u8 ((y : Int) % 256) 15 = (yl : Int) ∧ ((c : Int) / 16) = (ch : Int) ∧ bits .xor .u8 (yl : Int) (ch : Int) = (k2 : Int) ∧ k2 < 16 ∧ Hid (n2 = Crc.nib k2) ∧
      bits .xor .u32 ((y : Int) / 16) (n2 : Int) = (z : Int) ∧ z < 4294967296 ∧ Hid (z = Crc.byteStep x c) := by
  have hlow : ∀ x : Nat, x < 4294967296 → bits .and .u8 ((x : Int) % 256) 15 = ((x % 16 : Nat) : Int) := by
    intro x hx
    have := and15 (x % 256) (by omega)
    rw [show ((x % 256 : Nat) : Int) = (x : Int) % 256 by omega] at this
    rw [this]; omega
  have h16 : ∀ a b : Nat, a < 16 → b < 16 → a ^^^ b < 16 := fun a b ha hb => Nat.xor_lt_two_pow (n := 4) ha hb
  have hstep : ∀ (x k : Nat), x < 4294967296 → k < 16 → bits .xor .u32 ((x : Int) / 16) (Crc.nib k : Nat) = ((x / 16 ^^^ Crc.nib k : Nat) : Int) := by
    intro x k hx hk
    have := xor_u32 (x / 16) (Crc.nib k) (by omega) (nib_lt hk)
    rw [Int.natCast_ediv] at this
    exact this
  have hk1 : x % 16 ^^^ c % 16 < 16 := h16 _ _ (by omega) (by omega)
  have hy : x / 16 ^^^ Crc.nib (x % 16 ^^^ c % 16) < 4294967296 := Nat.xor_lt_two_pow (n := 32) (by omega) (nib_lt hk1)
  have hk2 : (x / 16 ^^^ Crc.nib (x % 16 ^^^ c % 16)) % 16 ^^^ c / 16 < 16 := h16 _ _ (by omega) (by omega)
  refine ⟨x % 16, c % 16, _, _, _, _, c / 16, _, _, _, hlow x hx, by rw [and15 c hc]; omega, xor_u8 _ _ (by omega) (by omega), hk1, rfl, hstep x _ hx hk1, hy, hlow _ hy, by omega, xor_u8 _ _ (by omega) (by omega), hk2, rfl, hstep _ _ hy hk2, ?_, rfl⟩
  exact Nat.xor_lt_two_pow (n := 32) (by omega) (nib_lt hk2)
/-- '^x' -/
theorem not_facts (x : Nat) (hx : x < 4294967296) : ∃ y : Nat, bits .xor .u32 IntKind.u32.max (x : Int) = (y : Int) ∧ y < 4294967296 ∧ Hid (y = x ^^^ Crc.ones) := by
  refine ⟨Crc.ones ^^^ x, xor_u32 Crc.ones x (by decide) hx, Nat.xor_lt_two_pow (n := 32) (by decide) hx, Nat.xor_comm _ _⟩
theorem drop_cons {l : List UInt8} {k : Nat} (h : k < l.length) : nums8 (l.drop k) = (l.getD k 0).toNat :: nums8 (l.drop (k + 1)) := by
  rw [List.drop_eq_getElem_cons h]; simp only [nums8, List.map_cons]; simp [h]
theorem tab_nib {k : Nat} (h : k < 16) : (tab 16)[k]? = some (.int .u32 (Crc.nib k : Nat)) := by rw [tab_get 16 k h, if_pos h]
set_option maxRecDepth 100000 in
set_option maxHeartbeats 400000 in
theorem more_any (A : Option Addr) (c : Nat) (l : List UInt8) (s : Nat) (w : World) (hr : Rd w A l) (hs : s < 4294967296) :
    Calls Try.prog 81 #[.int .u32 s, .slice A l.length c] w (Kept (.int .u32 (Crc.more s (nums8 l) : Nat)) w) := by
  have HR := Lib.hid hr
  have hlen := hr.len
  clear hr
  have hsg : IntKind.u32.signed = false := rfl
  obtain ⟨r0, hr0, hr0lt, HR0⟩ := not_facts s hs
  go_enter Try.func81, Try.ntmps81
  go_wp2_with ((go_at_call 82; refine (nibbles_any _).mono ?_; rintro e w1 ⟨rfl, hb⟩; rw [tab16]; have HB := Lib.hid hb; clear hb))
  rw [← tab16]
  have HT := Lib.hid (fun (j : Nat) (h : j < 16) => (show (w1.alloc (.cells (tab 16).toArray 128)).cell? ⟨w1.heap.size, j, none⟩ = some (.int .u32 (Crc.nib j : Nat)) by rw [World.cell?_alloc_new]; simpa using tab_nib h))
  have hba : Below w1.heap.size w1 (w1.alloc (.cells (tab 16).toArray 128)) := below_alloc (Below.refl _ _) _
  have HRW := Lib.hid (HR.out.below (below_step' HB.out hba))
  have HBW := Lib.hid (below_step' HB.out hba)
  clear hba
  generalize w1.alloc (.cells (tab 16).toArray 128) = W at *
  generalize w1.heap.size = g at *
  go_loop [6, 14] (fun x i => ∃ k y : Nat, k ≤ l.length ∧ y < 4294967296 ∧ i = .int .i64 k ∧ x = .int .u32 y ∧ Hid (Crc.reg y (nums8 (l.drop k)) = Crc.reg r0 (nums8 l))) (fun _ i => l.length - (intOf i).toNat)
  case atStart => exact ⟨0, r0, by omega, hr0lt, rfl, rfl, rfl⟩
  case round =>
    obtain ⟨k, y, hk, hy, rfl, rfl, HS⟩ := hrel
    by_cases hlt : k < l.length
    · obtain ⟨ad, rfl, hcell⟩ := HRW.out.at_ k hlt
      obtain ⟨b, hb⟩ : ∃ b, b = (l.getD k 0).toNat := ⟨_, rfl⟩
      have hbl : b < 256 := by rw [hb]; exact (l.getD k 0).toNat_lt
      rw [show bt l k = (b : Int) from by rw [hb]; rfl] at hcell
      obtain ⟨xl, cl, k1, n1, y1, yl, ch, k2, n2, z, f1, f2, f3, f4, F5, f6, f7, f8, f9, f10, f11, F12, f13, f14, F15⟩ := round_facts y b hy hbl
      have hc1 := HT.out k1 f4
      have hc2 := HT.out k2 f11
      rw [← F5.out] at hc1
      rw [← F12.out] at hc2
      have HS2 := Lib.hid (show Crc.reg z (nums8 (l.drop (k + 1))) = Crc.reg r0 (nums8 l) by rw [← HS.out, drop_cons hlt, Crc.reg_cons _ _ _ (by rw [← hb]; exact hbl), ← hb, F15.out])
      clear hb
      go_wp2
      go_round
      case rel => exact ⟨k + 1, z, by omega, f14, by go_num, rfl, HS2⟩
      case measure => simp [intOf]; omega
    · have hkl : k = l.length := by omega
      subst hkl
      have HY := Lib.hid (show y = Crc.reg r0 (nums8 l) by rw [← HS.out, List.drop_length]; simp [nums8, Crc.reg_nil])
      obtain ⟨z, hz, hzlt, HZ⟩ := not_facts y hy
      go_wp2
      go_ret
      exact ⟨ret_eq (by rw [HZ.out, HY.out, HR0.out]; rfl), HBW.out⟩
set_option maxRecDepth 100000 in
set_option maxHeartbeats 400000 in
theorem sum_any (A : Option Addr) (c : Nat) (l : List UInt8) (w : World) (hr : Rd w A l) :
    Calls Try.prog 77 #[.slice A l.length c] w (Kept (.int .u32 (Crc.sum (nums8 l) : Nat)) w) := by
  have HR := Lib.hid hr
  clear hr
  go_enter Try.func77, Try.ntmps77
  go_wp2_with ((go_at_call 81; refine (more_any A c l 0 _ HR.out (by decide)).mono ?_; rintro e w1 ⟨rfl, hb⟩; have HB := Lib.hid hb; clear hb))
  go_ret
  exact ⟨rfl, HB.out⟩
theorem rd_mark (W : World) (l : List UInt8) (cs : Array Value) (fr : Nat × Nat) (h : cs = (l.map encB).toArray) (hl : l.length ≤ 9223372036854775807) : Rd (W.alloc (.cells cs 5 fr)) (some ⟨W.heap.size, 0, none⟩) l := by
  subst h
  refine Kd.C_of_reads (enc := encB) (d := (0 : UInt8)) ⟨rfl, hl, fun _ => ⟨_, rfl, fun j hj => ?_⟩⟩
  rw [show (⟨W.heap.size, 0, none⟩ : Addr).add j = ⟨W.heap.size, j, none⟩ from add_plain _ _]
  have hb := blk_new W (.cells (l.map encB).toArray 5 fr)
  rw [cell_of_row _ _ _ _ _ _ hb]
  simp [hj]
end Go.Proofs.Ytceldlijbehkdaa.CrcW
