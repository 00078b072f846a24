/- Fixed. -/
import Derived.Test.YtdkadeihhgjiaaaBase
import Derived.BigQuiet
import Derived.Deep.QuietTactic
set_option linter.unusedVariables false
set_option linter.unusedSimpArgs false
namespace Go.Proofs.Ytdkadeihhgjiaaa.Fx
open Go.RowKit Go.Proofs.YtdkadeihhgjiaaaW.PrintWords Go.Proofs.Ytdkadeihhgjiaaa.B

def hasOk (n : Nat) (pos size : Int) : Bool := decide (0 ≤ pos ∧ pos + size ≤ n)
theorem hasOk_t {n : Nat} {pos size : Int} (h0 : 0 ≤ pos) (h1 : pos ≤ n) (hl : n ≤ 140737488355328) (h : 0 ≤ size) : decide (size ≤ (n : Int) - pos) = hasOk n pos size := by
  unfold hasOk; by_cases h : size ≤ (n : Int) - pos <;> simp [h] <;> omega
theorem hasOk_f {n : Nat} {pos size : Int} (h : 0 ≤ size) (h1 : ¬ (0 ≤ pos ∧ pos ≤ n)) : hasOk n pos size = false := by
  unfold hasOk; simp; omega

set_option maxHeartbeats 400000 in
theorem has_any (A : Option Addr) (c : Nat) (l : List UInt8) (pos size : Int) (w : World) (hl : l.length ≤ 140737488355328) (h0 : 0 ≤ size) :
    Calls Try.prog 80 #[.slice A l.length c, .int .i64 pos, .int .i64 size] w (Still (.bool (hasOk l.length pos size)) w) := by
  by_cases h1 : 0 ≤ pos
  · by_cases h2 : pos ≤ l.length
    · go_enter Try.func80, Try.ntmps80
      go_wp2
      go_ret
      exact ⟨ret_eq (congrArg Value.bool (hasOk_t h1 h2 hl h0)), rfl⟩
    · have h3 := hasOk_f (n := l.length) h0 (fun h => h2 h.2)
      go_enter Try.func80, Try.ntmps80
      go_wp2
      go_ret
      exact ⟨rfl, rfl⟩
  · have h3 := hasOk_f (n := l.length) h0 (fun h => h1 h.1)
    go_enter Try.func80, Try.ntmps80
    go_wp2
    go_ret
    exact ⟨rfl, rfl⟩

def le : List UInt8 → Nat
  | [] => 0
  | c :: l => c.toNat + 256 * le l
theorem le_lt : ∀ l : List UInt8, le l < 256 ^ l.length
  | [] => by simp [le]
  | c :: l => by
    have h1 := le_lt l
    have h2 := c.toNat_lt
    simp only [le, List.length_cons, Nat.pow_succ]
    omega
theorem le_append : ∀ a b : List UInt8, le (a ++ b) = le a + 256 ^ a.length * le b
  | [], b => by simp [le]
  | c :: a, b => by
    simp only [List.cons_append, le, le_append a b, List.length_cons, Nat.pow_succ]
    rw [Nat.mul_add, Nat.mul_comm (256 ^ a.length) 256, Nat.mul_assoc]; omega
def takeOk (l : List UInt8) (pos size : Int) : Bool := decide (1 ≤ size ∧ size ≤ 8 ∧ 0 ≤ pos ∧ pos + size ≤ l.length)
def takeN (l : List UInt8) (pos size : Int) : Nat := if takeOk l pos size = true then le ((l.drop pos.toNat).take size.toNat) else 0


theorem takeOk_hasOk {l : List UInt8} {pos size : Int} (h1 : 1 ≤ size) (h2 : size ≤ 8) : takeOk l pos size = hasOk l.length pos size := by
  unfold takeOk hasOk; by_cases h : 0 ≤ pos ∧ pos + size ≤ (l.length : Int) <;> simp [h] <;> omega
theorem take_no {l : List UInt8} {pos size : Int} (h : takeOk l pos size = false) : takeN l pos size = 0 := by
  unfold takeN; rw [h]; rfl
theorem takeOk_no {l : List UInt8} {pos size : Int} (h : size < 1 ∨ 8 < size) : takeOk l pos size = false := by
  unfold takeOk; simp; omega
theorem no_tuple {l : List UInt8} {pos size : Int} (h : takeOk l pos size = false) : Value.tuple #[.int .u64 0, .bool false] = .tuple #[.int .u64 (takeN l pos size), .bool (takeOk l pos size)] := by
  rw [take_no h, h]; rfl

theorem or_le {a k : Nat} {c : Int} (ha : a < 256 ^ k) (hk : k < 8) (h0 : 0 ≤ c) (h1 : c ≤ 255) : bits .or .u64 (a : Int) (IntKind.u64.wrap (c * 2 ^ (8 * k))) = ((a + 256 ^ k * c.toNat : Nat) : Int) := by
  obtain ⟨d, rfl⟩ := Int.eq_ofNat_of_zero_le h0
  have hp : (256 : Nat) ^ k = 2 ^ (8 * k) := by rw [Nat.pow_mul]
  have hd : d < 256 := by omega
  have hx : d * 2 ^ (8 * k) < 2 ^ 64 := by
    have : d * 2 ^ (8 * k) < 2 ^ 8 * 2 ^ (8 * k) := Nat.mul_lt_mul_of_pos_right hd (Nat.pow_pos (by omega))
    rw [← Nat.pow_add] at this
    exact Nat.lt_of_lt_of_le this (Nat.pow_le_pow_right (by omega) (by omega))
  have hw : ∀ n : Int, 0 ≤ n → n < 2 ^ 64 → IntKind.u64.wrap n = n := by
    intro n h0 h1; exact IntWalk.u64_in n (by omega)
  have e1 : (d : Int) * 2 ^ (8 * k) = ((d * 2 ^ (8 * k) : Nat) : Int) := by push_cast; rfl
  rw [e1, hw _ (by omega) (by exact_mod_cast hx)]
  rw [(bits_nat .u64 64 (by decide) hw a (d * 2 ^ (8 * k)) (by rw [hp] at ha; exact Nat.lt_of_lt_of_le ha (Nat.pow_le_pow_right (by omega) (by omega))) hx).2]
  congr 1
  rw [hp, Int.toNat_natCast, Nat.mul_comm d, Nat.or_comm, ← Nat.two_pow_add_eq_or_of_lt (by rw [← hp]; exact ha)]
  omega
theorem le_snoc (l : List UInt8) (k : Nat) (h : k < l.length) : le (l.take (k + 1)) = le (l.take k) + 256 ^ k * (l.getD k 0).toNat := by
  rw [List.take_succ_eq_append_getElem h, le_append, List.length_take, Nat.min_eq_left (by omega)]
  simp [le, h]
theorem le_step {l : List UInt8} {p k : Nat} (h : p + k < l.length) (hk : k < 8) : bits .or .u64 (le ((l.drop p).take k) : Int) (IntKind.u64.wrap (B.bt l (p + k) * 2 ^ (8 * k))) = le ((l.drop p).take (k + 1)) := by
  have hb := bt_bd l (p + k)
  have hl : k < (l.drop p).length := by rw [List.length_drop]; omega
  rw [or_le (Nat.lt_of_lt_of_le (le_lt _) (Nat.pow_le_pow_right (by omega) (List.length_take_le _ _))) hk hb.1 hb.2, le_snoc _ _ hl]
  simp [B.bt]

theorem yes_tuple {l : List UInt8} {p s : Nat} (h : takeOk l p s = true) : Value.tuple #[.int .u64 (le ((l.drop p).take s)), .bool true] = .tuple #[.int .u64 (takeN l p s), .bool (takeOk l p s)] := by
  simp only [takeN, h, if_true, Int.toNat_natCast]

set_option maxHeartbeats 400000 in
theorem take_any (A : Option Addr) (c : Nat) (l : List UInt8) (pos size : Int) (w : World) (hl : l.length ≤ 140737488355328) (hr : Rd w A l) :
    Calls Try.prog 78 #[.slice A l.length c, .int .i64 pos, .int .i64 size] w (Still (.tuple #[.int .u64 (takeN l pos size), .bool (takeOk l pos size)]) w) := by
  have HR := Lib.hid hr
  clear hr
  by_cases h1 : size < 1
  · have HN := Lib.hid (takeOk_no (l := l) (pos := pos) (.inl h1))
    go_enter Try.func78, Try.ntmps78
    go_wp2
    go_ret2
    exact ⟨ret_eq (no_tuple HN.out), rfl⟩
  by_cases h2 : 8 < size
  · have HN := Lib.hid (takeOk_no (l := l) (pos := pos) (.inr h2))
    go_enter Try.func78, Try.ntmps78
    go_wp2
    go_ret2
    exact ⟨ret_eq (no_tuple HN.out), rfl⟩
  have HT := Lib.hid (takeOk_hasOk (l := l) (pos := pos) (size := size) (by omega) (by omega))
  cases hh : hasOk l.length pos size with
  | false =>
    have HH := Lib.hid hh
    clear hh
    go_enter Try.func78, Try.ntmps78
    go_wp2_with (go_at_call 80; refine (has_any A c l pos size _ hl (by omega)).mono ?_; rintro e w' ⟨rfl, rfl⟩; rw [HH.out])
    go_ret2
    exact ⟨ret_eq (no_tuple (HT.out.trans HH.out)), rfl⟩
  | true =>
    have HH := Lib.hid hh
    have hp : 0 ≤ pos ∧ pos + size ≤ l.length := by simpa [hasOk] using hh
    obtain ⟨hp1, hp2⟩ := hp
    clear hh
    obtain ⟨p, rfl⟩ := Int.eq_ofNat_of_zero_le hp1
    obtain ⟨s, rfl⟩ := Int.eq_ofNat_of_zero_le (show 0 ≤ size by omega)
    go_enter Try.func78, Try.ntmps78
    go_wp2_with (go_at_call 80; refine (has_any A c l p s _ hl (by omega)).mono ?_; rintro e w' ⟨rfl, rfl⟩; rw [HH.out])
    go_loop [8, 24] (fun n i => ∃ k : Nat, k ≤ s ∧ i = .int .i64 k ∧ n = .int .u64 (le ((l.drop p).take k))) (fun _ i => s - (intOf i).toNat)
    case atStart => exact ⟨0, by omega, rfl, by simp [le]⟩
    case round =>
      obtain ⟨k, hk, rfl, rfl⟩ := hrel
      by_cases hlt : k < s
      · obtain ⟨ad, rfl, hc⟩ := HR.out.at_ (p + k) (by omega)
        have hb := bt_bd l (p + k)
        have HS := Lib.hid (le_step (l := l) (p := p) (k := k) (by omega) (by omega))
        go_wp2
        go_round
        case rel => exact ⟨k + 1, by omega, by go_num, congrArg (Value.int .u64) HS.out⟩
        case measure => simp [intOf]; omega
      · obtain rfl : k = s := by omega
        have HN := Lib.hid (HT.out.trans HH.out)
        go_wp2
        go_ret2
        exact ⟨ret_eq (yes_tuple HN.out), rfl⟩
/-- fixed.with: a copy with room behind it -/
theorem with_any (A : Option Addr) (c : Nat) (l : List UInt8) (n : Int) (w : World) (hl : l.length ≤ 140737488355328) (h0 : 0 ≤ n) (hn : n ≤ 140737488355328) (hr : Rd w A l) :
    Calls Try.prog 76 #[.slice A l.length c, .int .i64 n] w (Made w l) := by
  have HR := Lib.hid hr
  clear hr
  go_enter Try.func76, Try.ntmps76
  go_wp2_with (first
    | (at_make; refine make_u8 (w0 := w) w.heap.size rfl (.tmp 7) (.tmp 11) rfl (l.length : Int) (l.length + n) rfl rfl (by omega) (by omega) (by omega) (Below.refl _ _) (Nat.le_refl _) ?_; intro v1 w1 hown hb; have HO := Lib.hid hown; have HB := Lib.hid hb; clear hown hb)
    | ((with_reducible refine gate_ (.call { callee := .builtin .copy, args := #[.tmp 13, .tmp 14], argTypes := #[32, 32] }) rfl ?_); refine copy_u8 (w0 := w) w.heap.size rfl (.tmp 13) (.tmp 14) rfl v1 _ l A l.length c rfl rfl rfl HO.out (HR.out.below (Below.mono HB.out (Nat.le_refl _))) HB.out HB.out.size ?_; intro w2 hown hb _))
  have HO2 := Lib.hid hown
  have HB2 := Lib.hid hb
  clear hown hb
  go_wp2
  go_ret
  exact ⟨v1, rfl, by have := HO2.out; simpa using this, HB2.out⟩

def putB (n : Nat) : Nat → List UInt8
  | 0 => []
  | k + 1 => putB n k ++ [UInt8.ofNat (n / 256 ^ k)]
theorem putB_length (n : Nat) : ∀ k, (putB n k).length = k
  | 0 => rfl
  | k + 1 => by simp [putB, putB_length n k]
/-- fixed.Put -/
def putL (l : List UInt8) (n : Nat) (size : Int) : List UInt8 := if 1 ≤ size ∧ size ≤ 8 then l ++ putB n size.toNat else l

set_option maxHeartbeats 400000 in
theorem put_any (A : Option Addr) (c : Nat) (l : List UInt8) (n : Nat) (size : Int) (w : World) (hl : l.length ≤ 140737488355000) (hn : n < 18446744073709551616) (hr : Rd w A l) :
    Calls Try.prog 64 #[.slice A l.length c, .int .u64 n, .int .i64 size] w (Made w (putL l n size)) := by
  have HR := Lib.hid hr
  clear hr
  have HW := Lib.hid (with_any A c l 8 w (by omega) (by omega) (by omega) HR.out)
  by_cases h1 : size < 1
  · have HL := Lib.hid (show putL l n size = l by unfold putL; rw [if_neg (by omega)])
    go_enter Try.func64, Try.ntmps64
    go_wp2_with (go_at_call 76; refine HW.out.mono ?_; rintro e w' ⟨v1, rfl, hown, hb⟩; have HO := Lib.hid hown; have HB := Lib.hid hb; clear hown hb)
    go_ret
    exact ⟨_, rfl, by rw [HL.out]; exact HO.out, HB.out⟩
  by_cases h2 : 8 < size
  · have HL := Lib.hid (show putL l n size = l by unfold putL; rw [if_neg (by omega)])
    go_enter Try.func64, Try.ntmps64
    go_wp2_with (go_at_call 76; refine HW.out.mono ?_; rintro e w' ⟨v1, rfl, hown, hb⟩; have HO := Lib.hid hown; have HB := Lib.hid hb; clear hown hb)
    go_ret
    exact ⟨_, rfl, by rw [HL.out]; exact HO.out, HB.out⟩
  have HL := Lib.hid (show putL l n size = l ++ putB n size.toNat by unfold putL; rw [if_pos (by omega)])
  obtain ⟨s, rfl⟩ := Int.eq_ofNat_of_zero_le (show 0 ≤ size by omega)
  go_enter Try.func64, Try.ntmps64
  go_wp2_with (go_at_call 76; refine HW.out.mono ?_; rintro e w' ⟨v1, rfl, hown, hb⟩; have HO := Lib.hid hown; have HB := Lib.hid hb; clear hown hb)
  go_loopw [1, 7, 18] (fun x v i wr => ∃ k : Nat, k ≤ s ∧ i = .int .i64 k ∧ x = .int .u64 ((n / 256 ^ k : Nat) : Int) ∧ Hid (Own wr w.heap.size v (l ++ putB n k)) ∧ Hid (Below w.heap.size w wr)) (fun _ _ i _ => s - (intOf i).toNat)
  case atStart => exact ⟨0, by omega, rfl, by simp, by simpa [putB] using HO, HB⟩
  case round =>
    obtain ⟨k, hk, rfl, rfl, HOk, HBk⟩ := hrel
    by_cases hlt : k < s
    · have hq : n / 256 ^ k < 18446744073709551616 := Nat.lt_of_le_of_lt (Nat.div_le_self _ _) hn
      have HN := Lib.hid (show (UInt8.ofNat (n / 256 ^ k)).toNat = n / 256 ^ k % 256 by simp)
      have HLn : (l ++ putB n k).length + 1 ≤ 140737488355328 := by rw [List.length_append, putB_length]; omega
      obtain ⟨q, hqe⟩ : ∃ q, q = n / 256 ^ k := ⟨_, rfl⟩
      have HQ := Lib.hid hqe
      rw [← hqe] at hq HN
      rw [← hqe]
      clear hqe
      go_wp2_with (at_builtin; go_loud (refine app1 (w0 := w) w.heap.size rfl (.tmp 20) (.tmp 23) rfl _ (l ++ putB n k) (UInt8.ofNat q) _ rfl rfl (by rw [HN.out]; rfl) HOk.out HBk.out HBk.out.size HLn ?_); intro v2 w2 hown hb _ _; have HO2 := Lib.hid hown; have HB2 := Lib.hid hb; clear hown hb)
      go_roundw
      case rel => exact ⟨k + 1, by omega, by go_num, by rw [Nat.pow_succ, ← Nat.div_div_eq_div_mul, ← HQ.out]; go_num, by have := HO2.out; rw [HQ.out, List.append_assoc] at this; exact this, HB2⟩
      case measure => simp [intOf]; omega
    · obtain rfl : k = s := by omega
      go_wp2
      go_ret
      exact ⟨_, rfl, by rw [HL.out]; exact HOk.out, HBk.out⟩
/-- fixed.PutText -/
def putTextL (l : List UInt8) (s : List UInt8) : List UInt8 := if s.length ≤ 255 then l ++ [UInt8.ofNat s.length] ++ s else l
theorem putText_any (A : Option Addr) (c : Nat) (l : List UInt8) (s : ByteArray) (w : World) (hl : l.length + s.size ≤ 140737488355000) (hr : Rd w A l) :
    Calls Try.prog 62 #[.slice A l.length c, .string s] w (Made2 w (putTextL l s.data.toList) (decide (s.size ≤ 255))) := by
  have hsz : s.data.toList.length = s.size := by simp
  have HR := Lib.hid hr
  clear hr
  have HW := Lib.hid (with_any A c l ((s.size : Int) + 1) w (by omega) (by omega) (by omega) HR.out)
  by_cases h1 : s.size ≤ 255
  · have HL := Lib.hid (show putTextL l s.data.toList = l ++ [UInt8.ofNat s.size] ++ s.data.toList by unfold putTextL; rw [if_pos (by omega), hsz])
    have HN := Lib.hid (show (UInt8.ofNat s.size).toNat = s.size by simp; omega)
    clear hsz
    go_enter Try.func62, Try.ntmps62
    go_wp2_with (first
      | (go_at_call 76; refine HW.out.mono ?_; rintro e w' ⟨v1, rfl, hown, hb⟩; have HO := Lib.hid hown; have HB := Lib.hid hb; clear hown hb)
      | (at_builtin; refine app1 (w0 := w) w.heap.size rfl (.tmp 16) (.tmp 20) rfl v1 l (UInt8.ofNat s.size) _ rfl rfl (by rw [HN.out]) HO.out HB.out HB.out.size (by omega) ?_; intro v2 w2 hown hb _ _; have HO2 := Lib.hid hown; have HB2 := Lib.hid hb; clear hown hb)
      | (at_builtin; refine appStr (w0 := w) w.heap.size rfl (.tmp 22) (.tmp 23) rfl v2 _ s rfl rfl HO2.out HB2.out HB2.out.size (by simp; omega) ?_; intro v3 w3 hown hb _; have HO3 := Lib.hid hown; have HB3 := Lib.hid hb; clear hown hb))
    go_ret2
    exact ⟨v3, by rw [decide_eq_true h1]; rfl, by rw [HL.out]; exact HO3.out, HB3.out⟩
  · have HL := Lib.hid (show putTextL l s.data.toList = l by unfold putTextL; rw [if_neg (by omega)])
    clear hsz
    go_enter Try.func62, Try.ntmps62
    go_wp2_with (go_at_call 76; refine HW.out.mono ?_; rintro e w' ⟨v1, rfl, hown, hb⟩; have HO := Lib.hid hown; have HB := Lib.hid hb; clear hown hb)
    go_ret2
    exact ⟨v1, by rw [decide_eq_false h1]; rfl, by rw [HL.out]; exact HO.out, HB.out⟩

def textOk (l : List UInt8) (pos : Int) : Bool := decide (0 ≤ pos ∧ pos < l.length ∧ pos + 1 + B.bt l pos.toNat ≤ l.length)
def textS (l : List UInt8) (pos : Int) : ByteArray := if textOk l pos = true then ⟨((l.drop (pos.toNat + 1)).take (l.getD pos.toNat 0).toNat).toArray⟩ else ⟨#[]⟩
def textEnd (l : List UInt8) (pos : Int) : Int := if textOk l pos = true then pos + 1 + B.bt l pos.toNat else 0
def textV (l : List UInt8) (pos : Int) : Value := .tuple #[.string (textS l pos), .int .i64 (textEnd l pos), .bool (textOk l pos)]
theorem text_no {l : List UInt8} {pos : Int} (h : textOk l pos = false) : Value.tuple #[.string ⟨#[]⟩, .int .i64 0, .bool false] = textV l pos := by
  unfold textV textS textEnd; rw [h]; rfl
theorem text_yes {l : List UInt8} {p n : Nat} (h : textOk l p = true) (hn : n = (l.getD p 0).toNat) : Value.tuple #[.string ⟨((l.take (p + 1 + n)).drop (p + 1)).toArray⟩, .int .i64 ((p : Int) + 1 + n), .bool true] = textV l p := by
  unfold textV textS textEnd; rw [h]
  simp only [if_true, Int.toNat_natCast, B.bt, hn]
  rw [List.drop_take]
  congr 7
  omega
theorem takeN_one {l : List UInt8} {p : Nat} (h : takeOk l p 1 = true) : takeN l p 1 = (l.getD p 0).toNat := by
  have hp : p < l.length := by simp [takeOk] at h; omega
  unfold takeN; rw [h]
  simp only [if_true, Int.toNat_natCast]
  rw [List.drop_eq_getElem_cons hp, show Int.toNat 1 = 0 + 1 from rfl, List.take_succ_cons, List.take_zero]
  simp [le, hp]

set_option maxHeartbeats 400000 in
theorem takeText_any (A : Option Addr) (c : Nat) (l : List UInt8) (pos : Int) (w : World) (hl : l.length ≤ 140737488355328) (hc : l.length ≤ c) (hr : Rd w A l) :
    Calls Try.prog 68 #[.slice A l.length c, .int .i64 pos] w (Still (textV l pos) w) := by
  have HR := Lib.hid hr
  clear hr
  have HT := Lib.hid (take_any A c l pos 1 w hl HR.out)
  cases h1 : takeOk l pos 1 with
  | false =>
    have HN := Lib.hid (show textOk l pos = false by simp [takeOk] at h1; simp [textOk]; omega)
    have H1 := Lib.hid h1
    clear h1
    go_enter Try.func68, Try.ntmps68
    go_wp2_with (go_at_call 78; refine HT.out.mono ?_; rintro e w' ⟨rfl, rfl⟩; rw [H1.out])
    go_ret3
    exact ⟨ret_eq (text_no HN.out), rfl⟩
  | true =>
    have hp : 0 ≤ pos ∧ pos < l.length := by simp [takeOk] at h1; omega
    obtain ⟨hp0, hp1⟩ := hp
    obtain ⟨p, rfl⟩ := Int.eq_ofNat_of_zero_le hp0
    have hN := takeN_one h1
    obtain ⟨n, hn⟩ : ∃ n, n = (l.getD p 0).toNat := ⟨_, rfl⟩
    rw [← hn] at hN
    have hn1 : n ≤ 255 := by have := (l.getD p 0).toNat_lt; omega
    have HN := Lib.hid hN
    have H1 := Lib.hid h1
    have HE := Lib.hid hn
    clear hN h1 hn
    have HH := Lib.hid (has_any A c l ((p : Int) + 1) n w hl (by omega))
    cases h2 : hasOk l.length ((p : Int) + 1) n with
    | false =>
      have HF := Lib.hid (show textOk l p = false by simp [hasOk] at h2; simp only [textOk, Int.toNat_natCast, B.bt, ← HE.out, decide_eq_false_iff_not]; omega)
      have H2 := Lib.hid h2
      clear h2
      go_enter Try.func68, Try.ntmps68
      go_wp2_with (first
        | (go_at_call 78; refine HT.out.mono ?_; rintro e w' ⟨rfl, rfl⟩; rw [H1.out, HN.out])
        | (go_at_call 80; refine HH.out.mono ?_; rintro e w' ⟨rfl, rfl⟩; rw [H2.out]))
      go_ret3
      exact ⟨ret_eq (text_no HF.out), rfl⟩
    | true =>
      have hb : (p : Int) + 1 + n ≤ l.length := by simp [hasOk] at h2; omega
      have HF := Lib.hid (show textOk l p = true by simp only [textOk, Int.toNat_natCast, B.bt, ← HE.out, decide_eq_true_eq]; omega)
      have H2 := Lib.hid h2
      clear h2
      obtain ⟨A', y, hy, hcut, hrd, -, -⟩ := cutMid (A := A) (c := c) ((p : Int) + 1) ((p : Int) + 1 + n) (by omega) (by omega) hb hc
      have HX := Lib.hid (string_run (c - ((p : Int) + 1).toNat) (hrd w HR.out))
      have HY := Lib.hid (text_yes (l := l) (p := p) (n := n) HF.out HE.out)
      rw [show (l.take (p + 1 + n)).drop (p + 1) = y from by rw [hy.out, show ((p : Int) + 1 + n).toNat = p + 1 + n by omega, show ((p : Int) + 1).toNat = p + 1 by omega]] at HY
      clear hrd
      rw [show ((p : Int) + 1 + n).toNat = p + 1 + n by omega, show ((p : Int) + 1).toNat = p + 1 by omega] at *
      go_enter Try.func68, Try.ntmps68
      go_wp2_with (first
        | (go_at_call 78; refine HT.out.mono ?_; rintro e w' ⟨rfl, rfl⟩; rw [H1.out, HN.out]; have hconv := HX.out)
        | (go_at_call 80; refine HH.out.mono ?_; rintro e w' ⟨rfl, rfl⟩; rw [H2.out]))

      go_ret3
      exact ⟨ret_eq HY.out, rfl⟩
end Go.Proofs.Ytdkadeihhgjiaaa.Fx
/- Numbers as bytes, there and back. Plain lists. -/
set_option linter.unusedVariables false
set_option linter.unusedSimpArgs false
namespace Go.Proofs.Ytdkadeihhgjiaaa.Fx
open Go.Proofs.Ytdkadeihhgjiaaa.B

theorem le_putB (n : Nat) : ∀ k : Nat, le (putB n k) = n % 256 ^ k
  | 0 => by rw [Nat.pow_zero, Nat.mod_one]; rfl
  | k + 1 => by
    show le (putB n k ++ [UInt8.ofNat (n / 256 ^ k)]) = _
    rw [le_append, le_putB n k, putB_length, Nat.mod_pow_succ]
    show _ + _ * ((UInt8.ofNat (n / 256 ^ k)).toNat + 256 * 0) = _
    simp
theorem le_inj : ∀ {a b : List UInt8}, a.length = b.length → le a = le b → a = b
  | [], [], _, _ => rfl
  | [], _ :: _, h, _ => by simp at h
  | _ :: _, [], h, _ => by simp at h
  | x :: a, y :: b, h, he => by
    simp only [le] at he
    have hx := x.toNat_lt
    have hy := y.toNat_lt
    have h1 : x = y := UInt8.toNat_inj.1 (by omega)
    have h2 : a = b := le_inj (by simpa using h) (by omega)
    rw [h1, h2]
theorem putB_le (y : List UInt8) : putB (le y) y.length = y := by
  refine le_inj (putB_length _ _) ?_
  rw [le_putB, Nat.mod_eq_of_lt (le_lt y)]
theorem putB_of {y : List UInt8} {k : Nat} (h : y.length = k) : putB (le y) k = y := by subst h; exact putB_le y
theorem putL1 (l : List UInt8) (n : Nat) : putL l n 1 = l ++ putB n 1 := by unfold putL; rw [if_pos (by omega)]; rfl
theorem putL4 (l : List UInt8) (n : Nat) : putL l n 4 = l ++ putB n 4 := by unfold putL; rw [if_pos (by omega)]; rfl
theorem putL8 (l : List UInt8) (n : Nat) : putL l n 8 = l ++ putB n 8 := by unfold putL; rw [if_pos (by omega)]; rfl
end Go.Proofs.Ytdkadeihhgjiaaa.Fx
/- stillageref01.Put. -/
set_option linter.unusedVariables false
set_option linter.unusedSimpArgs false
namespace Go.Proofs.Ytdkadeihhgjiaaa.R01
open Go.RowKit Go.Proofs.YtdkadeihhgjiaaaW.PrintWords Go.Proofs.Ytdkadeihhgjiaaa.B Go.Proofs.Ytdkadeihhgjiaaa.Fx

set_option maxRecDepth 100000 in
set_option maxHeartbeats 400000 in
theorem put_any (A : Option Addr) (c : Nat) (l : List UInt8) (n s : Nat) (w : World) (hl : l.length ≤ 140737488355000) (hn : n < 18446744073709551616) (hs1 : 1 ≤ s) (hs8 : s ≤ 8) (hr : Rd w A l) :
    Calls Try.prog 56 #[.slice A l.length c, .int .u64 n, .int .i64 s] w (Made w (l ++ putB n s)) := by
  have HR := Lib.hid hr
  have HNN := Lib.hid hn
  clear hr hn
  go_enter Try.func56, Try.ntmps56
  go_wp2_with (at_builtin; refine appRow (w0 := w) w.heap.size rfl (.const (.slice none 0 0)) (.tmp 9) rfl _ [] l A l.length c rfl rfl rfl (Own.nil _ _) HR.out (Below.refl _ _) (Nat.le_refl _) (by simp; omega) ?_; intro v2 w2 hown hb _ _; rw [List.nil_append] at hown; have HO := Lib.hid hown; have HB := Lib.hid hb; clear hown hb)
  go_loopw [1, 7, 8] (fun x v i wr => ∃ (k q : Nat), k ≤ s ∧ i = .int .i64 k ∧ x = .int .u64 q ∧ q ≤ 18446744073709551615 ∧ Hid (q = n / 256 ^ k) ∧ Hid (Own wr w.heap.size v (l ++ putB n k)) ∧ Hid (Below w.heap.size w wr)) (fun _ _ i _ => s - (intOf i).toNat)
  case atStart => exact ⟨0, n, by omega, rfl, rfl, by have := HNN.out; omega, Lib.hid (by simp), Lib.hid (by simpa [putB] using HO.out), HB⟩
  case round =>
    obtain ⟨k, q, hk, rfl, rfl, hq, HQ, HOk, HBk⟩ := hrel
    by_cases hlt : k < s
    · have HN := Lib.hid (show ((q : Int) % 256) = ((UInt8.ofNat q).toNat : Int) by simp)
      have HLn : (l ++ putB n k).length + 1 ≤ 140737488355328 := by rw [List.length_append, putB_length]; omega
      have HE := Lib.hid (show (l ++ putB n k) ++ [UInt8.ofNat q] = l ++ putB n (k + 1) by rw [HQ.out, List.append_assoc]; rfl)
      have HQ2 := Lib.hid (show q / 256 = n / 256 ^ (k + 1) by rw [HQ.out, Nat.pow_succ, Nat.div_div_eq_div_mul])
      have hq2 : q / 256 ≤ 18446744073709551615 := by omega
      go_wp2_with (at_builtin; go_loud (refine app1 (w0 := w) w.heap.size rfl (.tmp 20) (.tmp 24) rfl _ (l ++ putB n k) (UInt8.ofNat q) _ rfl rfl HN.out HOk.out HBk.out HBk.out.size HLn ?_); intro v2 w2 hown hb _ _; have HO2 := Lib.hid hown; have HB2 := Lib.hid hb; clear hown hb)
      go_roundw
      case rel => exact ⟨k + 1, q / 256, by omega, by go_num, by go_num, hq2, HQ2, Lib.hid (by rw [← HE.out]; exact HO2.out), HB2⟩
      case measure => simp [intOf]; omega
    · obtain rfl : k = s := by omega
      go_wp2
      go_ret
      exact ⟨_, rfl, HOk.out, HBk.out⟩
end Go.Proofs.Ytdkadeihhgjiaaa.R01
/- stillageref01: Take, TakeText, Same: what each call answers. -/
set_option linter.unusedVariables false
set_option linter.unusedSimpArgs false
namespace Go.Proofs.Ytdkadeihhgjiaaa.R01
open Go.RowKit Go.Proofs.YtdkadeihhgjiaaaW.PrintWords Go.Proofs.Ytdkadeihhgjiaaa.B Go.Proofs.Ytdkadeihhgjiaaa.Fx

theorem le_drop {x : List UInt8} {k : Nat} (hk : k < x.length) : le (x.drop k) = (x.getD k 0).toNat + 256 * le (x.drop (k + 1)) := by
  rw [List.drop_eq_getElem_cons hk]; simp [le, hk]
theorem le_lt8 {x : List UInt8} (h : x.length ≤ 8) : le x < 18446744073709551616 :=
  Nat.lt_of_lt_of_le (le_lt x) (Nat.le_trans (Nat.pow_le_pow_right (by omega) h) (by decide))
theorem take_step {l : List UInt8} {p s k : Nat} (hk : k < s) (hs : s ≤ 8) (hp : p + s ≤ l.length) :
    IntKind.u64.wrap (IntKind.u64.wrap ((le (((l.drop p).take s).drop (k + 1)) : Int) * 256) + B.bt l (p + k)) = (le (((l.drop p).take s).drop k) : Int) := by
  have hl : k < ((l.drop p).take s).length := by rw [List.length_take, List.length_drop]; omega
  have h1 := le_drop hl
  have h2 : le (((l.drop p).take s).drop k) < 18446744073709551616 := le_lt8 (by rw [List.length_drop, List.length_take]; omega)
  have h3 : (((l.drop p).take s).getD k 0).toNat = (l.getD (p + k) 0).toNat := by simp [hk]
  have h4 : B.bt l (p + k) = ((l.getD (p + k) 0).toNat : Int) := rfl
  rw [IntWalk.u64_in ((le (((l.drop p).take s).drop (k + 1)) : Int) * 256) (by omega), IntWalk.u64_in _ (by omega)]
  omega

set_option maxHeartbeats 400000 in
theorem take_any (A : Option Addr) (c : Nat) (l : List UInt8) (pos size : Int) (w : World) (hl : l.length ≤ 140737488355328) (hr : Rd w A l) :
    Calls Try.prog 70 #[.slice A l.length c, .int .i64 pos, .int .i64 size] w (Still (.tuple #[.int .u64 (takeN l pos size), .bool (takeOk l pos size)]) w) := by
  have HR := Lib.hid hr
  clear hr
  by_cases h1 : size < 1
  · have HN := Lib.hid (takeOk_no (l := l) (pos := pos) (.inl h1))
    go_enter Try.func70, Try.ntmps70
    go_wp2
    go_ret2
    exact ⟨ret_eq (no_tuple HN.out), rfl⟩
  by_cases h2 : 8 < size
  · have HN := Lib.hid (takeOk_no (l := l) (pos := pos) (.inr h2))
    go_enter Try.func70, Try.ntmps70
    go_wp2
    go_ret2
    exact ⟨ret_eq (no_tuple HN.out), rfl⟩
  by_cases h3 : pos < 0
  · have HN := Lib.hid (show takeOk l pos size = false by simp [takeOk]; omega)
    go_enter Try.func70, Try.ntmps70
    go_wp2
    go_ret2
    exact ⟨ret_eq (no_tuple HN.out), rfl⟩
  by_cases h4 : (l.length : Int) - size < pos
  · have HN := Lib.hid (show takeOk l pos size = false by simp [takeOk]; omega)
    go_enter Try.func70, Try.ntmps70
    go_wp2
    go_ret2
    exact ⟨ret_eq (no_tuple HN.out), rfl⟩
  have hp2 : pos + size ≤ l.length := by omega
  obtain ⟨p, rfl⟩ := Int.eq_ofNat_of_zero_le (show 0 ≤ pos by omega)
  obtain ⟨s, rfl⟩ := Int.eq_ofNat_of_zero_le (show 0 ≤ size by omega)
  have HN := Lib.hid (show takeOk l p s = true by simp [takeOk]; omega)
  go_enter Try.func70, Try.ntmps70
  go_wp2
  go_loop [8, 9] (fun n i => ∃ k : Nat, k ≤ s ∧ i = .int .i64 ((k : Int) - 1) ∧ n = .int .u64 (le (((l.drop p).take s).drop k))) (fun _ i => (intOf i + 1).toNat)
  case atStart => exact ⟨s, by omega, rfl, by simp [le]⟩
  case round =>
    obtain ⟨k, hk, rfl, rfl⟩ := hrel
    by_cases hlt : 1 ≤ k
    · obtain ⟨k, rfl⟩ : ∃ j, k = j + 1 := ⟨k - 1, by omega⟩
      obtain ⟨ad, rfl, hc⟩ := HR.out.at_ (p + k) (by omega)
      have hb := bt_bd l (p + k)
      have HS := Lib.hid (take_step (l := l) (p := p) (k := k) (s := s) (by omega) (by omega) (by omega))
      rw [show ((k + 1 : Nat) : Int) - 1 = k by omega]
      go_wp2
      go_round
      case rel => exact ⟨k, by omega, rfl, congrArg (Value.int .u64) HS.out⟩
      case measure => simp [intOf]
    · obtain rfl : k = 0 := by omega
      rw [show ((0 : Nat) : Int) - 1 = -1 by omega]
      go_wp2
      go_ret2
      exact ⟨ret_eq (yes_tuple HN.out), rfl⟩

end Go.Proofs.Ytdkadeihhgjiaaa.R01
