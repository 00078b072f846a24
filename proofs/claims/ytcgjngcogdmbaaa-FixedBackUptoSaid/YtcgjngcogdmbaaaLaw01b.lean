/- stillagelaw01: the walk of FixedBack. -/
import Derived.Test.YtcgjngcogdmbaaaLaw01
import Derived.Test.YtcgjngcogdmbaaaOpen
set_option linter.unusedVariables false
set_option linter.unusedSimpArgs false
namespace Go.Proofs.Ytcgjngcogdmbaaa.L01
open Go.RowKit Go.Proofs.YtcgjngcogdmbaaaW.PrintWords Go.Proofs.Ytcgjngcogdmbaaa.B Go.Proofs.Ytcgjngcogdmbaaa.Fx

/-! ### the plain law -/
theorem le_putB (n : Nat) : ∀ k : Nat, le (putB n k) = n % 256 ^ k
  | 0 => by rw [Nat.pow_zero, Nat.mod_one]; rfl
  | k + 1 => by
    show le (putB n k ++ [UInt8.ofNat (n / 256 ^ k)]) = _
    rw [le_append, le_putB n k, putB_length, Nat.mod_pow_succ]
    show _ + _ * ((UInt8.ofNat (n / 256 ^ k)).toNat + 256 * 0) = _
    simp
theorem putL8 (l : List UInt8) (n : Nat) : putL l n 8 = l ++ putB n 8 := by unfold putL; rw [if_pos (by omega)]; rfl
theorem back_take {l m : List UInt8} {n : Nat} (h : n < 18446744073709551616) (z : List UInt8) (hz : z = l ++ putB n 8 ++ m) : takeOk z l.length 8 = true ∧ takeN z l.length 8 = n := by
  have h1 : takeOk z l.length 8 = true := by
    unfold takeOk
    subst hz
    simp only [List.length_append, putB_length]
    exact decide_eq_true (by omega)
  refine ⟨h1, ?_⟩
  unfold takeN
  rw [if_pos h1, Int.toNat_natCast]
  subst hz
  rw [List.append_assoc, List.drop_left' rfl, show (8 : Int).toNat = 8 from rfl, List.take_left' (putB_length n 8), le_putB n 8, Nat.mod_eq_of_lt (by omega)]
theorem back_text {x m s : List UInt8} (hs : s.length ≤ 255) (z : List UInt8) (hz : z = x ++ [UInt8.ofNat s.length] ++ s ++ m) : textOk z x.length = true ∧ textS z x.length = ⟨s.toArray⟩ ∧ textEnd z x.length = (x.length : Int) + 1 + s.length := by
  have h0 : z.getD x.length 0 = UInt8.ofNat s.length := by
    subst hz
    rw [List.getD_eq_getElem?_getD]; simp
  have h1 : (z.getD x.length 0).toNat = s.length := by rw [h0]; simp; omega
  have hb : B.bt z x.length = (s.length : Int) := by unfold B.bt; rw [h1]
  have hok : textOk z x.length = true := by
    unfold textOk
    rw [Int.toNat_natCast, hb]
    subst hz
    simp only [List.length_append, List.length_singleton]
    exact decide_eq_true (by omega)
  refine ⟨hok, ?_, ?_⟩
  · unfold textS
    rw [if_pos hok, Int.toNat_natCast, h1]
    subst hz
    rw [List.append_assoc, List.drop_left' (by simp), List.take_left' rfl]
  · unfold textEnd
    rw [if_pos hok, Int.toNat_natCast, hb]

/-! ### the walk -/
set_option maxRecDepth 100000 in
set_option maxHeartbeats 400000 in
theorem back_walk (A : Option Addr) (c : Nat) (l : List UInt8) (n : Nat) (s : ByteArray) (A2 : Option Addr) (d : Nat) (m : List UInt8) (w : World) (hra : Rd w A l) (hca : l.length ≤ c) (hn : n < 18446744073709551616) (hrb : Rd w A2 m) (hcb : m.length ≤ d) (hsz : l.length + s.size + m.length ≤ 1048576) :
    Calls Try.prog 13 #[.agg #[.slice A l.length c, .int .u64 n, .string s, .slice A2 m.length d]] w (Kept (.bool true) w) := by
  have HA := Lib.hid hra
  have HM := Lib.hid hrb
  have HN := Lib.hid hn
  have HSS := Lib.hid (show s.data.toList.length = s.size by simp)
  obtain ⟨x, hx⟩ : ∃ x, x = putL l n 8 := ⟨_, rfl⟩
  have hxl : x.length = l.length + 8 := by rw [hx, putL8, List.length_append, putB_length]
  obtain ⟨y, hy⟩ : ∃ y, y = putTextL x s.data.toList := ⟨_, rfl⟩
  have hss : s.data.toList.length = s.size := HSS.out
  have hyl : y.length ≤ x.length + 1 + s.size := by
    rw [hy]; unfold putTextL
    split
    · rw [List.length_append, List.length_append, hss, List.length_singleton]; omega
    · omega
  obtain ⟨z, hz⟩ : ∃ z, z = y ++ m := ⟨_, rfl⟩
  have hzl : z.length = y.length + m.length := by rw [hz, List.length_append]
  have hyx : ∃ t, y = x ++ t := by
    rw [hy]; unfold putTextL; split
    · exact ⟨_, List.append_assoc _ _ _⟩
    · exact ⟨[], by rw [List.append_nil]⟩
  have HT := Lib.hid (show takeOk z l.length 8 = true ∧ takeN z l.length 8 = n from by
    obtain ⟨t, ht⟩ := hyx
    exact back_take (m := t ++ m) hn z (by rw [hz, ht, hx, putL8, List.append_assoc (l ++ putB n 8)]))
  have HCUT := Lib.hid (show z.take l.length = l from by
    obtain ⟨t, ht⟩ := hyx
    rw [hz, ht, hx, putL8, List.append_assoc, List.append_assoc, List.take_left' rfl])
  have hlz : l.length ≤ z.length := by
    obtain ⟨t, ht⟩ := hyx
    rw [hzl, ht, List.length_append]; omega
  have H1 := Lib.hid (fun (W : World) (hr : Rd W A l) => put_any A c l n 8 W (by omega) hn hr)
  rw [← hx] at H1
  have H2 := Lib.hid (fun (X : Option Addr) (e : Nat) (W : World) (hr : Rd W X x) => putText_any X e x s W (by omega) hr)
  rw [← hy] at H2
  have H3 := Lib.hid (fun (X : Option Addr) (e : Nat) (W : World) (hr : Rd W X z) => take_any X e z l.length 8 W (by omega) hr)
  rw [HT.out.1, HT.out.2] at H3
  have H4 := Lib.hid (fun (X : Option Addr) (e : Nat) (W : World) (he : z.length ≤ e) (hr : Rd W X z) => takeText_any X e z x.length W (by omega) he hr)
  rw [show textV z x.length = .tuple #[.string (textS z x.length), .int .i64 (textEnd z x.length), .bool (textOk z x.length)] from rfl] at H4
  have HTX := Lib.hid (fun (h : s.size ≤ 255) => (show textOk z x.length = true ∧ textS z x.length = s ∧ textEnd z x.length = (x.length : Int) + 1 + s.size from by
    have h2 := back_text (x := x) (m := m) (s := s.data.toList) (by omega) z (by rw [hz, hy]; unfold putTextL; rw [if_pos (by omega)])
    refine ⟨h2.1, h2.2.1.trans (by cases s; rfl), ?_⟩
    rw [h2.2.2, HSS.out]))
  have HZ := Lib.hid hz
  have HXL := Lib.hid hxl
  clear hss
  have hxb : x.length ≤ 1048584 := by omega
  have hyb : y.length ≤ 2097161 := by omega
  have hzb : z.length ≤ 3145737 := by omega
  clear hra hrb hn hz hy hx hyx HT hxl hyl hzl
  generalize textOk z x.length = tok at *
  generalize textS z x.length = ts at *
  generalize textEnd z x.length = te at *
  go_enter Try.func13, Try.ntmps13
  go_wp2_with fail
  go_quiet (fail)
  generalize hWd : (w.alloc (.cells #[.slice A l.length c, .int .u64 n, .string s, .slice A2 m.length d] 59)).drewN nq = w0
  have HB0 := Lib.hid (show Below w.heap.size w w0 by rw [← hWd]; exact pw_below_drewN (below_alloc (Below.refl _ _) _) nq)
  clear hWd
  go_wp2_with fail
  refine (H1.out _ (HA.out.below HB0.out)).mono ?_
  rintro e w1 ⟨v1, rfl, hown, hb⟩
  obtain ⟨X, e1, rfl, -, hrx⟩ := hown.reads
  have HX := Lib.hid hrx
  have HB1 := Lib.hid (below_step' HB0.out hb)
  clear hown hb hrx
  go_wp2_with fail
  refine (H2.out X e1 _ HX.out).mono ?_
  rintro e w2 ⟨v2, rfl, hown, hb⟩
  obtain ⟨Y, e2, rfl, hye, hry⟩ := hown.reads
  have HY := Lib.hid hry
  have HX2 := Lib.hid (HX.out.below hb)
  have HB2 := Lib.hid (below_step' HB1.out hb)
  clear hown hb hry
  generalize hOK : decide (s.size ≤ 255) = ok
  have HOK := Lib.hid hOK
  clear hOK
  go_wp2_with (first
    | (at_builtin; refine appRow (w0 := w) w.heap.size rfl (.tmp 32) (.tmp 33) rfl _ [] y Y y.length e2 rfl rfl rfl (own_lit w2 w.heap.size HB2.out.size [] _ rfl (by simp)) (HY.out.below (below_alloc (Below.refl _ _) _)) (HB2.out.alloc HB2.out.size _) (Nat.le_trans HB2.out.size (by simp)) (by simp; omega) ?_; intro v3 w3 hown hb _ _; rw [List.nil_append] at hown; have HO3 := Lib.hid hown; have HB3 := Lib.hid hb; clear hown hb)
    | (at_builtin; refine appRow (w0 := w) w.heap.size rfl (.tmp 34) (.tmp 35) rfl v3 y m A2 m.length d rfl rfl rfl HO3.out (HM.out.below HB3.out) HB3.out HB3.out.size (by omega) ?_; intro v4 w4 hown hb _ _; rw [← HZ.out] at hown; obtain ⟨Z, e4, rfl, hze, hrz⟩ := hown.reads; have HRZ := Lib.hid hrz; have HB4 := Lib.hid hb; clear hown hb hrz))
  obtain ⟨q, hq, hcut, hrq, hqc, hql⟩ := cutTo (A := Z) (l := z) (c := e4) (l.length : Int) (by omega) (by omega) hze
  have HQ := Lib.hid (hrq _ HRZ.out)
  have HQL := Lib.hid (show q = l by have := hq.out; rw [Int.toNat_natCast, HCUT.out] at this; exact this)
  clear hq hrq hql
  have hqb : q.length ≤ 140737488355328 := by rw [HQL.out]; omega
  by_cases hs : s.size ≤ 255
  · have hok : ok = true := by rw [← HOK.out]; exact decide_eq_true hs
    obtain ⟨ht1, ht2, ht3⟩ := HTX.out hs
    subst ht1 ht3 hok
    have ht4 := ht2.symm
    subst ht4
    have hs' : (s.size : Int) ≤ 255 := by omega
    go_wp2_with fail
    refine (H3.out Z e4 _ HRZ.out).mono ?_
    rintro e w5 ⟨rfl, rfl⟩
    go_wp2_with fail
    refine (R01.same_any Z e4 q A c l _ hqb HQ.out (HA.out.below HB4.out)).mono ?_
    rintro e w5 ⟨rfl, nn, rfl⟩
    rw [HQL.out, show R01.sameB l l = true by simp [R01.sameB]]
    have HB5 := Lib.hid (below_step' HB4.out (pw_below_drewN (Below.refl _ _) nn))
    have HRZ5 := Lib.hid (HRZ.out.drewN nn)
    go_wp2_with fail
    refine (H4.out Z e4 _ hze HRZ5.out).mono ?_
    rintro e w6 ⟨rfl, rfl⟩
    go_wp2_with fail
    refine (lives_any _).mono ?_
    rintro e w6 ⟨rfl, hb⟩
    have HB6 := Lib.hid (below_step' HB5.out hb)
    clear hb
    go_wp2_with fail
    go_ret
    exact ⟨rfl, HB6.out⟩
  · have hok : ok = false := by rw [← HOK.out]; exact decide_eq_false hs
    subst hok
    have hs' : ¬ (s.size : Int) ≤ 255 := by omega
    go_wp2_with fail
    refine (H3.out Z e4 _ HRZ.out).mono ?_
    rintro e w5 ⟨rfl, rfl⟩
    go_wp2_with fail
    refine (R01.same_any Z e4 q A c l _ hqb HQ.out (HA.out.below HB4.out)).mono ?_
    rintro e w5 ⟨rfl, nn, rfl⟩
    rw [HQL.out, show R01.sameB l l = true by simp [R01.sameB]]
    have HB5 := Lib.hid (below_step' HB4.out (pw_below_drewN (Below.refl _ _) nn))
    have HRZ5 := Lib.hid (HRZ.out.drewN nn)
    go_wp2_with fail
    refine (H4.out Z e4 _ hze HRZ5.out).mono ?_
    rintro e w6 ⟨rfl, rfl⟩
    go_wp2_with fail
    refine (lives_any _).mono ?_
    rintro e w6 ⟨rfl, hb⟩
    have HB6 := Lib.hid (below_step' HB5.out hb)
    clear hb
    go_wp2_with fail
    go_ret
    exact ⟨rfl, HB6.out⟩
/-! ### what the argument's reading gives -/
open Go.Proofs.Ytcgjngcogdmbaaa.O
abbrev Back : Type := List UInt8 × UInt64 × ByteArray × List UInt8
def kBack : Kd Back := Kd.pair (Kd.slice 5 u8) (Kd.pair O.u64 (Kd.pair Kd.string (Kd.slice 5 u8)))
theorem opnU8 : Opn Try.prog 5 u8 (fun _ => 1) := opn_u8 Try.underlying5 (by kernel_rfl)
theorem opnBytes : Opn Try.prog 33 (Kd.slice 5 u8) (ms fun _ => 1) := opn_slice Try.underlying33 (by kernel_rfl) opnU8
def mBack (x : Back) : Nat := ms (fun _ : UInt8 => 1) x.1 + (1 + ((x.2.2.1.size + 1) + ms (fun _ : UInt8 => 1) x.2.2.2)) + 1
theorem opnBack : Opn Try.prog 59 kBack mBack :=
  opn_struct Try.underlying59 (by kernel_rfl) (opnF_cons rfl opnBytes (opnF_cons rfl (opn_u64 Try.underlying44 (by kernel_rfl)) (opnF_cons rfl (opn_string Try.underlying9 (by kernel_rfl)) (opnF_one rfl opnBytes))))
theorem back_any (cs : Array Value) (x : Back) (w : World) (hK : kBack.K w x cs.toList) (hm : mBack x ≤ 1048576) :
    Calls Try.prog 13 #[.agg cs] w (Kept (.bool true) w) := by
  obtain ⟨l, n, s, m⟩ := x
  obtain ⟨c0, r0, e0, ⟨A, c, rfl, hc, hA⟩, c1, r1, rfl, rfl, c2, r2, rfl, rfl, A2, d, rfl, hd, hB⟩ := hK
  have h1 := ms_len (m := fun _ : UInt8 => 1) (fun _ => Nat.le_refl 1) l
  have h2 := ms_len (m := fun _ : UInt8 => 1) (fun _ => Nat.le_refl 1) m
  have e : cs = #[.slice A l.length c, .int .u64 (n.toNat : Int), .string s, .slice A2 m.length d] := by
    apply Array.ext'; rw [e0]; rfl
  subst e
  exact back_walk A c l n.toNat s A2 d m w hA hc n.toNat_lt hB hd (by simp only [mBack] at hm; omega)
end Go.Proofs.Ytcgjngcogdmbaaa.L01
