/- batches: records in a slice; what is wrong with them. -/
import Derived.Test.YtdkadeihhgjiaaaRcMake
import Derived.Test.YtdkadeihhgjiaaaRcRight
import Derived.Test.YtdkadeihhgjiaaaBase
set_option linter.unusedVariables false
set_option linter.unusedSimpArgs false
namespace Go.Proofs.Ytdkadeihhgjiaaa.Bt
open Go.RowKit Go.Proofs.YtdkadeihhgjiaaaW.PrintWords Go.Proofs.Ytdkadeihhgjiaaa.B Go.Proofs.Ytdkadeihhgjiaaa.Fx Go.Proofs.Ytdkadeihhgjiaaa.Fr Go.Proofs.Ytdkadeihhgjiaaa.O Go.Proofs.Ytdkadeihhgjiaaa.Rc
abbrev RecV : Type := Int64 × UInt64 × List UInt8 × ByteArray × List UInt8 × Int64 × Int64
def kD : Kd (List UInt8) := Kd.arr 32 u8 (by decide)
def kRec : Kd RecV := Kd.pair O.i64 (Kd.pair O.u64 (Kd.pair kD (Kd.pair Kd.string (Kd.pair (Kd.slice 5 u8) (Kd.pair O.i64 O.i64)))))
def mi (x : Int64) : Nat := 1
def mu (x : UInt64) : Nat := 1
def mS (s : ByteArray) : Nat := s.size + 1
def mB (x : UInt8) : Nat := 1
def mRec (x : RecV) : Nat := mi x.1 + (mu x.2.1 + (ms mB x.2.2.1 + (mS x.2.2.2.1 + (ms mB x.2.2.2.2.1 + (mi x.2.2.2.2.2.1 + mi x.2.2.2.2.2.2))))) + 1
theorem opnI : Opn Try.prog 3 O.i64 mi := opn_i64 Try.underlying3 (by kernel_rfl)
theorem opnD : Opn Try.prog 31 kD (ms mB) := opn_arr (by decide) Try.underlying31 (by kernel_rfl) (show Opn Try.prog 5 u8 mB from opn_u8 Try.underlying5 (by kernel_rfl))
theorem opnB : Opn Try.prog 32 (Kd.slice 5 u8) (ms mB) := opn_slice Try.underlying32 (by kernel_rfl) (show Opn Try.prog 5 u8 mB from opn_u8 Try.underlying5 (by kernel_rfl))
theorem opnRec : Opn Try.prog 34 kRec mRec :=
  opn_struct Try.underlying34 (by kernel_rfl)
    (opnF_cons rfl opnI
      (opnF_cons rfl (show Opn Try.prog 29 O.u64 mu from opn_u64 Try.underlying29 (by kernel_rfl))
        (opnF_cons rfl opnD
          (opnF_cons rfl (show Opn Try.prog 9 Kd.string mS from opn_string Try.underlying9 (by kernel_rfl))
            (opnF_cons rfl opnB (opnF_cons rfl opnI (opnF_one rfl opnI)))))))
theorem kD_cells {w : World} {d : List UInt8} {cs : List Value} (h : kD.K w d cs) : d.length = 32 ∧ cs = d.map encB := by
  obtain ⟨h1, h2, h3⟩ := h
  refine ⟨h1, ?_⟩
  have h2' : cs.length = d.length * 1 := h2
  apply List.ext_getElem
  · simp [h2']
  · intro i hi hi2
    have hid : i < d.length := by omega
    have h4 : (cs.drop (i * 1)).take 1 = [encB d[i]] := h3 i d[i] (by simp [hid])
    rw [Nat.mul_one, List.drop_eq_getElem_cons hi, List.take_succ_cons] at h4
    injection h4 with h4
    rw [h4, List.getElem_map]
/-- a record's parts -/
def vK (x : RecV) : Int := x.1.toInt
def vD (x : RecV) : List UInt8 := x.2.2.1
def vN (x : RecV) : ByteArray := x.2.2.2.1
def vL (x : RecV) : List UInt8 := x.2.2.2.2.1
def vC (x : RecV) : Int := x.2.2.2.2.2.1.toInt
def vZ (x : RecV) : Int := x.2.2.2.2.2.2.toInt
theorem kRec_cells {w : World} {x : RecV} {cs : List Value} (h : kRec.K w x cs) :
    ∃ A c, RecF cs.toArray (vK x) x.2.1.toNat (vD x) (vN x) A (vL x).length c (vC x) (vZ x) ∧ (vL x).length ≤ c ∧ Rd w A (vL x) := by
  obtain ⟨c0, r0, rfl, h0, c1, r1, rfl, h1, c2, r2, rfl, h2, c3, r3, rfl, h3, c4, r4, rfl, ⟨A, c, h4, hc, hr⟩, c5, r5, rfl, h5, h6⟩ := h
  obtain ⟨h7, h8⟩ := kD_cells h2
  refine ⟨A, c, ⟨?_, h7⟩, hc, hr⟩
  rw [show c0 = [_] from h0, show c1 = [_] from h1, show c3 = [_] from h3, show c4 = [_] from h4, show c5 = [_] from h5, show r5 = [_] from h6, h8]
  simp [recC, vK, vD, vN, vL, vC, vZ]
def RdR (w : World) (A : Option Addr) (l : List RecV) : Prop := kRec.C w A l.length l
theorem RdR.below {w w1 : World} {A : Option Addr} {l : List RecV} (h : RdR w A l) (hb : Below w.heap.size w w1) : RdR w1 A l := Kd.C_below h hb
theorem RdR.len {w : World} {A : Option Addr} {l : List RecV} (h : RdR w A l) : l.length ≤ 9223372036854775807 := h.2.1
def rc (l : List RecV) (i : Nat) : RecV := l.getD i (0, 0, [], ⟨#[]⟩, [], 0, 0)
theorem field_cell' {w : World} {ad : Addr} {m j : Nat} {v : Value} (h : w.cell? (ad.add (m + (j + 1))) = some v) : w.cell? { block := (ad.add m).block, off := (ad.add m).off + (j + 1) } = some v := by
  rw [← h]
  unfold Addr.add
  rw [if_neg (show ¬ m + (j + 1) = 0 by omega)]
  by_cases hm : m = 0
  · subst hm; simp
  · rw [if_neg hm]; simp [Nat.add_assoc]
theorem lt_of_cell {w : World} {a : Addr} {v : Value} (h : w.cell? a = some v) : a.block < w.heap.size := by
  rcases Nat.lt_or_ge a.block w.heap.size with hlt | hge
  · exact hlt
  · have h0 : w.heap[a.block]? = none := Array.getElem?_eq_none hge
    unfold World.cell? at h
    rw [h0] at h
    cases a.spot <;> simp at h
theorem range_below {w w' : World} {g o : Nat} {cs : List Value} (h : w.rangeAt g o cs) (hb : Below w.heap.size w w') : w'.rangeAt g o cs := by
  intro j v hv
  have h1 := h j v hv
  rw [← h1]
  exact hb.cell (lt_of_cell h1)
/-- an element's cells, as the walk spells them -/
theorem RdR.walk {w : World} {A : Option Addr} {l : List RecV} (h : RdR w A l) (i : Nat) (hi : i < l.length) :
    ∃ ad X A2 c2, A = some ad ∧ RecF X (vK (rc l i)) (rc l i).2.1.toNat (vD (rc l i)) (vN (rc l i)) A2 (vL (rc l i)).length c2 (vC (rc l i)) (vZ (rc l i)) ∧ (vL (rc l i)).length ≤ c2 ∧ Rd w A2 (vL (rc l i)) ∧
      w.cell? (ad.add (i * 38)) = some (.int .i64 (vK (rc l i))) ∧ w.rangeAt (ad.add (i * 38)).block (ad.add (i * 38)).off X.toList ∧ Hid (Value.pointer (some (ad.add (i * 38))) = .pointer (some ⟨(ad.add (i * 38)).block, (ad.add (i * 38)).off, none⟩)) := by
  obtain ⟨ad, c, e, hl, hK, hc⟩ := Kd.C_get h (0, 0, [], ⟨#[]⟩, [], 0, 0) (i : Int) (by omega) (by omega)
  rw [Int.toNat_natCast] at hK hc
  obtain ⟨A2, c2, hX, h2, h3⟩ := kRec_cells hK
  have hc' : ∀ (j : Nat) (v : Value), c.toArray[j]? = some v → w.cell? (ad.add (i * 38 + j)) = some v := fun j v hv => hc j v (by simpa using hv)
  have h0 : w.cell? (ad.add (i * 38)) = some (.int .i64 (vK (rc l i))) := hc' 0 _ hX.c0
  have e0 : ad.add (i * 38) = ⟨(ad.add (i * 38)).block, (ad.add (i * 38)).off, none⟩ := by
    have hk : (ad.add (i * 38)).spot = none := by
      generalize ad.add (i * 38) = a at h0
      unfold World.cell? at h0
      cases hs : a.spot with
      | none => rfl
      | some x => rw [hs] at h0; split at h0 <;> simp at h0
    generalize ad.add (i * 38) = a at hk
    cases a; simp at hk; simp [hk]
  refine ⟨ad, c.toArray, A2, c2, e, hX, h2, h3, h0, ?_, congrArg (fun q => Value.pointer (some q)) e0⟩
  intro j v hv
  have hv' : c.toArray[j]? = some v := by simpa using hv
  cases j with
  | zero => rw [Nat.add_zero, ← e0]; exact hc' 0 v hv'
  | succ j => exact field_cell' (hc' (j + 1) v hv')
/-! ### what is wrong -/
def eR (x : RecV) : Nat := rightE (vK x) (vL x).length (vN x).data.toList (vC x) (vZ x)
def mayB (k : Int) : Bool := decide (1 ≤ k ∧ k ≤ 5)
def firstE : List RecV → Nat
  | [] => 0
  | x :: t => if eR x = 0 then firstE t else eR x
def wrongE (l : List RecV) : Nat := if l.length = 0 then 2 else if l.all (fun x => mayB (vK x)) then firstE l else 2
theorem take_snoc (l : List RecV) (k : Nat) (h : k < l.length) : l.take (k + 1) = l.take k ++ [rc l k] := by
  rw [List.take_succ_eq_append_getElem h]; simp [rc, h]
theorem all_false {l : List RecV} {f : RecV → Bool} {k : Nat} (hk : k < l.length) (h : f (rc l k) = false) : l.all f = false := by
  rw [List.all_eq_false]
  exact ⟨rc l k, by simp [rc, hk], by simp [h]⟩
theorem first_app : ∀ (a b : List RecV), (∀ x ∈ a, eR x = 0) → firstE (a ++ b) = firstE b
  | [], b, _ => rfl
  | x :: a, b, h => by
    rw [List.cons_append, firstE, if_pos (h x (by simp)), first_app a b (fun y hy => h y (by simp [hy]))]
theorem first_at {l : List RecV} {k : Nat} (hk : k < l.length) (h : ∀ x ∈ l.take k, eR x = 0) (hx : eR (rc l k) ≠ 0) : firstE l = eR (rc l k) := by
  conv => lhs; rw [← List.take_append_drop k l]
  rw [first_app _ _ h, List.drop_eq_getElem_cons hk, firstE, show l[k] = rc l k by simp [rc, hk], if_neg hx]
theorem first_all {l : List RecV} (h : ∀ x ∈ l, eR x = 0) : firstE l = 0 := by
  have := first_app l [] h
  rwa [List.append_nil] at this
set_option maxRecDepth 100000 in
theorem may_any (k : Int) (w : World) : Calls Try.prog 51 #[.int .i64 k] w (Kept (.bool (mayB k)) w) := by
  by_cases h1 : 1 ≤ k
  · have HM := Lib.hid (show mayB k = decide (k ≤ 5) by unfold mayB; simp [h1])
    go_enter Try.func51, Try.ntmps51
    go_wp2
    go_ret
    exact ⟨ret_eq (by rw [HM.out]; rfl), Below.refl _ _⟩
  · have HM := Lib.hid (show mayB k = false by unfold mayB; simp [h1])
    go_enter Try.func51, Try.ntmps51
    go_wp2
    go_ret
    exact ⟨ret_eq (by rw [HM.out]; rfl), Below.refl _ _⟩
end Go.Proofs.Ytdkadeihhgjiaaa.Bt
/- batches: the walks of wrong and the reference's Wrong. -/
set_option linter.unusedVariables false
set_option linter.unusedSimpArgs false
namespace Go.Proofs.Ytdkadeihhgjiaaa.Bt
open Go.RowKit Go.Proofs.YtdkadeihhgjiaaaW.PrintWords Go.Proofs.Ytdkadeihhgjiaaa.B Go.Proofs.Ytdkadeihhgjiaaa.Fx Go.Proofs.Ytdkadeihhgjiaaa.Fr Go.Proofs.Ytdkadeihhgjiaaa.O Go.Proofs.Ytdkadeihhgjiaaa.Rc
set_option maxRecDepth 100000 in
set_option maxHeartbeats 800000 in
theorem wrong_any (A : Option Addr) (c : Nat) (l : List RecV) (w : World) (hr : RdR w A l) (hn : ∀ k, (vN (rc l k)).size ≤ 140737488355328) :
    Calls Try.prog 49 #[.slice A l.length c] w (Kept (.int .i64 (wrongE l)) w) := by
  have HR := Lib.hid hr
  have HN := Lib.hid hn
  have hln := hr.len
  clear hr hn
  by_cases hz : l.length = 0
  · have q0 : ((l.length : Int) == 0) = true := by simp [hz]
    go_enter Try.func49, Try.ntmps49
    go_wp2_with fail
    go_ret
    exact ⟨ret_eq (by unfold wrongE; rw [if_pos hz]; rfl), by first | exact Below.refl _ _ | exact below_drew (Below.refl _ _)⟩
  · have q0 : ((l.length : Int) == 0) = false := beq_eq_false_iff_ne.2 (by omega)
    have HZ := Lib.hid hz
    clear hz
    go_enter Try.func49, Try.ntmps49
    go_wp2_with fail
    go_loopw [13] (fun i wr => ∃ k : Nat, k ≤ l.length ∧ i = .int .i64 k ∧ Hid (∀ x ∈ l.take k, mayB (vK x) = true) ∧ Hid (Below w.heap.size w wr)) (fun i _ => l.length - (intOf i).toNat)
    case atStart => exact ⟨0, by omega, rfl, Lib.hid (by simp), Lib.hid (by first | exact Below.refl _ _ | exact below_drew (Below.refl _ _))⟩
    case round =>
      obtain ⟨k, hk, rfl, HM, HB⟩ := hrel
      by_cases hlt : k < l.length
      · obtain ⟨ad, X, A2, c2, rfl, hX, -, -, c0, hrP, HP0⟩ := (HR.out.below HB.out).walk k hlt
        have HI := Lib.hid hX.info
        have HIL := Lib.hid hX.infoL
        have HSZ := Lib.hid (show zRec.size = X.size by rw [hX.size]; rfl)
        have HONE := Lib.hid hX.one
        have h0 := hX.c0
        have HMY := Lib.hid (fun W => may_any (vK (rc l k)) W)
        have HT := Lib.hid (fun (h : mayB (vK (rc l k)) = true) => (show ∀ x ∈ l.take (k + 1), mayB (vK x) = true from by
          rw [take_snoc l k hlt]
          intro x hx
          rcases List.mem_append.1 hx with hx | hx
          · exact HM.out x hx
          · rw [List.mem_singleton.1 hx]; exact h))
        have HF := Lib.hid (fun (h : mayB (vK (rc l k)) = false) => (show wrongE l = 2 from by
          unfold wrongE
          rw [if_neg HZ.out, all_false hlt h]; rfl))
        clear hX
        generalize vK (rc l k) = kd at *
        go_wp2_with (first | (refine wpList_load_mid rfl 34 (.tmp 15) rfl _ _ HP0.out X.toList _ hrP Try.underlying34 rfl HIL.out ?_) | (refine wpList_box rfl rfl 34 _ _ rfl rfl X zRec zeroRec rfl rfl HSZ.out HI.out HONE.out ?_))
        have HB1 := Lib.hid (below_alloc HB.out (.cells X 34))
        refine (HMY.out _).mono ?_
        rintro e w2 ⟨rfl, hb⟩
        have HB2 := Lib.hid (below_step' HB1.out hb)
        clear hb
        cases hmb : mayB kd
        · have HF2 := Lib.hid (HF.out hmb)
          clear hmb
          go_wp2_with fail
          go_ret
          exact ⟨ret_eq (by rw [HF2.out]; rfl), HB2.out⟩
        · have HT2 := Lib.hid (HT.out hmb)
          clear hmb
          go_wp2_with fail
          go_roundw
          case rel => exact ⟨k + 1, by omega, by go_num, HT2, HB2⟩
          case measure => simp [intOf]; omega
      · obtain rfl : k = l.length := by omega
        have HA := Lib.hid (show l.all (fun x => mayB (vK x)) = true from List.all_eq_true.2 (fun x hx => HM.out x (by rw [List.take_length]; exact hx)))
        clear HM
        go_wp2_with fail
        go_loopw [24] (fun i wr => ∃ k : Nat, k ≤ l.length ∧ i = .int .i64 k ∧ Hid (∀ x ∈ l.take k, eR x = 0) ∧ Hid (Below w.heap.size w wr)) (fun i _ => l.length - (intOf i).toNat)
        case atStart => exact ⟨0, by omega, rfl, Lib.hid (by simp), HB⟩
        case round =>
          clear HB
          obtain ⟨k, hk, rfl, HM, HB⟩ := hrel
          by_cases hlt : k < l.length
          · obtain ⟨ad, X, A2, c2, rfl, hX, -, hr2, c0, hrP, HP0⟩ := (HR.out.below HB.out).walk k hlt
            have HI := Lib.hid hX.info
            have HIL := Lib.hid hX.infoL
            have HSZ := Lib.hid (show zRec.size = X.size by rw [hX.size]; rfl)
            have HONE := Lib.hid hX.one
            have HRT := Lib.hid (fun W => right_any X _ _ _ _ A2 _ c2 _ _ W hX hr2.len (HN.out k))
            have HT := Lib.hid (fun (h : eR (rc l k) = 0) => (show ∀ x ∈ l.take (k + 1), eR x = 0 from by
              rw [take_snoc l k hlt]
              intro x hx
              rcases List.mem_append.1 hx with hx | hx
              · exact HM.out x hx
              · rw [List.mem_singleton.1 hx]; exact h))
            have HF := Lib.hid (fun (h : ¬ eR (rc l k) = 0) => (show wrongE l = eR (rc l k) from by
              unfold wrongE
              rw [if_neg HZ.out, if_pos HA.out, first_at hlt HM.out h]))
            have HER := Lib.hid (show rightE (vK (rc l k)) (vL (rc l k)).length (vN (rc l k)).data.toList (vC (rc l k)) (vZ (rc l k)) = eR (rc l k) from rfl)
            rw [HER.out] at HRT
            clear hX hr2 HER c0
            generalize eR (rc l k) = er at *
            obtain ⟨W1, hW1⟩ : ∃ W, wr.alloc (.cells X 34) = W := ⟨_, rfl⟩
            have HG1 := Lib.hid (show W1.heap[wr.heap.size]? = some (.cells X 34 (0, 0)) from hW1 ▸ blk_new wr _)
            have HB1 := Lib.hid (show Below w.heap.size w W1 from hW1 ▸ below_alloc HB.out (.cells X 34))
            go_wp2_with (first | (refine wpList_load_mid rfl 34 (.tmp 26) rfl _ _ HP0.out X.toList _ hrP Try.underlying34 rfl HIL.out ?_) | (refine wpList_box rfl rfl 34 _ _ rfl rfl X zRec zeroRec rfl rfl HSZ.out HI.out HONE.out ?_; rw [hW1]) | (refine wpList_load_row rfl 34 (.tmp 6) rfl wr.heap.size rfl 34 X (0, 0) _ HG1.out Try.underlying34 rfl HI.out ?_))
            refine (HRT.out _).mono ?_
            rintro e w2 ⟨rfl, hb⟩
            have HB2 := Lib.hid (below_step' HB1.out hb)
            clear hb
            by_cases he : er = 0
            · have HT2 := Lib.hid (HT.out he)
              have q1 : ((er : Int) != 0) = false := by simp [he]
              clear he
              go_wp2_with fail
              go_roundw
              case rel => exact ⟨k + 1, by omega, by go_num, HT2, HB2⟩
              case measure => simp [intOf]; omega
            · have HF2 := Lib.hid (HF.out he)
              have q1 : ((er : Int) != 0) = true := bne_iff_ne.2 (by omega)
              clear he
              go_wp2_with fail
              go_ret
              exact ⟨ret_eq (by rw [HF2.out]; rfl), HB2.out⟩
          · obtain rfl : k = l.length := by omega
            have HE := Lib.hid (show wrongE l = 0 from by
              unfold wrongE
              rw [if_neg HZ.out, if_pos HA.out, first_all (fun x hx => HM.out x (by rw [List.take_length]; exact hx))])
            go_wp2_with fail
            go_ret
            exact ⟨ret_eq (by rw [HE.out]; rfl), HB.out⟩
set_option maxRecDepth 100000 in
set_option maxHeartbeats 800000 in
theorem refwrong_any (A : Option Addr) (c : Nat) (l : List RecV) (w : World) (hr : RdR w A l) (hn : ∀ k, (vN (rc l k)).size ≤ 140737488355328) :
    Calls Try.prog 25 #[.slice A l.length c] w (Kept (.int .i64 (wrongE l)) w) := by
  have HR := Lib.hid hr
  have HN := Lib.hid hn
  have hln := hr.len
  clear hr hn
  by_cases hz : l.length = 0
  · have q0 : ((l.length : Int) == 0) = true := by simp [hz]
    go_enter Try.func25, Try.ntmps25
    go_wp2_with fail
    go_ret
    exact ⟨ret_eq (by unfold wrongE; rw [if_pos hz]; rfl), by first | exact Below.refl _ _ | exact below_drew (Below.refl _ _)⟩
  · have q0 : ((l.length : Int) == 0) = false := beq_eq_false_iff_ne.2 (by omega)
    have HZ := Lib.hid hz
    clear hz
    go_enter Try.func25, Try.ntmps25
    go_wp2_with fail
    go_loopw [3] (fun i wr => ∃ k : Nat, k ≤ l.length ∧ i = .int .i64 k ∧ Hid (∀ x ∈ l.take k, mayB (vK x) = true) ∧ Hid (Below w.heap.size w wr)) (fun i _ => l.length - (intOf i).toNat)
    case atStart => exact ⟨0, by omega, rfl, Lib.hid (by simp), Lib.hid (by first | exact Below.refl _ _ | exact below_drew (Below.refl _ _))⟩
    case round =>
      obtain ⟨k, hk, rfl, HM, HB⟩ := hrel
      by_cases hlt : k < l.length
      · obtain ⟨ad, X, A2, c2, rfl, hX, -, -, c0, -, -⟩ := (HR.out.below HB.out).walk k hlt
        have HT := Lib.hid (fun (h : mayB (vK (rc l k)) = true) => (show ∀ x ∈ l.take (k + 1), mayB (vK x) = true from by
          rw [take_snoc l k hlt]
          intro x hx
          rcases List.mem_append.1 hx with hx | hx
          · exact HM.out x hx
          · rw [List.mem_singleton.1 hx]; exact h))
        have HF := Lib.hid (fun (h : mayB (vK (rc l k)) = false) => (show wrongE l = 2 from by
          unfold wrongE
          rw [if_neg HZ.out, all_false hlt h]; rfl))
        clear hX
        generalize vK (rc l k) = kd at *
        by_cases hk1 : kd < 1
        · have HF2 := Lib.hid (HF.out (by unfold mayB; exact decide_eq_false (by omega)))
          go_wp2_with fail
          go_ret
          exact ⟨ret_eq (by rw [HF2.out]; rfl), HB.out⟩
        · by_cases hk2 : 5 < kd
          · have HF2 := Lib.hid (HF.out (by unfold mayB; exact decide_eq_false (by omega)))
            go_wp2_with fail
            go_ret
            exact ⟨ret_eq (by rw [HF2.out]; rfl), HB.out⟩
          · have HT2 := Lib.hid (HT.out (by unfold mayB; exact decide_eq_true (by omega)))
            go_wp2_with fail
            go_roundw
            case rel => exact ⟨k + 1, by omega, by go_num, HT2, HB⟩
            case measure => simp [intOf]; omega
      · obtain rfl : k = l.length := by omega
        have HA := Lib.hid (show l.all (fun x => mayB (vK x)) = true from List.all_eq_true.2 (fun x hx => HM.out x (by rw [List.take_length]; exact hx)))
        clear HM
        go_wp2_with fail
        go_loopw [4] (fun i wr => ∃ k : Nat, k ≤ l.length ∧ i = .int .i64 k ∧ Hid (∀ x ∈ l.take k, eR x = 0) ∧ Hid (Below w.heap.size w wr)) (fun i _ => l.length - (intOf i).toNat)
        case atStart => exact ⟨0, by omega, rfl, Lib.hid (by simp), HB⟩
        case round =>
          clear HB
          obtain ⟨k, hk, rfl, HM, HB⟩ := hrel
          by_cases hlt : k < l.length
          · obtain ⟨ad, X, A2, c2, rfl, hX, -, hr2, c0, hrP, HP0⟩ := (HR.out.below HB.out).walk k hlt
            have HIL := Lib.hid hX.infoL
            have HRT := Lib.hid (fun W => refright_any X _ _ _ _ A2 _ c2 _ _ W hX hr2.len (HN.out k))
            have HT := Lib.hid (fun (h : eR (rc l k) = 0) => (show ∀ x ∈ l.take (k + 1), eR x = 0 from by
              rw [take_snoc l k hlt]
              intro x hx
              rcases List.mem_append.1 hx with hx | hx
              · exact HM.out x hx
              · rw [List.mem_singleton.1 hx]; exact h))
            have HF := Lib.hid (fun (h : ¬ eR (rc l k) = 0) => (show wrongE l = eR (rc l k) from by
              unfold wrongE
              rw [if_neg HZ.out, if_pos HA.out, first_at hlt HM.out h]))
            have HER := Lib.hid (show rightE (vK (rc l k)) (vL (rc l k)).length (vN (rc l k)).data.toList (vC (rc l k)) (vZ (rc l k)) = eR (rc l k) from rfl)
            rw [HER.out] at HRT
            clear hX hr2 HER c0
            generalize eR (rc l k) = er at *
            go_wp2_with (refine wpList_load_mid rfl 34 (.tmp 36) rfl _ _ HP0.out X.toList _ hrP Try.underlying34 rfl HIL.out ?_)
            refine (HRT.out _).mono ?_
            rintro e w2 ⟨rfl, hb⟩
            have HB2 := Lib.hid (below_step' HB.out hb)
            by_cases he : er = 0
            · have HT2 := Lib.hid (HT.out he)
              have q1 : ((er : Int) != 0) = false := by simp [he]
              clear he hb
              go_wp2_with fail
              go_roundw
              case rel => exact ⟨k + 1, by omega, by go_num, HT2, HB2⟩
              case measure => simp [intOf]; omega
            · have HF2 := Lib.hid (HF.out he)
              have q1 : ((er : Int) != 0) = true := bne_iff_ne.2 (by omega)
              have hrP2 : w2.rangeAt (ad.add (k * 38)).block (ad.add (k * 38)).off X.toList := range_below hrP hb
              clear he hb
              go_wp2_with (refine wpList_load_mid rfl 34 (.tmp 42) rfl _ _ HP0.out X.toList _ hrP2 Try.underlying34 rfl HIL.out ?_)
              refine (HRT.out _).mono ?_
              rintro e w3 ⟨rfl, hb⟩
              have HB3 := Lib.hid (below_step' HB2.out hb)
              clear hb
              go_wp2_with fail
              go_ret
              exact ⟨ret_eq (by rw [HF2.out]; rfl), HB3.out⟩
          · obtain rfl : k = l.length := by omega
            have HE := Lib.hid (show wrongE l = 0 from by
              unfold wrongE
              rw [if_neg HZ.out, if_pos HA.out, first_all (fun x hx => HM.out x (by rw [List.take_length]; exact hx))])
            go_wp2_with fail
            go_ret
            exact ⟨ret_eq (by rw [HE.out]; rfl), HB.out⟩
end Go.Proofs.Ytdkadeihhgjiaaa.Bt
/- batches: commit, the bytes of a batch in plain. -/
set_option linter.unusedVariables false
set_option linter.unusedSimpArgs false
namespace Go.Proofs.Ytdkadeihhgjiaaa.Bt
open Go.RowKit Go.Proofs.YtdkadeihhgjiaaaW.PrintWords Go.Proofs.Ytdkadeihhgjiaaa.B Go.Proofs.Ytdkadeihhgjiaaa.Fx Go.Proofs.Ytdkadeihhgjiaaa.Fr Go.Proofs.Ytdkadeihhgjiaaa.O Go.Proofs.Ytdkadeihhgjiaaa.Rc
def bR (s : Nat) (x : RecV) : List UInt8 := makeR (vK x) s (vD x) (vN x).data.toList (vL x) (vC x) (vZ x)
theorem bR_len (s : Nat) (x : RecV) : (bR s x).length = (bR 0 x).length := by
  unfold bR makeR
  split
  · rw [makeL_len, makeL_len]
  · rfl
def allR (s : Nat) : List RecV → List UInt8
  | [] => []
  | x :: t => bR s x ++ allR (s + 1) t
theorem allR_snoc (x : RecV) : ∀ (l : List RecV) (s : Nat), allR s (l ++ [x]) = allR s l ++ bR (s + l.length) x
  | [], s => by simp [allR]
  | y :: l, s => by
    rw [List.cons_append, allR, allR, allR_snoc x l (s + 1), List.append_assoc, List.length_cons, show s + 1 + l.length = s + (l.length + 1) by omega]
theorem allR_take {l : List RecV} {k : Nat} (s : Nat) (hk : k < l.length) : allR s (l.take (k + 1)) = allR s (l.take k) ++ bR (s + k) (rc l k) := by
  rw [take_snoc l k hk, allR_snoc, List.length_take, Nat.min_eq_left (by omega)]
theorem allR_len : ∀ (l : List RecV) (s : Nat), (allR s l).length = (allR 0 l).length
  | [], s => rfl
  | x :: l, s => by
    rw [allR, allR, List.length_append, List.length_append, bR_len, allR_len l (s + 1), allR_len l (0 + 1)]
theorem allR_le : ∀ (l : List RecV) (s : Nat), (∀ x ∈ l, (vD x).length = 32) → (allR s l).length ≤ 65557 * l.length
  | [], s, _ => by simp [allR]
  | x :: l, s, h => by
    have h1 := allR_le l (s + 1) (fun y hy => h y (by simp [hy]))
    have h2 : (bR s x).length ≤ 65557 := makeR_len (h x (by simp))
    rw [allR, List.length_append, List.length_cons]; omega
theorem ms_ge : ∀ (l : List RecV), (∀ x ∈ l, (vD x).length = 32) → 39 * l.length ≤ (l.map mRec).sum
  | [], _ => by simp
  | x :: l, h => by
    have h1 := ms_ge l (fun y hy => h y (by simp [hy]))
    have h2 : (vD x).length = 32 := h x (by simp)
    have h3 := ms_len (m := mB) (fun _ => Nat.le_refl 1) (vD x)
    have h4 : 39 ≤ mRec x := by
      unfold mRec mi mu mS
      have h5 : 33 ≤ ms mB x.2.2.1 := by rw [h2] at h3; exact h3
      have h6 := ms_len (m := mB) (fun _ => Nat.le_refl 1) x.2.2.2.2.1
      omega
    rw [List.map_cons, List.sum_cons, List.length_cons]; omega
/-- a batch: its error, its bytes, the next number -/
def batE (s : Nat) (l : List RecV) : Nat := if wrongE l ≠ 0 then wrongE l else if 18446744073709551615 ≤ s + l.length then 20 else 0
def cmtR (s n z : Nat) : List UInt8 := makeR 6 s z32 [] [] n z
def batB (s : Nat) (l : List RecV) : List UInt8 := if batE s l = 0 then allR s l ++ cmtR (s + l.length) l.length (allR s l).length else []
def batN (s : Nat) (l : List RecV) : Nat := if batE s l = 0 then s + l.length + 1 else s
def BMade (s : Nat) (l : List RecV) (w : World) (e : Ending) (w' : World) : Prop := ∃ v, e = .returned (.tuple #[v, .int .u64 (batN s l), .int .i64 (batE s l)]) ∧ Buf w' w.heap.size v (batB s l) ∧ Below w.heap.size w w'
theorem cmt_right {n z : Nat} (hn : n ≤ 4294967295) (hz : z ≤ 4294967295) : rightE 6 ([] : List UInt8).length ([] : List UInt8) n z = 0 := by
  unfold rightE
  rw [if_neg (by decide), if_neg (by decide), if_neg (by decide), if_pos (by decide), if_pos (by omega)]
theorem cmt_len {s n z : Nat} (hn : n ≤ 4294967295) (hz : z ≤ 4294967295) : (cmtR s n z).length = 29 := by
  unfold cmtR makeR
  rw [if_pos (cmt_right hn hz), makeL_len]
  unfold dataL
  simp [putB_length]
set_option maxRecDepth 100000 in
set_option maxHeartbeats 3200000 in
theorem commit_any (n z : Int) (s : Nat) (w : World) : Calls Try.prog 50 #[.int .i64 n, .int .i64 z, .int .u64 s] w (Kept (.agg (recC 6 s z32 ⟨#[]⟩ none 0 0 n z)) w) := by
  obtain ⟨X, hX0⟩ : ∃ X, recC 6 s z32 ⟨#[]⟩ none 0 0 n z = X := ⟨_, rfl⟩
  have hX : RecF X 6 s z32 ⟨#[]⟩ none 0 0 n z := hX0 ▸ recF rfl
  obtain ⟨w1, hw1⟩ : ∃ w1, w.alloc (.cells zRec 34) = w1 := ⟨_, rfl⟩
  have HG := Lib.hid (show w1.heap[w.heap.size]? = some (.cells zRec 34 (0, 0)) from hw1 ▸ blk_new w _)
  have HB1 := Lib.hid (show Below w.heap.size w w1 from hw1 ▸ below_alloc (Below.refl _ _) _)
  have HX0 := Lib.hid hX0
  have HXI := Lib.hid hX.info
  rw [hX0]
  clear hX hX0
  go_enter Try.func50, Try.ntmps50
  go_wp2_with (first | (refine wpList_allocZ rfl 34 rfl zRec zeroRec ?_) | (refine wpList_store_row rfl 34 (.tmp 6) (.tmp 10) rfl w.heap.size (recC 6 s z32 ⟨#[]⟩ none 0 0 n z) rfl rfl 34 zRec HG.out (recF rfl).info rfl (recF rfl).one ?_; rw [HX0.out]; obtain ⟨w2, hw2⟩ : ∃ w', World.setRow w1 w.heap.size X = w' := ⟨_, rfl⟩; have hu := upd_row HG.out X; rw [hw2] at hu ⊢; have HF2 := Lib.hid hu.at_; have HB2 := Lib.hid (hu.to (Nat.le_refl _) HB1.out); clear hu hw2))
  refine bodyPost_ret_by (results_cell_row rfl _ _ w.heap.size _ X (0, 0) _ rfl HF2.out Try.underlying34 rfl HXI.out) rfl ?_
  exact ⟨rfl, HB2.out⟩
theorem RdR.d32 {w : World} {A : Option Addr} {l : List RecV} (h : RdR w A l) : ∀ x ∈ l, (vD x).length = 32 := by
  intro x hx
  obtain ⟨i, hi, rfl⟩ := List.getElem_of_mem hx
  obtain ⟨ad, X, A2, c2, -, hX, -⟩ := h.walk i hi
  have := hX.dl
  rwa [show rc l i = l[i] by simp [rc, hi]] at this
theorem rc_mem {l : List RecV} {k : Nat} (hk : k < l.length) : rc l k ∈ l := by simp [rc, hk]
theorem m_le {l : List RecV} {x : RecV} (hx : x ∈ l) : mRec x ≤ (l.map mRec).sum := by
  induction l with
  | nil => simp at hx
  | cons y l ih =>
    rw [List.map_cons, List.sum_cons]
    rcases List.mem_cons.1 hx with rfl | hx
    · omega
    · have := ih hx; omega
theorem nm_le (l : List RecV) (k : Nat) : (vN (rc l k)).size ≤ ms mRec l := by
  by_cases hk : k < l.length
  · have h1 := m_le (rc_mem hk)
    have h2 : (vN (rc l k)).size ≤ mRec (rc l k) := by unfold mRec mS vN; omega
    unfold ms; omega
  · rw [show rc l k = (0, 0, [], ⟨#[]⟩, [], 0, 0) by simp [rc, Nat.le_of_not_lt hk]]
    exact Nat.zero_le _
theorem eR_zero : ∀ {l : List RecV}, firstE l = 0 → ∀ x ∈ l, eR x = 0
  | [], _, x, hx => by simp at hx
  | y :: l, h, x, hx => by
    rw [firstE] at h
    by_cases hy : eR y = 0
    · rw [if_pos hy] at h
      rcases List.mem_cons.1 hx with rfl | hx
      · exact hy
      · exact eR_zero h x hx
    · rw [if_neg hy] at h
      exact absurd h hy
theorem eR_of {l : List RecV} (h : wrongE l = 0) : ∀ x ∈ l, eR x = 0 := by
  unfold wrongE at h
  split at h
  · omega
  · split at h
    · exact eR_zero h
    · omega
theorem bR_pos {s : Nat} {x : RecV} (h : eR x = 0) : 0 < (bR s x).length := by
  unfold eR at h
  unfold bR makeR
  rw [if_pos h, makeL_len]; omega
end Go.Proofs.Ytdkadeihhgjiaaa.Bt
