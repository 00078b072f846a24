/- records: what a kind says of a record. -/
import Derived.Test.YtceldlijbehkdaaRcMake
import Derived.Test.YtceldlijbehkdaaRcParse
set_option linter.unusedVariables false
set_option linter.unusedSimpArgs false
namespace Go.Proofs.Ytceldlijbehkdaa.Rc
open Go.RowKit Go.Proofs.YtceldlijbehkdaaW.PrintWords Go.Proofs.Ytceldlijbehkdaa.B Go.Proofs.Ytceldlijbehkdaa.Fx Go.Proofs.Ytceldlijbehkdaa.Fr
def dB (k : Int) (d : List UInt8) : List UInt8 := if k ≤ 3 ∨ k = 5 then d else z32
def nmB (k : Int) (nm : ByteArray) : ByteArray := if k = 3 ∨ k = 4 then nm else ⟨#[]⟩
def lB (k : Int) (l : List UInt8) : List UInt8 := if k ≤ 2 then l else []
def AB (k : Int) (A : Option Addr) : Option Addr := if k ≤ 2 then A else none
def cB (k : Int) (c : Nat) : Nat := if k ≤ 2 then c else 0
def nB (k : Int) (n : Int) : Int := if 6 ≤ k then n else 0
def zB (k : Int) (z : Int) : Int := if k = 6 ∨ k = 8 then z else 0
theorem text_ok {b : List UInt8} {q : Nat} (hq : B.bt b 0 = (q : Int)) (h0 : 0 < b.length) (h : 1 + q ≤ b.length) : textOk b 0 = true ∧ textS b 0 = ⟨((b.take (1 + q)).drop 1).toArray⟩ ∧ restL b = b.drop (1 + q) := by
  have h1 : textOk b 0 = true := decide_eq_true ⟨by omega, by omega, by rw [show (0 : Int).toNat = 0 from rfl, hq]; omega⟩
  have hg : (b.getD 0 0).toNat = q := by unfold B.bt at hq; omega
  refine ⟨h1, ?_, ?_⟩
  · unfold textS; rw [if_pos h1, show (0 : Int).toNat = 0 from rfl, hg, List.drop_take, Nat.zero_add]
    rw [show 1 + q - 1 = q by omega]
  · unfold restL textEnd; rw [if_pos h1, show (0 : Int).toNat = 0 from rfl, hq]
    congr 1
    all_goals omega
theorem text_none {b : List UInt8} {q : Nat} (hq : B.bt b 0 = (q : Int)) (h : b.length < 1 + q) : textOk b 0 = false := decide_eq_false (fun hh => by rw [show (0 : Int).toNat = 0 from rfl, hq] at hh; omega)
theorem text_empty {b : List UInt8} (h : b.length = 0) : textOk b 0 = false := decide_eq_false (fun hh => by omega)
end Go.Proofs.Ytceldlijbehkdaa.Rc
/- records: there and back (plain). -/
set_option linter.unusedVariables false
set_option linter.unusedSimpArgs false
namespace Go.Proofs.Ytceldlijbehkdaa.Rc
open Go.RowKit Go.Proofs.YtceldlijbehkdaaW.PrintWords Go.Proofs.Ytceldlijbehkdaa.B Go.Proofs.Ytceldlijbehkdaa.Fx Go.Proofs.Ytceldlijbehkdaa.Fr
theorem takeN_of {y : List UInt8} {p q : Nat} (h1 : 1 ≤ q) (h8 : q ≤ 8) (h : p + q ≤ y.length) : takeN y p q = le ((y.drop p).take q) := (takeN_at h h1 h8).2
theorem le_put {n k : Nat} (h : n < 256 ^ k) : le (putB n k) = n := by rw [le_putB, Nat.mod_eq_of_lt h]
theorem num_put {a t : List UInt8} {n q : Nat} (h1 : 1 ≤ q) (h8 : q ≤ 8) (hn : n < 256 ^ q) (h32 : n ≤ 4294967295) : numN (a ++ putB n q ++ t) (a.length : Nat) (q : Nat) = n := by
  have e : takeN (a ++ putB n q ++ t) (a.length : Nat) (q : Nat) = n := by
    rw [takeN_of h1 h8 (by simp [putB_length]), List.append_assoc, List.drop_left' rfl, List.take_left' (putB_length _ _), le_put hn]
  unfold numN; rw [e, if_pos h32]
theorem text_put {nm t : List UInt8} (h : nm.length ≤ 255) : textOk ([UInt8.ofNat nm.length] ++ nm ++ t) 0 = true ∧ textS ([UInt8.ofNat nm.length] ++ nm ++ t) 0 = ⟨nm.toArray⟩ ∧ restL ([UInt8.ofNat nm.length] ++ nm ++ t) = t := by
  have hq : B.bt ([UInt8.ofNat nm.length] ++ nm ++ t) 0 = ((nm.length : Nat) : Int) := by
    show ((UInt8.ofNat nm.length).toNat : Int) = _
    simp; omega
  obtain ⟨h1, h2, h3⟩ := text_ok hq (by simp) (by simp; omega)
  refine ⟨h1, ?_, ?_⟩
  · rw [h2]
    congr 2
    rw [show 1 + nm.length = ([UInt8.ofNat nm.length] ++ nm).length by simp; omega, List.take_left' rfl]; rfl
  · rw [h3, show 1 + nm.length = ([UInt8.ofNat nm.length] ++ nm).length by simp; omega, List.drop_left' rfl]
theorem ba_ext (nm : ByteArray) : (⟨nm.data.toList.toArray⟩ : ByteArray) = nm := by cases nm; simp
/-- what is made says what its kind has -/
theorem data_back {k : Int} {d l : List UInt8} {nm : ByteArray} {n z : Int} (hd : d.length = 32) (h : rightE k l.length nm.data.toList n z = 0) :
    okF k (dataL k d nm.data.toList l n z) = true ∧ dF k (dataL k d nm.data.toList l n z) = dB k d ∧ nmF k (dataL k d nm.data.toList l n z) = nmB k nm ∧ lF k (dataL k d nm.data.toList l n z) = lB k l ∧ nF k (dataL k d nm.data.toList l n z) = nB k n ∧ zF k (dataL k d nm.data.toList l n z) = zB k z := by
  rcases right_in h with ⟨rfl, q⟩ | ⟨rfl, q⟩ | ⟨rfl, q⟩ | ⟨rfl, q⟩ | rfl | ⟨rfl, q⟩ | ⟨rfl, q⟩ | ⟨rfl, q⟩
  · refine ⟨decide_eq_true (by show 32 ≤ (d ++ l).length; rw [List.length_append]; omega), ?_, rfl, ?_, rfl, rfl⟩
    · show (d ++ l).take 32 = d; exact List.take_left' hd
    · show (d ++ l).drop 32 = l; exact List.drop_left' hd
  · refine ⟨decide_eq_true (by show 32 ≤ (d ++ l).length; rw [List.length_append]; omega), ?_, rfl, ?_, rfl, rfl⟩
    · show (d ++ l).take 32 = d; exact List.take_left' hd
    · show (d ++ l).drop 32 = l; exact List.drop_left' hd
  · have hn := tag_len q
    obtain ⟨h1, h2, h3⟩ := text_put (nm := nm.data.toList) (t := d) (by omega)
    refine ⟨?_, ?_, ?_, rfl, rfl, rfl⟩
    · show (textOk ([UInt8.ofNat nm.data.toList.length] ++ nm.data.toList ++ d) 0 && decide ((restL ([UInt8.ofNat nm.data.toList.length] ++ nm.data.toList ++ d)).length = 32)) = true
      rw [h1, h3, decide_eq_true hd]; rfl
    · show restL ([UInt8.ofNat nm.data.toList.length] ++ nm.data.toList ++ d) = d; exact h3
    · show textS ([UInt8.ofNat nm.data.toList.length] ++ nm.data.toList ++ d) 0 = nm; rw [h2]; try exact ba_ext nm
  · have hn := tag_len q
    obtain ⟨h1, h2, h3⟩ := text_put (nm := nm.data.toList) (t := []) (by omega)
    rw [List.append_nil] at h1 h2 h3
    refine ⟨?_, rfl, ?_, rfl, rfl, rfl⟩
    · show (textOk ([UInt8.ofNat nm.data.toList.length] ++ nm.data.toList) 0 && decide ((restL ([UInt8.ofNat nm.data.toList.length] ++ nm.data.toList)).length = 0)) = true
      rw [h1, h3]; rfl
    · show textS ([UInt8.ofNat nm.data.toList.length] ++ nm.data.toList) 0 = nm; rw [h2]; try exact ba_ext nm
  · exact ⟨decide_eq_true hd, rfl, rfl, rfl, rfl, rfl⟩
  · refine ⟨(show decide ((putB n.toNat 4 ++ putB z.toNat 4).length = 8) = true from decide_eq_true (by rw [List.length_append, putB_length, putB_length])), rfl, rfl, rfl, ?_, ?_⟩
    · show (numN (putB n.toNat 4 ++ putB z.toNat 4) 0 4 : Int) = n
      have e := num_put (a := []) (t := putB z.toNat 4) (n := n.toNat) (q := 4) (by decide) (by decide) (by omega) (by omega)
      rw [List.nil_append] at e
      rw [show numN (putB n.toNat 4 ++ putB z.toNat 4) 0 4 = n.toNat from e]; omega
    · show (numN (putB n.toNat 4 ++ putB z.toNat 4) 4 4 : Int) = z
      have e := num_put (a := putB n.toNat 4) (t := []) (n := z.toNat) (q := 4) (by decide) (by decide) (by omega) (by omega)
      rw [List.append_nil, putB_length] at e
      rw [show numN (putB n.toNat 4 ++ putB z.toNat 4) 4 4 = z.toNat from e]; omega
  · refine ⟨(show decide ((magicL ++ putB n.toNat 8).length = 16 ∧ (magicL ++ putB n.toNat 8).take 8 = magicL) = true from decide_eq_true ⟨by rw [List.length_append, putB_length]; rfl, List.take_left' rfl⟩), rfl, rfl, rfl, ?_, rfl⟩
    show (numN (magicL ++ putB n.toNat 8) 8 8 : Int) = n
    have e := num_put (a := magicL) (t := []) (n := n.toNat) (q := 8) (by decide) (by decide) (by omega) (by omega)
    rw [List.append_nil] at e
    rw [show numN (magicL ++ putB n.toNat 8) 8 8 = n.toNat from e]; omega
  · refine ⟨(show decide ((putB n.toNat 4 ++ putB z.toNat 4).length = 8) = true from decide_eq_true (by rw [List.length_append, putB_length, putB_length])), rfl, rfl, rfl, ?_, ?_⟩
    · show (numN (putB n.toNat 4 ++ putB z.toNat 4) 0 4 : Int) = n
      have e := num_put (a := []) (t := putB z.toNat 4) (n := n.toNat) (q := 4) (by decide) (by decide) (by omega) (by omega)
      rw [List.nil_append] at e
      rw [show numN (putB n.toNat 4 ++ putB z.toNat 4) 0 4 = n.toNat from e]; omega
    · show (numN (putB n.toNat 4 ++ putB z.toNat 4) 4 4 : Int) = z
      have e := num_put (a := putB n.toNat 4) (t := []) (n := z.toNat) (q := 4) (by decide) (by decide) (by omega) (by omega)
      rw [List.append_nil, putB_length] at e
      rw [show numN (putB n.toNat 4 ++ putB z.toNat 4) 4 4 = z.toNat from e]; omega
theorem right_bare {k : Int} {l : List UInt8} {nm : ByteArray} {n z : Int} (h : rightE k l.length nm.data.toList n z = 0) : rightE k (lB k l).length (nmB k nm).data.toList (nB k n) (zB k z) = 0 := by
  rcases right_in h with ⟨rfl, q⟩ | ⟨rfl, q⟩ | ⟨rfl, q⟩ | ⟨rfl, q⟩ | rfl | ⟨rfl, q⟩ | ⟨rfl, q⟩ | ⟨rfl, q⟩
  · exact h
  · exact h
  · exact h
  · exact h
  · rfl
  · exact h
  · exact h
  · exact h
theorem form_back {k : Int} {d l : List UInt8} {nm : ByteArray} {n z : Int} (hd : d.length = 32) (h : rightE k l.length nm.data.toList n z = 0) : formE k (dataL k d nm.data.toList l n z) = 0 := by
  obtain ⟨h1, h2, h3, h4, h5, h6⟩ := data_back hd h
  unfold formE
  rw [h1, if_neg (by decide), h3, h4, h5, h6]
  exact right_bare h
/-- what is read is what was made, whatever stands around it -/
theorem parse_back {k : Int} {s : Nat} {d l a t : List UInt8} {nm : ByteArray} {n z : Int} (hs : s < 18446744073709551616) (hd : d.length = 32) (h : rightE k l.length nm.data.toList n z = 0) (x : List UInt8) (hx : x = a ++ makeR k s d nm.data.toList l n z ++ t) :
    recE x a.length = 0 ∧ (pKind x a.length : Int) = k ∧ pSeq x a.length = s ∧ pData x a.length = dataL k d nm.data.toList l n z ∧ pEnd x a.length = (a.length : Int) + (makeR k s d nm.data.toList l n z).length := by
  have hk := kind_in h
  have hdl := data_len (d := d) hd h
  have hm : makeR k s d nm.data.toList l n z = makeL k.toNat s (dataL k d nm.data.toList l n z) := by unfold makeR; rw [if_pos h]
  rw [hm] at hx ⊢
  obtain ⟨h1, h2, h3, h4, h5⟩ := parse_make (k := k.toNat) (s := s) (d := dataL k d nm.data.toList l n z) (by omega) (by omega) hs hdl x hx
  have h2' : (pKind x a.length : Int) = k := by rw [h2]; omega
  refine ⟨?_, h2', h3, h4, by rw [h5, makeL_len]; omega⟩
  unfold recE
  rw [if_neg (by rw [h1]; decide), h2', h4]
  exact form_back hd h
/-- what was read has the data that were read -/
theorem back_data {k : Int} {y : List UInt8} (hk : 1 ≤ k ∧ k ≤ 8) (ok : okF k y = true) (hr : rightE k (lF k y).length (nmF k y).data.toList (nF k y) (zF k y) = 0) : dataL k (dF k y) (nmF k y).data.toList (lF k y) (nF k y) (zF k y) = y := by
  rcases (show k = 1 ∨ k = 2 ∨ k = 3 ∨ k = 4 ∨ k = 5 ∨ k = 6 ∨ k = 7 ∨ k = 8 by omega) with rfl | rfl | rfl | rfl | rfl | rfl | rfl | rfl
  · exact List.take_append_drop 32 y
  · exact List.take_append_drop 32 y
  · have o2 : (textOk y 0 && decide ((restL y).length = 32)) = true := ok
    rw [Bool.and_eq_true] at o2
    exact text_join o2.1
  · have o2 : (textOk y 0 && decide ((restL y).length = 0)) = true := ok
    rw [Bool.and_eq_true] at o2
    have h := text_join o2.1
    have h0 : restL y = [] := List.eq_nil_of_length_eq_zero (of_decide_eq_true o2.2)
    rw [h0, List.append_nil] at h
    exact h
  · rfl
  · exact num_join (of_decide_eq_true ok)
  · have o2 : y.length = 16 ∧ y.take 8 = magicL := of_decide_eq_true ok
    have hn : 1 ≤ nF 7 y ∧ nF 7 y ≤ 99999999 := by
      rcases right_in hr with ⟨e, q⟩ | ⟨e, q⟩ | ⟨e, q⟩ | ⟨e, q⟩ | e | ⟨e, q⟩ | ⟨e, q⟩ | ⟨e, q⟩ <;> first | exact q | (exfalso; omega)
    have e1 : nF 7 y = (numN y 8 8 : Int) := rfl
    have e2 : takeN y 8 8 = le (y.drop 8) := by
      have h := takeN_of (y := y) (p := 8) (q := 8) (by decide) (by decide) (by omega)
      rw [show ((8 : Nat) : Int) = 8 from rfl] at h
      rw [h, List.take_of_length_le (by rw [List.length_drop]; omega)]
    have e3 : numN y 8 8 = le (y.drop 8) := by
      unfold numN at e1 ⊢
      rw [e2] at e1 ⊢
      by_cases hle : le (y.drop 8) ≤ 4294967295
      · rw [if_pos hle]
      · rw [if_neg hle] at e1; omega
    show magicL ++ putB (nF 7 y).toNat 8 = y
    rw [e1, e3, ← o2.2]
    have e4 : putB (le (y.drop 8)) 8 = y.drop 8 := putB_of (by rw [List.length_drop]; omega)
    rw [show ((le (y.drop 8) : Nat) : Int).toNat = le (y.drop 8) from rfl, e4]
    exact List.take_append_drop 8 y
  · exact num_join (of_decide_eq_true ok)
where
  text_join {y : List UInt8} (h : textOk y 0 = true) : [UInt8.ofNat (textS y 0).data.toList.length] ++ (textS y 0).data.toList ++ restL y = y := by
    have h2 := of_decide_eq_true h
    rw [show (0 : Int).toNat = 0 from rfl] at h2
    obtain ⟨q, hq⟩ : ∃ q : Nat, B.bt y 0 = (q : Int) := ⟨(B.bt y 0).toNat, by have := bt_bd y 0; omega⟩
    obtain ⟨-, e2, e3⟩ := text_ok hq (by omega) (by omega)
    have hg : (y.getD 0 0).toNat = q := by unfold B.bt at hq; omega
    rw [e2, e3]
    show [UInt8.ofNat ((y.take (1 + q)).drop 1).length] ++ (y.take (1 + q)).drop 1 ++ y.drop (1 + q) = y
    have hl : ((y.take (1 + q)).drop 1).length = q := by rw [List.length_drop, List.length_take]; omega
    rw [hl]
    match y, hg, h2 with
    | c :: t, hg, _ =>
      have hc : UInt8.ofNat q = c := by
        have : c.toNat = q := hg
        rw [← this]; simp
      rw [hc, show 1 + q = q + 1 by omega]
      show c :: (t.take q ++ t.drop q) = c :: t
      rw [List.take_append_drop]
  num_join {y : List UInt8} (h : y.length = 8) : putB ((numN y 0 4 : Nat) : Int).toNat 4 ++ putB ((numN y 4 4 : Nat) : Int).toNat 4 = y := by
    have e1 : numN y 0 4 = le (y.take 4) := by
      have h1 := takeN_of (y := y) (p := 0) (q := 4) (by decide) (by decide) (by omega)
      rw [show ((4 : Nat) : Int) = 4 from rfl, show ((0 : Nat) : Int) = 0 from rfl, List.drop_zero] at h1
      unfold numN; rw [h1, if_pos (by have := le_take_lt y 4; omega)]
    have e2 : numN y 4 4 = le (y.drop 4) := by
      have h1 := takeN_of (y := y) (p := 4) (q := 4) (by decide) (by decide) (by omega)
      rw [show ((4 : Nat) : Int) = 4 from rfl] at h1
      unfold numN
      rw [h1, if_pos (by have := le_take_lt (y.drop 4) 4; omega), List.take_of_length_le (by rw [List.length_drop]; omega)]
    rw [show ((numN y 0 4 : Nat) : Int).toNat = numN y 0 4 from rfl, show ((numN y 4 4 : Nat) : Int).toNat = numN y 4 4 from rfl, e1, e2, putB_of (by rw [List.length_take]; omega), putB_of (by rw [List.length_drop]; omega)]
    exact List.take_append_drop 4 y
/-- the fields of what is read at a place -/
theorem rec_ok {b : List UInt8} {at_ : Int} (h : recE b at_ = 0) : pErr b at_ = 0 ∧ okF (pKind b at_) (pData b at_) = true ∧ rightE (pKind b at_) (lF (pKind b at_) (pData b at_)).length (nmF (pKind b at_) (pData b at_)).data.toList (nF (pKind b at_) (pData b at_)) (zF (pKind b at_) (pData b at_)) = 0 := by
  unfold recE at h
  by_cases h1 : pErr b at_ = 0
  · rw [if_neg (by rw [h1]; decide)] at h
    unfold formE at h
    cases ho : okF (pKind b at_) (pData b at_) with
    | false => rw [ho, if_pos rfl] at h; cases h
    | true => rw [ho, if_neg (by decide)] at h; exact ⟨h1, rfl, h⟩
  · rw [if_pos h1] at h; exact absurd h h1
theorem back_make {b : List UInt8} {at_ : Int} (h : recE b at_ = 0) : 0 ≤ at_ ∧ at_ ≤ pEnd b at_ ∧ pEnd b at_ ≤ b.length ∧ makeR (pKind b at_) (pSeq b at_) (dF (pKind b at_) (pData b at_)) (nmF (pKind b at_) (pData b at_)).data.toList (lF (pKind b at_) (pData b at_)) (nF (pKind b at_) (pData b at_)) (zF (pKind b at_) (pData b at_)) = (b.take (pEnd b at_).toNat).drop at_.toNat := by
  obtain ⟨h1, h2, h3⟩ := rec_ok h
  have hk := kind_of h1
  have hD := back_data hk h2 h3
  obtain ⟨p1, p2, p3⟩ := pErr_ok h1
  obtain ⟨q1, q2, q3, q4, q5, q6⟩ := pErrX_ok p3
  have hx : (b.drop at_.toNat).length = b.length - at_.toNat := List.length_drop
  have he : pEnd b at_ = at_ + 21 + fn (b.drop at_.toNat) := by unfold pEnd; rw [if_pos h1]
  refine ⟨p1, by omega, by omega, ?_⟩
  unfold makeR
  rw [if_pos h3, hD]
  have e1 : pKind b at_ = fk (b.drop at_.toNat) := by unfold pKind; rw [if_pos h1]
  have e2 : pSeq b at_ = fs (b.drop at_.toNat) := by unfold pSeq; rw [if_pos h1]
  have e3 : pData b at_ = ((b.drop at_.toNat).drop 17).take (fn (b.drop at_.toNat)) := by unfold pData; rw [if_pos h1]
  rw [e1, e2, e3, show ((fk (b.drop at_.toNat) : Nat) : Int).toNat = fk (b.drop at_.toNat) from rfl, (make_is q5 q2).2 q6, List.drop_take]
  congr 1; omega
theorem dF_len {k : Int} {y : List UInt8} (ok : okF k y = true) : (dF k y).length = 32 := by
  unfold dF
  unfold okF at ok
  split
  · rename_i h
    rw [if_pos h] at ok
    have := of_decide_eq_true ok
    rw [List.length_take]; omega
  · rename_i h
    rw [if_neg h] at ok
    split
    · rename_i h3
      rw [if_pos h3, Bool.and_eq_true] at ok
      exact of_decide_eq_true ok.2
    · rename_i h3
      rw [if_neg h3] at ok
      split
      · rename_i h5
        rw [if_neg (by omega), if_pos h5] at ok
        exact of_decide_eq_true ok
      · rfl
end Go.Proofs.Ytceldlijbehkdaa.Rc
