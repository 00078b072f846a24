/- ledger.Victim: the walk. -/
import Derived.Test.YtkgbimkjpllakaaLdVicP
set_option linter.unusedVariables false
set_option linter.unusedSimpArgs false
namespace Go.Proofs.Ytkgbimkjpllakaa.Ld
open Go.RowKit Go.Proofs.YtkgbimkjpllakaaW.PrintWords Go.Proofs.Ytkgbimkjpllakaa.B Go.Proofs.Ytkgbimkjpllakaa.O Go.Proofs.Ytkgbimkjpllakaa.Sc
def VicE (l : List Lo) (n : List Int64) (lim : Nat) (w : World) (e : Ending) (w' : World) : Prop := ∃ v, e = .returned (.int .i64 v) ∧ IsVic (mayL n lim l) v ∧ Below w.heap.size w w'
set_option maxRecDepth 100000 in
set_option maxHeartbeats 1600000 in
theorem victim_any (A : Option Addr) (c : Nat) (l : List Lo) (lim : Nat) (An : Option Addr) (cn : Nat) (n : List Int64) (w : World) (hl : l.length * 24 ≤ 140737488355328) (hlim : lim < 18446744073709551616) (hr : RdL w A l) (hn : RdI w An n) :
    Calls Try.prog 32 #[.slice A l.length c, .float .f64 lim, .slice An n.length cn] w (VicE l n lim w) := by
  have hmf : ∀ (fn : Fn) (first cap : Array Value) (w : World), (Instr.makeFunc fn first cap).run Try.prog w = .ok (.func fn first cap) w := fun _ _ _ _ => rfl
  have hst : ∀ (W : World) (t : TypeId), (store (⟨W.heap.size, 0, none⟩ : Addr) (Value.func (.func 49) #[] #[])).run Try.prog (W.alloc (.cells #[Value.nilFunc] t)) = .ok () (W.alloc (.cells #[Value.func (.func 49) #[] #[]] t)) := fun W t => by
    have hb := blk_new W (.cells #[Value.nilFunc] t)
    rw [run_store _ _ _ _ _ rfl, blk_cell hb 0]
    simp [blk_frozen hb 0]
    rw [World.setCell_alloc_new]; rfl
  have hst2 := fun (o1 o2 : Obj) (t : TypeId) => (by have h := hst ((w.alloc o1).alloc o2) t; simpa using h : (store (⟨w.heap.size + 1 + 1, 0, none⟩ : Addr) (Value.func (.func 49) #[] #[])).run Try.prog (((w.alloc o1).alloc o2).alloc (.cells #[Value.nilFunc] t)) = .ok () (((w.alloc o1).alloc o2).alloc (.cells #[Value.func (.func 49) #[] #[]] t)))
  have HCl := Lib.hid (fun (W : World) (h : Below w.heap.size w W) => clonel_any A c l W hl (hr.below h))
  have HN := Lib.hid hn
  clear hr hn
  go_enter Try.func32, Try.ntmps32
  go_wp2_with fail
  obtain ⟨w3, hw3⟩ : ∃ w3, (((w.alloc (.cells #[.float .f64 lim] 50)).alloc (.cells #[.slice An n.length cn] 51)).alloc (.cells #[.func (.func 49) #[] #[]] 73)) = w3 := ⟨_, rfl⟩
  have hb3 : Below w.heap.size w w3 := hw3 ▸ below_alloc (below_alloc (below_alloc (Below.refl _ _) _) _) _
  have hsz : w3.heap.size = w.heap.size + 3 := by rw [← hw3]; simp
  have hHeld : Held (w.heap.size + 1) (w.heap.size + 1 + 1) w.heap.size An cn n lim w3 := by
    subst hw3
    have g1 := blk_below (blk_new w (.cells #[.float .f64 lim] 50)) (below_alloc (below_alloc (Below.refl _ _) (.cells #[.slice An n.length cn] 51)) (.cells #[.func (.func 49) #[] #[]] 73))
    have g2 := blk_below (blk_new (w.alloc (.cells #[.float .f64 lim] 50)) (.cells #[.slice An n.length cn] 51)) (below_alloc (Below.refl _ _) (.cells #[.func (.func 49) #[] #[]] 73))
    have g3 := blk_new ((w.alloc (.cells #[.float .f64 lim] 50)).alloc (.cells #[.slice An n.length cn] 51)) (.cells #[.func (.func 49) #[] #[]] 73)
    have e1 : (w.alloc (.cells #[.float .f64 lim] 50)).heap.size = w.heap.size + 1 := by simp
    have e2 : ((w.alloc (.cells #[.float .f64 lim] 50)).alloc (.cells #[.slice An n.length cn] 51)).heap.size = w.heap.size + 1 + 1 := by simp
    rw [e1] at g2
    rw [e2] at g3
    exact ⟨blk_cell g2 0, blk_cell g3 0, blk_cell g1 0, HN.out.below hb3⟩
  rw [hw3]
  have HB3 := Lib.hid hb3
  have HSZ := Lib.hid hsz
  have HH := Lib.hid hHeld
  clear hst hst2 hb3 hsz hHeld hw3
  refine (HCl.out w3 HB3.out).mono ?_
  rintro e w4 ⟨v4, rfl, ho4, hb4⟩
  obtain ⟨A4, c4, rfl, hc4, -⟩ := Kd.R_reads ho4
  have HO4 := Lib.hid ho4
  have HB4 := Lib.hid hb4
  have hbase : w3.heap.size ≤ w4.heap.size := hb4.size
  have HD := Lib.hid (dfunc_any A4 c4 l w3.heap.size (w.heap.size + 1) (w.heap.size + 1 + 1) w.heap.size An cn n lim w4 hlim (fun W hW => HH.out.below (hb4.trans hW)) hbase ho4)
  clear ho4 hb4
  go_wp2_with fail
  refine HD.out.mono ?_
  rintro e w5 ⟨v5, rfl, ho5, hb5⟩
  obtain ⟨A5, c5, rfl, hc5, hr5⟩ := Kd.R_reads ho5
  have HHELD := Lib.hid (show Held (w.heap.size + 1) (w.heap.size + 1 + 1) w.heap.size An cn n lim w5 from HH.out.below (HB4.out.trans hb5))
  have HB5 := Lib.hid (show Below w.heap.size w w5 from below_step' HB3.out (HB4.out.trans hb5))
  have HR5 := Lib.hid (show RdL w5 A5 (mayL n lim l) from hr5)
  have hml : (mayL n lim l).length ≤ l.length := List.length_filter_le _ _
  have HMD := Lib.hid (fun k (hk : k < (mayL n lim l).length) => may_del hk)
  have hc5' : (mayL n lim l).length ≤ c5 := hc5
  have HV := Lib.hid (fun r (h : IsLeast (shL (mayL n lim l)) r) => vic_of (fun j hj => shN_lt (may_del hj)) h)
  have hfm : List.filter (fun x => !delB n lim x) l = mayL n lim l := rfl
  rw [hfm]
  obtain ⟨m, hmm⟩ : ∃ m, mayL n lim l = m := ⟨_, rfl⟩
  rw [hmm] at HR5 hml HMD hc5' HV ⊢
  have HMM := Lib.hid hmm
  clear hmm
  clear hfm hc5 hr5 ho5 hb5 HD HO4 HB4 HH HB3 HSZ HCl
  go_wp2_with fail
  have hbw : w.heap.size ≤ w5.heap.size := HB5.out.size
  go_loopw [9, 19] (fun sh i wr => ∃ (k : Nat) (A : Option Addr) (cc : Nat), k ≤ m.length ∧ i = .int .i64 k ∧ sh = .slice A k cc ∧ Hid (OwnF wr w5.heap.size (.slice A k cc) (shL (m.take k))) ∧ Hid (Below w5.heap.size w5 wr)) (fun _ i _ => m.length - (intOf i).toNat)
  case atStart => exact ⟨0, none, 0, by omega, rfl, rfl, OwnF.nil _ _, Below.refl _ _⟩
  case round =>
    obtain ⟨k, A, cc, hk, rfl, rfl, HOr, HBr⟩ := hrel
    by_cases hlt : k < m.length
    · obtain ⟨ad, rfl, e0, e1, e2⟩ := (HR5.out.below HBr.out).cells k hlt
      have HSN := Lib.hid (shL_snoc hlt)
      have HDk := Lib.hid (HMD.out k hlt)
      have HON := Lib.hid (fun (W : World) => one_any (lo m k).1.toInt (lo m k).2.1.toInt (lo m k).2.2.toInt W)
      have HSH := Lib.hid (fun r (h : IsShare (floatOfInt .f64 (lo m k).2.2.toInt) (floatOfInt .f64 (lo m k).2.1.toInt) r) => share_of HDk.out h)
      have hbr : w5.heap.size ≤ wr.heap.size := HBr.out.size
      generalize hx0 : (lo m k).1.toInt = x0 at *
      generalize hx1 : (lo m k).2.1.toInt = x1 at *
      generalize hx2 : (lo m k).2.2.toInt = x2 at *
      clear hx0 hx1 hx2
      have hbx : Below wr.heap.size wr (wr.alloc (.cells #[.int .i64 x0, .int .i64 x1, .int .i64 x2] 55)) := below_alloc (Below.refl _ _) _
      have hfc := pw_cell_below hbx (HHELD.out.below HBr.out).f_
      have HBX := Lib.hid hbx
      clear hbx
      go_wp2_with (refine wpList_box rfl rfl 55 _ _ rfl rfl #[.int .i64 x0, .int .i64 x1, .int .i64 x2] _ zeroLo rfl rfl rfl infoLd (by simp [Value.oneCell']) ?_)
      refine (HON.out _).mono ?_
      rintro e w6 ⟨r, rfl, hi, hb⟩
      have HB6 := Lib.hid (show Below w5.heap.size w5 w6 from below_then HBr.out hbr (below_step' HBX.out hb))
      have HO6 := Lib.hid (show OwnF w6 w5.heap.size (.slice A k cc) (shL (m.take k)) from Kd.R_below HOr.out (below_step' HBX.out hb))
      have HP := Lib.hid (show r = (UInt64.ofNat (shN (lo m k))).toNat from by rw [HSH.out r hi]; have := shN_lt HDk.out; simp; omega)
      have hlen : ((shL (m.take k)).length + 1) * 8 ≤ 140737488355328 := by rw [shL_len, List.length_take]; omega
      have hb6 : w5.heap.size ≤ w6.heap.size := HB6.out.size
      clear hi hb
      go_wp2_with (at_builtin; refine appF (w0 := w5) w5.heap.size rfl (.tmp 23) (.tmp 27) rfl _ (shL (m.take k)) (UInt64.ofNat (shN (lo m k))) r rfl rfl HP.out HO6.out HB6.out hb6 hlen ?_; intro v7 w7 ho7 hb7; rw [← HSN.out] at ho7; obtain ⟨A7, c7, rfl, -, -⟩ := Kd.R_reads ho7; have HO7 := Lib.hid ho7; have HB7 := Lib.hid hb7; clear ho7 hb7)
      have hln : (shL (m.take (k + 1))).length = k + 1 := by rw [shL_len, List.length_take]; omega
      rw [hln] at HO7
      simp only [hln]
      go_roundw
      case rel => exact ⟨k + 1, A7, c7, by omega, by go_num, by go_num, HO7, HB7⟩
      case measure => simp [intOf]; omega
    · obtain rfl : k = m.length := by omega
      rw [List.take_length] at HOr
      have HRF := Lib.hid (show RdF wr A (shL m) from by have h := (Kd.R_reads' (by rw [← shL_len m] at HOr; exact HOr.out)).2.2; exact h)
      have HLE := Lib.hid (show Calls Try.prog 56 #[.slice A m.length cc] wr (Leasted (shL m) wr) from by rw [← shL_len m]; exact least_any A cc (shL m) wr HRF.out)
      go_wp2_with fail
      refine HLE.out.mono ?_
      rintro e w6 ⟨r, nd, rfl, hle, rfl⟩
      have HB6 := Lib.hid (show Below w.heap.size w (wr.drewN nd) from pw_below_drewN (below_then HB5.out hbw HBr.out) nd)
      rcases HV.out r hle with ⟨h1, rfl⟩ | ⟨q, rfl, hq, hv⟩
      · have HM0 := Lib.hid h1
        clear hle h1
        go_wp2_with fail
        go_ret
        exact ⟨0, rfl, .inl ⟨HMM.out.trans HM0.out, rfl⟩, HB6.out⟩
      · obtain ⟨ad, rfl, e0, -, -⟩ := (HR5.out.below (pw_below_drewN HBr.out nd)).cells q hq
        have HVV := Lib.hid hv
        clear hle hv
        go_wp2_with fail
        go_ret
        exact ⟨_, rfl, by rw [HMM.out]; exact HVV.out, HB6.out⟩
end Go.Proofs.Ytkgbimkjpllakaa.Ld
