/- law16: SegmentTorn. -/
import Derived.Test.YtceldlijbehkdaaSgTornP
import Derived.Test.YtceldlijbehkdaaSgEnd
import Derived.Test.YtceldlijbehkdaaSgWds
import Derived.Deep.DeepCutAuto
import Derived.Deep.CutRange
import Derived.BigGuard
set_option linter.unusedVariables false
set_option linter.unusedSimpArgs false
namespace Go.Proofs.Ytceldlijbehkdaa.Sg
open Go.RowKit Go.Proofs.YtceldlijbehkdaaW.PrintWords Go.Proofs.Ytceldlijbehkdaa.B Go.Proofs.Ytceldlijbehkdaa.Fx Go.Proofs.Ytceldlijbehkdaa.Fr Go.Proofs.Ytceldlijbehkdaa.O Go.Proofs.Ytceldlijbehkdaa.Rc Go.Proofs.Ytceldlijbehkdaa.Bt
theorem OwnW.lower {w : World} {base b' : Nat} {v : Value} {l : List Wd} (h : OwnW w base v l) (hb : b' ≤ base) : OwnW w b' v l := Kd.R_lower h hb
theorem OwnW.rd {w : World} {base : Nat} {A : Option Addr} {n c : Nat} {l : List Wd} (h : OwnW w base (.slice A n c) l) : RdW w A l ∧ l.length ≤ c := by
  obtain ⟨A', c', e, hc, hr⟩ := OwnW.reads h
  injection e with e1 e2 e3
  subst e1 e3
  exact ⟨hr, hc⟩
theorem cutW {A : Option Addr} {l : List Wd} {c : Nat} (m : Nat) (h2 : m ≤ l.length) (hc : l.length ≤ c) (W : World) : (Instr.slice 62 (.slice A l.length c) none (some (.int .i64 (m : Int))) none).run Try.prog W = .ok (.slice A m c) W := by
  obtain ⟨i0, hi, -⟩ := Option.map_eq_some_iff.1 infoWd
  have h := cut_to (P := Try.prog) 62 50 .i64 undWd hi A l.length c (m : Int) (by omega) (by omega) hc W
  simpa using h
section
variable {P : Program} {ops : Array Oper} {rest : List Oper} {o : Oper} {a : Act} {Q : Exit → Act → World → Prop} {w : World}
theorem wpList_mv (h1 : o.guard = none) (x : Operand) (ho : o.op = .move x) (v : Value) (hv : a.eval x = v) (h : wpList P ops Q rest (a.put o.dst v) w) : wpList P ops Q (o :: rest) a w :=
  wpList_plain h1 fun K hK => by
    unfold Oper.wp execOp
    simp only [ho, Sem.run_bind, Sem.run_pure, Result.andThen_ok, hv]
    exact hK _ _ h
theorem wpList_pickT (h1 : o.guard = none) (c x y : Operand) (ho : o.op = .pick c x y) (hc : a.eval c = .bool true) (v : Value) (hv : a.eval x = v) (h : wpList P ops Q rest (a.put o.dst v) w) : wpList P ops Q (o :: rest) a w :=
  wpList_plain h1 fun K hK => by
    unfold Oper.wp execOp
    simp only [ho, hc, asBool, if_true, Sem.run_bind, Sem.run_pure, Result.andThen_ok, hv]
    exact hK _ _ h
end
set_option maxRecDepth 100000 in
set_option maxHeartbeats 12800000 in
theorem storn_any (A : Option Addr) (c : Nat) (b : List UInt8) (n part : Int) (w : World) (hr : Rd w A b) (hc : b.length ≤ c) (hl : b.length ≤ 1048576) (hn : -9223372036854775808 ≤ n ∧ n ≤ 9223372036854775807) (hp : -9223372036854775808 ≤ part ∧ part ≤ 9223372036854775807) :
    Calls Try.prog 12 #[.slice A b.length c, .int .i64 n, .int .i64 part] w (Kept (.bool true) w) := by
  have HLV := Lib.hid (fun W => slives_any W)
  by_cases hp0 : part < 0
  · go_enter Try.func12, Try.ntmps12
    go_wp2_with fail
    refine (HLV.out _).mono ?_
    rintro e w8 ⟨rfl, hb⟩
    have HB8 := Lib.hid hb
    clear hb
    go_wp2_with fail
    go_ret
    exact ⟨rfl, by first | exact HB8.out | exact below_step' (below_drew (Below.refl _ _)) HB8.out⟩
  by_cases hp1 : (b.length : Int) < part
  · go_enter Try.func12, Try.ntmps12
    go_wp2_with fail
    refine (HLV.out _).mono ?_
    rintro e w8 ⟨rfl, hb⟩
    have HB8 := Lib.hid hb
    clear hb
    go_wp2_with fail
    go_ret
    exact ⟨rfl, by first | exact HB8.out | exact below_step' (below_drew (Below.refl _ _)) HB8.out⟩
  have HS := Lib.hid (fun (W : World) (h : Rd W A b) => (scan_any A c b n W (by omega) hc h).mono fun e w' h => Scanned.ex h)
  obtain ⟨y, hy, hcut, hrd, hyc, hyl⟩ := cutTo (A := A) (l := b) (c := c) part (by omega) (by omega) hc
  have hyb : b = y ++ b.drop part.toNat := by rw [hy.out, List.take_append_drop]
  have HRY := Lib.hid (fun W (h : Rd W A b) => hrd W h)
  have HT := Lib.hid (fun (W : World) (h : Rd W A b) => (scan_any A c y n W (by omega) hyc (hrd W h)).mono fun e w' h => Scanned.ex h)
  obtain ⟨e1, -⟩ := scanL_en b n
  obtain ⟨e2, e3⟩ := scanL_en y n
  have hpre : (scanL y n).ws <+: (scanL b n).ws := by
    have h := scanL_app y (b.drop part.toNat) n
    rwa [← hyb] at h
  have hpl := hpre.length_le
  have hpt : (scanL b n).ws.take (scanL y n).ws.length = (scanL y n).ws := (List.prefix_iff_eq_take.1 hpre).symm
  have hwl := scanL_len b n
  obtain ⟨z, hz, hcutz, hrdz, hzc, hzl⟩ := cutTo (A := A) (l := b) (c := c) (scanL y n).en e3 (by omega) hc
  have hyz : y = z ++ y.drop (scanL y n).en.toNat := by
    rw [hz.out, hy.out]
    have : (b.take part.toNat).take (scanL y n).en.toNat = b.take (scanL y n).en.toNat := by rw [List.take_take, Nat.min_eq_left (by omega)]
    rw [← hy.out] at this ⊢
    rw [← this, List.take_append_drop]
  have hal := fun h : (scanL y n).en ≠ 0 => scanL_alone (n := n) hyz (by rw [hzl]; omega) h
  have HU := Lib.hid (fun (W : World) (h : Rd W A b) => (scan_any A c z n W (by omega) hzc (hrdz W h)).mono fun e w' h => Scanned.ex h)
  have HRD := Lib.hid hr
  have HYZ := Lib.hid hyz
  have HYB := Lib.hid hyb
  clear hr hrd hrdz hyz hyb hpre
  generalize scanL b n = S at *
  generalize scanL y n = U at *
  generalize scanL z n = V at *
  obtain ⟨ws1, q1, en1, sl1, at1, er1⟩ := S
  obtain ⟨ws2, q2, en2, sl2, at2, er2⟩ := U
  obtain ⟨ws3, q3, en3, sl3, at3, er3⟩ := V
  simp only at e1 e2 e3 hpl hpt hwl hal hcutz HS HT HU hzl
  have HYL := Lib.hid hyl
  have HZL := Lib.hid hzl
  have hyp : (y.length : Int) = part := by omega
  have HEN2 := Lib.hid (show en2 ≤ part by omega)
  rw [hyp] at e2
  have HPT := Lib.hid hpt
  have HWL := Lib.hid hwl
  have HAL := Lib.hid hal
  have hl9 : ws1.length ≤ 140737488355328 := by omega
  clear hyl hzl hyp hpt hwl hal hy hz
  have d1 : decide ((b.length : Int) < en1) = false := decide_eq_false (by omega)
  have d2 : decide (part < en2) = false := decide_eq_false (by omega)
  have d3 : decide (ws1.length < ws2.length) = false := decide_eq_false (by omega)
  have HS1 := HS
  have HS2 := HT
  clear HS HT
  go_enter Try.func12, Try.ntmps12
  go_wp2_with fail
  go_cut [7, 8] from 19 to 26 (fun s7 s8 wx => ∃ (a7 a8 : Nat) (A1 : Option Addr) (c1 : Nat) (A2 : Option Addr) (c2 : Nat), s7 = .pointer (some ⟨a7, 0, none⟩) ∧ s8 = .pointer (some ⟨a8, 0, none⟩) ∧ wx.heap[a7]? = some (.cells #[.slice A1 ws1.length c1, .int .u64 q1, .int .i64 en1, .bool sl1, .int .i64 at1, .int .i64 er1] 69 (0, 0)) ∧ wx.heap[a8]? = some (.cells #[.slice A2 ws2.length c2, .int .u64 q2, .int .i64 en2, .bool sl2, .int .i64 at2, .int .i64 er2] 69 (0, 0)) ∧ OwnW wx w.heap.size (.slice A1 ws1.length c1) ws1 ∧ OwnW wx w.heap.size (.slice A2 ws2.length c2) ws2 ∧ Below w.heap.size w wx)
  case first =>
    refine wp_region_held_drew (S := fun W => Below w.heap.size w W) (by kernel_rfl) (below_drew (Below.refl _ _)) (fun hHeld => ?_)
    refine wpAnyH_take (i := 0) (v := _) rfl (by kernel_rfl) (by kernel_rfl) (by kernel_rfl) (fun _ _ _ h => h) (Or.inl ⟨by kernel_rfl, fun w _ => by go_simp <;> with_reducible rfl⟩) hHeld ?_
    simp only [List.getElem_toArray, List.getElem_cons_succ, List.getElem_cons_zero, Act.put, List.setIfInBounds_toArray, List.set_cons_zero, List.set_cons_succ]
    refine wpAnyH_take (i := 1) (v := _) rfl (by kernel_rfl) (by kernel_rfl) (by kernel_rfl) (fun _ _ _ h => h) (Or.inl ⟨by kernel_rfl, fun w _ => by go_simp <;> with_reducible rfl⟩) hHeld ?_
    simp only [List.getElem_toArray, List.getElem_cons_succ, List.getElem_cons_zero, Act.put, List.setIfInBounds_toArray, List.set_cons_zero, List.set_cons_succ]
    refine wpAnyH_take (i := 3) (v := _) rfl (by kernel_rfl) (by kernel_rfl) (by kernel_rfl) (fun _ _ _ h => h) (Or.inl ⟨by kernel_rfl, fun w _ => by go_simp <;> with_reducible rfl⟩) hHeld ?_
    simp only [List.getElem_toArray, List.getElem_cons_succ, List.getElem_cons_zero, Act.put, List.setIfInBounds_toArray, List.set_cons_zero, List.set_cons_succ]
    refine wpAnyH_take (i := 4) (v := _) rfl (by kernel_rfl) (by kernel_rfl) (by kernel_rfl) (fun _ _ _ h => h) (Or.inl ⟨by kernel_rfl, fun w _ => by go_simp <;> with_reducible rfl⟩) hHeld ?_
    simp only [List.getElem_toArray, List.getElem_cons_succ, List.getElem_cons_zero, Act.put, List.setIfInBounds_toArray, List.set_cons_zero, List.set_cons_succ]
    refine wpAnyH_take (i := 5) (v := .slice A y.length c) rfl (by kernel_rfl) (by kernel_rfl) (by kernel_rfl) (fun _ _ _ h => h) (Or.inl ⟨by kernel_rfl, fun W h => by have q0 := hcut W; go_simp <;> with_reducible rfl⟩) hHeld ?_
    simp only [List.getElem_toArray, List.getElem_cons_succ, List.getElem_cons_zero, Act.put, List.setIfInBounds_toArray, List.set_cons_zero, List.set_cons_succ]
    refine wpAnyH_take (i := 6) (v := _) rfl (by kernel_rfl) (by kernel_rfl) (by kernel_rfl) (fun _ _ _ h => h) (Or.inl ⟨by kernel_rfl, fun w _ => by go_simp <;> with_reducible rfl⟩) hHeld ?_
    simp only [List.getElem_toArray, List.getElem_cons_succ, List.getElem_cons_zero, Act.put, List.setIfInBounds_toArray, List.set_cons_zero, List.set_cons_succ]
    refine wpAnyH_ready (rs := [2, 8, 9]) (by kernel_rfl) (by simp) ?_
    refine AllReadyH.cons rfl (fun K hK => ?_) (AllReadyH.cons rfl (fun K hK => ?_) (AllReadyH.cons rfl (fun K hK => ?_) AllReadyH.nil))
    · go_simp
      refine (HS1.out _ (HRD.out.below hHeld)).mono ?_
      rintro ee v0c ⟨A1, c1, rfl, ho, hb⟩
      have O1 := OwnW.lower (b' := w.heap.size) ho hHeld.size
      clear ho
      have hI : Below w.heap.size w v0c := below_step' hHeld hb
      refine hK.out _ _ hI (fun hHeld => ?_)
      clear hK K hI
      try simp only [List.getElem_toArray, List.getElem_cons_succ, List.getElem_cons_zero, Act.put, List.setIfInBounds_toArray, List.set_cons_zero, List.set_cons_succ]
      clear hb
      refine wpAnyH_ready (rs := [7, 8, 9]) (by kernel_rfl) (by simp) ?_
      refine AllReadyH.cons rfl (fun K hK => ?_) (AllReadyH.cons rfl (fun K hK => ?_) (AllReadyH.cons rfl (fun K hK => ?_) AllReadyH.nil))
      · go_simp
        refine (HS2.out _ (HRD.out.below hHeld)).mono ?_
        rintro ee v1d ⟨A2, c2, rfl, ho, hb⟩
        have O2 := OwnW.lower (b' := w.heap.size) ho hHeld.size
        clear ho
        have O1 := OwnW.below O1 hb
        have hI : Below w.heap.size w v1d := below_step' hHeld hb
        refine hK.out _ _ hI (fun hHeld => ?_)
        clear hK K hI
        try simp only [List.getElem_toArray, List.getElem_cons_succ, List.getElem_cons_zero, Act.put, List.setIfInBounds_toArray, List.set_cons_zero, List.set_cons_succ]
        clear hb
        refine wpAnyH_ready (rs := [8, 9]) (by kernel_rfl) (by simp) ?_
        refine AllReadyH.cons rfl (fun K hK => ?_) (AllReadyH.cons rfl (fun K hK => ?_) AllReadyH.nil)
        · rw [if_pos (by rfl)]
          refine wp_allocZ 69 rfl _ zeroSc ?_
          obtain ⟨v2p, hW⟩ : ∃ w', World.alloc v1d (.cells #[.slice none 0 0, .int .u64 0, .int .i64 0, .bool false, .int .i64 0, .int .i64 0] 69) = w' := ⟨_, rfl⟩
          rw [show ScC (.slice none 0 0) zSc = #[.slice none 0 0, .int .u64 0, .int .i64 0, .bool false, .int .i64 0, .int .i64 0] from rfl, hW]
          have hb : Below v1d.heap.size v1d v2p := hW ▸ below_alloc (Below.refl _ _) _
          have N8 : v2p.heap[v1d.heap.size]? = some (.cells #[.slice none 0 0, .int .u64 0, .int .i64 0, .bool false, .int .i64 0, .int .i64 0] 69 (0, 0)) := hW ▸ blk_new v1d _
          have L8 : w.heap.size ≤ v1d.heap.size := hHeld.size
          clear hW
          have O1 := OwnW.below O1 hb
          have O2 := OwnW.below O2 hb
          have hI : Below w.heap.size w v2p := below_step' hHeld hb
          refine hK.out _ _ hI (fun hHeld => ?_)
          clear hK K hI
          try simp only [List.getElem_toArray, List.getElem_cons_succ, List.getElem_cons_zero, Act.put, List.setIfInBounds_toArray, List.set_cons_zero, List.set_cons_succ]
          clear hb
          refine wpAnyH_ready (rs := [9]) (by kernel_rfl) (by simp) ?_
          refine AllReadyH.cons rfl (fun K hK => ?_) AllReadyH.nil
          · rw [if_pos (by rfl)]
            refine wp_allocZ 69 rfl _ zeroSc ?_
            obtain ⟨v3r, hW⟩ : ∃ w', World.alloc v2p (.cells #[.slice none 0 0, .int .u64 0, .int .i64 0, .bool false, .int .i64 0, .int .i64 0] 69) = w' := ⟨_, rfl⟩
            rw [show ScC (.slice none 0 0) zSc = #[.slice none 0 0, .int .u64 0, .int .i64 0, .bool false, .int .i64 0, .int .i64 0] from rfl, hW]
            have hb : Below v2p.heap.size v2p v3r := hW ▸ below_alloc (Below.refl _ _) _
            have N9 : v3r.heap[v2p.heap.size]? = some (.cells #[.slice none 0 0, .int .u64 0, .int .i64 0, .bool false, .int .i64 0, .int .i64 0] 69 (0, 0)) := hW ▸ blk_new v2p _
            have L9 : w.heap.size ≤ v2p.heap.size := hHeld.size
            have NE : v1d.heap.size ≠ v2p.heap.size := by have := blk_lt N8; omega
            clear hW
            have N8 := blk_below N8 hb
            have O1 := OwnW.below O1 hb
            have O2 := OwnW.below O2 hb
            have hI : Below w.heap.size w v3r := below_step' hHeld hb
            refine hK.out _ _ hI (fun hHeld => ?_)
            clear hK K hI
            try simp only [List.getElem_toArray, List.getElem_cons_succ, List.getElem_cons_zero, Act.put, List.setIfInBounds_toArray, List.set_cons_zero, List.set_cons_succ]
            clear hb
            have hu5 := upd_row N8 #[.slice A1 ws1.length c1, .int .u64 q1, .int .i64 en1, .bool sl1, .int .i64 at1, .int .i64 er1]
            have hI5 := hu5.to L8 hHeld
            have N95 := (hu5.off v2p.heap.size (Ne.symm NE)).trans N9
            have O15 := OwnW.step O1 N8 (fun k _ hne => hu5.off k hne)
            have O25 := OwnW.step O2 N8 (fun k _ hne => hu5.off k hne)
            have hu6 := upd_row N95 #[.slice A2 ws2.length c2, .int .u64 q2, .int .i64 en2, .bool sl2, .int .i64 at2, .int .i64 er2]
            have hI6 := hu6.to L9 hI5
            have O16 := OwnW.step O15 N95 (fun k _ hne => hu6.off k hne)
            have O26 := OwnW.step O25 N95 (fun k _ hne => hu6.off k hne)
            have F7 := (hu6.off v1d.heap.size NE).trans hu5.at_
            have F8 := hu6.at_
            refine wpAnyH_ready (rs := [10]) (by kernel_rfl) (by simp) ?_
            refine AllReadyH.cons rfl (fun K hK => ?_) AllReadyH.nil
            rw [if_pos (by rfl)]
            refine wp_store_row 69 _ _ rfl v1d.heap.size #[.slice A1 ws1.length c1, .int .u64 q1, .int .i64 en1, .bool sl1, .int .i64 at1, .int .i64 er1] rfl rfl 69 _ N8 infoSc rfl (scC_one' _ _ _ _ _ _ rfl) ?_
            refine hK.out _ _ hI5 (fun hHeld => ?_)
            clear hK K
            try simp only [List.getElem_toArray, List.getElem_cons_succ, List.getElem_cons_zero, Act.put, List.setIfInBounds_toArray, List.set_cons_zero, List.set_cons_succ]
            refine wpAnyH_ready (rs := [11]) (by kernel_rfl) (by simp) ?_
            refine AllReadyH.cons rfl (fun K hK => ?_) AllReadyH.nil
            rw [if_pos (by rfl)]
            refine wp_store_row 69 _ _ rfl v2p.heap.size #[.slice A2 ws2.length c2, .int .u64 q2, .int .i64 en2, .bool sl2, .int .i64 at2, .int .i64 er2] rfl rfl 69 _ N95 infoSc rfl (scC_one' _ _ _ _ _ _ rfl) ?_
            refine hK.out _ _ hI6 (fun hHeld => ?_)
            clear hK K
            try simp only [List.getElem_toArray, List.getElem_cons_succ, List.getElem_cons_zero, Act.put, List.setIfInBounds_toArray, List.set_cons_zero, List.set_cons_succ]
            refine wpAnyH_done (by kernel_rfl) ?_ _
            go_wp2_with fail
            go_meet
            exact ⟨_, _, A1, c1, A2, c2, rfl, rfl, F7, F8, O16, O26, hI6⟩
        · rw [if_pos (by rfl)]
          refine wp_allocZ 69 rfl _ zeroSc ?_
          obtain ⟨v2r, hW⟩ : ∃ w', World.alloc v1d (.cells #[.slice none 0 0, .int .u64 0, .int .i64 0, .bool false, .int .i64 0, .int .i64 0] 69) = w' := ⟨_, rfl⟩
          rw [show ScC (.slice none 0 0) zSc = #[.slice none 0 0, .int .u64 0, .int .i64 0, .bool false, .int .i64 0, .int .i64 0] from rfl, hW]
          have hb : Below v1d.heap.size v1d v2r := hW ▸ below_alloc (Below.refl _ _) _
          have N9 : v2r.heap[v1d.heap.size]? = some (.cells #[.slice none 0 0, .int .u64 0, .int .i64 0, .bool false, .int .i64 0, .int .i64 0] 69 (0, 0)) := hW ▸ blk_new v1d _
          have L9 : w.heap.size ≤ v1d.heap.size := hHeld.size
          clear hW
          have O1 := OwnW.below O1 hb
          have O2 := OwnW.below O2 hb
          have hI : Below w.heap.size w v2r := below_step' hHeld hb
          refine hK.out _ _ hI (fun hHeld => ?_)
          clear hK K hI
          try simp only [List.getElem_toArray, List.getElem_cons_succ, List.getElem_cons_zero, Act.put, List.setIfInBounds_toArray, List.set_cons_zero, List.set_cons_succ]
          clear hb
          refine wpAnyH_ready (rs := [8]) (by kernel_rfl) (by simp) ?_
          refine AllReadyH.cons rfl (fun K hK => ?_) AllReadyH.nil
          · rw [if_pos (by rfl)]
            refine wp_allocZ 69 rfl _ zeroSc ?_
            obtain ⟨v3p, hW⟩ : ∃ w', World.alloc v2r (.cells #[.slice none 0 0, .int .u64 0, .int .i64 0, .bool false, .int .i64 0, .int .i64 0] 69) = w' := ⟨_, rfl⟩
            rw [show ScC (.slice none 0 0) zSc = #[.slice none 0 0, .int .u64 0, .int .i64 0, .bool false, .int .i64 0, .int .i64 0] from rfl, hW]
            have hb : Below v2r.heap.size v2r v3p := hW ▸ below_alloc (Below.refl _ _) _
            have N8 : v3p.heap[v2r.heap.size]? = some (.cells #[.slice none 0 0, .int .u64 0, .int .i64 0, .bool false, .int .i64 0, .int .i64 0] 69 (0, 0)) := hW ▸ blk_new v2r _
            have L8 : w.heap.size ≤ v2r.heap.size := hHeld.size
            have NE : v2r.heap.size ≠ v1d.heap.size := by have := blk_lt N9; omega
            clear hW
            have N9 := blk_below N9 hb
            have O1 := OwnW.below O1 hb
            have O2 := OwnW.below O2 hb
            have hI : Below w.heap.size w v3p := below_step' hHeld hb
            refine hK.out _ _ hI (fun hHeld => ?_)
            clear hK K hI
            try simp only [List.getElem_toArray, List.getElem_cons_succ, List.getElem_cons_zero, Act.put, List.setIfInBounds_toArray, List.set_cons_zero, List.set_cons_succ]
            clear hb
            have hu5 := upd_row N8 #[.slice A1 ws1.length c1, .int .u64 q1, .int .i64 en1, .bool sl1, .int .i64 at1, .int .i64 er1]
            have hI5 := hu5.to L8 hHeld
            have N95 := (hu5.off v1d.heap.size (Ne.symm NE)).trans N9
            have O15 := OwnW.step O1 N8 (fun k _ hne => hu5.off k hne)
            have O25 := OwnW.step O2 N8 (fun k _ hne => hu5.off k hne)
            have hu6 := upd_row N95 #[.slice A2 ws2.length c2, .int .u64 q2, .int .i64 en2, .bool sl2, .int .i64 at2, .int .i64 er2]
            have hI6 := hu6.to L9 hI5
            have O16 := OwnW.step O15 N95 (fun k _ hne => hu6.off k hne)
            have O26 := OwnW.step O25 N95 (fun k _ hne => hu6.off k hne)
            have F7 := (hu6.off v2r.heap.size NE).trans hu5.at_
            have F8 := hu6.at_
            refine wpAnyH_ready (rs := [10]) (by kernel_rfl) (by simp) ?_
            refine AllReadyH.cons rfl (fun K hK => ?_) AllReadyH.nil
            rw [if_pos (by rfl)]
            refine wp_store_row 69 _ _ rfl v2r.heap.size #[.slice A1 ws1.length c1, .int .u64 q1, .int .i64 en1, .bool sl1, .int .i64 at1, .int .i64 er1] rfl rfl 69 _ N8 infoSc rfl (scC_one' _ _ _ _ _ _ rfl) ?_
            refine hK.out _ _ hI5 (fun hHeld => ?_)
            clear hK K
            try simp only [List.getElem_toArray, List.getElem_cons_succ, List.getElem_cons_zero, Act.put, List.setIfInBounds_toArray, List.set_cons_zero, List.set_cons_succ]
            refine wpAnyH_ready (rs := [11]) (by kernel_rfl) (by simp) ?_
            refine AllReadyH.cons rfl (fun K hK => ?_) AllReadyH.nil
            rw [if_pos (by rfl)]
            refine wp_store_row 69 _ _ rfl v1d.heap.size #[.slice A2 ws2.length c2, .int .u64 q2, .int .i64 en2, .bool sl2, .int .i64 at2, .int .i64 er2] rfl rfl 69 _ N95 infoSc rfl (scC_one' _ _ _ _ _ _ rfl) ?_
            refine hK.out _ _ hI6 (fun hHeld => ?_)
            clear hK K
            try simp only [List.getElem_toArray, List.getElem_cons_succ, List.getElem_cons_zero, Act.put, List.setIfInBounds_toArray, List.set_cons_zero, List.set_cons_succ]
            refine wpAnyH_done (by kernel_rfl) ?_ _
            go_wp2_with fail
            go_meet
            exact ⟨_, _, A1, c1, A2, c2, rfl, rfl, F7, F8, O16, O26, hI6⟩
      · rw [if_pos (by rfl)]
        refine wp_allocZ 69 rfl _ zeroSc ?_
        obtain ⟨v1p, hW⟩ : ∃ w', World.alloc v0c (.cells #[.slice none 0 0, .int .u64 0, .int .i64 0, .bool false, .int .i64 0, .int .i64 0] 69) = w' := ⟨_, rfl⟩
        rw [show ScC (.slice none 0 0) zSc = #[.slice none 0 0, .int .u64 0, .int .i64 0, .bool false, .int .i64 0, .int .i64 0] from rfl, hW]
        have hb : Below v0c.heap.size v0c v1p := hW ▸ below_alloc (Below.refl _ _) _
        have N8 : v1p.heap[v0c.heap.size]? = some (.cells #[.slice none 0 0, .int .u64 0, .int .i64 0, .bool false, .int .i64 0, .int .i64 0] 69 (0, 0)) := hW ▸ blk_new v0c _
        have L8 : w.heap.size ≤ v0c.heap.size := hHeld.size
        clear hW
        have O1 := OwnW.below O1 hb
        have hI : Below w.heap.size w v1p := below_step' hHeld hb
        refine hK.out _ _ hI (fun hHeld => ?_)
        clear hK K hI
        try simp only [List.getElem_toArray, List.getElem_cons_succ, List.getElem_cons_zero, Act.put, List.setIfInBounds_toArray, List.set_cons_zero, List.set_cons_succ]
        clear hb
        refine wpAnyH_ready (rs := [7, 9]) (by kernel_rfl) (by simp) ?_
        refine AllReadyH.cons rfl (fun K hK => ?_) (AllReadyH.cons rfl (fun K hK => ?_) AllReadyH.nil)
        · go_simp
          refine (HS2.out _ (HRD.out.below hHeld)).mono ?_
          rintro ee v2d ⟨A2, c2, rfl, ho, hb⟩
          have O2 := OwnW.lower (b' := w.heap.size) ho hHeld.size
          clear ho
          have N8 := blk_below N8 hb
          have O1 := OwnW.below O1 hb
          have hI : Below w.heap.size w v2d := below_step' hHeld hb
          refine hK.out _ _ hI (fun hHeld => ?_)
          clear hK K hI
          try simp only [List.getElem_toArray, List.getElem_cons_succ, List.getElem_cons_zero, Act.put, List.setIfInBounds_toArray, List.set_cons_zero, List.set_cons_succ]
          clear hb
          refine wpAnyH_ready (rs := [9]) (by kernel_rfl) (by simp) ?_
          refine AllReadyH.cons rfl (fun K hK => ?_) AllReadyH.nil
          · rw [if_pos (by rfl)]
            refine wp_allocZ 69 rfl _ zeroSc ?_
            obtain ⟨v3r, hW⟩ : ∃ w', World.alloc v2d (.cells #[.slice none 0 0, .int .u64 0, .int .i64 0, .bool false, .int .i64 0, .int .i64 0] 69) = w' := ⟨_, rfl⟩
            rw [show ScC (.slice none 0 0) zSc = #[.slice none 0 0, .int .u64 0, .int .i64 0, .bool false, .int .i64 0, .int .i64 0] from rfl, hW]
            have hb : Below v2d.heap.size v2d v3r := hW ▸ below_alloc (Below.refl _ _) _
            have N9 : v3r.heap[v2d.heap.size]? = some (.cells #[.slice none 0 0, .int .u64 0, .int .i64 0, .bool false, .int .i64 0, .int .i64 0] 69 (0, 0)) := hW ▸ blk_new v2d _
            have L9 : w.heap.size ≤ v2d.heap.size := hHeld.size
            have NE : v0c.heap.size ≠ v2d.heap.size := by have := blk_lt N8; omega
            clear hW
            have N8 := blk_below N8 hb
            have O1 := OwnW.below O1 hb
            have O2 := OwnW.below O2 hb
            have hI : Below w.heap.size w v3r := below_step' hHeld hb
            refine hK.out _ _ hI (fun hHeld => ?_)
            clear hK K hI
            try simp only [List.getElem_toArray, List.getElem_cons_succ, List.getElem_cons_zero, Act.put, List.setIfInBounds_toArray, List.set_cons_zero, List.set_cons_succ]
            clear hb
            have hu5 := upd_row N8 #[.slice A1 ws1.length c1, .int .u64 q1, .int .i64 en1, .bool sl1, .int .i64 at1, .int .i64 er1]
            have hI5 := hu5.to L8 hHeld
            have N95 := (hu5.off v2d.heap.size (Ne.symm NE)).trans N9
            have O15 := OwnW.step O1 N8 (fun k _ hne => hu5.off k hne)
            have O25 := OwnW.step O2 N8 (fun k _ hne => hu5.off k hne)
            have hu6 := upd_row N95 #[.slice A2 ws2.length c2, .int .u64 q2, .int .i64 en2, .bool sl2, .int .i64 at2, .int .i64 er2]
            have hI6 := hu6.to L9 hI5
            have O16 := OwnW.step O15 N95 (fun k _ hne => hu6.off k hne)
            have O26 := OwnW.step O25 N95 (fun k _ hne => hu6.off k hne)
            have F7 := (hu6.off v0c.heap.size NE).trans hu5.at_
            have F8 := hu6.at_
            refine wpAnyH_ready (rs := [10]) (by kernel_rfl) (by simp) ?_
            refine AllReadyH.cons rfl (fun K hK => ?_) AllReadyH.nil
            rw [if_pos (by rfl)]
            refine wp_store_row 69 _ _ rfl v0c.heap.size #[.slice A1 ws1.length c1, .int .u64 q1, .int .i64 en1, .bool sl1, .int .i64 at1, .int .i64 er1] rfl rfl 69 _ N8 infoSc rfl (scC_one' _ _ _ _ _ _ rfl) ?_
            refine hK.out _ _ hI5 (fun hHeld => ?_)
            clear hK K
            try simp only [List.getElem_toArray, List.getElem_cons_succ, List.getElem_cons_zero, Act.put, List.setIfInBounds_toArray, List.set_cons_zero, List.set_cons_succ]
            refine wpAnyH_ready (rs := [11]) (by kernel_rfl) (by simp) ?_
            refine AllReadyH.cons rfl (fun K hK => ?_) AllReadyH.nil
            rw [if_pos (by rfl)]
            refine wp_store_row 69 _ _ rfl v2d.heap.size #[.slice A2 ws2.length c2, .int .u64 q2, .int .i64 en2, .bool sl2, .int .i64 at2, .int .i64 er2] rfl rfl 69 _ N95 infoSc rfl (scC_one' _ _ _ _ _ _ rfl) ?_
            refine hK.out _ _ hI6 (fun hHeld => ?_)
            clear hK K
            try simp only [List.getElem_toArray, List.getElem_cons_succ, List.getElem_cons_zero, Act.put, List.setIfInBounds_toArray, List.set_cons_zero, List.set_cons_succ]
            refine wpAnyH_done (by kernel_rfl) ?_ _
            go_wp2_with fail
            go_meet
            exact ⟨_, _, A1, c1, A2, c2, rfl, rfl, F7, F8, O16, O26, hI6⟩
        · rw [if_pos (by rfl)]
          refine wp_allocZ 69 rfl _ zeroSc ?_
          obtain ⟨v2r, hW⟩ : ∃ w', World.alloc v1p (.cells #[.slice none 0 0, .int .u64 0, .int .i64 0, .bool false, .int .i64 0, .int .i64 0] 69) = w' := ⟨_, rfl⟩
          rw [show ScC (.slice none 0 0) zSc = #[.slice none 0 0, .int .u64 0, .int .i64 0, .bool false, .int .i64 0, .int .i64 0] from rfl, hW]
          have hb : Below v1p.heap.size v1p v2r := hW ▸ below_alloc (Below.refl _ _) _
          have N9 : v2r.heap[v1p.heap.size]? = some (.cells #[.slice none 0 0, .int .u64 0, .int .i64 0, .bool false, .int .i64 0, .int .i64 0] 69 (0, 0)) := hW ▸ blk_new v1p _
          have L9 : w.heap.size ≤ v1p.heap.size := hHeld.size
          have NE : v0c.heap.size ≠ v1p.heap.size := by have := blk_lt N8; omega
          clear hW
          have N8 := blk_below N8 hb
          have O1 := OwnW.below O1 hb
          have hI : Below w.heap.size w v2r := below_step' hHeld hb
          refine hK.out _ _ hI (fun hHeld => ?_)
          clear hK K hI
          try simp only [List.getElem_toArray, List.getElem_cons_succ, List.getElem_cons_zero, Act.put, List.setIfInBounds_toArray, List.set_cons_zero, List.set_cons_succ]
          clear hb
          refine wpAnyH_ready (rs := [7]) (by kernel_rfl) (by simp) ?_
          refine AllReadyH.cons rfl (fun K hK => ?_) AllReadyH.nil
          · go_simp
            refine (HS2.out _ (HRD.out.below hHeld)).mono ?_
            rintro ee v3d ⟨A2, c2, rfl, ho, hb⟩
            have O2 := OwnW.lower (b' := w.heap.size) ho hHeld.size
            clear ho
            have N8 := blk_below N8 hb
            have N9 := blk_below N9 hb
            have O1 := OwnW.below O1 hb
            have hI : Below w.heap.size w v3d := below_step' hHeld hb
            refine hK.out _ _ hI (fun hHeld => ?_)
            clear hK K hI
            try simp only [List.getElem_toArray, List.getElem_cons_succ, List.getElem_cons_zero, Act.put, List.setIfInBounds_toArray, List.set_cons_zero, List.set_cons_succ]
            clear hb
            have hu5 := upd_row N8 #[.slice A1 ws1.length c1, .int .u64 q1, .int .i64 en1, .bool sl1, .int .i64 at1, .int .i64 er1]
            have hI5 := hu5.to L8 hHeld
            have N95 := (hu5.off v1p.heap.size (Ne.symm NE)).trans N9
            have O15 := OwnW.step O1 N8 (fun k _ hne => hu5.off k hne)
            have O25 := OwnW.step O2 N8 (fun k _ hne => hu5.off k hne)
            have hu6 := upd_row N95 #[.slice A2 ws2.length c2, .int .u64 q2, .int .i64 en2, .bool sl2, .int .i64 at2, .int .i64 er2]
            have hI6 := hu6.to L9 hI5
            have O16 := OwnW.step O15 N95 (fun k _ hne => hu6.off k hne)
            have O26 := OwnW.step O25 N95 (fun k _ hne => hu6.off k hne)
            have F7 := (hu6.off v0c.heap.size NE).trans hu5.at_
            have F8 := hu6.at_
            refine wpAnyH_ready (rs := [10]) (by kernel_rfl) (by simp) ?_
            refine AllReadyH.cons rfl (fun K hK => ?_) AllReadyH.nil
            rw [if_pos (by rfl)]
            refine wp_store_row 69 _ _ rfl v0c.heap.size #[.slice A1 ws1.length c1, .int .u64 q1, .int .i64 en1, .bool sl1, .int .i64 at1, .int .i64 er1] rfl rfl 69 _ N8 infoSc rfl (scC_one' _ _ _ _ _ _ rfl) ?_
            refine hK.out _ _ hI5 (fun hHeld => ?_)
            clear hK K
            try simp only [List.getElem_toArray, List.getElem_cons_succ, List.getElem_cons_zero, Act.put, List.setIfInBounds_toArray, List.set_cons_zero, List.set_cons_succ]
            refine wpAnyH_ready (rs := [11]) (by kernel_rfl) (by simp) ?_
            refine AllReadyH.cons rfl (fun K hK => ?_) AllReadyH.nil
            rw [if_pos (by rfl)]
            refine wp_store_row 69 _ _ rfl v1p.heap.size #[.slice A2 ws2.length c2, .int .u64 q2, .int .i64 en2, .bool sl2, .int .i64 at2, .int .i64 er2] rfl rfl 69 _ N95 infoSc rfl (scC_one' _ _ _ _ _ _ rfl) ?_
            refine hK.out _ _ hI6 (fun hHeld => ?_)
            clear hK K
            try simp only [List.getElem_toArray, List.getElem_cons_succ, List.getElem_cons_zero, Act.put, List.setIfInBounds_toArray, List.set_cons_zero, List.set_cons_succ]
            refine wpAnyH_done (by kernel_rfl) ?_ _
            go_wp2_with fail
            go_meet
            exact ⟨_, _, A1, c1, A2, c2, rfl, rfl, F7, F8, O16, O26, hI6⟩
      · rw [if_pos (by rfl)]
        refine wp_allocZ 69 rfl _ zeroSc ?_
        obtain ⟨v1r, hW⟩ : ∃ w', World.alloc v0c (.cells #[.slice none 0 0, .int .u64 0, .int .i64 0, .bool false, .int .i64 0, .int .i64 0] 69) = w' := ⟨_, rfl⟩
        rw [show ScC (.slice none 0 0) zSc = #[.slice none 0 0, .int .u64 0, .int .i64 0, .bool false, .int .i64 0, .int .i64 0] from rfl, hW]
        have hb : Below v0c.heap.size v0c v1r := hW ▸ below_alloc (Below.refl _ _) _
        have N9 : v1r.heap[v0c.heap.size]? = some (.cells #[.slice none 0 0, .int .u64 0, .int .i64 0, .bool false, .int .i64 0, .int .i64 0] 69 (0, 0)) := hW ▸ blk_new v0c _
        have L9 : w.heap.size ≤ v0c.heap.size := hHeld.size
        clear hW
        have O1 := OwnW.below O1 hb
        have hI : Below w.heap.size w v1r := below_step' hHeld hb
        refine hK.out _ _ hI (fun hHeld => ?_)
        clear hK K hI
        try simp only [List.getElem_toArray, List.getElem_cons_succ, List.getElem_cons_zero, Act.put, List.setIfInBounds_toArray, List.set_cons_zero, List.set_cons_succ]
        clear hb
        refine wpAnyH_ready (rs := [7, 8]) (by kernel_rfl) (by simp) ?_
        refine AllReadyH.cons rfl (fun K hK => ?_) (AllReadyH.cons rfl (fun K hK => ?_) AllReadyH.nil)
        · go_simp
          refine (HS2.out _ (HRD.out.below hHeld)).mono ?_
          rintro ee v2d ⟨A2, c2, rfl, ho, hb⟩
          have O2 := OwnW.lower (b' := w.heap.size) ho hHeld.size
          clear ho
          have N9 := blk_below N9 hb
          have O1 := OwnW.below O1 hb
          have hI : Below w.heap.size w v2d := below_step' hHeld hb
          refine hK.out _ _ hI (fun hHeld => ?_)
          clear hK K hI
          try simp only [List.getElem_toArray, List.getElem_cons_succ, List.getElem_cons_zero, Act.put, List.setIfInBounds_toArray, List.set_cons_zero, List.set_cons_succ]
          clear hb
          refine wpAnyH_ready (rs := [8]) (by kernel_rfl) (by simp) ?_
          refine AllReadyH.cons rfl (fun K hK => ?_) AllReadyH.nil
          · rw [if_pos (by rfl)]
            refine wp_allocZ 69 rfl _ zeroSc ?_
            obtain ⟨v3p, hW⟩ : ∃ w', World.alloc v2d (.cells #[.slice none 0 0, .int .u64 0, .int .i64 0, .bool false, .int .i64 0, .int .i64 0] 69) = w' := ⟨_, rfl⟩
            rw [show ScC (.slice none 0 0) zSc = #[.slice none 0 0, .int .u64 0, .int .i64 0, .bool false, .int .i64 0, .int .i64 0] from rfl, hW]
            have hb : Below v2d.heap.size v2d v3p := hW ▸ below_alloc (Below.refl _ _) _
            have N8 : v3p.heap[v2d.heap.size]? = some (.cells #[.slice none 0 0, .int .u64 0, .int .i64 0, .bool false, .int .i64 0, .int .i64 0] 69 (0, 0)) := hW ▸ blk_new v2d _
            have L8 : w.heap.size ≤ v2d.heap.size := hHeld.size
            have NE : v2d.heap.size ≠ v0c.heap.size := by have := blk_lt N9; omega
            clear hW
            have N9 := blk_below N9 hb
            have O1 := OwnW.below O1 hb
            have O2 := OwnW.below O2 hb
            have hI : Below w.heap.size w v3p := below_step' hHeld hb
            refine hK.out _ _ hI (fun hHeld => ?_)
            clear hK K hI
            try simp only [List.getElem_toArray, List.getElem_cons_succ, List.getElem_cons_zero, Act.put, List.setIfInBounds_toArray, List.set_cons_zero, List.set_cons_succ]
            clear hb
            have hu5 := upd_row N8 #[.slice A1 ws1.length c1, .int .u64 q1, .int .i64 en1, .bool sl1, .int .i64 at1, .int .i64 er1]
            have hI5 := hu5.to L8 hHeld
            have N95 := (hu5.off v0c.heap.size (Ne.symm NE)).trans N9
            have O15 := OwnW.step O1 N8 (fun k _ hne => hu5.off k hne)
            have O25 := OwnW.step O2 N8 (fun k _ hne => hu5.off k hne)
            have hu6 := upd_row N95 #[.slice A2 ws2.length c2, .int .u64 q2, .int .i64 en2, .bool sl2, .int .i64 at2, .int .i64 er2]
            have hI6 := hu6.to L9 hI5
            have O16 := OwnW.step O15 N95 (fun k _ hne => hu6.off k hne)
            have O26 := OwnW.step O25 N95 (fun k _ hne => hu6.off k hne)
            have F7 := (hu6.off v2d.heap.size NE).trans hu5.at_
            have F8 := hu6.at_
            refine wpAnyH_ready (rs := [10]) (by kernel_rfl) (by simp) ?_
            refine AllReadyH.cons rfl (fun K hK => ?_) AllReadyH.nil
            rw [if_pos (by rfl)]
            refine wp_store_row 69 _ _ rfl v2d.heap.size #[.slice A1 ws1.length c1, .int .u64 q1, .int .i64 en1, .bool sl1, .int .i64 at1, .int .i64 er1] rfl rfl 69 _ N8 infoSc rfl (scC_one' _ _ _ _ _ _ rfl) ?_
            refine hK.out _ _ hI5 (fun hHeld => ?_)
            clear hK K
            try simp only [List.getElem_toArray, List.getElem_cons_succ, List.getElem_cons_zero, Act.put, List.setIfInBounds_toArray, List.set_cons_zero, List.set_cons_succ]
            refine wpAnyH_ready (rs := [11]) (by kernel_rfl) (by simp) ?_
            refine AllReadyH.cons rfl (fun K hK => ?_) AllReadyH.nil
            rw [if_pos (by rfl)]
            refine wp_store_row 69 _ _ rfl v0c.heap.size #[.slice A2 ws2.length c2, .int .u64 q2, .int .i64 en2, .bool sl2, .int .i64 at2, .int .i64 er2] rfl rfl 69 _ N95 infoSc rfl (scC_one' _ _ _ _ _ _ rfl) ?_
            refine hK.out _ _ hI6 (fun hHeld => ?_)
            clear hK K
            try simp only [List.getElem_toArray, List.getElem_cons_succ, List.getElem_cons_zero, Act.put, List.setIfInBounds_toArray, List.set_cons_zero, List.set_cons_succ]
            refine wpAnyH_done (by kernel_rfl) ?_ _
            go_wp2_with fail
            go_meet
            exact ⟨_, _, A1, c1, A2, c2, rfl, rfl, F7, F8, O16, O26, hI6⟩
        · rw [if_pos (by rfl)]
          refine wp_allocZ 69 rfl _ zeroSc ?_
          obtain ⟨v2p, hW⟩ : ∃ w', World.alloc v1r (.cells #[.slice none 0 0, .int .u64 0, .int .i64 0, .bool false, .int .i64 0, .int .i64 0] 69) = w' := ⟨_, rfl⟩
          rw [show ScC (.slice none 0 0) zSc = #[.slice none 0 0, .int .u64 0, .int .i64 0, .bool false, .int .i64 0, .int .i64 0] from rfl, hW]
          have hb : Below v1r.heap.size v1r v2p := hW ▸ below_alloc (Below.refl _ _) _
          have N8 : v2p.heap[v1r.heap.size]? = some (.cells #[.slice none 0 0, .int .u64 0, .int .i64 0, .bool false, .int .i64 0, .int .i64 0] 69 (0, 0)) := hW ▸ blk_new v1r _
          have L8 : w.heap.size ≤ v1r.heap.size := hHeld.size
          have NE : v1r.heap.size ≠ v0c.heap.size := by have := blk_lt N9; omega
          clear hW
          have N9 := blk_below N9 hb
          have O1 := OwnW.below O1 hb
          have hI : Below w.heap.size w v2p := below_step' hHeld hb
          refine hK.out _ _ hI (fun hHeld => ?_)
          clear hK K hI
          try simp only [List.getElem_toArray, List.getElem_cons_succ, List.getElem_cons_zero, Act.put, List.setIfInBounds_toArray, List.set_cons_zero, List.set_cons_succ]
          clear hb
          refine wpAnyH_ready (rs := [7]) (by kernel_rfl) (by simp) ?_
          refine AllReadyH.cons rfl (fun K hK => ?_) AllReadyH.nil
          · go_simp
            refine (HS2.out _ (HRD.out.below hHeld)).mono ?_
            rintro ee v3d ⟨A2, c2, rfl, ho, hb⟩
            have O2 := OwnW.lower (b' := w.heap.size) ho hHeld.size
            clear ho
            have N8 := blk_below N8 hb
            have N9 := blk_below N9 hb
            have O1 := OwnW.below O1 hb
            have hI : Below w.heap.size w v3d := below_step' hHeld hb
            refine hK.out _ _ hI (fun hHeld => ?_)
            clear hK K hI
            try simp only [List.getElem_toArray, List.getElem_cons_succ, List.getElem_cons_zero, Act.put, List.setIfInBounds_toArray, List.set_cons_zero, List.set_cons_succ]
            clear hb
            have hu5 := upd_row N8 #[.slice A1 ws1.length c1, .int .u64 q1, .int .i64 en1, .bool sl1, .int .i64 at1, .int .i64 er1]
            have hI5 := hu5.to L8 hHeld
            have N95 := (hu5.off v0c.heap.size (Ne.symm NE)).trans N9
            have O15 := OwnW.step O1 N8 (fun k _ hne => hu5.off k hne)
            have O25 := OwnW.step O2 N8 (fun k _ hne => hu5.off k hne)
            have hu6 := upd_row N95 #[.slice A2 ws2.length c2, .int .u64 q2, .int .i64 en2, .bool sl2, .int .i64 at2, .int .i64 er2]
            have hI6 := hu6.to L9 hI5
            have O16 := OwnW.step O15 N95 (fun k _ hne => hu6.off k hne)
            have O26 := OwnW.step O25 N95 (fun k _ hne => hu6.off k hne)
            have F7 := (hu6.off v1r.heap.size NE).trans hu5.at_
            have F8 := hu6.at_
            refine wpAnyH_ready (rs := [10]) (by kernel_rfl) (by simp) ?_
            refine AllReadyH.cons rfl (fun K hK => ?_) AllReadyH.nil
            rw [if_pos (by rfl)]
            refine wp_store_row 69 _ _ rfl v1r.heap.size #[.slice A1 ws1.length c1, .int .u64 q1, .int .i64 en1, .bool sl1, .int .i64 at1, .int .i64 er1] rfl rfl 69 _ N8 infoSc rfl (scC_one' _ _ _ _ _ _ rfl) ?_
            refine hK.out _ _ hI5 (fun hHeld => ?_)
            clear hK K
            try simp only [List.getElem_toArray, List.getElem_cons_succ, List.getElem_cons_zero, Act.put, List.setIfInBounds_toArray, List.set_cons_zero, List.set_cons_succ]
            refine wpAnyH_ready (rs := [11]) (by kernel_rfl) (by simp) ?_
            refine AllReadyH.cons rfl (fun K hK => ?_) AllReadyH.nil
            rw [if_pos (by rfl)]
            refine wp_store_row 69 _ _ rfl v0c.heap.size #[.slice A2 ws2.length c2, .int .u64 q2, .int .i64 en2, .bool sl2, .int .i64 at2, .int .i64 er2] rfl rfl 69 _ N95 infoSc rfl (scC_one' _ _ _ _ _ _ rfl) ?_
            refine hK.out _ _ hI6 (fun hHeld => ?_)
            clear hK K
            try simp only [List.getElem_toArray, List.getElem_cons_succ, List.getElem_cons_zero, Act.put, List.setIfInBounds_toArray, List.set_cons_zero, List.set_cons_succ]
            refine wpAnyH_done (by kernel_rfl) ?_ _
            go_wp2_with fail
            go_meet
            exact ⟨_, _, A1, c1, A2, c2, rfl, rfl, F7, F8, O16, O26, hI6⟩
    · rw [if_pos (by rfl)]
      refine wp_allocZ 69 rfl _ zeroSc ?_
      obtain ⟨v0p, hW⟩ : ∃ w', World.alloc w.drew (.cells #[.slice none 0 0, .int .u64 0, .int .i64 0, .bool false, .int .i64 0, .int .i64 0] 69) = w' := ⟨_, rfl⟩
      rw [show ScC (.slice none 0 0) zSc = #[.slice none 0 0, .int .u64 0, .int .i64 0, .bool false, .int .i64 0, .int .i64 0] from rfl, hW]
      have hb : Below w.drew.heap.size w.drew v0p := hW ▸ below_alloc (Below.refl _ _) _
      have N8 : v0p.heap[w.drew.heap.size]? = some (.cells #[.slice none 0 0, .int .u64 0, .int .i64 0, .bool false, .int .i64 0, .int .i64 0] 69 (0, 0)) := hW ▸ blk_new w.drew _
      have L8 : w.heap.size ≤ w.drew.heap.size := hHeld.size
      clear hW
      have hI : Below w.heap.size w v0p := below_step' hHeld hb
      refine hK.out _ _ hI (fun hHeld => ?_)
      clear hK K hI
      try simp only [List.getElem_toArray, List.getElem_cons_succ, List.getElem_cons_zero, Act.put, List.setIfInBounds_toArray, List.set_cons_zero, List.set_cons_succ]
      clear hb
      refine wpAnyH_ready (rs := [2, 9]) (by kernel_rfl) (by simp) ?_
      refine AllReadyH.cons rfl (fun K hK => ?_) (AllReadyH.cons rfl (fun K hK => ?_) AllReadyH.nil)
      · go_simp
        refine (HS1.out _ (HRD.out.below hHeld)).mono ?_
        rintro ee v1c ⟨A1, c1, rfl, ho, hb⟩
        have O1 := OwnW.lower (b' := w.heap.size) ho hHeld.size
        clear ho
        have N8 := blk_below N8 hb
        have hI : Below w.heap.size w v1c := below_step' hHeld hb
        refine hK.out _ _ hI (fun hHeld => ?_)
        clear hK K hI
        try simp only [List.getElem_toArray, List.getElem_cons_succ, List.getElem_cons_zero, Act.put, List.setIfInBounds_toArray, List.set_cons_zero, List.set_cons_succ]
        clear hb
        refine wpAnyH_ready (rs := [7, 9]) (by kernel_rfl) (by simp) ?_
        refine AllReadyH.cons rfl (fun K hK => ?_) (AllReadyH.cons rfl (fun K hK => ?_) AllReadyH.nil)
        · go_simp
          refine (HS2.out _ (HRD.out.below hHeld)).mono ?_
          rintro ee v2d ⟨A2, c2, rfl, ho, hb⟩
          have O2 := OwnW.lower (b' := w.heap.size) ho hHeld.size
          clear ho
          have N8 := blk_below N8 hb
          have O1 := OwnW.below O1 hb
          have hI : Below w.heap.size w v2d := below_step' hHeld hb
          refine hK.out _ _ hI (fun hHeld => ?_)
          clear hK K hI
          try simp only [List.getElem_toArray, List.getElem_cons_succ, List.getElem_cons_zero, Act.put, List.setIfInBounds_toArray, List.set_cons_zero, List.set_cons_succ]
          clear hb
          refine wpAnyH_ready (rs := [9]) (by kernel_rfl) (by simp) ?_
          refine AllReadyH.cons rfl (fun K hK => ?_) AllReadyH.nil
          · rw [if_pos (by rfl)]
            refine wp_allocZ 69 rfl _ zeroSc ?_
            obtain ⟨v3r, hW⟩ : ∃ w', World.alloc v2d (.cells #[.slice none 0 0, .int .u64 0, .int .i64 0, .bool false, .int .i64 0, .int .i64 0] 69) = w' := ⟨_, rfl⟩
            rw [show ScC (.slice none 0 0) zSc = #[.slice none 0 0, .int .u64 0, .int .i64 0, .bool false, .int .i64 0, .int .i64 0] from rfl, hW]
            have hb : Below v2d.heap.size v2d v3r := hW ▸ below_alloc (Below.refl _ _) _
            have N9 : v3r.heap[v2d.heap.size]? = some (.cells #[.slice none 0 0, .int .u64 0, .int .i64 0, .bool false, .int .i64 0, .int .i64 0] 69 (0, 0)) := hW ▸ blk_new v2d _
            have L9 : w.heap.size ≤ v2d.heap.size := hHeld.size
            have NE : w.drew.heap.size ≠ v2d.heap.size := by have := blk_lt N8; omega
            clear hW
            have N8 := blk_below N8 hb
            have O1 := OwnW.below O1 hb
            have O2 := OwnW.below O2 hb
            have hI : Below w.heap.size w v3r := below_step' hHeld hb
            refine hK.out _ _ hI (fun hHeld => ?_)
            clear hK K hI
            try simp only [List.getElem_toArray, List.getElem_cons_succ, List.getElem_cons_zero, Act.put, List.setIfInBounds_toArray, List.set_cons_zero, List.set_cons_succ]
            clear hb
            have hu5 := upd_row N8 #[.slice A1 ws1.length c1, .int .u64 q1, .int .i64 en1, .bool sl1, .int .i64 at1, .int .i64 er1]
            have hI5 := hu5.to L8 hHeld
            have N95 := (hu5.off v2d.heap.size (Ne.symm NE)).trans N9
            have O15 := OwnW.step O1 N8 (fun k _ hne => hu5.off k hne)
            have O25 := OwnW.step O2 N8 (fun k _ hne => hu5.off k hne)
            have hu6 := upd_row N95 #[.slice A2 ws2.length c2, .int .u64 q2, .int .i64 en2, .bool sl2, .int .i64 at2, .int .i64 er2]
            have hI6 := hu6.to L9 hI5
            have O16 := OwnW.step O15 N95 (fun k _ hne => hu6.off k hne)
            have O26 := OwnW.step O25 N95 (fun k _ hne => hu6.off k hne)
            have F7 := (hu6.off w.drew.heap.size NE).trans hu5.at_
            have F8 := hu6.at_
            refine wpAnyH_ready (rs := [10]) (by kernel_rfl) (by simp) ?_
            refine AllReadyH.cons rfl (fun K hK => ?_) AllReadyH.nil
            rw [if_pos (by rfl)]
            refine wp_store_row 69 _ _ rfl w.drew.heap.size #[.slice A1 ws1.length c1, .int .u64 q1, .int .i64 en1, .bool sl1, .int .i64 at1, .int .i64 er1] rfl rfl 69 _ N8 infoSc rfl (scC_one' _ _ _ _ _ _ rfl) ?_
            refine hK.out _ _ hI5 (fun hHeld => ?_)
            clear hK K
            try simp only [List.getElem_toArray, List.getElem_cons_succ, List.getElem_cons_zero, Act.put, List.setIfInBounds_toArray, List.set_cons_zero, List.set_cons_succ]
            refine wpAnyH_ready (rs := [11]) (by kernel_rfl) (by simp) ?_
            refine AllReadyH.cons rfl (fun K hK => ?_) AllReadyH.nil
            rw [if_pos (by rfl)]
            refine wp_store_row 69 _ _ rfl v2d.heap.size #[.slice A2 ws2.length c2, .int .u64 q2, .int .i64 en2, .bool sl2, .int .i64 at2, .int .i64 er2] rfl rfl 69 _ N95 infoSc rfl (scC_one' _ _ _ _ _ _ rfl) ?_
            refine hK.out _ _ hI6 (fun hHeld => ?_)
            clear hK K
            try simp only [List.getElem_toArray, List.getElem_cons_succ, List.getElem_cons_zero, Act.put, List.setIfInBounds_toArray, List.set_cons_zero, List.set_cons_succ]
            refine wpAnyH_done (by kernel_rfl) ?_ _
            go_wp2_with fail
            go_meet
            exact ⟨_, _, A1, c1, A2, c2, rfl, rfl, F7, F8, O16, O26, hI6⟩
        · rw [if_pos (by rfl)]
          refine wp_allocZ 69 rfl _ zeroSc ?_
          obtain ⟨v2r, hW⟩ : ∃ w', World.alloc v1c (.cells #[.slice none 0 0, .int .u64 0, .int .i64 0, .bool false, .int .i64 0, .int .i64 0] 69) = w' := ⟨_, rfl⟩
          rw [show ScC (.slice none 0 0) zSc = #[.slice none 0 0, .int .u64 0, .int .i64 0, .bool false, .int .i64 0, .int .i64 0] from rfl, hW]
          have hb : Below v1c.heap.size v1c v2r := hW ▸ below_alloc (Below.refl _ _) _
          have N9 : v2r.heap[v1c.heap.size]? = some (.cells #[.slice none 0 0, .int .u64 0, .int .i64 0, .bool false, .int .i64 0, .int .i64 0] 69 (0, 0)) := hW ▸ blk_new v1c _
          have L9 : w.heap.size ≤ v1c.heap.size := hHeld.size
          have NE : w.drew.heap.size ≠ v1c.heap.size := by have := blk_lt N8; omega
          clear hW
          have N8 := blk_below N8 hb
          have O1 := OwnW.below O1 hb
          have hI : Below w.heap.size w v2r := below_step' hHeld hb
          refine hK.out _ _ hI (fun hHeld => ?_)
          clear hK K hI
          try simp only [List.getElem_toArray, List.getElem_cons_succ, List.getElem_cons_zero, Act.put, List.setIfInBounds_toArray, List.set_cons_zero, List.set_cons_succ]
          clear hb
          refine wpAnyH_ready (rs := [7]) (by kernel_rfl) (by simp) ?_
          refine AllReadyH.cons rfl (fun K hK => ?_) AllReadyH.nil
          · go_simp
            refine (HS2.out _ (HRD.out.below hHeld)).mono ?_
            rintro ee v3d ⟨A2, c2, rfl, ho, hb⟩
            have O2 := OwnW.lower (b' := w.heap.size) ho hHeld.size
            clear ho
            have N8 := blk_below N8 hb
            have N9 := blk_below N9 hb
            have O1 := OwnW.below O1 hb
            have hI : Below w.heap.size w v3d := below_step' hHeld hb
            refine hK.out _ _ hI (fun hHeld => ?_)
            clear hK K hI
            try simp only [List.getElem_toArray, List.getElem_cons_succ, List.getElem_cons_zero, Act.put, List.setIfInBounds_toArray, List.set_cons_zero, List.set_cons_succ]
            clear hb
            have hu5 := upd_row N8 #[.slice A1 ws1.length c1, .int .u64 q1, .int .i64 en1, .bool sl1, .int .i64 at1, .int .i64 er1]
            have hI5 := hu5.to L8 hHeld
            have N95 := (hu5.off v1c.heap.size (Ne.symm NE)).trans N9
            have O15 := OwnW.step O1 N8 (fun k _ hne => hu5.off k hne)
            have O25 := OwnW.step O2 N8 (fun k _ hne => hu5.off k hne)
            have hu6 := upd_row N95 #[.slice A2 ws2.length c2, .int .u64 q2, .int .i64 en2, .bool sl2, .int .i64 at2, .int .i64 er2]
            have hI6 := hu6.to L9 hI5
            have O16 := OwnW.step O15 N95 (fun k _ hne => hu6.off k hne)
            have O26 := OwnW.step O25 N95 (fun k _ hne => hu6.off k hne)
            have F7 := (hu6.off w.drew.heap.size NE).trans hu5.at_
            have F8 := hu6.at_
            refine wpAnyH_ready (rs := [10]) (by kernel_rfl) (by simp) ?_
            refine AllReadyH.cons rfl (fun K hK => ?_) AllReadyH.nil
            rw [if_pos (by rfl)]
            refine wp_store_row 69 _ _ rfl w.drew.heap.size #[.slice A1 ws1.length c1, .int .u64 q1, .int .i64 en1, .bool sl1, .int .i64 at1, .int .i64 er1] rfl rfl 69 _ N8 infoSc rfl (scC_one' _ _ _ _ _ _ rfl) ?_
            refine hK.out _ _ hI5 (fun hHeld => ?_)
            clear hK K
            try simp only [List.getElem_toArray, List.getElem_cons_succ, List.getElem_cons_zero, Act.put, List.setIfInBounds_toArray, List.set_cons_zero, List.set_cons_succ]
            refine wpAnyH_ready (rs := [11]) (by kernel_rfl) (by simp) ?_
            refine AllReadyH.cons rfl (fun K hK => ?_) AllReadyH.nil
            rw [if_pos (by rfl)]
            refine wp_store_row 69 _ _ rfl v1c.heap.size #[.slice A2 ws2.length c2, .int .u64 q2, .int .i64 en2, .bool sl2, .int .i64 at2, .int .i64 er2] rfl rfl 69 _ N95 infoSc rfl (scC_one' _ _ _ _ _ _ rfl) ?_
            refine hK.out _ _ hI6 (fun hHeld => ?_)
            clear hK K
            try simp only [List.getElem_toArray, List.getElem_cons_succ, List.getElem_cons_zero, Act.put, List.setIfInBounds_toArray, List.set_cons_zero, List.set_cons_succ]
            refine wpAnyH_done (by kernel_rfl) ?_ _
            go_wp2_with fail
            go_meet
            exact ⟨_, _, A1, c1, A2, c2, rfl, rfl, F7, F8, O16, O26, hI6⟩
      · rw [if_pos (by rfl)]
        refine wp_allocZ 69 rfl _ zeroSc ?_
        obtain ⟨v1r, hW⟩ : ∃ w', World.alloc v0p (.cells #[.slice none 0 0, .int .u64 0, .int .i64 0, .bool false, .int .i64 0, .int .i64 0] 69) = w' := ⟨_, rfl⟩
        rw [show ScC (.slice none 0 0) zSc = #[.slice none 0 0, .int .u64 0, .int .i64 0, .bool false, .int .i64 0, .int .i64 0] from rfl, hW]
        have hb : Below v0p.heap.size v0p v1r := hW ▸ below_alloc (Below.refl _ _) _
        have N9 : v1r.heap[v0p.heap.size]? = some (.cells #[.slice none 0 0, .int .u64 0, .int .i64 0, .bool false, .int .i64 0, .int .i64 0] 69 (0, 0)) := hW ▸ blk_new v0p _
        have L9 : w.heap.size ≤ v0p.heap.size := hHeld.size
        have NE : w.drew.heap.size ≠ v0p.heap.size := by have := blk_lt N8; omega
        clear hW
        have N8 := blk_below N8 hb
        have hI : Below w.heap.size w v1r := below_step' hHeld hb
        refine hK.out _ _ hI (fun hHeld => ?_)
        clear hK K hI
        try simp only [List.getElem_toArray, List.getElem_cons_succ, List.getElem_cons_zero, Act.put, List.setIfInBounds_toArray, List.set_cons_zero, List.set_cons_succ]
        clear hb
        refine wpAnyH_ready (rs := [2]) (by kernel_rfl) (by simp) ?_
        refine AllReadyH.cons rfl (fun K hK => ?_) AllReadyH.nil
        · go_simp
          refine (HS1.out _ (HRD.out.below hHeld)).mono ?_
          rintro ee v2c ⟨A1, c1, rfl, ho, hb⟩
          have O1 := OwnW.lower (b' := w.heap.size) ho hHeld.size
          clear ho
          have N8 := blk_below N8 hb
          have N9 := blk_below N9 hb
          have hI : Below w.heap.size w v2c := below_step' hHeld hb
          refine hK.out _ _ hI (fun hHeld => ?_)
          clear hK K hI
          try simp only [List.getElem_toArray, List.getElem_cons_succ, List.getElem_cons_zero, Act.put, List.setIfInBounds_toArray, List.set_cons_zero, List.set_cons_succ]
          clear hb
          refine wpAnyH_ready (rs := [7]) (by kernel_rfl) (by simp) ?_
          refine AllReadyH.cons rfl (fun K hK => ?_) AllReadyH.nil
          · go_simp
            refine (HS2.out _ (HRD.out.below hHeld)).mono ?_
            rintro ee v3d ⟨A2, c2, rfl, ho, hb⟩
            have O2 := OwnW.lower (b' := w.heap.size) ho hHeld.size
            clear ho
            have N8 := blk_below N8 hb
            have N9 := blk_below N9 hb
            have O1 := OwnW.below O1 hb
            have hI : Below w.heap.size w v3d := below_step' hHeld hb
            refine hK.out _ _ hI (fun hHeld => ?_)
            clear hK K hI
            try simp only [List.getElem_toArray, List.getElem_cons_succ, List.getElem_cons_zero, Act.put, List.setIfInBounds_toArray, List.set_cons_zero, List.set_cons_succ]
            clear hb
            have hu5 := upd_row N8 #[.slice A1 ws1.length c1, .int .u64 q1, .int .i64 en1, .bool sl1, .int .i64 at1, .int .i64 er1]
            have hI5 := hu5.to L8 hHeld
            have N95 := (hu5.off v0p.heap.size (Ne.symm NE)).trans N9
            have O15 := OwnW.step O1 N8 (fun k _ hne => hu5.off k hne)
            have O25 := OwnW.step O2 N8 (fun k _ hne => hu5.off k hne)
            have hu6 := upd_row N95 #[.slice A2 ws2.length c2, .int .u64 q2, .int .i64 en2, .bool sl2, .int .i64 at2, .int .i64 er2]
            have hI6 := hu6.to L9 hI5
            have O16 := OwnW.step O15 N95 (fun k _ hne => hu6.off k hne)
            have O26 := OwnW.step O25 N95 (fun k _ hne => hu6.off k hne)
            have F7 := (hu6.off w.drew.heap.size NE).trans hu5.at_
            have F8 := hu6.at_
            refine wpAnyH_ready (rs := [10]) (by kernel_rfl) (by simp) ?_
            refine AllReadyH.cons rfl (fun K hK => ?_) AllReadyH.nil
            rw [if_pos (by rfl)]
            refine wp_store_row 69 _ _ rfl w.drew.heap.size #[.slice A1 ws1.length c1, .int .u64 q1, .int .i64 en1, .bool sl1, .int .i64 at1, .int .i64 er1] rfl rfl 69 _ N8 infoSc rfl (scC_one' _ _ _ _ _ _ rfl) ?_
            refine hK.out _ _ hI5 (fun hHeld => ?_)
            clear hK K
            try simp only [List.getElem_toArray, List.getElem_cons_succ, List.getElem_cons_zero, Act.put, List.setIfInBounds_toArray, List.set_cons_zero, List.set_cons_succ]
            refine wpAnyH_ready (rs := [11]) (by kernel_rfl) (by simp) ?_
            refine AllReadyH.cons rfl (fun K hK => ?_) AllReadyH.nil
            rw [if_pos (by rfl)]
            refine wp_store_row 69 _ _ rfl v0p.heap.size #[.slice A2 ws2.length c2, .int .u64 q2, .int .i64 en2, .bool sl2, .int .i64 at2, .int .i64 er2] rfl rfl 69 _ N95 infoSc rfl (scC_one' _ _ _ _ _ _ rfl) ?_
            refine hK.out _ _ hI6 (fun hHeld => ?_)
            clear hK K
            try simp only [List.getElem_toArray, List.getElem_cons_succ, List.getElem_cons_zero, Act.put, List.setIfInBounds_toArray, List.set_cons_zero, List.set_cons_succ]
            refine wpAnyH_done (by kernel_rfl) ?_ _
            go_wp2_with fail
            go_meet
            exact ⟨_, _, A1, c1, A2, c2, rfl, rfl, F7, F8, O16, O26, hI6⟩
    · rw [if_pos (by rfl)]
      refine wp_allocZ 69 rfl _ zeroSc ?_
      obtain ⟨v0r, hW⟩ : ∃ w', World.alloc w.drew (.cells #[.slice none 0 0, .int .u64 0, .int .i64 0, .bool false, .int .i64 0, .int .i64 0] 69) = w' := ⟨_, rfl⟩
      rw [show ScC (.slice none 0 0) zSc = #[.slice none 0 0, .int .u64 0, .int .i64 0, .bool false, .int .i64 0, .int .i64 0] from rfl, hW]
      have hb : Below w.drew.heap.size w.drew v0r := hW ▸ below_alloc (Below.refl _ _) _
      have N9 : v0r.heap[w.drew.heap.size]? = some (.cells #[.slice none 0 0, .int .u64 0, .int .i64 0, .bool false, .int .i64 0, .int .i64 0] 69 (0, 0)) := hW ▸ blk_new w.drew _
      have L9 : w.heap.size ≤ w.drew.heap.size := hHeld.size
      clear hW
      have hI : Below w.heap.size w v0r := below_step' hHeld hb
      refine hK.out _ _ hI (fun hHeld => ?_)
      clear hK K hI
      try simp only [List.getElem_toArray, List.getElem_cons_succ, List.getElem_cons_zero, Act.put, List.setIfInBounds_toArray, List.set_cons_zero, List.set_cons_succ]
      clear hb
      refine wpAnyH_ready (rs := [2, 8]) (by kernel_rfl) (by simp) ?_
      refine AllReadyH.cons rfl (fun K hK => ?_) (AllReadyH.cons rfl (fun K hK => ?_) AllReadyH.nil)
      · go_simp
        refine (HS1.out _ (HRD.out.below hHeld)).mono ?_
        rintro ee v1c ⟨A1, c1, rfl, ho, hb⟩
        have O1 := OwnW.lower (b' := w.heap.size) ho hHeld.size
        clear ho
        have N9 := blk_below N9 hb
        have hI : Below w.heap.size w v1c := below_step' hHeld hb
        refine hK.out _ _ hI (fun hHeld => ?_)
        clear hK K hI
        try simp only [List.getElem_toArray, List.getElem_cons_succ, List.getElem_cons_zero, Act.put, List.setIfInBounds_toArray, List.set_cons_zero, List.set_cons_succ]
        clear hb
        refine wpAnyH_ready (rs := [7, 8]) (by kernel_rfl) (by simp) ?_
        refine AllReadyH.cons rfl (fun K hK => ?_) (AllReadyH.cons rfl (fun K hK => ?_) AllReadyH.nil)
        · go_simp
          refine (HS2.out _ (HRD.out.below hHeld)).mono ?_
          rintro ee v2d ⟨A2, c2, rfl, ho, hb⟩
          have O2 := OwnW.lower (b' := w.heap.size) ho hHeld.size
          clear ho
          have N9 := blk_below N9 hb
          have O1 := OwnW.below O1 hb
          have hI : Below w.heap.size w v2d := below_step' hHeld hb
          refine hK.out _ _ hI (fun hHeld => ?_)
          clear hK K hI
          try simp only [List.getElem_toArray, List.getElem_cons_succ, List.getElem_cons_zero, Act.put, List.setIfInBounds_toArray, List.set_cons_zero, List.set_cons_succ]
          clear hb
          refine wpAnyH_ready (rs := [8]) (by kernel_rfl) (by simp) ?_
          refine AllReadyH.cons rfl (fun K hK => ?_) AllReadyH.nil
          · rw [if_pos (by rfl)]
            refine wp_allocZ 69 rfl _ zeroSc ?_
            obtain ⟨v3p, hW⟩ : ∃ w', World.alloc v2d (.cells #[.slice none 0 0, .int .u64 0, .int .i64 0, .bool false, .int .i64 0, .int .i64 0] 69) = w' := ⟨_, rfl⟩
            rw [show ScC (.slice none 0 0) zSc = #[.slice none 0 0, .int .u64 0, .int .i64 0, .bool false, .int .i64 0, .int .i64 0] from rfl, hW]
            have hb : Below v2d.heap.size v2d v3p := hW ▸ below_alloc (Below.refl _ _) _
            have N8 : v3p.heap[v2d.heap.size]? = some (.cells #[.slice none 0 0, .int .u64 0, .int .i64 0, .bool false, .int .i64 0, .int .i64 0] 69 (0, 0)) := hW ▸ blk_new v2d _
            have L8 : w.heap.size ≤ v2d.heap.size := hHeld.size
            have NE : v2d.heap.size ≠ w.drew.heap.size := by have := blk_lt N9; omega
            clear hW
            have N9 := blk_below N9 hb
            have O1 := OwnW.below O1 hb
            have O2 := OwnW.below O2 hb
            have hI : Below w.heap.size w v3p := below_step' hHeld hb
            refine hK.out _ _ hI (fun hHeld => ?_)
            clear hK K hI
            try simp only [List.getElem_toArray, List.getElem_cons_succ, List.getElem_cons_zero, Act.put, List.setIfInBounds_toArray, List.set_cons_zero, List.set_cons_succ]
            clear hb
            have hu5 := upd_row N8 #[.slice A1 ws1.length c1, .int .u64 q1, .int .i64 en1, .bool sl1, .int .i64 at1, .int .i64 er1]
            have hI5 := hu5.to L8 hHeld
            have N95 := (hu5.off w.drew.heap.size (Ne.symm NE)).trans N9
            have O15 := OwnW.step O1 N8 (fun k _ hne => hu5.off k hne)
            have O25 := OwnW.step O2 N8 (fun k _ hne => hu5.off k hne)
            have hu6 := upd_row N95 #[.slice A2 ws2.length c2, .int .u64 q2, .int .i64 en2, .bool sl2, .int .i64 at2, .int .i64 er2]
            have hI6 := hu6.to L9 hI5
            have O16 := OwnW.step O15 N95 (fun k _ hne => hu6.off k hne)
            have O26 := OwnW.step O25 N95 (fun k _ hne => hu6.off k hne)
            have F7 := (hu6.off v2d.heap.size NE).trans hu5.at_
            have F8 := hu6.at_
            refine wpAnyH_ready (rs := [10]) (by kernel_rfl) (by simp) ?_
            refine AllReadyH.cons rfl (fun K hK => ?_) AllReadyH.nil
            rw [if_pos (by rfl)]
            refine wp_store_row 69 _ _ rfl v2d.heap.size #[.slice A1 ws1.length c1, .int .u64 q1, .int .i64 en1, .bool sl1, .int .i64 at1, .int .i64 er1] rfl rfl 69 _ N8 infoSc rfl (scC_one' _ _ _ _ _ _ rfl) ?_
            refine hK.out _ _ hI5 (fun hHeld => ?_)
            clear hK K
            try simp only [List.getElem_toArray, List.getElem_cons_succ, List.getElem_cons_zero, Act.put, List.setIfInBounds_toArray, List.set_cons_zero, List.set_cons_succ]
            refine wpAnyH_ready (rs := [11]) (by kernel_rfl) (by simp) ?_
            refine AllReadyH.cons rfl (fun K hK => ?_) AllReadyH.nil
            rw [if_pos (by rfl)]
            refine wp_store_row 69 _ _ rfl w.drew.heap.size #[.slice A2 ws2.length c2, .int .u64 q2, .int .i64 en2, .bool sl2, .int .i64 at2, .int .i64 er2] rfl rfl 69 _ N95 infoSc rfl (scC_one' _ _ _ _ _ _ rfl) ?_
            refine hK.out _ _ hI6 (fun hHeld => ?_)
            clear hK K
            try simp only [List.getElem_toArray, List.getElem_cons_succ, List.getElem_cons_zero, Act.put, List.setIfInBounds_toArray, List.set_cons_zero, List.set_cons_succ]
            refine wpAnyH_done (by kernel_rfl) ?_ _
            go_wp2_with fail
            go_meet
            exact ⟨_, _, A1, c1, A2, c2, rfl, rfl, F7, F8, O16, O26, hI6⟩
        · rw [if_pos (by rfl)]
          refine wp_allocZ 69 rfl _ zeroSc ?_
          obtain ⟨v2p, hW⟩ : ∃ w', World.alloc v1c (.cells #[.slice none 0 0, .int .u64 0, .int .i64 0, .bool false, .int .i64 0, .int .i64 0] 69) = w' := ⟨_, rfl⟩
          rw [show ScC (.slice none 0 0) zSc = #[.slice none 0 0, .int .u64 0, .int .i64 0, .bool false, .int .i64 0, .int .i64 0] from rfl, hW]
          have hb : Below v1c.heap.size v1c v2p := hW ▸ below_alloc (Below.refl _ _) _
          have N8 : v2p.heap[v1c.heap.size]? = some (.cells #[.slice none 0 0, .int .u64 0, .int .i64 0, .bool false, .int .i64 0, .int .i64 0] 69 (0, 0)) := hW ▸ blk_new v1c _
          have L8 : w.heap.size ≤ v1c.heap.size := hHeld.size
          have NE : v1c.heap.size ≠ w.drew.heap.size := by have := blk_lt N9; omega
          clear hW
          have N9 := blk_below N9 hb
          have O1 := OwnW.below O1 hb
          have hI : Below w.heap.size w v2p := below_step' hHeld hb
          refine hK.out _ _ hI (fun hHeld => ?_)
          clear hK K hI
          try simp only [List.getElem_toArray, List.getElem_cons_succ, List.getElem_cons_zero, Act.put, List.setIfInBounds_toArray, List.set_cons_zero, List.set_cons_succ]
          clear hb
          refine wpAnyH_ready (rs := [7]) (by kernel_rfl) (by simp) ?_
          refine AllReadyH.cons rfl (fun K hK => ?_) AllReadyH.nil
          · go_simp
            refine (HS2.out _ (HRD.out.below hHeld)).mono ?_
            rintro ee v3d ⟨A2, c2, rfl, ho, hb⟩
            have O2 := OwnW.lower (b' := w.heap.size) ho hHeld.size
            clear ho
            have N8 := blk_below N8 hb
            have N9 := blk_below N9 hb
            have O1 := OwnW.below O1 hb
            have hI : Below w.heap.size w v3d := below_step' hHeld hb
            refine hK.out _ _ hI (fun hHeld => ?_)
            clear hK K hI
            try simp only [List.getElem_toArray, List.getElem_cons_succ, List.getElem_cons_zero, Act.put, List.setIfInBounds_toArray, List.set_cons_zero, List.set_cons_succ]
            clear hb
            have hu5 := upd_row N8 #[.slice A1 ws1.length c1, .int .u64 q1, .int .i64 en1, .bool sl1, .int .i64 at1, .int .i64 er1]
            have hI5 := hu5.to L8 hHeld
            have N95 := (hu5.off w.drew.heap.size (Ne.symm NE)).trans N9
            have O15 := OwnW.step O1 N8 (fun k _ hne => hu5.off k hne)
            have O25 := OwnW.step O2 N8 (fun k _ hne => hu5.off k hne)
            have hu6 := upd_row N95 #[.slice A2 ws2.length c2, .int .u64 q2, .int .i64 en2, .bool sl2, .int .i64 at2, .int .i64 er2]
            have hI6 := hu6.to L9 hI5
            have O16 := OwnW.step O15 N95 (fun k _ hne => hu6.off k hne)
            have O26 := OwnW.step O25 N95 (fun k _ hne => hu6.off k hne)
            have F7 := (hu6.off v1c.heap.size NE).trans hu5.at_
            have F8 := hu6.at_
            refine wpAnyH_ready (rs := [10]) (by kernel_rfl) (by simp) ?_
            refine AllReadyH.cons rfl (fun K hK => ?_) AllReadyH.nil
            rw [if_pos (by rfl)]
            refine wp_store_row 69 _ _ rfl v1c.heap.size #[.slice A1 ws1.length c1, .int .u64 q1, .int .i64 en1, .bool sl1, .int .i64 at1, .int .i64 er1] rfl rfl 69 _ N8 infoSc rfl (scC_one' _ _ _ _ _ _ rfl) ?_
            refine hK.out _ _ hI5 (fun hHeld => ?_)
            clear hK K
            try simp only [List.getElem_toArray, List.getElem_cons_succ, List.getElem_cons_zero, Act.put, List.setIfInBounds_toArray, List.set_cons_zero, List.set_cons_succ]
            refine wpAnyH_ready (rs := [11]) (by kernel_rfl) (by simp) ?_
            refine AllReadyH.cons rfl (fun K hK => ?_) AllReadyH.nil
            rw [if_pos (by rfl)]
            refine wp_store_row 69 _ _ rfl w.drew.heap.size #[.slice A2 ws2.length c2, .int .u64 q2, .int .i64 en2, .bool sl2, .int .i64 at2, .int .i64 er2] rfl rfl 69 _ N95 infoSc rfl (scC_one' _ _ _ _ _ _ rfl) ?_
            refine hK.out _ _ hI6 (fun hHeld => ?_)
            clear hK K
            try simp only [List.getElem_toArray, List.getElem_cons_succ, List.getElem_cons_zero, Act.put, List.setIfInBounds_toArray, List.set_cons_zero, List.set_cons_succ]
            refine wpAnyH_done (by kernel_rfl) ?_ _
            go_wp2_with fail
            go_meet
            exact ⟨_, _, A1, c1, A2, c2, rfl, rfl, F7, F8, O16, O26, hI6⟩
      · rw [if_pos (by rfl)]
        refine wp_allocZ 69 rfl _ zeroSc ?_
        obtain ⟨v1p, hW⟩ : ∃ w', World.alloc v0r (.cells #[.slice none 0 0, .int .u64 0, .int .i64 0, .bool false, .int .i64 0, .int .i64 0] 69) = w' := ⟨_, rfl⟩
        rw [show ScC (.slice none 0 0) zSc = #[.slice none 0 0, .int .u64 0, .int .i64 0, .bool false, .int .i64 0, .int .i64 0] from rfl, hW]
        have hb : Below v0r.heap.size v0r v1p := hW ▸ below_alloc (Below.refl _ _) _
        have N8 : v1p.heap[v0r.heap.size]? = some (.cells #[.slice none 0 0, .int .u64 0, .int .i64 0, .bool false, .int .i64 0, .int .i64 0] 69 (0, 0)) := hW ▸ blk_new v0r _
        have L8 : w.heap.size ≤ v0r.heap.size := hHeld.size
        have NE : v0r.heap.size ≠ w.drew.heap.size := by have := blk_lt N9; omega
        clear hW
        have N9 := blk_below N9 hb
        have hI : Below w.heap.size w v1p := below_step' hHeld hb
        refine hK.out _ _ hI (fun hHeld => ?_)
        clear hK K hI
        try simp only [List.getElem_toArray, List.getElem_cons_succ, List.getElem_cons_zero, Act.put, List.setIfInBounds_toArray, List.set_cons_zero, List.set_cons_succ]
        clear hb
        refine wpAnyH_ready (rs := [2]) (by kernel_rfl) (by simp) ?_
        refine AllReadyH.cons rfl (fun K hK => ?_) AllReadyH.nil
        · go_simp
          refine (HS1.out _ (HRD.out.below hHeld)).mono ?_
          rintro ee v2c ⟨A1, c1, rfl, ho, hb⟩
          have O1 := OwnW.lower (b' := w.heap.size) ho hHeld.size
          clear ho
          have N8 := blk_below N8 hb
          have N9 := blk_below N9 hb
          have hI : Below w.heap.size w v2c := below_step' hHeld hb
          refine hK.out _ _ hI (fun hHeld => ?_)
          clear hK K hI
          try simp only [List.getElem_toArray, List.getElem_cons_succ, List.getElem_cons_zero, Act.put, List.setIfInBounds_toArray, List.set_cons_zero, List.set_cons_succ]
          clear hb
          refine wpAnyH_ready (rs := [7]) (by kernel_rfl) (by simp) ?_
          refine AllReadyH.cons rfl (fun K hK => ?_) AllReadyH.nil
          · go_simp
            refine (HS2.out _ (HRD.out.below hHeld)).mono ?_
            rintro ee v3d ⟨A2, c2, rfl, ho, hb⟩
            have O2 := OwnW.lower (b' := w.heap.size) ho hHeld.size
            clear ho
            have N8 := blk_below N8 hb
            have N9 := blk_below N9 hb
            have O1 := OwnW.below O1 hb
            have hI : Below w.heap.size w v3d := below_step' hHeld hb
            refine hK.out _ _ hI (fun hHeld => ?_)
            clear hK K hI
            try simp only [List.getElem_toArray, List.getElem_cons_succ, List.getElem_cons_zero, Act.put, List.setIfInBounds_toArray, List.set_cons_zero, List.set_cons_succ]
            clear hb
            have hu5 := upd_row N8 #[.slice A1 ws1.length c1, .int .u64 q1, .int .i64 en1, .bool sl1, .int .i64 at1, .int .i64 er1]
            have hI5 := hu5.to L8 hHeld
            have N95 := (hu5.off w.drew.heap.size (Ne.symm NE)).trans N9
            have O15 := OwnW.step O1 N8 (fun k _ hne => hu5.off k hne)
            have O25 := OwnW.step O2 N8 (fun k _ hne => hu5.off k hne)
            have hu6 := upd_row N95 #[.slice A2 ws2.length c2, .int .u64 q2, .int .i64 en2, .bool sl2, .int .i64 at2, .int .i64 er2]
            have hI6 := hu6.to L9 hI5
            have O16 := OwnW.step O15 N95 (fun k _ hne => hu6.off k hne)
            have O26 := OwnW.step O25 N95 (fun k _ hne => hu6.off k hne)
            have F7 := (hu6.off v0r.heap.size NE).trans hu5.at_
            have F8 := hu6.at_
            refine wpAnyH_ready (rs := [10]) (by kernel_rfl) (by simp) ?_
            refine AllReadyH.cons rfl (fun K hK => ?_) AllReadyH.nil
            rw [if_pos (by rfl)]
            refine wp_store_row 69 _ _ rfl v0r.heap.size #[.slice A1 ws1.length c1, .int .u64 q1, .int .i64 en1, .bool sl1, .int .i64 at1, .int .i64 er1] rfl rfl 69 _ N8 infoSc rfl (scC_one' _ _ _ _ _ _ rfl) ?_
            refine hK.out _ _ hI5 (fun hHeld => ?_)
            clear hK K
            try simp only [List.getElem_toArray, List.getElem_cons_succ, List.getElem_cons_zero, Act.put, List.setIfInBounds_toArray, List.set_cons_zero, List.set_cons_succ]
            refine wpAnyH_ready (rs := [11]) (by kernel_rfl) (by simp) ?_
            refine AllReadyH.cons rfl (fun K hK => ?_) AllReadyH.nil
            rw [if_pos (by rfl)]
            refine wp_store_row 69 _ _ rfl w.drew.heap.size #[.slice A2 ws2.length c2, .int .u64 q2, .int .i64 en2, .bool sl2, .int .i64 at2, .int .i64 er2] rfl rfl 69 _ N95 infoSc rfl (scC_one' _ _ _ _ _ _ rfl) ?_
            refine hK.out _ _ hI6 (fun hHeld => ?_)
            clear hK K
            try simp only [List.getElem_toArray, List.getElem_cons_succ, List.getElem_cons_zero, Act.put, List.setIfInBounds_toArray, List.set_cons_zero, List.set_cons_succ]
            refine wpAnyH_done (by kernel_rfl) ?_ _
            go_wp2_with fail
            go_meet
            exact ⟨_, _, A1, c1, A2, c2, rfl, rfl, F7, F8, O16, O26, hI6⟩
  case rest =>
    obtain ⟨a7, a8, A1, c1, A2, c2, rfl, rfl, F7, F8, O1, O2, hB⟩ := hcut
    have HF7 := Lib.hid F7
    have HF8 := Lib.hid F8
    have HB := Lib.hid hB
    obtain ⟨hr1, hc1⟩ := OwnW.rd O1
    obtain ⟨hr2, hc2⟩ := OwnW.rd O2
    have HR1 := Lib.hid (show RdW wc A1 ws2 from by have h := Kd.C_take (k := kW) (m := ws2.length) hr1 hpl; rwa [HPT.out] at h)
    have HR2 := Lib.hid hr2
    have hcw := fun W => cutW (A := A1) (c := c1) ws2.length hpl hc1 W
    have HWD := Lib.hid (fun (W : World) (h1 : RdW W A2 ws2) (h2 : RdW W A1 ws2) => words_yes A2 A1 c2 c1 ws2 W h1 h2 (by omega))
    clear F7 F8 O1 O2 hB hr1 hr2
    go_wp2_with fail
    have hx0 : Below wc.heap.size wc wc.drew := below_drew (Below.refl _ _)
    refine wp_region_held_drew (S := fun W => Below wc.heap.size wc W) (by kernel_rfl) hx0 (fun hHeld => ?_)
    refine wpAnyH_take (i := 0) (v := _) rfl (by kernel_rfl) (by kernel_rfl) (by kernel_rfl) (fun _ _ _ h => h) (Or.inl ⟨by kernel_rfl, fun w _ => by go_simp <;> with_reducible rfl⟩) hHeld ?_
    simp only [List.getElem_toArray, List.getElem_cons_succ, List.getElem_cons_zero, Act.put, List.setIfInBounds_toArray, List.set_cons_zero, List.set_cons_succ]
    refine wpAnyH_take (i := 1) (v := .int .i64 en1) rfl (by kernel_rfl) (by kernel_rfl) (by kernel_rfl) (fun _ _ _ h => h) (Or.inl ⟨by kernel_rfl, fun W h => by have q0 := blk_cell (blk_below HF7.out h) 2; go_simp <;> with_reducible rfl⟩) hHeld ?_
    simp only [List.getElem_toArray, List.getElem_cons_succ, List.getElem_cons_zero, Act.put, List.setIfInBounds_toArray, List.set_cons_zero, List.set_cons_succ]
    refine wpAnyH_take (i := 2) (v := _) rfl (by kernel_rfl) (by kernel_rfl) (by kernel_rfl) (fun _ _ _ h => h) (Or.inl ⟨by kernel_rfl, fun w _ => by go_simp <;> with_reducible rfl⟩) hHeld ?_
    simp only [List.getElem_toArray, List.getElem_cons_succ, List.getElem_cons_zero, Act.put, List.setIfInBounds_toArray, List.set_cons_zero, List.set_cons_succ]
    refine wpAnyH_take (i := 3) (v := _) rfl (by kernel_rfl) (by kernel_rfl) (by kernel_rfl) (fun _ _ _ h => h) (Or.inl ⟨by kernel_rfl, fun w _ => by go_simp <;> with_reducible rfl⟩) hHeld ?_
    simp only [List.getElem_toArray, List.getElem_cons_succ, List.getElem_cons_zero, Act.put, List.setIfInBounds_toArray, List.set_cons_zero, List.set_cons_succ]
    refine wpAnyH_take (i := 4) (v := .bool false) rfl (by kernel_rfl) (by kernel_rfl) (by kernel_rfl) (fun _ _ _ h => h) (Or.inl ⟨by kernel_rfl, fun w _ => by go_simp <;> with_reducible rfl⟩) hHeld ?_
    simp only [List.getElem_toArray, List.getElem_cons_succ, List.getElem_cons_zero, Act.put, List.setIfInBounds_toArray, List.set_cons_zero, List.set_cons_succ]
    refine wpAnyH_take (i := 5) (v := _) rfl (by kernel_rfl) (by kernel_rfl) (by kernel_rfl) (fun _ _ _ h => h) (Or.inl ⟨by kernel_rfl, fun w _ => by go_simp <;> with_reducible rfl⟩) hHeld ?_
    simp only [List.getElem_toArray, List.getElem_cons_succ, List.getElem_cons_zero, Act.put, List.setIfInBounds_toArray, List.set_cons_zero, List.set_cons_succ]
    refine wpAnyH_take (i := 6) (v := _) rfl (by kernel_rfl) (by kernel_rfl) (by kernel_rfl) (fun _ _ _ h => h) (Or.inl ⟨by kernel_rfl, fun w _ => by go_simp <;> with_reducible rfl⟩) hHeld ?_
    simp only [List.getElem_toArray, List.getElem_cons_succ, List.getElem_cons_zero, Act.put, List.setIfInBounds_toArray, List.set_cons_zero, List.set_cons_succ]
    refine wpAnyH_take (i := 7) (v := .int .i64 en2) rfl (by kernel_rfl) (by kernel_rfl) (by kernel_rfl) (fun _ _ _ h => h) (Or.inl ⟨by kernel_rfl, fun W h => by have q0 := blk_cell (blk_below HF8.out h) 2; go_simp <;> with_reducible rfl⟩) hHeld ?_
    simp only [List.getElem_toArray, List.getElem_cons_succ, List.getElem_cons_zero, Act.put, List.setIfInBounds_toArray, List.set_cons_zero, List.set_cons_succ]
    refine wpAnyH_take (i := 8) (v := _) rfl (by kernel_rfl) (by kernel_rfl) (by kernel_rfl) (fun _ _ _ h => h) (Or.inl ⟨by kernel_rfl, fun w _ => by go_simp <;> with_reducible rfl⟩) hHeld ?_
    simp only [List.getElem_toArray, List.getElem_cons_succ, List.getElem_cons_zero, Act.put, List.setIfInBounds_toArray, List.set_cons_zero, List.set_cons_succ]
    refine wpAnyH_take (i := 9) (v := .bool false) rfl (by kernel_rfl) (by kernel_rfl) (by kernel_rfl) (fun _ _ _ h => h) (Or.inl ⟨by kernel_rfl, fun w _ => by go_simp <;> with_reducible rfl⟩) hHeld ?_
    simp only [List.getElem_toArray, List.getElem_cons_succ, List.getElem_cons_zero, Act.put, List.setIfInBounds_toArray, List.set_cons_zero, List.set_cons_succ]
    refine wpAnyH_take (i := 10) (v := .bool false) rfl (by kernel_rfl) (by kernel_rfl) (by kernel_rfl) (fun _ _ _ h => h) (Or.inl ⟨by kernel_rfl, fun w _ => by go_simp <;> with_reducible rfl⟩) hHeld ?_
    simp only [List.getElem_toArray, List.getElem_cons_succ, List.getElem_cons_zero, Act.put, List.setIfInBounds_toArray, List.set_cons_zero, List.set_cons_succ]
    refine wpAnyH_take (i := 11) (v := _) rfl (by kernel_rfl) (by kernel_rfl) (by kernel_rfl) (fun _ _ _ h => h) (Or.inl ⟨by kernel_rfl, fun w _ => by go_simp <;> with_reducible rfl⟩) hHeld ?_
    simp only [List.getElem_toArray, List.getElem_cons_succ, List.getElem_cons_zero, Act.put, List.setIfInBounds_toArray, List.set_cons_zero, List.set_cons_succ]
    refine wpAnyH_take (i := 12) (v := _) rfl (by kernel_rfl) (by kernel_rfl) (by kernel_rfl) (fun _ _ _ h => h) (Or.inl ⟨by kernel_rfl, fun w _ => by go_simp <;> with_reducible rfl⟩) hHeld ?_
    simp only [List.getElem_toArray, List.getElem_cons_succ, List.getElem_cons_zero, Act.put, List.setIfInBounds_toArray, List.set_cons_zero, List.set_cons_succ]
    refine wpAnyH_take (i := 13) (v := .slice A2 ws2.length c2) rfl (by kernel_rfl) (by kernel_rfl) (by kernel_rfl) (fun _ _ _ h => h) (Or.inl ⟨by kernel_rfl, fun W h => by have q0 := blk_cell (blk_below HF8.out h) 0; go_simp <;> with_reducible rfl⟩) hHeld ?_
    simp only [List.getElem_toArray, List.getElem_cons_succ, List.getElem_cons_zero, Act.put, List.setIfInBounds_toArray, List.set_cons_zero, List.set_cons_succ]
    refine wpAnyH_take (i := 14) (v := _) rfl (by kernel_rfl) (by kernel_rfl) (by kernel_rfl) (fun _ _ _ h => h) (Or.inl ⟨by kernel_rfl, fun w _ => by go_simp <;> with_reducible rfl⟩) hHeld ?_
    simp only [List.getElem_toArray, List.getElem_cons_succ, List.getElem_cons_zero, Act.put, List.setIfInBounds_toArray, List.set_cons_zero, List.set_cons_succ]
    refine wpAnyH_take (i := 15) (v := _) rfl (by kernel_rfl) (by kernel_rfl) (by kernel_rfl) (fun _ _ _ h => h) (Or.inl ⟨by kernel_rfl, fun w _ => by go_simp <;> with_reducible rfl⟩) hHeld ?_
    simp only [List.getElem_toArray, List.getElem_cons_succ, List.getElem_cons_zero, Act.put, List.setIfInBounds_toArray, List.set_cons_zero, List.set_cons_succ]
    refine wpAnyH_take (i := 16) (v := .slice A1 ws1.length c1) rfl (by kernel_rfl) (by kernel_rfl) (by kernel_rfl) (fun _ _ _ h => h) (Or.inl ⟨by kernel_rfl, fun W h => by have q0 := blk_cell (blk_below HF7.out h) 0; go_simp <;> with_reducible rfl⟩) hHeld ?_
    simp only [List.getElem_toArray, List.getElem_cons_succ, List.getElem_cons_zero, Act.put, List.setIfInBounds_toArray, List.set_cons_zero, List.set_cons_succ]
    refine wpAnyH_take (i := 17) (v := _) rfl (by kernel_rfl) (by kernel_rfl) (by kernel_rfl) (fun _ _ _ h => h) (Or.inl ⟨by kernel_rfl, fun w _ => by go_simp <;> with_reducible rfl⟩) hHeld ?_
    simp only [List.getElem_toArray, List.getElem_cons_succ, List.getElem_cons_zero, Act.put, List.setIfInBounds_toArray, List.set_cons_zero, List.set_cons_succ]
    refine wpAnyH_take (i := 18) (v := .bool false) rfl (by kernel_rfl) (by kernel_rfl) (by kernel_rfl) (fun _ _ _ h => h) (Or.inl ⟨by kernel_rfl, fun w _ => by go_simp <;> with_reducible rfl⟩) hHeld ?_
    simp only [List.getElem_toArray, List.getElem_cons_succ, List.getElem_cons_zero, Act.put, List.setIfInBounds_toArray, List.set_cons_zero, List.set_cons_succ]
    refine wpAnyH_take (i := 19) (v := .bool false) rfl (by kernel_rfl) (by kernel_rfl) (by kernel_rfl) (fun _ _ _ h => h) (Or.inl ⟨by kernel_rfl, fun w _ => by go_simp <;> with_reducible rfl⟩) hHeld ?_
    simp only [List.getElem_toArray, List.getElem_cons_succ, List.getElem_cons_zero, Act.put, List.setIfInBounds_toArray, List.set_cons_zero, List.set_cons_succ]
    refine wpAnyH_take (i := 20) (v := _) rfl (by kernel_rfl) (by kernel_rfl) (by kernel_rfl) (fun _ _ _ h => h) (Or.inl ⟨by kernel_rfl, fun w _ => by go_simp <;> with_reducible rfl⟩) hHeld ?_
    simp only [List.getElem_toArray, List.getElem_cons_succ, List.getElem_cons_zero, Act.put, List.setIfInBounds_toArray, List.set_cons_zero, List.set_cons_succ]
    refine wpAnyH_take (i := 21) (v := _) rfl (by kernel_rfl) (by kernel_rfl) (by kernel_rfl) (fun _ _ _ h => h) (Or.inl ⟨by kernel_rfl, fun w _ => by go_simp <;> with_reducible rfl⟩) hHeld ?_
    simp only [List.getElem_toArray, List.getElem_cons_succ, List.getElem_cons_zero, Act.put, List.setIfInBounds_toArray, List.set_cons_zero, List.set_cons_succ]
    refine wpAnyH_take (i := 22) (v := .slice A2 ws2.length c2) rfl (by kernel_rfl) (by kernel_rfl) (by kernel_rfl) (fun _ _ _ h => h) (Or.inl ⟨by kernel_rfl, fun W h => by have q0 := blk_cell (blk_below HF8.out h) 0; go_simp <;> with_reducible rfl⟩) hHeld ?_
    simp only [List.getElem_toArray, List.getElem_cons_succ, List.getElem_cons_zero, Act.put, List.setIfInBounds_toArray, List.set_cons_zero, List.set_cons_succ]
    refine wpAnyH_take (i := 23) (v := _) rfl (by kernel_rfl) (by kernel_rfl) (by kernel_rfl) (fun _ _ _ h => h) (Or.inl ⟨by kernel_rfl, fun w _ => by go_simp <;> with_reducible rfl⟩) hHeld ?_
    simp only [List.getElem_toArray, List.getElem_cons_succ, List.getElem_cons_zero, Act.put, List.setIfInBounds_toArray, List.set_cons_zero, List.set_cons_succ]
    refine wpAnyH_take (i := 24) (v := .slice A1 ws1.length c1) rfl (by kernel_rfl) (by kernel_rfl) (by kernel_rfl) (fun _ _ _ h => h) (Or.inl ⟨by kernel_rfl, fun W h => by have q0 := blk_cell (blk_below HF7.out h) 0; go_simp <;> with_reducible rfl⟩) hHeld ?_
    simp only [List.getElem_toArray, List.getElem_cons_succ, List.getElem_cons_zero, Act.put, List.setIfInBounds_toArray, List.set_cons_zero, List.set_cons_succ]
    refine wpAnyH_take (i := 25) (v := _) rfl (by kernel_rfl) (by kernel_rfl) (by kernel_rfl) (fun _ _ _ h => h) (Or.inl ⟨by kernel_rfl, fun w _ => by go_simp <;> with_reducible rfl⟩) hHeld ?_
    simp only [List.getElem_toArray, List.getElem_cons_succ, List.getElem_cons_zero, Act.put, List.setIfInBounds_toArray, List.set_cons_zero, List.set_cons_succ]
    refine wpAnyH_take (i := 26) (v := .slice A2 ws2.length c2) rfl (by kernel_rfl) (by kernel_rfl) (by kernel_rfl) (fun _ _ _ h => h) (Or.inl ⟨by kernel_rfl, fun W h => by have q0 := blk_cell (blk_below HF8.out h) 0; go_simp <;> with_reducible rfl⟩) hHeld ?_
    simp only [List.getElem_toArray, List.getElem_cons_succ, List.getElem_cons_zero, Act.put, List.setIfInBounds_toArray, List.set_cons_zero, List.set_cons_succ]
    refine wpAnyH_take (i := 27) (v := _) rfl (by kernel_rfl) (by kernel_rfl) (by kernel_rfl) (fun _ _ _ h => h) (Or.inl ⟨by kernel_rfl, fun w _ => by go_simp <;> with_reducible rfl⟩) hHeld ?_
    simp only [List.getElem_toArray, List.getElem_cons_succ, List.getElem_cons_zero, Act.put, List.setIfInBounds_toArray, List.set_cons_zero, List.set_cons_succ]
    refine wpAnyH_take (i := 28) (v := .slice A1 ws2.length c1) rfl (by kernel_rfl) (by kernel_rfl) (by kernel_rfl) (fun _ _ _ h => h) (Or.inl ⟨by kernel_rfl, fun W h => by have q0 := hcw W; go_simp <;> with_reducible rfl⟩) hHeld ?_
    simp only [List.getElem_toArray, List.getElem_cons_succ, List.getElem_cons_zero, Act.put, List.setIfInBounds_toArray, List.set_cons_zero, List.set_cons_succ]
    refine wpAnyH_ready (rs := [29]) (by kernel_rfl) (by simp) ?_
    refine AllReadyH.cons rfl (fun K hK => ?_) ?_
    case refine_2 => exact AllReadyH.nil
    go_simp
    refine (HWD.out _ (HR2.out.below hHeld) (HR1.out.below hHeld)).mono ?_
    rintro e x1 ⟨rfl, hb8⟩
    refine hK.out _ _ (below_step' hHeld hb8) (fun hHeld => ?_)
    clear hK K
    try simp only [List.getElem_toArray, List.getElem_cons_succ, List.getElem_cons_zero, Act.put, List.setIfInBounds_toArray, List.set_cons_zero, List.set_cons_succ]
    clear hb8
    refine wpAnyH_take (i := 30) (v := _) rfl (by kernel_rfl) (by kernel_rfl) (by kernel_rfl) (fun _ _ _ h => h) (Or.inl ⟨by kernel_rfl, fun w _ => by go_simp <;> with_reducible rfl⟩) hHeld ?_
    simp only [List.getElem_toArray, List.getElem_cons_succ, List.getElem_cons_zero, Act.put, List.setIfInBounds_toArray, List.set_cons_zero, List.set_cons_succ]
    refine wpAnyH_take (i := 31) (v := .bool false) rfl (by kernel_rfl) (by kernel_rfl) (by kernel_rfl) (fun _ _ _ h => h) (Or.inl ⟨by kernel_rfl, fun w _ => by go_simp <;> with_reducible rfl⟩) hHeld ?_
    simp only [List.getElem_toArray, List.getElem_cons_succ, List.getElem_cons_zero, Act.put, List.setIfInBounds_toArray, List.set_cons_zero, List.set_cons_succ]
    refine wpAnyH_done (by kernel_rfl) ?_ _
    have HB4 := Lib.hid (below_step' HB.out hHeld)
    have HF84 := Lib.hid (blk_below HF8.out hHeld)
    have HR24 := Lib.hid (HR2.out.below hHeld)
    have hrd4 := HRD.out.below HB4.out
    clear hHeld hcw d1 d2 d3
    have hcg8 := fun i => blk_cell HF84.out i
    go_wp2_with fail
    refine (HU.out _ hrd4).mono ?_
    rintro e x2 ⟨A3, c3, rfl, ho, hb⟩
    obtain ⟨W9, hW9⟩ : ∃ W, World.alloc x2 (.cells #[.slice A3 ws3.length c3, .int .u64 q3, .int .i64 en3, .bool sl3, .int .i64 at3, .int .i64 er3] 69) = W := ⟨_, rfl⟩
    have hbw : Below x2.heap.size x2 W9 := hW9 ▸ below_alloc (Below.refl _ _) _
    have HF9 := Lib.hid (show W9.heap[x2.heap.size]? = some (.cells #[.slice A3 ws3.length c3, .int .u64 q3, .int .i64 en3, .bool sl3, .int .i64 at3, .int .i64 er3] 69 (0, 0)) from hW9 ▸ blk_new x2 _)
    have HF89 := Lib.hid (blk_below (blk_below HF84.out hb) hbw)
    have HR29 := Lib.hid ((HR24.out.below hb).below hbw)
    have HR39 := Lib.hid ((OwnW.rd ho).1.below hbw)
    have HB9 := Lib.hid (below_step' (below_step' HB4.out hb) hbw)
    have HO9 := Lib.hid (scC_one' (.slice A3 ws3.length c3) q3 en3 sl3 at3 er3 rfl)
    clear ho hb hbw hcg8 hrd4
    have hcg9 := fun i => blk_cell HF9.out i
    have hcg8 := fun i => blk_cell HF89.out i
    by_cases hz0 : en2 = 0
    · obtain ⟨e0, he0⟩ : ∃ e0, (en2 == 0) = e0 := ⟨_, rfl⟩
      have HE := Lib.hid (show e0 = true from he0 ▸ beq_iff_eq.2 hz0)
      clear hz0
      go_upto_region 7 with (first | (refine wpList_box rfl rfl 69 _ _ rfl rfl (#[.slice A3 ws3.length c3, .int .u64 q3, .int .i64 en3, .bool sl3, .int .i64 at3, .int .i64 er3]) #[.slice none 0 0, .int .u64 0, .int .i64 0, .bool false, .int .i64 0, .int .i64 0] zeroSc rfl rfl rfl infoSc HO9.out ?_; rw [hW9]))
      refine wp_region_lit ?_
      iterate 4 (refine wpList_plain rfl fun K hK => ?_; have HK := Lib.hid hK; clear hK; go_simp; refine HK.out _ _ ?_; clear HK K)
      iterate 24 (refine wpList_skip (by obtain rfl := HE.out; kernel_rfl) ?_; simp only [List.getElem_toArray, List.getElem_cons_succ, List.getElem_cons_zero, Act.put, List.setIfInBounds_toArray, List.set_cons_zero, List.set_cons_succ])
      refine wpList_pickT rfl (.tmp 68) (.const (.bool true)) (.tmp 92) rfl (by obtain rfl := HE.out; kernel_rfl) (.bool true) rfl ?_
      simp only [List.getElem_toArray, List.getElem_cons_succ, List.getElem_cons_zero, Act.put, List.setIfInBounds_toArray, List.set_cons_zero, List.set_cons_succ]
      refine wpList_mv rfl (.tmp 93) rfl (.bool true) (by kernel_rfl) ?_
      simp only [List.getElem_toArray, List.getElem_cons_succ, List.getElem_cons_zero, Act.put, List.setIfInBounds_toArray, List.set_cons_zero, List.set_cons_succ]
      go_wp2_with fail
      refine (HLV.out _).mono ?_
      rintro e w8 ⟨rfl, hb⟩
      have HB8 := Lib.hid (below_step' HB9.out hb)
      clear hb
      go_wp2_with fail
      go_ret
      exact ⟨rfl, HB8.out⟩
    · have q0 : (en2 == 0) = false := beq_eq_false_iff_ne.2 hz0
      obtain ⟨rfl, rfl, rfl, rfl⟩ := HAL.out hz0
      have HWD9 := Lib.hid (words_yes A3 A2 c3 c2 ws3 W9 HR39.out HR29.out (by omega))
      clear hz0
      go_wp2_with (first | (refine wpList_box rfl rfl 69 _ _ rfl rfl (#[.slice A3 ws3.length c3, .int .u64 q3, .int .i64 en3, .bool sl3, .int .i64 at3, .int .i64 ((0 : Nat) : Int)]) #[.slice none 0 0, .int .u64 0, .int .i64 0, .bool false, .int .i64 0, .int .i64 0] zeroSc rfl rfl rfl infoSc HO9.out ?_; rw [hW9]))
      refine HWD9.out.mono ?_
      rintro e x4 ⟨rfl, hb⟩
      have HF94 := Lib.hid (blk_below HF9.out hb)
      have HF84' := Lib.hid (blk_below HF89.out hb)
      have HB94 := Lib.hid (below_step' HB9.out hb)
      clear hb hcg9 hcg8 hW9
      have hcg9 := fun i => blk_cell HF94.out i
      have hcg8 := fun i => blk_cell HF84'.out i
      go_wp2_with fail
      refine (HLV.out _).mono ?_
      rintro e w8 ⟨rfl, hb⟩
      have HB8 := Lib.hid (below_step' HB94.out hb)
      clear hb
      go_wp2_with fail
      go_ret
      exact ⟨rfl, HB8.out⟩
end Go.Proofs.Ytceldlijbehkdaa.Sg
