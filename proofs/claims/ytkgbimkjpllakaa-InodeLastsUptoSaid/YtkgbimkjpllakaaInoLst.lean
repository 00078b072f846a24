/- stillagelaw10: InodeLasts. -/
import Derived.Test.YtkgbimkjpllakaaInoRowW
set_option linter.unusedVariables false
set_option linter.unusedSimpArgs false
namespace Go.Proofs.Ytkgbimkjpllakaa.In
open Go.RowKit Go.Proofs.YtkgbimkjpllakaaW.PrintWords Go.Proofs.Ytkgbimkjpllakaa.B Go.Proofs.Ytkgbimkjpllakaa.O Go.Proofs.Ytkgbimkjpllakaa.Wr Go.Proofs.Ytkgbimkjpllakaa.R01

theorem apply_end {b d : List UInt8} (h : b.length + d.length ≤ 1048576) : applyL b false (b.length : Int) d = b ++ d := by
  unfold applyL
  by_cases h0 : d = []
  · subst h0; rw [if_pos (.inr ⟨rfl, rfl⟩), List.append_nil]
  · have hr : rightB (b.length : Int) d.length = true := by unfold rightB; exact decide_eq_true (by omega)
    rw [if_neg (by rintro (h1 | ⟨-, h1⟩); rw [hr] at h1; cases h1; exact h0 h1), if_neg (by decide)]
    unfold over
    rw [Int.toNat_natCast, List.take_left, List.drop_eq_nil_of_le (by simp), List.append_nil]
theorem app_fst (b d : List UInt8) : (appX b [] d).1 = b := by unfold appX; split <;> rfl
theorem app_ofNat {n : Nat} (h : n ≤ 1048576) : (Int64.ofNat n).toInt = (n : Int) := Int64.toInt_ofNat_of_lt (by omega)
theorem app_all {b d : List UInt8} (h : appN b [] d = 0) : allL (appX b [] d).1 (appX b [] d).2 = b ++ d := by
  have e0 : allL b [] = b := rfl
  have hle : b.length + d.length ≤ 1048576 := by
    unfold appN at h
    rw [e0] at h
    split at h
    · cases h
    · omega
  unfold appX
  rw [e0]
  by_cases h0 : d = []
  · subst h0; rw [if_pos (.inr rfl), List.append_nil]; rfl
  · rw [if_neg (by rintro (h1 | h1); omega; exact h0 h1)]
    show applyL b false (Int64.ofNat b.length).toInt d = b ++ d
    rw [app_ofNat (by omega), apply_end hle]
theorem app_surv (b d ch : List UInt8) : ∃ m, m ≤ d.length ∧ survL (appX b [] d).1 (appX b [] d).2 ch = b ++ d.take m := by
  have e0 : allL b [] = b := rfl
  unfold appX
  rw [e0]
  by_cases h : 1048576 < b.length + d.length ∨ d = []
  · rw [if_pos h]; exact ⟨0, Nat.zero_le _, by simp [survL]⟩
  · rw [if_neg h]
    have hle : b.length + d.length ≤ 1048576 := by
      rcases Nat.lt_or_ge 1048576 (b.length + d.length) with h1 | h1
      · exact absurd (.inl h1) h
      · exact h1
    cases ch with
    | nil => exact ⟨0, Nat.zero_le _, by simp [survL]⟩
    | cons x ch =>
      show ∃ m, m ≤ d.length ∧ survStep b x (false, Int64.ofNat b.length, d) = b ++ d.take m
      unfold survStep
      dsimp only
      rw [app_ofNat (by omega)]
      by_cases h2 : x = 0 ∨ rightB (b.length : Int) d.length = false
      · rw [if_pos h2]; exact ⟨0, Nat.zero_le _, by simp⟩
      · rw [if_neg h2]
        unfold someL
        split
        · rename_i h3
          refine ⟨x.toNat, by omega, apply_end ?_⟩
          rw [List.length_take]; omega
        · exact ⟨d.length, Nat.le_refl _, by rw [List.take_length]; exact apply_end hle⟩
theorem surv_none (b ch : List UInt8) : survL b [] ch = b := by simp [survL]
set_option maxRecDepth 100000 in
set_option maxHeartbeats 3200000 in
theorem lasts_law (A : Option Addr) (c : Nat) (b : List UInt8) (A2 : Option Addr) (c2 : Nat) (l : List Wt) (Ad : Option Addr) (cd : Nat) (d : List UInt8) (Ac : Option Addr) (cc : Nat) (ch : List UInt8) (w : World) (hl : b.length ≤ 1048576) (hb : Rd w A b) (hw : RdW w A2 l) (hc : b.length ≤ c) (hd : Rd w Ad d) (hcd : d.length ≤ cd) (hdl : d.length ≤ 1048576) (hch : Rd w Ac ch) (hcc : ch.length ≤ cc) (hchl : ch.length ≤ 1048576) :
    Calls Try.prog 6 #[.agg #[.slice A b.length c, .slice A2 l.length c2], .slice Ad d.length cd, .slice Ac ch.length cc] w (Kept (.bool true) w) := by
  have HX := Lib.hid (blk_new w (.cells #[.slice A b.length c, .slice A2 l.length c2] 37))
  have hb1 : Below w.heap.size w (w.alloc (.cells #[.slice A b.length c, .slice A2 l.length c2] 37)) := below_alloc (Below.refl _ _) _
  have hal := allL_len b l
  have HSY := Lib.hid (fun (W : World) (h : Below w.heap.size w W) => sync_any A c b A2 c2 l W (by omega) hc (hb.below h) (Kd.C_below hw h))
  obtain ⟨na, hna⟩ : ∃ y, allL b l = y := ⟨_, rfl⟩
  rw [hna] at HSY hal
  have hnl : na.length ≤ 1048576 := by omega
  obtain ⟨⟨zb, zl⟩, hz⟩ : ∃ y, appX na [] d = y := ⟨_, rfl⟩
  obtain ⟨e, he⟩ : ∃ y, appN na [] d = y := ⟨_, rfl⟩
  have hzb : zb = na := by have := app_fst na d; rw [hz] at this; exact this
  obtain ⟨m, hm, hy⟩ := app_surv na d ch
  rw [hz] at hy
  have HALL := Lib.hid (fun (h : e = 0) => (show allL zb zl = na ++ d by have := app_all (b := na) (d := d) (by rw [he]; exact h); rw [hz] at this; exact this))
  obtain ⟨q, hq⟩ : ∃ y, na ++ d = y := ⟨_, rfl⟩
  obtain ⟨y4, hy4⟩ : ∃ y, survL zb zl ch = y := ⟨_, rfl⟩
  rw [hy4] at hy
  rw [hq] at HALL
  have hzl : zb.length ≤ 1048576 := by rw [hzb]; exact hnl
  have hyn : na.length ≤ y4.length := by rw [hy]; simp
  have hql : q.length = na.length + d.length := by rw [← hq]; simp
  have hyq : y4.length ≤ q.length := by rw [hy, hql]; simp; omega
  have hqt : q.take y4.length = y4 := by rw [← hq, hy, List.take_append, List.take_of_length_le (by simp), List.length_append, Nat.add_sub_cancel_left, List.length_take, Nat.min_eq_left hm]
  have HCS := Lib.hid (fun (A1 AP : Option Addr) (c1 cP : Nat) (W : World) (h : Below w.heap.size w W) (h0 : na.length ≤ c1) (h1 : Rd W A1 na) (h2 : RdW W AP []) => (show Calls Try.prog 25 #[.agg #[.slice A1 na.length c1, .slice AP 0 cP], .slice Ac ch.length cc] W (InoR na ch W) from (by have := crash_any A1 c1 na AP cP [] Ac cc ch W (by omega) h1 h2 h0 hcc (hch.below h) (by omega); rw [surv_none] at this; exact this)))
  have HAP := Lib.hid (fun (A1 AP : Option Addr) (c1 cP : Nat) (W : World) (h : Below w.heap.size w W) (h0 : na.length ≤ c1) (h1 : Rd W A1 na) (h2 : RdW W AP []) => (show Calls Try.prog 26 #[.agg #[.slice A1 na.length c1, .slice AP 0 cP], .slice Ad d.length cd] W (InoN (zb, zl) e (fun k => k < W.heap.size) W) from (by have := append_came A1 c1 na AP cP [] Ad cd d W (by omega) h1 h2 h0 (Nat.zero_le _) (hd.below h) (by omega) (by simp); rw [hz, he] at this; exact this)))
  have HCZ := Lib.hid (fun (A5 A6 : Option Addr) (c5 c6 : Nat) (W : World) (h : Below w.heap.size w W) (h0 : zb.length ≤ c5) (h1 : Rd W A5 zb) (h2 : RdW W A6 zl) => (show Calls Try.prog 25 #[.agg #[.slice A5 zb.length c5, .slice A6 zl.length c6], .slice Ac ch.length cc] W (InoR y4 (ch.drop zl.length) W) from (by have := crash_any A5 c5 zb A6 c6 zl Ac cc ch W (by omega) h1 h2 h0 hcc (hch.below h) (by omega); rw [hy4] at this; exact this)))
  have HNS := Lib.hid (fun (A1 AP : Option Addr) (c1 cP : Nat) (W : World) (h0 : na.length ≤ c1) (h1 : Rd W A1 na) (h2 : RdW W AP []) => (show Calls Try.prog 27 #[.agg #[.slice A1 na.length c1, .slice AP 0 cP]] W (Made W na) from now_any A1 c1 na AP cP [] W (by omega) h0 h1 h2))
  have HNC := Lib.hid (fun (A7 : Option Addr) (c7 : Nat) (W : World) (h0 : y4.length ≤ c7) (h1 : Rd W A7 y4) => (show Calls Try.prog 27 #[.agg #[.slice A7 y4.length c7, .slice none 0 0]] W (Made W y4) from now_any A7 c7 y4 none 0 [] W (by omega) h0 h1 (Kd.C_nil kWr W)))
  have HNZ := Lib.hid (fun (hE : e = 0) (A5 A6 : Option Addr) (c5 c6 : Nat) (W : World) (h0 : zb.length ≤ c5) (h1 : Rd W A5 zb) (h2 : RdW W A6 zl) => (show Calls Try.prog 27 #[.agg #[.slice A5 zb.length c5, .slice A6 zl.length c6]] W (Made W q) from (by have := now_any A5 c5 zb A6 c6 zl W (by omega) h0 h1 h2; rw [HALL.out hE] at this; exact this)))
  have HQT := Lib.hid hqt
  have HQ := Lib.hid hq
  have HD := Lib.hid hd
  have hqi : (na.length : Int) ≤ (y4.length : Int) := by omega
  have hqj : (y4.length : Int) ≤ (q.length : Int) := by omega
  have hn1 : ([] : List UInt8).length + na.length ≤ 140737488355328 := by simp; omega
  have hn2 : na.length + d.length ≤ 140737488355328 := by omega
  have hyl : y4.length ≤ 140737488355000 := by omega
  have hqll : q.length ≤ 140737488355000 := by omega
  have HB1 := Lib.hid hb1
  have hcell := fun i => blk_cell HX.out i
  have hzz := blk_lt HX.out
  clear hb1 hb hw hal hna hz he hzb hm hy hq hy4 hql hqt hd hch
  by_cases hE : e = 0
  · have hee : ((e : Int) == 0) = true := by subst hE; rfl
    have HN0 := Lib.hid (HNZ.out hE)
    clear hE HNZ HALL
    go_enter Try.func6, Try.ntmps6
    go_wp2_with fail
    refine (HSY.out _ HB1.out).mono ?_
    rintro e0 w2 ⟨cs, rfl, hf, hb⟩
    obtain ⟨A1, c1, AP, cP, hcs, hc1, hcP, hrA, hrP⟩ := in_cells hf
    obtain rfl : cs = #[.slice A1 na.length c1, .slice AP 0 cP] := Array.toList_inj.1 hcs
    dsimp only at hc1
    have HB2 := Lib.hid (below_then HB1.out HB1.out.size hb)
    have HR1 := Lib.hid hrA.rd
    have HRP := Lib.hid hrP.rd
    clear hf hb hcs hrA hrP hcell hzz hcP
    go_wp2_with (refine wpList_box rfl rfl 37 _ _ rfl rfl #[.slice A1 na.length c1, .slice AP 0 cP] _ zeroIn rfl rfl rfl infoIn (by simp [Value.oneCell']) ?_)
    have hb2 : Below w2.heap.size w2 (w2.alloc (.cells #[.slice A1 na.length c1, .slice AP 0 cP] 37)) := below_alloc (Below.refl _ _) _
    refine (HCS.out A1 AP c1 cP _ (below_step' HB2.out hb2) hc1 (HR1.out.below hb2) (Kd.C_below HRP.out hb2)).mono ?_
    rintro e0 w3 ⟨A3, c3, A4, c4, rfl, hc3, hc4, hr3, -, hb⟩
    have HB23 := Lib.hid (below_step' hb2 hb)
    have HB3 := Lib.hid (below_step' HB2.out HB23.out)
    have HR3 := Lib.hid hr3
    have H7 := Lib.hid (blk_below (blk_new w2 (.cells #[.slice A1 na.length c1, .slice AP 0 cP] 37)) hb)
    clear hr3 hb hb2
    have s0 : w3.cell? ⟨w2.heap.size, 0, none⟩ = some (.slice A1 na.length c1) := blk_cell H7.out 0
    have s1 : w3.cell? ⟨w2.heap.size, 1, none⟩ = some (.slice AP 0 cP) := blk_cell H7.out 1
    have sz := blk_lt H7.out
    go_wp2_with (refine wpList_box rfl rfl 37 _ _ rfl rfl #[.slice A3 na.length c3, .slice none 0 0] _ zeroIn rfl rfl rfl infoIn (by simp [Value.oneCell']) ?_)
    have hb3 : Below w3.heap.size w3 (w3.alloc (.cells #[.slice A3 na.length c3, .slice none 0 0] 37)) := below_alloc (Below.refl _ _) _
    refine (HAP.out A1 AP c1 cP _ (below_step' HB3.out hb3) hc1 (HR1.out.below (below_step' HB23.out hb3)) (Kd.C_below HRP.out (below_step' HB23.out hb3))).mono ?_
    rintro e0 w4 hI
    obtain ⟨A5, c5, A6, c6, rfl, hc5, hc6, hr5, hr6, hb⟩ := ino_n hI
    dsimp only at hc5 hc6 hr5 hr6
    have HB34 := Lib.hid (below_step' hb3 hb)
    have HB4 := Lib.hid (below_step' HB3.out HB34.out)
    have HR5 := Lib.hid hr5
    have HR6 := Lib.hid hr6
    have H74 := Lib.hid (blk_below H7.out HB34.out)
    have H8 := Lib.hid (blk_below (blk_new w3 (.cells #[.slice A3 na.length c3, .slice none 0 0] 37)) hb)
    clear hI hr5 hr6 hb hb3 s0 s1 sz
    go_wp2_with (refine wpList_box rfl rfl 37 _ _ rfl rfl #[.slice A5 zb.length c5, .slice A6 zl.length c6] _ zeroIn rfl rfl rfl infoIn (by simp [Value.oneCell']) ?_)
    have hb4 : Below w4.heap.size w4 (w4.alloc (.cells #[.slice A5 zb.length c5, .slice A6 zl.length c6] 37)) := below_alloc (Below.refl _ _) _
    refine (HCZ.out A5 A6 c5 c6 _ (below_step' HB4.out hb4) hc5 (HR5.out.below hb4) (Kd.C_below HR6.out hb4)).mono ?_
    rintro e0 w5 ⟨A7, c7, A8, c8, rfl, hc7, hc8, hr7, -, hb⟩
    have HB45 := Lib.hid (below_step' hb4 hb)
    have HB5 := Lib.hid (below_step' HB4.out HB45.out)
    have HR7 := Lib.hid hr7
    have H75 := Lib.hid (blk_below H74.out HB45.out)
    have H85 := Lib.hid (blk_below H8.out HB45.out)
    have H10 := Lib.hid (blk_below (blk_new w4 (.cells #[.slice A5 zb.length c5, .slice A6 zl.length c6] 37)) hb)
    clear hr7 hb hb4
    have s0 : w5.cell? ⟨w2.heap.size, 0, none⟩ = some (.slice A1 na.length c1) := blk_cell H75.out 0
    have s1 : w5.cell? ⟨w2.heap.size, 1, none⟩ = some (.slice AP 0 cP) := blk_cell H75.out 1
    have sz := blk_lt H75.out
    go_wp2_with (refine wpList_box rfl rfl 37 _ _ rfl rfl #[.slice A7 y4.length c7, .slice none 0 0] _ zeroIn rfl rfl rfl infoIn (by simp [Value.oneCell']) ?_)
    obtain ⟨v5, hv5⟩ : ∃ v5, w5.alloc (.cells #[.slice A7 y4.length c7, .slice none 0 0] 37) = v5 := ⟨_, rfl⟩
    have hb5 : Below w5.heap.size w5 v5 := hv5 ▸ below_alloc (Below.refl _ _) _
    have H12 := Lib.hid (show v5.heap[w5.heap.size]? = some (.cells #[.slice A7 y4.length c7, .slice none 0 0] 37 (0, 0)) from hv5 ▸ blk_new w5 _)
    have K7 := Lib.hid (blk_below H75.out hb5)
    have K8 := Lib.hid (blk_below H85.out hb5)
    have K10 := Lib.hid (blk_below H10.out hb5)
    have KB := Lib.hid (below_step' HB5.out hb5)
    have HB25 := Lib.hid (below_step' (below_step' (below_step' HB23.out HB34.out) HB45.out) hb5)
    have R1 := Lib.hid (HR1.out.below HB25.out)
    have RP := Lib.hid (show RdW v5 AP [] from Kd.C_below HRP.out HB25.out)
    have R3 := Lib.hid (HR3.out.below (below_step' (below_step' HB34.out HB45.out) hb5))
    have R5 := Lib.hid (HR5.out.below (below_step' HB45.out hb5))
    have R6 := Lib.hid (show RdW v5 A6 zl from Kd.C_below HR6.out (below_step' HB45.out hb5))
    have R7 := Lib.hid (HR7.out.below hb5)
    have HS5 := Lib.hid (show v5.heap.size = w5.heap.size + 1 by rw [← hv5]; simp)
    rw [hv5]
    clear hv5 hb5 s0 s1 sz
    have hbe : Below v5.heap.size v5 (v5.alloc (.cells #[] 5)) := below_alloc (Below.refl _ _) _
    refine (HNS.out A1 AP c1 cP _ hc1 (R1.out.below hbe) (Kd.C_below RP.out hbe)).mono ?_
    rintro e0 w6 ⟨v6, rfl, hown, hb⟩
    obtain ⟨A9, c9, rfl, -, hr9⟩ := hown.reads
    have HE6 := Lib.hid (show Own w6 v5.heap.size (.slice (some ⟨w5.heap.size + 1, 0, none⟩) 0 0) [] from (by have h := (own_lit v5 v5.heap.size (Nat.le_refl _) [] #[] rfl (by simp)).below hb; rw [show (⟨v5.heap.size, 0, none⟩ : Addr) = ⟨w5.heap.size + 1, 0, none⟩ by rw [HS5.out]] at h; exact h))
    have HB6 := Lib.hid (below_step' hbe hb)
    have HR9 := Lib.hid hr9
    clear hown hb hr9 hbe
    go_wp2_with (first | (at_builtin; refine appRow (w0 := v5) v5.heap.size rfl (.tmp 36) (.tmp 38) rfl (.slice (some ⟨w5.heap.size + 1, 0, none⟩) 0 0) [] na A9 na.length c9 rfl rfl rfl HE6.out HR9.out HB6.out HB6.out.size hn1 ?_; intro u1 w7 hown hb7 _ _; rw [List.nil_append] at hown; have HO7 := Lib.hid hown; have HB7 := Lib.hid hb7; clear hown hb7) | (at_builtin; refine appRow (w0 := v5) v5.heap.size rfl (.tmp 39) (.tmp 40) rfl u1 na d Ad d.length cd rfl rfl rfl HO7.out (HD.out.below (below_step' KB.out HB7.out)) HB7.out HB7.out.size hn2 ?_; intro u2 w8 hown hb8 _ _; rw [HQ.out] at hown; obtain ⟨Aq, cq, rfl, hcq, hrq⟩ := hown.reads; have HRQ := Lib.hid hrq; have HB8 := Lib.hid hb8; have k0 : w8.cell? ⟨w5.heap.size, 0, none⟩ = some (.slice A7 y4.length c7) := blk_cell (blk_below H12.out hb8) 0; have k1 : w8.cell? ⟨w5.heap.size, 1, none⟩ = some (.slice none 0 0) := blk_cell (blk_below H12.out hb8) 1; have kz := blk_lt (blk_below H12.out hb8); clear hown hb8 hrq))
    refine (HNC.out A7 c7 w8 hc7 (R7.out.below HB8.out)).mono ?_
    rintro e0 w9 ⟨v9, rfl, hown, hb⟩
    obtain ⟨Ag, cg, rfl, hcg, hrg⟩ := hown.reads
    have HRG := Lib.hid hrg
    have HB9 := Lib.hid (below_step' HB8.out hb)
    have HRQ9 := Lib.hid (HRQ.out.below hb)
    clear hown hb hrg k0 k1 kz
    have K79 := Lib.hid (blk_below K7.out HB9.out)
    have K89 := Lib.hid (blk_below K8.out HB9.out)
    have s0 : w9.cell? ⟨w2.heap.size, 0, none⟩ = some (.slice A1 na.length c1) := blk_cell K79.out 0
    have s1 : w9.cell? ⟨w2.heap.size, 1, none⟩ = some (.slice AP 0 cP) := blk_cell K79.out 1
    have sz := blk_lt K79.out
    have t0 : w9.cell? ⟨w3.heap.size, 0, none⟩ = some (.slice A3 na.length c3) := blk_cell K89.out 0
    have t1 : w9.cell? ⟨w3.heap.size, 1, none⟩ = some (.slice none 0 0) := blk_cell K89.out 1
    have tz := blk_lt K89.out
    go_wp2_with fail
    refine (refsame_any A3 c3 na none 0 [] A1 c1 AP cP w9 (R3.out.below HB9.out) (Kd.C_nil kWr w9) (R1.out.below HB9.out) (Kd.C_below RP.out HB9.out)).mono ?_
    rintro e0 w10 ⟨rfl, hb⟩
    have HB10 := Lib.hid (below_step' HB9.out hb)
    have HRQ10 := Lib.hid (HRQ9.out.below hb)
    have HRG10 := Lib.hid (HRG.out.below hb)
    have K710 := Lib.hid (blk_below K79.out hb)
    clear hb s0 s1 sz t0 t1 tz
    have K1010 := Lib.hid (blk_below K10.out HB10.out)
    have s0 : w10.cell? ⟨w4.heap.size, 0, none⟩ = some (.slice A5 zb.length c5) := blk_cell K1010.out 0
    have s1 : w10.cell? ⟨w4.heap.size, 1, none⟩ = some (.slice A6 zl.length c6) := blk_cell K1010.out 1
    have sz := blk_lt K1010.out
    go_wp2_with fail
    refine (HN0.out A5 A6 c5 c6 w10 hc5 (R5.out.below HB10.out) (Kd.C_below R6.out HB10.out)).mono ?_
    rintro e0 w11 ⟨v11, rfl, hown, hb⟩
    obtain ⟨Ah, c_h, rfl, -, hrh⟩ := hown.reads
    have HRH := Lib.hid hrh
    have HB11 := Lib.hid (below_step' HB10.out hb)
    have HRQ11 := Lib.hid (HRQ10.out.below hb)
    have HRG11 := Lib.hid (HRG10.out.below hb)
    have K711 := Lib.hid (blk_below K710.out hb)
    clear hown hb hrh s0 s1 sz
    go_wp2_with fail
    refine (same_yes Ah c_h Aq cq q w11 (by omega) HRH.out HRQ11.out).mono ?_
    rintro e0 w12 ⟨rfl, n12, hw12⟩
    have hb : Below w11.heap.size w11 w12 := hw12 ▸ pw_below_drewN (Below.refl _ _) _
    have HB12 := Lib.hid (below_step' HB11.out hb)
    have HRQ12 := Lib.hid (HRQ11.out.below hb)
    have HRG12 := Lib.hid (HRG11.out.below hb)
    have K712 := Lib.hid (blk_below K711.out hb)
    clear hb hw12
    have HRT := Lib.hid (show Rd w12 Aq y4 from (by have := HRQ12.out.take (m := y4.length) (by omega); rw [HQT.out] at this; exact this))
    have hcq2 : y4.length ≤ cq := by omega
    have s0 : w12.cell? ⟨w2.heap.size, 0, none⟩ = some (.slice A1 na.length c1) := blk_cell K712.out 0
    have s1 : w12.cell? ⟨w2.heap.size, 1, none⟩ = some (.slice AP 0 cP) := blk_cell K712.out 1
    have sz := blk_lt K712.out
    go_wp2_with fail
    refine (same_yes Ag cg Aq cq y4 w12 (by omega) HRG12.out HRT.out).mono ?_
    rintro e0 w13 ⟨rfl, n13, hw13⟩
    have hb : Below w12.heap.size w12 w13 := hw13 ▸ pw_below_drewN (Below.refl _ _) _
    have HB13 := Lib.hid (below_step' HB12.out hb)
    clear hb hw13 s0 s1 sz
    go_wp2_with fail
    refine (lives_any w13).mono ?_
    rintro e0 w14 ⟨rfl, hb⟩
    have HB14 := Lib.hid (below_step' HB13.out hb)
    clear hb
    go_wp2_with fail
    go_ret
    exact ⟨rfl, below_step' KB.out HB14.out⟩
  · have hee : ((e : Int) == 0) = false := by rw [beq_eq_false_iff_ne]; omega
    clear hE HNZ HALL
    go_enter Try.func6, Try.ntmps6
    go_wp2_with fail
    refine (HSY.out _ HB1.out).mono ?_
    rintro e0 w2 ⟨cs, rfl, hf, hb⟩
    obtain ⟨A1, c1, AP, cP, hcs, hc1, hcP, hrA, hrP⟩ := in_cells hf
    obtain rfl : cs = #[.slice A1 na.length c1, .slice AP 0 cP] := Array.toList_inj.1 hcs
    dsimp only at hc1
    have HB2 := Lib.hid (below_then HB1.out HB1.out.size hb)
    have HR1 := Lib.hid hrA.rd
    have HRP := Lib.hid hrP.rd
    clear hf hb hcs hrA hrP hcell hzz hcP
    go_wp2_with (refine wpList_box rfl rfl 37 _ _ rfl rfl #[.slice A1 na.length c1, .slice AP 0 cP] _ zeroIn rfl rfl rfl infoIn (by simp [Value.oneCell']) ?_)
    have hb2 : Below w2.heap.size w2 (w2.alloc (.cells #[.slice A1 na.length c1, .slice AP 0 cP] 37)) := below_alloc (Below.refl _ _) _
    refine (HCS.out A1 AP c1 cP _ (below_step' HB2.out hb2) hc1 (HR1.out.below hb2) (Kd.C_below HRP.out hb2)).mono ?_
    rintro e0 w3 ⟨A3, c3, A4, c4, rfl, hc3, hc4, hr3, -, hb⟩
    have HB23 := Lib.hid (below_step' hb2 hb)
    have HB3 := Lib.hid (below_step' HB2.out HB23.out)
    have HR3 := Lib.hid hr3
    have H7 := Lib.hid (blk_below (blk_new w2 (.cells #[.slice A1 na.length c1, .slice AP 0 cP] 37)) hb)
    clear hr3 hb hb2
    have s0 : w3.cell? ⟨w2.heap.size, 0, none⟩ = some (.slice A1 na.length c1) := blk_cell H7.out 0
    have s1 : w3.cell? ⟨w2.heap.size, 1, none⟩ = some (.slice AP 0 cP) := blk_cell H7.out 1
    have sz := blk_lt H7.out
    go_wp2_with (refine wpList_box rfl rfl 37 _ _ rfl rfl #[.slice A3 na.length c3, .slice none 0 0] _ zeroIn rfl rfl rfl infoIn (by simp [Value.oneCell']) ?_)
    have hb3 : Below w3.heap.size w3 (w3.alloc (.cells #[.slice A3 na.length c3, .slice none 0 0] 37)) := below_alloc (Below.refl _ _) _
    refine (HAP.out A1 AP c1 cP _ (below_step' HB3.out hb3) hc1 (HR1.out.below (below_step' HB23.out hb3)) (Kd.C_below HRP.out (below_step' HB23.out hb3))).mono ?_
    rintro e0 w4 hI
    obtain ⟨A5, c5, A6, c6, rfl, hc5, hc6, hr5, hr6, hb⟩ := ino_n hI
    dsimp only at hc5 hc6 hr5 hr6
    have HB34 := Lib.hid (below_step' hb3 hb)
    have HB4 := Lib.hid (below_step' HB3.out HB34.out)
    have HR5 := Lib.hid hr5
    have HR6 := Lib.hid hr6
    have H74 := Lib.hid (blk_below H7.out HB34.out)
    have H8 := Lib.hid (blk_below (blk_new w3 (.cells #[.slice A3 na.length c3, .slice none 0 0] 37)) hb)
    clear hI hr5 hr6 hb hb3 s0 s1 sz
    go_wp2_with (refine wpList_box rfl rfl 37 _ _ rfl rfl #[.slice A5 zb.length c5, .slice A6 zl.length c6] _ zeroIn rfl rfl rfl infoIn (by simp [Value.oneCell']) ?_)
    have hb4 : Below w4.heap.size w4 (w4.alloc (.cells #[.slice A5 zb.length c5, .slice A6 zl.length c6] 37)) := below_alloc (Below.refl _ _) _
    refine (HCZ.out A5 A6 c5 c6 _ (below_step' HB4.out hb4) hc5 (HR5.out.below hb4) (Kd.C_below HR6.out hb4)).mono ?_
    rintro e0 w5 ⟨A7, c7, A8, c8, rfl, hc7, hc8, hr7, -, hb⟩
    have HB45 := Lib.hid (below_step' hb4 hb)
    have HB5 := Lib.hid (below_step' HB4.out HB45.out)
    have HR7 := Lib.hid hr7
    have H75 := Lib.hid (blk_below H74.out HB45.out)
    have H85 := Lib.hid (blk_below H8.out HB45.out)
    have H10 := Lib.hid (blk_below (blk_new w4 (.cells #[.slice A5 zb.length c5, .slice A6 zl.length c6] 37)) hb)
    clear hr7 hb hb4
    have s0 : w5.cell? ⟨w2.heap.size, 0, none⟩ = some (.slice A1 na.length c1) := blk_cell H75.out 0
    have s1 : w5.cell? ⟨w2.heap.size, 1, none⟩ = some (.slice AP 0 cP) := blk_cell H75.out 1
    have sz := blk_lt H75.out
    go_wp2_with (refine wpList_box rfl rfl 37 _ _ rfl rfl #[.slice A7 y4.length c7, .slice none 0 0] _ zeroIn rfl rfl rfl infoIn (by simp [Value.oneCell']) ?_)
    obtain ⟨v5, hv5⟩ : ∃ v5, w5.alloc (.cells #[.slice A7 y4.length c7, .slice none 0 0] 37) = v5 := ⟨_, rfl⟩
    have hb5 : Below w5.heap.size w5 v5 := hv5 ▸ below_alloc (Below.refl _ _) _
    have H12 := Lib.hid (show v5.heap[w5.heap.size]? = some (.cells #[.slice A7 y4.length c7, .slice none 0 0] 37 (0, 0)) from hv5 ▸ blk_new w5 _)
    have K7 := Lib.hid (blk_below H75.out hb5)
    have K8 := Lib.hid (blk_below H85.out hb5)
    have K10 := Lib.hid (blk_below H10.out hb5)
    have KB := Lib.hid (below_step' HB5.out hb5)
    have HB25 := Lib.hid (below_step' (below_step' (below_step' HB23.out HB34.out) HB45.out) hb5)
    have R1 := Lib.hid (HR1.out.below HB25.out)
    have RP := Lib.hid (show RdW v5 AP [] from Kd.C_below HRP.out HB25.out)
    have R3 := Lib.hid (HR3.out.below (below_step' (below_step' HB34.out HB45.out) hb5))
    have R5 := Lib.hid (HR5.out.below (below_step' HB45.out hb5))
    have R6 := Lib.hid (show RdW v5 A6 zl from Kd.C_below HR6.out (below_step' HB45.out hb5))
    have R7 := Lib.hid (HR7.out.below hb5)
    have HS5 := Lib.hid (show v5.heap.size = w5.heap.size + 1 by rw [← hv5]; simp)
    rw [hv5]
    clear hv5 hb5 s0 s1 sz
    have hbe : Below v5.heap.size v5 (v5.alloc (.cells #[] 5)) := below_alloc (Below.refl _ _) _
    refine (HNS.out A1 AP c1 cP _ hc1 (R1.out.below hbe) (Kd.C_below RP.out hbe)).mono ?_
    rintro e0 w6 ⟨v6, rfl, hown, hb⟩
    obtain ⟨A9, c9, rfl, -, hr9⟩ := hown.reads
    have HE6 := Lib.hid (show Own w6 v5.heap.size (.slice (some ⟨w5.heap.size + 1, 0, none⟩) 0 0) [] from (by have h := (own_lit v5 v5.heap.size (Nat.le_refl _) [] #[] rfl (by simp)).below hb; rw [show (⟨v5.heap.size, 0, none⟩ : Addr) = ⟨w5.heap.size + 1, 0, none⟩ by rw [HS5.out]] at h; exact h))
    have HB6 := Lib.hid (below_step' hbe hb)
    have HR9 := Lib.hid hr9
    clear hown hb hr9 hbe
    go_wp2_with (first | (at_builtin; refine appRow (w0 := v5) v5.heap.size rfl (.tmp 36) (.tmp 38) rfl (.slice (some ⟨w5.heap.size + 1, 0, none⟩) 0 0) [] na A9 na.length c9 rfl rfl rfl HE6.out HR9.out HB6.out HB6.out.size hn1 ?_; intro u1 w7 hown hb7 _ _; rw [List.nil_append] at hown; have HO7 := Lib.hid hown; have HB7 := Lib.hid hb7; clear hown hb7) | (at_builtin; refine appRow (w0 := v5) v5.heap.size rfl (.tmp 39) (.tmp 40) rfl u1 na d Ad d.length cd rfl rfl rfl HO7.out (HD.out.below (below_step' KB.out HB7.out)) HB7.out HB7.out.size hn2 ?_; intro u2 w8 hown hb8 _ _; rw [HQ.out] at hown; obtain ⟨Aq, cq, rfl, hcq, hrq⟩ := hown.reads; have HRQ := Lib.hid hrq; have HB8 := Lib.hid hb8; have k0 : w8.cell? ⟨w5.heap.size, 0, none⟩ = some (.slice A7 y4.length c7) := blk_cell (blk_below H12.out hb8) 0; have k1 : w8.cell? ⟨w5.heap.size, 1, none⟩ = some (.slice none 0 0) := blk_cell (blk_below H12.out hb8) 1; have kz := blk_lt (blk_below H12.out hb8); clear hown hb8 hrq))
    refine (HNC.out A7 c7 w8 hc7 (R7.out.below HB8.out)).mono ?_
    rintro e0 w9 ⟨v9, rfl, hown, hb⟩
    obtain ⟨Ag, cg, rfl, hcg, hrg⟩ := hown.reads
    have HRG := Lib.hid hrg
    have HB9 := Lib.hid (below_step' HB8.out hb)
    have HRQ9 := Lib.hid (HRQ.out.below hb)
    clear hown hb hrg k0 k1 kz
    have K79 := Lib.hid (blk_below K7.out HB9.out)
    have K89 := Lib.hid (blk_below K8.out HB9.out)
    have s0 : w9.cell? ⟨w2.heap.size, 0, none⟩ = some (.slice A1 na.length c1) := blk_cell K79.out 0
    have s1 : w9.cell? ⟨w2.heap.size, 1, none⟩ = some (.slice AP 0 cP) := blk_cell K79.out 1
    have sz := blk_lt K79.out
    have t0 : w9.cell? ⟨w3.heap.size, 0, none⟩ = some (.slice A3 na.length c3) := blk_cell K89.out 0
    have t1 : w9.cell? ⟨w3.heap.size, 1, none⟩ = some (.slice none 0 0) := blk_cell K89.out 1
    have tz := blk_lt K89.out
    go_wp2_with fail
    refine (refsame_any A3 c3 na none 0 [] A1 c1 AP cP w9 (R3.out.below HB9.out) (Kd.C_nil kWr w9) (R1.out.below HB9.out) (Kd.C_below RP.out HB9.out)).mono ?_
    rintro e0 w10 ⟨rfl, hb⟩
    have HB10 := Lib.hid (below_step' HB9.out hb)
    have HRQ10 := Lib.hid (HRQ9.out.below hb)
    have HRG10 := Lib.hid (HRG.out.below hb)
    have K710 := Lib.hid (blk_below K79.out hb)
    clear hb s0 s1 sz t0 t1 tz
    obtain ⟨w12, hw12⟩ : ∃ w12, w10 = w12 := ⟨_, rfl⟩
    rw [hw12] at HB10 HRQ10 HRG10 K710 ⊢
    have HB12 := HB10
    have HRQ12 := HRQ10
    have HRG12 := HRG10
    have K712 := K710
    clear hw12
    have HRT := Lib.hid (show Rd w12 Aq y4 from (by have := HRQ12.out.take (m := y4.length) (by omega); rw [HQT.out] at this; exact this))
    have hcq2 : y4.length ≤ cq := by omega
    have s0 : w12.cell? ⟨w2.heap.size, 0, none⟩ = some (.slice A1 na.length c1) := blk_cell K712.out 0
    have s1 : w12.cell? ⟨w2.heap.size, 1, none⟩ = some (.slice AP 0 cP) := blk_cell K712.out 1
    have sz := blk_lt K712.out
    go_wp2_with fail
    refine (same_yes Ag cg Aq cq y4 w12 (by omega) HRG12.out HRT.out).mono ?_
    rintro e0 w13 ⟨rfl, n13, hw13⟩
    have hb : Below w12.heap.size w12 w13 := hw13 ▸ pw_below_drewN (Below.refl _ _) _
    have HB13 := Lib.hid (below_step' HB12.out hb)
    clear hb hw13 s0 s1 sz
    go_wp2_with fail
    refine (lives_any w13).mono ?_
    rintro e0 w14 ⟨rfl, hb⟩
    have HB14 := Lib.hid (below_step' HB13.out hb)
    clear hb
    go_wp2_with fail
    go_ret
    exact ⟨rfl, below_step' KB.out HB14.out⟩
end Go.Proofs.Ytkgbimkjpllakaa.In
