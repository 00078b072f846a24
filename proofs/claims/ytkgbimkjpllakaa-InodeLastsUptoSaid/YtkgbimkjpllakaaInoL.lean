/- stillagelaw10: lives. -/
import Derived.Test.YtkgbimkjpllakaaInoS
import Derived.Test.YtkgbimkjpllakaaCrcLit
set_option linter.unusedVariables false
set_option linter.unusedSimpArgs false
namespace Go.Proofs.Ytkgbimkjpllakaa.In
open Go.RowKit Go.Proofs.YtkgbimkjpllakaaW.PrintWords Go.Proofs.Ytkgbimkjpllakaa.B Go.Proofs.Ytkgbimkjpllakaa.O Go.Proofs.Ytkgbimkjpllakaa.Wr Go.Proofs.Ytkgbimkjpllakaa.R01

theorem same_yes (A : Option Addr) (c : Nat) (A' : Option Addr) (c' : Nat) (y : List UInt8) (w : World) (hl : y.length ≤ 140737488355328) (h1 : Rd w A y) (h2 : Rd w A' y) :
    Calls Try.prog 14 #[.slice A y.length c, .slice A' y.length c'] w (Quiet (.bool true) w) := by
  have := R01.same_any A c y A' c' y w hl h1 h2
  rwa [show R01.sameB y y = true by simp [R01.sameB]] at this
/-- a file that came -/
theorem append_came (A : Option Addr) (c : Nat) (b : List UInt8) (A2 : Option Addr) (c2 : Nat) (l : List Wt) (Ad : Option Addr) (cd : Nat) (d : List UInt8) (w : World) (hl : b.length ≤ 140737488355000) (hb : Rd w A b) (hw : RdW w A2 l) (hc : b.length ≤ c) (hc2 : l.length ≤ c2) (hd : Rd w Ad d) (hdl : d.length ≤ 140737488355000) (hlen : (l.length + 1) * 40 ≤ 140737488355328) :
    Calls Try.prog 26 #[.agg #[.slice A b.length c, .slice A2 l.length c2], .slice Ad d.length cd] w (InoN (appX b l d) (appN b l d) (fun k => k < w.heap.size) w) :=
  append_any A c b A2 c2 l Ad cd d w _ hl (f_came Kd.heap_scalar hb) (f_came heapWr hw) (fun _ h => h) hc hc2 hd hdl hlen
theorem ino_n {x : Ino} {n : Nat} {ok : Nat → Prop} {w : World} {e : Ending} {w' : World} (h : InoN x n ok w e w') : ∃ A c A2 c2, e = .returned (.tuple #[.agg #[.slice A x.1.length c, .slice A2 x.2.length c2], .int .i64 n]) ∧ x.1.length ≤ c ∧ x.2.length ≤ c2 ∧ Rd w' A x.1 ∧ RdW w' A2 x.2 ∧ Below w.heap.size w w' := by
  obtain ⟨cs, rfl, hk, hb⟩ := h
  obtain ⟨A, c, A2, c2, h1, h2, h3, h4, h5⟩ := in_cells hk
  have h6 : cs = #[.slice A x.1.length c, .slice A2 x.2.length c2] := Array.toList_inj.1 h1
  subst h6
  exact ⟨A, c, A2, c2, rfl, h2, h3, h4.rd, h5.rd, hb⟩
theorem zeroIn (w : World) : (zeroValue 37).run Try.prog w = .ok (.agg #[.slice none 0 0, .slice none 0 0]) w := by kernel_rfl
theorem rd_dec {W : World} {A : Option Addr} {l m : List UInt8} (h : Rd W A l) (he : l = m) : Rd W A m := he ▸ h
set_option maxRecDepth 100000 in
set_option maxHeartbeats 1600000 in
theorem lives_any (w : World) : Calls Try.prog 29 #[] w (Kept (.bool true) w) := by
  have kc := fun (w : World) (C : Array Value) (n c : Nat) => Lib.run_convert_bytes_const (P := Try.prog) w 22 5 C n c undB Try.underlying5
  have kc2 := fun (w : World) (o1 : Obj) (C : Array Value) (n c : Nat) => (show (convert 22 22 (.slice (some ⟨w.heap.size + 1, 0, none⟩) n c)).run Try.prog ((w.alloc o1).alloc (.cells C 5)) = .ok (.slice (some ⟨w.heap.size + 1, 0, none⟩) n c) ((w.alloc o1).alloc (.cells C 5 (C.size, C.size + 1))) from by have := kc (w.alloc o1) C n c; simpa using this)
  obtain ⟨w1, hw1⟩ : ∃ w1, (w.alloc (.cells #[.int .u8 97, .int .u8 98] 5 (2, 3))).alloc (.cells #[.int .u8 99, .int .u8 100] 5 (2, 3)) = w1 := ⟨_, rfl⟩
  have hb1 : Below w.heap.size w w1 := hw1 ▸ below_alloc (below_alloc (Below.refl _ _) _) _
  have s1 : (w.alloc (.cells #[.int .u8 97, .int .u8 98] 5 (2, 3))).heap.size = w.heap.size + 1 := by simp
  have r0 : Rd w1 (some ⟨w.heap.size, 0, none⟩) [97, 98] := hw1 ▸ (rd_mark w [97, 98] #[.int .u8 97, .int .u8 98] (2, 3) rfl (by simp)).below (below_alloc (Below.refl _ _) _)
  have r1 : Rd w1 (some ⟨w.heap.size + 1, 0, none⟩) [99, 100] := by rw [← s1, ← hw1]; exact rd_mark _ [99, 100] #[.int .u8 99, .int .u8 100] (2, 3) rfl (by simp)
  have HAP := Lib.hid (fun (c cd : Nat) (hc : 2 ≤ c) => (show Calls Try.prog 26 #[.agg #[.slice (some ⟨w.heap.size, 0, none⟩) 2 c, .slice none 0 0], .slice (some ⟨w.heap.size + 1, 0, none⟩) 2 cd] w1 (InoN ([97, 98], [(false, 2, [99, 100])]) 0 (fun k => k < w1.heap.size) w1) from by
    have := append_came (some ⟨w.heap.size, 0, none⟩) c [97, 98] none 0 [] (some ⟨w.heap.size + 1, 0, none⟩) cd [99, 100] w1 (by simp) r0 (Kd.C_nil kWr w1) (by simpa using hc) (by simp) r1 (by simp) (by simp)
    rw [show appX [97, 98] [] [99, 100] = ([97, 98], [(false, 2, [99, 100])]) by decide, show appN [97, 98] [] [99, 100] = 0 by decide] at this
    exact this))
  have HW1 := Lib.hid hw1
  have HB1 := Lib.hid hb1
  have HSV := Lib.hid (show survL [97, 98] [(false, (2 : Int64), [99, 100])] [1] = [97, 98, 99] by decide)
  have HNA := Lib.hid (show allL [97, 98] [(false, (2 : Int64), [99, 100])] = [97, 98, 99, 100] by decide)
  have HNB := Lib.hid (show allL [97, 98, 99] [] = [97, 98, 99] by decide)
  have HCR := Lib.hid (fun (A : Option Addr) (c : Nat) (A2 : Option Addr) (c2 : Nat) (Ac : Option Addr) (W : World) (hc : 2 ≤ c) (h1 : Rd W A [97, 98]) (h2 : RdW W A2 [(false, (2 : Int64), [99, 100])]) (h3 : Rd W Ac [1]) => (show Calls Try.prog 25 #[.agg #[.slice A 2 c, .slice A2 1 c2], .slice Ac 1 1] W (InoR [97, 98, 99] [] W) from HSV.out ▸ crash_any A c [97, 98] A2 c2 [(false, (2 : Int64), [99, 100])] Ac 1 [1] W (by simp) h1 h2 hc (by simp) h3 (by simp)))
  have HNW := Lib.hid (fun (A : Option Addr) (c : Nat) (A2 : Option Addr) (c2 : Nat) (W : World) (hc : 2 ≤ c) (h1 : Rd W A [97, 98]) (h2 : RdW W A2 [(false, (2 : Int64), [99, 100])]) => (show Calls Try.prog 27 #[.agg #[.slice A 2 c, .slice A2 1 c2]] W (Made W [97, 98, 99, 100]) from HNA.out ▸ now_any A c [97, 98] A2 c2 [(false, (2 : Int64), [99, 100])] W (by simp) hc h1 h2))
  have HNX := Lib.hid (fun (A : Option Addr) (c : Nat) (A2 : Option Addr) (c2 : Nat) (W : World) (hc : 3 ≤ c) (h1 : Rd W A [97, 98, 99]) (h2 : RdW W A2 []) => (show Calls Try.prog 27 #[.agg #[.slice A 3 c, .slice A2 0 c2]] W (Made W [97, 98, 99]) from (by have := now_any A c [97, 98, 99] A2 c2 [] W (by simp) hc h1 h2; rw [HNB.out] at this; exact this)))
  have HSM := Lib.hid (fun (A : Option Addr) (c : Nat) (A2 : Option Addr) (c2 : Nat) (W : World) (h1 : Rd W A [97, 98, 99, 100]) (h2 : Rd W A2 [97, 98, 99, 100]) => (show Calls Try.prog 14 #[.slice A 4 c, .slice A2 4 c2] W (Quiet (.bool true) W) from same_yes A c A2 c2 [97, 98, 99, 100] W (by simp) h1 h2))
  have HSN := Lib.hid (fun (A : Option Addr) (c : Nat) (A2 : Option Addr) (c2 : Nat) (W : World) (h1 : Rd W A [97, 98, 99]) (h2 : Rd W A2 [97, 98, 99]) => (show Calls Try.prog 14 #[.slice A 3 c, .slice A2 3 c2] W (Quiet (.bool true) W) from same_yes A c A2 c2 [97, 98, 99] W (by simp) h1 h2))
  clear hw1 hb1 s1 r0 r1
  go_enter Try.func29, Try.ntmps29
  go_wp2_with fail
  rw [HW1.out]
  refine (HAP.out _ _ (by omega)).mono ?_
  clear kc2
  rintro e w2 hI
  obtain ⟨A3, c3, A4, c4, rfl, hc3, hc4, hr3, hr4, hb⟩ := ino_n hI
  dsimp only at hc3 hc4 hr3 hr4
  have HR3 := Lib.hid hr3
  have HR4 := Lib.hid hr4
  have HB2 := Lib.hid (below_step' HB1.out hb)
  clear hI hr3 hr4 hb
  go_wp2_with (refine wpList_box rfl rfl 37 _ _ rfl rfl #[.slice A3 2 c3, .slice A4 1 c4] _ zeroIn rfl rfl rfl infoIn (by simp [Value.oneCell']) ?_)
  have hbx : Below w2.heap.size w2 ((w2.alloc (.cells #[.slice A3 2 c3, .slice A4 1 c4] 37)).alloc (.cells #[.int .u8 1] 5)) := below_alloc (below_alloc (Below.refl _ _) _) _
  refine (HCR.out A3 c3 A4 c4 _ _ hc3 (HR3.out.below hbx) (Kd.C_below HR4.out hbx) (by have := rd_mark (w2.alloc (.cells #[.slice A3 2 c3, .slice A4 1 c4] 37)) [1] #[.int .u8 1] (0, 0) rfl (by simp); simpa using this)).mono ?_
  rintro e w3 ⟨A5, c5, A6, c6, rfl, hc5, hc6, hr5, hr6, hb⟩
  have HG1 := Lib.hid (blk_below (blk_alloc (blk_new w2 (.cells #[.slice A3 2 c3, .slice A4 1 c4] 37)) (.cells #[.int .u8 1] 5)) hb)
  have HB23 := Lib.hid (below_step' hbx hb)
  have HB3 := Lib.hid (below_step' HB2.out HB23.out)
  have HR5 := Lib.hid hr5
  have hcc := fun i => blk_cell HG1.out i
  have hz := blk_lt HG1.out
  clear hbx hb hr5 hr6
  go_wp2_with (refine wpList_box rfl rfl 37 _ _ rfl rfl #[.slice A5 3 c5, .slice none 0 0] _ zeroIn rfl rfl rfl infoIn (by simp [Value.oneCell']) ?_)
  have hb4 : Below w3.heap.size w3 (w3.alloc (.cells #[.slice A5 3 c5, .slice none 0 0] 37)) := below_alloc (Below.refl _ _) _
  refine (HNW.out A3 c3 A4 c4 _ hc3 (HR3.out.below (below_step' HB23.out hb4)) (Kd.C_below HR4.out (below_step' HB23.out hb4))).mono ?_
  rintro e w4 ⟨v4, rfl, hown, hb⟩
  obtain ⟨A7, c7, rfl, -, hr7⟩ := hown.reads
  have HG3 := Lib.hid (blk_below (blk_new w3 (.cells #[.slice A5 3 c5, .slice none 0 0] 37)) hb)
  have HB34 := Lib.hid (below_step' hb4 hb)
  have HR7 := Lib.hid hr7
  have HR54 := Lib.hid (HR5.out.below HB34.out)
  clear hown hb hr7 hb4 hcc hz
  have kw4 := kc w4
  go_wp2_with fail
  refine (HSM.out A7 c7 _ _ _ (HR7.out.below (below_alloc (Below.refl _ _) _)) (rd_mark w4 [97, 98, 99, 100] _ _ rfl (by simp))).mono ?_
  rintro e w5 ⟨rfl, n, hw5⟩
  have hb45 : Below w4.heap.size w4 w5 := hw5 ▸ pw_below_drewN (below_alloc (Below.refl _ _) _) n
  have HB35 := Lib.hid (below_step' HB34.out hb45)
  have HG5 := Lib.hid (blk_below HG3.out hb45)
  have HR55 := Lib.hid (HR54.out.below hb45)
  have hcc := fun i => blk_cell HG5.out i
  have hz := blk_lt HG5.out
  clear hw5 hb45
  go_wp2_with fail
  refine (HNX.out A5 c5 none 0 w5 hc5 HR55.out (Kd.C_nil kWr w5)).mono ?_
  rintro e w6 ⟨v6, rfl, hown, hb⟩
  obtain ⟨A8, c8, rfl, -, hr8⟩ := hown.reads
  have HR8 := Lib.hid hr8
  have HB36 := Lib.hid (below_step' HB35.out hb)
  clear hown hb hr8 hcc hz
  go_wp2_with fail
  refine (HSN.out A8 c8 _ _ _ (HR8.out.below (below_alloc (Below.refl _ _) _)) (rd_mark w6 [97, 98, 99] _ _ rfl (by simp))).mono ?_
  rintro e w7 ⟨rfl, n, hw7⟩
  have hb67 : Below w6.heap.size w6 w7 := hw7 ▸ pw_below_drewN (below_alloc (Below.refl _ _) _) n
  have HB37 := Lib.hid (below_step' HB36.out hb67)
  clear hw7 hb67
  go_wp2_with fail
  go_ret
  exact ⟨rfl, below_step' HB3.out HB37.out⟩
end Go.Proofs.Ytkgbimkjpllakaa.In
