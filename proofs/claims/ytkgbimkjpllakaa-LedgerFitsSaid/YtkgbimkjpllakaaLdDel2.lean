/- slices.DeleteFunc of loads by Victim's closure: some are passed over. -/
import Derived.Test.YtkgbimkjpllakaaLdDel
set_option linter.unusedVariables false
set_option linter.unusedSimpArgs false
namespace Go.Proofs.Ytkgbimkjpllakaa.Ld
open Go.RowKit Go.Proofs.YtkgbimkjpllakaaW.PrintWords Go.Proofs.Ytkgbimkjpllakaa.B Go.Proofs.Ytkgbimkjpllakaa.O Go.Proofs.Ytkgbimkjpllakaa.Sc
theorem zeroLo (w : World) : (zeroValue 55).run Try.prog w = .ok (.agg #[.int .i64 0, .int .i64 0, .int .i64 0]) w := by kernel_rfl
theorem OwnL.elem {W : World} {base g n cap : Nat} {xs : List Lo} (h : OwnL W base (.slice (some ⟨g, 0, none⟩) n cap) xs) (i : Nat) (hi : i < n) :
    W.cell? ⟨g, i * 3, none⟩ = some (.int .i64 (lo xs i).1.toInt) ∧ W.cell? ⟨g, i * 3 + 1, none⟩ = some (.int .i64 (lo xs i).2.1.toInt) ∧ W.cell? ⟨g, i * 3 + 2, none⟩ = some (.int .i64 (lo xs i).2.2.toInt) := by
  obtain ⟨c, hcl, hM, hcc, -⟩ := Kd.R_elem h (0, 0, 0) (i : Int) (by omega) (by omega)
  rw [Int.toNat_natCast] at hM hcc
  obtain ⟨c0, r0, rfl, h0, c1, r1, rfl, h1, h2⟩ := hM
  rw [show c0 = [_] from h0, show c1 = [_] from h1, show r1 = [_] from h2] at hcc
  exact ⟨hcc 0 _ rfl, hcc 1 _ rfl, hcc 2 _ rfl⟩
theorem lo_drop {xs l : List Lo} {b : Nat} (h : xs.drop b = l.drop b) : lo xs b = lo l b := by
  have h1 := congrArg (fun q : List Lo => q[0]?) h
  simp only [List.getElem?_drop, Nat.add_zero] at h1
  unfold lo; rw [List.getD_eq_getElem?_getD, List.getD_eq_getElem?_getD, h1]
theorem drop_next {xs l : List Lo} {b : Nat} (h : xs.drop b = l.drop b) : xs.drop (b + 1) = l.drop (b + 1) := by
  rw [← List.drop_drop, ← List.drop_drop, h]
theorem drop_set {xs l : List Lo} {a b : Nat} (x : Lo) (hab : a < b) (h : xs.drop b = l.drop b) : (xs.set a x).drop (b + 1) = l.drop (b + 1) := by
  rw [List.drop_set_of_lt (by omega)]; exact drop_next h
set_option maxRecDepth 100000 in
set_option maxHeartbeats 1600000 in
theorem del1_any (A : Option Addr) (c : Nat) (l : List Lo) (base : Nat) (gn gf gl : Nat) (An : Option Addr) (cn : Nat) (n : List Int64) (lim : Nat) (w : World) (hlim : lim < 18446744073709551616) (h : ∀ W, Below base w W → Held gn gf gl An cn n lim W) (hbase : base ≤ w.heap.size) (ho : OwnL w base (.slice A l.length c) l) (hsome : ∃ j, j < l.length ∧ delB n lim (lo l j) = true) :
    Calls Try.prog 51 #[.slice A l.length c, .func (.func 53) #[] #[.pointer (some ⟨gn, 0, none⟩), .pointer (some ⟨gf, 0, none⟩), .pointer (some ⟨gl, 0, none⟩)]] w (DelE (l.filter (fun x => !delB n lim x)) base w) := by
  have HI := Lib.hid (idx_any A c l gn gf gl An cn n lim w hlim (h w (Below.refl _ _)) (Kd.R_reads' ho).2.2)
  have HDEL := Lib.hid (fun (x : Lo) (W : World) (hb : Below base w W) => del_any x gn gf gl An cn n lim W hlim (h W hb))
  have hl := (show RdL w A l from (Kd.R_reads' ho).2.2).len
  have hlc : l.length ≤ c := (Kd.R_reads' ho).2.1
  obtain ⟨j0, hj0, hj1⟩ := hsome
  obtain ⟨g, cap, he, hg1, hg2, -⟩ := Kd.R_form ho (by omega)
  injection he with he1 he2 he3
  subst he1 he3
  have HO := Lib.hid ho
  generalize delB n lim = p at *
  have HJ := Lib.hid (show ∃ j, j < l.length ∧ p (lo l j) = true from ⟨j0, hj0, hj1⟩)
  clear h ho hj0 hj1
  go_enter Try.func51, Try.ntmps51
  go_wp2_with fail
  refine HI.out.mono ?_
  rintro e w1 ⟨r, rfl, hr, hb⟩
  obtain ⟨k, rfl, hk, hpk, hkn⟩ : ∃ k : Nat, r = k ∧ k < l.length ∧ p (lo l k) = true ∧ ∀ j, j < k → p (lo l j) = false := by
    rcases hr with ⟨-, h1⟩ | h
    · obtain ⟨j, h2, h3⟩ := HJ.out
      rw [h1 j h2] at h3; cases h3
    · exact h
  have HO1 := Lib.hid (show OwnL w1 base (.slice (some ⟨g, 0, none⟩) l.length c) l from Kd.R_below HO.out hb)
  have HB := Lib.hid (show Below base w w1 from below_then (Below.refl base w) hbase hb)
  have HT := Lib.hid (show l.take k = (l.take (k + 1)).filter (fun x => !p x) from keep_step hk (keep_none (by omega) hkn).symm hpk)
  have hne : ((k : Int) == -1) = false := by rw [beq_eq_false_iff_ne]; omega
  clear hr hb hkn hpk HJ HI
  go_wp2_with fail
  go_loopw [5, 6] (fun i j wr => ∃ (a b : Nat) (xs : List Lo), a < b ∧ b ≤ l.length ∧ i = .int .i64 a ∧ j = .int .i64 b ∧ Hid (xs.length = l.length) ∧ Hid (xs.take a = (l.take b).filter (fun x => !p x)) ∧ Hid (xs.drop b = l.drop b) ∧ Hid (OwnL wr base (.slice (some ⟨g, 0, none⟩) l.length c) xs) ∧ Hid (Below base w wr)) (fun _ j _ => l.length - (intOf j).toNat)
  case atStart => exact ⟨k, k + 1, l, by omega, by omega, rfl, by go_num, rfl, HT, rfl, HO1, HB⟩
  case round =>
    obtain ⟨a, b, xs, hab, hbl, rfl, rfl, HXL, HK, HDR, HOr, HBr⟩ := hrel
    by_cases hlt : b < l.length
    · obtain ⟨e0, e1, e2⟩ := HOr.out.elem b hlt
      rw [lo_drop HDR.out] at e0 e1 e2
      have HDk := Lib.hid (HDEL.out (lo l b))
      cases hp : p (lo l b) with
      | true =>
        have HK2 := Lib.hid (keep_step hlt HK.out hp)
        have HDR2 := Lib.hid (drop_next HDR.out)
        rw [hp] at HDk
        clear hp
        generalize (lo l b).1.toInt = x0 at *
        generalize (lo l b).2.1.toInt = x1 at *
        generalize (lo l b).2.2.toInt = x2 at *
        go_wp2_with (refine wpList_box rfl rfl 55 _ _ rfl rfl #[.int .i64 x0, .int .i64 x1, .int .i64 x2] _ zeroLo rfl rfl rfl infoLd (by simp [Value.oneCell']) ?_)
        have hb1 : Below wr.heap.size wr (wr.alloc (.cells #[.int .i64 x0, .int .i64 x1, .int .i64 x2] 55)) := below_alloc (Below.refl _ _) _
        have hbr : base ≤ wr.heap.size := Nat.le_trans hbase HBr.out.size
        refine (HDk.out _ (below_then HBr.out hbr hb1)).mono ?_
        rintro e w2 ⟨rfl, hb⟩
        have HB2 := Lib.hid (below_then HBr.out hbr (below_step' hb1 hb))
        have HO2 := Lib.hid (show OwnL w2 base (.slice (some ⟨g, 0, none⟩) l.length c) xs from Kd.R_below HOr.out (below_step' hb1 hb))
        clear hb hb1
        go_wp2_with fail
        go_roundw
        case rel => exact ⟨a, b + 1, xs, by omega, by omega, rfl, by go_num, HXL, HK2, HDR2, HO2, HB2⟩
        case measure => simp [intOf]; omega
      | false =>
        have HK2 := Lib.hid (keep_put hlt (by rw [HXL.out]; omega) HK.out hp)
        have HDR2 := Lib.hid (drop_set (lo l b) hab HDR.out)
        have HXL2 := Lib.hid (show (xs.set a (lo l b)).length = l.length by rw [List.length_set]; exact HXL.out)
        rw [hp] at HDk
        clear hp
        have HM := Lib.hid (fun (W : World) (cc : List Value) (hcc : cc.length = 3) => (show kLo.M W base (fun _ => False) (lo l b) (cc.take 0 ++ [.int .i64 (lo l b).1.toInt, .int .i64 (lo l b).2.1.toInt, .int .i64 (lo l b).2.2.toInt] ++ cc.drop (0 + 3)) from by
          rw [List.take_zero, List.nil_append, List.drop_eq_nil_of_le (by omega), List.append_nil]
          exact ⟨[_], _, rfl, rfl, [_], [_], rfl, rfl, rfl⟩))
        generalize (lo l b).1.toInt = x0 at *
        generalize (lo l b).2.1.toInt = x1 at *
        generalize (lo l b).2.2.toInt = x2 at *
        go_wp2_with (refine wpList_box rfl rfl 55 _ _ rfl rfl #[.int .i64 x0, .int .i64 x1, .int .i64 x2] _ zeroLo rfl rfl rfl infoLd (by simp [Value.oneCell']) ?_)
        have hb1 : Below wr.heap.size wr (wr.alloc (.cells #[.int .i64 x0, .int .i64 x1, .int .i64 x2] 55)) := below_alloc (Below.refl _ _) _
        have hbr : base ≤ wr.heap.size := Nat.le_trans hbase HBr.out.size
        refine (HDk.out _ (below_then HBr.out hbr hb1)).mono ?_
        rintro e w2 ⟨rfl, hb⟩
        have HB2 := Lib.hid (below_then HBr.out hbr (below_step' hb1 hb))
        have HO2 := Lib.hid (show OwnL w2 base (.slice (some ⟨g, 0, none⟩) l.length c) xs from Kd.R_below HOr.out (below_step' hb1 hb))
        have HG2 := Lib.hid (blk_below (blk_new wr (.cells #[.int .i64 x0, .int .i64 x1, .int .i64 x2] 55)) hb)
        have q0 : w2.cell? ⟨wr.heap.size, 0, none⟩ = some (.int .i64 x0) := blk_cell HG2.out 0
        have q1 : w2.cell? ⟨wr.heap.size, 1, none⟩ = some (.int .i64 x1) := blk_cell HG2.out 1
        have q2 : w2.cell? ⟨wr.heap.size, 2, none⟩ = some (.int .i64 x2) := blk_cell HG2.out 2
        have qz := blk_lt HG2.out
        obtain ⟨cc, hcl, -, hcc, -⟩ := Kd.R_elem HO2.out (0, 0, 0) (a : Int) (by omega) (by omega)
        have HCC := Lib.hid hcc
        have HA0 := Lib.hid (show (0 : Int) ≤ (a : Int) by omega)
        have HA1 := Lib.hid (show (a : Int) < (l.length : Int) by omega)
        have HMM := Lib.hid (HM.out w2 cc hcl)
        have hal : a < l.length := by omega
        clear hb hb1 hcc
        go_wp2_with (refine Kd.R_store kLo (w0 := w) base rfl rfl 55 (.tmp 33) (.tmp 32) rfl 55 (a : Int) 0 xs (lo l b) (.agg #[.int .i64 x0, .int .i64 x1, .int .i64 x2]) [.int .i64 x0, .int .i64 x1, .int .i64 x2] cc (fun _ => True) (fun _ => False) rfl rfl rfl rfl infoLd (by simp [Value.oneCell']) HO2.out HA0.out HA1.out hcl HCC.out (Nat.le_refl 3) HMM.out (fun _ hk => hk.elim) HB2.out ?_; intro w3 ho3 hb3 hg3; have HO3 := Lib.hid ho3; have HB3 := Lib.hid hb3; clear ho3 hb3 hg3)
        go_roundw
        case rel => exact ⟨a + 1, b + 1, xs.set a (lo l b), by omega, by omega, by go_num, by go_num, HXL2, HK2, HDR2, HO3, HB3⟩
        case measure => simp [intOf]; omega
    · obtain rfl : b = l.length := by omega
      rw [List.take_length] at HK
      have hel : ∀ j, j < (l.length - a) * 3 → ∃ u, wr.cell? ⟨g, a * 3 + j, none⟩ = some u ∧ wr.frozen? ⟨g, a * 3 + j, none⟩ = false := fun j hj => by
        obtain ⟨cc, hcl, -, hcc, hff⟩ := Kd.R_elem HOr.out (0, 0, 0) ((a + j / 3 : Nat) : Int) (by omega) (by omega)
        rw [Int.toNat_natCast] at hcc hff
        have hcl3 : cc.length = 3 := hcl
        have hlt3 : j % 3 < cc.length := by omega
        have e : (a + j / 3) * kLo.sz + j % 3 = a * 3 + j := by show (a + j / 3) * 3 + j % 3 = _; omega
        exact ⟨cc[j % 3], by rw [← e]; exact hcc (j % 3) _ (List.getElem?_eq_getElem hlt3), by rw [← e]; exact hff (j % 3)⟩
      have hcl : ∀ ty, (Builtin.clear_ #[49] ty #[.slice (some ⟨g, a * 3, none⟩) (l.length - a) (c - a)]).run Try.prog wr = .ok (.tuple #[]) (wr.setCells g (a * 3) (Builtin.zeroCells zLo (l.length - a)).toList) := fun ty =>
        run_clear_rows wr _ _ ty (.agg zLo) undLo zeroLo (by simp [zLo, Value.cells, Value.oneCell']) g (a * 3) _ _ (by omega) (fun j hj => by obtain ⟨u, h1, -⟩ := hel j hj; rw [h1]; rfl) (fun j hj => (hel j hj).choose_spec.2)
      obtain ⟨ys, hy1, hy2, hy3⟩ := row_zeros (l.length - a) a HOr.out (by omega)
      have hyl : a ≤ ys.length := by rw [← (Kd.R_reads' hy1).1]; omega
      have HY := Lib.hid (show OwnL _ base (.slice (some ⟨g, 0, none⟩) a c) (l.filter (fun x => !p x)) from by have h := Kd.R_take (m := a) hy1 hyl; rw [hy2, HK.out] at h; exact h)
      have HB9 := Lib.hid (pw_below_grown HBr.out (some g) (Nat.le_trans hbase HBr.out.size) hy3 (fun k hk => by injection hk with hk; omega))
      have hac : ¬ c = a := by omega
      have hal : a ≤ l.length := by omega
      clear hel hy1 hy2 hy3
      go_wp2_with fail
      go_ret
      exact ⟨_, rfl, HY.out, HB9.out⟩
end Go.Proofs.Ytkgbimkjpllakaa.Ld
