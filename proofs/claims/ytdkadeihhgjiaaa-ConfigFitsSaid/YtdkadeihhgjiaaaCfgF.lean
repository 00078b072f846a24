/- law27: ConfigFits. -/
import Derived.Test.YtdkadeihhgjiaaaCfgK
set_option linter.unusedVariables false
set_option linter.unusedSimpArgs false
namespace Go.Proofs.Ytdkadeihhgjiaaa.B
open Go.RowKit Go.Proofs.YtdkadeihhgjiaaaW.PrintWords
theorem fold_listC : ∀ (ys pre Z : List Value), Z.length = ys.length → (ys.zipIdx pre.length).foldl (fun (cs : Array Value) (x : Value × Nat) => cs.setIfInBounds x.2 x.1) (pre ++ Z).toArray = (pre ++ ys).toArray
  | [], pre, Z, h => by
    obtain rfl : Z = [] := List.eq_nil_of_length_eq_zero h
    rfl
  | y :: ys, pre, [], h => by simp at h
  | y :: ys, pre, z :: Z, h => by
    have ih := fold_listC ys (pre ++ [y]) Z (by simpa using h)
    rw [List.zipIdx_cons, List.foldl_cons]
    have e : ((pre ++ z :: Z).toArray.setIfInBounds pre.length y) = (pre ++ [y] ++ Z).toArray := by
      rw [List.setIfInBounds_toArray, List.set_append_right _ _ (Nat.le_refl _), Nat.sub_self, List.set_cons_zero]; simp
    show (ys.zipIdx (pre.length + 1)).foldl _ ((pre ++ z :: Z).toArray.setIfInBounds pre.length y) = _
    rw [e]
    rw [List.length_append] at ih
    rw [show pre ++ y :: ys = pre ++ [y] ++ ys by simp]
    exact ih
theorem fold_cellsC (Y Z : Array Value) (h : Z.size = Y.size) : Y.zipIdx.foldl (fun (cs : Array Value) (x : Value × Nat) => cs.setIfInBounds x.2 x.1) Z = Y := by
  rw [← Array.foldl_toList, Array.toList_zipIdx]
  have h1 := fold_listC Y.toList [] Z.toList (by simpa using h)
  simpa using h1
section
variable {P : Program} {ops : Array Oper} {rest : List Oper} {o : Oper} {a : Act} {Q : Exit → Act → World → Prop} {w : World}
theorem run_buildOneC (t e : TypeId) (hu : P.underlying t = some (.slice e)) (Y zs : Array Value) (hi : (P.info? e).map (·.size) = some Y.size) (hn : 0 < Y.size ∧ Y.size ≤ 16777216) (hz : ∀ w, (zeroValue e).run P w = .ok (.agg zs) w) (w : World) :
    (Instr.buildSlice t 1 #[(0, .agg Y)]).run P w = .ok (.slice (some ⟨w.heap.size, 0, none⟩) 1 1) (w.alloc (.cells Y e)) := by
  have hf := fold_cellsC Y ((Array.range Y.size).map (zs[· % zs.size]!)) (by simp)
  have hc : (Value.agg Y).cells = Y := rfl
  have hfill : Instr.fill (fun i => some (i * Y.size, Y.size)) ((Array.range (1 * Y.size)).map (zs[· % zs.size]!)) [(0, .agg Y)] = some Y := by
    unfold Instr.fill
    simp only [hc, Nat.zero_mul, Nat.zero_add, Nat.one_mul]
    rw [if_neg (by simp)]
    unfold Instr.fill
    rw [hf]
  unfold Instr.buildSlice
  obtain ⟨i, hi1, hi2⟩ := Option.map_eq_some_iff.1 hi
  have hs : ∀ w, (sizeOf e).run P w = .ok Y.size w := fun w => by
    rw [run_sizeOf w hi1]; unfold Program.cellsOf; rw [hi1]; simp [hi2]
  simp only [Sem.run_bind, run_underlying hu, hs, Result.andThen_ok, Sem.run_pure]
  rw [if_neg (by omega), if_neg (by omega)]
  simp only [Sem.run_bind, hz, Result.andThen_ok, Sem.run_pure]
  have hc2 : (Value.agg zs).cells = zs := rfl
  rw [hc2, hfill]
  simp [newRow]
theorem wpList_buildOneC (h1 : o.guard = none) (t e : TypeId) (x : Operand) (ho : o.op = .buildSlice t 1 #[(0, x)]) (hu : P.underlying t = some (.slice e)) (Y zs : Array Value) (hx : a.eval x = .agg Y) (hi : (P.info? e).map (·.size) = some Y.size) (hn : 0 < Y.size ∧ Y.size ≤ 16777216) (hz : ∀ w, (zeroValue e).run P w = .ok (.agg zs) w)
    (h : wpList P ops Q rest (a.put o.dst (.slice (some ⟨w.heap.size, 0, none⟩) 1 1)) (w.alloc (.cells Y e))) : wpList P ops Q (o :: rest) a w := by
  refine wpList_plain h1 fun K hK => ?_
  unfold Oper.wp execOp
  simp only [ho, Sem.run_bind, Sem.run_pure, List.map_toArray, List.map_cons, List.map_nil, hx, run_buildOneC t e hu Y zs hi hn hz, Result.andThen_ok]
  exact hK _ _ h
end
theorem fold_at (off : Nat) : ∀ (ys pre Z T : List Value) (k : Nat), Z.length = ys.length → pre.length = off + k → (ys.zipIdx k).foldl (fun (cs : Array Value) (x : Value × Nat) => cs.setIfInBounds (off + x.2) x.1) (pre ++ Z ++ T).toArray = (pre ++ ys ++ T).toArray
  | [], pre, Z, T, k, h, _ => by
    obtain rfl : Z = [] := List.eq_nil_of_length_eq_zero h
    rfl
  | y :: ys, pre, [], T, k, h, _ => by simp at h
  | y :: ys, pre, z :: Z, T, k, h, hp => by
    have ih := fold_at off ys (pre ++ [y]) Z T (k + 1) (by simpa using h) (by simp; omega)
    rw [List.zipIdx_cons, List.foldl_cons]
    have e : ((pre ++ z :: Z ++ T).toArray.setIfInBounds (off + k) y) = (pre ++ [y] ++ Z ++ T).toArray := by
      rw [← hp, List.append_assoc, List.setIfInBounds_toArray, List.set_append_right _ _ (Nat.le_refl _), Nat.sub_self, List.cons_append, List.set_cons_zero]; simp
    show (ys.zipIdx (k + 1)).foldl _ ((pre ++ z :: Z ++ T).toArray.setIfInBounds (off + k) y) = _
    rw [e, ih]; simp
section
variable {P : Program} {ops : Array Oper} {rest : List Oper} {o : Oper} {a : Act} {Q : Exit → Act → World → Prop} {w : World}
theorem run_buildTwo (t e : TypeId) (hu : P.underlying t = some (.slice e)) (Y zs : Array Value) (hi : (P.info? e).map (·.size) = some Y.size) (hn : 0 < Y.size ∧ Y.size ≤ 1048576) (hz : ∀ w, (zeroValue e).run P w = .ok (.agg zs) w) (w : World) :
    (Instr.buildSlice t 2 #[(0, .agg Y), (1, .agg Y)]).run P w = .ok (.slice (some ⟨w.heap.size, 0, none⟩) 2 2) (w.alloc (.cells (Y ++ Y) e)) := by
  obtain ⟨Z, hZ⟩ : ∃ Z : Array Value, (Array.range (2 * Y.size)).map (zs[· % zs.size]!) = Z := ⟨_, rfl⟩
  have hZs : Z.size = 2 * Y.size := by rw [← hZ]; simp
  have hc : (Value.agg Y).cells = Y := rfl
  have hf1 : Y.zipIdx.foldl (fun (cs : Array Value) (x : Value × Nat) => cs.setIfInBounds (0 + x.2) x.1) Z = (Y.toList ++ Z.toList.drop Y.size).toArray := by
    have h := fold_at 0 Y.toList [] (Z.toList.take Y.size) (Z.toList.drop Y.size) 0 (by simp; omega) rfl
    rw [List.nil_append, List.take_append_drop, List.nil_append] at h
    rw [← Array.foldl_toList, Array.toList_zipIdx]
    simpa using h
  have hf2 : Y.zipIdx.foldl (fun (cs : Array Value) (x : Value × Nat) => cs.setIfInBounds (Y.size + x.2) x.1) (Y.toList ++ Z.toList.drop Y.size).toArray = Y ++ Y := by
    have h := fold_at Y.size Y.toList Y.toList (Z.toList.drop Y.size) [] 0 (by simp; omega) (by simp)
    rw [List.append_nil, List.append_nil] at h
    rw [← Array.foldl_toList, Array.toList_zipIdx, h]
    simp
  have hfill : Instr.fill (fun i => some (i * Y.size, Y.size)) Z [(0, .agg Y), (1, .agg Y)] = some (Y ++ Y) := by
    unfold Instr.fill
    simp only [hc, Nat.zero_mul]
    rw [if_neg (by simp; omega), hf1]
    unfold Instr.fill
    simp only [hc, Nat.one_mul]
    rw [if_neg (by simp; omega), hf2]
    unfold Instr.fill
    rfl
  unfold Instr.buildSlice
  obtain ⟨i, hi1, hi2⟩ := Option.map_eq_some_iff.1 hi
  have hs : ∀ w, (sizeOf e).run P w = .ok Y.size w := fun w => by
    rw [run_sizeOf w hi1]; unfold Program.cellsOf; rw [hi1]; simp [hi2]
  simp only [Sem.run_bind, run_underlying hu, hs, Result.andThen_ok, Sem.run_pure]
  rw [if_neg (by omega), if_neg (by omega)]
  simp only [Sem.run_bind, hz, Result.andThen_ok, Sem.run_pure]
  have hc2 : (Value.agg zs).cells = zs := rfl
  rw [hc2, hZ, hfill]
  simp [newRow]
theorem wp_buildTwo (t e : TypeId) (x y : Operand) (ho : o.op = .buildSlice t 2 #[(0, x), (1, y)]) (hu : P.underlying t = some (.slice e)) (Y zs : Array Value) (hx : a.eval x = .agg Y) (hy : a.eval y = .agg Y) (hi : (P.info? e).map (·.size) = some Y.size) (hn : 0 < Y.size ∧ Y.size ≤ 1048576) (hz : ∀ w, (zeroValue e).run P w = .ok (.agg zs) w) {K : Act → World → Prop}
    (h : K (a.put o.dst (.slice (some ⟨w.heap.size, 0, none⟩) 2 2)) (w.alloc (.cells (Y ++ Y) e))) : o.wp P a w K Q := by
  unfold Oper.wp execOp
  simp only [ho, Sem.run_bind, Sem.run_pure, List.map_toArray, List.map_cons, List.map_nil, hx, hy, run_buildTwo t e hu Y zs hi hn hz, Result.andThen_ok]
  exact h
end
end Go.Proofs.Ytdkadeihhgjiaaa.B
namespace Go.Proofs.Ytdkadeihhgjiaaa.Cf
open Go.RowKit Go.Proofs.YtdkadeihhgjiaaaW.PrintWords Go.Proofs.Ytdkadeihhgjiaaa.B Go.Proofs.Ytdkadeihhgjiaaa.Fx Go.Proofs.Ytdkadeihhgjiaaa.Fr Go.Proofs.Ytdkadeihhgjiaaa.O Go.Proofs.Ytdkadeihhgjiaaa.Rc Go.Proofs.Ytdkadeihhgjiaaa.Bt
/-- a record's cells are those of its reading -/
theorem kRec_mk {w : World} (k : Int64) (s : UInt64) (d l : List UInt8) (nm : ByteArray) (n z : Int64) (A : Option Addr) (c : Nat) (hd : d.length = 32) (hr : Rd w A l) (hc : l.length ≤ c) :
    kRec.K w (k, s, d, nm, l, n, z) (recC k.toInt s.toNat d nm A l.length c n.toInt z.toInt).toList := by
  have hD : kD.K w d (d.map encB) := ⟨hd, by rw [List.length_map]; show d.length = d.length * 1; omega, fun i x hi => by
    have h1 : (d.map encB)[i]? = some (encB x) := by rw [List.getElem?_map, hi]; rfl
    obtain ⟨h2, h3⟩ := List.getElem?_eq_some_iff.1 h1
    show ((d.map encB).drop (i * 1)).take 1 = [encB x]
    rw [Nat.mul_one, List.drop_eq_getElem_cons h2, List.take_succ_cons, h3]; rfl⟩
  exact ⟨[_], _, rfl, rfl, [_], _, rfl, rfl, d.map encB, _, rfl, hD, [_], _, rfl, rfl, [_], _, rfl, ⟨A, c, rfl, hc, hr⟩, [_], _, rfl, rfl, rfl⟩
/-! ### deletes -/
def delV : RecV := (5, 0, z32, ⟨#[]⟩, [], 0, 0)
def delC : Array Value := recC 5 0 z32 ⟨#[]⟩ none 0 0 0 0
theorem del_K (w : World) : kRec.K w delV delC.toList := kRec_mk 5 0 z32 [] ⟨#[]⟩ 0 0 none 0 rfl (Rd.nil w) (Nat.le_refl _)
def kDel : Kd RecV where
  sz := 38
  E := []
  K := fun _ x cs => x = delV ∧ cs = delC.toList
  M := fun _ _ _ x cs => x = delV ∧ cs = delC.toList
  K_len := fun h => by rw [h.2]; rfl
  K_one := fun {w x cs} h u hu => kRec.K_one (show kRec.K w delV cs from by rw [h.2]; exact del_K w) u hu
  K_below := fun _ h => h
  K_of_M := fun h => h
  M_mono := fun _ h => h
  M_bound := fun h => h
  M_move := fun _ h => h
  M_lower := fun _ h => h
def OwnD (w : World) (base : Nat) (v : Value) (l : List RecV) : Prop := Kd.R kDel 34 w base (fun _ => True) v l
theorem OwnD.nil (w : World) (base : Nat) : OwnD w base (.slice none 0 0) [] := Kd.R_nil _ _ _ _ _
theorem OwnD.below {w w1 : World} {base : Nat} {v : Value} {l : List RecV} (h : OwnD w base v l) (hb : Below w.heap.size w w1) : OwnD w1 base v l := Kd.R_below h hb
theorem OwnD.reads {w : World} {base : Nat} {v : Value} {l : List RecV} (h : OwnD w base v l) : ∃ A c, v = .slice A l.length c ∧ l.length ≤ c ∧ RdR w A l := by
  obtain ⟨A, c, h1, h2, h3⟩ := Kd.R_reads h
  exact ⟨A, c, h1, h2, Kd.C_imp (d := kDel) (d' := kRec) rfl (fun w x cs h => by rw [h.1, h.2]; exact del_K w) h3⟩
theorem infoRecB : (Try.prog.info? 34).map (fun i => (i.zero, i.size, i.bytes)) = some (some (.agg zRec), 38, 104) := by kernel_rfl
theorem undRs : Try.prog.underlying 35 = some (.slice 34) := Try.underlying35
def dels (n : Nat) : List RecV := List.replicate n delV
theorem dels_wrong : ∀ n, 0 < n → wrongE (dels n) = 0 := by
  intro n hn
  have hf : ∀ m, firstE (dels m) = 0 := by
    intro m
    induction m with
    | zero => rfl
    | succ m ih =>
      show firstE (delV :: dels m) = 0
      unfold firstE
      rw [if_pos (show eR delV = 0 from rfl)]; exact ih
  unfold wrongE
  rw [if_neg (by simp [dels]; omega), if_pos (by
    rw [List.all_eq_true]
    intro x hx
    obtain rfl := List.eq_of_mem_replicate hx
    rfl)]
  exact hf n
theorem del_len (s : Nat) : (bR s delV).length = 53 := by rw [bR_len]; decide +kernel
theorem dels_len : ∀ (n s : Nat), (allR s (dels n)).length = 53 * n
  | 0, s => rfl
  | n + 1, s => by
    show (allR s (delV :: dels n)).length = 53 * (n + 1)
    rw [allR, List.length_append, del_len, dels_len n]; omega
theorem dels_siz (n : Nat) (hn : 0 < n) : sizL (dels n) = 29 + 53 * n := by unfold sizL; rw [if_pos (dels_wrong n hn), dels_len]
theorem dels_ms (n : Nat) : ms mRec (dels n) = n * mRec delV + 1 := by unfold ms dels; simp
theorem dels_le (n : Nat) (h : n ≤ 1234) : ms mRec (dels n) ≤ 1048576 := by
  rw [dels_ms, show mRec delV = 40 from by decide +kernel]; omega
theorem dels_snoc (n : Nat) : dels n ++ [delV] = dels (n + 1) := by unfold dels; rw [List.replicate_succ']
/-! ### two blobs -/
def blV (m : Nat) : RecV := (1, 0, z32, ⟨#[]⟩, List.replicate m 0, 0, 0)
theorem bl_siz (m : Nat) (h : m ≤ 65504) : sizL [blV m, blV m] = 29 + 2 * (53 + m) := by
  have he : eR (blV m) = 0 := by
    show rightE 1 (List.replicate m (0 : UInt8)).length _ _ _ = 0
    unfold rightE
    rw [if_pos (by decide), if_neg (by simp; omega)]
  have hl : ∀ s, (bR s (blV m)).length = 53 + m := by
    intro s
    have he2 := he
    unfold eR at he2
    unfold bR makeR
    rw [if_pos he2, makeL_len]
    show 21 + (z32 ++ List.replicate m (0 : UInt8)).length = 53 + m
    rw [List.length_append, List.length_replicate, show z32.length = 32 from rfl]; omega
  have hw : wrongE [blV m, blV m] = 0 := by
    unfold wrongE
    rw [if_neg (by simp), if_pos (by rfl)]
    unfold firstE
    rw [if_pos he]
    unfold firstE
    rw [if_pos he]
    rfl
  unfold sizL
  rw [if_pos hw]
  unfold allR
  rw [List.length_append, hl]
  unfold allR
  rw [List.length_append, hl]
  simp [allR]; omega
theorem bl_le (m : Nat) (h : m ≤ 65504) : ms mRec [blV m, blV m] ≤ 1048576 := by
  have h2 : ms mB (List.replicate m (0 : UInt8)) = m + 1 := by unfold ms; simp [mB]
  have h1 : mRec (blV m) = 40 + m := by
    show 1 + (1 + (ms mB z32 + (0 + 1 + (ms mB (List.replicate m (0 : UInt8)) + (1 + 1))))) + 1 = 40 + m
    rw [show ms mB z32 = 33 from by decide +kernel, h2]
    omega
  unfold ms
  simp [h1]; omega
theorem bl_rows {w : World} {g m c : Nat} {A : Option Addr} (h : w.heap[g]? = some (.cells (recC 1 0 z32 ⟨#[]⟩ A m c 0 0 ++ recC 1 0 z32 ⟨#[]⟩ A m c 0 0) 34 (0, 0))) (hr : Rd w A (List.replicate m 0)) (hc : m ≤ c) : RdR w (some ⟨g, 0, none⟩) [blV m, blV m] := by
  have hK : kRec.K w (blV m) (recC 1 0 z32 ⟨#[]⟩ A m c 0 0).toList := by
    have h1 := kRec_mk (w := w) 1 0 z32 (List.replicate m 0) ⟨#[]⟩ 0 0 A c rfl hr (by simpa using hc)
    rwa [List.length_replicate] at h1
  have hS : (recC 1 0 z32 ⟨#[]⟩ A m c 0 0).toList.length = 38 := rfl
  refine ⟨rfl, by simp, fun _ => ⟨_, rfl, fun j p hj => ?_⟩⟩
  have hp : p = blV m := by
    rcases j with _ | _ | j
    · simpa using hj.symm
    · simpa using hj.symm
    · simp at hj
  subst hp
  have hj2 : j = 0 ∨ j = 1 := by
    rcases j with _ | _ | j
    · exact .inl rfl
    · exact .inr rfl
    · simp at hj
  refine ⟨(recC 1 0 z32 ⟨#[]⟩ A m c 0 0).toList, rfl, hK, fun i u hu => ?_⟩
  have h1 := blk_cell h (j * 38 + i)
  rw [show (⟨g, 0, none⟩ : Addr).add (j * kRec.sz + i) = ⟨g, j * 38 + i, none⟩ from add_plain _ _, h1]
  have hi : i < 38 := by
    obtain ⟨h2, -⟩ := List.getElem?_eq_some_iff.1 hu
    rwa [hS] at h2
  rcases hj2 with rfl | rfl
  · rw [Nat.zero_mul, Nat.zero_add, Array.getElem?_append_left (by exact hi)]
    simpa using hu
  · rw [Nat.one_mul, Array.getElem?_append_right (by show 38 ≤ _; omega)]
    show (recC 1 0 z32 ⟨#[]⟩ A m c 0 0)[38 + i - 38]? = some u
    rw [Nat.add_sub_cancel_left]
    simpa using hu
set_option maxRecDepth 100000 in
set_option maxHeartbeats 6400000 in
theorem cfits_any (sg ba st co bt : Int) (th : Nat) (w : World) :
    Calls Try.prog 4 #[.agg #[.int .i64 sg, .int .i64 ba, .int .i64 st, .int .i64 co, .int .i64 bt, .float .f64 th]] w (Kept (.bool true) w) := by
  have HR := Lib.hid (fun W => right_any sg ba st co bt th W)
  have HLV := Lib.hid (fun W => lives_any W)
  cases hrb : rightB sg ba st co bt th with
  | false =>
    rw [hrb] at HR
    clear hrb
    obtain ⟨w1, hw1⟩ : ∃ w1, w.alloc (.cells #[.int .i64 sg, .int .i64 ba, .int .i64 st, .int .i64 co, .int .i64 bt, .float .f64 th] 24) = w1 := ⟨_, rfl⟩
    have HG := Lib.hid (show w1.heap[w.heap.size]? = some (.cells #[.int .i64 sg, .int .i64 ba, .int .i64 st, .int .i64 co, .int .i64 bt, .float .f64 th] 24 (0, 0)) from hw1 ▸ blk_new w _)
    have hb1 : Below w.heap.size w w1 := hw1 ▸ below_alloc (Below.refl _ _) _
    have HB1 := Lib.hid hb1
    clear hb1
    have hcc := fun i => blk_cell HG.out i
    go_enter Try.func4, Try.ntmps4
    go_wp2_with fail
    try rw [hw1]
    refine (HR.out w1).mono ?_
    rintro e w2 ⟨rfl, hb⟩
    have HB2 := Lib.hid (below_step' HB1.out hb)
    clear hb hcc hw1
    go_wp2_with fail
    refine (HLV.out _).mono ?_
    rintro e w3 ⟨rfl, hb⟩
    have HB3 := Lib.hid (below_step' HB2.out hb)
    clear hb
    go_wp2_with fail
    go_ret
    exact ⟨rfl, HB3.out⟩
  | true =>
    rw [hrb] at HR
    have hok : okP sg ba st co bt := by
      by_cases h : okP sg ba st co bt
      · exact h
      · rw [right_no th h] at hrb; cases hrb
    clear hrb
    obtain ⟨⟨s1, s2⟩, -, -, ⟨c1, c2⟩, -⟩ := hok
    obtain ⟨n, rfl⟩ := Int.eq_ofNat_of_zero_le (show 0 ≤ co by omega)
    have hn0 : 0 < n := by omega
    have hn1 : n ≤ 1234 := by omega
    have hfit : (n : Int) * 53 ≤ sg - 95 := by omega
    obtain ⟨m, hm⟩ : ∃ m : Nat, (sg - 95) / 2 - 53 = (m : Int) := ⟨((sg - 95) / 2 - 53).toNat, by omega⟩
    have hml : m ≤ 65504 := by omega
    have hm2 : 2 * (m : Int) + 106 ≤ sg - 95 := by omega
    have HLG := Lib.hid (fun W => large_any sg ba st n bt th W (by omega))
    rw [hm] at HLG
    have HS7 := Lib.hid (fun W => (show Calls Try.prog 21 #[.agg (szArr 7 1)] W (Kept (.int .i64 37) W) from by have h := size_k 7 1 W; rwa [sz7] at h))
    have HS8 := Lib.hid (fun W => (show Calls Try.prog 21 #[.agg (szArr 8 0)] W (Kept (.int .i64 29) W) from by have h := size_k 8 0 W; rwa [sz80] at h))
    have HBS := Lib.hid (fun (W : World) (A : Option Addr) (c : Nat) (h : RdR W A (dels n)) => (show Calls Try.prog 22 #[.slice A (dels n).length c] W (Kept (.int .i64 ((29 + 53 * n : Nat) : Int)) W) from by have h1 := bsize_any A c (dels n) W h (dels_le n hn1); rwa [dels_siz n hn0] at h1))
    have HBB := Lib.hid (fun (W : World) (A : Option Addr) (h : RdR W A [blV m, blV m]) => (show Calls Try.prog 22 #[.slice A 2 2] W (Kept (.int .i64 ((29 + 2 * (53 + m) : Nat) : Int)) W) from by have h1 := bsize_any A 2 [blV m, blV m] W h (bl_le m hml); rwa [bl_siz m hml] at h1))
    clear hm c1 c2
    obtain ⟨w1, hw1⟩ : ∃ w1, w.alloc (.cells #[.int .i64 sg, .int .i64 ba, .int .i64 st, .int .i64 (n : Int), .int .i64 bt, .float .f64 th] 24) = w1 := ⟨_, rfl⟩
    have HG := Lib.hid (show w1.heap[w.heap.size]? = some (.cells #[.int .i64 sg, .int .i64 ba, .int .i64 st, .int .i64 (n : Int), .int .i64 bt, .float .f64 th] 24 (0, 0)) from hw1 ▸ blk_new w _)
    have hb1 : Below w.heap.size w w1 := hw1 ▸ below_alloc (Below.refl _ _) _
    have HB1 := Lib.hid hb1
    clear hb1
    have hcc := fun i => blk_cell HG.out i
    go_enter Try.func4, Try.ntmps4
    go_wp2_with fail
    try rw [hw1]
    refine (HR.out w1).mono ?_
    rintro e w2 ⟨rfl, hb⟩
    have HG2 := Lib.hid (blk_below HG.out hb)
    have HB2 := Lib.hid (below_step' HB1.out hb)
    clear hb hcc hw1
    go_wp2_with fail
    refine (HS7.out w2).mono ?_
    rintro e w3 ⟨rfl, hb⟩
    have HG3 := Lib.hid (blk_below HG2.out hb)
    have HB3 := Lib.hid (below_step' HB2.out hb)
    clear hb
    go_wp2_with fail
    refine (HS8.out w3).mono ?_
    rintro e w4 ⟨rfl, hb⟩
    have HG4 := Lib.hid (blk_below HG3.out hb)
    have HB4 := Lib.hid (below_step' HB3.out hb)
    clear hb
    go_wp2_with fail
    go_loopw [4, 5] (fun v i wr => ∃ k : Nat, k ≤ n ∧ i = .int .i64 k ∧ Hid (OwnD wr w.heap.size v (dels k)) ∧ Hid (wr.heap[w.heap.size]? = some (.cells #[.int .i64 sg, .int .i64 ba, .int .i64 st, .int .i64 (n : Int), .int .i64 bt, .float .f64 th] 24 (0, 0))) ∧ Hid (Below w.heap.size w wr)) (fun _ i _ => n - (intOf i).toNat)
    case atStart => exact ⟨0, by omega, rfl, Lib.hid (OwnD.nil _ _), HG4, HB4⟩
    case round =>
      clear HG HB1 HG2 HB2 HG3 HB3 HG4 HB4
      obtain ⟨k, hk, rfl, HO, HG, HB⟩ := hrel
      have hcc := fun i => blk_cell HG.out i
      by_cases hlt : k < n
      · obtain ⟨A1, c1, rfl, -, -⟩ := OwnD.reads HO.out
        have HX4 := Lib.hid (fun (w4 : World) (h : wr.grownBy w4 (Value.slice A1 (dels k).length c1).ownBlock) => (h.block _ (blk_lt HG.out) (Kd.R_ne HO.out HG.out (by decide))).trans HG.out)
        have HLEN := Lib.hid (show ((dels k).length + 1) * 104 ≤ 140737488355328 from by unfold dels; rw [List.length_replicate]; omega)
        generalize hds : dels k = ds at *
        obtain ⟨Y, hY⟩ : ∃ Y, delC = Y := ⟨_, rfl⟩
        have HYM := Lib.hid (show delV = delV ∧ Y.toList = delC.toList from ⟨rfl, by rw [hY]⟩)
        have HYE := Lib.hid hY
        clear hY
        have HSN := Lib.hid (show ds ++ [delV] = dels (k + 1) from by rw [← hds]; exact dels_snoc k)
        clear hds
        go_wp2_with (first | (refine wpList_buildOneC rfl 35 34 (.tmp 24) rfl undRs delC zRec rfl (by kernel_rfl) (by decide) zeroRec ?_; rw [HYE.out]) | (at_builtin; go_loud (refine Kd.R_append kDel (w0 := w) w.heap.size rfl (.tmp 23) (.tmp 25) 35 34 _ _ rfl undRs infoRecB rfl (by decide) (by decide) _ ds delV Y.toList (fun _ => True) (fun _ => False) rfl rfl HYM.out (fun _ h => h.elim) (fun _ _ => trivial) HO.out HB.out HB.out.size HLEN.out ?_); intro v4 w4 hown hb4 hg4 _; have HO4 := Lib.hid hown; have HB4 := Lib.hid hb4; have HG4 := Lib.hid (HX4.out w4 hg4); clear hown hb4 hg4))
        go_roundw
        case rel => exact ⟨k + 1, by omega, by go_num, Lib.hid (by rw [← HSN.out]; exact HO4.out), HG4, HB4⟩
        case measure => simp [intOf]; omega
      · obtain rfl : k = n := by omega
        obtain ⟨A1, c1, rfl, -, hr1⟩ := OwnD.reads HO.out
        have HR1 := Lib.hid hr1
        clear hr1 HO
        go_wp2_with fail
        refine (HLG.out wr).mono ?_
        rintro e w5 ⟨rfl, hb⟩
        have HG5 := Lib.hid (blk_below HG.out hb)
        have HB5 := Lib.hid (below_step' HB.out hb)
        have HR5 := Lib.hid (RdR.below HR1.out hb)
        clear hb hcc
        have hcc := fun i => blk_cell HG5.out i
        go_wp2_with (first | (refine make_u8 (w0 := w5) w5.heap.size rfl (.tmp 36) (.tmp 36) rfl (m : Int) (m : Int) rfl rfl (by omega) (Int.le_refl _) (by omega) (Below.refl _ _) (Nat.le_refl _) ?_; intro v6 w6 hown hb6; rw [Int.toNat_natCast] at hown; obtain ⟨A6, c6, rfl, hc6, hr6⟩ := hown.reads; rw [List.length_replicate] at hc6; have HR6 := Lib.hid hr6; have HC6 := Lib.hid hc6; have HB6 := Lib.hid hb6; clear hown hb6 hr6 hc6; rw [List.length_replicate]; obtain ⟨X, hX⟩ : ∃ X, recC 1 0 z32 ⟨#[]⟩ A6 m c6 0 0 = X := (⟨_, rfl⟩); have HXE := Lib.hid hX; clear hX) | (refine wpList_box rfl rfl 34 _ _ rfl rfl (recC 1 0 z32 ⟨#[]⟩ A6 m c6 0 0) zRec zeroRec rfl rfl rfl infoRec (recF (c := c6) rfl).one ?_; rw [HXE.out]; obtain ⟨w7, hw7⟩ : ∃ w', World.alloc w6 (.cells X 34) = w' := (⟨_, rfl⟩); rw [hw7]; have HX7 := Lib.hid (show w7.heap[w6.heap.size]? = some (.cells X 34 (0, 0)) from hw7 ▸ blk_new w6 _); have HB7 := Lib.hid (show Below w6.heap.size w6 w7 from hw7 ▸ below_alloc (Below.refl _ _) _); clear hw7))
        have HBB7 := Lib.hid (below_step' HB6.out HB7.out)
        have HG7 := Lib.hid (blk_below HG5.out HBB7.out)
        have HBW7 := Lib.hid (below_step' HB5.out HBB7.out)
        have HR17 := Lib.hid (RdR.below HR5.out HBB7.out)
        have HR67 := Lib.hid (HR6.out.below HB7.out)
        have HXL := Lib.hid (show (Try.prog.info? 34).map (·.size) = some X.toList.length from by rw [← HXE.out]; exact (recF (c := c6) rfl).infoL)
        have HXI := Lib.hid (show (Try.prog.info? 34).map (·.size) = some X.size from by rw [← HXE.out]; exact infoRec)
        have HXS := Lib.hid (show 0 < X.size ∧ X.size ≤ 1048576 from by rw [← HXE.out]; rw [(recF (c := c6) rfl).size]; exact ⟨by decide, by decide⟩)
        have HBL := Lib.hid (fun (W : World) (g : Nat) (hg : W.heap[g]? = some (.cells (X ++ X) 34 (0, 0))) (hr : Rd W A6 (List.replicate m 0)) => (show RdR W (some ⟨g, 0, none⟩) [blV m, blV m] from by
          rw [← HXE.out] at hg
          exact bl_rows hg hr HC6.out))
        have hx0 : Below w7.heap.size w7 w7.drew := below_drew (Below.refl _ _)
        have hf1 : IntKind.i64.wrap (66 + (29 + 53 * (k : Int))) ≤ sg := by rw [IntWalk.i64_in _ (by omega)]; omega
        have hf2 : IntKind.i64.wrap (66 + (29 + 2 * (53 + (m : Int)))) ≤ sg := by rw [IntWalk.i64_in _ (by omega)]; omega
        clear hcc
        refine wp_region_held_drew (S := fun W => Below w7.heap.size w7 W) (by kernel_rfl) hx0 (fun hHeld => ?_)
        refine wpAnyH_take (i := 0) (v := _) rfl (by kernel_rfl) (by kernel_rfl) (by kernel_rfl) (fun _ _ _ h => h) (Or.inl ⟨by kernel_rfl, fun w _ => by go_simp <;> with_reducible rfl⟩) hHeld ?_
        simp only [List.getElem_toArray, List.getElem_cons_succ, List.getElem_cons_zero, Act.put, List.setIfInBounds_toArray, List.set_cons_zero, List.set_cons_succ]
        refine wpAnyH_take (i := 1) (v := _) rfl (by kernel_rfl) (by kernel_rfl) (by kernel_rfl) (fun _ _ _ h => h) (Or.inl ⟨by kernel_rfl, fun w _ => by go_simp <;> with_reducible rfl⟩) hHeld ?_
        simp only [List.getElem_toArray, List.getElem_cons_succ, List.getElem_cons_zero, Act.put, List.setIfInBounds_toArray, List.set_cons_zero, List.set_cons_succ]
        refine wpAnyH_take (i := 4) (v := _) rfl (by kernel_rfl) (by kernel_rfl) (by kernel_rfl) (fun _ _ _ h => h) (Or.inl ⟨by kernel_rfl, fun w _ => by go_simp <;> with_reducible rfl⟩) hHeld ?_
        simp only [List.getElem_toArray, List.getElem_cons_succ, List.getElem_cons_zero, Act.put, List.setIfInBounds_toArray, List.set_cons_zero, List.set_cons_succ]
        refine wpAnyH_take (i := 5) (v := .int .i64 sg) rfl (by kernel_rfl) (by kernel_rfl) (by kernel_rfl) (fun _ _ _ h => h) (Or.inl ⟨by kernel_rfl, fun W h => by have q0 := blk_cell (blk_below HG7.out h) 0; go_simp <;> with_reducible rfl⟩) hHeld ?_
        simp only [List.getElem_toArray, List.getElem_cons_succ, List.getElem_cons_zero, Act.put, List.setIfInBounds_toArray, List.set_cons_zero, List.set_cons_succ]
        refine wpAnyH_ready (rs := [2]) (by kernel_rfl) (by simp) ?_
        refine AllReadyH.cons rfl (fun K hK => ?_) ?_
        case refine_2 => exact AllReadyH.nil
        go_simp
        refine (HBS.out _ A1 c1 (RdR.below HR17.out hHeld)).mono ?_
        rintro e x2 ⟨rfl, hb⟩
        refine hK.out _ _ (below_step' hHeld hb) (fun hHeld => ?_)
        clear hK K
        try simp only [List.getElem_toArray, List.getElem_cons_succ, List.getElem_cons_zero, Act.put, List.setIfInBounds_toArray, List.set_cons_zero, List.set_cons_succ]
        clear hb
        refine wpAnyH_take (i := 3) (v := _) rfl (by kernel_rfl) (by kernel_rfl) (by kernel_rfl) (fun _ _ _ h => h) (Or.inl ⟨by kernel_rfl, fun w _ => by go_simp <;> with_reducible rfl⟩) hHeld ?_
        simp only [List.getElem_toArray, List.getElem_cons_succ, List.getElem_cons_zero, Act.put, List.setIfInBounds_toArray, List.set_cons_zero, List.set_cons_succ]
        refine wpAnyH_take (i := 6) (v := .bool true) rfl (by kernel_rfl) (by kernel_rfl) (by kernel_rfl) (fun _ _ _ h => h) (Or.inl ⟨by kernel_rfl, fun W h => by have q0 := hf1; go_simp <;> with_reducible rfl⟩) hHeld ?_
        simp only [List.getElem_toArray, List.getElem_cons_succ, List.getElem_cons_zero, Act.put, List.setIfInBounds_toArray, List.set_cons_zero, List.set_cons_succ]
        refine wpAnyH_take (i := 7) (v := _) rfl (by kernel_rfl) (by kernel_rfl) (by kernel_rfl) (fun _ _ _ h => h) (Or.inl ⟨by kernel_rfl, fun w _ => by go_simp <;> with_reducible rfl⟩) hHeld ?_
        simp only [List.getElem_toArray, List.getElem_cons_succ, List.getElem_cons_zero, Act.put, List.setIfInBounds_toArray, List.set_cons_zero, List.set_cons_succ]
        refine wpAnyH_take (i := 8) (v := _) rfl (by kernel_rfl) (by kernel_rfl) (by kernel_rfl) (fun _ _ _ h => h) (Or.inl ⟨by kernel_rfl, fun w _ => by go_simp <;> with_reducible rfl⟩) hHeld ?_
        simp only [List.getElem_toArray, List.getElem_cons_succ, List.getElem_cons_zero, Act.put, List.setIfInBounds_toArray, List.set_cons_zero, List.set_cons_succ]
        refine wpAnyH_take (i := 9) (v := .agg X.toList.toArray) rfl (by kernel_rfl) (by kernel_rfl) (by kernel_rfl) (fun _ _ _ h => h) (yieldsIf_load_mid (by kernel_rfl) 34 _ rfl _ 0 rfl X.toList _ (fun W h => range_row (blk_below HX7.out h)) Try.underlying34 rfl HXL.out) hHeld ?_
        simp only [List.getElem_toArray, List.getElem_cons_succ, List.getElem_cons_zero, Act.put, List.setIfInBounds_toArray, List.set_cons_zero, List.set_cons_succ]
        refine wpAnyH_take (i := 10) (v := .agg X.toList.toArray) rfl (by kernel_rfl) (by kernel_rfl) (by kernel_rfl) (fun _ _ _ h => h) (yieldsIf_load_mid (by kernel_rfl) 34 _ rfl _ 0 rfl X.toList _ (fun W h => range_row (blk_below HX7.out h)) Try.underlying34 rfl HXL.out) hHeld ?_
        simp only [List.getElem_toArray, List.getElem_cons_succ, List.getElem_cons_zero, Act.put, List.setIfInBounds_toArray, List.set_cons_zero, List.set_cons_succ]
        refine wpAnyH_take (i := 14) (v := _) rfl (by kernel_rfl) (by kernel_rfl) (by kernel_rfl) (fun _ _ _ h => h) (Or.inl ⟨by kernel_rfl, fun w _ => by go_simp <;> with_reducible rfl⟩) hHeld ?_
        simp only [List.getElem_toArray, List.getElem_cons_succ, List.getElem_cons_zero, Act.put, List.setIfInBounds_toArray, List.set_cons_zero, List.set_cons_succ]
        refine wpAnyH_take (i := 15) (v := .int .i64 sg) rfl (by kernel_rfl) (by kernel_rfl) (by kernel_rfl) (fun _ _ _ h => h) (Or.inl ⟨by kernel_rfl, fun W h => by have q0 := blk_cell (blk_below HG7.out h) 0; go_simp <;> with_reducible rfl⟩) hHeld ?_
        simp only [List.getElem_toArray, List.getElem_cons_succ, List.getElem_cons_zero, Act.put, List.setIfInBounds_toArray, List.set_cons_zero, List.set_cons_succ]
        refine wpAnyH_ready (rs := [11]) (by kernel_rfl) (by simp) ?_
        refine AllReadyH.cons rfl (fun K hK => ?_) ?_
        case refine_2 => exact AllReadyH.nil
        refine wp_buildTwo 35 34 _ _ rfl undRs X zRec rfl rfl HXI.out HXS.out zeroRec ?_
        refine hK.out _ _ (below_alloc hHeld _) (fun hHeld => ?_)
        clear hK K
        try simp only [List.getElem_toArray, List.getElem_cons_succ, List.getElem_cons_zero, Act.put, List.setIfInBounds_toArray, List.set_cons_zero, List.set_cons_succ]
        have HBX := Lib.hid (HBL.out _ _ (blk_new _ _) (HR67.out.below hHeld))
        refine wpAnyH_ready (rs := [12]) (by kernel_rfl) (by simp) ?_
        refine AllReadyH.cons rfl (fun K hK => ?_) ?_
        case refine_2 => exact AllReadyH.nil
        go_simp
        refine (HBB.out _ _ HBX.out).mono ?_
        rintro e x12 ⟨rfl, hb⟩
        refine hK.out _ _ (below_step' hHeld hb) (fun hHeld => ?_)
        clear hK K
        try simp only [List.getElem_toArray, List.getElem_cons_succ, List.getElem_cons_zero, Act.put, List.setIfInBounds_toArray, List.set_cons_zero, List.set_cons_succ]
        clear hb
        refine wpAnyH_take (i := 13) (v := _) rfl (by kernel_rfl) (by kernel_rfl) (by kernel_rfl) (fun _ _ _ h => h) (Or.inl ⟨by kernel_rfl, fun w _ => by go_simp <;> with_reducible rfl⟩) hHeld ?_
        simp only [List.getElem_toArray, List.getElem_cons_succ, List.getElem_cons_zero, Act.put, List.setIfInBounds_toArray, List.set_cons_zero, List.set_cons_succ]
        refine wpAnyH_take (i := 16) (v := .bool true) rfl (by kernel_rfl) (by kernel_rfl) (by kernel_rfl) (fun _ _ _ h => h) (Or.inl ⟨by kernel_rfl, fun W h => by have q0 := hf2; go_simp <;> with_reducible rfl⟩) hHeld ?_
        simp only [List.getElem_toArray, List.getElem_cons_succ, List.getElem_cons_zero, Act.put, List.setIfInBounds_toArray, List.set_cons_zero, List.set_cons_succ]
        refine wpAnyH_take (i := 17) (v := _) rfl (by kernel_rfl) (by kernel_rfl) (by kernel_rfl) (fun _ _ _ h => h) (Or.inl ⟨by kernel_rfl, fun w _ => by go_simp <;> with_reducible rfl⟩) hHeld ?_
        simp only [List.getElem_toArray, List.getElem_cons_succ, List.getElem_cons_zero, Act.put, List.setIfInBounds_toArray, List.set_cons_zero, List.set_cons_succ]
        refine wpAnyH_take (i := 18) (v := _) rfl (by kernel_rfl) (by kernel_rfl) (by kernel_rfl) (fun _ _ _ h => h) (Or.inl ⟨by kernel_rfl, fun w _ => by go_simp <;> with_reducible rfl⟩) hHeld ?_
        simp only [List.getElem_toArray, List.getElem_cons_succ, List.getElem_cons_zero, Act.put, List.setIfInBounds_toArray, List.set_cons_zero, List.set_cons_succ]
        refine wpAnyH_ready (rs := [19]) (by kernel_rfl) (by simp) ?_
        refine AllReadyH.cons rfl (fun K hK => ?_) ?_
        case refine_2 => exact AllReadyH.nil
        go_simp
        refine (HLV.out _).mono ?_
        rintro e x19 ⟨rfl, hb⟩
        refine hK.out _ _ (below_step' hHeld hb) (fun hHeld => ?_)
        clear hK K
        try simp only [List.getElem_toArray, List.getElem_cons_succ, List.getElem_cons_zero, Act.put, List.setIfInBounds_toArray, List.set_cons_zero, List.set_cons_succ]
        clear hb
        refine wpAnyH_take (i := 20) (v := _) rfl (by kernel_rfl) (by kernel_rfl) (by kernel_rfl) (fun _ _ _ h => h) (Or.inl ⟨by kernel_rfl, fun w _ => by go_simp <;> with_reducible rfl⟩) hHeld ?_
        simp only [List.getElem_toArray, List.getElem_cons_succ, List.getElem_cons_zero, Act.put, List.setIfInBounds_toArray, List.set_cons_zero, List.set_cons_succ]
        refine wpAnyH_take (i := 21) (v := _) rfl (by kernel_rfl) (by kernel_rfl) (by kernel_rfl) (fun _ _ _ h => h) (Or.inl ⟨by kernel_rfl, fun w _ => by go_simp <;> with_reducible rfl⟩) hHeld ?_
        simp only [List.getElem_toArray, List.getElem_cons_succ, List.getElem_cons_zero, Act.put, List.setIfInBounds_toArray, List.set_cons_zero, List.set_cons_succ]
        refine wpAnyH_done (by kernel_rfl) ?_ _
        have HB9 := Lib.hid (below_step' HBW7.out hHeld)
        go_wp2_with fail
        go_ret
        exact ⟨rfl, HB9.out⟩
theorem cfrow_any (cs : Array Value) (x : CfT) (w : World) (hK : kCfg.K w x cs.toList) : Calls Try.prog 4 #[.agg cs] w (Kept (.bool true) w) := by
  rw [kCfg_cells hK]
  exact cfits_any _ _ _ _ _ _ w
end Go.Proofs.Ytdkadeihhgjiaaa.Cf
