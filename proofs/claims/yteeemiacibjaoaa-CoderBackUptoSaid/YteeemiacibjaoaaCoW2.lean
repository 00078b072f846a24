/- coder: the writer's Digest, NewWriter. -/
import Derived.Test.YteeemiacibjaoaaCoW
import Derived.Deep.DrawnRows
import Derived.Lib.ConvBytes
set_option linter.unusedVariables false
set_option linter.unusedSimpArgs false
namespace Go.Proofs.Yteeemiacibjaoaa.Co
open Go.RowKit Go.Proofs.YteeemiacibjaoaaW.PrintWords Go.Proofs.Yteeemiacibjaoaa.B Go.Proofs.Yteeemiacibjaoaa.Fx Go.Proofs.Yteeemiacibjaoaa.Fr

theorem rd_lit' (W : World) (l : List UInt8) (cs : Array Value) {t : TypeId} (h : cs = (l.map encB).toArray) (hl : l.length ≤ 9223372036854775807) : Rd (W.alloc (.cells cs t)) (some ⟨W.heap.size, 0, none⟩) l := by
  subst h
  refine Kd.C_of_reads (enc := encB) (d := (0 : UInt8)) ⟨rfl, hl, fun _ => ⟨_, rfl, fun j hj => ?_⟩⟩
  rw [show (⟨W.heap.size, 0, none⟩ : Addr).add j = ⟨W.heap.size, j, none⟩ from add_plain _ _]
  have hb := blk_new W (.cells (l.map encB).toArray t)
  rw [blk_cell hb]
  simp [hj]
set_option maxRecDepth 100000 in
set_option maxHeartbeats 800000 in
theorem wdigest_any (base g : Nat) (l : List UInt8) (odd : Bool) (d : List UInt8) (cs : Array Value) (w : World) (hcs : cs = (d.map encB).toArray) (hd : d.length = 32) (hl : l.length ≤ 140737488355000) (h : WrS w base g l odd) :
    Calls Try.prog 46 #[.pointer (some ⟨g, 0, none⟩), .agg cs] w (Did base w (fun W => WrS W base g (l ++ d) odd)) := by
  obtain ⟨hbg, v, hb, hown⟩ := h
  obtain ⟨A, c, rfl, -, hr⟩ := hown.reads
  have HG := Lib.hid hb
  have HO := Lib.hid hown
  have hz := blk_lt hb
  have hcc := fun i => blk_cell hb i
  clear hb hown hr
  have H32 := Lib.hid hd.symm
  have hl2 : l.length + d.length ≤ 140737488355328 := by omega
  have hdp : 0 < d.length := by omega
  have hmk : cs.size = 32 := by rw [hcs]; simp [hd]
  have HR0 := Lib.hid (fun (W : World) => rd_lit' W d cs (t := 52) hcs (by omega))
  have HGc := Lib.hid (fun (W : World) (h : Below w.heap.size w W) => (show W.cell? ⟨g, 0, none⟩ = some (.slice A l.length c) from pw_cell_below h (hcc 0)))
  have HBA := Lib.hid (show Below w.heap.size w (w.alloc (.cells cs 52)).drew from below_drew (below_alloc (Below.refl _ _) _))
  have HRA := Lib.hid (show Rd (w.alloc (.cells cs 52)).drew (some ⟨w.heap.size, 0, none⟩) d from (HR0.out w).drewN 1)
  have HGA := Lib.hid (blk_below HG.out HBA.out)
  have HOA := Lib.hid (HO.out.below HBA.out)
  have hs0 := HGc.out _ HBA.out
  clear hcc hd hcs
  go_enter Try.func46, Try.ntmps46
  go_wp2_with fail
  go_region_law (refine appBufS (w0 := w) base rfl (.tmp 10) (.tmp 11) rfl _ l d ⟨w.heap.size, 0, none⟩ 32 32 rfl rfl H32.out hdp HOA.out HRA.out (HBA.out.mono (by omega)) (by have := HBA.out.size; omega) hl2 ?_; intro A1 c1 w1 hbuf hbel hoth; rw [List.length_append] at hbuf; have hg1 := (hoth g _ _ (by decide) HGA.out).trans HGA.out; have hcc1 := fun i => blk_cell hg1 i; have hff1 := fun i => blk_frozen hg1 i; have HG1 := Lib.hid hg1; have HBU := Lib.hid hbuf; have HBE := Lib.hid hbel; clear hbuf hbel hoth hg1)
  all_goals go_wp2
  all_goals go_end0
  all_goals exact ⟨rfl, ⟨hbg, _, blk_set HG1.out 0 _, HBU.out.set HG1.out (by decide) 0 _⟩, below_set' HBE.out hbg⟩
theorem bytes_below (w : World) (s : ByteArray) : Below w.heap.size w (Lib.bytesWorld w 5 s) :=
  ⟨rfl, rfl, rfl, by rw [Lib.bytesWorld_size]; omega, fun k hk => Lib.bytesWorld_at_old w _ s k hk⟩
theorem bytes_buf (w : World) (s : ByteArray) (hs : s.size ≤ maxLen) : Buf (Lib.bytesWorld w 5 s) w.heap.size (.slice (some ⟨w.heap.size, 0, none⟩) s.data.toList.length (grownCap w s.size 0 5)) s.data.toList := by
  have h1 := grownCap_ge w s.size 0 5
  have h2 := grownCap_le_maxLen w s.size 0 5 hs
  have h3 : s.data.toList.length = s.size := by rw [Array.length_toList]; rfl
  have h4 : (Lib.bytesCells w 5 s).size = grownCap w s.size 0 5 := by
    simp only [Lib.bytesCells, Array.size_append, Array.size_map, Array.size_replicate]
    have : s.data.size = s.size := rfl
    omega
  have h5 := Lib.bytesWorld_at_new w 5 s
  rw [h4] at h5
  refine .inr ⟨w.heap.size, _, _, _, rfl, Nat.le_refl _, h5, .inr rfl, by omega, h2, h4, ?_⟩
  simp only [Lib.bytesCells, Array.toList_append, Array.toList_map, Array.toList_replicate]
  rw [List.take_append_of_le_length (by simp)]
  rw [List.take_of_length_le (by simp)]
  rfl
set_option maxRecDepth 100000 in
theorem neww_any (s : ByteArray) (w : World) (hsz : s.size ≤ 9223372036854775807) : Calls Try.prog 65 #[.string s] w (fun e w' => ∃ g, e = .returned (.pointer (some ⟨g, 0, none⟩)) ∧ WrS w' w.heap.size g s.data.toList false ∧ Below w.heap.size w w') := by
  have hcv := Lib.run_convert_string_bytes (P := Try.prog) w 9 22 5 s Try.underlying9 undB Try.underlying5
  have h3 : s.data.toList.length = s.size := by rw [Array.length_toList]; rfl
  have hz := Lib.bytesWorld_size w 5 s
  have hn := Lib.bytesWorld_at_new w 5 s
  have HBW := Lib.hid (bytes_below w s)
  have HBU := Lib.hid (h3 ▸ bytes_buf w s (by unfold maxLen; omega))
  generalize Lib.bytesWorld w 5 s = w1 at *
  generalize grownCap w s.size 0 5 = cap at *
  have HZ := Lib.hid hz
  clear hn hz h3
  go_enter Try.func65, Try.ntmps65
  go_wp2_with fail
  go_ret
  exact ⟨_, rfl, ⟨by have := HZ.out; omega, _, blk_new w1 _, HBU.out.below (below_alloc (Below.refl _ _) _)⟩, below_alloc HBW.out _⟩
end Go.Proofs.Yteeemiacibjaoaa.Co
