/- ledger: Fits, Reserve; the document's own Fits. -/
import Derived.Test.YtkgbimkjpllakaaBase
set_option linter.unusedVariables false
set_option linter.unusedSimpArgs false
namespace Go.Proofs.Ytkgbimkjpllakaa.Ld
open Go.RowKit Go.Proofs.YtkgbimkjpllakaaW.PrintWords Go.Proofs.Ytkgbimkjpllakaa.B
def fitsP (fr fi si re : Int) : Prop := 0 ≤ fr ∧ 0 ≤ si ∧ 0 ≤ re ∧ si ≤ fr ∧ 200 ≤ fr - si ∧ re ≤ fr - si - 200 ∧ 1 ≤ fi ∧ (0 < re → 2 ≤ fi)
instance (fr fi si re : Int) : Decidable (fitsP fr fi si re) := by unfold fitsP; infer_instance
def fitsB (fr fi si re : Int) : Bool := decide (fitsP fr fi si re)
theorem fits_no {fr fi si re : Int} (h : ¬ fitsP fr fi si re) : fitsB fr fi si re = false := decide_eq_false h
theorem fits_yes {fr fi si re : Int} (h : fitsP fr fi si re) : fitsB fr fi si re = true := decide_eq_true h
set_option maxRecDepth 100000 in
set_option maxHeartbeats 1600000 in
theorem fits_any (fr fi si re : Int) (w : World) (hr : -9223372036854775808 ≤ fr ∧ fr ≤ 9223372036854775807) (hi : -9223372036854775808 ≤ fi ∧ fi ≤ 9223372036854775807) (hs : -9223372036854775808 ≤ si ∧ si ≤ 9223372036854775807) (he : -9223372036854775808 ≤ re ∧ re ≤ 9223372036854775807) :
    Calls Try.prog 37 #[.int .i64 fr, .int .i64 fi, .int .i64 si, .int .i64 re] w (Quiet (.bool (fitsB fr fi si re)) w) := by
  by_cases h1 : fr < 0
  · have HS := Lib.hid (show fitsB fr fi si re = false from fits_no (by unfold fitsP; omega))
    go_enter Try.func37, Try.ntmps37
    go_wp2
    go_ret
    exact ⟨ret_eq (by rw [HS.out]; try rfl), 0, rfl⟩
  · by_cases h2 : si < 0
    · have HS := Lib.hid (show fitsB fr fi si re = false from fits_no (by unfold fitsP; omega))
      go_enter Try.func37, Try.ntmps37
      go_wp2
      go_ret
      exact ⟨ret_eq (by rw [HS.out]; try rfl), 0, rfl⟩
    · by_cases h3 : re < 0
      · have HS := Lib.hid (show fitsB fr fi si re = false from fits_no (by unfold fitsP; omega))
        go_enter Try.func37, Try.ntmps37
        go_wp2
        go_ret
        exact ⟨ret_eq (by rw [HS.out]; try rfl), 0, rfl⟩
      · by_cases h4 : fr < si
        · have HS := Lib.hid (show fitsB fr fi si re = false from fits_no (by unfold fitsP; omega))
          go_enter Try.func37, Try.ntmps37
          go_wp2
          go_ret
          exact ⟨ret_eq (by rw [HS.out]; try rfl), 0, rfl⟩
        · by_cases h5 : fr - si < 200
          · have HS := Lib.hid (show fitsB fr fi si re = false from fits_no (by unfold fitsP; omega))
            go_enter Try.func37, Try.ntmps37
            go_wp2
            go_ret
            exact ⟨ret_eq (by rw [HS.out]; try rfl), 0, rfl⟩
          · by_cases h6 : 0 < re
            · by_cases h7 : 2 ≤ fi
              · by_cases h8 : re ≤ fr - si - 200
                · have HS := Lib.hid (show fitsB fr fi si re = true from fits_yes (by unfold fitsP; omega))
                  go_enter Try.func37, Try.ntmps37
                  go_wp2
                  go_ret
                  exact ⟨ret_eq (by rw [HS.out]; try rfl), 0, rfl⟩
                · have HS := Lib.hid (show fitsB fr fi si re = false from fits_no (by unfold fitsP; omega))
                  go_enter Try.func37, Try.ntmps37
                  go_wp2
                  go_ret
                  exact ⟨ret_eq (by rw [HS.out]; try rfl), 0, rfl⟩
              · have HS := Lib.hid (show fitsB fr fi si re = false from fits_no (by unfold fitsP; omega))
                go_enter Try.func37, Try.ntmps37
                go_wp2
                go_ret
                exact ⟨ret_eq (by rw [HS.out]; try rfl), 0, rfl⟩
            · by_cases h7 : 1 ≤ fi
              · by_cases h8 : re ≤ fr - si - 200
                · have HS := Lib.hid (show fitsB fr fi si re = true from fits_yes (by unfold fitsP; omega))
                  go_enter Try.func37, Try.ntmps37
                  go_wp2
                  go_ret
                  exact ⟨ret_eq (by rw [HS.out]; try rfl), 0, rfl⟩
                · have HS := Lib.hid (show fitsB fr fi si re = false from fits_no (by unfold fitsP; omega))
                  go_enter Try.func37, Try.ntmps37
                  go_wp2
                  go_ret
                  exact ⟨ret_eq (by rw [HS.out]; try rfl), 0, rfl⟩
              · have HS := Lib.hid (show fitsB fr fi si re = false from fits_no (by unfold fitsP; omega))
                go_enter Try.func37, Try.ntmps37
                go_wp2
                go_ret
                exact ⟨ret_eq (by rw [HS.out]; try rfl), 0, rfl⟩
set_option maxRecDepth 100000 in
set_option maxHeartbeats 1600000 in
theorem reffits_any (fr fi si re : Int) (w : World) (hr : -9223372036854775808 ≤ fr ∧ fr ≤ 9223372036854775807) (hi : -9223372036854775808 ≤ fi ∧ fi ≤ 9223372036854775807) (hs : -9223372036854775808 ≤ si ∧ si ≤ 9223372036854775807) (he : -9223372036854775808 ≤ re ∧ re ≤ 9223372036854775807) :
    Calls Try.prog 38 #[.int .i64 fr, .int .i64 fi, .int .i64 si, .int .i64 re] w (Quiet (.bool (fitsB fr fi si re)) w) := by
  by_cases h1 : fr < 0
  · have HS := Lib.hid (show fitsB fr fi si re = false from fits_no (by unfold fitsP; omega))
    go_enter Try.func38, Try.ntmps38
    go_wp2
    go_ret
    exact ⟨ret_eq (by rw [HS.out]; try rfl), 0, rfl⟩
  · by_cases h2 : fi < 1
    · have HS := Lib.hid (show fitsB fr fi si re = false from fits_no (by unfold fitsP; omega))
      go_enter Try.func38, Try.ntmps38
      go_wp2
      go_ret
      exact ⟨ret_eq (by rw [HS.out]; try rfl), 0, rfl⟩
    · by_cases h3 : si < 0
      · have HS := Lib.hid (show fitsB fr fi si re = false from fits_no (by unfold fitsP; omega))
        go_enter Try.func38, Try.ntmps38
        go_wp2
        go_ret
        exact ⟨ret_eq (by rw [HS.out]; try rfl), 0, rfl⟩
      · by_cases h4 : re < 0
        · have HS := Lib.hid (show fitsB fr fi si re = false from fits_no (by unfold fitsP; omega))
          go_enter Try.func38, Try.ntmps38
          go_wp2
          go_ret
          exact ⟨ret_eq (by rw [HS.out]; try rfl), 0, rfl⟩
        · by_cases h6 : 0 < re
          · by_cases h7 : fi < 2
            · have HS := Lib.hid (show fitsB fr fi si re = false from fits_no (by unfold fitsP; omega))
              go_enter Try.func38, Try.ntmps38
              go_wp2
              go_ret
              exact ⟨ret_eq (by rw [HS.out]; try rfl), 0, rfl⟩
            · by_cases h5 : fr - si < 0
              · have HS := Lib.hid (show fitsB fr fi si re = false from fits_no (by unfold fitsP; omega))
                go_enter Try.func38, Try.ntmps38
                go_wp2
                go_ret
                exact ⟨ret_eq (by rw [HS.out]; try rfl), 0, rfl⟩
              · by_cases h8 : 200 ≤ fr - si - re
                · have HS := Lib.hid (show fitsB fr fi si re = true from fits_yes (by unfold fitsP; omega))
                  go_enter Try.func38, Try.ntmps38
                  go_wp2
                  go_ret
                  exact ⟨ret_eq (by rw [HS.out]; try rfl), 0, rfl⟩
                · have HS := Lib.hid (show fitsB fr fi si re = false from fits_no (by unfold fitsP; omega))
                  go_enter Try.func38, Try.ntmps38
                  go_wp2
                  go_ret
                  exact ⟨ret_eq (by rw [HS.out]; try rfl), 0, rfl⟩
          · by_cases h5 : fr - si < 0
            · have HS := Lib.hid (show fitsB fr fi si re = false from fits_no (by unfold fitsP; omega))
              go_enter Try.func38, Try.ntmps38
              go_wp2
              go_ret
              exact ⟨ret_eq (by rw [HS.out]; try rfl), 0, rfl⟩
            · by_cases h8 : 200 ≤ fr - si - re
              · have HS := Lib.hid (show fitsB fr fi si re = true from fits_yes (by unfold fitsP; omega))
                go_enter Try.func38, Try.ntmps38
                go_wp2
                go_ret
                exact ⟨ret_eq (by rw [HS.out]; try rfl), 0, rfl⟩
              · have HS := Lib.hid (show fitsB fr fi si re = false from fits_no (by unfold fitsP; omega))
                go_enter Try.func38, Try.ntmps38
                go_wp2
                go_ret
                exact ⟨ret_eq (by rw [HS.out]; try rfl), 0, rfl⟩
theorem reserve_any (n : Int) (w : World) (h : 0 ≤ n ∧ n ≤ 1099511627776) : Calls Try.prog 39 #[.int .i64 n] w (Quiet (.int .i64 (3 * n)) w) := by
  go_enter Try.func39, Try.ntmps39
  go_wp2
  go_ret
  exact ⟨rfl, 0, rfl⟩
end Go.Proofs.Ytkgbimkjpllakaa.Ld
