/- law27: the arguments of its rows; ConfigRight. -/
import Derived.Test.YtdkadeihhgjiaaaCfgL
set_option linter.unusedVariables false
set_option linter.unusedSimpArgs false
namespace Go.Proofs.Ytdkadeihhgjiaaa.Cf
open Go.RowKit Go.Proofs.YtdkadeihhgjiaaaW.PrintWords Go.Proofs.Ytdkadeihhgjiaaa.B Go.Proofs.Ytdkadeihhgjiaaa.Fx Go.Proofs.Ytdkadeihhgjiaaa.Fr Go.Proofs.Ytdkadeihhgjiaaa.O Go.Proofs.Ytdkadeihhgjiaaa.Rc Go.Proofs.Ytdkadeihhgjiaaa.Bt
abbrev CfT : Type := Int64 × Int64 × Int64 × Int64 × Int64 × UInt64
def kCfg : Kd CfT := Kd.pair O.i64 (Kd.pair O.i64 (Kd.pair O.i64 (Kd.pair O.i64 (Kd.pair O.i64 O.f64))))
def mf (x : UInt64) : Nat := 1
def mCfg (x : CfT) : Nat := mi x.1 + (mi x.2.1 + (mi x.2.2.1 + (mi x.2.2.2.1 + (mi x.2.2.2.2.1 + mf x.2.2.2.2.2)))) + 1
theorem opnI : Opn Try.prog 3 O.i64 mi := opn_i64 Try.underlying3 (by kernel_rfl)
theorem opnCfg : Opn Try.prog 24 kCfg mCfg :=
  opn_struct Try.underlying24 (by kernel_rfl) (opnF_cons rfl opnI (opnF_cons rfl opnI (opnF_cons rfl opnI (opnF_cons rfl opnI (opnF_cons rfl opnI (opnF_one rfl (show Opn Try.prog 22 O.f64 mf from opn_f64 Try.underlying22 (by kernel_rfl))))))))
theorem kCfg_cells {w : World} {x : CfT} {cs : Array Value} (h : kCfg.K w x cs.toList) :
    cs = #[.int .i64 x.1.toInt, .int .i64 x.2.1.toInt, .int .i64 x.2.2.1.toInt, .int .i64 x.2.2.2.1.toInt, .int .i64 x.2.2.2.2.1.toInt, .float .f64 x.2.2.2.2.2.toNat] := by
  obtain ⟨c0, r0, e0, h0, c1, r1, rfl, h1, c2, r2, rfl, h2, c3, r3, rfl, h3, c4, r4, rfl, h4, h5⟩ := h
  apply Array.ext'
  rw [e0, show c0 = [_] from h0, show c1 = [_] from h1, show c2 = [_] from h2, show c3 = [_] from h3, show c4 = [_] from h4, show r4 = [_] from h5]
  rfl
theorem i64_bd (x : Int64) : -9223372036854775808 ≤ x.toInt ∧ x.toInt ≤ 9223372036854775807 := by
  have h1 := x.le_toInt; have h2 := x.toInt_lt; omega
theorem crow_any (cs : Array Value) (x : CfT) (w : World) (hK : kCfg.K w x cs.toList) : Calls Try.prog 3 #[.agg cs] w (Kept (.bool true) w) := by
  rw [kCfg_cells hK]
  exact cright_any _ _ _ _ _ _ w (i64_bd _)
end Go.Proofs.Ytdkadeihhgjiaaa.Cf
