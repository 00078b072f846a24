/-
  No cell of these rows narrows 'for every input' (looked for: loops, veiled, ifaces, maps, wideKeys, modest, calm, conditions, laid).
  DERIVED. THE GIVEN ROWS OF THIS SEAT. 9 by the template 'for every input the law returns true; each argument reads behind the call as it read before'; 0 by the template 'total and deterministic' (their statements: YtkgbimkjpllakaaTotals.lean).
  GIVEN WITH THE SEED: the statements are not yours to turn. If you find one false, say at which input.
  Laid BY PROGRAM, IN A SANDBOX (cutbox-rows.mjs): the forced cells as the released guide's own fill.sh prints them over the translation 6d641da2a7875e81… (all of the seat's roots in one cut). By AI agents, Wed Nov 11 2026. No macro, syntax, notation, axiom, sorry.
-/
import Derived.Test.YtkgbimkjpllakaaChecked
import GoSem.Claim
import GoSem.ClaimJoined
import GoSem.ClaimMapViews
import Derived.JoinedTies
import Derived.KernelRfl
namespace Go.Proofs.Ytkgbimkjpllakaa
/- THE CELL 'sum', in the pinned program and in every row, IS THE sha256 OF THE DUMP (.gsa) THAT YtkgbimkjpllakaaProg.lean LOADS. Nothing in Lean hashes anything: it is a label: what it is worth is what the hold of that sum in a sandbox is worth. -/
noncomputable def Try.pinned : Pinned := { name := "ytkgbimkjpllakaa", sum := "6d641da2a7875e81b72adeb675662d94a36861af41fc9151b177222d232d1914", checked := Try.checked }
namespace Rows
def none {H : Type} : Left H := { results := [], args := [] }

/-- 'stillagelaw09.WritesApply': WHATEVER THE INPUT: true; the input reads as it did. -/
def writesApplySpec : ChangeSpec := { name := "writesApply", fn := fun _ => fun
  | [d1, d2] => { results := [.lit (.bool true)], args := [d1, d2] }
  | _ => none }
def writesApplyRow : OpenClaim := { program := "ytkgbimkjpllakaa", sum := "6d641da2a7875e81b72adeb675662d94a36861af41fc9151b177222d232d1914", func := "stillage/stillagelaw09.WritesApply", spec := "writesApply", unfollowed := true, recurses := true, apart := false }
def WritesApplySaid : Prop := writesApplyRow.holds Try.pinned (OpenSpec.ofChange writesApplySpec)

/-- ITS FALSE NEIGHBOUR: 'it returns false'. Refute it at one input. -/
def writesApplyWrong : ChangeSpec := { name := "writesApply", fn := fun _ => fun
  | [d1, d2] => { results := [.lit (.bool false)], args := [d1, d2] }
  | _ => none }
def WritesApplyWrongFalsely : Prop := writesApplyRow.holds Try.pinned (OpenSpec.ofChange writesApplyWrong)

/-- 'stillagelaw09.WritesSurvive': WHATEVER THE INPUT: true; the input reads as it did. -/
def writesSurviveSpec : ChangeSpec := { name := "writesSurvive", fn := fun _ => fun
  | [d1, d2, d3] => { results := [.lit (.bool true)], args := [d1, d2, d3] }
  | _ => none }
def writesSurviveRow : OpenClaim := { program := "ytkgbimkjpllakaa", sum := "6d641da2a7875e81b72adeb675662d94a36861af41fc9151b177222d232d1914", func := "stillage/stillagelaw09.WritesSurvive", spec := "writesSurvive", unfollowed := true, recurses := true, apart := false }
def WritesSurviveSaid : Prop := writesSurviveRow.holds Try.pinned (OpenSpec.ofChange writesSurviveSpec)

/-- ITS FALSE NEIGHBOUR: 'it returns false'. Refute it at one input. -/
def writesSurviveWrong : ChangeSpec := { name := "writesSurvive", fn := fun _ => fun
  | [d1, d2, d3] => { results := [.lit (.bool false)], args := [d1, d2, d3] }
  | _ => none }
def WritesSurviveWrongFalsely : Prop := writesSurviveRow.holds Try.pinned (OpenSpec.ofChange writesSurviveWrong)

/-- 'stillagelaw09.WritesEnds': WHATEVER THE INPUT: true; the input reads as it did. -/
def writesEndsSpec : ChangeSpec := { name := "writesEnds", fn := fun _ => fun
  | [d1, d2, d3] => { results := [.lit (.bool true)], args := [d1, d2, d3] }
  | _ => none }
def writesEndsRow : OpenClaim := { program := "ytkgbimkjpllakaa", sum := "6d641da2a7875e81b72adeb675662d94a36861af41fc9151b177222d232d1914", func := "stillage/stillagelaw09.WritesEnds", spec := "writesEnds", unfollowed := true, recurses := true, apart := false }
def WritesEndsSaid : Prop := writesEndsRow.holds Try.pinned (OpenSpec.ofChange writesEndsSpec)

/-- ITS FALSE NEIGHBOUR: 'it returns false'. Refute it at one input. -/
def writesEndsWrong : ChangeSpec := { name := "writesEnds", fn := fun _ => fun
  | [d1, d2, d3] => { results := [.lit (.bool false)], args := [d1, d2, d3] }
  | _ => none }
def WritesEndsWrongFalsely : Prop := writesEndsRow.holds Try.pinned (OpenSpec.ofChange writesEndsWrong)

/-- 'stillagelaw10.InodeLasts': WHATEVER THE INPUT: true; the input reads as it did. -/
def inodeLastsSpec : ChangeSpec := { name := "inodeLasts", fn := fun _ => fun
  | [d1, d2, d3] => { results := [.lit (.bool true)], args := [d1, d2, d3] }
  | _ => none }
def inodeLastsRow : OpenClaim := { program := "ytkgbimkjpllakaa", sum := "6d641da2a7875e81b72adeb675662d94a36861af41fc9151b177222d232d1914", func := "stillage/stillagelaw10.InodeLasts", spec := "inodeLasts", unfollowed := true, recurses := true, apart := false }
def InodeLastsSaid : Prop := inodeLastsRow.holds Try.pinned (OpenSpec.ofChange inodeLastsSpec)

/-- ITS FALSE NEIGHBOUR: 'it returns false'. Refute it at one input. -/
def inodeLastsWrong : ChangeSpec := { name := "inodeLasts", fn := fun _ => fun
  | [d1, d2, d3] => { results := [.lit (.bool false)], args := [d1, d2, d3] }
  | _ => none }
def InodeLastsWrongFalsely : Prop := inodeLastsRow.holds Try.pinned (OpenSpec.ofChange inodeLastsWrong)

/-- 'stillagelaw10.InodeCrash': WHATEVER THE INPUT: true; the input reads as it did. -/
def inodeCrashSpec : ChangeSpec := { name := "inodeCrash", fn := fun _ => fun
  | [d1, d2] => { results := [.lit (.bool true)], args := [d1, d2] }
  | _ => none }
def inodeCrashRow : OpenClaim := { program := "ytkgbimkjpllakaa", sum := "6d641da2a7875e81b72adeb675662d94a36861af41fc9151b177222d232d1914", func := "stillage/stillagelaw10.InodeCrash", spec := "inodeCrash", unfollowed := true, recurses := true, apart := false }
def InodeCrashSaid : Prop := inodeCrashRow.holds Try.pinned (OpenSpec.ofChange inodeCrashSpec)

/-- ITS FALSE NEIGHBOUR: 'it returns false'. Refute it at one input. -/
def inodeCrashWrong : ChangeSpec := { name := "inodeCrash", fn := fun _ => fun
  | [d1, d2] => { results := [.lit (.bool false)], args := [d1, d2] }
  | _ => none }
def InodeCrashWrongFalsely : Prop := inodeCrashRow.holds Try.pinned (OpenSpec.ofChange inodeCrashWrong)

/-- 'stillagelaw28.LedgerVictim': WHATEVER THE INPUT: true; the input reads as it did. -/
def ledgerVictimSpec : ChangeSpec := { name := "ledgerVictim", fn := fun _ => fun
  | [d1, d2, d3] => { results := [.lit (.bool true)], args := [d1, d2, d3] }
  | _ => none }
def ledgerVictimRow : OpenClaim := { program := "ytkgbimkjpllakaa", sum := "6d641da2a7875e81b72adeb675662d94a36861af41fc9151b177222d232d1914", func := "stillage/stillagelaw28.LedgerVictim", spec := "ledgerVictim", unfollowed := true, recurses := true, apart := false }
def LedgerVictimSaid : Prop := ledgerVictimRow.holds Try.pinned (OpenSpec.ofChange ledgerVictimSpec)

/-- ITS FALSE NEIGHBOUR: 'it returns false'. Refute it at one input. -/
def ledgerVictimWrong : ChangeSpec := { name := "ledgerVictim", fn := fun _ => fun
  | [d1, d2, d3] => { results := [.lit (.bool false)], args := [d1, d2, d3] }
  | _ => none }
def LedgerVictimWrongFalsely : Prop := ledgerVictimRow.holds Try.pinned (OpenSpec.ofChange ledgerVictimWrong)

/-- 'stillagelaw28.LedgerLeast': WHATEVER THE INPUT: true; the input reads as it did. -/
def ledgerLeastSpec : ChangeSpec := { name := "ledgerLeast", fn := fun _ => fun
  | [d1, d2] => { results := [.lit (.bool true)], args := [d1, d2] }
  | _ => none }
def ledgerLeastRow : OpenClaim := { program := "ytkgbimkjpllakaa", sum := "6d641da2a7875e81b72adeb675662d94a36861af41fc9151b177222d232d1914", func := "stillage/stillagelaw28.LedgerLeast", spec := "ledgerLeast", unfollowed := true, recurses := true, apart := false }
def LedgerLeastSaid : Prop := ledgerLeastRow.holds Try.pinned (OpenSpec.ofChange ledgerLeastSpec)

/-- ITS FALSE NEIGHBOUR: 'it returns false'. Refute it at one input. -/
def ledgerLeastWrong : ChangeSpec := { name := "ledgerLeast", fn := fun _ => fun
  | [d1, d2] => { results := [.lit (.bool false)], args := [d1, d2] }
  | _ => none }
def LedgerLeastWrongFalsely : Prop := ledgerLeastRow.holds Try.pinned (OpenSpec.ofChange ledgerLeastWrong)

/-- 'stillagelaw28.LedgerFits': WHATEVER THE INPUT: true; the input reads as it did. -/
def ledgerFitsSpec : ChangeSpec := { name := "ledgerFits", fn := fun _ => fun
  | [d1, d2] => { results := [.lit (.bool true)], args := [d1, d2] }
  | _ => none }
def ledgerFitsRow : OpenClaim := { program := "ytkgbimkjpllakaa", sum := "6d641da2a7875e81b72adeb675662d94a36861af41fc9151b177222d232d1914", func := "stillage/stillagelaw28.LedgerFits", spec := "ledgerFits", unfollowed := true, recurses := true, apart := false }
def LedgerFitsSaid : Prop := ledgerFitsRow.holds Try.pinned (OpenSpec.ofChange ledgerFitsSpec)

/-- ITS FALSE NEIGHBOUR: 'it returns false'. Refute it at one input. -/
def ledgerFitsWrong : ChangeSpec := { name := "ledgerFits", fn := fun _ => fun
  | [d1, d2] => { results := [.lit (.bool false)], args := [d1, d2] }
  | _ => none }
def LedgerFitsWrongFalsely : Prop := ledgerFitsRow.holds Try.pinned (OpenSpec.ofChange ledgerFitsWrong)

/-- 'stillagelaw10.InodeDoes': WHATEVER THE INPUT: true; the input reads as it did. -/
def inodeDoesSpec : ChangeSpec := { name := "inodeDoes", fn := fun _ => fun
  | [d1, d2, d3] => { results := [.lit (.bool true)], args := [d1, d2, d3] }
  | _ => none }
def inodeDoesRow : OpenClaim := { program := "ytkgbimkjpllakaa", sum := "6d641da2a7875e81b72adeb675662d94a36861af41fc9151b177222d232d1914", func := "stillage/stillagelaw10.InodeDoes", spec := "inodeDoes", unfollowed := true, recurses := true, apart := false }
def InodeDoesSaid : Prop := inodeDoesRow.holds Try.pinned (OpenSpec.ofChange inodeDoesSpec)

/-- ITS FALSE NEIGHBOUR: 'it returns false'. Refute it at one input. -/
def inodeDoesWrong : ChangeSpec := { name := "inodeDoes", fn := fun _ => fun
  | [d1, d2, d3] => { results := [.lit (.bool false)], args := [d1, d2, d3] }
  | _ => none }
def InodeDoesWrongFalsely : Prop := inodeDoesRow.holds Try.pinned (OpenSpec.ofChange inodeDoesWrong)

/- THE SECOND FORM. 'bulk': how many values and letters a reading holds, each counted each time it is reached (what is shared counts as often as it is met; a slice's spare places count too). A statement '..UptoSaid' is the law's where the arguments, and the package variables that the reading takes, are together of bulk at most 1048576: NARROWER than '..Said'. Prove '..Said' where nothing that the law and all that it calls make is longer than what came in: it says more and counts as full. Else prove '..UptoSaid'. A law counts once. -/
mutual
def uptoBulk {H : Type} : DataW H → Nat
  | .lit (.string bytes) => bytes.length + 1
  | .lit _ => 1
  | .nil => 1
  | .ptr d => uptoBulk d + 1
  | .slice elems spare => uptoBulkAll elems + uptoBulkAll spare + 1
  | .agg parts => uptoBulkAll parts + 1
  | .iface _ d => uptoBulk d + 1
  | .map entries => uptoBulkEntries entries + 1
  | .held _ => 1
def uptoBulkAll {H : Type} : List (DataW H) → Nat
  | [] => 0
  | d :: r => uptoBulk d + uptoBulkAll r
def uptoBulkEntries {H : Type} : List (Lit × DataW H) → Nat
  | [] => 0
  | x :: r => uptoBulkEntry x + uptoBulkEntries r
def uptoBulkEntry {H : Type} : Lit × DataW H → Nat
  | (.string bytes, d) => bytes.length + uptoBulk d + 1
  | (_, d) => uptoBulk d + 1
 end
def uptoSmall : (H : Type) → List (DataW H) → Bool := fun _ ds => decide (uptoBulkAll ds ≤ 1048576)
def OpenSpec.upto (s : _root_.Go.ChangeSpec) : _root_.Go.OpenSpec := { _root_.Go.OpenSpec.ofChange s with cond := some uptoSmall }

/-- 'stillagelaw09.WritesApply', WHERE WHAT IT READS IS OF BULK AT MOST 1048576: true; the input reads as it did. -/
def writesApplyUptoRow : OpenClaim := { program := "ytkgbimkjpllakaa", sum := "6d641da2a7875e81b72adeb675662d94a36861af41fc9151b177222d232d1914", func := "stillage/stillagelaw09.WritesApply", spec := "writesApply", unfollowed := true, recurses := true, apart := false, narrowed := true }
def WritesApplyUptoSaid : Prop := writesApplyUptoRow.holds Try.pinned (OpenSpec.upto writesApplySpec)

/-- 'stillagelaw09.WritesSurvive', WHERE WHAT IT READS IS OF BULK AT MOST 1048576: true; the input reads as it did. -/
def writesSurviveUptoRow : OpenClaim := { program := "ytkgbimkjpllakaa", sum := "6d641da2a7875e81b72adeb675662d94a36861af41fc9151b177222d232d1914", func := "stillage/stillagelaw09.WritesSurvive", spec := "writesSurvive", unfollowed := true, recurses := true, apart := false, narrowed := true }
def WritesSurviveUptoSaid : Prop := writesSurviveUptoRow.holds Try.pinned (OpenSpec.upto writesSurviveSpec)

/-- 'stillagelaw09.WritesEnds', WHERE WHAT IT READS IS OF BULK AT MOST 1048576: true; the input reads as it did. -/
def writesEndsUptoRow : OpenClaim := { program := "ytkgbimkjpllakaa", sum := "6d641da2a7875e81b72adeb675662d94a36861af41fc9151b177222d232d1914", func := "stillage/stillagelaw09.WritesEnds", spec := "writesEnds", unfollowed := true, recurses := true, apart := false, narrowed := true }
def WritesEndsUptoSaid : Prop := writesEndsUptoRow.holds Try.pinned (OpenSpec.upto writesEndsSpec)

/-- 'stillagelaw10.InodeLasts', WHERE WHAT IT READS IS OF BULK AT MOST 1048576: true; the input reads as it did. -/
def inodeLastsUptoRow : OpenClaim := { program := "ytkgbimkjpllakaa", sum := "6d641da2a7875e81b72adeb675662d94a36861af41fc9151b177222d232d1914", func := "stillage/stillagelaw10.InodeLasts", spec := "inodeLasts", unfollowed := true, recurses := true, apart := false, narrowed := true }
def InodeLastsUptoSaid : Prop := inodeLastsUptoRow.holds Try.pinned (OpenSpec.upto inodeLastsSpec)

/-- 'stillagelaw10.InodeCrash', WHERE WHAT IT READS IS OF BULK AT MOST 1048576: true; the input reads as it did. -/
def inodeCrashUptoRow : OpenClaim := { program := "ytkgbimkjpllakaa", sum := "6d641da2a7875e81b72adeb675662d94a36861af41fc9151b177222d232d1914", func := "stillage/stillagelaw10.InodeCrash", spec := "inodeCrash", unfollowed := true, recurses := true, apart := false, narrowed := true }
def InodeCrashUptoSaid : Prop := inodeCrashUptoRow.holds Try.pinned (OpenSpec.upto inodeCrashSpec)

/-- 'stillagelaw28.LedgerVictim', WHERE WHAT IT READS IS OF BULK AT MOST 1048576: true; the input reads as it did. -/
def ledgerVictimUptoRow : OpenClaim := { program := "ytkgbimkjpllakaa", sum := "6d641da2a7875e81b72adeb675662d94a36861af41fc9151b177222d232d1914", func := "stillage/stillagelaw28.LedgerVictim", spec := "ledgerVictim", unfollowed := true, recurses := true, apart := false, narrowed := true }
def LedgerVictimUptoSaid : Prop := ledgerVictimUptoRow.holds Try.pinned (OpenSpec.upto ledgerVictimSpec)

/-- 'stillagelaw28.LedgerLeast', WHERE WHAT IT READS IS OF BULK AT MOST 1048576: true; the input reads as it did. -/
def ledgerLeastUptoRow : OpenClaim := { program := "ytkgbimkjpllakaa", sum := "6d641da2a7875e81b72adeb675662d94a36861af41fc9151b177222d232d1914", func := "stillage/stillagelaw28.LedgerLeast", spec := "ledgerLeast", unfollowed := true, recurses := true, apart := false, narrowed := true }
def LedgerLeastUptoSaid : Prop := ledgerLeastUptoRow.holds Try.pinned (OpenSpec.upto ledgerLeastSpec)

/-- 'stillagelaw28.LedgerFits', WHERE WHAT IT READS IS OF BULK AT MOST 1048576: true; the input reads as it did. -/
def ledgerFitsUptoRow : OpenClaim := { program := "ytkgbimkjpllakaa", sum := "6d641da2a7875e81b72adeb675662d94a36861af41fc9151b177222d232d1914", func := "stillage/stillagelaw28.LedgerFits", spec := "ledgerFits", unfollowed := true, recurses := true, apart := false, narrowed := true }
def LedgerFitsUptoSaid : Prop := ledgerFitsUptoRow.holds Try.pinned (OpenSpec.upto ledgerFitsSpec)

/-- 'stillagelaw10.InodeDoes', WHERE WHAT IT READS IS OF BULK AT MOST 1048576: true; the input reads as it did. -/
def inodeDoesUptoRow : OpenClaim := { program := "ytkgbimkjpllakaa", sum := "6d641da2a7875e81b72adeb675662d94a36861af41fc9151b177222d232d1914", func := "stillage/stillagelaw10.InodeDoes", spec := "inodeDoes", unfollowed := true, recurses := true, apart := false, narrowed := true }
def InodeDoesUptoSaid : Prop := inodeDoesUptoRow.holds Try.pinned (OpenSpec.upto inodeDoesSpec)

end Rows
end Go.Proofs.Ytkgbimkjpllakaa
