/-
  No cell of these rows narrows 'for every input' (looked for: loops, veiled, ifaces, maps, wideKeys, modest, calm, conditions, laid).
  DERIVED. THE GIVEN ROWS OF THIS SEAT. 11 by the template 'for every input the law returns true; each argument reads behind the call as it read before'; 0 by the template 'total and deterministic' (their statements: YtceldlijbehkdaaTotals.lean).
  GIVEN WITH THE SEED: the statements are not yours to turn. If you find one false, say at which input.
  Laid BY PROGRAM, IN A SANDBOX (cutbox-rows.mjs): the forced cells as the released guide's own fill.sh prints them over the translation b84e55108299ec0a… (all of the seat's roots in one cut). By AI agents, Wed Nov 11 2026. No macro, syntax, notation, axiom, sorry.
-/
import Derived.Test.YtceldlijbehkdaaChecked
import GoSem.Claim
import GoSem.ClaimJoined
import GoSem.ClaimMapViews
import Derived.JoinedTies
import Derived.KernelRfl
namespace Go.Proofs.Ytceldlijbehkdaa
/- THE CELL 'sum', in the pinned program and in every row, IS THE sha256 OF THE DUMP (.gsa) THAT YtceldlijbehkdaaProg.lean LOADS. Nothing in Lean hashes anything: it is a label: what it is worth is what the hold of that sum in a sandbox is worth. -/
noncomputable def Try.pinned : Pinned := { name := "ytceldlijbehkdaa", sum := "b84e55108299ec0a6e3db3e82b4b1a8f2250b19dbb807f318b2e1ebd29fc0cba", checked := Try.checked }
namespace Rows
def none {H : Type} : Left H := { results := [], args := [] }

/-- 'stillagelaw14.RecordParses': WHATEVER THE INPUT: true; the input reads as it did. -/
def recordParsesSpec : ChangeSpec := { name := "recordParses", fn := fun _ => fun
  | [d1, d2] => { results := [.lit (.bool true)], args := [d1, d2] }
  | _ => none }
def recordParsesRow : OpenClaim := { program := "ytceldlijbehkdaa", sum := "b84e55108299ec0a6e3db3e82b4b1a8f2250b19dbb807f318b2e1ebd29fc0cba", func := "stillage/stillagelaw14.RecordParses", spec := "recordParses", apart := false }
def RecordParsesSaid : Prop := recordParsesRow.holds Try.pinned (OpenSpec.ofChange recordParsesSpec)

/-- ITS FALSE NEIGHBOUR: 'it returns false'. Refute it at one input. -/
def recordParsesWrong : ChangeSpec := { name := "recordParses", fn := fun _ => fun
  | [d1, d2] => { results := [.lit (.bool false)], args := [d1, d2] }
  | _ => none }
def RecordParsesWrongFalsely : Prop := recordParsesRow.holds Try.pinned (OpenSpec.ofChange recordParsesWrong)

/-- 'stillagelaw14.RecordForms': WHATEVER THE INPUT: true; the input reads as it did. -/
def recordFormsSpec : ChangeSpec := { name := "recordForms", fn := fun _ => fun
  | [d1, d2, d3] => { results := [.lit (.bool true)], args := [d1, d2, d3] }
  | _ => none }
def recordFormsRow : OpenClaim := { program := "ytceldlijbehkdaa", sum := "b84e55108299ec0a6e3db3e82b4b1a8f2250b19dbb807f318b2e1ebd29fc0cba", func := "stillage/stillagelaw14.RecordForms", spec := "recordForms", apart := false }
def RecordFormsSaid : Prop := recordFormsRow.holds Try.pinned (OpenSpec.ofChange recordFormsSpec)

/-- ITS FALSE NEIGHBOUR: 'it returns false'. Refute it at one input. -/
def recordFormsWrong : ChangeSpec := { name := "recordForms", fn := fun _ => fun
  | [d1, d2, d3] => { results := [.lit (.bool false)], args := [d1, d2, d3] }
  | _ => none }
def RecordFormsWrongFalsely : Prop := recordFormsRow.holds Try.pinned (OpenSpec.ofChange recordFormsWrong)

/-- 'stillagelaw14.RecordBack': WHATEVER THE INPUT: true; the input reads as it did. -/
def recordBackSpec : ChangeSpec := { name := "recordBack", fn := fun _ => fun
  | [d1, d2, d3] => { results := [.lit (.bool true)], args := [d1, d2, d3] }
  | _ => none }
def recordBackRow : OpenClaim := { program := "ytceldlijbehkdaa", sum := "b84e55108299ec0a6e3db3e82b4b1a8f2250b19dbb807f318b2e1ebd29fc0cba", func := "stillage/stillagelaw14.RecordBack", spec := "recordBack", apart := false }
def RecordBackSaid : Prop := recordBackRow.holds Try.pinned (OpenSpec.ofChange recordBackSpec)

/-- ITS FALSE NEIGHBOUR: 'it returns false'. Refute it at one input. -/
def recordBackWrong : ChangeSpec := { name := "recordBack", fn := fun _ => fun
  | [d1, d2, d3] => { results := [.lit (.bool false)], args := [d1, d2, d3] }
  | _ => none }
def RecordBackWrongFalsely : Prop := recordBackRow.holds Try.pinned (OpenSpec.ofChange recordBackWrong)

/-- 'stillagelaw14.RecordMakes': WHATEVER THE INPUT: true; the input reads as it did. -/
def recordMakesSpec : ChangeSpec := { name := "recordMakes", fn := fun _ => fun
  | [d1, d2] => { results := [.lit (.bool true)], args := [d1, d2] }
  | _ => none }
def recordMakesRow : OpenClaim := { program := "ytceldlijbehkdaa", sum := "b84e55108299ec0a6e3db3e82b4b1a8f2250b19dbb807f318b2e1ebd29fc0cba", func := "stillage/stillagelaw14.RecordMakes", spec := "recordMakes", apart := false }
def RecordMakesSaid : Prop := recordMakesRow.holds Try.pinned (OpenSpec.ofChange recordMakesSpec)

/-- ITS FALSE NEIGHBOUR: 'it returns false'. Refute it at one input. -/
def recordMakesWrong : ChangeSpec := { name := "recordMakes", fn := fun _ => fun
  | [d1, d2] => { results := [.lit (.bool false)], args := [d1, d2] }
  | _ => none }
def RecordMakesWrongFalsely : Prop := recordMakesRow.holds Try.pinned (OpenSpec.ofChange recordMakesWrong)

/-- 'stillagelaw15.BatchMakes': WHATEVER THE INPUT: true; the input reads as it did. -/
def batchMakesSpec : ChangeSpec := { name := "batchMakes", fn := fun _ => fun
  | [d1, d2] => { results := [.lit (.bool true)], args := [d1, d2] }
  | _ => none }
def batchMakesRow : OpenClaim := { program := "ytceldlijbehkdaa", sum := "b84e55108299ec0a6e3db3e82b4b1a8f2250b19dbb807f318b2e1ebd29fc0cba", func := "stillage/stillagelaw15.BatchMakes", spec := "batchMakes", apart := false }
def BatchMakesSaid : Prop := batchMakesRow.holds Try.pinned (OpenSpec.ofChange batchMakesSpec)

/-- ITS FALSE NEIGHBOUR: 'it returns false'. Refute it at one input. -/
def batchMakesWrong : ChangeSpec := { name := "batchMakes", fn := fun _ => fun
  | [d1, d2] => { results := [.lit (.bool false)], args := [d1, d2] }
  | _ => none }
def BatchMakesWrongFalsely : Prop := batchMakesRow.holds Try.pinned (OpenSpec.ofChange batchMakesWrong)

/-- 'stillagelaw15.BatchBack': WHATEVER THE INPUT: true; the input reads as it did. -/
def batchBackSpec : ChangeSpec := { name := "batchBack", fn := fun _ => fun
  | [d1, d2] => { results := [.lit (.bool true)], args := [d1, d2] }
  | _ => none }
def batchBackRow : OpenClaim := { program := "ytceldlijbehkdaa", sum := "b84e55108299ec0a6e3db3e82b4b1a8f2250b19dbb807f318b2e1ebd29fc0cba", func := "stillage/stillagelaw15.BatchBack", spec := "batchBack", apart := false }
def BatchBackSaid : Prop := batchBackRow.holds Try.pinned (OpenSpec.ofChange batchBackSpec)

/-- ITS FALSE NEIGHBOUR: 'it returns false'. Refute it at one input. -/
def batchBackWrong : ChangeSpec := { name := "batchBack", fn := fun _ => fun
  | [d1, d2] => { results := [.lit (.bool false)], args := [d1, d2] }
  | _ => none }
def BatchBackWrongFalsely : Prop := batchBackRow.holds Try.pinned (OpenSpec.ofChange batchBackWrong)

/-- 'stillagelaw15.BatchTorn': WHATEVER THE INPUT: true; the input reads as it did. -/
def batchTornSpec : ChangeSpec := { name := "batchTorn", fn := fun _ => fun
  | [d1, d2, d3] => { results := [.lit (.bool true)], args := [d1, d2, d3] }
  | _ => none }
def batchTornRow : OpenClaim := { program := "ytceldlijbehkdaa", sum := "b84e55108299ec0a6e3db3e82b4b1a8f2250b19dbb807f318b2e1ebd29fc0cba", func := "stillage/stillagelaw15.BatchTorn", spec := "batchTorn", apart := false }
def BatchTornSaid : Prop := batchTornRow.holds Try.pinned (OpenSpec.ofChange batchTornSpec)

/-- ITS FALSE NEIGHBOUR: 'it returns false'. Refute it at one input. -/
def batchTornWrong : ChangeSpec := { name := "batchTorn", fn := fun _ => fun
  | [d1, d2, d3] => { results := [.lit (.bool false)], args := [d1, d2, d3] }
  | _ => none }
def BatchTornWrongFalsely : Prop := batchTornRow.holds Try.pinned (OpenSpec.ofChange batchTornWrong)

/-- 'stillagelaw16.SegmentScans': WHATEVER THE INPUT: true; the input reads as it did. -/
def segmentScansSpec : ChangeSpec := { name := "segmentScans", fn := fun _ => fun
  | [d1, d2] => { results := [.lit (.bool true)], args := [d1, d2] }
  | _ => none }
def segmentScansRow : OpenClaim := { program := "ytceldlijbehkdaa", sum := "b84e55108299ec0a6e3db3e82b4b1a8f2250b19dbb807f318b2e1ebd29fc0cba", func := "stillage/stillagelaw16.SegmentScans", spec := "segmentScans", unfollowed := true, recurses := true, apart := false }
def SegmentScansSaid : Prop := segmentScansRow.holds Try.pinned (OpenSpec.ofChange segmentScansSpec)

/-- ITS FALSE NEIGHBOUR: 'it returns false'. Refute it at one input. -/
def segmentScansWrong : ChangeSpec := { name := "segmentScans", fn := fun _ => fun
  | [d1, d2] => { results := [.lit (.bool false)], args := [d1, d2] }
  | _ => none }
def SegmentScansWrongFalsely : Prop := segmentScansRow.holds Try.pinned (OpenSpec.ofChange segmentScansWrong)

/-- 'stillagelaw16.SegmentBack': WHATEVER THE INPUT: true; the input reads as it did. -/
def segmentBackSpec : ChangeSpec := { name := "segmentBack", fn := fun _ => fun
  | [d] => { results := [.lit (.bool true)], args := [d] }
  | _ => none }
def segmentBackRow : OpenClaim := { program := "ytceldlijbehkdaa", sum := "b84e55108299ec0a6e3db3e82b4b1a8f2250b19dbb807f318b2e1ebd29fc0cba", func := "stillage/stillagelaw16.SegmentBack", spec := "segmentBack", unfollowed := true, recurses := true, apart := false }
def SegmentBackSaid : Prop := segmentBackRow.holds Try.pinned (OpenSpec.ofChange segmentBackSpec)

/-- ITS FALSE NEIGHBOUR: 'it returns false'. Refute it at one input. -/
def segmentBackWrong : ChangeSpec := { name := "segmentBack", fn := fun _ => fun
  | [d] => { results := [.lit (.bool false)], args := [d] }
  | _ => none }
def SegmentBackWrongFalsely : Prop := segmentBackRow.holds Try.pinned (OpenSpec.ofChange segmentBackWrong)

/-- 'stillagelaw16.SegmentTorn': WHATEVER THE INPUT: true; the input reads as it did. -/
def segmentTornSpec : ChangeSpec := { name := "segmentTorn", fn := fun _ => fun
  | [d1, d2, d3] => { results := [.lit (.bool true)], args := [d1, d2, d3] }
  | _ => none }
def segmentTornRow : OpenClaim := { program := "ytceldlijbehkdaa", sum := "b84e55108299ec0a6e3db3e82b4b1a8f2250b19dbb807f318b2e1ebd29fc0cba", func := "stillage/stillagelaw16.SegmentTorn", spec := "segmentTorn", unfollowed := true, recurses := true, apart := false }
def SegmentTornSaid : Prop := segmentTornRow.holds Try.pinned (OpenSpec.ofChange segmentTornSpec)

/-- ITS FALSE NEIGHBOUR: 'it returns false'. Refute it at one input. -/
def segmentTornWrong : ChangeSpec := { name := "segmentTorn", fn := fun _ => fun
  | [d1, d2, d3] => { results := [.lit (.bool false)], args := [d1, d2, d3] }
  | _ => none }
def SegmentTornWrongFalsely : Prop := segmentTornRow.holds Try.pinned (OpenSpec.ofChange segmentTornWrong)

/-- 'stillagelaw16.SegmentEnds': WHATEVER THE INPUT: true; the input reads as it did. -/
def segmentEndsSpec : ChangeSpec := { name := "segmentEnds", fn := fun _ => fun
  | [d1, d2, d3] => { results := [.lit (.bool true)], args := [d1, d2, d3] }
  | _ => none }
def segmentEndsRow : OpenClaim := { program := "ytceldlijbehkdaa", sum := "b84e55108299ec0a6e3db3e82b4b1a8f2250b19dbb807f318b2e1ebd29fc0cba", func := "stillage/stillagelaw16.SegmentEnds", spec := "segmentEnds", unfollowed := true, recurses := true, apart := false }
def SegmentEndsSaid : Prop := segmentEndsRow.holds Try.pinned (OpenSpec.ofChange segmentEndsSpec)

/-- ITS FALSE NEIGHBOUR: 'it returns false'. Refute it at one input. -/
def segmentEndsWrong : ChangeSpec := { name := "segmentEnds", fn := fun _ => fun
  | [d1, d2, d3] => { results := [.lit (.bool false)], args := [d1, d2, d3] }
  | _ => none }
def SegmentEndsWrongFalsely : Prop := segmentEndsRow.holds Try.pinned (OpenSpec.ofChange segmentEndsWrong)

/- THE SECOND FORM. 'bulk': how many values and letters a reading holds, each counted each time it is reached (what is shared counts as often as it is met; a slice's spare places count too). A statement '..UptoSaid' is the law's where the arguments, and the package variables that the reading takes, are together of bulk at most 1048576: NARROWER than '..Said'. Prove '..Said' where nothing that the law and all that it calls make is longer than what came in: it says more and counts as full. Else prove '..UptoSaid'. A law counts once. -/
mutual
def uptoBulk {H : Type} : DataW H → Nat
  | .lit (.string bytes) => bytes.length + 1
  | .lit _ => 1
  | .nil => 1
  | .ptr d => uptoBulk d + 1
  | .slice elems spare => uptoBulkAll elems + uptoBulkAll spare + 1
  | .agg parts => uptoBulkAll parts + 1
  | .iface _ d => uptoBulk d + 1
  | .map entries => uptoBulkEntries entries + 1
  | .held _ => 1
def uptoBulkAll {H : Type} : List (DataW H) → Nat
  | [] => 0
  | d :: r => uptoBulk d + uptoBulkAll r
def uptoBulkEntries {H : Type} : List (Lit × DataW H) → Nat
  | [] => 0
  | x :: r => uptoBulkEntry x + uptoBulkEntries r
def uptoBulkEntry {H : Type} : Lit × DataW H → Nat
  | (.string bytes, d) => bytes.length + uptoBulk d + 1
  | (_, d) => uptoBulk d + 1
 end
def uptoSmall : (H : Type) → List (DataW H) → Bool := fun _ ds => decide (uptoBulkAll ds ≤ 1048576)
def OpenSpec.upto (s : _root_.Go.ChangeSpec) : _root_.Go.OpenSpec := { _root_.Go.OpenSpec.ofChange s with cond := some uptoSmall }

/-- 'stillagelaw14.RecordParses', WHERE WHAT IT READS IS OF BULK AT MOST 1048576: true; the input reads as it did. -/
def recordParsesUptoRow : OpenClaim := { program := "ytceldlijbehkdaa", sum := "b84e55108299ec0a6e3db3e82b4b1a8f2250b19dbb807f318b2e1ebd29fc0cba", func := "stillage/stillagelaw14.RecordParses", spec := "recordParses", apart := false, narrowed := true }
def RecordParsesUptoSaid : Prop := recordParsesUptoRow.holds Try.pinned (OpenSpec.upto recordParsesSpec)

/-- 'stillagelaw14.RecordForms', WHERE WHAT IT READS IS OF BULK AT MOST 1048576: true; the input reads as it did. -/
def recordFormsUptoRow : OpenClaim := { program := "ytceldlijbehkdaa", sum := "b84e55108299ec0a6e3db3e82b4b1a8f2250b19dbb807f318b2e1ebd29fc0cba", func := "stillage/stillagelaw14.RecordForms", spec := "recordForms", apart := false, narrowed := true }
def RecordFormsUptoSaid : Prop := recordFormsUptoRow.holds Try.pinned (OpenSpec.upto recordFormsSpec)

/-- 'stillagelaw14.RecordBack', WHERE WHAT IT READS IS OF BULK AT MOST 1048576: true; the input reads as it did. -/
def recordBackUptoRow : OpenClaim := { program := "ytceldlijbehkdaa", sum := "b84e55108299ec0a6e3db3e82b4b1a8f2250b19dbb807f318b2e1ebd29fc0cba", func := "stillage/stillagelaw14.RecordBack", spec := "recordBack", apart := false, narrowed := true }
def RecordBackUptoSaid : Prop := recordBackUptoRow.holds Try.pinned (OpenSpec.upto recordBackSpec)

/-- 'stillagelaw14.RecordMakes', WHERE WHAT IT READS IS OF BULK AT MOST 1048576: true; the input reads as it did. -/
def recordMakesUptoRow : OpenClaim := { program := "ytceldlijbehkdaa", sum := "b84e55108299ec0a6e3db3e82b4b1a8f2250b19dbb807f318b2e1ebd29fc0cba", func := "stillage/stillagelaw14.RecordMakes", spec := "recordMakes", apart := false, narrowed := true }
def RecordMakesUptoSaid : Prop := recordMakesUptoRow.holds Try.pinned (OpenSpec.upto recordMakesSpec)

/-- 'stillagelaw15.BatchMakes', WHERE WHAT IT READS IS OF BULK AT MOST 1048576: true; the input reads as it did. -/
def batchMakesUptoRow : OpenClaim := { program := "ytceldlijbehkdaa", sum := "b84e55108299ec0a6e3db3e82b4b1a8f2250b19dbb807f318b2e1ebd29fc0cba", func := "stillage/stillagelaw15.BatchMakes", spec := "batchMakes", apart := false, narrowed := true }
def BatchMakesUptoSaid : Prop := batchMakesUptoRow.holds Try.pinned (OpenSpec.upto batchMakesSpec)

/-- 'stillagelaw15.BatchBack', WHERE WHAT IT READS IS OF BULK AT MOST 1048576: true; the input reads as it did. -/
def batchBackUptoRow : OpenClaim := { program := "ytceldlijbehkdaa", sum := "b84e55108299ec0a6e3db3e82b4b1a8f2250b19dbb807f318b2e1ebd29fc0cba", func := "stillage/stillagelaw15.BatchBack", spec := "batchBack", apart := false, narrowed := true }
def BatchBackUptoSaid : Prop := batchBackUptoRow.holds Try.pinned (OpenSpec.upto batchBackSpec)

/-- 'stillagelaw15.BatchTorn', WHERE WHAT IT READS IS OF BULK AT MOST 1048576: true; the input reads as it did. -/
def batchTornUptoRow : OpenClaim := { program := "ytceldlijbehkdaa", sum := "b84e55108299ec0a6e3db3e82b4b1a8f2250b19dbb807f318b2e1ebd29fc0cba", func := "stillage/stillagelaw15.BatchTorn", spec := "batchTorn", apart := false, narrowed := true }
def BatchTornUptoSaid : Prop := batchTornUptoRow.holds Try.pinned (OpenSpec.upto batchTornSpec)

/-- 'stillagelaw16.SegmentScans', WHERE WHAT IT READS IS OF BULK AT MOST 1048576: true; the input reads as it did. -/
def segmentScansUptoRow : OpenClaim := { program := "ytceldlijbehkdaa", sum := "b84e55108299ec0a6e3db3e82b4b1a8f2250b19dbb807f318b2e1ebd29fc0cba", func := "stillage/stillagelaw16.SegmentScans", spec := "segmentScans", unfollowed := true, recurses := true, apart := false, narrowed := true }
def SegmentScansUptoSaid : Prop := segmentScansUptoRow.holds Try.pinned (OpenSpec.upto segmentScansSpec)

/-- 'stillagelaw16.SegmentBack', WHERE WHAT IT READS IS OF BULK AT MOST 1048576: true; the input reads as it did. -/
def segmentBackUptoRow : OpenClaim := { program := "ytceldlijbehkdaa", sum := "b84e55108299ec0a6e3db3e82b4b1a8f2250b19dbb807f318b2e1ebd29fc0cba", func := "stillage/stillagelaw16.SegmentBack", spec := "segmentBack", unfollowed := true, recurses := true, apart := false, narrowed := true }
def SegmentBackUptoSaid : Prop := segmentBackUptoRow.holds Try.pinned (OpenSpec.upto segmentBackSpec)

/-- 'stillagelaw16.SegmentTorn', WHERE WHAT IT READS IS OF BULK AT MOST 1048576: true; the input reads as it did. -/
def segmentTornUptoRow : OpenClaim := { program := "ytceldlijbehkdaa", sum := "b84e55108299ec0a6e3db3e82b4b1a8f2250b19dbb807f318b2e1ebd29fc0cba", func := "stillage/stillagelaw16.SegmentTorn", spec := "segmentTorn", unfollowed := true, recurses := true, apart := false, narrowed := true }
def SegmentTornUptoSaid : Prop := segmentTornUptoRow.holds Try.pinned (OpenSpec.upto segmentTornSpec)

/-- 'stillagelaw16.SegmentEnds', WHERE WHAT IT READS IS OF BULK AT MOST 1048576: true; the input reads as it did. -/
def segmentEndsUptoRow : OpenClaim := { program := "ytceldlijbehkdaa", sum := "b84e55108299ec0a6e3db3e82b4b1a8f2250b19dbb807f318b2e1ebd29fc0cba", func := "stillage/stillagelaw16.SegmentEnds", spec := "segmentEnds", unfollowed := true, recurses := true, apart := false, narrowed := true }
def SegmentEndsUptoSaid : Prop := segmentEndsUptoRow.holds Try.pinned (OpenSpec.upto segmentEndsSpec)

end Rows
end Go.Proofs.Ytceldlijbehkdaa
