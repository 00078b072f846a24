/-
  No cell of these rows narrows 'for every input' (looked for: loops, veiled, ifaces, maps, wideKeys, modest, calm, conditions, laid).
  DERIVED. THE GIVEN ROWS OF THIS SEAT. 10 by the template 'for every input the law returns true; each argument reads behind the call as it read before'; 0 by the template 'total and deterministic' (their statements: YteeemiacibjaoaaTotals.lean).
  GIVEN WITH THE SEED: the statements are not yours to turn. If you find one false, say at which input.
  Laid BY PROGRAM, IN A SANDBOX (cutbox-rows.mjs): the forced cells as the released guide's own fill.sh prints them over the translation f349af96e5347b12… (all of the seat's roots in one cut). By AI agents, Wed Nov 11 2026. No macro, syntax, notation, axiom, sorry.
-/
import Derived.Test.YteeemiacibjaoaaChecked
import GoSem.Claim
import GoSem.ClaimJoined
import GoSem.ClaimMapViews
import Derived.JoinedTies
import Derived.KernelRfl
namespace Go.Proofs.Yteeemiacibjaoaa
/- THE CELL 'sum', in the pinned program and in every row, IS THE sha256 OF THE DUMP (.gsa) THAT YteeemiacibjaoaaProg.lean LOADS. Nothing in Lean hashes anything: it is a label: what it is worth is what the hold of that sum in a sandbox is worth. -/
noncomputable def Try.pinned : Pinned := { name := "yteeemiacibjaoaa", sum := "f349af96e5347b122b4177f86c3e39f8497679d4c3401a62cb03a01b3fb90357", checked := Try.checked }
namespace Rows
def none {H : Type} : Left H := { results := [], args := [] }

/-- 'stillagelaw13.FrameParses': WHATEVER THE INPUT: true; the input reads as it did. -/
def frameParsesSpec : ChangeSpec := { name := "frameParses", fn := fun _ => fun
  | [d1, d2] => { results := [.lit (.bool true)], args := [d1, d2] }
  | _ => none }
def frameParsesRow : OpenClaim := { program := "yteeemiacibjaoaa", sum := "f349af96e5347b122b4177f86c3e39f8497679d4c3401a62cb03a01b3fb90357", func := "stillage/stillagelaw13.FrameParses", spec := "frameParses", apart := false }
def FrameParsesSaid : Prop := frameParsesRow.holds Try.pinned (OpenSpec.ofChange frameParsesSpec)

/-- ITS FALSE NEIGHBOUR: 'it returns false'. Refute it at one input. -/
def frameParsesWrong : ChangeSpec := { name := "frameParses", fn := fun _ => fun
  | [d1, d2] => { results := [.lit (.bool false)], args := [d1, d2] }
  | _ => none }
def FrameParsesWrongFalsely : Prop := frameParsesRow.holds Try.pinned (OpenSpec.ofChange frameParsesWrong)

/-- 'stillagelaw13.FrameMakes': WHATEVER THE INPUT: true; the input reads as it did. -/
def frameMakesSpec : ChangeSpec := { name := "frameMakes", fn := fun _ => fun
  | [d] => { results := [.lit (.bool true)], args := [d] }
  | _ => none }
def frameMakesRow : OpenClaim := { program := "yteeemiacibjaoaa", sum := "f349af96e5347b122b4177f86c3e39f8497679d4c3401a62cb03a01b3fb90357", func := "stillage/stillagelaw13.FrameMakes", spec := "frameMakes", apart := false }
def FrameMakesSaid : Prop := frameMakesRow.holds Try.pinned (OpenSpec.ofChange frameMakesSpec)

/-- ITS FALSE NEIGHBOUR: 'it returns false'. Refute it at one input. -/
def frameMakesWrong : ChangeSpec := { name := "frameMakes", fn := fun _ => fun
  | [d] => { results := [.lit (.bool false)], args := [d] }
  | _ => none }
def FrameMakesWrongFalsely : Prop := frameMakesRow.holds Try.pinned (OpenSpec.ofChange frameMakesWrong)

/-- 'stillagelaw13.FrameBursts': WHATEVER THE INPUT: true; the input reads as it did. -/
def frameBurstsSpec : ChangeSpec := { name := "frameBursts", fn := fun _ => fun
  | [d1, d2, d3] => { results := [.lit (.bool true)], args := [d1, d2, d3] }
  | _ => none }
def frameBurstsRow : OpenClaim := { program := "yteeemiacibjaoaa", sum := "f349af96e5347b122b4177f86c3e39f8497679d4c3401a62cb03a01b3fb90357", func := "stillage/stillagelaw13.FrameBursts", spec := "frameBursts", apart := false }
def FrameBurstsSaid : Prop := frameBurstsRow.holds Try.pinned (OpenSpec.ofChange frameBurstsSpec)

/-- ITS FALSE NEIGHBOUR: 'it returns false'. Refute it at one input. -/
def frameBurstsWrong : ChangeSpec := { name := "frameBursts", fn := fun _ => fun
  | [d1, d2, d3] => { results := [.lit (.bool false)], args := [d1, d2, d3] }
  | _ => none }
def FrameBurstsWrongFalsely : Prop := frameBurstsRow.holds Try.pinned (OpenSpec.ofChange frameBurstsWrong)

/-- 'stillagelaw27.ConfigRight': WHATEVER THE INPUT: true; the input reads as it did. -/
def configRightSpec : ChangeSpec := { name := "configRight", fn := fun _ => fun
  | [d] => { results := [.lit (.bool true)], args := [d] }
  | _ => none }
def configRightRow : OpenClaim := { program := "yteeemiacibjaoaa", sum := "f349af96e5347b122b4177f86c3e39f8497679d4c3401a62cb03a01b3fb90357", func := "stillage/stillagelaw27.ConfigRight", spec := "configRight", apart := false }
def ConfigRightSaid : Prop := configRightRow.holds Try.pinned (OpenSpec.ofChange configRightSpec)

/-- ITS FALSE NEIGHBOUR: 'it returns false'. Refute it at one input. -/
def configRightWrong : ChangeSpec := { name := "configRight", fn := fun _ => fun
  | [d] => { results := [.lit (.bool false)], args := [d] }
  | _ => none }
def ConfigRightWrongFalsely : Prop := configRightRow.holds Try.pinned (OpenSpec.ofChange configRightWrong)

/-- 'stillagelaw27.ConfigFits': WHATEVER THE INPUT: true; the input reads as it did. -/
def configFitsSpec : ChangeSpec := { name := "configFits", fn := fun _ => fun
  | [d] => { results := [.lit (.bool true)], args := [d] }
  | _ => none }
def configFitsRow : OpenClaim := { program := "yteeemiacibjaoaa", sum := "f349af96e5347b122b4177f86c3e39f8497679d4c3401a62cb03a01b3fb90357", func := "stillage/stillagelaw27.ConfigFits", spec := "configFits", apart := false }
def ConfigFitsSaid : Prop := configFitsRow.holds Try.pinned (OpenSpec.ofChange configFitsSpec)

/-- ITS FALSE NEIGHBOUR: 'it returns false'. Refute it at one input. -/
def configFitsWrong : ChangeSpec := { name := "configFits", fn := fun _ => fun
  | [d] => { results := [.lit (.bool false)], args := [d] }
  | _ => none }
def ConfigFitsWrongFalsely : Prop := configFitsRow.holds Try.pinned (OpenSpec.ofChange configFitsWrong)

/-- 'stillagelaw23.CoderWrites': WHATEVER THE INPUT: true; the input reads as it did. -/
def coderWritesSpec : ChangeSpec := { name := "coderWrites", fn := fun _ => fun
  | [d1, d2] => { results := [.lit (.bool true)], args := [d1, d2] }
  | _ => none }
def coderWritesRow : OpenClaim := { program := "yteeemiacibjaoaa", sum := "f349af96e5347b122b4177f86c3e39f8497679d4c3401a62cb03a01b3fb90357", func := "stillage/stillagelaw23.CoderWrites", spec := "coderWrites", unfollowed := true, recurses := true, apart := false }
def CoderWritesSaid : Prop := coderWritesRow.holds Try.pinned (OpenSpec.ofChange coderWritesSpec)

/-- ITS FALSE NEIGHBOUR: 'it returns false'. Refute it at one input. -/
def coderWritesWrong : ChangeSpec := { name := "coderWrites", fn := fun _ => fun
  | [d1, d2] => { results := [.lit (.bool false)], args := [d1, d2] }
  | _ => none }
def CoderWritesWrongFalsely : Prop := coderWritesRow.holds Try.pinned (OpenSpec.ofChange coderWritesWrong)

/-- 'stillagelaw23.CoderBursts': WHATEVER THE INPUT: true; the input reads as it did. -/
def coderBurstsSpec : ChangeSpec := { name := "coderBursts", fn := fun _ => fun
  | [d1, d2, d3] => { results := [.lit (.bool true)], args := [d1, d2, d3] }
  | _ => none }
def coderBurstsRow : OpenClaim := { program := "yteeemiacibjaoaa", sum := "f349af96e5347b122b4177f86c3e39f8497679d4c3401a62cb03a01b3fb90357", func := "stillage/stillagelaw23.CoderBursts", spec := "coderBursts", unfollowed := true, recurses := true, apart := false }
def CoderBurstsSaid : Prop := coderBurstsRow.holds Try.pinned (OpenSpec.ofChange coderBurstsSpec)

/-- ITS FALSE NEIGHBOUR: 'it returns false'. Refute it at one input. -/
def coderBurstsWrong : ChangeSpec := { name := "coderBursts", fn := fun _ => fun
  | [d1, d2, d3] => { results := [.lit (.bool false)], args := [d1, d2, d3] }
  | _ => none }
def CoderBurstsWrongFalsely : Prop := coderBurstsRow.holds Try.pinned (OpenSpec.ofChange coderBurstsWrong)

/-- 'stillagelaw23.CoderReads': WHATEVER THE INPUT: true; the input reads as it did. -/
def coderReadsSpec : ChangeSpec := { name := "coderReads", fn := fun _ => fun
  | [d1, d2, d3] => { results := [.lit (.bool true)], args := [d1, d2, d3] }
  | _ => none }
def coderReadsRow : OpenClaim := { program := "yteeemiacibjaoaa", sum := "f349af96e5347b122b4177f86c3e39f8497679d4c3401a62cb03a01b3fb90357", func := "stillage/stillagelaw23.CoderReads", spec := "coderReads", unfollowed := true, recurses := true, apart := false }
def CoderReadsSaid : Prop := coderReadsRow.holds Try.pinned (OpenSpec.ofChange coderReadsSpec)

/-- ITS FALSE NEIGHBOUR: 'it returns false'. Refute it at one input. -/
def coderReadsWrong : ChangeSpec := { name := "coderReads", fn := fun _ => fun
  | [d1, d2, d3] => { results := [.lit (.bool false)], args := [d1, d2, d3] }
  | _ => none }
def CoderReadsWrongFalsely : Prop := coderReadsRow.holds Try.pinned (OpenSpec.ofChange coderReadsWrong)

/-- 'stillagelaw23.CoderBack': WHATEVER THE INPUT: true; the input reads as it did. -/
def coderBackSpec : ChangeSpec := { name := "coderBack", fn := fun _ => fun
  | [d1, d2] => { results := [.lit (.bool true)], args := [d1, d2] }
  | _ => none }
def coderBackRow : OpenClaim := { program := "yteeemiacibjaoaa", sum := "f349af96e5347b122b4177f86c3e39f8497679d4c3401a62cb03a01b3fb90357", func := "stillage/stillagelaw23.CoderBack", spec := "coderBack", unfollowed := true, recurses := true, apart := false }
def CoderBackSaid : Prop := coderBackRow.holds Try.pinned (OpenSpec.ofChange coderBackSpec)

/-- ITS FALSE NEIGHBOUR: 'it returns false'. Refute it at one input. -/
def coderBackWrong : ChangeSpec := { name := "coderBack", fn := fun _ => fun
  | [d1, d2] => { results := [.lit (.bool false)], args := [d1, d2] }
  | _ => none }
def CoderBackWrongFalsely : Prop := coderBackRow.holds Try.pinned (OpenSpec.ofChange coderBackWrong)

/-- 'stillagelaw23.CoderNone': WHATEVER THE INPUT: true; the input reads as it did. -/
def coderNoneSpec : ChangeSpec := { name := "coderNone", fn := fun _ => fun
  | [d] => { results := [.lit (.bool true)], args := [d] }
  | _ => none }
def coderNoneRow : OpenClaim := { program := "yteeemiacibjaoaa", sum := "f349af96e5347b122b4177f86c3e39f8497679d4c3401a62cb03a01b3fb90357", func := "stillage/stillagelaw23.CoderNone", spec := "coderNone", unfollowed := true, recurses := true, apart := false }
def CoderNoneSaid : Prop := coderNoneRow.holds Try.pinned (OpenSpec.ofChange coderNoneSpec)

/-- ITS FALSE NEIGHBOUR: 'it returns false'. Refute it at one input. -/
def coderNoneWrong : ChangeSpec := { name := "coderNone", fn := fun _ => fun
  | [d] => { results := [.lit (.bool false)], args := [d] }
  | _ => none }
def CoderNoneWrongFalsely : Prop := coderNoneRow.holds Try.pinned (OpenSpec.ofChange coderNoneWrong)

/- THE SECOND FORM. 'bulk': how many values and letters a reading holds, each counted each time it is reached (what is shared counts as often as it is met; a slice's spare places count too). A statement '..UptoSaid' is the law's where the arguments, and the package variables that the reading takes, are together of bulk at most 1048576: NARROWER than '..Said'. Prove '..Said' where nothing that the law and all that it calls make is longer than what came in: it says more and counts as full. Else prove '..UptoSaid'. A law counts once. -/
mutual
def uptoBulk {H : Type} : DataW H → Nat
  | .lit (.string bytes) => bytes.length + 1
  | .lit _ => 1
  | .nil => 1
  | .ptr d => uptoBulk d + 1
  | .slice elems spare => uptoBulkAll elems + uptoBulkAll spare + 1
  | .agg parts => uptoBulkAll parts + 1
  | .iface _ d => uptoBulk d + 1
  | .map entries => uptoBulkEntries entries + 1
  | .held _ => 1
def uptoBulkAll {H : Type} : List (DataW H) → Nat
  | [] => 0
  | d :: r => uptoBulk d + uptoBulkAll r
def uptoBulkEntries {H : Type} : List (Lit × DataW H) → Nat
  | [] => 0
  | x :: r => uptoBulkEntry x + uptoBulkEntries r
def uptoBulkEntry {H : Type} : Lit × DataW H → Nat
  | (.string bytes, d) => bytes.length + uptoBulk d + 1
  | (_, d) => uptoBulk d + 1
 end
def uptoSmall : (H : Type) → List (DataW H) → Bool := fun _ ds => decide (uptoBulkAll ds ≤ 1048576)
def OpenSpec.upto (s : _root_.Go.ChangeSpec) : _root_.Go.OpenSpec := { _root_.Go.OpenSpec.ofChange s with cond := some uptoSmall }

/-- 'stillagelaw13.FrameParses', WHERE WHAT IT READS IS OF BULK AT MOST 1048576: true; the input reads as it did. -/
def frameParsesUptoRow : OpenClaim := { program := "yteeemiacibjaoaa", sum := "f349af96e5347b122b4177f86c3e39f8497679d4c3401a62cb03a01b3fb90357", func := "stillage/stillagelaw13.FrameParses", spec := "frameParses", apart := false, narrowed := true }
def FrameParsesUptoSaid : Prop := frameParsesUptoRow.holds Try.pinned (OpenSpec.upto frameParsesSpec)

/-- 'stillagelaw13.FrameMakes', WHERE WHAT IT READS IS OF BULK AT MOST 1048576: true; the input reads as it did. -/
def frameMakesUptoRow : OpenClaim := { program := "yteeemiacibjaoaa", sum := "f349af96e5347b122b4177f86c3e39f8497679d4c3401a62cb03a01b3fb90357", func := "stillage/stillagelaw13.FrameMakes", spec := "frameMakes", apart := false, narrowed := true }
def FrameMakesUptoSaid : Prop := frameMakesUptoRow.holds Try.pinned (OpenSpec.upto frameMakesSpec)

/-- 'stillagelaw13.FrameBursts', WHERE WHAT IT READS IS OF BULK AT MOST 1048576: true; the input reads as it did. -/
def frameBurstsUptoRow : OpenClaim := { program := "yteeemiacibjaoaa", sum := "f349af96e5347b122b4177f86c3e39f8497679d4c3401a62cb03a01b3fb90357", func := "stillage/stillagelaw13.FrameBursts", spec := "frameBursts", apart := false, narrowed := true }
def FrameBurstsUptoSaid : Prop := frameBurstsUptoRow.holds Try.pinned (OpenSpec.upto frameBurstsSpec)

/-- 'stillagelaw27.ConfigRight', WHERE WHAT IT READS IS OF BULK AT MOST 1048576: true; the input reads as it did. -/
def configRightUptoRow : OpenClaim := { program := "yteeemiacibjaoaa", sum := "f349af96e5347b122b4177f86c3e39f8497679d4c3401a62cb03a01b3fb90357", func := "stillage/stillagelaw27.ConfigRight", spec := "configRight", apart := false, narrowed := true }
def ConfigRightUptoSaid : Prop := configRightUptoRow.holds Try.pinned (OpenSpec.upto configRightSpec)

/-- 'stillagelaw27.ConfigFits', WHERE WHAT IT READS IS OF BULK AT MOST 1048576: true; the input reads as it did. -/
def configFitsUptoRow : OpenClaim := { program := "yteeemiacibjaoaa", sum := "f349af96e5347b122b4177f86c3e39f8497679d4c3401a62cb03a01b3fb90357", func := "stillage/stillagelaw27.ConfigFits", spec := "configFits", apart := false, narrowed := true }
def ConfigFitsUptoSaid : Prop := configFitsUptoRow.holds Try.pinned (OpenSpec.upto configFitsSpec)

/-- 'stillagelaw23.CoderWrites', WHERE WHAT IT READS IS OF BULK AT MOST 1048576: true; the input reads as it did. -/
def coderWritesUptoRow : OpenClaim := { program := "yteeemiacibjaoaa", sum := "f349af96e5347b122b4177f86c3e39f8497679d4c3401a62cb03a01b3fb90357", func := "stillage/stillagelaw23.CoderWrites", spec := "coderWrites", unfollowed := true, recurses := true, apart := false, narrowed := true }
def CoderWritesUptoSaid : Prop := coderWritesUptoRow.holds Try.pinned (OpenSpec.upto coderWritesSpec)

/-- 'stillagelaw23.CoderBursts', WHERE WHAT IT READS IS OF BULK AT MOST 1048576: true; the input reads as it did. -/
def coderBurstsUptoRow : OpenClaim := { program := "yteeemiacibjaoaa", sum := "f349af96e5347b122b4177f86c3e39f8497679d4c3401a62cb03a01b3fb90357", func := "stillage/stillagelaw23.CoderBursts", spec := "coderBursts", unfollowed := true, recurses := true, apart := false, narrowed := true }
def CoderBurstsUptoSaid : Prop := coderBurstsUptoRow.holds Try.pinned (OpenSpec.upto coderBurstsSpec)

/-- 'stillagelaw23.CoderReads', WHERE WHAT IT READS IS OF BULK AT MOST 1048576: true; the input reads as it did. -/
def coderReadsUptoRow : OpenClaim := { program := "yteeemiacibjaoaa", sum := "f349af96e5347b122b4177f86c3e39f8497679d4c3401a62cb03a01b3fb90357", func := "stillage/stillagelaw23.CoderReads", spec := "coderReads", unfollowed := true, recurses := true, apart := false, narrowed := true }
def CoderReadsUptoSaid : Prop := coderReadsUptoRow.holds Try.pinned (OpenSpec.upto coderReadsSpec)

/-- 'stillagelaw23.CoderBack', WHERE WHAT IT READS IS OF BULK AT MOST 1048576: true; the input reads as it did. -/
def coderBackUptoRow : OpenClaim := { program := "yteeemiacibjaoaa", sum := "f349af96e5347b122b4177f86c3e39f8497679d4c3401a62cb03a01b3fb90357", func := "stillage/stillagelaw23.CoderBack", spec := "coderBack", unfollowed := true, recurses := true, apart := false, narrowed := true }
def CoderBackUptoSaid : Prop := coderBackUptoRow.holds Try.pinned (OpenSpec.upto coderBackSpec)

/-- 'stillagelaw23.CoderNone', WHERE WHAT IT READS IS OF BULK AT MOST 1048576: true; the input reads as it did. -/
def coderNoneUptoRow : OpenClaim := { program := "yteeemiacibjaoaa", sum := "f349af96e5347b122b4177f86c3e39f8497679d4c3401a62cb03a01b3fb90357", func := "stillage/stillagelaw23.CoderNone", spec := "coderNone", unfollowed := true, recurses := true, apart := false, narrowed := true }
def CoderNoneUptoSaid : Prop := coderNoneUptoRow.holds Try.pinned (OpenSpec.upto coderNoneSpec)

end Rows
end Go.Proofs.Yteeemiacibjaoaa
