/-
  No cell of these rows narrows 'for every input' (looked for: loops, veiled, ifaces, maps, wideKeys, modest, calm, conditions, laid).
  DERIVED. THE GIVEN ROWS OF THIS SEAT. 12 by the template 'for every input the law returns true; each argument reads behind the call as it read before'; 0 by the template 'total and deterministic' (their statements: YtcgjngcogdmbaaaTotals.lean).
  GIVEN WITH THE SEED: the statements are not yours to turn. If you find one false, say at which input.
  Laid BY PROGRAM, IN A SANDBOX (cutbox-rows.mjs): the forced cells as the released guide's own fill.sh prints them over the translation 16fb1c89361e5cf0… (all of the seat's roots in one cut). By AI agents, Wed Nov 11 2026. No macro, syntax, notation, axiom, sorry.
-/
import Derived.Test.YtcgjngcogdmbaaaChecked
import GoSem.Claim
import GoSem.ClaimJoined
import GoSem.ClaimMapViews
import Derived.JoinedTies
import Derived.KernelRfl
namespace Go.Proofs.Ytcgjngcogdmbaaa
/- THE CELL 'sum', in the pinned program and in every row, IS THE sha256 OF THE DUMP (.gsa) THAT YtcgjngcogdmbaaaProg.lean LOADS. Nothing in Lean hashes anything: it is a label: what it is worth is what the hold of that sum in a sandbox is worth. -/
noncomputable def Try.pinned : Pinned := { name := "ytcgjngcogdmbaaa", sum := "16fb1c89361e5cf000c2b223865e835f0c32acebf9e0d40c5a39601d093305ca", checked := Try.checked }
namespace Rows
def none {H : Type} : Left H := { results := [], args := [] }

/-- 'stillagelaw07.ScoreShares': WHATEVER THE INPUT: true; the input reads as it did. -/
def scoreSharesSpec : ChangeSpec := { name := "scoreShares", fn := fun _ => fun
  | [d1, d2, d3] => { results := [.lit (.bool true)], args := [d1, d2, d3] }
  | _ => none }
def scoreSharesRow : OpenClaim := { program := "ytcgjngcogdmbaaa", sum := "16fb1c89361e5cf000c2b223865e835f0c32acebf9e0d40c5a39601d093305ca", func := "stillage/stillagelaw07.ScoreShares", spec := "scoreShares", apart := false }
def ScoreSharesSaid : Prop := scoreSharesRow.holds Try.pinned (OpenSpec.ofChange scoreSharesSpec)

/-- ITS FALSE NEIGHBOUR: 'it returns false'. Refute it at one input. -/
def scoreSharesWrong : ChangeSpec := { name := "scoreShares", fn := fun _ => fun
  | [d1, d2, d3] => { results := [.lit (.bool false)], args := [d1, d2, d3] }
  | _ => none }
def ScoreSharesWrongFalsely : Prop := scoreSharesRow.holds Try.pinned (OpenSpec.ofChange scoreSharesWrong)

/-- 'stillagelaw07.ScoreBetween': WHATEVER THE INPUT: true; the input reads as it did. -/
def scoreBetweenSpec : ChangeSpec := { name := "scoreBetween", fn := fun _ => fun
  | [d] => { results := [.lit (.bool true)], args := [d] }
  | _ => none }
def scoreBetweenRow : OpenClaim := { program := "ytcgjngcogdmbaaa", sum := "16fb1c89361e5cf000c2b223865e835f0c32acebf9e0d40c5a39601d093305ca", func := "stillage/stillagelaw07.ScoreBetween", spec := "scoreBetween", apart := false }
def ScoreBetweenSaid : Prop := scoreBetweenRow.holds Try.pinned (OpenSpec.ofChange scoreBetweenSpec)

/-- ITS FALSE NEIGHBOUR: 'it returns false'. Refute it at one input. -/
def scoreBetweenWrong : ChangeSpec := { name := "scoreBetween", fn := fun _ => fun
  | [d] => { results := [.lit (.bool false)], args := [d] }
  | _ => none }
def ScoreBetweenWrongFalsely : Prop := scoreBetweenRow.holds Try.pinned (OpenSpec.ofChange scoreBetweenWrong)

/-- 'stillagelaw07.ScoreOrder': WHATEVER THE INPUT: true; the input reads as it did. -/
def scoreOrderSpec : ChangeSpec := { name := "scoreOrder", fn := fun _ => fun
  | [d1, d2, d3] => { results := [.lit (.bool true)], args := [d1, d2, d3] }
  | _ => none }
def scoreOrderRow : OpenClaim := { program := "ytcgjngcogdmbaaa", sum := "16fb1c89361e5cf000c2b223865e835f0c32acebf9e0d40c5a39601d093305ca", func := "stillage/stillagelaw07.ScoreOrder", spec := "scoreOrder", apart := false }
def ScoreOrderSaid : Prop := scoreOrderRow.holds Try.pinned (OpenSpec.ofChange scoreOrderSpec)

/-- ITS FALSE NEIGHBOUR: 'it returns false'. Refute it at one input. -/
def scoreOrderWrong : ChangeSpec := { name := "scoreOrder", fn := fun _ => fun
  | [d1, d2, d3] => { results := [.lit (.bool false)], args := [d1, d2, d3] }
  | _ => none }
def ScoreOrderWrongFalsely : Prop := scoreOrderRow.holds Try.pinned (OpenSpec.ofChange scoreOrderWrong)

/-- 'stillagelaw05.CrcSums': WHATEVER THE INPUT: true; the input reads as it did. -/
def crcSumsSpec : ChangeSpec := { name := "crcSums", fn := fun _ => fun
  | [d] => { results := [.lit (.bool true)], args := [d] }
  | _ => none }
def crcSumsRow : OpenClaim := { program := "ytcgjngcogdmbaaa", sum := "16fb1c89361e5cf000c2b223865e835f0c32acebf9e0d40c5a39601d093305ca", func := "stillage/stillagelaw05.CrcSums", spec := "crcSums", apart := false }
def CrcSumsSaid : Prop := crcSumsRow.holds Try.pinned (OpenSpec.ofChange crcSumsSpec)

/-- ITS FALSE NEIGHBOUR: 'it returns false'. Refute it at one input. -/
def crcSumsWrong : ChangeSpec := { name := "crcSums", fn := fun _ => fun
  | [d] => { results := [.lit (.bool false)], args := [d] }
  | _ => none }
def CrcSumsWrongFalsely : Prop := crcSumsRow.holds Try.pinned (OpenSpec.ofChange crcSumsWrong)

/-- 'stillagelaw05.CrcMore': WHATEVER THE INPUT: true; the input reads as it did. -/
def crcMoreSpec : ChangeSpec := { name := "crcMore", fn := fun _ => fun
  | [d1, d2] => { results := [.lit (.bool true)], args := [d1, d2] }
  | _ => none }
def crcMoreRow : OpenClaim := { program := "ytcgjngcogdmbaaa", sum := "16fb1c89361e5cf000c2b223865e835f0c32acebf9e0d40c5a39601d093305ca", func := "stillage/stillagelaw05.CrcMore", spec := "crcMore", apart := false }
def CrcMoreSaid : Prop := crcMoreRow.holds Try.pinned (OpenSpec.ofChange crcMoreSpec)

/-- ITS FALSE NEIGHBOUR: 'it returns false'. Refute it at one input. -/
def crcMoreWrong : ChangeSpec := { name := "crcMore", fn := fun _ => fun
  | [d1, d2] => { results := [.lit (.bool false)], args := [d1, d2] }
  | _ => none }
def CrcMoreWrongFalsely : Prop := crcMoreRow.holds Try.pinned (OpenSpec.ofChange crcMoreWrong)

/-- 'stillagelaw05.CrcBursts': WHATEVER THE INPUT: true; the input reads as it did. -/
def crcBurstsSpec : ChangeSpec := { name := "crcBursts", fn := fun _ => fun
  | [d1, d2, d3] => { results := [.lit (.bool true)], args := [d1, d2, d3] }
  | _ => none }
def crcBurstsRow : OpenClaim := { program := "ytcgjngcogdmbaaa", sum := "16fb1c89361e5cf000c2b223865e835f0c32acebf9e0d40c5a39601d093305ca", func := "stillage/stillagelaw05.CrcBursts", spec := "crcBursts", apart := false }
def CrcBurstsSaid : Prop := crcBurstsRow.holds Try.pinned (OpenSpec.ofChange crcBurstsSpec)

/-- ITS FALSE NEIGHBOUR: 'it returns false'. Refute it at one input. -/
def crcBurstsWrong : ChangeSpec := { name := "crcBursts", fn := fun _ => fun
  | [d1, d2, d3] => { results := [.lit (.bool false)], args := [d1, d2, d3] }
  | _ => none }
def CrcBurstsWrongFalsely : Prop := crcBurstsRow.holds Try.pinned (OpenSpec.ofChange crcBurstsWrong)

/-- 'stillagelaw07.ScoreLeast': WHATEVER THE INPUT: true; the input reads as it did. -/
def scoreLeastSpec : ChangeSpec := { name := "scoreLeast", fn := fun _ => fun
  | [d] => { results := [.lit (.bool true)], args := [d] }
  | _ => none }
def scoreLeastRow : OpenClaim := { program := "ytcgjngcogdmbaaa", sum := "16fb1c89361e5cf000c2b223865e835f0c32acebf9e0d40c5a39601d093305ca", func := "stillage/stillagelaw07.ScoreLeast", spec := "scoreLeast", apart := false }
def ScoreLeastSaid : Prop := scoreLeastRow.holds Try.pinned (OpenSpec.ofChange scoreLeastSpec)

/-- ITS FALSE NEIGHBOUR: 'it returns false'. Refute it at one input. -/
def scoreLeastWrong : ChangeSpec := { name := "scoreLeast", fn := fun _ => fun
  | [d] => { results := [.lit (.bool false)], args := [d] }
  | _ => none }
def ScoreLeastWrongFalsely : Prop := scoreLeastRow.holds Try.pinned (OpenSpec.ofChange scoreLeastWrong)

/-- 'stillagelaw01.FixedTakes': WHATEVER THE INPUT: true; the input reads as it did. -/
def fixedTakesSpec : ChangeSpec := { name := "fixedTakes", fn := fun _ => fun
  | [d1, d2, d3] => { results := [.lit (.bool true)], args := [d1, d2, d3] }
  | _ => none }
def fixedTakesRow : OpenClaim := { program := "ytcgjngcogdmbaaa", sum := "16fb1c89361e5cf000c2b223865e835f0c32acebf9e0d40c5a39601d093305ca", func := "stillage/stillagelaw01.FixedTakes", spec := "fixedTakes", apart := false }
def FixedTakesSaid : Prop := fixedTakesRow.holds Try.pinned (OpenSpec.ofChange fixedTakesSpec)

/-- ITS FALSE NEIGHBOUR: 'it returns false'. Refute it at one input. -/
def fixedTakesWrong : ChangeSpec := { name := "fixedTakes", fn := fun _ => fun
  | [d1, d2, d3] => { results := [.lit (.bool false)], args := [d1, d2, d3] }
  | _ => none }
def FixedTakesWrongFalsely : Prop := fixedTakesRow.holds Try.pinned (OpenSpec.ofChange fixedTakesWrong)

/-- 'stillagelaw02.VarintTakes': WHATEVER THE INPUT: true; the input reads as it did. -/
def varintTakesSpec : ChangeSpec := { name := "varintTakes", fn := fun _ => fun
  | [d1, d2] => { results := [.lit (.bool true)], args := [d1, d2] }
  | _ => none }
def varintTakesRow : OpenClaim := { program := "ytcgjngcogdmbaaa", sum := "16fb1c89361e5cf000c2b223865e835f0c32acebf9e0d40c5a39601d093305ca", func := "stillage/stillagelaw02.VarintTakes", spec := "varintTakes", apart := false }
def VarintTakesSaid : Prop := varintTakesRow.holds Try.pinned (OpenSpec.ofChange varintTakesSpec)

/-- ITS FALSE NEIGHBOUR: 'it returns false'. Refute it at one input. -/
def varintTakesWrong : ChangeSpec := { name := "varintTakes", fn := fun _ => fun
  | [d1, d2] => { results := [.lit (.bool false)], args := [d1, d2] }
  | _ => none }
def VarintTakesWrongFalsely : Prop := varintTakesRow.holds Try.pinned (OpenSpec.ofChange varintTakesWrong)

/-- 'stillagelaw02.VarintBack': WHATEVER THE INPUT: true; the input reads as it did. -/
def varintBackSpec : ChangeSpec := { name := "varintBack", fn := fun _ => fun
  | [d1, d2, d3] => { results := [.lit (.bool true)], args := [d1, d2, d3] }
  | _ => none }
def varintBackRow : OpenClaim := { program := "ytcgjngcogdmbaaa", sum := "16fb1c89361e5cf000c2b223865e835f0c32acebf9e0d40c5a39601d093305ca", func := "stillage/stillagelaw02.VarintBack", spec := "varintBack", apart := false }
def VarintBackSaid : Prop := varintBackRow.holds Try.pinned (OpenSpec.ofChange varintBackSpec)

/-- ITS FALSE NEIGHBOUR: 'it returns false'. Refute it at one input. -/
def varintBackWrong : ChangeSpec := { name := "varintBack", fn := fun _ => fun
  | [d1, d2, d3] => { results := [.lit (.bool false)], args := [d1, d2, d3] }
  | _ => none }
def VarintBackWrongFalsely : Prop := varintBackRow.holds Try.pinned (OpenSpec.ofChange varintBackWrong)

/-- 'stillagelaw01.FixedBack': WHATEVER THE INPUT: true; the input reads as it did. -/
def fixedBackSpec : ChangeSpec := { name := "fixedBack", fn := fun _ => fun
  | [d] => { results := [.lit (.bool true)], args := [d] }
  | _ => none }
def fixedBackRow : OpenClaim := { program := "ytcgjngcogdmbaaa", sum := "16fb1c89361e5cf000c2b223865e835f0c32acebf9e0d40c5a39601d093305ca", func := "stillage/stillagelaw01.FixedBack", spec := "fixedBack", apart := false }
def FixedBackSaid : Prop := fixedBackRow.holds Try.pinned (OpenSpec.ofChange fixedBackSpec)

/-- ITS FALSE NEIGHBOUR: 'it returns false'. Refute it at one input. -/
def fixedBackWrong : ChangeSpec := { name := "fixedBack", fn := fun _ => fun
  | [d] => { results := [.lit (.bool false)], args := [d] }
  | _ => none }
def FixedBackWrongFalsely : Prop := fixedBackRow.holds Try.pinned (OpenSpec.ofChange fixedBackWrong)

/-- 'stillagelaw02.VarintPuts': WHATEVER THE INPUT: true; the input reads as it did. -/
def varintPutsSpec : ChangeSpec := { name := "varintPuts", fn := fun _ => fun
  | [d1, d2] => { results := [.lit (.bool true)], args := [d1, d2] }
  | _ => none }
def varintPutsRow : OpenClaim := { program := "ytcgjngcogdmbaaa", sum := "16fb1c89361e5cf000c2b223865e835f0c32acebf9e0d40c5a39601d093305ca", func := "stillage/stillagelaw02.VarintPuts", spec := "varintPuts", apart := false }
def VarintPutsSaid : Prop := varintPutsRow.holds Try.pinned (OpenSpec.ofChange varintPutsSpec)

/-- ITS FALSE NEIGHBOUR: 'it returns false'. Refute it at one input. -/
def varintPutsWrong : ChangeSpec := { name := "varintPuts", fn := fun _ => fun
  | [d1, d2] => { results := [.lit (.bool false)], args := [d1, d2] }
  | _ => none }
def VarintPutsWrongFalsely : Prop := varintPutsRow.holds Try.pinned (OpenSpec.ofChange varintPutsWrong)

/- THE SECOND FORM. 'bulk': how many values and letters a reading holds, each counted each time it is reached (what is shared counts as often as it is met; a slice's spare places count too). A statement '..UptoSaid' is the law's where the arguments, and the package variables that the reading takes, are together of bulk at most 1048576: NARROWER than '..Said'. Prove '..Said' where nothing that the law and all that it calls make is longer than what came in: it says more and counts as full. Else prove '..UptoSaid'. A law counts once. -/
mutual
def uptoBulk {H : Type} : DataW H → Nat
  | .lit (.string bytes) => bytes.length + 1
  | .lit _ => 1
  | .nil => 1
  | .ptr d => uptoBulk d + 1
  | .slice elems spare => uptoBulkAll elems + uptoBulkAll spare + 1
  | .agg parts => uptoBulkAll parts + 1
  | .iface _ d => uptoBulk d + 1
  | .map entries => uptoBulkEntries entries + 1
  | .held _ => 1
def uptoBulkAll {H : Type} : List (DataW H) → Nat
  | [] => 0
  | d :: r => uptoBulk d + uptoBulkAll r
def uptoBulkEntries {H : Type} : List (Lit × DataW H) → Nat
  | [] => 0
  | x :: r => uptoBulkEntry x + uptoBulkEntries r
def uptoBulkEntry {H : Type} : Lit × DataW H → Nat
  | (.string bytes, d) => bytes.length + uptoBulk d + 1
  | (_, d) => uptoBulk d + 1
 end
def uptoSmall : (H : Type) → List (DataW H) → Bool := fun _ ds => decide (uptoBulkAll ds ≤ 1048576)
def OpenSpec.upto (s : _root_.Go.ChangeSpec) : _root_.Go.OpenSpec := { _root_.Go.OpenSpec.ofChange s with cond := some uptoSmall }

/-- 'stillagelaw07.ScoreShares', WHERE WHAT IT READS IS OF BULK AT MOST 1048576: true; the input reads as it did. -/
def scoreSharesUptoRow : OpenClaim := { program := "ytcgjngcogdmbaaa", sum := "16fb1c89361e5cf000c2b223865e835f0c32acebf9e0d40c5a39601d093305ca", func := "stillage/stillagelaw07.ScoreShares", spec := "scoreShares", apart := false, narrowed := true }
def ScoreSharesUptoSaid : Prop := scoreSharesUptoRow.holds Try.pinned (OpenSpec.upto scoreSharesSpec)

/-- 'stillagelaw07.ScoreBetween', WHERE WHAT IT READS IS OF BULK AT MOST 1048576: true; the input reads as it did. -/
def scoreBetweenUptoRow : OpenClaim := { program := "ytcgjngcogdmbaaa", sum := "16fb1c89361e5cf000c2b223865e835f0c32acebf9e0d40c5a39601d093305ca", func := "stillage/stillagelaw07.ScoreBetween", spec := "scoreBetween", apart := false, narrowed := true }
def ScoreBetweenUptoSaid : Prop := scoreBetweenUptoRow.holds Try.pinned (OpenSpec.upto scoreBetweenSpec)

/-- 'stillagelaw07.ScoreOrder', WHERE WHAT IT READS IS OF BULK AT MOST 1048576: true; the input reads as it did. -/
def scoreOrderUptoRow : OpenClaim := { program := "ytcgjngcogdmbaaa", sum := "16fb1c89361e5cf000c2b223865e835f0c32acebf9e0d40c5a39601d093305ca", func := "stillage/stillagelaw07.ScoreOrder", spec := "scoreOrder", apart := false, narrowed := true }
def ScoreOrderUptoSaid : Prop := scoreOrderUptoRow.holds Try.pinned (OpenSpec.upto scoreOrderSpec)

/-- 'stillagelaw05.CrcSums', WHERE WHAT IT READS IS OF BULK AT MOST 1048576: true; the input reads as it did. -/
def crcSumsUptoRow : OpenClaim := { program := "ytcgjngcogdmbaaa", sum := "16fb1c89361e5cf000c2b223865e835f0c32acebf9e0d40c5a39601d093305ca", func := "stillage/stillagelaw05.CrcSums", spec := "crcSums", apart := false, narrowed := true }
def CrcSumsUptoSaid : Prop := crcSumsUptoRow.holds Try.pinned (OpenSpec.upto crcSumsSpec)

/-- 'stillagelaw05.CrcMore', WHERE WHAT IT READS IS OF BULK AT MOST 1048576: true; the input reads as it did. -/
def crcMoreUptoRow : OpenClaim := { program := "ytcgjngcogdmbaaa", sum := "16fb1c89361e5cf000c2b223865e835f0c32acebf9e0d40c5a39601d093305ca", func := "stillage/stillagelaw05.CrcMore", spec := "crcMore", apart := false, narrowed := true }
def CrcMoreUptoSaid : Prop := crcMoreUptoRow.holds Try.pinned (OpenSpec.upto crcMoreSpec)

/-- 'stillagelaw05.CrcBursts', WHERE WHAT IT READS IS OF BULK AT MOST 1048576: true; the input reads as it did. -/
def crcBurstsUptoRow : OpenClaim := { program := "ytcgjngcogdmbaaa", sum := "16fb1c89361e5cf000c2b223865e835f0c32acebf9e0d40c5a39601d093305ca", func := "stillage/stillagelaw05.CrcBursts", spec := "crcBursts", apart := false, narrowed := true }
def CrcBurstsUptoSaid : Prop := crcBurstsUptoRow.holds Try.pinned (OpenSpec.upto crcBurstsSpec)

/-- 'stillagelaw07.ScoreLeast', WHERE WHAT IT READS IS OF BULK AT MOST 1048576: true; the input reads as it did. -/
def scoreLeastUptoRow : OpenClaim := { program := "ytcgjngcogdmbaaa", sum := "16fb1c89361e5cf000c2b223865e835f0c32acebf9e0d40c5a39601d093305ca", func := "stillage/stillagelaw07.ScoreLeast", spec := "scoreLeast", apart := false, narrowed := true }
def ScoreLeastUptoSaid : Prop := scoreLeastUptoRow.holds Try.pinned (OpenSpec.upto scoreLeastSpec)

/-- 'stillagelaw01.FixedTakes', WHERE WHAT IT READS IS OF BULK AT MOST 1048576: true; the input reads as it did. -/
def fixedTakesUptoRow : OpenClaim := { program := "ytcgjngcogdmbaaa", sum := "16fb1c89361e5cf000c2b223865e835f0c32acebf9e0d40c5a39601d093305ca", func := "stillage/stillagelaw01.FixedTakes", spec := "fixedTakes", apart := false, narrowed := true }
def FixedTakesUptoSaid : Prop := fixedTakesUptoRow.holds Try.pinned (OpenSpec.upto fixedTakesSpec)

/-- 'stillagelaw02.VarintTakes', WHERE WHAT IT READS IS OF BULK AT MOST 1048576: true; the input reads as it did. -/
def varintTakesUptoRow : OpenClaim := { program := "ytcgjngcogdmbaaa", sum := "16fb1c89361e5cf000c2b223865e835f0c32acebf9e0d40c5a39601d093305ca", func := "stillage/stillagelaw02.VarintTakes", spec := "varintTakes", apart := false, narrowed := true }
def VarintTakesUptoSaid : Prop := varintTakesUptoRow.holds Try.pinned (OpenSpec.upto varintTakesSpec)

/-- 'stillagelaw02.VarintBack', WHERE WHAT IT READS IS OF BULK AT MOST 1048576: true; the input reads as it did. -/
def varintBackUptoRow : OpenClaim := { program := "ytcgjngcogdmbaaa", sum := "16fb1c89361e5cf000c2b223865e835f0c32acebf9e0d40c5a39601d093305ca", func := "stillage/stillagelaw02.VarintBack", spec := "varintBack", apart := false, narrowed := true }
def VarintBackUptoSaid : Prop := varintBackUptoRow.holds Try.pinned (OpenSpec.upto varintBackSpec)

/-- 'stillagelaw01.FixedBack', WHERE WHAT IT READS IS OF BULK AT MOST 1048576: true; the input reads as it did. -/
def fixedBackUptoRow : OpenClaim := { program := "ytcgjngcogdmbaaa", sum := "16fb1c89361e5cf000c2b223865e835f0c32acebf9e0d40c5a39601d093305ca", func := "stillage/stillagelaw01.FixedBack", spec := "fixedBack", apart := false, narrowed := true }
def FixedBackUptoSaid : Prop := fixedBackUptoRow.holds Try.pinned (OpenSpec.upto fixedBackSpec)

/-- 'stillagelaw02.VarintPuts', WHERE WHAT IT READS IS OF BULK AT MOST 1048576: true; the input reads as it did. -/
def varintPutsUptoRow : OpenClaim := { program := "ytcgjngcogdmbaaa", sum := "16fb1c89361e5cf000c2b223865e835f0c32acebf9e0d40c5a39601d093305ca", func := "stillage/stillagelaw02.VarintPuts", spec := "varintPuts", apart := false, narrowed := true }
def VarintPutsUptoSaid : Prop := varintPutsUptoRow.holds Try.pinned (OpenSpec.upto varintPutsSpec)

end Rows
end Go.Proofs.Ytcgjngcogdmbaaa
