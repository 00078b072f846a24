/-
  No cell of these rows narrows 'for every input' (looked for: loops, veiled, ifaces, maps, wideKeys, modest, calm, conditions, laid).
  DERIVED. THE GIVEN ROWS OF THIS SEAT. 9 by the template 'for every input the law returns true; each argument reads behind the call as it read before'; 0 by the template 'total and deterministic' (their statements: YtdkadeihhgjiaaaTotals.lean).
  GIVEN WITH THE SEED: the statements are not yours to turn. If you find one false, say at which input.
  Laid BY PROGRAM, IN A SANDBOX (cutbox-rows.mjs): the forced cells as the released guide's own fill.sh prints them over the translation b369aced7e40a3fe… (all of the seat's roots in one cut). By AI agents, Wed Nov 11 2026. No macro, syntax, notation, axiom, sorry.
-/
import Derived.Test.YtdkadeihhgjiaaaChecked
import GoSem.Claim
import GoSem.ClaimJoined
import GoSem.ClaimMapViews
import Derived.JoinedTies
import Derived.KernelRfl
namespace Go.Proofs.Ytdkadeihhgjiaaa
/- THE CELL 'sum', in the pinned program and in every row, IS THE sha256 OF THE DUMP (.gsa) THAT YtdkadeihhgjiaaaProg.lean LOADS. Nothing in Lean hashes anything: it is a label: what it is worth is what the hold of that sum in a sandbox is worth. -/
noncomputable def Try.pinned : Pinned := { name := "ytdkadeihhgjiaaa", sum := "b369aced7e40a3febfc95d7250a6c36104e6e24f68fd4562c12f42fd5f20e7ee", checked := Try.checked }
namespace Rows
def none {H : Type} : Left H := { results := [], args := [] }

/-- 'stillagelaw27.ConfigRight': WHATEVER THE INPUT: true; the input reads as it did. -/
def configRightSpec : ChangeSpec := { name := "configRight", fn := fun _ => fun
  | [d] => { results := [.lit (.bool true)], args := [d] }
  | _ => none }
def configRightRow : OpenClaim := { program := "ytdkadeihhgjiaaa", sum := "b369aced7e40a3febfc95d7250a6c36104e6e24f68fd4562c12f42fd5f20e7ee", func := "stillage/stillagelaw27.ConfigRight", spec := "configRight", apart := false }
def ConfigRightSaid : Prop := configRightRow.holds Try.pinned (OpenSpec.ofChange configRightSpec)

/-- ITS FALSE NEIGHBOUR: 'it returns false'. Refute it at one input. -/
def configRightWrong : ChangeSpec := { name := "configRight", fn := fun _ => fun
  | [d] => { results := [.lit (.bool false)], args := [d] }
  | _ => none }
def ConfigRightWrongFalsely : Prop := configRightRow.holds Try.pinned (OpenSpec.ofChange configRightWrong)

/-- 'stillagelaw27.ConfigFits': WHATEVER THE INPUT: true; the input reads as it did. -/
def configFitsSpec : ChangeSpec := { name := "configFits", fn := fun _ => fun
  | [d] => { results := [.lit (.bool true)], args := [d] }
  | _ => none }
def configFitsRow : OpenClaim := { program := "ytdkadeihhgjiaaa", sum := "b369aced7e40a3febfc95d7250a6c36104e6e24f68fd4562c12f42fd5f20e7ee", func := "stillage/stillagelaw27.ConfigFits", spec := "configFits", apart := false }
def ConfigFitsSaid : Prop := configFitsRow.holds Try.pinned (OpenSpec.ofChange configFitsSpec)

/-- ITS FALSE NEIGHBOUR: 'it returns false'. Refute it at one input. -/
def configFitsWrong : ChangeSpec := { name := "configFits", fn := fun _ => fun
  | [d] => { results := [.lit (.bool false)], args := [d] }
  | _ => none }
def ConfigFitsWrongFalsely : Prop := configFitsRow.holds Try.pinned (OpenSpec.ofChange configFitsWrong)

/-- 'stillagelaw15.BatchMakes': WHATEVER THE INPUT: true; the input reads as it did. -/
def batchMakesSpec : ChangeSpec := { name := "batchMakes", fn := fun _ => fun
  | [d1, d2] => { results := [.lit (.bool true)], args := [d1, d2] }
  | _ => none }
def batchMakesRow : OpenClaim := { program := "ytdkadeihhgjiaaa", sum := "b369aced7e40a3febfc95d7250a6c36104e6e24f68fd4562c12f42fd5f20e7ee", func := "stillage/stillagelaw15.BatchMakes", spec := "batchMakes", apart := false }
def BatchMakesSaid : Prop := batchMakesRow.holds Try.pinned (OpenSpec.ofChange batchMakesSpec)

/-- ITS FALSE NEIGHBOUR: 'it returns false'. Refute it at one input. -/
def batchMakesWrong : ChangeSpec := { name := "batchMakes", fn := fun _ => fun
  | [d1, d2] => { results := [.lit (.bool false)], args := [d1, d2] }
  | _ => none }
def BatchMakesWrongFalsely : Prop := batchMakesRow.holds Try.pinned (OpenSpec.ofChange batchMakesWrong)

/-- 'stillagelaw15.BatchBack': WHATEVER THE INPUT: true; the input reads as it did. -/
def batchBackSpec : ChangeSpec := { name := "batchBack", fn := fun _ => fun
  | [d1, d2] => { results := [.lit (.bool true)], args := [d1, d2] }
  | _ => none }
def batchBackRow : OpenClaim := { program := "ytdkadeihhgjiaaa", sum := "b369aced7e40a3febfc95d7250a6c36104e6e24f68fd4562c12f42fd5f20e7ee", func := "stillage/stillagelaw15.BatchBack", spec := "batchBack", apart := false }
def BatchBackSaid : Prop := batchBackRow.holds Try.pinned (OpenSpec.ofChange batchBackSpec)

/-- ITS FALSE NEIGHBOUR: 'it returns false'. Refute it at one input. -/
def batchBackWrong : ChangeSpec := { name := "batchBack", fn := fun _ => fun
  | [d1, d2] => { results := [.lit (.bool false)], args := [d1, d2] }
  | _ => none }
def BatchBackWrongFalsely : Prop := batchBackRow.holds Try.pinned (OpenSpec.ofChange batchBackWrong)

/-- 'stillagelaw15.BatchTorn': WHATEVER THE INPUT: true; the input reads as it did. -/
def batchTornSpec : ChangeSpec := { name := "batchTorn", fn := fun _ => fun
  | [d1, d2, d3] => { results := [.lit (.bool true)], args := [d1, d2, d3] }
  | _ => none }
def batchTornRow : OpenClaim := { program := "ytdkadeihhgjiaaa", sum := "b369aced7e40a3febfc95d7250a6c36104e6e24f68fd4562c12f42fd5f20e7ee", func := "stillage/stillagelaw15.BatchTorn", spec := "batchTorn", apart := false }
def BatchTornSaid : Prop := batchTornRow.holds Try.pinned (OpenSpec.ofChange batchTornSpec)

/-- ITS FALSE NEIGHBOUR: 'it returns false'. Refute it at one input. -/
def batchTornWrong : ChangeSpec := { name := "batchTorn", fn := fun _ => fun
  | [d1, d2, d3] => { results := [.lit (.bool false)], args := [d1, d2, d3] }
  | _ => none }
def BatchTornWrongFalsely : Prop := batchTornRow.holds Try.pinned (OpenSpec.ofChange batchTornWrong)

/-- 'stillagelaw14.RecordParses': WHATEVER THE INPUT: true; the input reads as it did. -/
def recordParsesSpec : ChangeSpec := { name := "recordParses", fn := fun _ => fun
  | [d1, d2] => { results := [.lit (.bool true)], args := [d1, d2] }
  | _ => none }
def recordParsesRow : OpenClaim := { program := "ytdkadeihhgjiaaa", sum := "b369aced7e40a3febfc95d7250a6c36104e6e24f68fd4562c12f42fd5f20e7ee", func := "stillage/stillagelaw14.RecordParses", spec := "recordParses", apart := false }
def RecordParsesSaid : Prop := recordParsesRow.holds Try.pinned (OpenSpec.ofChange recordParsesSpec)

/-- ITS FALSE NEIGHBOUR: 'it returns false'. Refute it at one input. -/
def recordParsesWrong : ChangeSpec := { name := "recordParses", fn := fun _ => fun
  | [d1, d2] => { results := [.lit (.bool false)], args := [d1, d2] }
  | _ => none }
def RecordParsesWrongFalsely : Prop := recordParsesRow.holds Try.pinned (OpenSpec.ofChange recordParsesWrong)

/-- 'stillagelaw14.RecordForms': WHATEVER THE INPUT: true; the input reads as it did. -/
def recordFormsSpec : ChangeSpec := { name := "recordForms", fn := fun _ => fun
  | [d1, d2, d3] => { results := [.lit (.bool true)], args := [d1, d2, d3] }
  | _ => none }
def recordFormsRow : OpenClaim := { program := "ytdkadeihhgjiaaa", sum := "b369aced7e40a3febfc95d7250a6c36104e6e24f68fd4562c12f42fd5f20e7ee", func := "stillage/stillagelaw14.RecordForms", spec := "recordForms", apart := false }
def RecordFormsSaid : Prop := recordFormsRow.holds Try.pinned (OpenSpec.ofChange recordFormsSpec)

/-- ITS FALSE NEIGHBOUR: 'it returns false'. Refute it at one input. -/
def recordFormsWrong : ChangeSpec := { name := "recordForms", fn := fun _ => fun
  | [d1, d2, d3] => { results := [.lit (.bool false)], args := [d1, d2, d3] }
  | _ => none }
def RecordFormsWrongFalsely : Prop := recordFormsRow.holds Try.pinned (OpenSpec.ofChange recordFormsWrong)

/-- 'stillagelaw14.RecordMakes': WHATEVER THE INPUT: true; the input reads as it did. -/
def recordMakesSpec : ChangeSpec := { name := "recordMakes", fn := fun _ => fun
  | [d1, d2] => { results := [.lit (.bool true)], args := [d1, d2] }
  | _ => none }
def recordMakesRow : OpenClaim := { program := "ytdkadeihhgjiaaa", sum := "b369aced7e40a3febfc95d7250a6c36104e6e24f68fd4562c12f42fd5f20e7ee", func := "stillage/stillagelaw14.RecordMakes", spec := "recordMakes", apart := false }
def RecordMakesSaid : Prop := recordMakesRow.holds Try.pinned (OpenSpec.ofChange recordMakesSpec)

/-- ITS FALSE NEIGHBOUR: 'it returns false'. Refute it at one input. -/
def recordMakesWrong : ChangeSpec := { name := "recordMakes", fn := fun _ => fun
  | [d1, d2] => { results := [.lit (.bool false)], args := [d1, d2] }
  | _ => none }
def RecordMakesWrongFalsely : Prop := recordMakesRow.holds Try.pinned (OpenSpec.ofChange recordMakesWrong)

/-- 'stillagelaw14.RecordBack': WHATEVER THE INPUT: true; the input reads as it did. -/
def recordBackSpec : ChangeSpec := { name := "recordBack", fn := fun _ => fun
  | [d1, d2, d3] => { results := [.lit (.bool true)], args := [d1, d2, d3] }
  | _ => none }
def recordBackRow : OpenClaim := { program := "ytdkadeihhgjiaaa", sum := "b369aced7e40a3febfc95d7250a6c36104e6e24f68fd4562c12f42fd5f20e7ee", func := "stillage/stillagelaw14.RecordBack", spec := "recordBack", apart := false }
def RecordBackSaid : Prop := recordBackRow.holds Try.pinned (OpenSpec.ofChange recordBackSpec)

/-- ITS FALSE NEIGHBOUR: 'it returns false'. Refute it at one input. -/
def recordBackWrong : ChangeSpec := { name := "recordBack", fn := fun _ => fun
  | [d1, d2, d3] => { results := [.lit (.bool false)], args := [d1, d2, d3] }
  | _ => none }
def RecordBackWrongFalsely : Prop := recordBackRow.holds Try.pinned (OpenSpec.ofChange recordBackWrong)

/- THE SECOND FORM. 'bulk': how many values and letters a reading holds, each counted each time it is reached (what is shared counts as often as it is met; a slice's spare places count too). A statement '..UptoSaid' is the law's where the arguments, and the package variables that the reading takes, are together of bulk at most 1048576: NARROWER than '..Said'. Prove '..Said' where nothing that the law and all that it calls make is longer than what came in: it says more and counts as full. Else prove '..UptoSaid'. A law counts once. -/
mutual
def uptoBulk {H : Type} : DataW H → Nat
  | .lit (.string bytes) => bytes.length + 1
  | .lit _ => 1
  | .nil => 1
  | .ptr d => uptoBulk d + 1
  | .slice elems spare => uptoBulkAll elems + uptoBulkAll spare + 1
  | .agg parts => uptoBulkAll parts + 1
  | .iface _ d => uptoBulk d + 1
  | .map entries => uptoBulkEntries entries + 1
  | .held _ => 1
def uptoBulkAll {H : Type} : List (DataW H) → Nat
  | [] => 0
  | d :: r => uptoBulk d + uptoBulkAll r
def uptoBulkEntries {H : Type} : List (Lit × DataW H) → Nat
  | [] => 0
  | x :: r => uptoBulkEntry x + uptoBulkEntries r
def uptoBulkEntry {H : Type} : Lit × DataW H → Nat
  | (.string bytes, d) => bytes.length + uptoBulk d + 1
  | (_, d) => uptoBulk d + 1
 end
def uptoSmall : (H : Type) → List (DataW H) → Bool := fun _ ds => decide (uptoBulkAll ds ≤ 1048576)
def OpenSpec.upto (s : _root_.Go.ChangeSpec) : _root_.Go.OpenSpec := { _root_.Go.OpenSpec.ofChange s with cond := some uptoSmall }

/-- 'stillagelaw27.ConfigRight', WHERE WHAT IT READS IS OF BULK AT MOST 1048576: true; the input reads as it did. -/
def configRightUptoRow : OpenClaim := { program := "ytdkadeihhgjiaaa", sum := "b369aced7e40a3febfc95d7250a6c36104e6e24f68fd4562c12f42fd5f20e7ee", func := "stillage/stillagelaw27.ConfigRight", spec := "configRight", apart := false, narrowed := true }
def ConfigRightUptoSaid : Prop := configRightUptoRow.holds Try.pinned (OpenSpec.upto configRightSpec)

/-- 'stillagelaw27.ConfigFits', WHERE WHAT IT READS IS OF BULK AT MOST 1048576: true; the input reads as it did. -/
def configFitsUptoRow : OpenClaim := { program := "ytdkadeihhgjiaaa", sum := "b369aced7e40a3febfc95d7250a6c36104e6e24f68fd4562c12f42fd5f20e7ee", func := "stillage/stillagelaw27.ConfigFits", spec := "configFits", apart := false, narrowed := true }
def ConfigFitsUptoSaid : Prop := configFitsUptoRow.holds Try.pinned (OpenSpec.upto configFitsSpec)

/-- 'stillagelaw15.BatchMakes', WHERE WHAT IT READS IS OF BULK AT MOST 1048576: true; the input reads as it did. -/
def batchMakesUptoRow : OpenClaim := { program := "ytdkadeihhgjiaaa", sum := "b369aced7e40a3febfc95d7250a6c36104e6e24f68fd4562c12f42fd5f20e7ee", func := "stillage/stillagelaw15.BatchMakes", spec := "batchMakes", apart := false, narrowed := true }
def BatchMakesUptoSaid : Prop := batchMakesUptoRow.holds Try.pinned (OpenSpec.upto batchMakesSpec)

/-- 'stillagelaw15.BatchBack', WHERE WHAT IT READS IS OF BULK AT MOST 1048576: true; the input reads as it did. -/
def batchBackUptoRow : OpenClaim := { program := "ytdkadeihhgjiaaa", sum := "b369aced7e40a3febfc95d7250a6c36104e6e24f68fd4562c12f42fd5f20e7ee", func := "stillage/stillagelaw15.BatchBack", spec := "batchBack", apart := false, narrowed := true }
def BatchBackUptoSaid : Prop := batchBackUptoRow.holds Try.pinned (OpenSpec.upto batchBackSpec)

/-- 'stillagelaw15.BatchTorn', WHERE WHAT IT READS IS OF BULK AT MOST 1048576: true; the input reads as it did. -/
def batchTornUptoRow : OpenClaim := { program := "ytdkadeihhgjiaaa", sum := "b369aced7e40a3febfc95d7250a6c36104e6e24f68fd4562c12f42fd5f20e7ee", func := "stillage/stillagelaw15.BatchTorn", spec := "batchTorn", apart := false, narrowed := true }
def BatchTornUptoSaid : Prop := batchTornUptoRow.holds Try.pinned (OpenSpec.upto batchTornSpec)

/-- 'stillagelaw14.RecordParses', WHERE WHAT IT READS IS OF BULK AT MOST 1048576: true; the input reads as it did. -/
def recordParsesUptoRow : OpenClaim := { program := "ytdkadeihhgjiaaa", sum := "b369aced7e40a3febfc95d7250a6c36104e6e24f68fd4562c12f42fd5f20e7ee", func := "stillage/stillagelaw14.RecordParses", spec := "recordParses", apart := false, narrowed := true }
def RecordParsesUptoSaid : Prop := recordParsesUptoRow.holds Try.pinned (OpenSpec.upto recordParsesSpec)

/-- 'stillagelaw14.RecordForms', WHERE WHAT IT READS IS OF BULK AT MOST 1048576: true; the input reads as it did. -/
def recordFormsUptoRow : OpenClaim := { program := "ytdkadeihhgjiaaa", sum := "b369aced7e40a3febfc95d7250a6c36104e6e24f68fd4562c12f42fd5f20e7ee", func := "stillage/stillagelaw14.RecordForms", spec := "recordForms", apart := false, narrowed := true }
def RecordFormsUptoSaid : Prop := recordFormsUptoRow.holds Try.pinned (OpenSpec.upto recordFormsSpec)

/-- 'stillagelaw14.RecordMakes', WHERE WHAT IT READS IS OF BULK AT MOST 1048576: true; the input reads as it did. -/
def recordMakesUptoRow : OpenClaim := { program := "ytdkadeihhgjiaaa", sum := "b369aced7e40a3febfc95d7250a6c36104e6e24f68fd4562c12f42fd5f20e7ee", func := "stillage/stillagelaw14.RecordMakes", spec := "recordMakes", apart := false, narrowed := true }
def RecordMakesUptoSaid : Prop := recordMakesUptoRow.holds Try.pinned (OpenSpec.upto recordMakesSpec)

/-- 'stillagelaw14.RecordBack', WHERE WHAT IT READS IS OF BULK AT MOST 1048576: true; the input reads as it did. -/
def recordBackUptoRow : OpenClaim := { program := "ytdkadeihhgjiaaa", sum := "b369aced7e40a3febfc95d7250a6c36104e6e24f68fd4562c12f42fd5f20e7ee", func := "stillage/stillagelaw14.RecordBack", spec := "recordBack", apart := false, narrowed := true }
def RecordBackUptoSaid : Prop := recordBackUptoRow.holds Try.pinned (OpenSpec.upto recordBackSpec)

end Rows
end Go.Proofs.Ytdkadeihhgjiaaa
