/-
  No cell of these rows narrows 'for every input' (looked for: loops, veiled, ifaces, maps, wideKeys, modest, calm, conditions, laid).
  DERIVED. THE GIVEN ROWS OF THIS SEAT. 11 by the template 'for every input the law returns true; each argument reads behind the call as it read before'; 0 by the template 'total and deterministic' (their statements: YtfemkbockhpmcaaTotals.lean).
  GIVEN WITH THE SEED: the statements are not yours to turn. If you find one false, say at which input.
  Laid BY PROGRAM, IN A SANDBOX (cutbox-rows.mjs): the forced cells as the released guide's own fill.sh prints them over the translation a0feea937045190b… (all of the seat's roots in one cut). By AI agents, Wed Nov 11 2026. No macro, syntax, notation, axiom, sorry.
-/
import Derived.Test.YtfemkbockhpmcaaChecked
import GoSem.Claim
import GoSem.ClaimJoined
import GoSem.ClaimMapViews
import Derived.JoinedTies
import Derived.KernelRfl
namespace Go.Proofs.Ytfemkbockhpmcaa
/- THE CELL 'sum', in the pinned program and in every row, IS THE sha256 OF THE DUMP (.gsa) THAT YtfemkbockhpmcaaProg.lean LOADS. Nothing in Lean hashes anything: it is a label: what it is worth is what the hold of that sum in a sandbox is worth. -/
noncomputable def Try.pinned : Pinned := { name := "ytfemkbockhpmcaa", sum := "a0feea937045190b50a391ff627e17e47dbaaacd09da4d9f3171d06f3c6c5bf3", checked := Try.checked }
namespace Rows
def none {H : Type} : Left H := { results := [], args := [] }

/-- 'quincunxlaw08.CheckMore': WHATEVER THE INPUT: true; the input reads as it did. -/
def checkMoreSpec : ChangeSpec := { name := "checkMore", fn := fun _ => fun
  | [d1, d2, d3] => { results := [.lit (.bool true)], args := [d1, d2, d3] }
  | _ => none }
def checkMoreRow : OpenClaim := { program := "ytfemkbockhpmcaa", sum := "a0feea937045190b50a391ff627e17e47dbaaacd09da4d9f3171d06f3c6c5bf3", func := "quincunx/quincunxlaw08.CheckMore", spec := "checkMore", unfollowed := true, recurses := true, plainKeys := false, apart := false }
def CheckMoreSaid : Prop := checkMoreRow.holds Try.pinned (OpenSpec.ofChange checkMoreSpec)

/-- ITS FALSE NEIGHBOUR: 'it returns false'. Refute it at one input. -/
def checkMoreWrong : ChangeSpec := { name := "checkMore", fn := fun _ => fun
  | [d1, d2, d3] => { results := [.lit (.bool false)], args := [d1, d2, d3] }
  | _ => none }
def CheckMoreWrongFalsely : Prop := checkMoreRow.holds Try.pinned (OpenSpec.ofChange checkMoreWrong)

/-- 'quincunxlaw08.CheckShapes': WHATEVER THE INPUT: true; the input reads as it did. -/
def checkShapesSpec : ChangeSpec := { name := "checkShapes", fn := fun _ => fun
  | [d1, d2] => { results := [.lit (.bool true)], args := [d1, d2] }
  | _ => none }
def checkShapesRow : OpenClaim := { program := "ytfemkbockhpmcaa", sum := "a0feea937045190b50a391ff627e17e47dbaaacd09da4d9f3171d06f3c6c5bf3", func := "quincunx/quincunxlaw08.CheckShapes", spec := "checkShapes", unfollowed := true, recurses := true, plainKeys := false, apart := false }
def CheckShapesSaid : Prop := checkShapesRow.holds Try.pinned (OpenSpec.ofChange checkShapesSpec)

/-- ITS FALSE NEIGHBOUR: 'it returns false'. Refute it at one input. -/
def checkShapesWrong : ChangeSpec := { name := "checkShapes", fn := fun _ => fun
  | [d1, d2] => { results := [.lit (.bool false)], args := [d1, d2] }
  | _ => none }
def CheckShapesWrongFalsely : Prop := checkShapesRow.holds Try.pinned (OpenSpec.ofChange checkShapesWrong)

/-- 'quincunxlaw07.GrammarChecks': WHATEVER THE INPUT: true; the input reads as it did. -/
def grammarChecksSpec : ChangeSpec := { name := "grammarChecks", fn := fun _ => fun
  | [d1, d2] => { results := [.lit (.bool true)], args := [d1, d2] }
  | _ => none }
def grammarChecksRow : OpenClaim := { program := "ytfemkbockhpmcaa", sum := "a0feea937045190b50a391ff627e17e47dbaaacd09da4d9f3171d06f3c6c5bf3", func := "quincunx/quincunxlaw07.GrammarChecks", spec := "grammarChecks", inPlace := ["internal/bytealg.IndexByteString", "internal/abi.NoEscape"], unfollowed := true, recurses := true, plainKeys := false, apart := false }
def GrammarChecksSaid : Prop := grammarChecksRow.holds Try.pinned (OpenSpec.ofChange grammarChecksSpec)

/-- ITS FALSE NEIGHBOUR: 'it returns false'. Refute it at one input. -/
def grammarChecksWrong : ChangeSpec := { name := "grammarChecks", fn := fun _ => fun
  | [d1, d2] => { results := [.lit (.bool false)], args := [d1, d2] }
  | _ => none }
def GrammarChecksWrongFalsely : Prop := grammarChecksRow.holds Try.pinned (OpenSpec.ofChange grammarChecksWrong)

/-- 'quincunxlaw07.GrammarParses': WHATEVER THE INPUT: true; the input reads as it did. -/
def grammarParsesSpec : ChangeSpec := { name := "grammarParses", fn := fun _ => fun
  | [d] => { results := [.lit (.bool true)], args := [d] }
  | _ => none }
def grammarParsesRow : OpenClaim := { program := "ytfemkbockhpmcaa", sum := "a0feea937045190b50a391ff627e17e47dbaaacd09da4d9f3171d06f3c6c5bf3", func := "quincunx/quincunxlaw07.GrammarParses", spec := "grammarParses", inPlace := ["internal/bytealg.IndexByteString", "internal/abi.NoEscape"], unfollowed := true, recurses := true, plainKeys := false, apart := false }
def GrammarParsesSaid : Prop := grammarParsesRow.holds Try.pinned (OpenSpec.ofChange grammarParsesSpec)

/-- ITS FALSE NEIGHBOUR: 'it returns false'. Refute it at one input. -/
def grammarParsesWrong : ChangeSpec := { name := "grammarParses", fn := fun _ => fun
  | [d] => { results := [.lit (.bool false)], args := [d] }
  | _ => none }
def GrammarParsesWrongFalsely : Prop := grammarParsesRow.holds Try.pinned (OpenSpec.ofChange grammarParsesWrong)

/-- 'quincunxlaw07.GrammarBack': WHATEVER THE INPUT: true; the input reads as it did. -/
def grammarBackSpec : ChangeSpec := { name := "grammarBack", fn := fun _ => fun
  | [d] => { results := [.lit (.bool true)], args := [d] }
  | _ => none }
def grammarBackRow : OpenClaim := { program := "ytfemkbockhpmcaa", sum := "a0feea937045190b50a391ff627e17e47dbaaacd09da4d9f3171d06f3c6c5bf3", func := "quincunx/quincunxlaw07.GrammarBack", spec := "grammarBack", inPlace := ["internal/bytealg.IndexByteString", "internal/abi.NoEscape"], unfollowed := true, recurses := true, plainKeys := false, apart := false }
def GrammarBackSaid : Prop := grammarBackRow.holds Try.pinned (OpenSpec.ofChange grammarBackSpec)

/-- ITS FALSE NEIGHBOUR: 'it returns false'. Refute it at one input. -/
def grammarBackWrong : ChangeSpec := { name := "grammarBack", fn := fun _ => fun
  | [d] => { results := [.lit (.bool false)], args := [d] }
  | _ => none }
def GrammarBackWrongFalsely : Prop := grammarBackRow.holds Try.pinned (OpenSpec.ofChange grammarBackWrong)

/-- 'quincunxlaw07.GrammarBlanks': WHATEVER THE INPUT: true; the input reads as it did. -/
def grammarBlanksSpec : ChangeSpec := { name := "grammarBlanks", fn := fun _ => fun
  | [d1, d2] => { results := [.lit (.bool true)], args := [d1, d2] }
  | _ => none }
def grammarBlanksRow : OpenClaim := { program := "ytfemkbockhpmcaa", sum := "a0feea937045190b50a391ff627e17e47dbaaacd09da4d9f3171d06f3c6c5bf3", func := "quincunx/quincunxlaw07.GrammarBlanks", spec := "grammarBlanks", inPlace := ["internal/bytealg.IndexByteString", "internal/abi.NoEscape"], unfollowed := true, recurses := true, plainKeys := false, apart := false }
def GrammarBlanksSaid : Prop := grammarBlanksRow.holds Try.pinned (OpenSpec.ofChange grammarBlanksSpec)

/-- ITS FALSE NEIGHBOUR: 'it returns false'. Refute it at one input. -/
def grammarBlanksWrong : ChangeSpec := { name := "grammarBlanks", fn := fun _ => fun
  | [d1, d2] => { results := [.lit (.bool false)], args := [d1, d2] }
  | _ => none }
def GrammarBlanksWrongFalsely : Prop := grammarBlanksRow.holds Try.pinned (OpenSpec.ofChange grammarBlanksWrong)

/-- 'quincunxlaw07.GrammarLines': WHATEVER THE INPUT: true; the input reads as it did. -/
def grammarLinesSpec : ChangeSpec := { name := "grammarLines", fn := fun _ => fun
  | [d] => { results := [.lit (.bool true)], args := [d] }
  | _ => none }
def grammarLinesRow : OpenClaim := { program := "ytfemkbockhpmcaa", sum := "a0feea937045190b50a391ff627e17e47dbaaacd09da4d9f3171d06f3c6c5bf3", func := "quincunx/quincunxlaw07.GrammarLines", spec := "grammarLines", inPlace := ["internal/bytealg.IndexByteString", "internal/abi.NoEscape"], unfollowed := true, recurses := true, plainKeys := false, apart := false }
def GrammarLinesSaid : Prop := grammarLinesRow.holds Try.pinned (OpenSpec.ofChange grammarLinesSpec)

/-- ITS FALSE NEIGHBOUR: 'it returns false'. Refute it at one input. -/
def grammarLinesWrong : ChangeSpec := { name := "grammarLines", fn := fun _ => fun
  | [d] => { results := [.lit (.bool false)], args := [d] }
  | _ => none }
def GrammarLinesWrongFalsely : Prop := grammarLinesRow.holds Try.pinned (OpenSpec.ofChange grammarLinesWrong)

/-- 'quincunxlaw08.CheckFlaws': WHATEVER THE INPUT: true; the input reads as it did. -/
def checkFlawsSpec : ChangeSpec := { name := "checkFlaws", fn := fun _ => fun
  | [d1, d2] => { results := [.lit (.bool true)], args := [d1, d2] }
  | _ => none }
def checkFlawsRow : OpenClaim := { program := "ytfemkbockhpmcaa", sum := "a0feea937045190b50a391ff627e17e47dbaaacd09da4d9f3171d06f3c6c5bf3", func := "quincunx/quincunxlaw08.CheckFlaws", spec := "checkFlaws", unfollowed := true, recurses := true, plainKeys := false, apart := false }
def CheckFlawsSaid : Prop := checkFlawsRow.holds Try.pinned (OpenSpec.ofChange checkFlawsSpec)

/-- ITS FALSE NEIGHBOUR: 'it returns false'. Refute it at one input. -/
def checkFlawsWrong : ChangeSpec := { name := "checkFlaws", fn := fun _ => fun
  | [d1, d2] => { results := [.lit (.bool false)], args := [d1, d2] }
  | _ => none }
def CheckFlawsWrongFalsely : Prop := checkFlawsRow.holds Try.pinned (OpenSpec.ofChange checkFlawsWrong)

/-- 'quincunxlaw08.CheckNumbers': WHATEVER THE INPUT: true; the input reads as it did. -/
def checkNumbersSpec : ChangeSpec := { name := "checkNumbers", fn := fun _ => fun
  | [d1, d2] => { results := [.lit (.bool true)], args := [d1, d2] }
  | _ => none }
def checkNumbersRow : OpenClaim := { program := "ytfemkbockhpmcaa", sum := "a0feea937045190b50a391ff627e17e47dbaaacd09da4d9f3171d06f3c6c5bf3", func := "quincunx/quincunxlaw08.CheckNumbers", spec := "checkNumbers", unfollowed := true, recurses := true, plainKeys := false, apart := false }
def CheckNumbersSaid : Prop := checkNumbersRow.holds Try.pinned (OpenSpec.ofChange checkNumbersSpec)

/-- ITS FALSE NEIGHBOUR: 'it returns false'. Refute it at one input. -/
def checkNumbersWrong : ChangeSpec := { name := "checkNumbers", fn := fun _ => fun
  | [d1, d2] => { results := [.lit (.bool false)], args := [d1, d2] }
  | _ => none }
def CheckNumbersWrongFalsely : Prop := checkNumbersRow.holds Try.pinned (OpenSpec.ofChange checkNumbersWrong)

/-- 'quincunxlaw08.CheckValid': WHATEVER THE INPUT: true; the input reads as it did. -/
def checkValidSpec : ChangeSpec := { name := "checkValid", fn := fun _ => fun
  | [d] => { results := [.lit (.bool true)], args := [d] }
  | _ => none }
def checkValidRow : OpenClaim := { program := "ytfemkbockhpmcaa", sum := "a0feea937045190b50a391ff627e17e47dbaaacd09da4d9f3171d06f3c6c5bf3", func := "quincunx/quincunxlaw08.CheckValid", spec := "checkValid", unfollowed := true, recurses := true, plainKeys := false, apart := false }
def CheckValidSaid : Prop := checkValidRow.holds Try.pinned (OpenSpec.ofChange checkValidSpec)

/-- ITS FALSE NEIGHBOUR: 'it returns false'. Refute it at one input. -/
def checkValidWrong : ChangeSpec := { name := "checkValid", fn := fun _ => fun
  | [d] => { results := [.lit (.bool false)], args := [d] }
  | _ => none }
def CheckValidWrongFalsely : Prop := checkValidRow.holds Try.pinned (OpenSpec.ofChange checkValidWrong)

/-- 'quincunxlaw08.CheckBack': WHATEVER THE INPUT: true; the input reads as it did. -/
def checkBackSpec : ChangeSpec := { name := "checkBack", fn := fun _ => fun
  | [d1, d2] => { results := [.lit (.bool true)], args := [d1, d2] }
  | _ => none }
def checkBackRow : OpenClaim := { program := "ytfemkbockhpmcaa", sum := "a0feea937045190b50a391ff627e17e47dbaaacd09da4d9f3171d06f3c6c5bf3", func := "quincunx/quincunxlaw08.CheckBack", spec := "checkBack", unfollowed := true, recurses := true, plainKeys := false, apart := false }
def CheckBackSaid : Prop := checkBackRow.holds Try.pinned (OpenSpec.ofChange checkBackSpec)

/-- ITS FALSE NEIGHBOUR: 'it returns false'. Refute it at one input. -/
def checkBackWrong : ChangeSpec := { name := "checkBack", fn := fun _ => fun
  | [d1, d2] => { results := [.lit (.bool false)], args := [d1, d2] }
  | _ => none }
def CheckBackWrongFalsely : Prop := checkBackRow.holds Try.pinned (OpenSpec.ofChange checkBackWrong)

/- THE SECOND FORM. 'bulk': how many values and letters a reading holds, each counted each time it is reached (what is shared counts as often as it is met; a slice's spare places count too). A statement '..UptoSaid' is the law's where the arguments, and the package variables that the reading takes, are together of bulk at most 1048576: NARROWER than '..Said'. Prove '..Said' where nothing that the law and all that it calls make is longer than what came in: it says more and counts as full. Else prove '..UptoSaid'. A law counts once. -/
mutual
def uptoBulk {H : Type} : DataW H → Nat
  | .lit (.string bytes) => bytes.length + 1
  | .lit _ => 1
  | .nil => 1
  | .ptr d => uptoBulk d + 1
  | .slice elems spare => uptoBulkAll elems + uptoBulkAll spare + 1
  | .agg parts => uptoBulkAll parts + 1
  | .iface _ d => uptoBulk d + 1
  | .map entries => uptoBulkEntries entries + 1
  | .held _ => 1
def uptoBulkAll {H : Type} : List (DataW H) → Nat
  | [] => 0
  | d :: r => uptoBulk d + uptoBulkAll r
def uptoBulkEntries {H : Type} : List (Lit × DataW H) → Nat
  | [] => 0
  | x :: r => uptoBulkEntry x + uptoBulkEntries r
def uptoBulkEntry {H : Type} : Lit × DataW H → Nat
  | (.string bytes, d) => bytes.length + uptoBulk d + 1
  | (_, d) => uptoBulk d + 1
 end
def uptoSmall : (H : Type) → List (DataW H) → Bool := fun _ ds => decide (uptoBulkAll ds ≤ 1048576)
def OpenSpec.upto (s : _root_.Go.ChangeSpec) : _root_.Go.OpenSpec := { _root_.Go.OpenSpec.ofChange s with cond := some uptoSmall }

/-- 'quincunxlaw08.CheckMore', WHERE WHAT IT READS IS OF BULK AT MOST 1048576: true; the input reads as it did. -/
def checkMoreUptoRow : OpenClaim := { program := "ytfemkbockhpmcaa", sum := "a0feea937045190b50a391ff627e17e47dbaaacd09da4d9f3171d06f3c6c5bf3", func := "quincunx/quincunxlaw08.CheckMore", spec := "checkMore", unfollowed := true, recurses := true, plainKeys := false, apart := false, narrowed := true }
def CheckMoreUptoSaid : Prop := checkMoreUptoRow.holds Try.pinned (OpenSpec.upto checkMoreSpec)

/-- 'quincunxlaw08.CheckShapes', WHERE WHAT IT READS IS OF BULK AT MOST 1048576: true; the input reads as it did. -/
def checkShapesUptoRow : OpenClaim := { program := "ytfemkbockhpmcaa", sum := "a0feea937045190b50a391ff627e17e47dbaaacd09da4d9f3171d06f3c6c5bf3", func := "quincunx/quincunxlaw08.CheckShapes", spec := "checkShapes", unfollowed := true, recurses := true, plainKeys := false, apart := false, narrowed := true }
def CheckShapesUptoSaid : Prop := checkShapesUptoRow.holds Try.pinned (OpenSpec.upto checkShapesSpec)

/-- 'quincunxlaw07.GrammarChecks', WHERE WHAT IT READS IS OF BULK AT MOST 1048576: true; the input reads as it did. -/
def grammarChecksUptoRow : OpenClaim := { program := "ytfemkbockhpmcaa", sum := "a0feea937045190b50a391ff627e17e47dbaaacd09da4d9f3171d06f3c6c5bf3", func := "quincunx/quincunxlaw07.GrammarChecks", spec := "grammarChecks", inPlace := ["internal/bytealg.IndexByteString", "internal/abi.NoEscape"], unfollowed := true, recurses := true, plainKeys := false, apart := false, narrowed := true }
def GrammarChecksUptoSaid : Prop := grammarChecksUptoRow.holds Try.pinned (OpenSpec.upto grammarChecksSpec)

/-- 'quincunxlaw07.GrammarParses', WHERE WHAT IT READS IS OF BULK AT MOST 1048576: true; the input reads as it did. -/
def grammarParsesUptoRow : OpenClaim := { program := "ytfemkbockhpmcaa", sum := "a0feea937045190b50a391ff627e17e47dbaaacd09da4d9f3171d06f3c6c5bf3", func := "quincunx/quincunxlaw07.GrammarParses", spec := "grammarParses", inPlace := ["internal/bytealg.IndexByteString", "internal/abi.NoEscape"], unfollowed := true, recurses := true, plainKeys := false, apart := false, narrowed := true }
def GrammarParsesUptoSaid : Prop := grammarParsesUptoRow.holds Try.pinned (OpenSpec.upto grammarParsesSpec)

/-- 'quincunxlaw07.GrammarBack', WHERE WHAT IT READS IS OF BULK AT MOST 1048576: true; the input reads as it did. -/
def grammarBackUptoRow : OpenClaim := { program := "ytfemkbockhpmcaa", sum := "a0feea937045190b50a391ff627e17e47dbaaacd09da4d9f3171d06f3c6c5bf3", func := "quincunx/quincunxlaw07.GrammarBack", spec := "grammarBack", inPlace := ["internal/bytealg.IndexByteString", "internal/abi.NoEscape"], unfollowed := true, recurses := true, plainKeys := false, apart := false, narrowed := true }
def GrammarBackUptoSaid : Prop := grammarBackUptoRow.holds Try.pinned (OpenSpec.upto grammarBackSpec)

/-- 'quincunxlaw07.GrammarBlanks', WHERE WHAT IT READS IS OF BULK AT MOST 1048576: true; the input reads as it did. -/
def grammarBlanksUptoRow : OpenClaim := { program := "ytfemkbockhpmcaa", sum := "a0feea937045190b50a391ff627e17e47dbaaacd09da4d9f3171d06f3c6c5bf3", func := "quincunx/quincunxlaw07.GrammarBlanks", spec := "grammarBlanks", inPlace := ["internal/bytealg.IndexByteString", "internal/abi.NoEscape"], unfollowed := true, recurses := true, plainKeys := false, apart := false, narrowed := true }
def GrammarBlanksUptoSaid : Prop := grammarBlanksUptoRow.holds Try.pinned (OpenSpec.upto grammarBlanksSpec)

/-- 'quincunxlaw07.GrammarLines', WHERE WHAT IT READS IS OF BULK AT MOST 1048576: true; the input reads as it did. -/
def grammarLinesUptoRow : OpenClaim := { program := "ytfemkbockhpmcaa", sum := "a0feea937045190b50a391ff627e17e47dbaaacd09da4d9f3171d06f3c6c5bf3", func := "quincunx/quincunxlaw07.GrammarLines", spec := "grammarLines", inPlace := ["internal/bytealg.IndexByteString", "internal/abi.NoEscape"], unfollowed := true, recurses := true, plainKeys := false, apart := false, narrowed := true }
def GrammarLinesUptoSaid : Prop := grammarLinesUptoRow.holds Try.pinned (OpenSpec.upto grammarLinesSpec)

/-- 'quincunxlaw08.CheckFlaws', WHERE WHAT IT READS IS OF BULK AT MOST 1048576: true; the input reads as it did. -/
def checkFlawsUptoRow : OpenClaim := { program := "ytfemkbockhpmcaa", sum := "a0feea937045190b50a391ff627e17e47dbaaacd09da4d9f3171d06f3c6c5bf3", func := "quincunx/quincunxlaw08.CheckFlaws", spec := "checkFlaws", unfollowed := true, recurses := true, plainKeys := false, apart := false, narrowed := true }
def CheckFlawsUptoSaid : Prop := checkFlawsUptoRow.holds Try.pinned (OpenSpec.upto checkFlawsSpec)

/-- 'quincunxlaw08.CheckNumbers', WHERE WHAT IT READS IS OF BULK AT MOST 1048576: true; the input reads as it did. -/
def checkNumbersUptoRow : OpenClaim := { program := "ytfemkbockhpmcaa", sum := "a0feea937045190b50a391ff627e17e47dbaaacd09da4d9f3171d06f3c6c5bf3", func := "quincunx/quincunxlaw08.CheckNumbers", spec := "checkNumbers", unfollowed := true, recurses := true, plainKeys := false, apart := false, narrowed := true }
def CheckNumbersUptoSaid : Prop := checkNumbersUptoRow.holds Try.pinned (OpenSpec.upto checkNumbersSpec)

/-- 'quincunxlaw08.CheckValid', WHERE WHAT IT READS IS OF BULK AT MOST 1048576: true; the input reads as it did. -/
def checkValidUptoRow : OpenClaim := { program := "ytfemkbockhpmcaa", sum := "a0feea937045190b50a391ff627e17e47dbaaacd09da4d9f3171d06f3c6c5bf3", func := "quincunx/quincunxlaw08.CheckValid", spec := "checkValid", unfollowed := true, recurses := true, plainKeys := false, apart := false, narrowed := true }
def CheckValidUptoSaid : Prop := checkValidUptoRow.holds Try.pinned (OpenSpec.upto checkValidSpec)

/-- 'quincunxlaw08.CheckBack', WHERE WHAT IT READS IS OF BULK AT MOST 1048576: true; the input reads as it did. -/
def checkBackUptoRow : OpenClaim := { program := "ytfemkbockhpmcaa", sum := "a0feea937045190b50a391ff627e17e47dbaaacd09da4d9f3171d06f3c6c5bf3", func := "quincunx/quincunxlaw08.CheckBack", spec := "checkBack", unfollowed := true, recurses := true, plainKeys := false, apart := false, narrowed := true }
def CheckBackUptoSaid : Prop := checkBackUptoRow.holds Try.pinned (OpenSpec.upto checkBackSpec)

end Rows
end Go.Proofs.Ytfemkbockhpmcaa
