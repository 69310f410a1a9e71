/-
  NARROWER THAN 'FOR EVERY INPUT', by the rows' own cells (each row's printed sentence says how): TreeBack: loops.
  DERIVED. THE GIVEN ROWS OF THIS SEAT. 8 by the template 'for every input the law returns true; each argument reads behind the call as it read before'; 0 by the template 'total and deterministic' (their statements: YtbpajkjolhoflaaTotals.lean).
  GIVEN WITH THE SEED: the statements are not yours to turn. If you find one false, say at which input.
  Laid BY PROGRAM, IN A SANDBOX (cutbox-rows.mjs): the forced cells as the released guide's own fill.sh prints them over the translation 7e38c3ace5dc5ed2… (all of the seat's roots in one cut). By AI agents, Wed Nov 11 2026. No macro, syntax, notation, axiom, sorry.
-/
import Derived.Test.YtbpajkjolhoflaaChecked
import GoSem.Claim
import GoSem.ClaimJoined
import GoSem.ClaimMapViews
import Derived.JoinedTies
import Derived.KernelRfl
namespace Go.Proofs.Ytbpajkjolhoflaa
/- THE CELL 'sum', in the pinned program and in every row, IS THE sha256 OF THE DUMP (.gsa) THAT YtbpajkjolhoflaaProg.lean LOADS. Nothing in Lean hashes anything: it is a label: what it is worth is what the hold of that sum in a sandbox is worth. -/
noncomputable def Try.pinned : Pinned := { name := "ytbpajkjolhoflaa", sum := "7e38c3ace5dc5ed2df6087aae1b745ad9d875968d007a247f1dcdca6c7250699", checked := Try.checked }
namespace Rows
def none {H : Type} : Left H := { results := [], args := [] }

/-- 'quincunxlaw15.StackJoins': WHATEVER THE INPUT: true; the input reads as it did. -/
def stackJoinsSpec : ChangeSpec := { name := "stackJoins", fn := fun _ => fun
  | [d] => { results := [.lit (.bool true)], args := [d] }
  | _ => none }
def stackJoinsRow : OpenClaim := { program := "ytbpajkjolhoflaa", sum := "7e38c3ace5dc5ed2df6087aae1b745ad9d875968d007a247f1dcdca6c7250699", func := "quincunx/quincunxlaw15.StackJoins", spec := "stackJoins", apart := false }
def StackJoinsSaid : Prop := stackJoinsRow.holds Try.pinned (OpenSpec.ofChange stackJoinsSpec)

/-- ITS FALSE NEIGHBOUR: 'it returns false'. Refute it at one input. -/
def stackJoinsWrong : ChangeSpec := { name := "stackJoins", fn := fun _ => fun
  | [d] => { results := [.lit (.bool false)], args := [d] }
  | _ => none }
def StackJoinsWrongFalsely : Prop := stackJoinsRow.holds Try.pinned (OpenSpec.ofChange stackJoinsWrong)

/-- 'quincunxlaw15.StackSames': WHATEVER THE INPUT: true; the input reads as it did. -/
def stackSamesSpec : ChangeSpec := { name := "stackSames", fn := fun _ => fun
  | [d1, d2] => { results := [.lit (.bool true)], args := [d1, d2] }
  | _ => none }
def stackSamesRow : OpenClaim := { program := "ytbpajkjolhoflaa", sum := "7e38c3ace5dc5ed2df6087aae1b745ad9d875968d007a247f1dcdca6c7250699", func := "quincunx/quincunxlaw15.StackSames", spec := "stackSames", apart := false }
def StackSamesSaid : Prop := stackSamesRow.holds Try.pinned (OpenSpec.ofChange stackSamesSpec)

/-- ITS FALSE NEIGHBOUR: 'it returns false'. Refute it at one input. -/
def stackSamesWrong : ChangeSpec := { name := "stackSames", fn := fun _ => fun
  | [d1, d2] => { results := [.lit (.bool false)], args := [d1, d2] }
  | _ => none }
def StackSamesWrongFalsely : Prop := stackSamesRow.holds Try.pinned (OpenSpec.ofChange stackSamesWrong)

/-- 'quincunxlaw15.StackSteps': WHATEVER THE INPUT: true; the input reads as it did. -/
def stackStepsSpec : ChangeSpec := { name := "stackSteps", fn := fun _ => fun
  | [d1, d2, d3] => { results := [.lit (.bool true)], args := [d1, d2, d3] }
  | _ => none }
def stackStepsRow : OpenClaim := { program := "ytbpajkjolhoflaa", sum := "7e38c3ace5dc5ed2df6087aae1b745ad9d875968d007a247f1dcdca6c7250699", func := "quincunx/quincunxlaw15.StackSteps", spec := "stackSteps", apart := false }
def StackStepsSaid : Prop := stackStepsRow.holds Try.pinned (OpenSpec.ofChange stackStepsSpec)

/-- ITS FALSE NEIGHBOUR: 'it returns false'. Refute it at one input. -/
def stackStepsWrong : ChangeSpec := { name := "stackSteps", fn := fun _ => fun
  | [d1, d2, d3] => { results := [.lit (.bool false)], args := [d1, d2, d3] }
  | _ => none }
def StackStepsWrongFalsely : Prop := stackStepsRow.holds Try.pinned (OpenSpec.ofChange stackStepsWrong)

/-- 'quincunxlaw15.StackHolds': WHATEVER THE INPUT: true; the input reads as it did. -/
def stackHoldsSpec : ChangeSpec := { name := "stackHolds", fn := fun _ => fun
  | [d1, d2, d3, d4] => { results := [.lit (.bool true)], args := [d1, d2, d3, d4] }
  | _ => none }
def stackHoldsRow : OpenClaim := { program := "ytbpajkjolhoflaa", sum := "7e38c3ace5dc5ed2df6087aae1b745ad9d875968d007a247f1dcdca6c7250699", func := "quincunx/quincunxlaw15.StackHolds", spec := "stackHolds", apart := false }
def StackHoldsSaid : Prop := stackHoldsRow.holds Try.pinned (OpenSpec.ofChange stackHoldsSpec)

/-- ITS FALSE NEIGHBOUR: 'it returns false'. Refute it at one input. -/
def stackHoldsWrong : ChangeSpec := { name := "stackHolds", fn := fun _ => fun
  | [d1, d2, d3, d4] => { results := [.lit (.bool false)], args := [d1, d2, d3, d4] }
  | _ => none }
def StackHoldsWrongFalsely : Prop := stackHoldsRow.holds Try.pinned (OpenSpec.ofChange stackHoldsWrong)

/-- 'quincunxlaw13.TreeBack': WHATEVER THE INPUT: true; the input reads as it did. -/
def treeBackSpec : ChangeSpec := { name := "treeBack", fn := fun _ => fun
  | [d1, d2] => { results := [.lit (.bool true)], args := [d1, d2] }
  | _ => none }
def treeBackRow : OpenClaim := { program := "ytbpajkjolhoflaa", sum := "7e38c3ace5dc5ed2df6087aae1b745ad9d875968d007a247f1dcdca6c7250699", func := "quincunx/quincunxlaw13.TreeBack", spec := "treeBack", inPlace := ["internal/abi.NoEscape"], unfollowed := true, recurses := true, loops := true, apart := false }
def TreeBackSaid : Prop := treeBackRow.holds Try.pinned (OpenSpec.ofChange treeBackSpec)

/-- ITS FALSE NEIGHBOUR: 'it returns false'. Refute it at one input. -/
def treeBackWrong : ChangeSpec := { name := "treeBack", fn := fun _ => fun
  | [d1, d2] => { results := [.lit (.bool false)], args := [d1, d2] }
  | _ => none }
def TreeBackWrongFalsely : Prop := treeBackRow.holds Try.pinned (OpenSpec.ofChange treeBackWrong)

/-- 'quincunxlaw13.TreeMade': WHATEVER THE INPUT: true; the input reads as it did. -/
def treeMadeSpec : ChangeSpec := { name := "treeMade", fn := fun _ => fun
  | [d1, d2] => { results := [.lit (.bool true)], args := [d1, d2] }
  | _ => none }
def treeMadeRow : OpenClaim := { program := "ytbpajkjolhoflaa", sum := "7e38c3ace5dc5ed2df6087aae1b745ad9d875968d007a247f1dcdca6c7250699", func := "quincunx/quincunxlaw13.TreeMade", spec := "treeMade", inPlace := ["internal/abi.NoEscape"], unfollowed := true, recurses := true, apart := false }
def TreeMadeSaid : Prop := treeMadeRow.holds Try.pinned (OpenSpec.ofChange treeMadeSpec)

/-- ITS FALSE NEIGHBOUR: 'it returns false'. Refute it at one input. -/
def treeMadeWrong : ChangeSpec := { name := "treeMade", fn := fun _ => fun
  | [d1, d2] => { results := [.lit (.bool false)], args := [d1, d2] }
  | _ => none }
def TreeMadeWrongFalsely : Prop := treeMadeRow.holds Try.pinned (OpenSpec.ofChange treeMadeWrong)

/-- 'quincunxlaw13.TreeParsed': WHATEVER THE INPUT: true; the input reads as it did. -/
def treeParsedSpec : ChangeSpec := { name := "treeParsed", fn := fun _ => fun
  | [d1, d2, d3] => { results := [.lit (.bool true)], args := [d1, d2, d3] }
  | _ => none }
def treeParsedRow : OpenClaim := { program := "ytbpajkjolhoflaa", sum := "7e38c3ace5dc5ed2df6087aae1b745ad9d875968d007a247f1dcdca6c7250699", func := "quincunx/quincunxlaw13.TreeParsed", spec := "treeParsed", inPlace := ["internal/abi.NoEscape"], unfollowed := true, recurses := true, apart := false }
def TreeParsedSaid : Prop := treeParsedRow.holds Try.pinned (OpenSpec.ofChange treeParsedSpec)

/-- ITS FALSE NEIGHBOUR: 'it returns false'. Refute it at one input. -/
def treeParsedWrong : ChangeSpec := { name := "treeParsed", fn := fun _ => fun
  | [d1, d2, d3] => { results := [.lit (.bool false)], args := [d1, d2, d3] }
  | _ => none }
def TreeParsedWrongFalsely : Prop := treeParsedRow.holds Try.pinned (OpenSpec.ofChange treeParsedWrong)

/-- 'quincunxlaw13.TreeCounts': WHATEVER THE INPUT: true; the input reads as it did. -/
def treeCountsSpec : ChangeSpec := { name := "treeCounts", fn := fun _ => fun
  | [d1, d2] => { results := [.lit (.bool true)], args := [d1, d2] }
  | _ => none }
def treeCountsRow : OpenClaim := { program := "ytbpajkjolhoflaa", sum := "7e38c3ace5dc5ed2df6087aae1b745ad9d875968d007a247f1dcdca6c7250699", func := "quincunx/quincunxlaw13.TreeCounts", spec := "treeCounts", inPlace := ["internal/abi.NoEscape"], unfollowed := true, recurses := true, apart := false }
def TreeCountsSaid : Prop := treeCountsRow.holds Try.pinned (OpenSpec.ofChange treeCountsSpec)

/-- ITS FALSE NEIGHBOUR: 'it returns false'. Refute it at one input. -/
def treeCountsWrong : ChangeSpec := { name := "treeCounts", fn := fun _ => fun
  | [d1, d2] => { results := [.lit (.bool false)], args := [d1, d2] }
  | _ => none }
def TreeCountsWrongFalsely : Prop := treeCountsRow.holds Try.pinned (OpenSpec.ofChange treeCountsWrong)

/- THE SECOND FORM. 'bulk': how many values and letters a reading holds, each counted each time it is reached (what is shared counts as often as it is met; a slice's spare places count too). A statement '..UptoSaid' is the law's where the arguments, and the package variables that the reading takes, are together of bulk at most 1048576: NARROWER than '..Said'. Prove '..Said' where nothing that the law and all that it calls make is longer than what came in: it says more and counts as full. Else prove '..UptoSaid'. A law counts once. -/
mutual
def uptoBulk {H : Type} : DataW H → Nat
  | .lit (.string bytes) => bytes.length + 1
  | .lit _ => 1
  | .nil => 1
  | .ptr d => uptoBulk d + 1
  | .slice elems spare => uptoBulkAll elems + uptoBulkAll spare + 1
  | .agg parts => uptoBulkAll parts + 1
  | .iface _ d => uptoBulk d + 1
  | .map entries => uptoBulkEntries entries + 1
  | .held _ => 1
def uptoBulkAll {H : Type} : List (DataW H) → Nat
  | [] => 0
  | d :: r => uptoBulk d + uptoBulkAll r
def uptoBulkEntries {H : Type} : List (Lit × DataW H) → Nat
  | [] => 0
  | x :: r => uptoBulkEntry x + uptoBulkEntries r
def uptoBulkEntry {H : Type} : Lit × DataW H → Nat
  | (.string bytes, d) => bytes.length + uptoBulk d + 1
  | (_, d) => uptoBulk d + 1
 end
def uptoSmall : (H : Type) → List (DataW H) → Bool := fun _ ds => decide (uptoBulkAll ds ≤ 1048576)
def OpenSpec.upto (s : _root_.Go.ChangeSpec) : _root_.Go.OpenSpec := { _root_.Go.OpenSpec.ofChange s with cond := some uptoSmall }

/-- 'quincunxlaw15.StackJoins', WHERE WHAT IT READS IS OF BULK AT MOST 1048576: true; the input reads as it did. -/
def stackJoinsUptoRow : OpenClaim := { program := "ytbpajkjolhoflaa", sum := "7e38c3ace5dc5ed2df6087aae1b745ad9d875968d007a247f1dcdca6c7250699", func := "quincunx/quincunxlaw15.StackJoins", spec := "stackJoins", apart := false, narrowed := true }
def StackJoinsUptoSaid : Prop := stackJoinsUptoRow.holds Try.pinned (OpenSpec.upto stackJoinsSpec)

/-- 'quincunxlaw15.StackSames', WHERE WHAT IT READS IS OF BULK AT MOST 1048576: true; the input reads as it did. -/
def stackSamesUptoRow : OpenClaim := { program := "ytbpajkjolhoflaa", sum := "7e38c3ace5dc5ed2df6087aae1b745ad9d875968d007a247f1dcdca6c7250699", func := "quincunx/quincunxlaw15.StackSames", spec := "stackSames", apart := false, narrowed := true }
def StackSamesUptoSaid : Prop := stackSamesUptoRow.holds Try.pinned (OpenSpec.upto stackSamesSpec)

/-- 'quincunxlaw15.StackSteps', WHERE WHAT IT READS IS OF BULK AT MOST 1048576: true; the input reads as it did. -/
def stackStepsUptoRow : OpenClaim := { program := "ytbpajkjolhoflaa", sum := "7e38c3ace5dc5ed2df6087aae1b745ad9d875968d007a247f1dcdca6c7250699", func := "quincunx/quincunxlaw15.StackSteps", spec := "stackSteps", apart := false, narrowed := true }
def StackStepsUptoSaid : Prop := stackStepsUptoRow.holds Try.pinned (OpenSpec.upto stackStepsSpec)

/-- 'quincunxlaw15.StackHolds', WHERE WHAT IT READS IS OF BULK AT MOST 1048576: true; the input reads as it did. -/
def stackHoldsUptoRow : OpenClaim := { program := "ytbpajkjolhoflaa", sum := "7e38c3ace5dc5ed2df6087aae1b745ad9d875968d007a247f1dcdca6c7250699", func := "quincunx/quincunxlaw15.StackHolds", spec := "stackHolds", apart := false, narrowed := true }
def StackHoldsUptoSaid : Prop := stackHoldsUptoRow.holds Try.pinned (OpenSpec.upto stackHoldsSpec)

/-- 'quincunxlaw13.TreeBack', WHERE WHAT IT READS IS OF BULK AT MOST 1048576: true; the input reads as it did. -/
def treeBackUptoRow : OpenClaim := { program := "ytbpajkjolhoflaa", sum := "7e38c3ace5dc5ed2df6087aae1b745ad9d875968d007a247f1dcdca6c7250699", func := "quincunx/quincunxlaw13.TreeBack", spec := "treeBack", inPlace := ["internal/abi.NoEscape"], unfollowed := true, recurses := true, loops := true, apart := false, narrowed := true }
def TreeBackUptoSaid : Prop := treeBackUptoRow.holds Try.pinned (OpenSpec.upto treeBackSpec)

/-- 'quincunxlaw13.TreeMade', WHERE WHAT IT READS IS OF BULK AT MOST 1048576: true; the input reads as it did. -/
def treeMadeUptoRow : OpenClaim := { program := "ytbpajkjolhoflaa", sum := "7e38c3ace5dc5ed2df6087aae1b745ad9d875968d007a247f1dcdca6c7250699", func := "quincunx/quincunxlaw13.TreeMade", spec := "treeMade", inPlace := ["internal/abi.NoEscape"], unfollowed := true, recurses := true, apart := false, narrowed := true }
def TreeMadeUptoSaid : Prop := treeMadeUptoRow.holds Try.pinned (OpenSpec.upto treeMadeSpec)

/-- 'quincunxlaw13.TreeParsed', WHERE WHAT IT READS IS OF BULK AT MOST 1048576: true; the input reads as it did. -/
def treeParsedUptoRow : OpenClaim := { program := "ytbpajkjolhoflaa", sum := "7e38c3ace5dc5ed2df6087aae1b745ad9d875968d007a247f1dcdca6c7250699", func := "quincunx/quincunxlaw13.TreeParsed", spec := "treeParsed", inPlace := ["internal/abi.NoEscape"], unfollowed := true, recurses := true, apart := false, narrowed := true }
def TreeParsedUptoSaid : Prop := treeParsedUptoRow.holds Try.pinned (OpenSpec.upto treeParsedSpec)

/-- 'quincunxlaw13.TreeCounts', WHERE WHAT IT READS IS OF BULK AT MOST 1048576: true; the input reads as it did. -/
def treeCountsUptoRow : OpenClaim := { program := "ytbpajkjolhoflaa", sum := "7e38c3ace5dc5ed2df6087aae1b745ad9d875968d007a247f1dcdca6c7250699", func := "quincunx/quincunxlaw13.TreeCounts", spec := "treeCounts", inPlace := ["internal/abi.NoEscape"], unfollowed := true, recurses := true, apart := false, narrowed := true }
def TreeCountsUptoSaid : Prop := treeCountsUptoRow.holds Try.pinned (OpenSpec.upto treeCountsSpec)

end Rows
end Go.Proofs.Ytbpajkjolhoflaa
