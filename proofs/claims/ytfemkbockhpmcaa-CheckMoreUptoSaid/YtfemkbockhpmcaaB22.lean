/- Walks of functions that the laws of this seat reach, printed by a program of this session's. -/
import Derived.Test.YtfemkbockhpmcaaB21
set_option linter.unusedSimpArgs false
set_option linter.unusedVariables false
set_option maxHeartbeats 4000000
namespace Go.Proofs.Ytfemkbockhpmcaa.Sym
open Go Go.Proofs Go.RowKit

noncomputable def gdS (g : List Rule) (tk : List ByteArray) : ByteArray → Bool := fun s => @decide (Fert g tk s) (Classical.propDecidable _)
noncomputable def nrS (g : List Rule) : ByteArray → Bool := fun s => @decide (Led g s) (Classical.propDecidable _)
section
variable {g : List Rule} {tk : List ByteArray} {i : Nat} {n : ByteArray} {r : Rule} {out ys : List Flaw} {P L : List (Bool × Flaw)} {f : Flaw}
theorem allNames_succ (h : g[i]? = some r) : allNames (g.take (i + 1)) = allNames (g.take i) ++ r.2.flatten := by
  unfold allNames
  rw [take_succ' h, List.flatMap_append]; simp
end
end Go.Proofs.Ytfemkbockhpmcaa.Sym
