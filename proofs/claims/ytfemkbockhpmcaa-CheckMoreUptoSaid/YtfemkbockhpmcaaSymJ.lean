/- The symbolic layer, tenth part: calls that only look at lists of the walk's own. Own work. -/
import Derived.Test.YtfemkbockhpmcaaSymG
set_option linter.unusedSimpArgs false
set_option linter.unusedVariables false
namespace Go.Proofs.Ytfemkbockhpmcaa.Sym
open Go Go.Proofs Go.RowKit
section
variable {P : Program} {r : Option Nat} {ops : Array Oper} {Q : Exit → Act → World → Prop} {c : Ctx} {G : Heap} {S : St} {tb : Tbl} {K : Act → World → Prop}
end
end Go.Proofs.Ytfemkbockhpmcaa.Sym
