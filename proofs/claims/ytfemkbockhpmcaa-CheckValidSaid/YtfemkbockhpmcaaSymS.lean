/- The symbolic layer, nineteenth part: a struct of one field, opened. Own work. -/
import Derived.Test.YtfemkbockhpmcaaSymH
set_option linter.unusedSimpArgs false
set_option linter.unusedVariables false
namespace Go.Proofs.Ytfemkbockhpmcaa.Sym
open Go Go.Proofs Go.RowKit Go.ChangeShapes Go.WideShapes
end Go.Proofs.Ytfemkbockhpmcaa.Sym
