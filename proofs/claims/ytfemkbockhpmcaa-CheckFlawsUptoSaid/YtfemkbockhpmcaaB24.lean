/- What the bulk of a reading says of a grammar's size. Own work. -/
import Derived.Test.YtfemkbockhpmcaaB23
import Derived.Test.YtfemkbockhpmcaaSymU
set_option linter.unusedVariables false
set_option linter.unusedSimpArgs false
namespace Go.Proofs.Ytfemkbockhpmcaa.Sym
open Go Go.Proofs Go.RowKit
abbrev muG : List Rule → Nat := muL (muP muS (muL (muL muS)))
abbrev muT : List ByteArray → Nat := muL muS
theorem flat_mu : ∀ l : List (List ByteArray), l.flatten.length ≤ (l.map (muL muS)).sum
  | [] => by simp
  | a :: l => by
    have := flat_mu l
    simp only [List.flatten_cons, List.length_append, List.map_cons, List.sum_cons]
    have h : a.length ≤ muL muS a := by unfold muL; omega
    omega
theorem bigN_le (g : List Rule) (tk : List ByteArray) : bigN g tk ≤ muG g + muT tk := by
  have key : ∀ g : List Rule, (g.map bigR).sum ≤ (g.map (muP muS (muL (muL muS)))).sum := by
    intro g
    induction g with
    | nil => simp
    | cons x g ih =>
      simp only [List.map_cons, List.sum_cons]
      have h1 : bigR x ≤ muP muS (muL (muL muS)) x := by
        have h2 := flat_mu x.2
        unfold bigR muP
        have h3 : muL (muL muS) x.2 = x.2.length + (x.2.map (muL muS)).sum := rfl
        omega
      omega
  have h1 := key g
  have h2 : muG g = g.length + (g.map (muP muS (muL (muL muS)))).sum := rfl
  have h3 : tk.length ≤ muT tk := by show _ ≤ muL muS tk; unfold muL; omega
  unfold bigN; omega
end Go.Proofs.Ytfemkbockhpmcaa.Sym
