/- Walks of functions that the laws of this seat reach, printed by a program of this session's. -/
import Derived.Test.YtfemkbockhpmcaaB19
set_option linter.unusedSimpArgs false
set_option linter.unusedVariables false
set_option maxHeartbeats 4000000
namespace Go.Proofs.Ytfemkbockhpmcaa.Sym
open Go Go.Proofs Go.RowKit

theorem idx_first : ∀ (l : List Rule) (k : Nat) (n : ByteArray) (j : Nat) (x : Rule), l[j]? = some x → x.1 = n → ∃ y : Int, ((((l.zipIdx k).filter fun p => decide (p.1.1 = n)).map fun p => (p.2 : Int))[0]?) = some y ∧ y ≤ ((k + j : Nat) : Int)
  | [], k, n, j, x, h, _ => by simp at h
  | r :: l, k, n, j, x, h, hn => by
    rw [List.zipIdx_cons]
    by_cases e : r.1 = n
    · rw [List.filter_cons_of_pos (by simpa using e)]
      exact ⟨(k : Int), by simp, by omega⟩
    · rw [List.filter_cons_of_neg (by simpa using e)]
      cases j with
      | zero => simp at h; subst h; exact absurd hn e
      | succ j =>
        simp at h
        obtain ⟨y, h1, h2⟩ := idx_first l (k + 1) n j x h hn
        exact ⟨y, h1, by omega⟩
end Go.Proofs.Ytfemkbockhpmcaa.Sym
