/- Walks of functions that the laws of this seat reach, printed by a program of this session's. -/
import Derived.Test.YtfemkbockhpmcaaB19
set_option linter.unusedSimpArgs false
set_option linter.unusedVariables false
set_option maxHeartbeats 4000000
namespace Go.Proofs.Ytfemkbockhpmcaa.Sym
open Go Go.Proofs Go.RowKit

theorem nodup_take {xs : List ByteArray} (h : xs.Nodup) {i : Nat} {x : ByteArray} (hx : xs[i]? = some x) : x ∉ xs.take i := fun hm => by
  obtain ⟨j, hj, e⟩ := List.mem_take_iff_getElem.1 hm
  have hi := (List.getElem?_eq_some_iff.1 hx).1
  have h3 := (List.pairwise_iff_getElem.1 h) j i (by omega) hi (by omega)
  rw [List.getElem?_eq_getElem hi] at hx; injection hx with hx
  exact h3 (e.trans hx.symm)
theorem idx_first : ∀ (l : List Rule) (k : Nat) (n : ByteArray) (j : Nat) (x : Rule), l[j]? = some x → x.1 = n → ∃ y : Int, ((((l.zipIdx k).filter fun p => decide (p.1.1 = n)).map fun p => (p.2 : Int))[0]?) = some y ∧ y ≤ ((k + j : Nat) : Int)
  | [], k, n, j, x, h, _ => by simp at h
  | r :: l, k, n, j, x, h, hn => by
    rw [List.zipIdx_cons]
    by_cases e : r.1 = n
    · rw [List.filter_cons_of_pos (by simpa using e)]
      exact ⟨(k : Int), by simp, by omega⟩
    · rw [List.filter_cons_of_neg (by simpa using e)]
      cases j with
      | zero => simp at h; subst h; exact absurd hn e
      | succ j =>
        simp at h
        obtain ⟨y, h1, h2⟩ := idx_first l (k + 1) n j x h hn
        exact ⟨y, h1, by omega⟩
end Go.Proofs.Ytfemkbockhpmcaa.Sym
