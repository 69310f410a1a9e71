/- Walks of functions that the laws of this seat reach, printed by a program of this session's. -/
import Derived.Test.YtbpajkjolhoflaaT12
set_option linter.unusedSimpArgs false
set_option linter.unusedVariables false
set_option maxHeartbeats 4000000
namespace Go.Proofs.Ytbpajkjolhoflaa.Sym
open Go Go.Proofs Go.RowKit


def theseS (ok : Bool) (xs : List (List Int × List Int)) : List (List Int × List Int) × Bool := match ok with
  | true => (xs, true)
  | false => ([], false)
theorem rule_alts0 {rs : List (List (List Int))} {xs : List Int} {r : Int} (h : (r, false) = ruleS rs xs) : ([], false) = altsS rs xs := by
  cases xs with
  | nil => rfl
  | cons x l =>
    simp only [ruleS] at h
    simp only [altsS]
    split at h
    · rename_i h1; rw [if_pos h1]
    · rename_i h1
      rw [if_neg h1]
      split at h
      · rename_i h2
        have : rs[(-x - 1).toNat]? = none := List.getElem?_eq_none (by omega)
        rw [this]
      · simp at h
theorem rule_alts1 {rs : List (List (List Int))} {xs : List Int} {r : Int} (h : (r, true) = ruleS rs xs) : 0 ≤ r ∧ r < rs.length ∧ ∃ al, rs[r.toNat]? = some al := by
  cases xs with
  | nil => simp [ruleS] at h
  | cons x l =>
    simp only [ruleS] at h
    split at h
    · simp at h
    · split at h
      · simp at h
      · injection h with h1 h2
        subst h1
        exact ⟨by omega, by omega, _, List.getElem?_eq_getElem (by omega)⟩
theorem rule_alts2 {rs : List (List (List Int))} {xs : List Int} {r : Int} {al : List (List Int)} (h : (r, true) = ruleS rs xs) (ha : rs[r.toNat]? = some al) : (al, true) = altsS rs xs := by
  cases xs with
  | nil => simp [ruleS] at h
  | cons x l =>
    simp only [ruleS] at h
    split at h
    · simp at h
    · rename_i h1
      split at h
      · simp at h
      · injection h with h2 h3
        subst h2
        simp only [altsS, if_neg h1, ha]
theorem ruleS_ne {rs : List (List (List Int))} {a : List Int} {r : Int} (h : (r, true) = ruleS rs a) : 0 < a.length := by
  cases a with
  | nil => simp [ruleS] at h
  | cons x a => simp
theorem map_step {α β : Type} {f : α → β} {xs : List α} {i : Nat} {x : α} (h : xs[i]? = some x) : (xs.take (i + 1)).map f = (xs.take i).map f ++ [f x] := by
  rw [take_succ' h, List.map_append]; rfl
theorem oldS_yes' {rs : List (List (List Int))} {a b : List Int} {r : List (List Int)} {i : Nat} (h : (r, true) = altsS rs a) (hi : r.length ≤ i) : oldS rs (a, b) = ((r.take i).map (fun x => (x ++ a.drop 1, b)), true) := by
  unfold oldS; simp only [← h]
  rw [List.take_of_length_le hi]
theorem these_ok {w : World} {G : Heap} (hG : Has w G) {ok : Bool} {xs : (List ((List Int) × (List Int)))} {A_xs : Option Addr} {n_xs : Nat} {c_xs : Nat} (h_xs : Sl (tPair (tSlice (tInt .i64)) (tSlice (tInt .i64))) G A_xs n_xs c_xs xs) :
    Calls Try.prog 48 #[(.bool ok), (.slice A_xs n_xs c_xs)] w (Ret w G fun v G' => ∃ (r : (List ((List Int) × (List Int)))) (A_r : Option Addr) (n_r : Nat) (c_r : Nat) (ok2 : Bool), v = .tuple #[.slice A_r n_r c_r, .bool ok2] ∧ (Sl (tPair (tSlice (tInt .i64)) (tSlice (tInt .i64))) G' A_r n_r c_r r) ∧ ((r, ok2) = theseS ok xs)) := by
  have lh_xs := h_xs.len'
  refine enter [(bB ok), (sS A_xs n_xs c_xs)] 9 Try.func48 rfl rfl rfl rfl hG ?_
  refine WC_seq (WC_region ?_)
  refine WL_execS htb 2 [0, 1] [] ⟨[(0, (bB ok)), (1, (sS A_xs n_xs c_xs))], [], 0, [], []⟩ (by kernel_rfl) ?_
  refine WL_nil ?_
  refine WQ_code ?_
  refine WC_seq ?_
  refine WC_seq (WC_region ?_)
  refine WL_execS htb 2 [7, 1] [] ⟨[(7, (bB (!ok))), (1, (sS A_xs n_xs c_xs))], [], 0, [], []⟩ (by kernel_rfl) ?_
  refine WL_nil ?_
  refine WQ_code ?_
  refine WC_cond (b := (!ok)) rfl (fun hb0 => ?_) (fun hb0 => ?_)
  · rw [Bool.not_eq_true'] at hb0
    refine WC_seq (WC_region ?_)
    refine WL_execS htb 2 [5, 4] [] ⟨[(5, (bB false)), (4, (sS none 0 0))], [], 0, [], []⟩ (by kernel_rfl) ?_
    refine WL_nil ?_
    refine WQ_code ?_
    refine WC_ret ?_
    refine WQ_then_ret ?_
    exact WQ_done htb [(sS none 0 0), (bB false)] _ (.inl rfl) rfl (by kernel_rfl) (fun ρ w hW => ⟨[], _, _, _, false, rfl, (Sl.none0 _ _), by rw [hb0]; rfl⟩)
  · rw [Bool.not_eq_false'] at hb0
    refine WC_skip ?_
    refine WQ_code ?_
    refine WC_seq (WC_region ?_)
    refine WL_execS htb 3 [5, 4] [] ⟨[(5, (bB true)), (4, (sS A_xs n_xs c_xs))], [], 0, [], []⟩ (by kernel_rfl) ?_
    refine WL_nil ?_
    refine WQ_code ?_
    refine WC_ret ?_
    exact WQ_done htb [(sS A_xs n_xs c_xs), (bB true)] _ (.inl rfl) rfl (by kernel_rfl) (fun ρ w hW => ⟨xs, _, _, _, true, rfl, h_xs, by rw [hb0]; rfl⟩)

end Go.Proofs.Ytbpajkjolhoflaa.Sym
