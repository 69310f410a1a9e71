/- Walks of functions that the laws of this seat reach, printed by a program of this session's. -/
import Derived.Test.YtbpajkjolhoflaaTy
import Derived.Test.YtbpajkjolhoflaaSymG
import Derived.Test.YtbpajkjolhoflaaT2
set_option linter.unusedSimpArgs false
set_option linter.unusedVariables false
set_option maxHeartbeats 4000000
namespace Go.Proofs.Ytbpajkjolhoflaa.Sym
open Go Go.Proofs Go.RowKit
theorem rsame_ok {w : World} {G : Heap} (hG : Has w G) {a1 : (List Int)} {A_a1 : Option Addr} {n_a1 : Nat} {c_a1 : Nat} {a2 : (List Int)} {A_a2 : Option Addr} {n_a2 : Nat} {c_a2 : Nat} {b1 : (List Int)} {A_b1 : Option Addr} {n_b1 : Nat} {c_b1 : Nat} {b2 : (List Int)} {A_b2 : Option Addr} {n_b2 : Nat} {c_b2 : Nat} (h_a1 : Sl (tInt .i64) G A_a1 n_a1 c_a1 a1) (h_a2 : Sl (tInt .i64) G A_a2 n_a2 c_a2 a2) (h_b1 : Sl (tInt .i64) G A_b1 n_b1 c_b1 b1) (h_b2 : Sl (tInt .i64) G A_b2 n_b2 c_b2 b2) :
    Calls Try.prog 14 #[(.agg #[.slice A_a1 n_a1 c_a1, .slice A_a2 n_a2 c_a2]), (.agg #[.slice A_b1 n_b1 c_b1, .slice A_b2 n_b2 c_b2])] w (Ret w G fun v G' => ∃ (b : Bool), v = .bool b ∧ (b = (decide (a1 = b1) && decide (a2 = b2)))) := by
  have lh_a1 := h_a1.len'
  have lh_a2 := h_a2.len'
  have lh_b1 := h_b1.len'
  have lh_b2 := h_b2.len'
  refine enter [(.agg [(sS A_a1 n_a1 c_a1), (sS A_a2 n_a2 c_a2)]), (.agg [(sS A_b1 n_b1 c_b1), (sS A_b2 n_b2 c_b2)])] 17 Try.func14 rfl rfl rfl rfl hG ?_
  refine WC_seq (WC_region ?_)
  refine WL_execS htb 3 [3, 2] [1, 0] ⟨[(3, (.p 1 0)), (2, (.p 0 0))], [(1, (.cells 24 [(sS A_b1 n_b1 c_b1), (sS A_b2 n_b2 c_b2)])), (0, (.cells 24 [(sS A_a1 n_a1 c_a1), (sS A_a2 n_a2 c_a2)]))], 2, [], []⟩ (by kernel_rfl) ?_
  refine WL_nil ?_
  refine WQ_code ?_
  refine WC_seq (WC_region ?_)
  refine WL_execS htb 4 [8, 6, 3, 2] [1, 0] ⟨[(8, (sS A_b1 n_b1 c_b1)), (6, (sS A_a1 n_a1 c_a1)), (3, (.p 1 0)), (2, (.p 0 0))], [(1, (.cells 24 [(sS A_b1 n_b1 c_b1), (sS A_b2 n_b2 c_b2)])), (0, (.cells 24 [(sS A_a1 n_a1 c_a1), (sS A_a2 n_a2 c_a2)]))], 2, [], []⟩ (by kernel_rfl) ?_
  refine WL_op (WOp_call 26 [(sS A_a1 n_a1 c_a1), (sS A_b1 n_b1 c_b1)] (by kernel_rfl) (goes_of Try.func26 rfl rfl) (fun ρ w hW => sameInts_ok hW.has (xs := a1) (ys := b1) h_a1 h_b1) ?_)
  intro G1 v hle hΦ
  replace h_a1 := h_a1.mono hle
  replace h_a2 := h_a2.mono hle
  replace h_b1 := h_b1.mono hle
  replace h_b2 := h_b2.mono hle
  obtain ⟨r1, rfl, hR2⟩ := hΦ
  refine WL_execS htb 1 [10, 3, 2] [1, 0] ⟨[(10, (bB r1)), (3, (.p 1 0)), (2, (.p 0 0))], [(1, (.cells 24 [(sS A_b1 n_b1 c_b1), (sS A_b2 n_b2 c_b2)])), (0, (.cells 24 [(sS A_a1 n_a1 c_a1), (sS A_a2 n_a2 c_a2)]))], 2, [], []⟩ (by kernel_rfl) ?_
  refine WK_split 10 r1 rfl (fun hb => ?_) (fun hb => ?_)
  · skip
    refine WK_keep [10, 3, 2] [1, 0] rfl rfl ?_
    refine WL_execS htb 4 [14, 12, 10] [] ⟨[(14, (sS A_b2 n_b2 c_b2)), (12, (sS A_a2 n_a2 c_a2)), (10, (bB true))], [], 2, [], []⟩ (by kernel_rfl) ?_
    refine WL_op (WOp_call 26 [(sS A_a2 n_a2 c_a2), (sS A_b2 n_b2 c_b2)] (by kernel_rfl) (goes_of Try.func26 rfl rfl) (fun ρ w hW => sameInts_ok hW.has (xs := a2) (ys := b2) h_a2 h_b2) ?_)
    intro G2 v hle hΦ
    replace h_a2 := h_a2.mono hle
    replace h_b2 := h_b2.mono hle
    obtain ⟨r3, rfl, hR4⟩ := hΦ
    refine WL_execS htb 2 [4] [] ⟨[(4, (bB r3))], [], 2, [], []⟩ (by kernel_rfl) ?_
    refine WL_nil ?_
    refine WQ_code ?_
    refine WC_ret ?_
    exact WQ_done htb [(bB r3)] _ (.inl rfl) rfl (by kernel_rfl) (fun ρ w hW => ⟨r3, rfl, by rw [hR4, ← hR2, hb]; rfl⟩)
  · skip
    refine WK_keep [10, 3, 2] [1, 0] rfl rfl ?_
    refine WL_execS htb 7 [4] [] ⟨[(4, (bB false))], [], 2, [], []⟩ (by kernel_rfl) ?_
    refine WL_nil ?_
    refine WQ_code ?_
    refine WC_ret ?_
    exact WQ_done htb [(bB false)] _ (.inl rfl) rfl (by kernel_rfl) (fun ρ w hW => ⟨false, rfl, by rw [← hR2, hb]; rfl⟩)

theorem clone_ok {w : World} {G : Heap} (hG : Has w G) {xs : (List Int)} {A_xs : Option Addr} {n_xs : Nat} {c_xs : Nat} (h_xs : Sl (tInt .i64) G A_xs n_xs c_xs xs) (hb : n_xs ≤ 4000000000) :
    Calls Try.prog 45 #[(.slice A_xs n_xs c_xs)] w (Ret w G fun v G' => ∃ (A_ys : Option Addr) (n_ys : Nat) (c_ys : Nat), v = .slice A_ys n_ys c_ys ∧ (Sl (tInt .i64) G' A_ys n_ys c_ys xs) ∧ (True)) := by
  have lh_xs := h_xs.len'
  refine enter [(sS A_xs n_xs c_xs)] 8 Try.func45 rfl rfl rfl rfl hG ?_
  refine WC_seq (WC_region ?_)
  refine WL_execS htb 1 [0] [] ⟨[(0, (sS A_xs n_xs c_xs))], [], 0, [], []⟩ (by kernel_rfl) ?_
  refine WL_nil ?_
  refine WQ_code ?_
  refine WC_seq ?_
  refine WC_seq (WC_region ?_)
  refine WL_execS htb 1 [3, 0] [] ⟨[(3, (sS A_xs n_xs c_xs)), (0, (sS A_xs n_xs c_xs))], [], 0, [], []⟩ (by kernel_rfl) ?_
  obtain rfl | ⟨q1, rfl⟩ : A_xs = none ∨ ∃ q, A_xs = some q := by cases A_xs <;> simp
  · skip
    refine WL_execS htb 1 [4, 0] [] ⟨[(4, (bB true)), (0, (sS none n_xs c_xs))], [], 0, [], []⟩ (by kernel_rfl) ?_
    refine WL_nil ?_
    refine WQ_code ?_
    refine WC_cond (b := true) rfl (fun _ => ?_) (fun h => by cases h)
    refine WC_seq (WC_region ?_)
    refine WL_execS htb 1 [2] [] ⟨[(2, (sS none 0 0))], [], 0, [], []⟩ (by kernel_rfl) ?_
    refine WL_nil ?_
    refine WQ_code ?_
    refine WC_ret ?_
    refine WQ_then_ret ?_
    exact WQ_done htb [(sS none 0 0)] _ (.inl rfl) rfl (by kernel_rfl) (fun ρ w hW => ⟨_, _, _, rfl, (by rw [(h_xs.nil' rfl : xs = [])]; exact (Sl.none0 _ _)), trivial⟩)
  · skip
    refine WL_execS htb 1 [4, 0] [] ⟨[(4, (bB false)), (0, (sS (some q1) n_xs c_xs))], [], 0, [], []⟩ (by kernel_rfl) ?_
    refine WL_nil ?_
    refine WQ_code ?_
    refine WC_cond (b := false) rfl (fun h => by cases h) (fun _ => ?_)
    refine WC_skip ?_
    refine WQ_code ?_
    refine WC_seq (WC_region ?_)
    refine WL_execS htb 2 [6, 5] [0] ⟨[(6, (sS (some q1) n_xs c_xs)), (5, (.s 0 0 0))], [(0, (.cells 3 []))], 1, [], []⟩ (by kernel_rfl) ?_
    refine WK_lst 0 [] rfl (fun ρ => rfl) ?_
    have ho2 : OwnL (tInt .i64) G [] (([] : List Value).toArray) 0 := OwnL.lit (cs := []) .nil (by first | decide | simp [big])
    refine WL_op (WOp_append htb false 0 0 0 (some q1) n_xs 3 1 8 (by kernel_rfl) (by kernel_rfl) rfl rfl (tInt .i64) (xs := []) (ys := xs) ho2 rfl (fun h => by cases h) h_xs.row h_xs.len rfl (by decide) (by first | omega | (simp only [List.length_append, List.length_nil, List.length_drop, List.length_take, List.length_cons]; omega)) (by unfold big; first | omega | (simp only [List.length_append, List.length_nil, List.length_drop, List.length_take, List.length_cons]; omega)) (fun z3 arr4 cap5 hz6 ho7 => ?_))
    show WL _ _ _ _ _ _ ⟨[(7, (.ls z3 1 (([] ++ xs).length) cap5)), (6, (sS (some q1) n_xs c_xs)), (5, (.ls false 0 0 0))], [(1, (.lst z3 3 arr4))], 2, [], []⟩ _
    refine WL_execS htb 1 [2] [1] ⟨[(2, (.ls z3 1 (([] ++ xs).length) cap5))], [(1, (.lst z3 3 arr4))], 2, [], []⟩ (by kernel_rfl) ?_
    refine WL_nil ?_
    refine WQ_code ?_
    refine WC_ret ?_
    refine WK_freezeL 1 rfl rfl ?_
    intro bk9 G8 hle hbk9
    obtain ⟨A11, n12, c13, e14, hs10⟩ := OwnL.sl (n := ([] ++ xs).length) ho7 hle hz6 hbk9 rfl
    refine WK_env [(2, (sS A11 n12 c13))] (fun ρ => ⟨rfl, (by exact e14), trivial⟩) ?_
    have lhs10 := hs10.len'
    exact WQ_done htb [(sS A11 n12 c13)] _ (.inl rfl) rfl (by kernel_rfl) (fun ρ w hW => ⟨_, _, _, rfl, (by rw [((List.nil_append _).symm : xs = ([] ++ xs))]; exact hs10), trivial⟩)

end Go.Proofs.Ytbpajkjolhoflaa.Sym
