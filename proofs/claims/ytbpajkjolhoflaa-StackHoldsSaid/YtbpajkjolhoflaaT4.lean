/- Walks of functions that the laws of this seat reach, printed by a program of this session's. -/
import Derived.Test.YtbpajkjolhoflaaT3
set_option linter.unusedSimpArgs false
set_option linter.unusedVariables false
set_option maxHeartbeats 4000000
namespace Go.Proofs.Ytbpajkjolhoflaa.Sym
open Go Go.Proofs Go.RowKit
def dropS (p : List Int × List Int) : (List Int × List Int) × Bool :=
  match p with
  | (x :: a, y :: b) => if x = y ∧ 0 ≤ x then ((a, b), true) else (([], []), false)
  | _ => (([], []), false)
theorem dropS_no1 {a b : List Int} (h : (if ((b.length : Nat) : Int) < ((a.length : Nat) : Int) then ((b.length : Nat) : Int) else ((a.length : Nat) : Int)) = 0) : dropS (a, b) = (([], []), false) := by
  cases a with
  | nil => rfl
  | cons x a => cases b with
    | nil => rfl
    | cons y b => simp only [List.length_cons] at h; split at h <;> omega
theorem dropS_no2 {a b : List Int} {x y : Int} (h1 : a[0]? = some x) (h2 : b[0]? = some y) (h : x ≠ y) : dropS (a, b) = (([], []), false) := by
  cases a with
  | nil => rfl
  | cons x a => cases b with
    | nil => rfl
    | cons y b => simp at h1 h2; subst h1; subst h2; simp [dropS, h]
theorem dropS_no3 {a b : List Int} {x : Int} (h1 : a[0]? = some x) (h : x < 0) : dropS (a, b) = (([], []), false) := by
  cases a with
  | nil => rfl
  | cons x a => cases b with
    | nil => rfl
    | cons y b => simp at h1; subst h1; simp [dropS]; omega
theorem dropS_yes {a b : List Int} {x y z : Int} (h1 : a[0]? = some x) (h2 : b[0]? = some y) (h : x = y) (h3 : a[0]? = some z) (h4 : ¬ z < 0) : dropS (a, b) = ((a.drop 1, b.drop 1), true) := by
  cases a with
  | nil => simp at h1
  | cons x a => cases b with
    | nil => simp at h2
    | cons y b => simp at h1 h2 h3; subst h1; subst h2; subst h3; subst h; simp [dropS]; omega
theorem rest_ok {w : World} {G : Heap} (hG : Has w G) {xs : (List Int)} {A_xs : Option Addr} {n_xs : Nat} {c_xs : Nat} (h_xs : Sl (tInt .i64) G A_xs n_xs c_xs xs) (hb0 : 1 ≤ n_xs) (hb : n_xs ≤ 4000000000) :
    Calls Try.prog 41 #[(.slice A_xs n_xs c_xs)] w (Ret w G fun v G' => ∃ (A_ys : Option Addr) (n_ys : Nat) (c_ys : Nat), v = .slice A_ys n_ys c_ys ∧ (Sl (tInt .i64) G' A_ys n_ys c_ys (xs.drop 1)) ∧ (True)) := by
  have lh_xs := h_xs.len'
  refine enter [(sS A_xs n_xs c_xs)] 6 Try.func41 rfl rfl rfl rfl hG ?_
  refine WC_seq (WC_region ?_)
  refine WL_execS htb 1 [0] [] ⟨[(0, (sS A_xs n_xs c_xs))], [], 0, [], []⟩ (by kernel_rfl) ?_
  refine WL_nil ?_
  refine WQ_code ?_
  refine WC_seq (WC_region ?_)
  refine WL_execS htb 1 [3] [] ⟨[(3, (sS A_xs n_xs c_xs))], [], 0, [], []⟩ (by kernel_rfl) ?_
  obtain ⟨A1, hA2⟩ : ∃ A, sliceAddr A_xs c_xs 1 1 = A := ⟨_, rfl⟩
  have hs3 := h_xs.from 1 (by omega) hA2
  refine WL_op (WOp_sl htb A_xs n_xs c_xs 1 n_xs 1 (by kernel_rfl) (by omega) (by omega) hA2 ?_)
  have lhs3 := hs3.len'
  refine WL_op (WOp_call 45 [(sS A1 (n_xs - 1) (c_xs - 1))] (by kernel_rfl) (goes_of Try.func45 rfl rfl) (fun ρ w hW => clone_ok hW.has (xs := (xs.drop 1)) hs3 (by omega)) ?_)
  intro G1 v hle hΦ
  replace hs3 := hs3.mono hle
  obtain ⟨A_r4, n_r4, c_r4, rfl, h_r4, hR5⟩ := hΦ
  have lh_r4 := h_r4.len'
  refine WL_execS htb 1 [2] [] ⟨[(2, (sS A_r4 n_r4 c_r4))], [], 0, [], []⟩ (by kernel_rfl) ?_
  refine WL_nil ?_
  refine WQ_code ?_
  refine WC_ret ?_
  exact WQ_done htb [(sS A_r4 n_r4 c_r4)] _ (.inl rfl) rfl (by kernel_rfl) (fun ρ w hW => ⟨_, _, _, rfl, h_r4, trivial⟩)

theorem drop_ok {w : World} {G : Heap} (hG : Has w G) {a : (List Int)} {A_a : Option Addr} {n_a : Nat} {c_a : Nat} {b : (List Int)} {A_b : Option Addr} {n_b : Nat} {c_b : Nat} (h_a : Sl (tInt .i64) G A_a n_a c_a a) (h_b : Sl (tInt .i64) G A_b n_b c_b b) (hb1 : n_a ≤ 4000000000) (hb2 : n_b ≤ 4000000000) :
    Calls Try.prog 13 #[(.agg #[.slice A_a n_a c_a, .slice A_b n_b c_b])] w (Ret w G fun v G' => ∃ (r1 : (List Int)) (A_r1 : Option Addr) (n_r1 : Nat) (c_r1 : Nat) (r2 : (List Int)) (A_r2 : Option Addr) (n_r2 : Nat) (c_r2 : Nat) (ok : Bool), v = .tuple #[.agg #[.slice A_r1 n_r1 c_r1, .slice A_r2 n_r2 c_r2], .bool ok] ∧ (Sl (tInt .i64) G' A_r1 n_r1 c_r1 r1) ∧ (Sl (tInt .i64) G' A_r2 n_r2 c_r2 r2) ∧ (((r1, r2), ok) = dropS (a, b))) := by
  have lh_a := h_a.len'
  have lh_b := h_b.len'
  refine enter [(.agg [(sS A_a n_a c_a), (sS A_b n_b c_b)])] 38 Try.func13 rfl rfl rfl rfl hG ?_
  refine WC_seq (WC_region ?_)
  refine WL_execS htb 3 [2, 1] [1, 0] ⟨[(2, (.p 1 0)), (1, (.p 0 0))], [(1, (.cells 24 [(sS none 0 0), (sS none 0 0)])), (0, (.cells 24 [(sS A_a n_a c_a), (sS A_b n_b c_b)]))], 2, [], []⟩ (by kernel_rfl) ?_
  refine WL_nil ?_
  refine WQ_code ?_
  refine WC_seq ?_
  refine WK_freeze 0 rfl rfl rfl rfl ?_
  intro bk2 G1 hle hbk2
  replace h_a := h_a.mono hle
  replace h_b := h_b.mono hle
  have hz := FZ.cons (h := 0) hbk2 rfl (FZ.nil _)
  refine WC_seq (WC_draw mixed ?_)
  refine WD_takeL htb rfl (fun _ _ _ _ _ h => h) (Le.refl _) [0, 1, 2, 3, 4, 5, 6, 7, 8] (fuel := 17) (listed' := bts 26 511) (S' := ⟨[(12, (bB (((if (((n_b : Nat) : Int) : Int) < ((n_a : Nat) : Int) then ((n_b : Nat) : Int) else ((n_a : Nat) : Int)) : Int) == 0))), (11, (bB (((if (((n_b : Nat) : Int) : Int) < ((n_a : Nat) : Int) then ((n_b : Nat) : Int) else ((n_a : Nat) : Int)) : Int) == 0))), (10, (iI (if (((n_b : Nat) : Int) : Int) < ((n_a : Nat) : Int) then ((n_b : Nat) : Int) else ((n_a : Nat) : Int)))), (9, (iN n_b)), (8, (sS A_b n_b c_b)), (7, (.p 0 1)), (6, (iN n_a)), (5, (sS A_a n_a c_a)), (4, (.p 0 0)), (2, (.p 1 0)), (1, (.p 0 0))], [(1, (.cells 24 [(sS none 0 0), (sS none 0 0)]))], 2, [], [(0, bk2, (.cells 24 [(sS A_a n_a c_a), (sS A_b n_b c_b)]))]⟩) hz (by kernel_rfl) rfl ?_
  refine WK_split 12 (((if (((n_b : Nat) : Int) : Int) < ((n_a : Nat) : Int) then ((n_b : Nat) : Int) else ((n_a : Nat) : Int)) : Int) == 0) rfl (fun hb => ?_) (fun hb => ?_)
  · replace hb := eq_of_beq hb
    refine WK_keep [12, 11, 10, 9, 8, 7, 6, 5, 4, 2, 1] [1] rfl rfl ?_
    refine WD_takeL htb rfl (fun _ _ _ _ _ h => h) (Le.refl _) [9, 10, 11, 12, 13, 14, 15, 16, 17, 18, 19, 20, 21, 22, 23, 24, 25] (fuel := 0) (listed' := bts 26 67108863) (S' := ⟨[(29, (bB true)), (28, (.v (undef))), (27, (.v (undef))), (26, (.v (undef))), (25, (.v (undef))), (24, (.v (undef))), (23, (bB true)), (22, (bB true)), (21, (.v (undef))), (20, (.v (undef))), (19, (.v (undef))), (18, (.v (undef))), (17, (.v (undef))), (16, (.v (undef))), (15, (.v (undef))), (14, (.v (undef))), (13, (.v (undef))), (12, (bB true)), (11, (bB (((if (((n_b : Nat) : Int) : Int) < ((n_a : Nat) : Int) then ((n_b : Nat) : Int) else ((n_a : Nat) : Int)) : Int) == 0))), (10, (iI (if (((n_b : Nat) : Int) : Int) < ((n_a : Nat) : Int) then ((n_b : Nat) : Int) else ((n_a : Nat) : Int)))), (9, (iN n_b)), (8, (sS A_b n_b c_b)), (7, (.p 0 1)), (6, (iN n_a)), (5, (sS A_a n_a c_a)), (4, (.p 0 0)), (2, (.p 1 0)), (1, (.p 0 0))], [(1, (.cells 24 [(sS none 0 0), (sS none 0 0)]))], 2, [], [(0, bk2, (.cells 24 [(sS A_a n_a c_a), (sS A_b n_b c_b)]))]⟩) hz (by kernel_rfl) rfl ?_
    refine WD_done (by decide +kernel) ?_
    refine WK_keep [29, 2, 1] [1] rfl rfl ?_
    refine WQ_code ?_
    refine WC_cond (b := true) rfl (fun _ => ?_) (fun h => by cases h)
    refine WC_seq (WC_region ?_)
    refine WL_execS htb 3 [3, 2] [1] ⟨[(3, (bB false)), (2, (.p 1 0))], [(1, (.cells 24 [(sS none 0 0), (sS none 0 0)]))], 2, [], [(0, bk2, (.cells 24 [(sS A_a n_a c_a), (sS A_b n_b c_b)]))]⟩ (by kernel_rfl) ?_
    refine WL_nil ?_
    refine WQ_code ?_
    refine WC_ret ?_
    refine WQ_then_ret ?_
    exact WQ_done htb [(.agg [(sS none 0 0), (sS none 0 0)]), (bB false)] _ (.inl rfl) rfl (by kernel_rfl) (fun ρ w hW => ⟨[], _, _, _, [], _, _, _, false, rfl, (Sl.none0 _ _), (Sl.none0 _ _), (dropS_no1 (by omega)).symm⟩)
  · replace hb := ne_of_beq_false hb
    refine WK_keep [12, 11, 10, 9, 8, 7, 6, 5, 4, 2, 1] [1] rfl rfl ?_
    have ha : 0 < n_a ∧ 0 < n_b := by split at hb <;> omega
    refine WD_takeL htb rfl (fun _ _ _ _ _ h => h) (Le.refl _) [9, 10, 13, 14] (fuel := 13) (listed' := bts 26 26623) (S' := ⟨[(18, (sS A_b n_b c_b)), (17, (.p 0 1)), (14, (sS A_a n_a c_a)), (13, (.p 0 0)), (12, (bB false)), (11, (bB (((if (((n_b : Nat) : Int) : Int) < ((n_a : Nat) : Int) then ((n_b : Nat) : Int) else ((n_a : Nat) : Int)) : Int) == 0))), (10, (iI (if (((n_b : Nat) : Int) : Int) < ((n_a : Nat) : Int) then ((n_b : Nat) : Int) else ((n_a : Nat) : Int)))), (9, (iN n_b)), (8, (sS A_b n_b c_b)), (7, (.p 0 1)), (6, (iN n_a)), (5, (sS A_a n_a c_a)), (4, (.p 0 0)), (2, (.p 1 0)), (1, (.p 0 0))], [(1, (.cells 24 [(sS none 0 0), (sS none 0 0)]))], 2, [], [(0, bk2, (.cells 24 [(sS A_a n_a c_a), (sS A_b n_b c_b)]))]⟩) hz (by kernel_rfl) rfl ?_
    obtain ⟨q3, rfl⟩ := h_a.ptr (by omega)
    obtain ⟨x6, _, hx4, ⟨rfl, hn7⟩, at5⟩ := h_a.get 0 (by omega)
    have bdhn7 : -9223372036854775808 ≤ x6 ∧ x6 ≤ 9223372036854775807 := bd_of hn7
    replace at5 : At G1 (q3.add (0 * 1)) [.int .i64 x6] := at5
    refine WD_idx htb 11 (by rfl) rfl (by decide +kernel) (fun _ _ _ _ _ h => h) (Le.refl _) q3 n_a 0 1 (by kernel_rfl) (by omega) (by omega) ?_
    refine WD_ld htb 12 (by rfl) rfl (by decide +kernel) (fun _ _ _ _ _ h => h) (Le.refl _) (q3.add (0 * 1)) false 1 [.int .i64 x6] (by kernel_rfl) at5 rfl (by decide) ?_
    obtain ⟨q8, rfl⟩ := h_b.ptr (by omega)
    obtain ⟨x11, _, hx9, ⟨rfl, hn12⟩, at10⟩ := h_b.get 0 (by omega)
    have bdhn12 : -9223372036854775808 ≤ x11 ∧ x11 ≤ 9223372036854775807 := bd_of hn12
    replace at10 : At G1 (q8.add (0 * 1)) [.int .i64 x11] := at10
    refine WD_idx htb 15 (by rfl) rfl (by decide +kernel) (fun _ _ _ _ _ h => h) (Le.refl _) q8 n_b 0 1 (by kernel_rfl) (by omega) (by omega) ?_
    refine WD_ld htb 16 (by rfl) rfl (by decide +kernel) (fun _ _ _ _ _ h => h) (Le.refl _) (q8.add (0 * 1)) false 1 [.int .i64 x11] (by kernel_rfl) at10 rfl (by decide) ?_
    refine WD_takeL htb rfl (fun _ _ _ _ _ h => h) (Le.refl _) [17, 18, 19] (fuel := 6) (listed' := bts 26 1048575) (S' := ⟨[(23, (bB ((x6 : Int) != x11))), (22, (bB ((x6 : Int) != x11))), (21, (bB ((x6 : Int) != x11))), (20, (iI x11)), (19, (.v (.pointer (some (q8.add (0 * 1)))))), (16, (iI x6)), (15, (.v (.pointer (some (q3.add (0 * 1)))))), (18, (sS (some q8) n_b c_b)), (17, (.p 0 1)), (14, (sS (some q3) n_a c_a)), (13, (.p 0 0)), (12, (bB false)), (11, (bB (((if (((n_b : Nat) : Int) : Int) < ((n_a : Nat) : Int) then ((n_b : Nat) : Int) else ((n_a : Nat) : Int)) : Int) == 0))), (10, (iI (if (((n_b : Nat) : Int) : Int) < ((n_a : Nat) : Int) then ((n_b : Nat) : Int) else ((n_a : Nat) : Int)))), (9, (iN n_b)), (8, (sS (some q8) n_b c_b)), (7, (.p 0 1)), (6, (iN n_a)), (5, (sS (some q3) n_a c_a)), (4, (.p 0 0)), (2, (.p 1 0)), (1, (.p 0 0))], [(1, (.cells 24 [(sS none 0 0), (sS none 0 0)]))], 2, [], [(0, bk2, (.cells 24 [(sS (some q3) n_a c_a), (sS (some q8) n_b c_b)]))]⟩) hz (by kernel_rfl) rfl ?_
    refine WK_split 23 ((x6 : Int) != x11) rfl (fun hb => ?_) (fun hb => ?_)
    · replace hb := bne_iff_ne.1 hb
      refine WK_keep [23, 22, 21, 20, 19, 16, 15, 18, 17, 14, 13, 12, 11, 10, 9, 8, 7, 6, 5, 4, 2, 1] [1] rfl rfl ?_
      refine WD_takeL htb rfl (fun _ _ _ _ _ h => h) (Le.refl _) [20, 21, 22, 23, 24, 25] (fuel := 0) (listed' := bts 26 67108863) (S' := ⟨[(29, (bB true)), (28, (.v (undef))), (27, (.v (undef))), (26, (.v (undef))), (25, (.v (undef))), (24, (.v (undef))), (23, (bB true)), (22, (bB ((x6 : Int) != x11))), (21, (bB ((x6 : Int) != x11))), (20, (iI x11)), (19, (.v (.pointer (some (q8.add (0 * 1)))))), (16, (iI x6)), (15, (.v (.pointer (some (q3.add (0 * 1)))))), (18, (sS (some q8) n_b c_b)), (17, (.p 0 1)), (14, (sS (some q3) n_a c_a)), (13, (.p 0 0)), (12, (bB false)), (11, (bB (((if (((n_b : Nat) : Int) : Int) < ((n_a : Nat) : Int) then ((n_b : Nat) : Int) else ((n_a : Nat) : Int)) : Int) == 0))), (10, (iI (if (((n_b : Nat) : Int) : Int) < ((n_a : Nat) : Int) then ((n_b : Nat) : Int) else ((n_a : Nat) : Int)))), (9, (iN n_b)), (8, (sS (some q8) n_b c_b)), (7, (.p 0 1)), (6, (iN n_a)), (5, (sS (some q3) n_a c_a)), (4, (.p 0 0)), (2, (.p 1 0)), (1, (.p 0 0))], [(1, (.cells 24 [(sS none 0 0), (sS none 0 0)]))], 2, [], [(0, bk2, (.cells 24 [(sS (some q3) n_a c_a), (sS (some q8) n_b c_b)]))]⟩) hz (by kernel_rfl) rfl ?_
      refine WD_done (by decide +kernel) ?_
      refine WK_keep [29, 2, 1] [1] rfl rfl ?_
      refine WQ_code ?_
      refine WC_cond (b := true) rfl (fun _ => ?_) (fun h => by cases h)
      refine WC_seq (WC_region ?_)
      refine WL_execS htb 3 [3, 2] [1] ⟨[(3, (bB false)), (2, (.p 1 0))], [(1, (.cells 24 [(sS none 0 0), (sS none 0 0)]))], 2, [], [(0, bk2, (.cells 24 [(sS (some q3) n_a c_a), (sS (some q8) n_b c_b)]))]⟩ (by kernel_rfl) ?_
      refine WL_nil ?_
      refine WQ_code ?_
      refine WC_ret ?_
      refine WQ_then_ret ?_
      exact WQ_done htb [(.agg [(sS none 0 0), (sS none 0 0)]), (bB false)] _ (.inl rfl) rfl (by kernel_rfl) (fun ρ w hW => ⟨[], _, _, _, [], _, _, _, false, rfl, (Sl.none0 _ _), (Sl.none0 _ _), (dropS_no2 hx4 hx9 hb).symm⟩)
    · replace hb := (bne_eq_false_iff_eq.1) hb
      refine WK_keep [23, 22, 21, 20, 19, 16, 15, 18, 17, 14, 13, 12, 11, 10, 9, 8, 7, 6, 5, 4, 2, 1] [1] rfl rfl ?_
      refine WD_takeL htb rfl (fun _ _ _ _ _ h => h) (Le.refl _) [20, 21] (fuel := 4) (listed' := bts 26 4194303) (S' := ⟨[(25, (sS (some q3) n_a c_a)), (24, (.p 0 0)), (23, (bB false)), (22, (bB ((x6 : Int) != x11))), (21, (bB ((x6 : Int) != x11))), (20, (iI x11)), (19, (.v (.pointer (some (q8.add (0 * 1)))))), (16, (iI x6)), (15, (.v (.pointer (some (q3.add (0 * 1)))))), (18, (sS (some q8) n_b c_b)), (17, (.p 0 1)), (14, (sS (some q3) n_a c_a)), (13, (.p 0 0)), (12, (bB false)), (11, (bB (((if (((n_b : Nat) : Int) : Int) < ((n_a : Nat) : Int) then ((n_b : Nat) : Int) else ((n_a : Nat) : Int)) : Int) == 0))), (10, (iI (if (((n_b : Nat) : Int) : Int) < ((n_a : Nat) : Int) then ((n_b : Nat) : Int) else ((n_a : Nat) : Int)))), (9, (iN n_b)), (8, (sS (some q8) n_b c_b)), (7, (.p 0 1)), (6, (iN n_a)), (5, (sS (some q3) n_a c_a)), (4, (.p 0 0)), (2, (.p 1 0)), (1, (.p 0 0))], [(1, (.cells 24 [(sS none 0 0), (sS none 0 0)]))], 2, [], [(0, bk2, (.cells 24 [(sS (some q3) n_a c_a), (sS (some q8) n_b c_b)]))]⟩) hz (by kernel_rfl) rfl ?_
      obtain ⟨_, ⟨rfl, hn15⟩, at14⟩ := h_a.getk hx4
      have bdhn15 : -9223372036854775808 ≤ x6 ∧ x6 ≤ 9223372036854775807 := bd_of hn15
      replace at14 : At G1 (q3.add (0 * 1)) [.int .i64 x6] := at14
      refine WD_idx htb 22 (by rfl) rfl (by decide +kernel) (fun _ _ _ _ _ h => h) (Le.refl _) q3 n_a 0 1 (by kernel_rfl) (by omega) (by omega) ?_
      refine WD_ld htb 23 (by rfl) rfl (by decide +kernel) (fun _ _ _ _ _ h => h) (Le.refl _) (q3.add (0 * 1)) false 1 [.int .i64 x6] (by kernel_rfl) at14 rfl (by decide) ?_
      refine WD_takeL htb rfl (fun _ _ _ _ _ h => h) (Le.refl _) [24, 25] (fuel := 0) (listed' := bts 26 67108863) (S' := ⟨[(29, (bB (decide ((x6 : Int) < 0)))), (28, (bB (decide ((x6 : Int) < 0)))), (27, (iI x6)), (26, (.v (.pointer (some (q3.add (0 * 1)))))), (25, (sS (some q3) n_a c_a)), (24, (.p 0 0)), (23, (bB false)), (22, (bB ((x6 : Int) != x11))), (21, (bB ((x6 : Int) != x11))), (20, (iI x11)), (19, (.v (.pointer (some (q8.add (0 * 1)))))), (16, (iI x6)), (15, (.v (.pointer (some (q3.add (0 * 1)))))), (18, (sS (some q8) n_b c_b)), (17, (.p 0 1)), (14, (sS (some q3) n_a c_a)), (13, (.p 0 0)), (12, (bB false)), (11, (bB (((if (((n_b : Nat) : Int) : Int) < ((n_a : Nat) : Int) then ((n_b : Nat) : Int) else ((n_a : Nat) : Int)) : Int) == 0))), (10, (iI (if (((n_b : Nat) : Int) : Int) < ((n_a : Nat) : Int) then ((n_b : Nat) : Int) else ((n_a : Nat) : Int)))), (9, (iN n_b)), (8, (sS (some q8) n_b c_b)), (7, (.p 0 1)), (6, (iN n_a)), (5, (sS (some q3) n_a c_a)), (4, (.p 0 0)), (2, (.p 1 0)), (1, (.p 0 0))], [(1, (.cells 24 [(sS none 0 0), (sS none 0 0)]))], 2, [], [(0, bk2, (.cells 24 [(sS (some q3) n_a c_a), (sS (some q8) n_b c_b)]))]⟩) hz (by kernel_rfl) rfl ?_
      refine WD_done (by decide +kernel) ?_
      refine WK_keep [29, 2, 1] [1] rfl rfl ?_
      refine WQ_code ?_
      refine WC_cond (b := (decide ((x6 : Int) < 0))) rfl (fun hc => ?_) (fun hc => ?_)
      · replace hc := of_decide_eq_true hc
        refine WC_seq (WC_region ?_)
        refine WL_execS htb 3 [3, 2] [1] ⟨[(3, (bB false)), (2, (.p 1 0))], [(1, (.cells 24 [(sS none 0 0), (sS none 0 0)]))], 2, [], [(0, bk2, (.cells 24 [(sS (some q3) n_a c_a), (sS (some q8) n_b c_b)]))]⟩ (by kernel_rfl) ?_
        refine WL_nil ?_
        refine WQ_code ?_
        refine WC_ret ?_
        refine WQ_then_ret ?_
        exact WQ_done htb [(.agg [(sS none 0 0), (sS none 0 0)]), (bB false)] _ (.inl rfl) rfl (by kernel_rfl) (fun ρ w hW => ⟨[], _, _, _, [], _, _, _, false, rfl, (Sl.none0 _ _), (Sl.none0 _ _), (dropS_no3 hx4 hc).symm⟩)
      · replace hc := of_decide_eq_false hc
        refine WC_skip ?_
        refine WQ_code ?_
        refine WK_keep [2, 1] [1] rfl rfl ?_
        refine WC_seq (WC_draw mixed ?_)
        refine WD_takeL htb rfl (fun _ _ _ _ _ h => h) (Le.refl _) [0, 1, 3, 4] (fuel := 5) (listed' := bts 9 27) (S' := ⟨[(35, (sS (some q8) n_b c_b)), (34, (.p 0 1)), (32, (sS (some q3) n_a c_a)), (31, (.p 0 0)), (2, (.p 1 0)), (1, (.p 0 0))], [(1, (.cells 24 [(sS none 0 0), (sS none 0 0)]))], 2, [], [(0, bk2, (.cells 24 [(sS (some q3) n_a c_a), (sS (some q8) n_b c_b)]))]⟩) hz (by kernel_rfl) rfl ?_
        refine WD_one 2 (by rfl) (by decide +kernel) (WOp_call 41 [(sS (some q3) n_a c_a)] (by kernel_rfl) (goes_of Try.func41 rfl rfl) (fun ρ w hW => rest_ok hW.has (xs := a) h_a (by omega) (by omega)) ?_)
        intro G1 v hle hΦ
        replace h_a := h_a.mono hle
        replace h_b := h_b.mono hle
        replace at5 := at5.mono hle
        replace hz := hz.mono hle
        obtain ⟨A_r16, n_r16, c_r16, rfl, h_r16, hR17⟩ := hΦ
        have lh_r16 := h_r16.len'
        refine WD_on hle ?_
        refine WD_up hle ?_
        refine WD_one 5 (by rfl) (by decide +kernel) (WOp_call 41 [(sS (some q8) n_b c_b)] (by kernel_rfl) (goes_of Try.func41 rfl rfl) (fun ρ w hW => rest_ok hW.has (xs := b) h_b (by omega) (by omega)) ?_)
        intro G2 v hle hΦ
        replace h_a := h_a.mono hle
        replace h_b := h_b.mono hle
        replace at5 := at5.mono hle
        replace h_r16 := h_r16.mono hle
        replace hz := hz.mono hle
        obtain ⟨A_r18, n_r18, c_r18, rfl, h_r18, hR19⟩ := hΦ
        have lh_r18 := h_r18.len'
        refine WD_on hle ?_
        refine WD_up hle ?_
        refine WD_takeL htb rfl (fun _ _ _ _ _ h => h) (Le.refl _) [6] (fuel := 2) (listed' := bts 9 127) (S' := ⟨[(37, (.agg [(sS A_r16 n_r16 c_r16), (sS A_r18 n_r18 c_r18)])), (36, (sS A_r18 n_r18 c_r18)), (33, (sS A_r16 n_r16 c_r16)), (35, (sS (some q8) n_b c_b)), (34, (.p 0 1)), (32, (sS (some q3) n_a c_a)), (31, (.p 0 0)), (2, (.p 1 0)), (1, (.p 0 0))], [(1, (.cells 24 [(sS none 0 0), (sS none 0 0)]))], 2, [], [(0, bk2, (.cells 24 [(sS (some q3) n_a c_a), (sS (some q8) n_b c_b)]))]⟩) hz (by kernel_rfl) rfl ?_
        refine WD_one 7 (by rfl) (by decide +kernel) (WOp_step htb (S' := ⟨[(37, (.agg [(sS A_r16 n_r16 c_r16), (sS A_r18 n_r18 c_r18)])), (36, (sS A_r18 n_r18 c_r18)), (33, (sS A_r16 n_r16 c_r16)), (35, (sS (some q8) n_b c_b)), (34, (.p 0 1)), (32, (sS (some q3) n_a c_a)), (31, (.p 0 0)), (2, (.p 1 0)), (1, (.p 0 0))], [(1, (.cells 24 [(sS A_r16 n_r16 c_r16), (sS A_r18 n_r18 c_r18)]))], 2, [], [(0, bk2, (.cells 24 [(sS (some q3) n_a c_a), (sS (some q8) n_b c_b)]))]⟩) (by kernel_rfl) (WD_on (Le.refl _) ?_))
        refine WD_takeL htb rfl (fun _ _ _ _ _ h => h) (Le.refl _) [8] (fuel := 0) (listed' := bts 9 511) (S' := ⟨[(3, (bB true)), (37, (.agg [(sS A_r16 n_r16 c_r16), (sS A_r18 n_r18 c_r18)])), (36, (sS A_r18 n_r18 c_r18)), (33, (sS A_r16 n_r16 c_r16)), (35, (sS (some q8) n_b c_b)), (34, (.p 0 1)), (32, (sS (some q3) n_a c_a)), (31, (.p 0 0)), (2, (.p 1 0)), (1, (.p 0 0))], [(1, (.cells 24 [(sS A_r16 n_r16 c_r16), (sS A_r18 n_r18 c_r18)]))], 2, [], [(0, bk2, (.cells 24 [(sS (some q3) n_a c_a), (sS (some q8) n_b c_b)]))]⟩) hz (by kernel_rfl) rfl ?_
        refine WD_done (by decide +kernel) ?_
        refine WK_keep [3, 2] [1] rfl rfl ?_
        refine WQ_code ?_
        refine WC_ret ?_
        exact WQ_done htb [(.agg [(sS A_r16 n_r16 c_r16), (sS A_r18 n_r18 c_r18)]), (bB true)] _ (.inl rfl) rfl (by kernel_rfl) (fun ρ w hW => ⟨(a.drop 1), _, _, _, (b.drop 1), _, _, _, true, rfl, h_r16, h_r18, (dropS_yes hx4 hx9 hb hx4 hc).symm⟩)

end Go.Proofs.Ytbpajkjolhoflaa.Sym
