/- Walks of functions that the laws of this seat reach, printed by a program of this session's. -/
import Derived.Test.YtbpajkjolhoflaaT11
set_option linter.unusedSimpArgs false
set_option linter.unusedVariables false
set_option maxHeartbeats 4000000
namespace Go.Proofs.Ytbpajkjolhoflaa.Sym
open Go Go.Proofs Go.RowKit

theorem dropS_nil {a b : List Int} (h : a.length = 0 ∨ b.length = 0) : dropS (a, b) = (([], []), false) := by
  cases a with
  | nil => rfl
  | cons x a => cases b with
    | nil => rfl
    | cons y b => simp at h
theorem splitS_nil {a b : List Int} (h : a.length = 0 ∨ b.length = 0) : splitS (a, b) = (([], []), ([], []), false) := by
  cases a with
  | nil => rfl
  | cons x a => cases b with
    | nil => rfl
    | cons y b => simp at h
theorem splitS_yes' {a b : List Int} (h1 : 0 < a.length) (h2 : 0 < b.length) : splitS (a, b) = (((a.take 1).drop 0, (b.take 1).drop 0), (a.drop 1, b.drop 1), true) := by
  cases a with
  | nil => simp at h1
  | cons x a => cases b with
    | nil => simp at h2
    | cons y b => simp [splitS]
def ruleS (rs : List (List (List Int))) (xs : List Int) : Int × Bool :=
  match xs with
  | [] => (0, false)
  | x :: _ => if 0 ≤ x then (0, false) else if ((rs.length : Nat) : Int) ≤ - x - 1 then (0, false) else (- x - 1, true)
theorem ruleS_no1 {rs : List (List (List Int))} {xs : List Int} (h : xs.length = 0) : ruleS rs xs = (0, false) := by
  cases xs with
  | nil => rfl
  | cons x l => simp at h
theorem ruleS_no2 {rs : List (List (List Int))} {xs : List Int} {x : Int} (h : xs[0]? = some x) (h1 : x ≥ 0) : ruleS rs xs = (0, false) := by
  cases xs with
  | nil => rfl
  | cons y l => simp at h; subst h; simp only [ruleS, if_pos h1]
theorem ruleS_no3 {rs : List (List (List Int))} {xs : List Int} {x : Int} (h : xs[0]? = some x) (h1 : x < 0) (h2 : ((rs.length : Nat) : Int) ≤ - x - 1) : ruleS rs xs = (0, false) := by
  cases xs with
  | nil => rfl
  | cons y l => simp at h; subst h; simp only [ruleS, if_pos h2, ite_self]
theorem ruleS_yes {rs : List (List (List Int))} {xs : List Int} {x z : Int} (h : xs[0]? = some x) (h1 : x < 0) (hz : z = - x - 1) (h2 : ¬ ((rs.length : Nat) : Int) ≤ - x - 1) : ruleS rs xs = (z, true) := by
  cases xs with
  | nil => simp at h
  | cons y l => simp at h; subst h; subst hz; simp only [ruleS, if_neg h2, if_neg (show ¬ 0 ≤ y by omega)]
theorem rdrop_ok {w : World} {G : Heap} (hG : Has w G) {a : (List Int)} {A_a : Option Addr} {n_a : Nat} {c_a : Nat} {b : (List Int)} {A_b : Option Addr} {n_b : Nat} {c_b : Nat} (h_a : Sl (tInt .i64) G A_a n_a c_a a) (h_b : Sl (tInt .i64) G A_b n_b c_b b) :
    Calls Try.prog 17 #[(.agg #[.slice A_a n_a c_a, .slice A_b n_b c_b])] w (Ret w G fun v G' => ∃ (r1 : (List Int)) (A_r1 : Option Addr) (n_r1 : Nat) (c_r1 : Nat) (r2 : (List Int)) (A_r2 : Option Addr) (n_r2 : Nat) (c_r2 : Nat) (ok : Bool), v = .tuple #[.agg #[.slice A_r1 n_r1 c_r1, .slice A_r2 n_r2 c_r2], .bool ok] ∧ (Sl (tInt .i64) G' A_r1 n_r1 c_r1 r1) ∧ (Sl (tInt .i64) G' A_r2 n_r2 c_r2 r2) ∧ (((r1, r2), ok) = dropS (a, b))) := by
  have lh_a := h_a.len'
  have lh_b := h_b.len'
  refine enter [(.agg [(.v (.slice A_a n_a c_a)), (.v (.slice A_b n_b c_b))])] 40 Try.func17 rfl rfl rfl rfl hG ?_
  refine WC_seq (WC_region ?_)
  refine WL_execS htb 3 [3, 2, 1] [1, 0] ⟨[(3, (.v (.bool false))), (2, (.p 1 0)), (1, (.p 0 0))], [(1, (.cells 24 [(.v (.slice none 0 0)), (.v (.slice none 0 0))])), (0, (.cells 24 [(.v (.slice A_a n_a c_a)), (.v (.slice A_b n_b c_b))]))], 2, [], []⟩ (by kernel_rfl) ?_
  refine WL_nil ?_
  refine WQ_code ?_
  refine WC_seq ?_
  refine WK_freeze 0 rfl rfl rfl rfl ?_
  intro bk2 G1 hle hbk2
  replace h_a := h_a.mono hle
  replace h_b := h_b.mono hle
  have hz := FZ.cons (h := 0) hbk2 rfl (FZ.nil _)
  refine WC_seq (WC_draw mixed ?_)
  refine WD_takeL htb rfl (fun _ _ _ _ _ h => h) (Le.refl _) [0, 1, 2, 3, 4] (fuel := 23) (listed' := #[true, true, true, true, true, false, false, false, false, false, false, false, false, false, false, false, false, false, false, false, false, false, false, false, false, false, false, false]) (S' := ⟨[(8, (.v (.bool ((((n_a : Nat) : Int) : Int) == 0)))), (7, (.v (.bool ((((n_a : Nat) : Int) : Int) == 0)))), (6, (.v (.int .i64 ((n_a : Nat) : Int)))), (5, (.v (.slice A_a n_a c_a))), (4, (.p 0 0)), (3, (.v (.bool false))), (2, (.p 1 0)), (1, (.p 0 0))], [(1, (.cells 24 [(.v (.slice none 0 0)), (.v (.slice none 0 0))]))], 2, [], [(0, bk2, (.cells 24 [(.v (.slice A_a n_a c_a)), (.v (.slice A_b n_b c_b))]))]⟩) hz (by kernel_rfl) rfl ?_
  refine WK_split 8 ((((n_a : Nat) : Int) : Int) == 0) rfl (fun hb0 => ?_) (fun hb0 => ?_)
  · replace hb0 := eq_of_beq hb0
    refine WK_keep [8, 7, 6, 5, 4, 3, 2, 1] [1] rfl rfl ?_
    refine WD_takeL htb rfl (fun _ _ _ _ _ h => h) (Le.refl _) [5, 6, 7, 8, 9, 10, 11, 12, 13, 14, 15, 16, 17, 18, 19, 20, 21, 22, 23, 24, 25, 26, 27] (fuel := 0) (listed' := #[true, true, true, true, true, true, true, true, true, true, true, true, true, true, true, true, true, true, true, true, true, true, true, true, true, true, true, true]) (S' := ⟨[(31, (.v (.bool true))), (30, (.v (undef))), (29, (.v (undef))), (28, (.v (undef))), (27, (.v (undef))), (26, (.v (undef))), (25, (.v (undef))), (24, (.v (undef))), (23, (.v (undef))), (22, (.v (undef))), (21, (.v (.bool true))), (20, (.v (.bool true))), (19, (.v (undef))), (18, (.v (undef))), (17, (.v (undef))), (16, (.v (undef))), (15, (.v (undef))), (14, (.v (.bool true))), (13, (.v (.bool true))), (12, (.v (undef))), (11, (.v (undef))), (10, (.v (undef))), (9, (.v (undef))), (8, (.v (.bool true))), (7, (.v (.bool ((((n_a : Nat) : Int) : Int) == 0)))), (6, (.v (.int .i64 ((n_a : Nat) : Int)))), (5, (.v (.slice A_a n_a c_a))), (4, (.p 0 0)), (3, (.v (.bool false))), (2, (.p 1 0)), (1, (.p 0 0))], [(1, (.cells 24 [(.v (.slice none 0 0)), (.v (.slice none 0 0))]))], 2, [], [(0, bk2, (.cells 24 [(.v (.slice A_a n_a c_a)), (.v (.slice A_b n_b c_b))]))]⟩) hz (by kernel_rfl) rfl ?_
    refine WD_done (by decide +kernel) ?_
    refine WK_keep [31, 3, 2, 1] [1] rfl rfl ?_
    refine WQ_code ?_
    refine WC_cond (b := true) rfl (fun _ => ?_) (fun h => by cases h)
    refine WC_seq (WC_region ?_)
    refine WL_execS htb 3 [3, 2, 1] [1] ⟨[(3, (.v (.bool false))), (2, (.p 1 0)), (1, (.p 0 0))], [(1, (.cells 24 [(.v (.slice none 0 0)), (.v (.slice none 0 0))]))], 2, [], [(0, bk2, (.cells 24 [(.v (.slice A_a n_a c_a)), (.v (.slice A_b n_b c_b))]))]⟩ (by kernel_rfl) ?_
    refine WL_nil ?_
    refine WQ_code ?_
    refine WC_ret ?_
    refine WQ_then_ret ?_
    exact WQ_done htb [(.agg [(.v (.slice none 0 0)), (.v (.slice none 0 0))]), (.v (.bool false))] _ (.inl rfl) rfl (by kernel_rfl) (fun ρ w hW => ⟨[], _, _, _, [], _, _, _, false, rfl, (Sl.none0 _ _), (Sl.none0 _ _), (dropS_nil (.inl (by omega))).symm⟩)
  · replace hb0 := ne_of_beq_false hb0
    refine WK_keep [8, 7, 6, 5, 4, 3, 2, 1] [1] rfl rfl ?_
    refine WD_takeL htb rfl (fun _ _ _ _ _ h => h) (Le.refl _) [5, 6, 7, 8, 9, 10] (fuel := 17) (listed' := #[true, true, true, true, true, true, true, true, true, true, true, false, false, false, false, false, false, false, false, false, false, false, false, false, false, false, false, false]) (S' := ⟨[(14, (.v (.bool ((((n_b : Nat) : Int) : Int) == 0)))), (13, (.v (.bool ((((n_b : Nat) : Int) : Int) == 0)))), (12, (.v (.bool ((((n_b : Nat) : Int) : Int) == 0)))), (11, (.v (.int .i64 ((n_b : Nat) : Int)))), (10, (.v (.slice A_b n_b c_b))), (9, (.p 0 1)), (8, (.v (.bool false))), (7, (.v (.bool ((((n_a : Nat) : Int) : Int) == 0)))), (6, (.v (.int .i64 ((n_a : Nat) : Int)))), (5, (.v (.slice A_a n_a c_a))), (4, (.p 0 0)), (3, (.v (.bool false))), (2, (.p 1 0)), (1, (.p 0 0))], [(1, (.cells 24 [(.v (.slice none 0 0)), (.v (.slice none 0 0))]))], 2, [], [(0, bk2, (.cells 24 [(.v (.slice A_a n_a c_a)), (.v (.slice A_b n_b c_b))]))]⟩) hz (by kernel_rfl) rfl ?_
    refine WK_split 14 ((((n_b : Nat) : Int) : Int) == 0) rfl (fun hb1 => ?_) (fun hb1 => ?_)
    · replace hb1 := eq_of_beq hb1
      refine WK_keep [14, 13, 12, 11, 10, 9, 8, 7, 6, 5, 4, 3, 2, 1] [1] rfl rfl ?_
      refine WD_takeL htb rfl (fun _ _ _ _ _ h => h) (Le.refl _) [11, 12, 13, 14, 15, 16, 17, 18, 19, 20, 21, 22, 23, 24, 25, 26, 27] (fuel := 0) (listed' := #[true, true, true, true, true, true, true, true, true, true, true, true, true, true, true, true, true, true, true, true, true, true, true, true, true, true, true, true]) (S' := ⟨[(31, (.v (.bool true))), (30, (.v (undef))), (29, (.v (undef))), (28, (.v (undef))), (27, (.v (undef))), (26, (.v (undef))), (25, (.v (undef))), (24, (.v (undef))), (23, (.v (undef))), (22, (.v (undef))), (21, (.v (.bool true))), (20, (.v (.bool true))), (19, (.v (undef))), (18, (.v (undef))), (17, (.v (undef))), (16, (.v (undef))), (15, (.v (undef))), (14, (.v (.bool true))), (13, (.v (.bool ((((n_b : Nat) : Int) : Int) == 0)))), (12, (.v (.bool ((((n_b : Nat) : Int) : Int) == 0)))), (11, (.v (.int .i64 ((n_b : Nat) : Int)))), (10, (.v (.slice A_b n_b c_b))), (9, (.p 0 1)), (8, (.v (.bool false))), (7, (.v (.bool ((((n_a : Nat) : Int) : Int) == 0)))), (6, (.v (.int .i64 ((n_a : Nat) : Int)))), (5, (.v (.slice A_a n_a c_a))), (4, (.p 0 0)), (3, (.v (.bool false))), (2, (.p 1 0)), (1, (.p 0 0))], [(1, (.cells 24 [(.v (.slice none 0 0)), (.v (.slice none 0 0))]))], 2, [], [(0, bk2, (.cells 24 [(.v (.slice A_a n_a c_a)), (.v (.slice A_b n_b c_b))]))]⟩) hz (by kernel_rfl) rfl ?_
      refine WD_done (by decide +kernel) ?_
      refine WK_keep [31, 3, 2, 1] [1] rfl rfl ?_
      refine WQ_code ?_
      refine WC_cond (b := true) rfl (fun _ => ?_) (fun h => by cases h)
      refine WC_seq (WC_region ?_)
      refine WL_execS htb 3 [3, 2, 1] [1] ⟨[(3, (.v (.bool false))), (2, (.p 1 0)), (1, (.p 0 0))], [(1, (.cells 24 [(.v (.slice none 0 0)), (.v (.slice none 0 0))]))], 2, [], [(0, bk2, (.cells 24 [(.v (.slice A_a n_a c_a)), (.v (.slice A_b n_b c_b))]))]⟩ (by kernel_rfl) ?_
      refine WL_nil ?_
      refine WQ_code ?_
      refine WC_ret ?_
      refine WQ_then_ret ?_
      exact WQ_done htb [(.agg [(.v (.slice none 0 0)), (.v (.slice none 0 0))]), (.v (.bool false))] _ (.inl rfl) rfl (by kernel_rfl) (fun ρ w hW => ⟨[], _, _, _, [], _, _, _, false, rfl, (Sl.none0 _ _), (Sl.none0 _ _), (dropS_nil (.inr (by omega))).symm⟩)
    · replace hb1 := ne_of_beq_false hb1
      refine WK_keep [14, 13, 12, 11, 10, 9, 8, 7, 6, 5, 4, 3, 2, 1] [1] rfl rfl ?_
      refine WD_takeL htb rfl (fun _ _ _ _ _ h => h) (Le.refl _) [11, 12] (fuel := 15) (listed' := #[true, true, true, true, true, true, true, true, true, true, true, true, true, false, false, false, false, false, false, false, false, false, false, false, false, false, false, false]) (S' := ⟨[(16, (.v (.slice A_a n_a c_a))), (15, (.p 0 0)), (14, (.v (.bool false))), (13, (.v (.bool ((((n_b : Nat) : Int) : Int) == 0)))), (12, (.v (.bool ((((n_b : Nat) : Int) : Int) == 0)))), (11, (.v (.int .i64 ((n_b : Nat) : Int)))), (10, (.v (.slice A_b n_b c_b))), (9, (.p 0 1)), (8, (.v (.bool false))), (7, (.v (.bool ((((n_a : Nat) : Int) : Int) == 0)))), (6, (.v (.int .i64 ((n_a : Nat) : Int)))), (5, (.v (.slice A_a n_a c_a))), (4, (.p 0 0)), (3, (.v (.bool false))), (2, (.p 1 0)), (1, (.p 0 0))], [(1, (.cells 24 [(.v (.slice none 0 0)), (.v (.slice none 0 0))]))], 2, [], [(0, bk2, (.cells 24 [(.v (.slice A_a n_a c_a)), (.v (.slice A_b n_b c_b))]))]⟩) hz (by kernel_rfl) rfl ?_
      obtain ⟨q3, rfl⟩ := h_a.ptr (by omega)
      obtain ⟨x6, _, hx4, ⟨rfl, hn7⟩, at5⟩ := h_a.get 0 (by omega)
      have bdhn7 := bd_of hn7
      replace at5 : At G1 (q3.add (0 * 1)) [.int .i64 x6] := at5
      refine WD_idx htb 13 (by rfl) rfl (by decide +kernel) (fun _ _ _ _ _ h => h) (Le.refl _) q3 n_a 0 1 (by kernel_rfl) (by omega) (by omega) ?_
      refine WD_ld htb 14 (by rfl) rfl (by decide +kernel) (fun _ _ _ _ _ h => h) (Le.refl _) (q3.add (0 * 1)) false 1 [.int .i64 x6] (by kernel_rfl) at5 rfl (by decide) ?_
      refine WD_takeL htb rfl (fun _ _ _ _ _ h => h) (Le.refl _) [15, 16, 17] (fuel := 10) (listed' := #[true, true, true, true, true, true, true, true, true, true, true, true, true, true, true, true, true, true, false, false, false, false, false, false, false, false, false, false]) (S' := ⟨[(21, (.v (.bool (decide ((x6 : Int) < 0))))), (20, (.v (.bool (decide ((x6 : Int) < 0))))), (19, (.v (.bool (decide ((x6 : Int) < 0))))), (18, (.v (.int .i64 x6))), (17, (.v (.pointer (some (q3.add (0 * 1)))))), (16, (.v (.slice (some q3) n_a c_a))), (15, (.p 0 0)), (14, (.v (.bool false))), (13, (.v (.bool ((((n_b : Nat) : Int) : Int) == 0)))), (12, (.v (.bool ((((n_b : Nat) : Int) : Int) == 0)))), (11, (.v (.int .i64 ((n_b : Nat) : Int)))), (10, (.v (.slice A_b n_b c_b))), (9, (.p 0 1)), (8, (.v (.bool false))), (7, (.v (.bool ((((n_a : Nat) : Int) : Int) == 0)))), (6, (.v (.int .i64 ((n_a : Nat) : Int)))), (5, (.v (.slice (some q3) n_a c_a))), (4, (.p 0 0)), (3, (.v (.bool false))), (2, (.p 1 0)), (1, (.p 0 0))], [(1, (.cells 24 [(.v (.slice none 0 0)), (.v (.slice none 0 0))]))], 2, [], [(0, bk2, (.cells 24 [(.v (.slice (some q3) n_a c_a)), (.v (.slice A_b n_b c_b))]))]⟩) hz (by kernel_rfl) rfl ?_
      refine WK_split 21 (decide ((x6 : Int) < 0)) rfl (fun hb2 => ?_) (fun hb2 => ?_)
      · replace hb2 := of_decide_eq_true hb2
        refine WK_keep [21, 20, 19, 18, 17, 16, 15, 14, 13, 12, 11, 10, 9, 8, 7, 6, 5, 4, 3, 2, 1] [1] rfl rfl ?_
        refine WD_takeL htb rfl (fun _ _ _ _ _ h => h) (Le.refl _) [18, 19, 20, 21, 22, 23, 24, 25, 26, 27] (fuel := 0) (listed' := #[true, true, true, true, true, true, true, true, true, true, true, true, true, true, true, true, true, true, true, true, true, true, true, true, true, true, true, true]) (S' := ⟨[(31, (.v (.bool true))), (30, (.v (undef))), (29, (.v (undef))), (28, (.v (undef))), (27, (.v (undef))), (26, (.v (undef))), (25, (.v (undef))), (24, (.v (undef))), (23, (.v (undef))), (22, (.v (undef))), (21, (.v (.bool true))), (20, (.v (.bool (decide ((x6 : Int) < 0))))), (19, (.v (.bool (decide ((x6 : Int) < 0))))), (18, (.v (.int .i64 x6))), (17, (.v (.pointer (some (q3.add (0 * 1)))))), (16, (.v (.slice (some q3) n_a c_a))), (15, (.p 0 0)), (14, (.v (.bool false))), (13, (.v (.bool ((((n_b : Nat) : Int) : Int) == 0)))), (12, (.v (.bool ((((n_b : Nat) : Int) : Int) == 0)))), (11, (.v (.int .i64 ((n_b : Nat) : Int)))), (10, (.v (.slice A_b n_b c_b))), (9, (.p 0 1)), (8, (.v (.bool false))), (7, (.v (.bool ((((n_a : Nat) : Int) : Int) == 0)))), (6, (.v (.int .i64 ((n_a : Nat) : Int)))), (5, (.v (.slice (some q3) n_a c_a))), (4, (.p 0 0)), (3, (.v (.bool false))), (2, (.p 1 0)), (1, (.p 0 0))], [(1, (.cells 24 [(.v (.slice none 0 0)), (.v (.slice none 0 0))]))], 2, [], [(0, bk2, (.cells 24 [(.v (.slice (some q3) n_a c_a)), (.v (.slice A_b n_b c_b))]))]⟩) hz (by kernel_rfl) rfl ?_
        refine WD_done (by decide +kernel) ?_
        refine WK_keep [31, 3, 2, 1] [1] rfl rfl ?_
        refine WQ_code ?_
        refine WC_cond (b := true) rfl (fun _ => ?_) (fun h => by cases h)
        refine WC_seq (WC_region ?_)
        refine WL_execS htb 3 [3, 2, 1] [1] ⟨[(3, (.v (.bool false))), (2, (.p 1 0)), (1, (.p 0 0))], [(1, (.cells 24 [(.v (.slice none 0 0)), (.v (.slice none 0 0))]))], 2, [], [(0, bk2, (.cells 24 [(.v (.slice (some q3) n_a c_a)), (.v (.slice A_b n_b c_b))]))]⟩ (by kernel_rfl) ?_
        refine WL_nil ?_
        refine WQ_code ?_
        refine WC_ret ?_
        refine WQ_then_ret ?_
        exact WQ_done htb [(.agg [(.v (.slice none 0 0)), (.v (.slice none 0 0))]), (.v (.bool false))] _ (.inl rfl) rfl (by kernel_rfl) (fun ρ w hW => ⟨[], _, _, _, [], _, _, _, false, rfl, (Sl.none0 _ _), (Sl.none0 _ _), (dropS_no3 hx4 hb2).symm⟩)
      · replace hb2 := of_decide_eq_false hb2
        refine WK_keep [21, 20, 19, 18, 17, 16, 15, 14, 13, 12, 11, 10, 9, 8, 7, 6, 5, 4, 3, 2, 1] [1] rfl rfl ?_
        refine WD_takeL htb rfl (fun _ _ _ _ _ h => h) (Le.refl _) [18, 19, 22, 23] (fuel := 6) (listed' := #[true, true, true, true, true, true, true, true, true, true, true, true, true, true, true, true, true, true, true, true, false, false, true, true, false, false, false, false]) (S' := ⟨[(27, (.v (.slice A_b n_b c_b))), (26, (.p 0 1)), (23, (.v (.slice (some q3) n_a c_a))), (22, (.p 0 0)), (21, (.v (.bool false))), (20, (.v (.bool (decide ((x6 : Int) < 0))))), (19, (.v (.bool (decide ((x6 : Int) < 0))))), (18, (.v (.int .i64 x6))), (17, (.v (.pointer (some (q3.add (0 * 1)))))), (16, (.v (.slice (some q3) n_a c_a))), (15, (.p 0 0)), (14, (.v (.bool false))), (13, (.v (.bool ((((n_b : Nat) : Int) : Int) == 0)))), (12, (.v (.bool ((((n_b : Nat) : Int) : Int) == 0)))), (11, (.v (.int .i64 ((n_b : Nat) : Int)))), (10, (.v (.slice A_b n_b c_b))), (9, (.p 0 1)), (8, (.v (.bool false))), (7, (.v (.bool ((((n_a : Nat) : Int) : Int) == 0)))), (6, (.v (.int .i64 ((n_a : Nat) : Int)))), (5, (.v (.slice (some q3) n_a c_a))), (4, (.p 0 0)), (3, (.v (.bool false))), (2, (.p 1 0)), (1, (.p 0 0))], [(1, (.cells 24 [(.v (.slice none 0 0)), (.v (.slice none 0 0))]))], 2, [], [(0, bk2, (.cells 24 [(.v (.slice (some q3) n_a c_a)), (.v (.slice A_b n_b c_b))]))]⟩) hz (by kernel_rfl) rfl ?_
        obtain ⟨_, ⟨rfl, hn10⟩, at9⟩ := h_a.getk hx4
        have bdhn10 := bd_of hn10
        replace at9 : At G1 (q3.add (0 * 1)) [.int .i64 x6] := at9
        refine WD_idx htb 20 (by rfl) rfl (by decide +kernel) (fun _ _ _ _ _ h => h) (Le.refl _) q3 n_a 0 1 (by kernel_rfl) (by omega) (by omega) ?_
        refine WD_ld htb 21 (by rfl) rfl (by decide +kernel) (fun _ _ _ _ _ h => h) (Le.refl _) (q3.add (0 * 1)) false 1 [.int .i64 x6] (by kernel_rfl) at9 rfl (by decide) ?_
        obtain ⟨q11, rfl⟩ := h_b.ptr (by omega)
        obtain ⟨x14, _, hx12, ⟨rfl, hn15⟩, at13⟩ := h_b.get 0 (by omega)
        have bdhn15 := bd_of hn15
        replace at13 : At G1 (q11.add (0 * 1)) [.int .i64 x14] := at13
        refine WD_idx htb 24 (by rfl) rfl (by decide +kernel) (fun _ _ _ _ _ h => h) (Le.refl _) q11 n_b 0 1 (by kernel_rfl) (by omega) (by omega) ?_
        refine WD_ld htb 25 (by rfl) rfl (by decide +kernel) (fun _ _ _ _ _ h => h) (Le.refl _) (q11.add (0 * 1)) false 1 [.int .i64 x14] (by kernel_rfl) at13 rfl (by decide) ?_
        refine WD_takeL htb rfl (fun _ _ _ _ _ h => h) (Le.refl _) [26, 27] (fuel := 0) (listed' := #[true, true, true, true, true, true, true, true, true, true, true, true, true, true, true, true, true, true, true, true, true, true, true, true, true, true, true, true]) (S' := ⟨[(31, (.v (.bool ((x6 : Int) != x14)))), (30, (.v (.bool ((x6 : Int) != x14)))), (29, (.v (.int .i64 x14))), (28, (.v (.pointer (some (q11.add (0 * 1)))))), (25, (.v (.int .i64 x6))), (24, (.v (.pointer (some (q3.add (0 * 1)))))), (27, (.v (.slice (some q11) n_b c_b))), (26, (.p 0 1)), (23, (.v (.slice (some q3) n_a c_a))), (22, (.p 0 0)), (21, (.v (.bool false))), (20, (.v (.bool (decide ((x6 : Int) < 0))))), (19, (.v (.bool (decide ((x6 : Int) < 0))))), (18, (.v (.int .i64 x6))), (17, (.v (.pointer (some (q3.add (0 * 1)))))), (16, (.v (.slice (some q3) n_a c_a))), (15, (.p 0 0)), (14, (.v (.bool false))), (13, (.v (.bool ((((n_b : Nat) : Int) : Int) == 0)))), (12, (.v (.bool ((((n_b : Nat) : Int) : Int) == 0)))), (11, (.v (.int .i64 ((n_b : Nat) : Int)))), (10, (.v (.slice (some q11) n_b c_b))), (9, (.p 0 1)), (8, (.v (.bool false))), (7, (.v (.bool ((((n_a : Nat) : Int) : Int) == 0)))), (6, (.v (.int .i64 ((n_a : Nat) : Int)))), (5, (.v (.slice (some q3) n_a c_a))), (4, (.p 0 0)), (3, (.v (.bool false))), (2, (.p 1 0)), (1, (.p 0 0))], [(1, (.cells 24 [(.v (.slice none 0 0)), (.v (.slice none 0 0))]))], 2, [], [(0, bk2, (.cells 24 [(.v (.slice (some q3) n_a c_a)), (.v (.slice (some q11) n_b c_b))]))]⟩) hz (by kernel_rfl) rfl ?_
        refine WD_done (by decide +kernel) ?_
        refine WK_keep [31, 3, 2, 1] [1] rfl rfl ?_
        refine WQ_code ?_
        refine WC_cond (b := ((x6 : Int) != x14)) rfl (fun hb3 => ?_) (fun hb3 => ?_)
        · replace hb3 := bne_iff_ne.1 hb3
          refine WC_seq (WC_region ?_)
          refine WL_execS htb 3 [3, 2, 1] [1] ⟨[(3, (.v (.bool false))), (2, (.p 1 0)), (1, (.p 0 0))], [(1, (.cells 24 [(.v (.slice none 0 0)), (.v (.slice none 0 0))]))], 2, [], [(0, bk2, (.cells 24 [(.v (.slice (some q3) n_a c_a)), (.v (.slice (some q11) n_b c_b))]))]⟩ (by kernel_rfl) ?_
          refine WL_nil ?_
          refine WQ_code ?_
          refine WC_ret ?_
          refine WQ_then_ret ?_
          exact WQ_done htb [(.agg [(.v (.slice none 0 0)), (.v (.slice none 0 0))]), (.v (.bool false))] _ (.inl rfl) rfl (by kernel_rfl) (fun ρ w hW => ⟨[], _, _, _, [], _, _, _, false, rfl, (Sl.none0 _ _), (Sl.none0 _ _), (dropS_no2 hx4 hx12 hb3).symm⟩)
        · replace hb3 := (bne_eq_false_iff_eq.1) hb3
          refine WC_skip ?_
          refine WQ_code ?_
          refine WK_keep [3, 2, 1] [1] rfl rfl ?_
          refine WC_seq (WC_draw mixed ?_)
          refine WK_keep [2, 1] [1] rfl rfl ?_
          refine WD_takeL htb rfl (fun _ _ _ _ _ h => h) (Le.refl _) [0, 1, 3, 4] (fuel := 5) (listed' := #[true, true, false, true, true, false, false, false, false]) (S' := ⟨[(37, (.v (.slice (some q11) n_b c_b))), (36, (.p 0 1)), (34, (.v (.slice (some q3) n_a c_a))), (33, (.p 0 0)), (2, (.p 1 0)), (1, (.p 0 0))], [(1, (.cells 24 [(.v (.slice none 0 0)), (.v (.slice none 0 0))]))], 2, [], [(0, bk2, (.cells 24 [(.v (.slice (some q3) n_a c_a)), (.v (.slice (some q11) n_b c_b))]))]⟩) hz (by kernel_rfl) rfl ?_
          obtain ⟨A16, hA17⟩ : ∃ A, sliceAddr (some q3) c_a 1 1 = A := ⟨_, rfl⟩
          have hs18 := h_a.from 1 (by omega) hA17
          refine WD_sl htb 2 (by rfl) rfl (by decide +kernel) (fun _ _ _ _ _ h => h) (Le.refl _) (some q3) n_a c_a 1 n_a 1 (by kernel_rfl) (by omega) (by omega) hA17 ?_
          have lhs18 := hs18.len'
          obtain ⟨A19, hA20⟩ : ∃ A, sliceAddr (some q11) c_b 1 1 = A := ⟨_, rfl⟩
          have hs21 := h_b.from 1 (by omega) hA20
          refine WD_sl htb 5 (by rfl) rfl (by decide +kernel) (fun _ _ _ _ _ h => h) (Le.refl _) (some q11) n_b c_b 1 n_b 1 (by kernel_rfl) (by omega) (by omega) hA20 ?_
          have lhs21 := hs21.len'
          refine WD_takeL htb rfl (fun _ _ _ _ _ h => h) (Le.refl _) [6] (fuel := 2) (listed' := #[true, true, true, true, true, true, true, false, false]) (S' := ⟨[(39, (.agg [(.v (.slice A16 (n_a - 1) (c_a - 1))), (.v (.slice A19 (n_b - 1) (c_b - 1)))])), (38, (.v (.slice A19 (n_b - 1) (c_b - 1)))), (35, (.v (.slice A16 (n_a - 1) (c_a - 1)))), (37, (.v (.slice (some q11) n_b c_b))), (36, (.p 0 1)), (34, (.v (.slice (some q3) n_a c_a))), (33, (.p 0 0)), (2, (.p 1 0)), (1, (.p 0 0))], [(1, (.cells 24 [(.v (.slice none 0 0)), (.v (.slice none 0 0))]))], 2, [], [(0, bk2, (.cells 24 [(.v (.slice (some q3) n_a c_a)), (.v (.slice (some q11) n_b c_b))]))]⟩) hz (by kernel_rfl) rfl ?_
          refine WD_one 7 (by rfl) (by decide +kernel) (WOp_step htb (S' := ⟨[(39, (.agg [(.v (.slice A16 (n_a - 1) (c_a - 1))), (.v (.slice A19 (n_b - 1) (c_b - 1)))])), (38, (.v (.slice A19 (n_b - 1) (c_b - 1)))), (35, (.v (.slice A16 (n_a - 1) (c_a - 1)))), (37, (.v (.slice (some q11) n_b c_b))), (36, (.p 0 1)), (34, (.v (.slice (some q3) n_a c_a))), (33, (.p 0 0)), (2, (.p 1 0)), (1, (.p 0 0))], [(1, (.cells 24 [(.v (.slice A16 (n_a - 1) (c_a - 1))), (.v (.slice A19 (n_b - 1) (c_b - 1)))]))], 2, [], [(0, bk2, (.cells 24 [(.v (.slice (some q3) n_a c_a)), (.v (.slice (some q11) n_b c_b))]))]⟩) (by kernel_rfl) (WD_on (Le.refl _) ?_))
          refine WD_takeL htb rfl (fun _ _ _ _ _ h => h) (Le.refl _) [8] (fuel := 0) (listed' := #[true, true, true, true, true, true, true, true, true]) (S' := ⟨[(3, (.v (.bool true))), (39, (.agg [(.v (.slice A16 (n_a - 1) (c_a - 1))), (.v (.slice A19 (n_b - 1) (c_b - 1)))])), (38, (.v (.slice A19 (n_b - 1) (c_b - 1)))), (35, (.v (.slice A16 (n_a - 1) (c_a - 1)))), (37, (.v (.slice (some q11) n_b c_b))), (36, (.p 0 1)), (34, (.v (.slice (some q3) n_a c_a))), (33, (.p 0 0)), (2, (.p 1 0)), (1, (.p 0 0))], [(1, (.cells 24 [(.v (.slice A16 (n_a - 1) (c_a - 1))), (.v (.slice A19 (n_b - 1) (c_b - 1)))]))], 2, [], [(0, bk2, (.cells 24 [(.v (.slice (some q3) n_a c_a)), (.v (.slice (some q11) n_b c_b))]))]⟩) hz (by kernel_rfl) rfl ?_
          refine WD_done (by decide +kernel) ?_
          refine WK_keep [3, 2] [1] rfl rfl ?_
          refine WQ_code ?_
          refine WC_ret ?_
          exact WQ_done htb [(.agg [(.v (.slice A16 (n_a - 1) (c_a - 1))), (.v (.slice A19 (n_b - 1) (c_b - 1)))]), (.v (.bool true))] _ (.inl rfl) rfl (by kernel_rfl) (fun ρ w hW => ⟨(a.drop 1), _, _, _, (b.drop 1), _, _, _, true, rfl, hs18, hs21, (dropS_yes hx4 hx12 hb3 hx4 hb2).symm⟩)

theorem rsplit_ok {w : World} {G : Heap} (hG : Has w G) {a : (List Int)} {A_a : Option Addr} {n_a : Nat} {c_a : Nat} {b : (List Int)} {A_b : Option Addr} {n_b : Nat} {c_b : Nat} (h_a : Sl (tInt .i64) G A_a n_a c_a a) (h_b : Sl (tInt .i64) G A_b n_b c_b b) :
    Calls Try.prog 23 #[(.agg #[.slice A_a n_a c_a, .slice A_b n_b c_b])] w (Ret w G fun v G' => ∃ (r1 : (List Int)) (A_r1 : Option Addr) (n_r1 : Nat) (c_r1 : Nat) (r2 : (List Int)) (A_r2 : Option Addr) (n_r2 : Nat) (c_r2 : Nat) (r3 : (List Int)) (A_r3 : Option Addr) (n_r3 : Nat) (c_r3 : Nat) (r4 : (List Int)) (A_r4 : Option Addr) (n_r4 : Nat) (c_r4 : Nat) (ok : Bool), v = .tuple #[.agg #[.slice A_r1 n_r1 c_r1, .slice A_r2 n_r2 c_r2], .agg #[.slice A_r3 n_r3 c_r3, .slice A_r4 n_r4 c_r4], .bool ok] ∧ (Sl (tInt .i64) G' A_r1 n_r1 c_r1 r1) ∧ (Sl (tInt .i64) G' A_r2 n_r2 c_r2 r2) ∧ (Sl (tInt .i64) G' A_r3 n_r3 c_r3 r3) ∧ (Sl (tInt .i64) G' A_r4 n_r4 c_r4 r4) ∧ (((r1, r2), (r3, r4), ok) = splitS (a, b))) := by
  have lh_a := h_a.len'
  have lh_b := h_b.len'
  refine enter [(.agg [(.v (.slice A_a n_a c_a)), (.v (.slice A_b n_b c_b))])] 31 Try.func23 rfl rfl rfl rfl hG ?_
  refine WC_seq (WC_region ?_)
  refine WL_execS htb 4 [4, 3, 2, 1] [2, 1, 0] ⟨[(4, (.v (.bool false))), (3, (.p 2 0)), (2, (.p 1 0)), (1, (.p 0 0))], [(2, (.cells 24 [(.v (.slice none 0 0)), (.v (.slice none 0 0))])), (1, (.cells 24 [(.v (.slice none 0 0)), (.v (.slice none 0 0))])), (0, (.cells 24 [(.v (.slice A_a n_a c_a)), (.v (.slice A_b n_b c_b))]))], 3, [], []⟩ (by kernel_rfl) ?_
  refine WL_nil ?_
  refine WQ_code ?_
  refine WC_seq ?_
  refine WC_seq (WC_region ?_)
  refine WL_execS htb 5 [9, 4, 3, 2, 1] [2, 1, 0] ⟨[(9, (.v (.bool ((((n_a : Nat) : Int) : Int) == 0)))), (4, (.v (.bool false))), (3, (.p 2 0)), (2, (.p 1 0)), (1, (.p 0 0))], [(2, (.cells 24 [(.v (.slice none 0 0)), (.v (.slice none 0 0))])), (1, (.cells 24 [(.v (.slice none 0 0)), (.v (.slice none 0 0))])), (0, (.cells 24 [(.v (.slice A_a n_a c_a)), (.v (.slice A_b n_b c_b))]))], 3, [], []⟩ (by kernel_rfl) ?_
  refine WK_split 9 ((((n_a : Nat) : Int) : Int) == 0) rfl (fun hb0 => ?_) (fun hb0 => ?_)
  · replace hb0 := eq_of_beq hb0
    refine WK_keep [9, 4, 3, 2, 1] [2, 1, 0] rfl rfl ?_
    refine WL_execS htb 5 [14, 4, 3, 2, 1] [2, 1, 0] ⟨[(14, (.v (.bool true))), (4, (.v (.bool false))), (3, (.p 2 0)), (2, (.p 1 0)), (1, (.p 0 0))], [(2, (.cells 24 [(.v (.slice none 0 0)), (.v (.slice none 0 0))])), (1, (.cells 24 [(.v (.slice none 0 0)), (.v (.slice none 0 0))])), (0, (.cells 24 [(.v (.slice A_a n_a c_a)), (.v (.slice A_b n_b c_b))]))], 3, [], []⟩ (by kernel_rfl) ?_
    refine WL_nil ?_
    refine WQ_code ?_
    refine WC_cond (b := true) rfl (fun _ => ?_) (fun h => by cases h)
    refine WC_seq (WC_region ?_)
    refine WL_execS htb 5 [4, 3, 2, 1] [2, 1, 0] ⟨[(4, (.v (.bool false))), (3, (.p 2 0)), (2, (.p 1 0)), (1, (.p 0 0))], [(2, (.cells 24 [(.v (.slice none 0 0)), (.v (.slice none 0 0))])), (1, (.cells 24 [(.v (.slice none 0 0)), (.v (.slice none 0 0))])), (0, (.cells 24 [(.v (.slice A_a n_a c_a)), (.v (.slice A_b n_b c_b))]))], 3, [], []⟩ (by kernel_rfl) ?_
    refine WL_nil ?_
    refine WQ_code ?_
    refine WC_ret ?_
    refine WQ_then_ret ?_
    exact WQ_done htb [(.agg [(.v (.slice none 0 0)), (.v (.slice none 0 0))]), (.agg [(.v (.slice none 0 0)), (.v (.slice none 0 0))]), (.v (.bool false))] _ (.inl rfl) rfl (by kernel_rfl) (fun ρ w hW => ⟨[], _, _, _, [], _, _, _, [], _, _, _, [], _, _, _, false, rfl, (Sl.none0 _ _), (Sl.none0 _ _), (Sl.none0 _ _), (Sl.none0 _ _), (splitS_nil (.inl (by omega))).symm⟩)
  · replace hb0 := ne_of_beq_false hb0
    refine WK_keep [9, 4, 3, 2, 1] [2, 1, 0] rfl rfl ?_
    refine WL_execS htb 5 [14, 4, 3, 2, 1] [2, 1, 0] ⟨[(14, (.v (.bool ((((n_b : Nat) : Int) : Int) == 0)))), (4, (.v (.bool false))), (3, (.p 2 0)), (2, (.p 1 0)), (1, (.p 0 0))], [(2, (.cells 24 [(.v (.slice none 0 0)), (.v (.slice none 0 0))])), (1, (.cells 24 [(.v (.slice none 0 0)), (.v (.slice none 0 0))])), (0, (.cells 24 [(.v (.slice A_a n_a c_a)), (.v (.slice A_b n_b c_b))]))], 3, [], []⟩ (by kernel_rfl) ?_
    refine WL_nil ?_
    refine WQ_code ?_
    refine WC_cond (b := ((((n_b : Nat) : Int) : Int) == 0)) rfl (fun hb1 => ?_) (fun hb1 => ?_)
    · replace hb1 := eq_of_beq hb1
      refine WC_seq (WC_region ?_)
      refine WL_execS htb 5 [4, 3, 2, 1] [2, 1, 0] ⟨[(4, (.v (.bool false))), (3, (.p 2 0)), (2, (.p 1 0)), (1, (.p 0 0))], [(2, (.cells 24 [(.v (.slice none 0 0)), (.v (.slice none 0 0))])), (1, (.cells 24 [(.v (.slice none 0 0)), (.v (.slice none 0 0))])), (0, (.cells 24 [(.v (.slice A_a n_a c_a)), (.v (.slice A_b n_b c_b))]))], 3, [], []⟩ (by kernel_rfl) ?_
      refine WL_nil ?_
      refine WQ_code ?_
      refine WC_ret ?_
      refine WQ_then_ret ?_
      exact WQ_done htb [(.agg [(.v (.slice none 0 0)), (.v (.slice none 0 0))]), (.agg [(.v (.slice none 0 0)), (.v (.slice none 0 0))]), (.v (.bool false))] _ (.inl rfl) rfl (by kernel_rfl) (fun ρ w hW => ⟨[], _, _, _, [], _, _, _, [], _, _, _, [], _, _, _, false, rfl, (Sl.none0 _ _), (Sl.none0 _ _), (Sl.none0 _ _), (Sl.none0 _ _), (splitS_nil (.inr (by omega))).symm⟩)
    · replace hb1 := ne_of_beq_false hb1
      refine WC_skip ?_
      refine WQ_code ?_
      refine WK_keep [4, 3, 2, 1] [2, 1, 0] rfl rfl ?_
      refine WK_freeze 0 rfl rfl rfl rfl ?_
      intro bk2 G1 hle hbk2
      replace h_a := h_a.mono hle
      replace h_b := h_b.mono hle
      have hz := FZ.cons (h := 0) hbk2 rfl (FZ.nil _)
      refine WC_seq (WC_draw mixed ?_)
      refine WK_keep [3, 2, 1] [2, 1] rfl rfl ?_
      refine WD_takeL htb rfl (fun _ _ _ _ _ h => h) (Le.refl _) [0, 1, 3, 4, 7, 8, 10, 11] (fuel := 9) (listed' := #[true, true, false, true, true, false, false, true, true, false, true, true, false, false, false, false, false]) (S' := ⟨[(28, (.v (.slice A_b n_b c_b))), (27, (.p 0 1)), (25, (.v (.slice A_a n_a c_a))), (24, (.p 0 0)), (21, (.v (.slice A_b n_b c_b))), (20, (.p 0 1)), (18, (.v (.slice A_a n_a c_a))), (17, (.p 0 0)), (3, (.p 2 0)), (2, (.p 1 0)), (1, (.p 0 0))], [(2, (.cells 24 [(.v (.slice none 0 0)), (.v (.slice none 0 0))])), (1, (.cells 24 [(.v (.slice none 0 0)), (.v (.slice none 0 0))]))], 3, [], [(0, bk2, (.cells 24 [(.v (.slice A_a n_a c_a)), (.v (.slice A_b n_b c_b))]))]⟩) hz (by kernel_rfl) rfl ?_
      obtain ⟨A3, hA4⟩ : ∃ A, sliceAddr A_a c_a 0 1 = A := ⟨_, rfl⟩
      have hs5 := h_a.part 0 1 (by omega) (by omega) hA4
      refine WD_sl htb 2 (by rfl) rfl (by decide +kernel) (fun _ _ _ _ _ h => h) (Le.refl _) A_a n_a c_a 0 1 1 (by kernel_rfl) (by omega) (by omega) hA4 ?_
      have lhs5 := hs5.len'
      obtain ⟨A6, hA7⟩ : ∃ A, sliceAddr A_b c_b 0 1 = A := ⟨_, rfl⟩
      have hs8 := h_b.part 0 1 (by omega) (by omega) hA7
      refine WD_sl htb 5 (by rfl) rfl (by decide +kernel) (fun _ _ _ _ _ h => h) (Le.refl _) A_b n_b c_b 0 1 1 (by kernel_rfl) (by omega) (by omega) hA7 ?_
      have lhs8 := hs8.len'
      refine WD_takeL htb rfl (fun _ _ _ _ _ h => h) (Le.refl _) [6] (fuel := 6) (listed' := #[true, true, true, true, true, true, true, true, true, false, true, true, false, false, false, false, false]) (S' := ⟨[(23, (.agg [(.v (.slice A3 (1 - 0) (c_a - 0))), (.v (.slice A6 (1 - 0) (c_b - 0)))])), (22, (.v (.slice A6 (1 - 0) (c_b - 0)))), (19, (.v (.slice A3 (1 - 0) (c_a - 0)))), (28, (.v (.slice A_b n_b c_b))), (27, (.p 0 1)), (25, (.v (.slice A_a n_a c_a))), (24, (.p 0 0)), (21, (.v (.slice A_b n_b c_b))), (20, (.p 0 1)), (18, (.v (.slice A_a n_a c_a))), (17, (.p 0 0)), (3, (.p 2 0)), (2, (.p 1 0)), (1, (.p 0 0))], [(2, (.cells 24 [(.v (.slice none 0 0)), (.v (.slice none 0 0))])), (1, (.cells 24 [(.v (.slice none 0 0)), (.v (.slice none 0 0))]))], 3, [], [(0, bk2, (.cells 24 [(.v (.slice A_a n_a c_a)), (.v (.slice A_b n_b c_b))]))]⟩) hz (by kernel_rfl) rfl ?_
      obtain ⟨A9, hA10⟩ : ∃ A, sliceAddr A_a c_a 1 1 = A := ⟨_, rfl⟩
      have hs11 := h_a.from 1 (by omega) hA10
      refine WD_sl htb 9 (by rfl) rfl (by decide +kernel) (fun _ _ _ _ _ h => h) (Le.refl _) A_a n_a c_a 1 n_a 1 (by kernel_rfl) (by omega) (by omega) hA10 ?_
      have lhs11 := hs11.len'
      obtain ⟨A12, hA13⟩ : ∃ A, sliceAddr A_b c_b 1 1 = A := ⟨_, rfl⟩
      have hs14 := h_b.from 1 (by omega) hA13
      refine WD_sl htb 12 (by rfl) rfl (by decide +kernel) (fun _ _ _ _ _ h => h) (Le.refl _) A_b n_b c_b 1 n_b 1 (by kernel_rfl) (by omega) (by omega) hA13 ?_
      have lhs14 := hs14.len'
      refine WD_takeL htb rfl (fun _ _ _ _ _ h => h) (Le.refl _) [13] (fuel := 3) (listed' := #[true, true, true, true, true, true, true, true, true, true, true, true, true, true, false, false, false]) (S' := ⟨[(30, (.agg [(.v (.slice A9 (n_a - 1) (c_a - 1))), (.v (.slice A12 (n_b - 1) (c_b - 1)))])), (29, (.v (.slice A12 (n_b - 1) (c_b - 1)))), (26, (.v (.slice A9 (n_a - 1) (c_a - 1)))), (23, (.agg [(.v (.slice A3 (1 - 0) (c_a - 0))), (.v (.slice A6 (1 - 0) (c_b - 0)))])), (22, (.v (.slice A6 (1 - 0) (c_b - 0)))), (19, (.v (.slice A3 (1 - 0) (c_a - 0)))), (28, (.v (.slice A_b n_b c_b))), (27, (.p 0 1)), (25, (.v (.slice A_a n_a c_a))), (24, (.p 0 0)), (21, (.v (.slice A_b n_b c_b))), (20, (.p 0 1)), (18, (.v (.slice A_a n_a c_a))), (17, (.p 0 0)), (3, (.p 2 0)), (2, (.p 1 0)), (1, (.p 0 0))], [(2, (.cells 24 [(.v (.slice none 0 0)), (.v (.slice none 0 0))])), (1, (.cells 24 [(.v (.slice none 0 0)), (.v (.slice none 0 0))]))], 3, [], [(0, bk2, (.cells 24 [(.v (.slice A_a n_a c_a)), (.v (.slice A_b n_b c_b))]))]⟩) hz (by kernel_rfl) rfl ?_
      refine WD_one 14 (by rfl) (by decide +kernel) (WOp_step htb (S' := ⟨[(30, (.agg [(.v (.slice A9 (n_a - 1) (c_a - 1))), (.v (.slice A12 (n_b - 1) (c_b - 1)))])), (29, (.v (.slice A12 (n_b - 1) (c_b - 1)))), (26, (.v (.slice A9 (n_a - 1) (c_a - 1)))), (23, (.agg [(.v (.slice A3 (1 - 0) (c_a - 0))), (.v (.slice A6 (1 - 0) (c_b - 0)))])), (22, (.v (.slice A6 (1 - 0) (c_b - 0)))), (19, (.v (.slice A3 (1 - 0) (c_a - 0)))), (28, (.v (.slice A_b n_b c_b))), (27, (.p 0 1)), (25, (.v (.slice A_a n_a c_a))), (24, (.p 0 0)), (21, (.v (.slice A_b n_b c_b))), (20, (.p 0 1)), (18, (.v (.slice A_a n_a c_a))), (17, (.p 0 0)), (3, (.p 2 0)), (2, (.p 1 0)), (1, (.p 0 0))], [(2, (.cells 24 [(.v (.slice none 0 0)), (.v (.slice none 0 0))])), (1, (.cells 24 [(.v (.slice A3 (1 - 0) (c_a - 0))), (.v (.slice A6 (1 - 0) (c_b - 0)))]))], 3, [], [(0, bk2, (.cells 24 [(.v (.slice A_a n_a c_a)), (.v (.slice A_b n_b c_b))]))]⟩) (by kernel_rfl) (WD_on (Le.refl _) ?_))
      refine WD_one 15 (by rfl) (by decide +kernel) (WOp_step htb (S' := ⟨[(30, (.agg [(.v (.slice A9 (n_a - 1) (c_a - 1))), (.v (.slice A12 (n_b - 1) (c_b - 1)))])), (29, (.v (.slice A12 (n_b - 1) (c_b - 1)))), (26, (.v (.slice A9 (n_a - 1) (c_a - 1)))), (23, (.agg [(.v (.slice A3 (1 - 0) (c_a - 0))), (.v (.slice A6 (1 - 0) (c_b - 0)))])), (22, (.v (.slice A6 (1 - 0) (c_b - 0)))), (19, (.v (.slice A3 (1 - 0) (c_a - 0)))), (28, (.v (.slice A_b n_b c_b))), (27, (.p 0 1)), (25, (.v (.slice A_a n_a c_a))), (24, (.p 0 0)), (21, (.v (.slice A_b n_b c_b))), (20, (.p 0 1)), (18, (.v (.slice A_a n_a c_a))), (17, (.p 0 0)), (3, (.p 2 0)), (2, (.p 1 0)), (1, (.p 0 0))], [(2, (.cells 24 [(.v (.slice A9 (n_a - 1) (c_a - 1))), (.v (.slice A12 (n_b - 1) (c_b - 1)))])), (1, (.cells 24 [(.v (.slice A3 (1 - 0) (c_a - 0))), (.v (.slice A6 (1 - 0) (c_b - 0)))]))], 3, [], [(0, bk2, (.cells 24 [(.v (.slice A_a n_a c_a)), (.v (.slice A_b n_b c_b))]))]⟩) (by kernel_rfl) (WD_on (Le.refl _) ?_))
      refine WD_takeL htb rfl (fun _ _ _ _ _ h => h) (Le.refl _) [16] (fuel := 0) (listed' := #[true, true, true, true, true, true, true, true, true, true, true, true, true, true, true, true, true]) (S' := ⟨[(4, (.v (.bool true))), (30, (.agg [(.v (.slice A9 (n_a - 1) (c_a - 1))), (.v (.slice A12 (n_b - 1) (c_b - 1)))])), (29, (.v (.slice A12 (n_b - 1) (c_b - 1)))), (26, (.v (.slice A9 (n_a - 1) (c_a - 1)))), (23, (.agg [(.v (.slice A3 (1 - 0) (c_a - 0))), (.v (.slice A6 (1 - 0) (c_b - 0)))])), (22, (.v (.slice A6 (1 - 0) (c_b - 0)))), (19, (.v (.slice A3 (1 - 0) (c_a - 0)))), (28, (.v (.slice A_b n_b c_b))), (27, (.p 0 1)), (25, (.v (.slice A_a n_a c_a))), (24, (.p 0 0)), (21, (.v (.slice A_b n_b c_b))), (20, (.p 0 1)), (18, (.v (.slice A_a n_a c_a))), (17, (.p 0 0)), (3, (.p 2 0)), (2, (.p 1 0)), (1, (.p 0 0))], [(2, (.cells 24 [(.v (.slice A9 (n_a - 1) (c_a - 1))), (.v (.slice A12 (n_b - 1) (c_b - 1)))])), (1, (.cells 24 [(.v (.slice A3 (1 - 0) (c_a - 0))), (.v (.slice A6 (1 - 0) (c_b - 0)))]))], 3, [], [(0, bk2, (.cells 24 [(.v (.slice A_a n_a c_a)), (.v (.slice A_b n_b c_b))]))]⟩) hz (by kernel_rfl) rfl ?_
      refine WD_done (by decide +kernel) ?_
      refine WK_keep [4, 3, 2] [2, 1] rfl rfl ?_
      refine WQ_code ?_
      refine WC_ret ?_
      exact WQ_done htb [(.agg [(.v (.slice A3 (1 - 0) (c_a - 0))), (.v (.slice A6 (1 - 0) (c_b - 0)))]), (.agg [(.v (.slice A9 (n_a - 1) (c_a - 1))), (.v (.slice A12 (n_b - 1) (c_b - 1)))]), (.v (.bool true))] _ (.inl rfl) rfl (by kernel_rfl) (fun ρ w hW => ⟨((a.take 1).drop 0), _, _, _, ((b.take 1).drop 0), _, _, _, (a.drop 1), _, _, _, (b.drop 1), _, _, _, true, rfl, hs5, hs8, hs11, hs14, (splitS_yes' (by omega) (by omega)).symm⟩)

theorem rule_ok {w : World} {G : Heap} (hG : Has w G) {tk : (List ByteArray)} {A_tk : Option Addr} {n_tk : Nat} {c_tk : Nat} {nm : (List ByteArray)} {A_nm : Option Addr} {n_nm : Nat} {c_nm : Nat} {rs : (List (List (List Int)))} {A_rs : Option Addr} {n_rs : Nat} {c_rs : Nat} {xs : (List Int)} {A_xs : Option Addr} {n_xs : Nat} {c_xs : Nat} (h_tk : Sl tStr G A_tk n_tk c_tk tk) (h_nm : Sl tStr G A_nm n_nm c_nm nm) (h_rs : Sl (tSlice (tSlice (tInt .i64))) G A_rs n_rs c_rs rs) (h_xs : Sl (tInt .i64) G A_xs n_xs c_xs xs) :
    Calls Try.prog 46 #[(.agg #[.slice A_tk n_tk c_tk, .slice A_nm n_nm c_nm, .slice A_rs n_rs c_rs]), (.slice A_xs n_xs c_xs)] w (Ret w G fun v G' => ∃ (r : Int) (ok : Bool), v = .tuple #[.int .i64 r, .bool ok] ∧ (-9223372036854775808 ≤ r ∧ r ≤ 9223372036854775807) ∧ ((r, ok) = ruleS rs xs)) := by
  have lh_tk := h_tk.len'
  have lh_nm := h_nm.len'
  have lh_rs := h_rs.len'
  have lh_xs := h_xs.len'
  refine enter [(.agg [(.v (.slice A_tk n_tk c_tk)), (.v (.slice A_nm n_nm c_nm)), (.v (.slice A_rs n_rs c_rs))]), (.v (.slice A_xs n_xs c_xs))] 29 Try.func46 rfl rfl rfl rfl hG ?_
  refine WC_seq (WC_region ?_)
  refine WL_execS htb 3 [5, 4, 2, 1] [0] ⟨[(5, (.v (.bool false))), (4, (.v (.int .i64 0))), (2, (.p 0 0)), (1, (.v (.slice A_xs n_xs c_xs)))], [(0, (.cells 35 [(.v (.slice A_tk n_tk c_tk)), (.v (.slice A_nm n_nm c_nm)), (.v (.slice A_rs n_rs c_rs))]))], 1, [], []⟩ (by kernel_rfl) ?_
  refine WL_nil ?_
  refine WQ_code ?_
  refine WC_seq ?_
  refine WK_freeze 0 rfl rfl rfl rfl ?_
  intro bk2 G1 hle hbk2
  replace h_tk := h_tk.mono hle
  replace h_nm := h_nm.mono hle
  replace h_rs := h_rs.mono hle
  replace h_xs := h_xs.mono hle
  have hz := FZ.cons (h := 0) hbk2 rfl (FZ.nil _)
  refine WC_seq (WC_draw mixed ?_)
  refine WD_takeL htb rfl (fun _ _ _ _ _ h => h) (Le.refl _) [0, 1, 2, 3] (fuel := 15) (listed' := #[true, true, true, true, false, false, false, false, false, false, false, false, false, false, false, false, false, false, false]) (S' := ⟨[(9, (.v (.bool ((((n_xs : Nat) : Int) : Int) == 0)))), (8, (.v (.bool ((((n_xs : Nat) : Int) : Int) == 0)))), (7, (.v (.int .i64 ((n_xs : Nat) : Int)))), (6, (.v (.slice A_xs n_xs c_xs))), (5, (.v (.bool false))), (4, (.v (.int .i64 0))), (2, (.p 0 0)), (1, (.v (.slice A_xs n_xs c_xs)))], [], 1, [], [(0, bk2, (.cells 35 [(.v (.slice A_tk n_tk c_tk)), (.v (.slice A_nm n_nm c_nm)), (.v (.slice A_rs n_rs c_rs))]))]⟩) hz (by kernel_rfl) rfl ?_
  refine WK_split 9 ((((n_xs : Nat) : Int) : Int) == 0) rfl (fun hb0 => ?_) (fun hb0 => ?_)
  · replace hb0 := eq_of_beq hb0
    refine WK_keep [9, 8, 7, 6, 5, 4, 2, 1] [] rfl rfl ?_
    refine WD_takeL htb rfl (fun _ _ _ _ _ h => h) (Le.refl _) [4, 5, 6, 7, 8, 9, 10, 11, 12, 13, 14, 15, 16, 17, 18] (fuel := 0) (listed' := #[true, true, true, true, true, true, true, true, true, true, true, true, true, true, true, true, true, true, true]) (S' := ⟨[(24, (.v (.bool true))), (23, (.v (undef))), (22, (.v (undef))), (21, (.v (undef))), (20, (.v (undef))), (19, (.v (undef))), (18, (.v (undef))), (17, (.v (undef))), (16, (.v (undef))), (15, (.v (.bool true))), (14, (.v (.bool true))), (13, (.v (undef))), (12, (.v (undef))), (11, (.v (undef))), (10, (.v (undef))), (9, (.v (.bool true))), (8, (.v (.bool ((((n_xs : Nat) : Int) : Int) == 0)))), (7, (.v (.int .i64 ((n_xs : Nat) : Int)))), (6, (.v (.slice A_xs n_xs c_xs))), (5, (.v (.bool false))), (4, (.v (.int .i64 0))), (2, (.p 0 0)), (1, (.v (.slice A_xs n_xs c_xs)))], [], 1, [], [(0, bk2, (.cells 35 [(.v (.slice A_tk n_tk c_tk)), (.v (.slice A_nm n_nm c_nm)), (.v (.slice A_rs n_rs c_rs))]))]⟩) hz (by kernel_rfl) rfl ?_
    refine WD_done (by decide +kernel) ?_
    refine WK_keep [24, 5, 4, 1] [] rfl rfl ?_
    refine WQ_code ?_
    refine WC_cond (b := true) rfl (fun _ => ?_) (fun h => by cases h)
    refine WC_seq (WC_region ?_)
    refine WL_execS htb 2 [5, 4, 1] [] ⟨[(5, (.v (.bool false))), (4, (.v (.int .i64 0))), (1, (.v (.slice A_xs n_xs c_xs)))], [], 1, [], [(0, bk2, (.cells 35 [(.v (.slice A_tk n_tk c_tk)), (.v (.slice A_nm n_nm c_nm)), (.v (.slice A_rs n_rs c_rs))]))]⟩ (by kernel_rfl) ?_
    refine WL_nil ?_
    refine WQ_code ?_
    refine WC_ret ?_
    refine WQ_then_ret ?_
    exact WQ_done htb [(.v (.int .i64 0)), (.v (.bool false))] _ (.inl rfl) rfl (by kernel_rfl) (fun ρ w hW => ⟨0, false, rfl, (by omega), (ruleS_no1 (by omega)).symm⟩)
  · replace hb0 := ne_of_beq_false hb0
    refine WK_keep [9, 8, 7, 6, 5, 4, 2, 1] [] rfl rfl ?_
    refine WD_takeL htb rfl (fun _ _ _ _ _ h => h) (Le.refl _) [4] (fuel := 14) (listed' := #[true, true, true, true, true, false, false, false, false, false, false, false, false, false, false, false, false, false, false]) (S' := ⟨[(10, (.v (.slice A_xs n_xs c_xs))), (9, (.v (.bool false))), (8, (.v (.bool ((((n_xs : Nat) : Int) : Int) == 0)))), (7, (.v (.int .i64 ((n_xs : Nat) : Int)))), (6, (.v (.slice A_xs n_xs c_xs))), (5, (.v (.bool false))), (4, (.v (.int .i64 0))), (2, (.p 0 0)), (1, (.v (.slice A_xs n_xs c_xs)))], [], 1, [], [(0, bk2, (.cells 35 [(.v (.slice A_tk n_tk c_tk)), (.v (.slice A_nm n_nm c_nm)), (.v (.slice A_rs n_rs c_rs))]))]⟩) hz (by kernel_rfl) rfl ?_
    obtain ⟨q3, rfl⟩ := h_xs.ptr (by omega)
    obtain ⟨x6, _, hx4, ⟨rfl, hn7⟩, at5⟩ := h_xs.get 0 (by omega)
    have bdhn7 := bd_of hn7
    replace at5 : At G1 (q3.add (0 * 1)) [.int .i64 x6] := at5
    refine WD_idx htb 5 (by rfl) rfl (by decide +kernel) (fun _ _ _ _ _ h => h) (Le.refl _) q3 n_xs 0 1 (by kernel_rfl) (by omega) (by omega) ?_
    refine WD_ld htb 6 (by rfl) rfl (by decide +kernel) (fun _ _ _ _ _ h => h) (Le.refl _) (q3.add (0 * 1)) false 1 [.int .i64 x6] (by kernel_rfl) at5 rfl (by decide) ?_
    refine WD_takeL htb rfl (fun _ _ _ _ _ h => h) (Le.refl _) [7, 8, 9] (fuel := 9) (listed' := #[true, true, true, true, true, true, true, true, true, true, false, false, false, false, false, false, false, false, false]) (S' := ⟨[(15, (.v (.bool (decide ((x6 : Int) ≥ 0))))), (14, (.v (.bool (decide ((x6 : Int) ≥ 0))))), (13, (.v (.bool (decide ((x6 : Int) ≥ 0))))), (12, (.v (.int .i64 x6))), (11, (.v (.pointer (some (q3.add (0 * 1)))))), (10, (.v (.slice (some q3) n_xs c_xs))), (9, (.v (.bool false))), (8, (.v (.bool ((((n_xs : Nat) : Int) : Int) == 0)))), (7, (.v (.int .i64 ((n_xs : Nat) : Int)))), (6, (.v (.slice (some q3) n_xs c_xs))), (5, (.v (.bool false))), (4, (.v (.int .i64 0))), (2, (.p 0 0)), (1, (.v (.slice (some q3) n_xs c_xs)))], [], 1, [], [(0, bk2, (.cells 35 [(.v (.slice A_tk n_tk c_tk)), (.v (.slice A_nm n_nm c_nm)), (.v (.slice A_rs n_rs c_rs))]))]⟩) hz (by kernel_rfl) rfl ?_
    refine WK_split 15 (decide ((x6 : Int) ≥ 0)) rfl (fun hb1 => ?_) (fun hb1 => ?_)
    · replace hb1 := of_decide_eq_true hb1
      refine WK_keep [15, 14, 13, 12, 11, 10, 9, 8, 7, 6, 5, 4, 2, 1] [] rfl rfl ?_
      refine WD_takeL htb rfl (fun _ _ _ _ _ h => h) (Le.refl _) [10, 11, 12, 13, 14, 15, 16, 17, 18] (fuel := 0) (listed' := #[true, true, true, true, true, true, true, true, true, true, true, true, true, true, true, true, true, true, true]) (S' := ⟨[(24, (.v (.bool true))), (23, (.v (undef))), (22, (.v (undef))), (21, (.v (undef))), (20, (.v (undef))), (19, (.v (undef))), (18, (.v (undef))), (17, (.v (undef))), (16, (.v (undef))), (15, (.v (.bool true))), (14, (.v (.bool (decide ((x6 : Int) ≥ 0))))), (13, (.v (.bool (decide ((x6 : Int) ≥ 0))))), (12, (.v (.int .i64 x6))), (11, (.v (.pointer (some (q3.add (0 * 1)))))), (10, (.v (.slice (some q3) n_xs c_xs))), (9, (.v (.bool false))), (8, (.v (.bool ((((n_xs : Nat) : Int) : Int) == 0)))), (7, (.v (.int .i64 ((n_xs : Nat) : Int)))), (6, (.v (.slice (some q3) n_xs c_xs))), (5, (.v (.bool false))), (4, (.v (.int .i64 0))), (2, (.p 0 0)), (1, (.v (.slice (some q3) n_xs c_xs)))], [], 1, [], [(0, bk2, (.cells 35 [(.v (.slice A_tk n_tk c_tk)), (.v (.slice A_nm n_nm c_nm)), (.v (.slice A_rs n_rs c_rs))]))]⟩) hz (by kernel_rfl) rfl ?_
      refine WD_done (by decide +kernel) ?_
      refine WK_keep [24, 5, 4, 1] [] rfl rfl ?_
      refine WQ_code ?_
      refine WC_cond (b := true) rfl (fun _ => ?_) (fun h => by cases h)
      refine WC_seq (WC_region ?_)
      refine WL_execS htb 2 [5, 4, 1] [] ⟨[(5, (.v (.bool false))), (4, (.v (.int .i64 0))), (1, (.v (.slice (some q3) n_xs c_xs)))], [], 1, [], [(0, bk2, (.cells 35 [(.v (.slice A_tk n_tk c_tk)), (.v (.slice A_nm n_nm c_nm)), (.v (.slice A_rs n_rs c_rs))]))]⟩ (by kernel_rfl) ?_
      refine WL_nil ?_
      refine WQ_code ?_
      refine WC_ret ?_
      refine WQ_then_ret ?_
      exact WQ_done htb [(.v (.int .i64 0)), (.v (.bool false))] _ (.inl rfl) rfl (by kernel_rfl) (fun ρ w hW => ⟨0, false, rfl, (by omega), (ruleS_no2 hx4 hb1).symm⟩)
    · replace hb1 := of_decide_eq_false hb1
      refine WK_keep [15, 14, 13, 12, 11, 10, 9, 8, 7, 6, 5, 4, 2, 1] [] rfl rfl ?_
      have hwr : IntKind.i64.wrap (-1 - x6) = - x6 - 1 := by rw [wrap_id (by omega)]; omega
      refine WD_takeL htb rfl (fun _ _ _ _ _ h => h) (Le.refl _) [10, 14, 15, 16] (fuel := 5) (listed' := #[true, true, true, true, true, true, true, true, true, true, true, false, false, false, true, true, true, false, false]) (S' := ⟨[(22, (.v (.int .i64 ((n_rs : Nat) : Int)))), (21, (.v (.slice A_rs n_rs c_rs))), (20, (.p 0 2)), (16, (.v (.slice (some q3) n_xs c_xs))), (15, (.v (.bool false))), (14, (.v (.bool (decide ((x6 : Int) ≥ 0))))), (13, (.v (.bool (decide ((x6 : Int) ≥ 0))))), (12, (.v (.int .i64 x6))), (11, (.v (.pointer (some (q3.add (0 * 1)))))), (10, (.v (.slice (some q3) n_xs c_xs))), (9, (.v (.bool false))), (8, (.v (.bool ((((n_xs : Nat) : Int) : Int) == 0)))), (7, (.v (.int .i64 ((n_xs : Nat) : Int)))), (6, (.v (.slice (some q3) n_xs c_xs))), (5, (.v (.bool false))), (4, (.v (.int .i64 0))), (2, (.p 0 0)), (1, (.v (.slice (some q3) n_xs c_xs)))], [], 1, [], [(0, bk2, (.cells 35 [(.v (.slice A_tk n_tk c_tk)), (.v (.slice A_nm n_nm c_nm)), (.v (.slice A_rs n_rs c_rs))]))]⟩) hz (by kernel_rfl) rfl ?_
      obtain ⟨_, ⟨rfl, hn10⟩, at9⟩ := h_xs.getk hx4
      have bdhn10 := bd_of hn10
      replace at9 : At G1 (q3.add (0 * 1)) [.int .i64 x6] := at9
      refine WD_idx htb 11 (by rfl) rfl (by decide +kernel) (fun _ _ _ _ _ h => h) (Le.refl _) q3 n_xs 0 1 (by kernel_rfl) (by omega) (by omega) ?_
      refine WD_ld htb 12 (by rfl) rfl (by decide +kernel) (fun _ _ _ _ _ h => h) (Le.refl _) (q3.add (0 * 1)) false 1 [.int .i64 x6] (by kernel_rfl) at9 rfl (by decide) ?_
      refine WD_takeL htb rfl (fun _ _ _ _ _ h => h) (Le.refl _) [13, 17, 18] (fuel := 0) (listed' := #[true, true, true, true, true, true, true, true, true, true, true, true, true, true, true, true, true, true, true]) (S' := ⟨[(24, (.v (.bool (decide (((IntKind.i64.wrap ((-1) - x6)) : Int) ≥ ((n_rs : Nat) : Int)))))), (23, (.v (.bool (decide (((IntKind.i64.wrap ((-1) - x6)) : Int) ≥ ((n_rs : Nat) : Int)))))), (19, (.v (.int .i64 (IntKind.i64.wrap ((-1) - x6))))), (18, (.v (.int .i64 x6))), (17, (.v (.pointer (some (q3.add (0 * 1)))))), (22, (.v (.int .i64 ((n_rs : Nat) : Int)))), (21, (.v (.slice A_rs n_rs c_rs))), (20, (.p 0 2)), (16, (.v (.slice (some q3) n_xs c_xs))), (15, (.v (.bool false))), (14, (.v (.bool (decide ((x6 : Int) ≥ 0))))), (13, (.v (.bool (decide ((x6 : Int) ≥ 0))))), (12, (.v (.int .i64 x6))), (11, (.v (.pointer (some (q3.add (0 * 1)))))), (10, (.v (.slice (some q3) n_xs c_xs))), (9, (.v (.bool false))), (8, (.v (.bool ((((n_xs : Nat) : Int) : Int) == 0)))), (7, (.v (.int .i64 ((n_xs : Nat) : Int)))), (6, (.v (.slice (some q3) n_xs c_xs))), (5, (.v (.bool false))), (4, (.v (.int .i64 0))), (2, (.p 0 0)), (1, (.v (.slice (some q3) n_xs c_xs)))], [], 1, [], [(0, bk2, (.cells 35 [(.v (.slice A_tk n_tk c_tk)), (.v (.slice A_nm n_nm c_nm)), (.v (.slice A_rs n_rs c_rs))]))]⟩) hz (by kernel_rfl) rfl ?_
      refine WD_done (by decide +kernel) ?_
      refine WK_keep [24, 5, 4, 1] [] rfl rfl ?_
      refine WQ_code ?_
      refine WC_cond (b := (decide (((IntKind.i64.wrap ((-1) - x6)) : Int) ≥ ((n_rs : Nat) : Int)))) rfl (fun hb2 => ?_) (fun hb2 => ?_)
      · replace hb2 := of_decide_eq_true hb2
        rw [hwr] at hb2
        refine WC_seq (WC_region ?_)
        refine WL_execS htb 2 [5, 4, 1] [] ⟨[(5, (.v (.bool false))), (4, (.v (.int .i64 0))), (1, (.v (.slice (some q3) n_xs c_xs)))], [], 1, [], [(0, bk2, (.cells 35 [(.v (.slice A_tk n_tk c_tk)), (.v (.slice A_nm n_nm c_nm)), (.v (.slice A_rs n_rs c_rs))]))]⟩ (by kernel_rfl) ?_
        refine WL_nil ?_
        refine WQ_code ?_
        refine WC_ret ?_
        refine WQ_then_ret ?_
        exact WQ_done htb [(.v (.int .i64 0)), (.v (.bool false))] _ (.inl rfl) rfl (by kernel_rfl) (fun ρ w hW => ⟨0, false, rfl, (by omega), (ruleS_no3 hx4 (by omega) (by omega)).symm⟩)
      · replace hb2 := of_decide_eq_false hb2
        rw [hwr] at hb2
        refine WC_skip ?_
        refine WQ_code ?_
        refine WC_seq (WC_region ?_)
        refine WL_execS htb 1 [25, 5, 4] [] ⟨[(25, (.v (.slice (some q3) n_xs c_xs))), (5, (.v (.bool false))), (4, (.v (.int .i64 0)))], [], 1, [], [(0, bk2, (.cells 35 [(.v (.slice A_tk n_tk c_tk)), (.v (.slice A_nm n_nm c_nm)), (.v (.slice A_rs n_rs c_rs))]))]⟩ (by kernel_rfl) ?_
        obtain ⟨_, ⟨rfl, hn13⟩, at12⟩ := h_xs.getk hx4
        have bdhn13 := bd_of hn13
        replace at12 : At G1 (q3.add (0 * 1)) [.int .i64 x6] := at12
        refine WL_op (WOp_idx htb q3 n_xs 0 1 (by kernel_rfl) (by omega) (by omega) ?_)
        refine WL_op (WOp_ld htb (q3.add (0 * 1)) false 1 [.int .i64 x6] (by kernel_rfl) at12 rfl (by decide) ?_)
        refine WL_execS htb 3 [5, 4] [] ⟨[(5, (.v (.bool true))), (4, (.v (.int .i64 (IntKind.i64.wrap ((-1) - x6)))))], [], 1, [], [(0, bk2, (.cells 35 [(.v (.slice A_tk n_tk c_tk)), (.v (.slice A_nm n_nm c_nm)), (.v (.slice A_rs n_rs c_rs))]))]⟩ (by kernel_rfl) ?_
        refine WL_nil ?_
        refine WQ_code ?_
        refine WC_ret ?_
        exact WQ_done htb [(.v (.int .i64 (IntKind.i64.wrap ((-1) - x6)))), (.v (.bool true))] _ (.inl rfl) rfl (by kernel_rfl) (fun ρ w hW => ⟨(IntKind.i64.wrap ((-1) - x6)), true, rfl, (by omega), (ruleS_yes hx4 (by omega) hwr (by omega)).symm⟩)

theorem put_ok {w : World} {G : Heap} (hG : Has w G) {xs : (List Int)} {A_xs : Option Addr} {n_xs : Nat} {c_xs : Nat} {zs : (List Int)} {A_zs : Option Addr} {n_zs : Nat} {c_zs : Nat} (h_xs : Sl (tInt .i64) G A_xs n_xs c_xs xs) (h_zs : Sl (tInt .i64) G A_zs n_zs c_zs zs) (hb0 : 1 ≤ n_zs) (hb1 : n_xs ≤ 1000000000) (hb2 : n_zs ≤ 1000000000) :
    Calls Try.prog 47 #[(.slice A_xs n_xs c_xs), (.slice A_zs n_zs c_zs)] w (Ret w G fun v G' => ∃ (A_ys : Option Addr) (n_ys : Nat) (c_ys : Nat), v = .slice A_ys n_ys c_ys ∧ (Sl (tInt .i64) G' A_ys n_ys c_ys (xs ++ zs.drop 1)) ∧ (True)) := by
  have lh_xs := h_xs.len'
  have lh_zs := h_zs.len'
  refine enter [(.v (.slice A_xs n_xs c_xs)), (.v (.slice A_zs n_zs c_zs))] 10 Try.func47 rfl rfl rfl rfl hG ?_
  refine WC_seq (WC_region ?_)
  refine WL_execS htb 1 [4, 0, 1] [] ⟨[(4, (.v (.slice none 0 0))), (0, (.v (.slice A_xs n_xs c_xs))), (1, (.v (.slice A_zs n_zs c_zs)))], [], 0, [], []⟩ (by kernel_rfl) ?_
  refine WL_nil ?_
  refine WQ_code ?_
  refine WC_seq (WC_draw mixed ?_)
  refine WK_keep [0, 1] [] rfl rfl ?_
  refine WD_takeL htb rfl (fun _ _ _ _ _ h => h) (Le.refl _) [0, 2] (fuel := 4) (listed' := #[true, false, true, false, false, false]) (S' := ⟨[(7, (.v (.slice A_zs n_zs c_zs))), (5, (.v (.slice A_xs n_xs c_xs))), (0, (.v (.slice A_xs n_xs c_xs))), (1, (.v (.slice A_zs n_zs c_zs)))], [], 0, [], []⟩) (FZ.nil _) (by kernel_rfl) rfl ?_
  obtain ⟨A1, hA2⟩ : ∃ A, sliceAddr A_zs c_zs 1 1 = A := ⟨_, rfl⟩
  have hs3 := h_zs.from 1 (by omega) hA2
  refine WD_sl htb 3 (by rfl) rfl (by decide +kernel) (fun _ _ _ _ _ h => h) (Le.refl _) A_zs n_zs c_zs 1 n_zs 1 (by kernel_rfl) (by omega) (by omega) hA2 ?_
  have lhs3 := hs3.len'
  refine WK_off 3 rfl ?_
  have ho4 : OwnL (tInt .i64) G [] #[] 0 := OwnL.nil _ _
  refine WD_one 1 (by rfl) (by decide +kernel) (WOp_appendN htb true 0 0 0 A_xs n_xs 3 1 8 (by kernel_rfl) (by kernel_rfl) rfl rfl (tInt .i64) (xs := []) (ys := xs) ho4 rfl (fun _ => rfl) h_xs.row h_xs.len rfl (by decide) (by first | omega | (simp only [List.length_append, List.length_nil, List.length_drop, List.length_take, List.length_cons]; omega)) (by unfold big; first | omega | (simp only [List.length_append, List.length_nil, List.length_drop, List.length_take, List.length_cons]; omega)) (fun z5 arr6 cap7 hz8 ho9 => WD_on (Le.refl _) ?_))
  show WD _ _ _ _ _ _ _ _ _ ⟨[(6, (.ls z5 1 (([] ++ xs).length) cap7)), (8, (.v (.slice A1 (n_zs - 1) (c_zs - 1)))), (7, (.v (.slice A_zs n_zs c_zs))), (5, (.v (.slice A_xs n_xs c_xs))), (0, (.v (.slice A_xs n_xs c_xs))), (1, (.v (.slice A_zs n_zs c_zs)))], [(1, (.lst z5 3 arr6))], 2, [], []⟩
  refine WD_one 4 (by rfl) (by decide +kernel) (WOp_append htb z5 1 (([] ++ xs).length) cap7 A1 (n_zs - 1) 3 1 8 (by kernel_rfl) (by kernel_rfl) rfl rfl (tInt .i64) (xs := ([] ++ xs)) (ys := (zs.drop 1)) ho9 rfl hz8 hs3.row hs3.len rfl (by decide) (by first | omega | (simp only [List.length_append, List.length_nil, List.length_drop, List.length_take, List.length_cons]; omega)) (by unfold big; first | omega | (simp only [List.length_append, List.length_nil, List.length_drop, List.length_take, List.length_cons]; omega)) (fun z10 arr11 cap12 hz13 ho14 => WD_on (Le.refl _) ?_))
  show WD _ _ _ _ _ _ _ _ _ ⟨[(9, (.ls z10 2 ((([] ++ xs) ++ (zs.drop 1)).length) cap12)), (6, (.ls z5 1 (([] ++ xs).length) cap7)), (8, (.v (.slice A1 (n_zs - 1) (c_zs - 1)))), (7, (.v (.slice A_zs n_zs c_zs))), (5, (.v (.slice A_xs n_xs c_xs))), (0, (.v (.slice A_xs n_xs c_xs))), (1, (.v (.slice A_zs n_zs c_zs)))], [(2, (.lst z10 3 arr11))], 3, [], []⟩
  refine WD_takeL htb rfl (fun _ _ _ _ _ h => h) (Le.refl _) [5] (fuel := 0) (listed' := #[true, true, true, true, true, true]) (S' := ⟨[(4, (.ls z10 2 ((([] ++ xs) ++ (zs.drop 1)).length) cap12)), (9, (.ls z10 2 ((([] ++ xs) ++ (zs.drop 1)).length) cap12)), (6, (.ls z5 1 (([] ++ xs).length) cap7)), (8, (.v (.slice A1 (n_zs - 1) (c_zs - 1)))), (7, (.v (.slice A_zs n_zs c_zs))), (5, (.v (.slice A_xs n_xs c_xs))), (0, (.v (.slice A_xs n_xs c_xs))), (1, (.v (.slice A_zs n_zs c_zs)))], [(2, (.lst z10 3 arr11))], 3, [], []⟩) (FZ.nil _) (by kernel_rfl) rfl ?_
  refine WD_done (by decide +kernel) ?_
  refine WK_keep [4] [2] rfl rfl ?_
  refine WQ_code ?_
  refine WC_ret ?_
  refine WK_freezeL 2 rfl rfl ?_
  intro bk16 G15 hle hbk16
  replace h_xs := h_xs.mono hle
  replace h_zs := h_zs.mono hle
  replace hs3 := hs3.mono hle
  obtain ⟨A18, n19, c20, e21, hs17⟩ := OwnL.sl (n := (([] ++ xs) ++ (zs.drop 1)).length) ho14 hle hz13 hbk16 rfl
  refine WK_env [(4, (.v (.slice A18 n19 c20)))] (fun ρ => ⟨rfl, e21, trivial⟩) ?_
  have lhs17 := hs17.len'
  exact WQ_done htb [(.v (.slice A18 n19 c20))] _ (.inl rfl) rfl (by kernel_rfl) (fun ρ w hW => ⟨_, _, _, rfl, (by rw [(by rw [List.nil_append] : (xs ++ zs.drop 1) = (([] ++ xs) ++ (zs.drop 1)))]; exact hs17), trivial⟩)

end Go.Proofs.Ytbpajkjolhoflaa.Sym
