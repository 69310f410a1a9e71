/- Walks of functions that the laws of this seat reach, printed by a program of this session's. -/
import Derived.Test.YtbpajkjolhoflaaT9
set_option linter.unusedSimpArgs false
set_option linter.unusedVariables false
set_option maxHeartbeats 4000000
namespace Go.Proofs.Ytbpajkjolhoflaa.Sym
open Go Go.Proofs Go.RowKit

theorem dropS_nil {a b : List Int} (h : a.length = 0 ∨ b.length = 0) : dropS (a, b) = (([], []), false) := by
  cases a with
  | nil => rfl
  | cons x a => cases b with
    | nil => rfl
    | cons y b => simp at h
theorem splitS_nil {a b : List Int} (h : a.length = 0 ∨ b.length = 0) : splitS (a, b) = (([], []), ([], []), false) := by
  cases a with
  | nil => rfl
  | cons x a => cases b with
    | nil => rfl
    | cons y b => simp at h
theorem splitS_yes' {a b : List Int} (h1 : 0 < a.length) (h2 : 0 < b.length) : splitS (a, b) = (((a.take 1).drop 0, (b.take 1).drop 0), (a.drop 1, b.drop 1), true) := by
  cases a with
  | nil => simp at h1
  | cons x a => cases b with
    | nil => simp at h2
    | cons y b => simp [splitS]
def ruleS (rs : List (List (List Int))) (xs : List Int) : Int × Bool :=
  match xs with
  | [] => (0, false)
  | x :: _ => if 0 ≤ x then (0, false) else if ((rs.length : Nat) : Int) ≤ - x - 1 then (0, false) else (- x - 1, true)
theorem ruleS_no1 {rs : List (List (List Int))} {xs : List Int} (h : xs.length = 0) : ruleS rs xs = (0, false) := by
  cases xs with
  | nil => rfl
  | cons x l => simp at h
theorem ruleS_no2 {rs : List (List (List Int))} {xs : List Int} {x : Int} (h : xs[0]? = some x) (h1 : x ≥ 0) : ruleS rs xs = (0, false) := by
  cases xs with
  | nil => rfl
  | cons y l => simp at h; subst h; simp only [ruleS, if_pos h1]
theorem ruleS_no3 {rs : List (List (List Int))} {xs : List Int} {x : Int} (h : xs[0]? = some x) (h1 : x < 0) (h2 : ((rs.length : Nat) : Int) ≤ - x - 1) : ruleS rs xs = (0, false) := by
  cases xs with
  | nil => rfl
  | cons y l => simp at h; subst h; simp only [ruleS, if_pos h2, ite_self]
theorem ruleS_yes {rs : List (List (List Int))} {xs : List Int} {x z : Int} (h : xs[0]? = some x) (h1 : x < 0) (hz : z = - x - 1) (h2 : ¬ ((rs.length : Nat) : Int) ≤ - x - 1) : ruleS rs xs = (z, true) := by
  cases xs with
  | nil => simp at h
  | cons y l => simp at h; subst h; subst hz; simp only [ruleS, if_neg h2, if_neg (show ¬ 0 ≤ y by omega)]
theorem rule_ok {w : World} {G : Heap} (hG : Has w G) {tk : (List ByteArray)} {A_tk : Option Addr} {n_tk : Nat} {c_tk : Nat} {nm : (List ByteArray)} {A_nm : Option Addr} {n_nm : Nat} {c_nm : Nat} {rs : (List (List (List Int)))} {A_rs : Option Addr} {n_rs : Nat} {c_rs : Nat} {xs : (List Int)} {A_xs : Option Addr} {n_xs : Nat} {c_xs : Nat} (h_tk : Sl tStr G A_tk n_tk c_tk tk) (h_nm : Sl tStr G A_nm n_nm c_nm nm) (h_rs : Sl (tSlice (tSlice (tInt .i64))) G A_rs n_rs c_rs rs) (h_xs : Sl (tInt .i64) G A_xs n_xs c_xs xs) :
    Calls Try.prog 46 #[(.agg #[.slice A_tk n_tk c_tk, .slice A_nm n_nm c_nm, .slice A_rs n_rs c_rs]), (.slice A_xs n_xs c_xs)] w (Ret w G fun v G' => ∃ (r : Int) (ok : Bool), v = .tuple #[.int .i64 r, .bool ok] ∧ (-9223372036854775808 ≤ r ∧ r ≤ 9223372036854775807) ∧ ((r, ok) = ruleS rs xs)) := by
  have lh_tk := h_tk.len'
  have lh_nm := h_nm.len'
  have lh_rs := h_rs.len'
  have lh_xs := h_xs.len'
  refine enter [(.agg [(sS A_tk n_tk c_tk), (sS A_nm n_nm c_nm), (sS A_rs n_rs c_rs)]), (sS A_xs n_xs c_xs)] 29 Try.func46 rfl rfl rfl rfl hG ?_
  refine WC_seq (WC_region ?_)
  refine WL_execS htb 3 [2, 1] [0] ⟨[(2, (.p 0 0)), (1, (sS A_xs n_xs c_xs))], [(0, (.cells 35 [(sS A_tk n_tk c_tk), (sS A_nm n_nm c_nm), (sS A_rs n_rs c_rs)]))], 1, [], []⟩ (by kernel_rfl) ?_
  refine WL_nil ?_
  refine WQ_code ?_
  refine WC_seq ?_
  refine WK_freeze 0 rfl rfl rfl rfl ?_
  intro bk2 G1 hle hbk2
  replace h_tk := h_tk.mono hle
  replace h_nm := h_nm.mono hle
  replace h_rs := h_rs.mono hle
  replace h_xs := h_xs.mono hle
  have hz := FZ.cons (h := 0) hbk2 rfl (FZ.nil _)
  refine WC_seq (WC_draw mixed ?_)
  refine WD_takeL htb rfl (fun _ _ _ _ _ h => h) (Le.refl _) [0, 1, 2, 3] (fuel := 15) (listed' := bts 19 15) (S' := ⟨[(9, (bB ((((n_xs : Nat) : Int) : Int) == 0))), (8, (bB ((((n_xs : Nat) : Int) : Int) == 0))), (7, (iN n_xs)), (6, (sS A_xs n_xs c_xs)), (2, (.p 0 0)), (1, (sS A_xs n_xs c_xs))], [], 1, [], [(0, bk2, (.cells 35 [(sS A_tk n_tk c_tk), (sS A_nm n_nm c_nm), (sS A_rs n_rs c_rs)]))]⟩) hz (by kernel_rfl) rfl ?_
  refine WK_split 9 ((((n_xs : Nat) : Int) : Int) == 0) rfl (fun hb0 => ?_) (fun hb0 => ?_)
  · replace hb0 := eq_of_beq hb0
    refine WK_keep [9, 8, 7, 6, 2, 1] [] rfl rfl ?_
    refine WD_takeL htb rfl (fun _ _ _ _ _ h => h) (Le.refl _) [4, 5, 6, 7, 8, 9, 10, 11, 12, 13, 14, 15, 16, 17, 18] (fuel := 0) (listed' := bts 19 524287) (S' := ⟨[(24, (bB true)), (23, (.v (undef))), (22, (.v (undef))), (21, (.v (undef))), (20, (.v (undef))), (19, (.v (undef))), (18, (.v (undef))), (17, (.v (undef))), (16, (.v (undef))), (15, (bB true)), (14, (bB true)), (13, (.v (undef))), (12, (.v (undef))), (11, (.v (undef))), (10, (.v (undef))), (9, (bB true)), (8, (bB ((((n_xs : Nat) : Int) : Int) == 0))), (7, (iN n_xs)), (6, (sS A_xs n_xs c_xs)), (2, (.p 0 0)), (1, (sS A_xs n_xs c_xs))], [], 1, [], [(0, bk2, (.cells 35 [(sS A_tk n_tk c_tk), (sS A_nm n_nm c_nm), (sS A_rs n_rs c_rs)]))]⟩) hz (by kernel_rfl) rfl ?_
    refine WD_done (by decide +kernel) ?_
    refine WK_keep [24, 1] [] rfl rfl ?_
    refine WQ_code ?_
    refine WC_cond (b := true) rfl (fun _ => ?_) (fun h => by cases h)
    refine WC_seq (WC_region ?_)
    refine WL_execS htb 2 [5, 4] [] ⟨[(5, (bB false)), (4, (iI 0))], [], 1, [], [(0, bk2, (.cells 35 [(sS A_tk n_tk c_tk), (sS A_nm n_nm c_nm), (sS A_rs n_rs c_rs)]))]⟩ (by kernel_rfl) ?_
    refine WL_nil ?_
    refine WQ_code ?_
    refine WC_ret ?_
    refine WQ_then_ret ?_
    exact WQ_done htb [(iI 0), (bB false)] _ (.inl rfl) rfl (by kernel_rfl) (fun ρ w hW => ⟨0, false, rfl, (by omega), (ruleS_no1 (by omega)).symm⟩)
  · replace hb0 := ne_of_beq_false hb0
    refine WK_keep [9, 8, 7, 6, 2, 1] [] rfl rfl ?_
    refine WD_takeL htb rfl (fun _ _ _ _ _ h => h) (Le.refl _) [4] (fuel := 14) (listed' := bts 19 31) (S' := ⟨[(10, (sS A_xs n_xs c_xs)), (9, (bB false)), (8, (bB ((((n_xs : Nat) : Int) : Int) == 0))), (7, (iN n_xs)), (6, (sS A_xs n_xs c_xs)), (2, (.p 0 0)), (1, (sS A_xs n_xs c_xs))], [], 1, [], [(0, bk2, (.cells 35 [(sS A_tk n_tk c_tk), (sS A_nm n_nm c_nm), (sS A_rs n_rs c_rs)]))]⟩) hz (by kernel_rfl) rfl ?_
    obtain ⟨q3, rfl⟩ := h_xs.ptr (by omega)
    obtain ⟨x6, _, hx4, ⟨rfl, hn7⟩, at5⟩ := h_xs.get 0 (by omega)
    have bdhn7 : -9223372036854775808 ≤ x6 ∧ x6 ≤ 9223372036854775807 := bd_of hn7
    replace at5 : At G1 (q3.add (0 * 1)) [.int .i64 x6] := at5
    refine WD_idx htb 5 (by rfl) rfl (by decide +kernel) (fun _ _ _ _ _ h => h) (Le.refl _) q3 n_xs 0 1 (by kernel_rfl) (by omega) (by omega) ?_
    refine WD_ld htb 6 (by rfl) rfl (by decide +kernel) (fun _ _ _ _ _ h => h) (Le.refl _) (q3.add (0 * 1)) false 1 [.int .i64 x6] (by kernel_rfl) at5 rfl (by decide) ?_
    refine WD_takeL htb rfl (fun _ _ _ _ _ h => h) (Le.refl _) [7, 8, 9] (fuel := 9) (listed' := bts 19 1023) (S' := ⟨[(15, (bB (decide ((x6 : Int) ≥ 0)))), (14, (bB (decide ((x6 : Int) ≥ 0)))), (13, (bB (decide ((x6 : Int) ≥ 0)))), (12, (iI x6)), (11, (.v (.pointer (some (q3.add (0 * 1)))))), (10, (sS (some q3) n_xs c_xs)), (9, (bB false)), (8, (bB ((((n_xs : Nat) : Int) : Int) == 0))), (7, (iN n_xs)), (6, (sS (some q3) n_xs c_xs)), (2, (.p 0 0)), (1, (sS (some q3) n_xs c_xs))], [], 1, [], [(0, bk2, (.cells 35 [(sS A_tk n_tk c_tk), (sS A_nm n_nm c_nm), (sS A_rs n_rs c_rs)]))]⟩) hz (by kernel_rfl) rfl ?_
    refine WK_split 15 (decide ((x6 : Int) ≥ 0)) rfl (fun hb1 => ?_) (fun hb1 => ?_)
    · replace hb1 := of_decide_eq_true hb1
      refine WK_keep [15, 14, 13, 12, 11, 10, 9, 8, 7, 6, 2, 1] [] rfl rfl ?_
      refine WD_takeL htb rfl (fun _ _ _ _ _ h => h) (Le.refl _) [10, 11, 12, 13, 14, 15, 16, 17, 18] (fuel := 0) (listed' := bts 19 524287) (S' := ⟨[(24, (bB true)), (23, (.v (undef))), (22, (.v (undef))), (21, (.v (undef))), (20, (.v (undef))), (19, (.v (undef))), (18, (.v (undef))), (17, (.v (undef))), (16, (.v (undef))), (15, (bB true)), (14, (bB (decide ((x6 : Int) ≥ 0)))), (13, (bB (decide ((x6 : Int) ≥ 0)))), (12, (iI x6)), (11, (.v (.pointer (some (q3.add (0 * 1)))))), (10, (sS (some q3) n_xs c_xs)), (9, (bB false)), (8, (bB ((((n_xs : Nat) : Int) : Int) == 0))), (7, (iN n_xs)), (6, (sS (some q3) n_xs c_xs)), (2, (.p 0 0)), (1, (sS (some q3) n_xs c_xs))], [], 1, [], [(0, bk2, (.cells 35 [(sS A_tk n_tk c_tk), (sS A_nm n_nm c_nm), (sS A_rs n_rs c_rs)]))]⟩) hz (by kernel_rfl) rfl ?_
      refine WD_done (by decide +kernel) ?_
      refine WK_keep [24, 1] [] rfl rfl ?_
      refine WQ_code ?_
      refine WC_cond (b := true) rfl (fun _ => ?_) (fun h => by cases h)
      refine WC_seq (WC_region ?_)
      refine WL_execS htb 2 [5, 4] [] ⟨[(5, (bB false)), (4, (iI 0))], [], 1, [], [(0, bk2, (.cells 35 [(sS A_tk n_tk c_tk), (sS A_nm n_nm c_nm), (sS A_rs n_rs c_rs)]))]⟩ (by kernel_rfl) ?_
      refine WL_nil ?_
      refine WQ_code ?_
      refine WC_ret ?_
      refine WQ_then_ret ?_
      exact WQ_done htb [(iI 0), (bB false)] _ (.inl rfl) rfl (by kernel_rfl) (fun ρ w hW => ⟨0, false, rfl, (by omega), (ruleS_no2 hx4 hb1).symm⟩)
    · replace hb1 := of_decide_eq_false hb1
      refine WK_keep [15, 14, 13, 12, 11, 10, 9, 8, 7, 6, 2, 1] [] rfl rfl ?_
      have hwr : IntKind.i64.wrap (-1 - x6) = - x6 - 1 := by rw [wrap_id (by omega)]; omega
      refine WD_takeL htb rfl (fun _ _ _ _ _ h => h) (Le.refl _) [10, 14, 15, 16] (fuel := 5) (listed' := bts 19 116735) (S' := ⟨[(22, (iN n_rs)), (21, (sS A_rs n_rs c_rs)), (20, (.p 0 2)), (16, (sS (some q3) n_xs c_xs)), (15, (bB false)), (14, (bB (decide ((x6 : Int) ≥ 0)))), (13, (bB (decide ((x6 : Int) ≥ 0)))), (12, (iI x6)), (11, (.v (.pointer (some (q3.add (0 * 1)))))), (10, (sS (some q3) n_xs c_xs)), (9, (bB false)), (8, (bB ((((n_xs : Nat) : Int) : Int) == 0))), (7, (iN n_xs)), (6, (sS (some q3) n_xs c_xs)), (2, (.p 0 0)), (1, (sS (some q3) n_xs c_xs))], [], 1, [], [(0, bk2, (.cells 35 [(sS A_tk n_tk c_tk), (sS A_nm n_nm c_nm), (sS A_rs n_rs c_rs)]))]⟩) hz (by kernel_rfl) rfl ?_
      obtain ⟨_, ⟨rfl, hn10⟩, at9⟩ := h_xs.getk hx4
      have bdhn10 : -9223372036854775808 ≤ x6 ∧ x6 ≤ 9223372036854775807 := bd_of hn10
      replace at9 : At G1 (q3.add (0 * 1)) [.int .i64 x6] := at9
      refine WD_idx htb 11 (by rfl) rfl (by decide +kernel) (fun _ _ _ _ _ h => h) (Le.refl _) q3 n_xs 0 1 (by kernel_rfl) (by omega) (by omega) ?_
      refine WD_ld htb 12 (by rfl) rfl (by decide +kernel) (fun _ _ _ _ _ h => h) (Le.refl _) (q3.add (0 * 1)) false 1 [.int .i64 x6] (by kernel_rfl) at9 rfl (by decide) ?_
      refine WD_takeL htb rfl (fun _ _ _ _ _ h => h) (Le.refl _) [13, 17, 18] (fuel := 0) (listed' := bts 19 524287) (S' := ⟨[(24, (bB (decide (((IntKind.i64.wrap ((-1) - x6)) : Int) ≥ ((n_rs : Nat) : Int))))), (23, (bB (decide (((IntKind.i64.wrap ((-1) - x6)) : Int) ≥ ((n_rs : Nat) : Int))))), (19, (iI (IntKind.i64.wrap ((-1) - x6)))), (18, (iI x6)), (17, (.v (.pointer (some (q3.add (0 * 1)))))), (22, (iN n_rs)), (21, (sS A_rs n_rs c_rs)), (20, (.p 0 2)), (16, (sS (some q3) n_xs c_xs)), (15, (bB false)), (14, (bB (decide ((x6 : Int) ≥ 0)))), (13, (bB (decide ((x6 : Int) ≥ 0)))), (12, (iI x6)), (11, (.v (.pointer (some (q3.add (0 * 1)))))), (10, (sS (some q3) n_xs c_xs)), (9, (bB false)), (8, (bB ((((n_xs : Nat) : Int) : Int) == 0))), (7, (iN n_xs)), (6, (sS (some q3) n_xs c_xs)), (2, (.p 0 0)), (1, (sS (some q3) n_xs c_xs))], [], 1, [], [(0, bk2, (.cells 35 [(sS A_tk n_tk c_tk), (sS A_nm n_nm c_nm), (sS A_rs n_rs c_rs)]))]⟩) hz (by kernel_rfl) rfl ?_
      refine WD_done (by decide +kernel) ?_
      refine WK_keep [24, 1] [] rfl rfl ?_
      refine WQ_code ?_
      refine WC_cond (b := (decide (((IntKind.i64.wrap ((-1) - x6)) : Int) ≥ ((n_rs : Nat) : Int)))) rfl (fun hb2 => ?_) (fun hb2 => ?_)
      · replace hb2 := of_decide_eq_true hb2
        rw [hwr] at hb2
        refine WC_seq (WC_region ?_)
        refine WL_execS htb 2 [5, 4] [] ⟨[(5, (bB false)), (4, (iI 0))], [], 1, [], [(0, bk2, (.cells 35 [(sS A_tk n_tk c_tk), (sS A_nm n_nm c_nm), (sS A_rs n_rs c_rs)]))]⟩ (by kernel_rfl) ?_
        refine WL_nil ?_
        refine WQ_code ?_
        refine WC_ret ?_
        refine WQ_then_ret ?_
        exact WQ_done htb [(iI 0), (bB false)] _ (.inl rfl) rfl (by kernel_rfl) (fun ρ w hW => ⟨0, false, rfl, (by omega), (ruleS_no3 hx4 (by omega) (by omega)).symm⟩)
      · replace hb2 := of_decide_eq_false hb2
        rw [hwr] at hb2
        refine WC_skip ?_
        refine WQ_code ?_
        refine WC_seq (WC_region ?_)
        refine WL_execS htb 1 [25] [] ⟨[(25, (sS (some q3) n_xs c_xs))], [], 1, [], [(0, bk2, (.cells 35 [(sS A_tk n_tk c_tk), (sS A_nm n_nm c_nm), (sS A_rs n_rs c_rs)]))]⟩ (by kernel_rfl) ?_
        obtain ⟨_, ⟨rfl, hn13⟩, at12⟩ := h_xs.getk hx4
        have bdhn13 : -9223372036854775808 ≤ x6 ∧ x6 ≤ 9223372036854775807 := bd_of hn13
        replace at12 : At G1 (q3.add (0 * 1)) [.int .i64 x6] := at12
        refine WL_op (WOp_idx htb q3 n_xs 0 1 (by kernel_rfl) (by omega) (by omega) ?_)
        refine WL_op (WOp_ld htb (q3.add (0 * 1)) false 1 [.int .i64 x6] (by kernel_rfl) at12 rfl (by decide) ?_)
        refine WL_execS htb 3 [5, 4] [] ⟨[(5, (bB true)), (4, (iI (IntKind.i64.wrap ((-1) - x6))))], [], 1, [], [(0, bk2, (.cells 35 [(sS A_tk n_tk c_tk), (sS A_nm n_nm c_nm), (sS A_rs n_rs c_rs)]))]⟩ (by kernel_rfl) ?_
        refine WL_nil ?_
        refine WQ_code ?_
        refine WC_ret ?_
        exact WQ_done htb [(iI (IntKind.i64.wrap ((-1) - x6))), (bB true)] _ (.inl rfl) rfl (by kernel_rfl) (fun ρ w hW => ⟨(IntKind.i64.wrap ((-1) - x6)), true, rfl, (by omega), (ruleS_yes hx4 (by omega) hwr (by omega)).symm⟩)

theorem put_ok {w : World} {G : Heap} (hG : Has w G) {xs : (List Int)} {A_xs : Option Addr} {n_xs : Nat} {c_xs : Nat} {zs : (List Int)} {A_zs : Option Addr} {n_zs : Nat} {c_zs : Nat} (h_xs : Sl (tInt .i64) G A_xs n_xs c_xs xs) (h_zs : Sl (tInt .i64) G A_zs n_zs c_zs zs) (hb0 : 1 ≤ n_zs) (hb1 : n_xs ≤ 1000000000) (hb2 : n_zs ≤ 1000000000) :
    Calls Try.prog 47 #[(.slice A_xs n_xs c_xs), (.slice A_zs n_zs c_zs)] w (Ret w G fun v G' => ∃ (A_ys : Option Addr) (n_ys : Nat) (c_ys : Nat), v = .slice A_ys n_ys c_ys ∧ (Sl (tInt .i64) G' A_ys n_ys c_ys (xs ++ zs.drop 1)) ∧ (True)) := by
  have lh_xs := h_xs.len'
  have lh_zs := h_zs.len'
  refine enter [(sS A_xs n_xs c_xs), (sS A_zs n_zs c_zs)] 10 Try.func47 rfl rfl rfl rfl hG ?_
  refine WC_seq (WC_region ?_)
  refine WL_execS htb 1 [0, 1] [] ⟨[(0, (sS A_xs n_xs c_xs)), (1, (sS A_zs n_zs c_zs))], [], 0, [], []⟩ (by kernel_rfl) ?_
  refine WL_nil ?_
  refine WQ_code ?_
  refine WC_seq (WC_draw mixed ?_)
  refine WD_takeL htb rfl (fun _ _ _ _ _ h => h) (Le.refl _) [0, 2] (fuel := 4) (listed' := bts 6 5) (S' := ⟨[(7, (sS A_zs n_zs c_zs)), (5, (sS A_xs n_xs c_xs)), (0, (sS A_xs n_xs c_xs)), (1, (sS A_zs n_zs c_zs))], [], 0, [], []⟩) (FZ.nil _) (by kernel_rfl) rfl ?_
  obtain ⟨A1, hA2⟩ : ∃ A, sliceAddr A_zs c_zs 1 1 = A := ⟨_, rfl⟩
  have hs3 := h_zs.from 1 (by omega) hA2
  refine WD_sl htb 3 (by rfl) rfl (by decide +kernel) (fun _ _ _ _ _ h => h) (Le.refl _) A_zs n_zs c_zs 1 n_zs 1 (by kernel_rfl) (by omega) (by omega) hA2 ?_
  have lhs3 := hs3.len'
  refine WK_off 3 rfl ?_
  have ho4 : OwnL (tInt .i64) G [] #[] 0 := OwnL.nil _ _
  refine WD_one 1 (by rfl) (by decide +kernel) (WOp_appendN htb true 0 0 0 A_xs n_xs 3 1 8 (by kernel_rfl) (by kernel_rfl) rfl rfl (tInt .i64) (xs := []) (ys := xs) ho4 rfl (fun _ => rfl) h_xs.row h_xs.len rfl (by decide) (by first | omega | (simp only [List.length_append, List.length_nil, List.length_drop, List.length_take, List.length_cons]; omega)) (by unfold big; first | omega | (simp only [List.length_append, List.length_nil, List.length_drop, List.length_take, List.length_cons]; omega)) (fun z5 arr6 cap7 hz8 ho9 => WD_on (Le.refl _) ?_))
  show WD _ _ _ _ _ _ _ _ _ ⟨[(6, (.ls z5 1 (([] ++ xs).length) cap7)), (8, (sS A1 (n_zs - 1) (c_zs - 1))), (7, (sS A_zs n_zs c_zs)), (5, (sS A_xs n_xs c_xs)), (0, (sS A_xs n_xs c_xs)), (1, (sS A_zs n_zs c_zs))], [(1, (.lst z5 3 arr6))], 2, [], []⟩
  refine WD_one 4 (by rfl) (by decide +kernel) (WOp_append htb z5 1 (([] ++ xs).length) cap7 A1 (n_zs - 1) 3 1 8 (by kernel_rfl) (by kernel_rfl) rfl rfl (tInt .i64) (xs := ([] ++ xs)) (ys := (zs.drop 1)) ho9 rfl hz8 hs3.row hs3.len rfl (by decide) (by first | omega | (simp only [List.length_append, List.length_nil, List.length_drop, List.length_take, List.length_cons]; omega)) (by unfold big; first | omega | (simp only [List.length_append, List.length_nil, List.length_drop, List.length_take, List.length_cons]; omega)) (fun z10 arr11 cap12 hz13 ho14 => WD_on (Le.refl _) ?_))
  show WD _ _ _ _ _ _ _ _ _ ⟨[(9, (.ls z10 2 ((([] ++ xs) ++ (zs.drop 1)).length) cap12)), (6, (.ls z5 1 (([] ++ xs).length) cap7)), (8, (sS A1 (n_zs - 1) (c_zs - 1))), (7, (sS A_zs n_zs c_zs)), (5, (sS A_xs n_xs c_xs)), (0, (sS A_xs n_xs c_xs)), (1, (sS A_zs n_zs c_zs))], [(2, (.lst z10 3 arr11))], 3, [], []⟩
  refine WD_takeL htb rfl (fun _ _ _ _ _ h => h) (Le.refl _) [5] (fuel := 0) (listed' := bts 6 63) (S' := ⟨[(4, (.ls z10 2 ((([] ++ xs) ++ (zs.drop 1)).length) cap12)), (9, (.ls z10 2 ((([] ++ xs) ++ (zs.drop 1)).length) cap12)), (6, (.ls z5 1 (([] ++ xs).length) cap7)), (8, (sS A1 (n_zs - 1) (c_zs - 1))), (7, (sS A_zs n_zs c_zs)), (5, (sS A_xs n_xs c_xs)), (0, (sS A_xs n_xs c_xs)), (1, (sS A_zs n_zs c_zs))], [(2, (.lst z10 3 arr11))], 3, [], []⟩) (FZ.nil _) (by kernel_rfl) rfl ?_
  refine WD_done (by decide +kernel) ?_
  refine WK_keep [4] [2] rfl rfl ?_
  refine WQ_code ?_
  refine WC_ret ?_
  refine WK_freezeL 2 rfl rfl ?_
  intro bk16 G15 hle hbk16
  obtain ⟨A18, n19, c20, e21, hs17⟩ := OwnL.sl (n := (([] ++ xs) ++ (zs.drop 1)).length) ho14 hle hz13 hbk16 rfl
  refine WK_env [(4, (sS A18 n19 c20))] (fun ρ => ⟨rfl, (by exact e21), trivial⟩) ?_
  have lhs17 := hs17.len'
  exact WQ_done htb [(sS A18 n19 c20)] _ (.inl rfl) rfl (by kernel_rfl) (fun ρ w hW => ⟨_, _, _, rfl, (by rw [(by rw [List.nil_append] : (xs ++ zs.drop 1) = (([] ++ xs) ++ (zs.drop 1)))]; exact hs17), trivial⟩)

end Go.Proofs.Ytbpajkjolhoflaa.Sym
