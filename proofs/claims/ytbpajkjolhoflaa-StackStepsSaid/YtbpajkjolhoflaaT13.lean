/- Walks of functions that the laws of this seat reach, printed by a program of this session's. -/
import Derived.Test.YtbpajkjolhoflaaT12
set_option linter.unusedSimpArgs false
set_option linter.unusedVariables false
set_option maxHeartbeats 4000000
namespace Go.Proofs.Ytbpajkjolhoflaa.Sym
open Go Go.Proofs Go.RowKit


def theseS (ok : Bool) (xs : List (List Int × List Int)) : List (List Int × List Int) × Bool := match ok with
  | true => (xs, true)
  | false => ([], false)
theorem rule_alts0 {rs : List (List (List Int))} {xs : List Int} {r : Int} (h : (r, false) = ruleS rs xs) : ([], false) = altsS rs xs := by
  cases xs with
  | nil => rfl
  | cons x l =>
    simp only [ruleS] at h
    simp only [altsS]
    split at h
    · rename_i h1; rw [if_pos h1]
    · rename_i h1
      rw [if_neg h1]
      split at h
      · rename_i h2
        have : rs[(-x - 1).toNat]? = none := List.getElem?_eq_none (by omega)
        rw [this]
      · simp at h
theorem rule_alts1 {rs : List (List (List Int))} {xs : List Int} {r : Int} (h : (r, true) = ruleS rs xs) : 0 ≤ r ∧ r < rs.length ∧ ∃ al, rs[r.toNat]? = some al := by
  cases xs with
  | nil => simp [ruleS] at h
  | cons x l =>
    simp only [ruleS] at h
    split at h
    · simp at h
    · split at h
      · simp at h
      · injection h with h1 h2
        subst h1
        exact ⟨by omega, by omega, _, List.getElem?_eq_getElem (by omega)⟩
theorem rule_alts2 {rs : List (List (List Int))} {xs : List Int} {r : Int} {al : List (List Int)} (h : (r, true) = ruleS rs xs) (ha : rs[r.toNat]? = some al) : (al, true) = altsS rs xs := by
  cases xs with
  | nil => simp [ruleS] at h
  | cons x l =>
    simp only [ruleS] at h
    split at h
    · simp at h
    · rename_i h1
      split at h
      · simp at h
      · injection h with h2 h3
        subst h2
        simp only [altsS, if_neg h1, ha]
theorem ruleS_ne {rs : List (List (List Int))} {a : List Int} {r : Int} (h : (r, true) = ruleS rs a) : 0 < a.length := by
  cases a with
  | nil => simp [ruleS] at h
  | cons x a => simp
theorem map_step {α β : Type} {f : α → β} {xs : List α} {i : Nat} {x : α} (h : xs[i]? = some x) : (xs.take (i + 1)).map f = (xs.take i).map f ++ [f x] := by
  rw [take_succ' h, List.map_append]; rfl
theorem oldS_yes' {rs : List (List (List Int))} {a b : List Int} {r : List (List Int)} {i : Nat} (h : (r, true) = altsS rs a) (hi : r.length ≤ i) : oldS rs (a, b) = ((r.take i).map (fun x => (x ++ a.drop 1, b)), true) := by
  unfold oldS; simp only [← h]
  rw [List.take_of_length_le hi]
theorem these_ok {w : World} {G : Heap} (hG : Has w G) {ok : Bool} {xs : (List ((List Int) × (List Int)))} {A_xs : Option Addr} {n_xs : Nat} {c_xs : Nat} (h_xs : Sl (tPair (tSlice (tInt .i64)) (tSlice (tInt .i64))) G A_xs n_xs c_xs xs) :
    Calls Try.prog 48 #[(.bool ok), (.slice A_xs n_xs c_xs)] w (Ret w G fun v G' => ∃ (r : (List ((List Int) × (List Int)))) (A_r : Option Addr) (n_r : Nat) (c_r : Nat) (ok2 : Bool), v = .tuple #[.slice A_r n_r c_r, .bool ok2] ∧ (Sl (tPair (tSlice (tInt .i64)) (tSlice (tInt .i64))) G' A_r n_r c_r r) ∧ ((r, ok2) = theseS ok xs)) := by
  have lh_xs := h_xs.len'
  refine enter [(.v (.bool ok)), (.v (.slice A_xs n_xs c_xs))] 9 Try.func48 rfl rfl rfl rfl hG ?_
  refine WC_seq (WC_region ?_)
  refine WL_execS htb 2 [5, 4, 0, 1] [] ⟨[(5, (.v (.bool false))), (4, (.v (.slice none 0 0))), (0, (.v (.bool ok))), (1, (.v (.slice A_xs n_xs c_xs)))], [], 0, [], []⟩ (by kernel_rfl) ?_
  refine WL_nil ?_
  refine WQ_code ?_
  refine WC_seq ?_
  refine WC_seq (WC_region ?_)
  refine WL_execS htb 2 [7, 5, 4, 1] [] ⟨[(7, (.v (.bool (!ok)))), (5, (.v (.bool false))), (4, (.v (.slice none 0 0))), (1, (.v (.slice A_xs n_xs c_xs)))], [], 0, [], []⟩ (by kernel_rfl) ?_
  refine WL_nil ?_
  refine WQ_code ?_
  refine WC_cond (b := (!ok)) rfl (fun hb0 => ?_) (fun hb0 => ?_)
  · rw [Bool.not_eq_true'] at hb0
    refine WC_seq (WC_region ?_)
    refine WL_execS htb 2 [5, 4, 1] [] ⟨[(5, (.v (.bool false))), (4, (.v (.slice none 0 0))), (1, (.v (.slice A_xs n_xs c_xs)))], [], 0, [], []⟩ (by kernel_rfl) ?_
    refine WL_nil ?_
    refine WQ_code ?_
    refine WC_ret ?_
    refine WQ_then_ret ?_
    exact WQ_done htb [(.v (.slice none 0 0)), (.v (.bool false))] _ (.inl rfl) rfl (by kernel_rfl) (fun ρ w hW => ⟨[], _, _, _, false, rfl, (Sl.none0 _ _), by rw [hb0]; rfl⟩)
  · rw [Bool.not_eq_false'] at hb0
    refine WC_skip ?_
    refine WQ_code ?_
    refine WC_seq (WC_region ?_)
    refine WL_execS htb 3 [5, 4] [] ⟨[(5, (.v (.bool true))), (4, (.v (.slice A_xs n_xs c_xs)))], [], 0, [], []⟩ (by kernel_rfl) ?_
    refine WL_nil ?_
    refine WQ_code ?_
    refine WC_ret ?_
    exact WQ_done htb [(.v (.slice A_xs n_xs c_xs)), (.v (.bool true))] _ (.inl rfl) rfl (by kernel_rfl) (fun ρ w hW => ⟨xs, _, _, _, true, rfl, h_xs, by rw [hb0]; rfl⟩)

theorem rold_ok {w : World} {G : Heap} (hG : Has w G) {tk : (List ByteArray)} {A_tk : Option Addr} {n_tk : Nat} {c_tk : Nat} {nm : (List ByteArray)} {A_nm : Option Addr} {n_nm : Nat} {c_nm : Nat} {rs : (List (List (List Int)))} {A_rs : Option Addr} {n_rs : Nat} {c_rs : Nat} {a : (List Int)} {A_a : Option Addr} {n_a : Nat} {c_a : Nat} {b : (List Int)} {A_b : Option Addr} {n_b : Nat} {c_b : Nat} (h_tk : Sl tStr G A_tk n_tk c_tk tk) (h_nm : Sl tStr G A_nm n_nm c_nm nm) (h_rs : Sl (tSlice (tSlice (tInt .i64))) G A_rs n_rs c_rs rs) (h_a : Sl (tInt .i64) G A_a n_a c_a a) (h_b : Sl (tInt .i64) G A_b n_b c_b b) (hr : SmallR rs) (hb1 : n_a ≤ 1000000000) (hb2 : n_b ≤ 1000000000) :
    Calls Try.prog 19 #[(.agg #[.slice A_tk n_tk c_tk, .slice A_nm n_nm c_nm, .slice A_rs n_rs c_rs]), (.agg #[.slice A_a n_a c_a, .slice A_b n_b c_b])] w (Ret w G fun v G' => ∃ (r : (List ((List Int) × (List Int)))) (A_r : Option Addr) (n_r : Nat) (c_r : Nat) (ok : Bool), v = .tuple #[.slice A_r n_r c_r, .bool ok] ∧ (Sl (tPair (tSlice (tInt .i64)) (tSlice (tInt .i64))) G' A_r n_r c_r r) ∧ ((r, ok) = oldS rs (a, b))) := by
  have lh_tk := h_tk.len'
  have lh_nm := h_nm.len'
  have lh_rs := h_rs.len'
  have lh_a := h_a.len'
  have lh_b := h_b.len'
  refine enter [(.agg [(.v (.slice A_tk n_tk c_tk)), (.v (.slice A_nm n_nm c_nm)), (.v (.slice A_rs n_rs c_rs))]), (.agg [(.v (.slice A_a n_a c_a)), (.v (.slice A_b n_b c_b))])] 42 Try.func19 rfl rfl rfl rfl hG ?_
  refine WC_seq (WC_region ?_)
  refine WL_execS htb 4 [5, 4, 3, 2] [1, 0] ⟨[(5, (.v (.bool false))), (4, (.v (.slice none 0 0))), (3, (.p 1 0)), (2, (.p 0 0))], [(1, (.cells 24 [(.v (.slice A_a n_a c_a)), (.v (.slice A_b n_b c_b))])), (0, (.cells 35 [(.v (.slice A_tk n_tk c_tk)), (.v (.slice A_nm n_nm c_nm)), (.v (.slice A_rs n_rs c_rs))]))], 2, [], []⟩ (by kernel_rfl) ?_
  refine WL_nil ?_
  refine WQ_code ?_
  refine WC_seq (WC_region ?_)
  refine WL_execS htb 3 [14, 12, 5, 4, 3, 2] [1, 0] ⟨[(14, (.v (.slice A_a n_a c_a))), (12, (.agg [(.v (.slice A_tk n_tk c_tk)), (.v (.slice A_nm n_nm c_nm)), (.v (.slice A_rs n_rs c_rs))])), (5, (.v (.bool false))), (4, (.v (.slice none 0 0))), (3, (.p 1 0)), (2, (.p 0 0))], [(1, (.cells 24 [(.v (.slice A_a n_a c_a)), (.v (.slice A_b n_b c_b))])), (0, (.cells 35 [(.v (.slice A_tk n_tk c_tk)), (.v (.slice A_nm n_nm c_nm)), (.v (.slice A_rs n_rs c_rs))]))], 2, [], []⟩ (by kernel_rfl) ?_
  refine WL_op (WOp_call 46 [(.agg [(.v (.slice A_tk n_tk c_tk)), (.v (.slice A_nm n_nm c_nm)), (.v (.slice A_rs n_rs c_rs))]), (.v (.slice A_a n_a c_a))] (by kernel_rfl) (goes_of Try.func46 rfl rfl) (fun ρ w hW => rule_ok hW.has (tk := tk) (nm := nm) (rs := rs) (xs := a) h_tk h_nm h_rs h_a) ?_)
  intro G1 v hle hΦ
  replace h_tk := h_tk.mono hle
  replace h_nm := h_nm.mono hle
  replace h_rs := h_rs.mono hle
  replace h_a := h_a.mono hle
  replace h_b := h_b.mono hle
  obtain ⟨r1, r2, rfl, h_r1, hR3⟩ := hΦ
  refine WL_execS htb 5 [7, 6, 5, 4, 3, 2] [1, 0] ⟨[(7, (.v (.bool r2))), (6, (.v (.int .i64 r1))), (5, (.v (.bool false))), (4, (.v (.slice none 0 0))), (3, (.p 1 0)), (2, (.p 0 0))], [(1, (.cells 24 [(.v (.slice A_a n_a c_a)), (.v (.slice A_b n_b c_b))])), (0, (.cells 35 [(.v (.slice A_tk n_tk c_tk)), (.v (.slice A_nm n_nm c_nm)), (.v (.slice A_rs n_rs c_rs))]))], 2, [], []⟩ (by kernel_rfl) ?_
  refine WL_nil ?_
  refine WQ_code ?_
  refine WC_seq ?_
  refine WC_seq (WC_region ?_)
  refine WL_execS htb 2 [19, 6, 5, 4, 3, 2] [1, 0] ⟨[(19, (.v (.bool (!r2)))), (6, (.v (.int .i64 r1))), (5, (.v (.bool false))), (4, (.v (.slice none 0 0))), (3, (.p 1 0)), (2, (.p 0 0))], [(1, (.cells 24 [(.v (.slice A_a n_a c_a)), (.v (.slice A_b n_b c_b))])), (0, (.cells 35 [(.v (.slice A_tk n_tk c_tk)), (.v (.slice A_nm n_nm c_nm)), (.v (.slice A_rs n_rs c_rs))]))], 2, [], []⟩ (by kernel_rfl) ?_
  refine WL_nil ?_
  refine WQ_code ?_
  refine WC_cond (b := (!r2)) rfl (fun hb0 => ?_) (fun hb0 => ?_)
  · rw [Bool.not_eq_true'] at hb0
    rw [hb0] at hR3
    refine WC_seq (WC_region ?_)
    refine WL_execS htb 2 [5, 4, 6, 3, 2] [1, 0] ⟨[(5, (.v (.bool false))), (4, (.v (.slice none 0 0))), (6, (.v (.int .i64 r1))), (3, (.p 1 0)), (2, (.p 0 0))], [(1, (.cells 24 [(.v (.slice A_a n_a c_a)), (.v (.slice A_b n_b c_b))])), (0, (.cells 35 [(.v (.slice A_tk n_tk c_tk)), (.v (.slice A_nm n_nm c_nm)), (.v (.slice A_rs n_rs c_rs))]))], 2, [], []⟩ (by kernel_rfl) ?_
    refine WL_nil ?_
    refine WQ_code ?_
    refine WC_ret ?_
    refine WQ_then_ret ?_
    exact WQ_done htb [(.v (.slice none 0 0)), (.v (.bool false))] _ (.inl rfl) rfl (by kernel_rfl) (fun ρ w hW => ⟨[], _, _, _, false, rfl, (Sl.none0 _ _), (oldS_no (rule_alts0 hR3)).symm⟩)
  · rw [Bool.not_eq_false'] at hb0
    rw [hb0] at hR3
    obtain ⟨hr0, hr1, al0, hal0⟩ := rule_alts1 hR3
    have hne := ruleS_ne hR3
    refine WC_skip ?_
    refine WQ_code ?_
    refine WC_seq (WC_region ?_)
    refine WL_execS htb 1 [8, 6, 5, 4, 3, 2] [1, 0] ⟨[(8, (.v (.slice none 0 0))), (6, (.v (.int .i64 r1))), (5, (.v (.bool false))), (4, (.v (.slice none 0 0))), (3, (.p 1 0)), (2, (.p 0 0))], [(1, (.cells 24 [(.v (.slice A_a n_a c_a)), (.v (.slice A_b n_b c_b))])), (0, (.cells 35 [(.v (.slice A_tk n_tk c_tk)), (.v (.slice A_nm n_nm c_nm)), (.v (.slice A_rs n_rs c_rs))]))], 2, [], []⟩ (by kernel_rfl) ?_
    refine WL_nil ?_
    refine WQ_code ?_
    refine WC_seq ?_
    refine WC_seq (WC_region ?_)
    refine WL_execS htb 3 [22, 21, 8, 5, 4, 3] [1] ⟨[(22, (.v (.int .i64 r1))), (21, (.v (.slice A_rs n_rs c_rs))), (8, (.v (.slice none 0 0))), (5, (.v (.bool false))), (4, (.v (.slice none 0 0))), (3, (.p 1 0))], [(1, (.cells 24 [(.v (.slice A_a n_a c_a)), (.v (.slice A_b n_b c_b))]))], 2, [], []⟩ (by kernel_rfl) ?_
    obtain ⟨q4, rfl⟩ := h_rs.ptr (by omega)
    obtain ⟨x7, _, hx5, hr8, at6⟩ := h_rs.get ((r1 : Int).toNat) (by omega)
    obtain ⟨A10, n11, c12, rfl, hs9⟩ := Sl.of hr8
    have lhs9 := hs9.len'
    replace at6 : At G1 (q4.add (((r1 : Int).toNat) * 1)) [.slice A10 n11 c12] := at6
    refine WL_op (WOp_idx htb q4 n_rs r1 1 (by kernel_rfl) (by omega) (by omega) ?_)
    refine WL_op (WOp_ld htb (q4.add (((r1 : Int).toNat) * 1)) false 1 [.slice A10 n11 c12] (by kernel_rfl) at6 rfl (by decide) ?_)
    refine WL_execS htb 2 [26, 25, 24, 8, 5, 4, 3] [1] ⟨[(26, (.v (.int .i64 0))), (25, (.v (.int .i64 ((n11 : Nat) : Int)))), (24, (.v (.slice A10 n11 c12))), (8, (.v (.slice none 0 0))), (5, (.v (.bool false))), (4, (.v (.slice none 0 0))), (3, (.p 1 0))], [(1, (.cells 24 [(.v (.slice A_a n_a c_a)), (.v (.slice A_b n_b c_b))]))], 2, [], []⟩ (by kernel_rfl) ?_
    refine WL_nil ?_
    refine WQ_code ?_
    refine WC_block ?_
    have hraw := rule_alts2 hR3 hx5
    have hsm := altsS_small hr hraw
    have hlen := l_ok hs9 hsm.1
    refine WK_freeze 1 rfl rfl rfl rfl ?_
    intro bk14 G13 hle hbk14
    replace h_tk := h_tk.mono hle
    replace h_nm := h_nm.mono hle
    replace h_rs := h_rs.mono hle
    replace h_a := h_a.mono hle
    replace h_b := h_b.mono hle
    replace hs9 := hs9.mono hle
    replace at6 := at6.mono hle
    have hz := FZ.cons (h := 1) hbk14 rfl (FZ.nil _)
    refine WK_off 24 rfl ?_
    refine WK_env [(26, (.v (.int .i64 0))), (25, (.v (.int .i64 ((n11 : Nat) : Int)))), (24, (.v (.slice A10 n11 c12))), (8, (.ls true 2 0 0)), (5, (.v (.bool false))), (4, (.v (.slice none 0 0))), (3, (.p 1 0))] (fun ρ => ⟨rfl, rfl, ⟨rfl, rfl, ⟨rfl, rfl, ⟨rfl, rfl, ⟨rfl, rfl, ⟨rfl, rfl, ⟨rfl, rfl, trivial⟩⟩⟩⟩⟩⟩⟩) ?_
    refine WK_keep [26, 25, 24, 8, 5, 4, 3] [2] rfl rfl ?_
    refine WK_env [(26, (.v (.int .i64 ((0 : Nat) : Int)))), (25, (.v (.int .i64 ((n11 : Nat) : Int)))), (24, (.v (.slice A10 n11 c12))), (8, (.ls true 2 0 0)), (5, (.v (.bool false))), (4, (.v (.slice none 0 0))), (3, (.p 1 0))] (fun ρ => ⟨rfl, rfl, ⟨rfl, rfl, ⟨rfl, rfl, ⟨rfl, rfl, ⟨rfl, rfl, ⟨rfl, rfl, ⟨rfl, rfl, trivial⟩⟩⟩⟩⟩⟩⟩) ?_
    refine WC_loop (ι := Nat × Bool × Array Value × Nat) (fun (i, z, arr, cap) G15 => Le G13 G15 ∧ (i ≤ n11 ∧ OwnL (tPair (tSlice (tInt .i64)) (tSlice (tInt .i64))) G15 ((x7.take i).map (fun x => (x ++ a.drop 1, b))) arr cap ∧ (z = true → ((x7.take i).map (fun x => (x ++ a.drop 1, b))) = []))) (fun (i, z, arr, cap) => ⟨[(26, (.v (.int .i64 ((i : Nat) : Int)))), (25, (.v (.int .i64 ((n11 : Nat) : Int)))), (24, (.v (.slice A10 n11 c12))), (8, (.ls z 2 i cap)), (5, (.v (.bool false))), (4, (.v (.slice none 0 0))), (3, (.p 1 0))], [(2, (.lst z 24 arr))], 3, [], [(1, bk14, (.cells 24 [(.v (.slice A_a n_a c_a)), (.v (.slice A_b n_b c_b))]))]⟩) (fun (i, z, arr, cap) => n11 - i) (0, true, #[], 0) ⟨Le.refl _, ⟨Nat.zero_le _, OwnL.nil _ _, fun _ => rfl⟩⟩ rfl ?_
    rintro ⟨i, z, arr, cap⟩ G15 ⟨hle, hF⟩
    show WC _ _ _ _ _ ⟨[(26, (.v (.int .i64 ((i : Nat) : Int)))), (25, (.v (.int .i64 ((n11 : Nat) : Int)))), (24, (.v (.slice A10 n11 c12))), (8, (.ls z 2 i cap)), (5, (.v (.bool false))), (4, (.v (.slice none 0 0))), (3, (.p 1 0))], [(2, (.lst z 24 arr))], 3, [], [(1, bk14, (.cells 24 [(.v (.slice A_a n_a c_a)), (.v (.slice A_b n_b c_b))]))]⟩ _
    replace h_tk := h_tk.mono hle
    replace h_nm := h_nm.mono hle
    replace h_rs := h_rs.mono hle
    replace h_a := h_a.mono hle
    replace h_b := h_b.mono hle
    replace hs9 := hs9.mono hle
    replace at6 := at6.mono hle
    replace hz := hz.mono hle
    have hc16 := hle
    obtain ⟨hi, ho, hz0⟩ := hF
    refine WC_seq (WC_region ?_)
    refine WL_execS htb 1 [27, 26, 25, 24, 8, 5, 4, 3] [2] ⟨[(27, (.v (.bool (decide ((((i : Nat) : Int) : Int) < ((n11 : Nat) : Int)))))), (26, (.v (.int .i64 ((i : Nat) : Int)))), (25, (.v (.int .i64 ((n11 : Nat) : Int)))), (24, (.v (.slice A10 n11 c12))), (8, (.ls z 2 i cap)), (5, (.v (.bool false))), (4, (.v (.slice none 0 0))), (3, (.p 1 0))], [(2, (.lst z 24 arr))], 3, [], [(1, bk14, (.cells 24 [(.v (.slice A_a n_a c_a)), (.v (.slice A_b n_b c_b))]))]⟩ (by kernel_rfl) ?_
    refine WL_nil ?_
    refine WQ_code ?_
    refine WC_seq ?_
    refine WC_cond (b := (decide ((((i : Nat) : Int) : Int) < ((n11 : Nat) : Int)))) rfl (fun hc => ?_) (fun hc => ?_)
    · replace hc := of_decide_eq_true hc
      refine WC_skip ?_
      refine WQ_code ?_
      refine WC_seq ?_
      refine WC_block ?_
      refine WC_seq (WC_region ?_)
      obtain ⟨q17, rfl⟩ := hs9.ptr (by omega)
      obtain ⟨x20, _, hx18, hr21, at19⟩ := hs9.get i (by omega)
      obtain ⟨A23, n24, c25, rfl, hs22⟩ := Sl.of hr21
      have lhs22 := hs22.len'
      replace at19 : At G15 (q17.add (i * 1)) [.slice A23 n24 c25] := at19
      refine WL_op (WOp_idx htb q17 n11 ((i : Nat) : Int) 1 (by kernel_rfl) (by omega) (by omega) ?_)
      refine WL_op (WOp_ld htb (q17.add (i * 1)) false 1 [.slice A23 n24 c25] (by kernel_rfl) at19 rfl (by decide) ?_)
      refine WL_execS htb 1 [10, 29, 28, 27, 26, 25, 24, 8, 5, 4, 3] [2] ⟨[(10, (.v (.slice A23 n24 c25))), (29, (.v (.slice A23 n24 c25))), (28, (.v (.pointer (some (q17.add (i * 1)))))), (27, (.v (.bool (decide ((((i : Nat) : Int) : Int) < ((n11 : Nat) : Int)))))), (26, (.v (.int .i64 ((i : Nat) : Int)))), (25, (.v (.int .i64 ((n11 : Nat) : Int)))), (24, (.v (.slice (some q17) n11 c12))), (8, (.ls z 2 i cap)), (5, (.v (.bool false))), (4, (.v (.slice none 0 0))), (3, (.p 1 0))], [(2, (.lst z 24 arr))], 3, [], [(1, bk14, (.cells 24 [(.v (.slice A_a n_a c_a)), (.v (.slice A_b n_b c_b))]))]⟩ (by kernel_rfl) ?_
      refine WL_nil ?_
      refine WQ_code ?_
      refine WC_draw mixed ?_
      refine WD_takeL htb rfl (fun _ _ _ _ _ h => h) (Le.refl _) [0, 1, 2, 3, 5, 6] (fuel := 5) (listed' := #[true, true, true, true, false, true, true, false, false, false, false]) (S' := ⟨[(36, (.v (.slice A_b n_b c_b))), (35, (.p 1 1)), (33, (.v (.slice A_a n_a c_a))), (32, (.p 1 0)), (31, (.v (.slice A23 n24 c25))), (30, (.ls z 2 i cap)), (10, (.v (.slice A23 n24 c25))), (29, (.v (.slice A23 n24 c25))), (28, (.v (.pointer (some (q17.add (i * 1)))))), (27, (.v (.bool (decide ((((i : Nat) : Int) : Int) < ((n11 : Nat) : Int)))))), (26, (.v (.int .i64 ((i : Nat) : Int)))), (25, (.v (.int .i64 ((n11 : Nat) : Int)))), (24, (.v (.slice (some q17) n11 c12))), (8, (.ls z 2 i cap)), (5, (.v (.bool false))), (4, (.v (.slice none 0 0))), (3, (.p 1 0))], [(2, (.lst z 24 arr))], 3, [], [(1, bk14, (.cells 24 [(.v (.slice A_a n_a c_a)), (.v (.slice A_b n_b c_b))]))]⟩) hz (by kernel_rfl) rfl ?_
      refine WD_one 4 (by rfl) (by decide +kernel) (WOp_call 47 [(.v (.slice A23 n24 c25)), (.v (.slice A_a n_a c_a))] (by kernel_rfl) (goes_of Try.func47 rfl rfl) (fun ρ w hW => put_ok hW.has (xs := x20) (zs := a) hs22 h_a (by omega) (by have := hsm.2 _ (List.mem_of_getElem? hx18); omega) (by omega)) ?_)
      intro G2 v hle hΦ
      replace hc16 := Le.trans hc16 hle
      replace h_tk := h_tk.mono hle
      replace h_nm := h_nm.mono hle
      replace h_rs := h_rs.mono hle
      replace h_a := h_a.mono hle
      replace h_b := h_b.mono hle
      replace hs9 := hs9.mono hle
      replace at6 := at6.mono hle
      replace hs22 := hs22.mono hle
      replace at19 := at19.mono hle
      replace hz := hz.mono hle
      replace ho := ho.mono hle
      obtain ⟨A_r26, n_r26, c_r26, rfl, h_r26, hR27⟩ := hΦ
      have lh_r26 := h_r26.len'
      refine WD_on hle ?_
      refine WD_up hle ?_
      refine WD_takeL htb rfl (fun _ _ _ _ _ h => h) (Le.refl _) [7] (fuel := 3) (listed' := #[true, true, true, true, true, true, true, true, false, false, false]) (S' := ⟨[(37, (.agg [(.v (.slice A_r26 n_r26 c_r26)), (.v (.slice A_b n_b c_b))])), (34, (.v (.slice A_r26 n_r26 c_r26))), (36, (.v (.slice A_b n_b c_b))), (35, (.p 1 1)), (33, (.v (.slice A_a n_a c_a))), (32, (.p 1 0)), (31, (.v (.slice A23 n24 c25))), (30, (.ls z 2 i cap)), (10, (.v (.slice A23 n24 c25))), (29, (.v (.slice A23 n24 c25))), (28, (.v (.pointer (some (q17.add (i * 1)))))), (27, (.v (.bool (decide ((((i : Nat) : Int) : Int) < ((n11 : Nat) : Int)))))), (26, (.v (.int .i64 ((i : Nat) : Int)))), (25, (.v (.int .i64 ((n11 : Nat) : Int)))), (24, (.v (.slice (some q17) n11 c12))), (8, (.ls z 2 i cap)), (5, (.v (.bool false))), (4, (.v (.slice none 0 0))), (3, (.p 1 0))], [(2, (.lst z 24 arr))], 3, [], [(1, bk14, (.cells 24 [(.v (.slice A_a n_a c_a)), (.v (.slice A_b n_b c_b))]))]⟩) hz (by kernel_rfl) rfl ?_
      refine WD_one 8 (by rfl) (by decide +kernel) (WOp_step htb (S' := ⟨[(38, (.s 3 1 1)), (37, (.agg [(.v (.slice A_r26 n_r26 c_r26)), (.v (.slice A_b n_b c_b))])), (34, (.v (.slice A_r26 n_r26 c_r26))), (36, (.v (.slice A_b n_b c_b))), (35, (.p 1 1)), (33, (.v (.slice A_a n_a c_a))), (32, (.p 1 0)), (31, (.v (.slice A23 n24 c25))), (30, (.ls z 2 i cap)), (10, (.v (.slice A23 n24 c25))), (29, (.v (.slice A23 n24 c25))), (28, (.v (.pointer (some (q17.add (i * 1)))))), (27, (.v (.bool (decide ((((i : Nat) : Int) : Int) < ((n11 : Nat) : Int)))))), (26, (.v (.int .i64 ((i : Nat) : Int)))), (25, (.v (.int .i64 ((n11 : Nat) : Int)))), (24, (.v (.slice (some q17) n11 c12))), (8, (.ls z 2 i cap)), (5, (.v (.bool false))), (4, (.v (.slice none 0 0))), (3, (.p 1 0))], [(3, (.cells 24 [(.v (.slice A_r26 n_r26 c_r26)), (.v (.slice A_b n_b c_b))])), (2, (.lst z 24 arr))], 4, [], [(1, bk14, (.cells 24 [(.v (.slice A_a n_a c_a)), (.v (.slice A_b n_b c_b))]))]⟩) (by kernel_rfl) (WD_on (Le.refl _) ?_))
      refine WK_freezeV 3 rfl rfl rfl rfl ?_
      intro bk29 G28 hle hbk29
      replace hc16 := Le.trans hc16 hle
      replace h_tk := h_tk.mono hle
      replace h_nm := h_nm.mono hle
      replace h_rs := h_rs.mono hle
      replace h_a := h_a.mono hle
      replace h_b := h_b.mono hle
      replace hs9 := hs9.mono hle
      replace at6 := at6.mono hle
      replace hs22 := hs22.mono hle
      replace at19 := at19.mono hle
      replace h_r26 := h_r26.mono hle
      replace hz := hz.mono hle
      replace ho := ho.mono hle
      refine WD_up hle ?_
      show WK _ _ ⟨[(38, (.v (.slice (some ⟨bk29, 0, none⟩) 1 1))), (37, (.agg [(.v (.slice A_r26 n_r26 c_r26)), (.v (.slice A_b n_b c_b))])), (34, (.v (.slice A_r26 n_r26 c_r26))), (36, (.v (.slice A_b n_b c_b))), (35, (.p 1 1)), (33, (.v (.slice A_a n_a c_a))), (32, (.p 1 0)), (31, (.v (.slice A23 n24 c25))), (30, (.ls z 2 i cap)), (10, (.v (.slice A23 n24 c25))), (29, (.v (.slice A23 n24 c25))), (28, (.v (.pointer (some (q17.add (i * 1)))))), (27, (.v (.bool (decide ((((i : Nat) : Int) : Int) < ((n11 : Nat) : Int)))))), (26, (.v (.int .i64 ((i : Nat) : Int)))), (25, (.v (.int .i64 ((n11 : Nat) : Int)))), (24, (.v (.slice (some q17) n11 c12))), (8, (.ls z 2 i cap)), (5, (.v (.bool false))), (4, (.v (.slice none 0 0))), (3, (.p 1 0))], [(2, (.lst z 24 arr))], 4, [], [(1, bk14, (.cells 24 [(.v (.slice A_a n_a c_a)), (.v (.slice A_b n_b c_b))]))]⟩ _
      have hs30 : Sl (tPair (tSlice (tInt .i64)) (tSlice (tInt .i64))) G28 (some ⟨bk29, 0, none⟩) 1 1 [((x20 ++ a.drop 1), b)] := Sl.lit (cs := [.slice A_r26 n_r26 c_r26, .slice A_b n_b c_b]) (RepsL.cons' (rep_pair h_r26.reps h_b.reps) .nil) hbk29 rfl (by unfold big; omega)
      have lhs30 := hs30.len'
      refine WD_one 9 (by rfl) (by decide +kernel) (WOp_append htb z 2 i cap (some ⟨bk29, 0, none⟩) 1 24 2 48 (by kernel_rfl) (by kernel_rfl) rfl rfl (tPair (tSlice (tInt .i64)) (tSlice (tInt .i64))) (xs := ((x7.take i).map (fun x => (x ++ a.drop 1, b)))) (ys := [((x20 ++ a.drop 1), b)]) ho (by rw [List.length_map, List.length_take]; omega) hz0 hs30.row hs30.len rfl (by decide) (by simp only [List.length_map, List.length_take, List.length_cons, List.length_nil]; omega) (by unfold big; simp only [List.length_map, List.length_take, List.length_cons, List.length_nil]; omega) (fun z31 arr32 cap33 hz34 ho35 => WD_on (Le.refl _) ?_))
      show WD _ _ _ _ _ _ _ _ _ ⟨[(39, (.ls z31 4 ((((x7.take i).map (fun x => (x ++ a.drop 1, b))) ++ ([((x20 ++ a.drop 1), b)])).length) cap33)), (38, (.v (.slice (some ⟨bk29, 0, none⟩) 1 1))), (37, (.agg [(.v (.slice A_r26 n_r26 c_r26)), (.v (.slice A_b n_b c_b))])), (34, (.v (.slice A_r26 n_r26 c_r26))), (36, (.v (.slice A_b n_b c_b))), (35, (.p 1 1)), (33, (.v (.slice A_a n_a c_a))), (32, (.p 1 0)), (31, (.v (.slice A23 n24 c25))), (30, (.ls z 2 i cap)), (10, (.v (.slice A23 n24 c25))), (29, (.v (.slice A23 n24 c25))), (28, (.v (.pointer (some (q17.add (i * 1)))))), (27, (.v (.bool (decide ((((i : Nat) : Int) : Int) < ((n11 : Nat) : Int)))))), (26, (.v (.int .i64 ((i : Nat) : Int)))), (25, (.v (.int .i64 ((n11 : Nat) : Int)))), (24, (.v (.slice (some q17) n11 c12))), (8, (.ls z 2 i cap)), (5, (.v (.bool false))), (4, (.v (.slice none 0 0))), (3, (.p 1 0))], [(4, (.lst z31 24 arr32))], 5, [], [(1, bk14, (.cells 24 [(.v (.slice A_a n_a c_a)), (.v (.slice A_b n_b c_b))]))]⟩
      refine WK_keep [39, 38, 37, 34, 36, 35, 33, 32, 31, 30, 10, 29, 28, 27, 26, 25, 24, 5, 4, 3] [4] rfl rfl ?_
      refine WD_takeL htb rfl (fun _ _ _ _ _ h => h) (Le.refl _) [10] (fuel := 0) (listed' := #[true, true, true, true, true, true, true, true, true, true, true]) (S' := ⟨[(8, (.ls z31 4 ((((x7.take i).map (fun x => (x ++ a.drop 1, b))) ++ ([((x20 ++ a.drop 1), b)])).length) cap33)), (39, (.ls z31 4 ((((x7.take i).map (fun x => (x ++ a.drop 1, b))) ++ ([((x20 ++ a.drop 1), b)])).length) cap33)), (38, (.v (.slice (some ⟨bk29, 0, none⟩) 1 1))), (37, (.agg [(.v (.slice A_r26 n_r26 c_r26)), (.v (.slice A_b n_b c_b))])), (34, (.v (.slice A_r26 n_r26 c_r26))), (36, (.v (.slice A_b n_b c_b))), (35, (.p 1 1)), (33, (.v (.slice A_a n_a c_a))), (32, (.p 1 0)), (31, (.v (.slice A23 n24 c25))), (30, (.ls z 2 i cap)), (10, (.v (.slice A23 n24 c25))), (29, (.v (.slice A23 n24 c25))), (28, (.v (.pointer (some (q17.add (i * 1)))))), (27, (.v (.bool (decide ((((i : Nat) : Int) : Int) < ((n11 : Nat) : Int)))))), (26, (.v (.int .i64 ((i : Nat) : Int)))), (25, (.v (.int .i64 ((n11 : Nat) : Int)))), (24, (.v (.slice (some q17) n11 c12))), (5, (.v (.bool false))), (4, (.v (.slice none 0 0))), (3, (.p 1 0))], [(4, (.lst z31 24 arr32))], 5, [], [(1, bk14, (.cells 24 [(.v (.slice A_a n_a c_a)), (.v (.slice A_b n_b c_b))]))]⟩) hz (by kernel_rfl) rfl ?_
      refine WD_done (by decide +kernel) ?_
      refine WQ_blk ?_
      refine WQ_code ?_
      refine WC_region ?_
      refine WL_execS htb 2 [26, 40, 8, 39, 38, 37, 34, 36, 35, 33, 32, 31, 30, 10, 29, 28, 27, 25, 24, 5, 4, 3] [4] ⟨[(26, (.v (.int .i64 (IntKind.i64.wrap (((i : Nat) : Int) + 1))))), (40, (.v (.int .i64 (IntKind.i64.wrap (((i : Nat) : Int) + 1))))), (8, (.ls z31 4 ((((x7.take i).map (fun x => (x ++ a.drop 1, b))) ++ ([((x20 ++ a.drop 1), b)])).length) cap33)), (39, (.ls z31 4 ((((x7.take i).map (fun x => (x ++ a.drop 1, b))) ++ ([((x20 ++ a.drop 1), b)])).length) cap33)), (38, (.v (.slice (some ⟨bk29, 0, none⟩) 1 1))), (37, (.agg [(.v (.slice A_r26 n_r26 c_r26)), (.v (.slice A_b n_b c_b))])), (34, (.v (.slice A_r26 n_r26 c_r26))), (36, (.v (.slice A_b n_b c_b))), (35, (.p 1 1)), (33, (.v (.slice A_a n_a c_a))), (32, (.p 1 0)), (31, (.v (.slice A23 n24 c25))), (30, (.ls z 2 i cap)), (10, (.v (.slice A23 n24 c25))), (29, (.v (.slice A23 n24 c25))), (28, (.v (.pointer (some (q17.add (i * 1)))))), (27, (.v (.bool (decide ((((i : Nat) : Int) : Int) < ((n11 : Nat) : Int)))))), (25, (.v (.int .i64 ((n11 : Nat) : Int)))), (24, (.v (.slice (some q17) n11 c12))), (5, (.v (.bool false))), (4, (.v (.slice none 0 0))), (3, (.p 1 0))], [(4, (.lst z31 24 arr32))], 5, [], [(1, bk14, (.cells 24 [(.v (.slice A_a n_a c_a)), (.v (.slice A_b n_b c_b))]))]⟩ (by kernel_rfl) ?_
      refine WL_nil ?_
      refine WK_env [(26, (.v (.int .i64 ((i + 1 : Nat) : Int)))), (40, (.v (.int .i64 (IntKind.i64.wrap (((i : Nat) : Int) + 1))))), (8, (.ls z31 4 ((((x7.take i).map (fun x => (x ++ a.drop 1, b))) ++ ([((x20 ++ a.drop 1), b)])).length) cap33)), (39, (.ls z31 4 ((((x7.take i).map (fun x => (x ++ a.drop 1, b))) ++ ([((x20 ++ a.drop 1), b)])).length) cap33)), (38, (.v (.slice (some ⟨bk29, 0, none⟩) 1 1))), (37, (.agg [(.v (.slice A_r26 n_r26 c_r26)), (.v (.slice A_b n_b c_b))])), (34, (.v (.slice A_r26 n_r26 c_r26))), (36, (.v (.slice A_b n_b c_b))), (35, (.p 1 1)), (33, (.v (.slice A_a n_a c_a))), (32, (.p 1 0)), (31, (.v (.slice A23 n24 c25))), (30, (.ls z 2 i cap)), (10, (.v (.slice A23 n24 c25))), (29, (.v (.slice A23 n24 c25))), (28, (.v (.pointer (some (q17.add (i * 1)))))), (27, (.v (.bool (decide ((((i : Nat) : Int) : Int) < ((n11 : Nat) : Int)))))), (25, (.v (.int .i64 ((n11 : Nat) : Int)))), (24, (.v (.slice (some q17) n11 c12))), (5, (.v (.bool false))), (4, (.v (.slice none 0 0))), (3, (.p 1 0))] (fun ρ => ⟨rfl, (congrArg (Value.int .i64) (by rw [wrap_id (by omega)]; first | rfl | omega)), ⟨rfl, rfl, ⟨rfl, rfl, ⟨rfl, rfl, ⟨rfl, rfl, ⟨rfl, rfl, ⟨rfl, rfl, ⟨rfl, rfl, ⟨rfl, rfl, ⟨rfl, rfl, ⟨rfl, rfl, ⟨rfl, rfl, ⟨rfl, rfl, ⟨rfl, rfl, ⟨rfl, rfl, ⟨rfl, rfl, ⟨rfl, rfl, ⟨rfl, rfl, ⟨rfl, rfl, ⟨rfl, rfl, ⟨rfl, rfl, ⟨rfl, rfl, trivial⟩⟩⟩⟩⟩⟩⟩⟩⟩⟩⟩⟩⟩⟩⟩⟩⟩⟩⟩⟩⟩⟩) ?_
      refine WK_keep [26, 25, 24, 8, 5, 4, 3] [4] rfl rfl ?_
      refine WK_env [(26, (.v (.int .i64 (((i + 1) : Nat) : Int)))), (25, (.v (.int .i64 ((n11 : Nat) : Int)))), (24, (.v (.slice (some q17) n11 c12))), (8, (.ls z31 4 (i + 1) cap33)), (5, (.v (.bool false))), (4, (.v (.slice none 0 0))), (3, (.p 1 0))] (fun ρ => ⟨rfl, rfl, ⟨rfl, rfl, ⟨rfl, rfl, ⟨rfl, (congrArg (fun n => nilOr z31 (.slice (some ⟨ρ 4, 0, none⟩) n cap33)) (by simp only [List.length_append, List.length_map, List.length_take, List.length_cons, List.length_nil]; omega)), ⟨rfl, rfl, ⟨rfl, rfl, ⟨rfl, rfl, trivial⟩⟩⟩⟩⟩⟩⟩) ?_
      exact WQ_nextR ((i + 1), z31, arr32, cap33) (by show n11 - (i + 1) < n11 - i; omega) ⟨hc16, ⟨by omega, by rw [map_step (f := fun x => (x ++ a.drop 1, b)) hx18]; exact ho35, fun h => by rw [map_step (f := fun x => (x ++ a.drop 1, b)) hx18]; exact hz34 h⟩⟩ [(2, 4)] rfl rfl rfl rfl rfl rfl
    · replace hc := of_decide_eq_false hc
      refine WC_exit ?_
      refine WQ_then_exit ?_
      refine WQ_then_exit ?_
      refine WQ_hit ?_
      refine WQ_code ?_
      refine WC_seq (WC_region ?_)
      refine WL_execS htb 3 [5, 4] [2] ⟨[(5, (.v (.bool true))), (4, (.ls z 2 i cap))], [(2, (.lst z 24 arr))], 3, [], [(1, bk14, (.cells 24 [(.v (.slice A_a n_a c_a)), (.v (.slice A_b n_b c_b))]))]⟩ (by kernel_rfl) ?_
      refine WL_nil ?_
      refine WQ_code ?_
      refine WC_ret ?_
      refine WK_freezeL 2 rfl rfl ?_
      intro bk18 G17 hle hbk18
      replace hc16 := Le.trans hc16 hle
      replace h_tk := h_tk.mono hle
      replace h_nm := h_nm.mono hle
      replace h_rs := h_rs.mono hle
      replace h_a := h_a.mono hle
      replace h_b := h_b.mono hle
      replace hs9 := hs9.mono hle
      replace at6 := at6.mono hle
      replace hz := hz.mono hle
      obtain ⟨A20, n21, c22, e23, hs19⟩ := OwnL.sl (n := i) ho hle hz0 hbk18 (by rw [List.length_map, List.length_take]; omega)
      refine WK_env [(5, (.v (.bool true))), (4, (.v (.slice A20 n21 c22)))] (fun ρ => ⟨rfl, rfl, ⟨rfl, e23, trivial⟩⟩) ?_
      have lhs19 := hs19.len'
      exact WQ_done htb [(.v (.slice A20 n21 c22)), (.v (.bool true))] _ (.inl rfl) rfl (by kernel_rfl) (fun ρ w hW => ⟨((x7.take i).map (fun x => (x ++ a.drop 1, b))), _, _, _, true, rfl, hs19, (oldS_yes' hraw (by omega)).symm⟩)

end Go.Proofs.Ytbpajkjolhoflaa.Sym
