/- Walks of functions that the laws of this seat reach, printed by a program of this session's. -/
import Derived.Test.YtbpajkjolhoflaaT5
set_option linter.unusedSimpArgs false
set_option linter.unusedVariables false
set_option maxHeartbeats 4000000
namespace Go.Proofs.Ytbpajkjolhoflaa.Sym
open Go Go.Proofs Go.RowKit


theorem ne_caseP {α : Type} [DecidableEq α] {xs ys : List α} (h : xs.length ≠ ys.length) : false = decide (xs = ys) := by
  have : xs ≠ ys := fun e => h (by rw [e])
  simp [this]
theorem eq_case1P {xs ys : List (List Int × List Int)} {i : Nat} {a b c d : List Int} (h1 : xs[i]? = some (a, b)) (h2 : ys[i]? = some (c, d)) (h : false = (decide (a = c) && decide (b = d))) : false = decide (xs = ys) := by
  have : xs ≠ ys := fun e => by subst e; rw [h1] at h2; injection h2 with h2; injection h2 with h3 h4; subst h3; subst h4; simp at h
  simp [this]
theorem eq_case2P {xs ys : List (List Int × List Int)} {i : Nat} {a b c d : List Int} (ht : xs.take i = ys.take i) (h1 : xs[i]? = some (a, b)) (h2 : ys[i]? = some (c, d)) (h : true = (decide (a = c) && decide (b = d))) : xs.take (i + 1) = ys.take (i + 1) := by
  have h' : a = c ∧ b = d := by simpa using h.symm
  rw [take_succ' h1, take_succ' h2, ht, h'.1, h'.2]
theorem eq_case3P {α : Type} [DecidableEq α] {xs ys : List α} {i : Nat} (ht : xs.take i = ys.take i) (h1 : xs.length ≤ i) (h : xs.length = ys.length) : true = decide (xs = ys) := by
  rw [List.take_of_length_le h1, List.take_of_length_le (by omega)] at ht
  simp [ht]
def altsS (rs : List (List (List Int))) (xs : List Int) : List (List Int) × Bool :=
  match xs with
  | [] => ([], false)
  | x :: _ => if 0 ≤ x then ([], false) else match rs[(-x - 1).toNat]? with
    | some r => (r, true)
    | none => ([], false)
theorem altsS_no1 {rs : List (List (List Int))} {xs : List Int} (h : xs.length = 0) : altsS rs xs = ([], false) := by
  cases xs with
  | nil => rfl
  | cons x l => simp at h
theorem altsS_no2 {rs : List (List (List Int))} {xs : List Int} {x : Int} (h : xs[0]? = some x) (h1 : x ≥ 0) : altsS rs xs = ([], false) := by
  cases xs with
  | nil => rfl
  | cons y l => simp at h; subst h; simp [altsS]; omega
theorem altsS_no3 {rs : List (List (List Int))} {xs : List Int} {x : Int} (h : xs[0]? = some x) (h1 : x < 0) (h2 : ((rs.length : Nat) : Int) ≤ - x - 1) : altsS rs xs = ([], false) := by
  cases xs with
  | nil => rfl
  | cons y l =>
    simp at h; subst h
    have : rs[(-y - 1).toNat]? = none := List.getElem?_eq_none (by omega)
    simp only [altsS, this, ite_self]
theorem altsS_yes {rs : List (List (List Int))} {xs : List Int} {x y : Int} {r : List (List Int)} (h : xs[0]? = some x) (h1 : x < 0) (hy : y = - x - 1) (h2 : rs[y.toNat]? = some r) : altsS rs xs = (r, true) := by
  cases xs with
  | nil => simp at h
  | cons z l =>
    simp at h; subst h; subst hy
    have : ¬ 0 ≤ z := by omega
    simp only [altsS, h2, if_neg this]
theorem sameAll_ok {w : World} {G : Heap} (hG : Has w G) {xs : (List ((List Int) × (List Int)))} {A_xs : Option Addr} {n_xs : Nat} {c_xs : Nat} {ys : (List ((List Int) × (List Int)))} {A_ys : Option Addr} {n_ys : Nat} {c_ys : Nat} (h_xs : Sl (tPair (tSlice (tInt .i64)) (tSlice (tInt .i64))) G A_xs n_xs c_xs xs) (h_ys : Sl (tPair (tSlice (tInt .i64)) (tSlice (tInt .i64))) G A_ys n_ys c_ys ys) :
    Calls Try.prog 20 #[(.slice A_xs n_xs c_xs), (.slice A_ys n_ys c_ys)] w (Ret w G fun v G' => ∃ (b : Bool), v = .bool b ∧ (b = decide (xs = ys))) := by
  have lh_xs := h_xs.len'
  have lh_ys := h_ys.len'
  refine enter [(sS A_xs n_xs c_xs), (sS A_ys n_ys c_ys)] 27 Try.func20 rfl rfl rfl rfl hG ?_
  refine WC_seq (WC_region ?_)
  refine WL_execS htb 1 [0, 1] [] ⟨[(0, (sS A_xs n_xs c_xs)), (1, (sS A_ys n_ys c_ys))], [], 0, [], []⟩ (by kernel_rfl) ?_
  refine WL_nil ?_
  refine WQ_code ?_
  refine WC_seq ?_
  refine WC_seq (WC_region ?_)
  refine WL_execS htb 5 [10, 0, 1] [] ⟨[(10, (bB ((((n_xs : Nat) : Int) : Int) != ((n_ys : Nat) : Int)))), (0, (sS A_xs n_xs c_xs)), (1, (sS A_ys n_ys c_ys))], [], 0, [], []⟩ (by kernel_rfl) ?_
  refine WL_nil ?_
  refine WQ_code ?_
  refine WC_cond (b := ((((n_xs : Nat) : Int) : Int) != ((n_ys : Nat) : Int))) rfl (fun hb => ?_) (fun hb => ?_)
  · replace hb := bne_iff_ne.1 hb
    refine WC_seq (WC_region ?_)
    refine WL_execS htb 1 [4] [] ⟨[(4, (bB false))], [], 0, [], []⟩ (by kernel_rfl) ?_
    refine WL_nil ?_
    refine WQ_code ?_
    refine WC_ret ?_
    refine WQ_then_ret ?_
    exact WQ_done htb [(bB false)] _ (.inl rfl) rfl (by kernel_rfl) (fun ρ w hW => ⟨false, rfl, ne_caseP (by omega)⟩)
  · replace hb := (bne_eq_false_iff_eq.1) hb
    refine WC_skip ?_
    refine WQ_code ?_
    refine WC_seq ?_
    refine WC_seq (WC_region ?_)
    refine WL_execS htb 3 [13, 12, 0, 1] [] ⟨[(13, (iI 0)), (12, (iN n_xs)), (0, (sS A_xs n_xs c_xs)), (1, (sS A_ys n_ys c_ys))], [], 0, [], []⟩ (by kernel_rfl) ?_
    refine WL_nil ?_
    refine WQ_code ?_
    refine WC_block ?_
    refine WK_keep [13, 12, 0, 1] [] rfl rfl ?_
    refine WK_env [(13, (iN 0)), (12, (iN n_xs)), (0, (sS A_xs n_xs c_xs)), (1, (sS A_ys n_ys c_ys))] (fun ρ => ⟨rfl, rfl, ⟨rfl, rfl, ⟨rfl, rfl, ⟨rfl, rfl, trivial⟩⟩⟩⟩) ?_
    refine WC_loop (ι := Nat) (fun i G1 => Le G G1 ∧ (i ≤ n_xs ∧ xs.take i = ys.take i)) (fun i => ⟨[(13, (iN i)), (12, (iN n_xs)), (0, (sS A_xs n_xs c_xs)), (1, (sS A_ys n_ys c_ys))], [], 0, [], []⟩) (fun i => n_xs - i) 0 ⟨Le.refl _, ⟨Nat.zero_le _, rfl⟩⟩ rfl ?_
    rintro i G1 ⟨hle, hF⟩
    replace h_xs := h_xs.mono hle
    replace h_ys := h_ys.mono hle
    have hc1 := hle
    obtain ⟨hi, ht⟩ := hF
    refine WC_seq (WC_region ?_)
    refine WL_execS htb 1 [14, 13, 12, 0, 1] [] ⟨[(14, (bB (decide ((((i : Nat) : Int) : Int) < ((n_xs : Nat) : Int))))), (13, (iN i)), (12, (iN n_xs)), (0, (sS A_xs n_xs c_xs)), (1, (sS A_ys n_ys c_ys))], [], 0, [], []⟩ (by kernel_rfl) ?_
    refine WL_nil ?_
    refine WQ_code ?_
    refine WC_seq ?_
    refine WC_cond (b := (decide ((((i : Nat) : Int) : Int) < ((n_xs : Nat) : Int)))) rfl (fun hc => ?_) (fun hc => ?_)
    · replace hc := of_decide_eq_true hc
      refine WC_skip ?_
      refine WQ_code ?_
      refine WC_seq ?_
      refine WC_block ?_
      refine WC_seq (WC_region ?_)
      refine WL_execS htb 2 [5, 13, 12, 0, 1] [] ⟨[(5, (iN i)), (13, (iN i)), (12, (iN n_xs)), (0, (sS A_xs n_xs c_xs)), (1, (sS A_ys n_ys c_ys))], [], 0, [], []⟩ (by kernel_rfl) ?_
      refine WL_nil ?_
      refine WQ_code ?_
      refine WC_seq (WC_draw mixed ?_)
      refine WD_takeL htb rfl (fun _ _ _ _ _ h => h) (Le.refl _) [0, 1, 4, 5] (fuel := 6) (listed' := bts 10 51) (S' := ⟨[(21, (iN i)), (20, (sS A_ys n_ys c_ys)), (17, (iN i)), (16, (sS A_xs n_xs c_xs)), (5, (iN i)), (13, (iN i)), (12, (iN n_xs)), (0, (sS A_xs n_xs c_xs)), (1, (sS A_ys n_ys c_ys))], [], 0, [], []⟩) (FZ.nil _) (by kernel_rfl) rfl ?_
      obtain ⟨q2, rfl⟩ := h_xs.ptr (by omega)
      obtain ⟨⟨x5, x11⟩, _, hx3, ⟨_, _, rfl, hr6, hr12⟩, at4⟩ := h_xs.get i (by omega)
      obtain ⟨A8, n9, c10, rfl, hs7⟩ := Sl.of hr6
      replace hs7 : Sl (tInt .i64) _ A8 n9 c10 x5 := hs7
      have lhs7 := hs7.len'
      obtain ⟨A14, n15, c16, rfl, hs13⟩ := Sl.of hr12
      replace hs13 : Sl (tInt .i64) _ A14 n15 c16 x11 := hs13
      have lhs13 := hs13.len'
      replace at4 : At G1 (q2.add (i * 2)) [.slice A8 n9 c10, .slice A14 n15 c16] := at4
      refine WD_idx htb 2 (by rfl) rfl (by decide +kernel) (fun _ _ _ _ _ h => h) (Le.refl _) q2 n_xs ((i : Nat) : Int) 2 (by kernel_rfl) (by omega) (by omega) ?_
      refine WD_ld htb 3 (by rfl) rfl (by decide +kernel) (fun _ _ _ _ _ h => h) (Le.refl _) (q2.add (i * 2)) true 2 [.slice A8 n9 c10, .slice A14 n15 c16] (by kernel_rfl) at4 rfl (by decide) ?_
      obtain ⟨q17, rfl⟩ := h_ys.ptr (by omega)
      obtain ⟨⟨x20, x26⟩, _, hx18, ⟨_, _, rfl, hr21, hr27⟩, at19⟩ := h_ys.get i (by omega)
      obtain ⟨A23, n24, c25, rfl, hs22⟩ := Sl.of hr21
      replace hs22 : Sl (tInt .i64) _ A23 n24 c25 x20 := hs22
      have lhs22 := hs22.len'
      obtain ⟨A29, n30, c31, rfl, hs28⟩ := Sl.of hr27
      replace hs28 : Sl (tInt .i64) _ A29 n30 c31 x26 := hs28
      have lhs28 := hs28.len'
      replace at19 : At G1 (q17.add (i * 2)) [.slice A23 n24 c25, .slice A29 n30 c31] := at19
      refine WD_idx htb 6 (by rfl) rfl (by decide +kernel) (fun _ _ _ _ _ h => h) (Le.refl _) q17 n_ys ((i : Nat) : Int) 2 (by kernel_rfl) (by omega) (by omega) ?_
      refine WD_ld htb 7 (by rfl) rfl (by decide +kernel) (fun _ _ _ _ _ h => h) (Le.refl _) (q17.add (i * 2)) true 2 [.slice A23 n24 c25, .slice A29 n30 c31] (by kernel_rfl) at19 rfl (by decide) ?_
      refine WD_one 8 (by rfl) (by decide +kernel) (WOp_call 14 [(.agg [(sS A8 n9 c10), (sS A14 n15 c16)]), (.agg [(sS A23 n24 c25), (sS A29 n30 c31)])] (by kernel_rfl) (goes_of Try.func14 rfl rfl) (fun ρ w hW => rsame_ok hW.has (a1 := x5) (a2 := x11) (b1 := x20) (b2 := x26) hs7 hs13 hs22 hs28) ?_)
      intro G2 v hle hΦ
      replace hc1 := Le.trans hc1 hle
      replace h_xs := h_xs.mono hle
      replace h_ys := h_ys.mono hle
      replace hs7 := hs7.mono hle
      replace hs13 := hs13.mono hle
      replace at4 := at4.mono hle
      replace hs22 := hs22.mono hle
      replace hs28 := hs28.mono hle
      replace at19 := at19.mono hle
      obtain ⟨r32, rfl, hR33⟩ := hΦ
      refine WD_on hle ?_
      refine WD_up hle ?_
      refine WD_takeL htb rfl (fun _ _ _ _ _ h => h) (Le.refl _) [9] (fuel := 0) (listed' := bts 10 1023) (S' := ⟨[(25, (bB (!r32))), (24, (bB r32)), (23, (.agg [(sS A23 n24 c25), (sS A29 n30 c31)])), (22, (.v (.pointer (some (q17.add (i * 2)))))), (19, (.agg [(sS A8 n9 c10), (sS A14 n15 c16)])), (18, (.v (.pointer (some (q2.add (i * 2)))))), (21, (iN i)), (20, (sS (some q17) n_ys c_ys)), (17, (iN i)), (16, (sS (some q2) n_xs c_xs)), (5, (iN i)), (13, (iN i)), (12, (iN n_xs)), (0, (sS (some q2) n_xs c_xs)), (1, (sS (some q17) n_ys c_ys))], [], 0, [], []⟩) (FZ.nil _) (by kernel_rfl) rfl ?_
      refine WD_done (by decide +kernel) ?_
      refine WK_keep [25, 13, 12, 0, 1] [] rfl rfl ?_
      refine WQ_code ?_
      refine WC_cond (b := (!r32)) rfl (fun hx => ?_) (fun hx => ?_)
      · rw [Bool.not_eq_true'] at hx
        rw [hx] at hR33
        refine WC_seq (WC_region ?_)
        refine WL_execS htb 1 [4] [] ⟨[(4, (bB false))], [], 0, [], []⟩ (by kernel_rfl) ?_
        refine WL_nil ?_
        refine WQ_code ?_
        refine WC_ret ?_
        refine WQ_blk_ret ?_
        refine WQ_then_ret ?_
        refine WQ_then_ret ?_
        refine WQ_blk_ret ?_
        refine WQ_then_ret ?_
        exact WQ_done htb [(bB false)] _ (.inl rfl) rfl (by kernel_rfl) (fun ρ w hW => ⟨false, rfl, eq_case1P hx3 hx18 hR33⟩)
      · rw [Bool.not_eq_false'] at hx
        rw [hx] at hR33
        refine WC_skip ?_
        refine WQ_blk ?_
        refine WQ_code ?_
        refine WC_region ?_
        refine WL_execS htb 2 [13, 12, 0, 1] [] ⟨[(13, (iI (IntKind.i64.wrap (((i : Nat) : Int) + 1)))), (12, (iN n_xs)), (0, (sS (some q2) n_xs c_xs)), (1, (sS (some q17) n_ys c_ys))], [], 0, [], []⟩ (by kernel_rfl) ?_
        refine WL_nil ?_
        refine WK_env [(13, (iN (i + 1))), (12, (iN n_xs)), (0, (sS (some q2) n_xs c_xs)), (1, (sS (some q17) n_ys c_ys))] (fun ρ => ⟨rfl, (congrArg (Value.int .i64) (by rw [wrap_id (by omega)]; first | rfl | omega)), ⟨rfl, rfl, ⟨rfl, rfl, ⟨rfl, rfl, trivial⟩⟩⟩⟩) ?_
        refine WK_keep [13, 12, 0, 1] [] rfl rfl ?_
        refine WK_env [(13, (iN (i+1))), (12, (iN n_xs)), (0, (sS (some q2) n_xs c_xs)), (1, (sS (some q17) n_ys c_ys))] (fun ρ => ⟨rfl, rfl, ⟨rfl, rfl, ⟨rfl, rfl, ⟨rfl, rfl, trivial⟩⟩⟩⟩) ?_
        exact WQ_next (i+1) (by omega) ⟨hc1, ⟨by omega, eq_case2P ht hx3 hx18 hR33⟩⟩ (fun ρ a w h => h)
    · replace hc := of_decide_eq_false hc
      refine WC_exit ?_
      refine WQ_then_exit ?_
      refine WQ_then_exit ?_
      refine WQ_hit ?_
      refine WQ_code ?_
      refine WC_seq (WC_region ?_)
      refine WL_execS htb 1 [4] [] ⟨[(4, (bB true))], [], 0, [], []⟩ (by kernel_rfl) ?_
      refine WL_nil ?_
      refine WQ_code ?_
      refine WC_ret ?_
      exact WQ_done htb [(bB true)] _ (.inl rfl) rfl (by kernel_rfl) (fun ρ w hW => ⟨true, rfl, eq_case3P ht (by omega) (by omega)⟩)

theorem alts_ok {w : World} {G : Heap} (hG : Has w G) {tk : (List ByteArray)} {A_tk : Option Addr} {n_tk : Nat} {c_tk : Nat} {nm : (List ByteArray)} {A_nm : Option Addr} {n_nm : Nat} {c_nm : Nat} {rs : (List (List (List Int)))} {A_rs : Option Addr} {n_rs : Nat} {c_rs : Nat} {xs : (List Int)} {A_xs : Option Addr} {n_xs : Nat} {c_xs : Nat} (h_tk : Sl tStr G A_tk n_tk c_tk tk) (h_nm : Sl tStr G A_nm n_nm c_nm nm) (h_rs : Sl (tSlice (tSlice (tInt .i64))) G A_rs n_rs c_rs rs) (h_xs : Sl (tInt .i64) G A_xs n_xs c_xs xs) :
    Calls Try.prog 43 #[(.agg #[.slice A_tk n_tk c_tk, .slice A_nm n_nm c_nm, .slice A_rs n_rs c_rs]), (.slice A_xs n_xs c_xs)] w (Ret w G fun v G' => ∃ (r : (List (List Int))) (A_r : Option Addr) (n_r : Nat) (c_r : Nat) (ok : Bool), v = .tuple #[.slice A_r n_r c_r, .bool ok] ∧ (Sl (tSlice (tInt .i64)) G' A_r n_r c_r r) ∧ ((r, ok) = altsS rs xs)) := by
  have lh_tk := h_tk.len'
  have lh_nm := h_nm.len'
  have lh_rs := h_rs.len'
  have lh_xs := h_xs.len'
  refine enter [(.agg [(sS A_tk n_tk c_tk), (sS A_nm n_nm c_nm), (sS A_rs n_rs c_rs)]), (sS A_xs n_xs c_xs)] 33 Try.func43 rfl rfl rfl rfl hG ?_
  refine WC_seq (WC_region ?_)
  refine WL_execS htb 3 [2, 1] [0] ⟨[(2, (.p 0 0)), (1, (sS A_xs n_xs c_xs))], [(0, (.cells 35 [(sS A_tk n_tk c_tk), (sS A_nm n_nm c_nm), (sS A_rs n_rs c_rs)]))], 1, [], []⟩ (by kernel_rfl) ?_
  refine WL_nil ?_
  refine WQ_code ?_
  refine WC_seq ?_
  refine WK_freeze 0 rfl rfl rfl rfl ?_
  intro bk2 G1 hle hbk2
  replace h_tk := h_tk.mono hle
  replace h_nm := h_nm.mono hle
  replace h_rs := h_rs.mono hle
  replace h_xs := h_xs.mono hle
  have hz := FZ.cons (h := 0) hbk2 rfl (FZ.nil _)
  refine WC_seq (WC_draw mixed ?_)
  refine WD_takeL htb rfl (fun _ _ _ _ _ h => h) (Le.refl _) [0, 1, 2, 3] (fuel := 15) (listed' := bts 19 15) (S' := ⟨[(9, (bB ((((n_xs : Nat) : Int) : Int) == 0))), (8, (bB ((((n_xs : Nat) : Int) : Int) == 0))), (7, (iN n_xs)), (6, (sS A_xs n_xs c_xs)), (2, (.p 0 0)), (1, (sS A_xs n_xs c_xs))], [], 1, [], [(0, bk2, (.cells 35 [(sS A_tk n_tk c_tk), (sS A_nm n_nm c_nm), (sS A_rs n_rs c_rs)]))]⟩) hz (by kernel_rfl) rfl ?_
  refine WK_split 9 ((((n_xs : Nat) : Int) : Int) == 0) rfl (fun hb => ?_) (fun hb => ?_)
  · replace hb := eq_of_beq hb
    refine WK_keep [9, 8, 7, 6, 2, 1] [] rfl rfl ?_
    refine WD_takeL htb rfl (fun _ _ _ _ _ h => h) (Le.refl _) [4, 5, 6, 7, 8, 9, 10, 11, 12, 13, 14, 15, 16, 17, 18] (fuel := 0) (listed' := bts 19 524287) (S' := ⟨[(24, (bB true)), (23, (.v (undef))), (22, (.v (undef))), (21, (.v (undef))), (20, (.v (undef))), (19, (.v (undef))), (18, (.v (undef))), (17, (.v (undef))), (16, (.v (undef))), (15, (bB true)), (14, (bB true)), (13, (.v (undef))), (12, (.v (undef))), (11, (.v (undef))), (10, (.v (undef))), (9, (bB true)), (8, (bB ((((n_xs : Nat) : Int) : Int) == 0))), (7, (iN n_xs)), (6, (sS A_xs n_xs c_xs)), (2, (.p 0 0)), (1, (sS A_xs n_xs c_xs))], [], 1, [], [(0, bk2, (.cells 35 [(sS A_tk n_tk c_tk), (sS A_nm n_nm c_nm), (sS A_rs n_rs c_rs)]))]⟩) hz (by kernel_rfl) rfl ?_
    refine WD_done (by decide +kernel) ?_
    refine WK_keep [24, 2, 1] [] rfl rfl ?_
    refine WQ_code ?_
    refine WC_cond (b := true) rfl (fun _ => ?_) (fun h => by cases h)
    refine WC_seq (WC_region ?_)
    refine WL_execS htb 2 [5, 4] [] ⟨[(5, (bB false)), (4, (sS none 0 0))], [], 1, [], [(0, bk2, (.cells 35 [(sS A_tk n_tk c_tk), (sS A_nm n_nm c_nm), (sS A_rs n_rs c_rs)]))]⟩ (by kernel_rfl) ?_
    refine WL_nil ?_
    refine WQ_code ?_
    refine WC_ret ?_
    refine WQ_then_ret ?_
    exact WQ_done htb [(sS none 0 0), (bB false)] _ (.inl rfl) rfl (by kernel_rfl) (fun ρ w hW => ⟨[], _, _, _, false, rfl, (Sl.none0 _ _), (altsS_no1 (by omega)).symm⟩)
  · replace hb := ne_of_beq_false hb
    refine WK_keep [9, 8, 7, 6, 2, 1] [] rfl rfl ?_
    refine WD_takeL htb rfl (fun _ _ _ _ _ h => h) (Le.refl _) [4] (fuel := 14) (listed' := bts 19 31) (S' := ⟨[(10, (sS A_xs n_xs c_xs)), (9, (bB false)), (8, (bB ((((n_xs : Nat) : Int) : Int) == 0))), (7, (iN n_xs)), (6, (sS A_xs n_xs c_xs)), (2, (.p 0 0)), (1, (sS A_xs n_xs c_xs))], [], 1, [], [(0, bk2, (.cells 35 [(sS A_tk n_tk c_tk), (sS A_nm n_nm c_nm), (sS A_rs n_rs c_rs)]))]⟩) hz (by kernel_rfl) rfl ?_
    obtain ⟨q3, rfl⟩ := h_xs.ptr (by omega)
    obtain ⟨x6, _, hx4, ⟨rfl, hn7⟩, at5⟩ := h_xs.get 0 (by omega)
    have bdhn7 : -9223372036854775808 ≤ x6 ∧ x6 ≤ 9223372036854775807 := bd_of hn7
    have nthn7 := notInt_i64 bdhn7
    replace at5 : At G1 (q3.add (0 * 1)) [.int .i64 x6] := at5
    refine WD_idx htb 5 (by rfl) rfl (by decide +kernel) (fun _ _ _ _ _ h => h) (Le.refl _) q3 n_xs 0 1 (by kernel_rfl) (by omega) (by omega) ?_
    refine WD_ld htb 6 (by rfl) rfl (by decide +kernel) (fun _ _ _ _ _ h => h) (Le.refl _) (q3.add (0 * 1)) false 1 [.int .i64 x6] (by kernel_rfl) at5 rfl (by decide) ?_
    refine WD_takeL htb rfl (fun _ _ _ _ _ h => h) (Le.refl _) [7, 8, 9] (fuel := 9) (listed' := bts 19 1023) (S' := ⟨[(15, (bB (decide ((x6 : Int) ≥ 0)))), (14, (bB (decide ((x6 : Int) ≥ 0)))), (13, (bB (decide ((x6 : Int) ≥ 0)))), (12, (iI x6)), (11, (.v (.pointer (some (q3.add (0 * 1)))))), (10, (sS (some q3) n_xs c_xs)), (9, (bB false)), (8, (bB ((((n_xs : Nat) : Int) : Int) == 0))), (7, (iN n_xs)), (6, (sS (some q3) n_xs c_xs)), (2, (.p 0 0)), (1, (sS (some q3) n_xs c_xs))], [], 1, [], [(0, bk2, (.cells 35 [(sS A_tk n_tk c_tk), (sS A_nm n_nm c_nm), (sS A_rs n_rs c_rs)]))]⟩) hz (by kernel_rfl) rfl ?_
    refine WK_split 15 (decide ((x6 : Int) ≥ 0)) rfl (fun hc => ?_) (fun hc => ?_)
    · replace hc := of_decide_eq_true hc
      refine WK_keep [15, 14, 13, 12, 11, 10, 9, 8, 7, 6, 2, 1] [] rfl rfl ?_
      refine WD_takeL htb rfl (fun _ _ _ _ _ h => h) (Le.refl _) [10, 11, 12, 13, 14, 15, 16, 17, 18] (fuel := 0) (listed' := bts 19 524287) (S' := ⟨[(24, (bB true)), (23, (.v (undef))), (22, (.v (undef))), (21, (.v (undef))), (20, (.v (undef))), (19, (.v (undef))), (18, (.v (undef))), (17, (.v (undef))), (16, (.v (undef))), (15, (bB true)), (14, (bB (decide ((x6 : Int) ≥ 0)))), (13, (bB (decide ((x6 : Int) ≥ 0)))), (12, (iI x6)), (11, (.v (.pointer (some (q3.add (0 * 1)))))), (10, (sS (some q3) n_xs c_xs)), (9, (bB false)), (8, (bB ((((n_xs : Nat) : Int) : Int) == 0))), (7, (iN n_xs)), (6, (sS (some q3) n_xs c_xs)), (2, (.p 0 0)), (1, (sS (some q3) n_xs c_xs))], [], 1, [], [(0, bk2, (.cells 35 [(sS A_tk n_tk c_tk), (sS A_nm n_nm c_nm), (sS A_rs n_rs c_rs)]))]⟩) hz (by kernel_rfl) rfl ?_
      refine WD_done (by decide +kernel) ?_
      refine WK_keep [24, 2, 1] [] rfl rfl ?_
      refine WQ_code ?_
      refine WC_cond (b := true) rfl (fun _ => ?_) (fun h => by cases h)
      refine WC_seq (WC_region ?_)
      refine WL_execS htb 2 [5, 4] [] ⟨[(5, (bB false)), (4, (sS none 0 0))], [], 1, [], [(0, bk2, (.cells 35 [(sS A_tk n_tk c_tk), (sS A_nm n_nm c_nm), (sS A_rs n_rs c_rs)]))]⟩ (by kernel_rfl) ?_
      refine WL_nil ?_
      refine WQ_code ?_
      refine WC_ret ?_
      refine WQ_then_ret ?_
      exact WQ_done htb [(sS none 0 0), (bB false)] _ (.inl rfl) rfl (by kernel_rfl) (fun ρ w hW => ⟨[], _, _, _, false, rfl, (Sl.none0 _ _), (altsS_no2 hx4 hc).symm⟩)
    · replace hc := of_decide_eq_false hc
      refine WK_keep [15, 14, 13, 12, 11, 10, 9, 8, 7, 6, 2, 1] [] rfl rfl ?_
      refine WD_takeL htb rfl (fun _ _ _ _ _ h => h) (Le.refl _) [10, 14, 15, 16] (fuel := 5) (listed' := bts 19 116735) (S' := ⟨[(22, (iN n_rs)), (21, (sS A_rs n_rs c_rs)), (20, (.p 0 2)), (16, (sS (some q3) n_xs c_xs)), (15, (bB false)), (14, (bB (decide ((x6 : Int) ≥ 0)))), (13, (bB (decide ((x6 : Int) ≥ 0)))), (12, (iI x6)), (11, (.v (.pointer (some (q3.add (0 * 1)))))), (10, (sS (some q3) n_xs c_xs)), (9, (bB false)), (8, (bB ((((n_xs : Nat) : Int) : Int) == 0))), (7, (iN n_xs)), (6, (sS (some q3) n_xs c_xs)), (2, (.p 0 0)), (1, (sS (some q3) n_xs c_xs))], [], 1, [], [(0, bk2, (.cells 35 [(sS A_tk n_tk c_tk), (sS A_nm n_nm c_nm), (sS A_rs n_rs c_rs)]))]⟩) hz (by kernel_rfl) rfl ?_
      obtain ⟨_, ⟨rfl, hn10⟩, at9⟩ := h_xs.getk hx4
      have bdhn10 : -9223372036854775808 ≤ x6 ∧ x6 ≤ 9223372036854775807 := bd_of hn10
      have nthn10 := notInt_i64 bdhn10
      replace at9 : At G1 (q3.add (0 * 1)) [.int .i64 x6] := at9
      refine WD_idx htb 11 (by rfl) rfl (by decide +kernel) (fun _ _ _ _ _ h => h) (Le.refl _) q3 n_xs 0 1 (by kernel_rfl) (by omega) (by omega) ?_
      refine WD_ld htb 12 (by rfl) rfl (by decide +kernel) (fun _ _ _ _ _ h => h) (Le.refl _) (q3.add (0 * 1)) false 1 [.int .i64 x6] (by kernel_rfl) at9 rfl (by decide) ?_
      refine WD_takeL htb rfl (fun _ _ _ _ _ h => h) (Le.refl _) [13, 17, 18] (fuel := 0) (listed' := bts 19 524287) (S' := ⟨[(24, (bB (decide (((notInt .i64 x6) : Int) ≥ ((n_rs : Nat) : Int))))), (23, (bB (decide (((notInt .i64 x6) : Int) ≥ ((n_rs : Nat) : Int))))), (19, (iI (notInt .i64 x6))), (18, (iI x6)), (17, (.v (.pointer (some (q3.add (0 * 1)))))), (22, (iN n_rs)), (21, (sS A_rs n_rs c_rs)), (20, (.p 0 2)), (16, (sS (some q3) n_xs c_xs)), (15, (bB false)), (14, (bB (decide ((x6 : Int) ≥ 0)))), (13, (bB (decide ((x6 : Int) ≥ 0)))), (12, (iI x6)), (11, (.v (.pointer (some (q3.add (0 * 1)))))), (10, (sS (some q3) n_xs c_xs)), (9, (bB false)), (8, (bB ((((n_xs : Nat) : Int) : Int) == 0))), (7, (iN n_xs)), (6, (sS (some q3) n_xs c_xs)), (2, (.p 0 0)), (1, (sS (some q3) n_xs c_xs))], [], 1, [], [(0, bk2, (.cells 35 [(sS A_tk n_tk c_tk), (sS A_nm n_nm c_nm), (sS A_rs n_rs c_rs)]))]⟩) hz (by kernel_rfl) rfl ?_
      refine WD_done (by decide +kernel) ?_
      refine WK_keep [24, 2, 1] [] rfl rfl ?_
      refine WQ_code ?_
      refine WC_cond (b := (decide (((notInt .i64 x6) : Int) ≥ ((n_rs : Nat) : Int)))) rfl (fun hd => ?_) (fun hd => ?_)
      · replace hd := of_decide_eq_true hd
        refine WC_seq (WC_region ?_)
        refine WL_execS htb 2 [5, 4] [] ⟨[(5, (bB false)), (4, (sS none 0 0))], [], 1, [], [(0, bk2, (.cells 35 [(sS A_tk n_tk c_tk), (sS A_nm n_nm c_nm), (sS A_rs n_rs c_rs)]))]⟩ (by kernel_rfl) ?_
        refine WL_nil ?_
        refine WQ_code ?_
        refine WC_ret ?_
        refine WQ_then_ret ?_
        exact WQ_done htb [(sS none 0 0), (bB false)] _ (.inl rfl) rfl (by kernel_rfl) (fun ρ w hW => ⟨[], _, _, _, false, rfl, (Sl.none0 _ _), (altsS_no3 hx4 (by omega) (by omega)).symm⟩)
      · replace hd := of_decide_eq_false hd
        refine WC_skip ?_
        refine WQ_code ?_
        refine WK_keep [2, 1] [] rfl rfl ?_
        refine WC_seq (WC_draw mixed ?_)
        refine WD_takeL htb rfl (fun _ _ _ _ _ h => h) (Le.refl _) [0, 1, 2] (fuel := 7) (listed' := bts 10 7) (S' := ⟨[(27, (sS (some q3) n_xs c_xs)), (26, (sS A_rs n_rs c_rs)), (25, (.p 0 2)), (2, (.p 0 0)), (1, (sS (some q3) n_xs c_xs))], [], 1, [], [(0, bk2, (.cells 35 [(sS A_tk n_tk c_tk), (sS A_nm n_nm c_nm), (sS A_rs n_rs c_rs)]))]⟩) hz (by kernel_rfl) rfl ?_
        obtain ⟨_, ⟨rfl, hn13⟩, at12⟩ := h_xs.getk hx4
        have bdhn13 : -9223372036854775808 ≤ x6 ∧ x6 ≤ 9223372036854775807 := bd_of hn13
        have nthn13 := notInt_i64 bdhn13
        replace at12 : At G1 (q3.add (0 * 1)) [.int .i64 x6] := at12
        refine WD_idx htb 3 (by rfl) rfl (by decide +kernel) (fun _ _ _ _ _ h => h) (Le.refl _) q3 n_xs 0 1 (by kernel_rfl) (by omega) (by omega) ?_
        refine WD_ld htb 4 (by rfl) rfl (by decide +kernel) (fun _ _ _ _ _ h => h) (Le.refl _) (q3.add (0 * 1)) false 1 [.int .i64 x6] (by kernel_rfl) at12 rfl (by decide) ?_
        refine WD_takeL htb rfl (fun _ _ _ _ _ h => h) (Le.refl _) [5] (fuel := 4) (listed' := bts 10 63) (S' := ⟨[(30, (iI (notInt .i64 x6))), (29, (iI x6)), (28, (.v (.pointer (some (q3.add (0 * 1)))))), (27, (sS (some q3) n_xs c_xs)), (26, (sS A_rs n_rs c_rs)), (25, (.p 0 2)), (2, (.p 0 0)), (1, (sS (some q3) n_xs c_xs))], [], 1, [], [(0, bk2, (.cells 35 [(sS A_tk n_tk c_tk), (sS A_nm n_nm c_nm), (sS A_rs n_rs c_rs)]))]⟩) hz (by kernel_rfl) rfl ?_
        obtain ⟨q14, rfl⟩ := h_rs.ptr (by omega)
        obtain ⟨x17, _, hx15, hr18, at16⟩ := h_rs.get (((notInt .i64 x6) : Int).toNat) (by omega)
        obtain ⟨A20, n21, c22, rfl, hs19⟩ := Sl.of hr18
        replace hs19 : Sl (tSlice (tInt .i64)) _ A20 n21 c22 x17 := hs19
        have lhs19 := hs19.len'
        replace at16 : At G1 (q14.add ((((notInt .i64 x6) : Int).toNat) * 1)) [.slice A20 n21 c22] := at16
        refine WD_idx htb 6 (by rfl) rfl (by decide +kernel) (fun _ _ _ _ _ h => h) (Le.refl _) q14 n_rs (notInt .i64 x6) 1 (by kernel_rfl) (by omega) (by omega) ?_
        refine WD_ld htb 7 (by rfl) rfl (by decide +kernel) (fun _ _ _ _ _ h => h) (Le.refl _) (q14.add ((((notInt .i64 x6) : Int).toNat) * 1)) false 1 [.slice A20 n21 c22] (by kernel_rfl) at16 rfl (by decide) ?_
        refine WD_takeL htb rfl (fun _ _ _ _ _ h => h) (Le.refl _) [8, 9] (fuel := 0) (listed' := bts 10 1023) (S' := ⟨[(5, (bB true)), (4, (sS A20 n21 c22)), (32, (sS A20 n21 c22)), (31, (.v (.pointer (some (q14.add ((((notInt .i64 x6) : Int).toNat) * 1)))))), (30, (iI (notInt .i64 x6))), (29, (iI x6)), (28, (.v (.pointer (some (q3.add (0 * 1)))))), (27, (sS (some q3) n_xs c_xs)), (26, (sS (some q14) n_rs c_rs)), (25, (.p 0 2)), (2, (.p 0 0)), (1, (sS (some q3) n_xs c_xs))], [], 1, [], [(0, bk2, (.cells 35 [(sS A_tk n_tk c_tk), (sS A_nm n_nm c_nm), (sS (some q14) n_rs c_rs)]))]⟩) hz (by kernel_rfl) rfl ?_
        refine WD_done (by decide +kernel) ?_
        refine WK_keep [5, 4] [] rfl rfl ?_
        refine WQ_code ?_
        refine WC_ret ?_
        exact WQ_done htb [(sS A20 n21 c22), (bB true)] _ (.inl rfl) rfl (by kernel_rfl) (fun ρ w hW => ⟨x17, _, _, _, true, rfl, hs19, (altsS_yes hx4 (by omega) (by omega) hx15).symm⟩)

end Go.Proofs.Ytbpajkjolhoflaa.Sym
