/- Walks of functions that the laws of this seat reach, printed by a program of this session's. -/
import Derived.Test.YtbpajkjolhoflaaTy
import Derived.Test.YtbpajkjolhoflaaSymG
set_option linter.unusedSimpArgs false
set_option linter.unusedVariables false
set_option maxHeartbeats 4000000
namespace Go.Proofs.Ytbpajkjolhoflaa.Sym
open Go Go.Proofs Go.RowKit
theorem ne_case {xs ys : List Int} (h : xs.length ≠ ys.length) : false = decide (xs = ys) := by
  have : xs ≠ ys := fun e => h (by rw [e])
  simp [this]
theorem eq_case1 {xs ys : List Int} {i : Nat} {x y : Int} (h1 : xs[i]? = some x) (h2 : ys[i]? = some y) (h : x ≠ y) : false = decide (xs = ys) := by
  have : xs ≠ ys := fun e => h (by subst e; rw [h1] at h2; injection h2)
  simp [this]
theorem take_succ' {α : Type} {xs : List α} {i : Nat} {x : α} (h1 : xs[i]? = some x) : xs.take (i + 1) = xs.take i ++ [x] := by
  obtain ⟨h, e⟩ := List.getElem?_eq_some_iff.1 h1
  rw [List.take_succ_eq_append_getElem h, e]
theorem eq_case2 {xs ys : List Int} {i : Nat} {x y : Int} (ht : xs.take i = ys.take i) (h1 : xs[i]? = some x) (h2 : ys[i]? = some y) (h : x = y) : xs.take (i + 1) = ys.take (i + 1) := by
  rw [take_succ' h1, take_succ' h2, ht, h]
theorem eq_case3 {xs ys : List Int} {i : Nat} (ht : xs.take i = ys.take i) (h1 : xs.length ≤ i) (h : xs.length = ys.length) : true = decide (xs = ys) := by
  rw [List.take_of_length_le h1, List.take_of_length_le (by omega)] at ht
  simp [ht]
theorem sameInts_ok {w : World} {G : Heap} (hG : Has w G) {xs : (List Int)} {A_xs : Option Addr} {n_xs : Nat} {c_xs : Nat} {ys : (List Int)} {A_ys : Option Addr} {n_ys : Nat} {c_ys : Nat} (h_xs : Sl (tInt .i64) G A_xs n_xs c_xs xs) (h_ys : Sl (tInt .i64) G A_ys n_ys c_ys ys) :
    Calls Try.prog 26 #[(.slice A_xs n_xs c_xs), (.slice A_ys n_ys c_ys)] w (Ret w G fun v G' => ∃ (b : Bool), v = .bool b ∧ (b = decide (xs = ys))) := by
  have lh_xs := h_xs.len'
  have lh_ys := h_ys.len'
  refine enter [(sS A_xs n_xs c_xs), (sS A_ys n_ys c_ys)] 26 Try.func26 rfl rfl rfl rfl hG ?_
  refine WC_seq (WC_region ?_)
  refine WL_execS htb 1 [0, 1] [] ⟨[(0, (sS A_xs n_xs c_xs)), (1, (sS A_ys n_ys c_ys))], [], 0, [], []⟩ (by kernel_rfl) ?_
  refine WL_nil ?_
  refine WQ_code ?_
  refine WC_seq ?_
  refine WC_seq (WC_region ?_)
  refine WL_execS htb 5 [10, 0, 1] [] ⟨[(10, (bB ((((n_xs : Nat) : Int) : Int) != ((n_ys : Nat) : Int)))), (0, (sS A_xs n_xs c_xs)), (1, (sS A_ys n_ys c_ys))], [], 0, [], []⟩ (by kernel_rfl) ?_
  refine WL_nil ?_
  refine WQ_code ?_
  refine WC_cond (b := ((((n_xs : Nat) : Int) : Int) != ((n_ys : Nat) : Int))) rfl (fun hb => ?_) (fun hb => ?_)
  · replace hb := bne_iff_ne.1 hb
    refine WC_seq (WC_region ?_)
    refine WL_execS htb 1 [4] [] ⟨[(4, (bB false))], [], 0, [], []⟩ (by kernel_rfl) ?_
    refine WL_nil ?_
    refine WQ_code ?_
    refine WC_ret ?_
    refine WQ_then_ret ?_
    exact WQ_done htb [(bB false)] _ (.inl rfl) rfl (by kernel_rfl) (fun ρ w hW => ⟨false, rfl, ne_case (by omega)⟩)
  · replace hb := (bne_eq_false_iff_eq.1) hb
    refine WC_skip ?_
    refine WQ_code ?_
    refine WC_seq ?_
    refine WC_seq (WC_region ?_)
    refine WL_execS htb 3 [13, 12, 0, 1] [] ⟨[(13, (iI 0)), (12, (iN n_xs)), (0, (sS A_xs n_xs c_xs)), (1, (sS A_ys n_ys c_ys))], [], 0, [], []⟩ (by kernel_rfl) ?_
    refine WL_nil ?_
    refine WQ_code ?_
    refine WC_block ?_
    refine WK_keep [13, 12, 0, 1] [] rfl rfl ?_
    refine WK_env [(13, (iN 0)), (12, (iN n_xs)), (0, (sS A_xs n_xs c_xs)), (1, (sS A_ys n_ys c_ys))] (fun ρ => ⟨rfl, rfl, ⟨rfl, rfl, ⟨rfl, rfl, ⟨rfl, rfl, trivial⟩⟩⟩⟩) ?_
    refine WC_loop (ι := Nat) (fun i G1 => Le G G1 ∧ (i ≤ n_xs ∧ xs.take i = ys.take i)) (fun i => ⟨[(13, (iN i)), (12, (iN n_xs)), (0, (sS A_xs n_xs c_xs)), (1, (sS A_ys n_ys c_ys))], [], 0, [], []⟩) (fun i => n_xs - i) 0 ⟨Le.refl _, ⟨Nat.zero_le _, rfl⟩⟩ rfl ?_
    rintro i G1 ⟨hle, hF⟩
    replace h_xs := h_xs.mono hle
    replace h_ys := h_ys.mono hle
    have hc1 := hle
    obtain ⟨hi, ht⟩ := hF
    refine WC_seq (WC_region ?_)
    refine WL_execS htb 1 [14, 13, 12, 0, 1] [] ⟨[(14, (bB (decide ((((i : Nat) : Int) : Int) < ((n_xs : Nat) : Int))))), (13, (iN i)), (12, (iN n_xs)), (0, (sS A_xs n_xs c_xs)), (1, (sS A_ys n_ys c_ys))], [], 0, [], []⟩ (by kernel_rfl) ?_
    refine WL_nil ?_
    refine WQ_code ?_
    refine WC_seq ?_
    refine WC_cond (b := (decide ((((i : Nat) : Int) : Int) < ((n_xs : Nat) : Int)))) rfl (fun hc => ?_) (fun hc => ?_)
    · replace hc := of_decide_eq_true hc
      refine WC_skip ?_
      refine WQ_code ?_
      refine WC_seq ?_
      refine WC_block ?_
      refine WC_seq (WC_region ?_)
      refine WL_execS htb 2 [5, 13, 12, 0, 1] [] ⟨[(5, (iN i)), (13, (iN i)), (12, (iN n_xs)), (0, (sS A_xs n_xs c_xs)), (1, (sS A_ys n_ys c_ys))], [], 0, [], []⟩ (by kernel_rfl) ?_
      refine WL_nil ?_
      refine WQ_code ?_
      refine WC_seq (WC_draw mixed ?_)
      refine WD_takeL htb rfl (fun _ _ _ _ _ h => h) (Le.refl _) [0, 1, 4, 5] (fuel := 5) (listed' := bts 9 51) (S' := ⟨[(21, (iN i)), (20, (sS A_ys n_ys c_ys)), (17, (iN i)), (16, (sS A_xs n_xs c_xs)), (5, (iN i)), (13, (iN i)), (12, (iN n_xs)), (0, (sS A_xs n_xs c_xs)), (1, (sS A_ys n_ys c_ys))], [], 0, [], []⟩) (FZ.nil _) (by kernel_rfl) rfl ?_
      obtain ⟨q2, rfl⟩ := h_xs.ptr (by omega)
      obtain ⟨x5, _, hx3, ⟨rfl, hn6⟩, at4⟩ := h_xs.get i (by omega)
      have bdhn6 : -9223372036854775808 ≤ x5 ∧ x5 ≤ 9223372036854775807 := bd_of hn6
      replace at4 : At G1 (q2.add (i * 1)) [.int .i64 x5] := at4
      refine WD_idx htb 2 (by rfl) rfl (by decide +kernel) (fun _ _ _ _ _ h => h) (Le.refl _) q2 n_xs ((i : Nat) : Int) 1 (by kernel_rfl) (by omega) (by omega) ?_
      refine WD_ld htb 3 (by rfl) rfl (by decide +kernel) (fun _ _ _ _ _ h => h) (Le.refl _) (q2.add (i * 1)) false 1 [.int .i64 x5] (by kernel_rfl) at4 rfl (by decide) ?_
      obtain ⟨q7, rfl⟩ := h_ys.ptr (by omega)
      obtain ⟨x10, _, hx8, ⟨rfl, hn11⟩, at9⟩ := h_ys.get i (by omega)
      have bdhn11 : -9223372036854775808 ≤ x10 ∧ x10 ≤ 9223372036854775807 := bd_of hn11
      replace at9 : At G1 (q7.add (i * 1)) [.int .i64 x10] := at9
      refine WD_idx htb 6 (by rfl) rfl (by decide +kernel) (fun _ _ _ _ _ h => h) (Le.refl _) q7 n_ys ((i : Nat) : Int) 1 (by kernel_rfl) (by omega) (by omega) ?_
      refine WD_ld htb 7 (by rfl) rfl (by decide +kernel) (fun _ _ _ _ _ h => h) (Le.refl _) (q7.add (i * 1)) false 1 [.int .i64 x10] (by kernel_rfl) at9 rfl (by decide) ?_
      refine WD_takeL htb rfl (fun _ _ _ _ _ h => h) (Le.refl _) [8] (fuel := 0) (listed' := bts 9 511) (S' := ⟨[(24, (bB ((x5 : Int) != x10))), (23, (iI x10)), (22, (.v (.pointer (some (q7.add (i * 1)))))), (19, (iI x5)), (18, (.v (.pointer (some (q2.add (i * 1)))))), (21, (iN i)), (20, (sS (some q7) n_ys c_ys)), (17, (iN i)), (16, (sS (some q2) n_xs c_xs)), (5, (iN i)), (13, (iN i)), (12, (iN n_xs)), (0, (sS (some q2) n_xs c_xs)), (1, (sS (some q7) n_ys c_ys))], [], 0, [], []⟩) (FZ.nil _) (by kernel_rfl) rfl ?_
      refine WD_done (by decide +kernel) ?_
      refine WK_keep [24, 13, 12, 0, 1] [] rfl rfl ?_
      refine WQ_code ?_
      refine WC_cond (b := ((x5 : Int) != x10)) rfl (fun hx => ?_) (fun hx => ?_)
      · replace hx := bne_iff_ne.1 hx
        refine WC_seq (WC_region ?_)
        refine WL_execS htb 1 [4] [] ⟨[(4, (bB false))], [], 0, [], []⟩ (by kernel_rfl) ?_
        refine WL_nil ?_
        refine WQ_code ?_
        refine WC_ret ?_
        refine WQ_blk_ret ?_
        refine WQ_then_ret ?_
        refine WQ_then_ret ?_
        refine WQ_blk_ret ?_
        refine WQ_then_ret ?_
        exact WQ_done htb [(bB false)] _ (.inl rfl) rfl (by kernel_rfl) (fun ρ w hW => ⟨false, rfl, eq_case1 hx3 hx8 hx⟩)
      · replace hx := (bne_eq_false_iff_eq.1) hx
        refine WC_skip ?_
        refine WQ_blk ?_
        refine WQ_code ?_
        refine WC_region ?_
        refine WL_execS htb 2 [13, 12, 0, 1] [] ⟨[(13, (iI (IntKind.i64.wrap (((i : Nat) : Int) + 1)))), (12, (iN n_xs)), (0, (sS (some q2) n_xs c_xs)), (1, (sS (some q7) n_ys c_ys))], [], 0, [], []⟩ (by kernel_rfl) ?_
        refine WL_nil ?_
        refine WK_env [(13, (iN (i + 1))), (12, (iN n_xs)), (0, (sS (some q2) n_xs c_xs)), (1, (sS (some q7) n_ys c_ys))] (fun ρ => ⟨rfl, (congrArg (Value.int .i64) (by rw [wrap_id (by omega)]; first | rfl | omega)), ⟨rfl, rfl, ⟨rfl, rfl, ⟨rfl, rfl, trivial⟩⟩⟩⟩) ?_
        refine WK_keep [13, 12, 0, 1] [] rfl rfl ?_
        refine WK_env [(13, (iN (i+1))), (12, (iN n_xs)), (0, (sS (some q2) n_xs c_xs)), (1, (sS (some q7) n_ys c_ys))] (fun ρ => ⟨rfl, rfl, ⟨rfl, rfl, ⟨rfl, rfl, ⟨rfl, rfl, trivial⟩⟩⟩⟩) ?_
        exact WQ_next (i+1) (by omega) ⟨hc1, ⟨by omega, eq_case2 ht hx3 hx8 hx⟩⟩ (fun ρ a w h => h)
    · replace hc := of_decide_eq_false hc
      refine WC_exit ?_
      refine WQ_then_exit ?_
      refine WQ_then_exit ?_
      refine WQ_hit ?_
      refine WQ_code ?_
      refine WC_seq (WC_region ?_)
      refine WL_execS htb 1 [4] [] ⟨[(4, (bB true))], [], 0, [], []⟩ (by kernel_rfl) ?_
      refine WL_nil ?_
      refine WQ_code ?_
      refine WC_ret ?_
      exact WQ_done htb [(bB true)] _ (.inl rfl) rfl (by kernel_rfl) (fun ρ w hW => ⟨true, rfl, eq_case3 ht (by omega) (by omega)⟩)

theorem equal_ok {w : World} {G : Heap} (hG : Has w G) {xs : (List Int)} {A_xs : Option Addr} {n_xs : Nat} {c_xs : Nat} {ys : (List Int)} {A_ys : Option Addr} {n_ys : Nat} {c_ys : Nat} (h_xs : Sl (tInt .i64) G A_xs n_xs c_xs xs) (h_ys : Sl (tInt .i64) G A_ys n_ys c_ys ys) :
    Calls Try.prog 42 #[(.slice A_xs n_xs c_xs), (.slice A_ys n_ys c_ys)] w (Ret w G fun v G' => ∃ (b : Bool), v = .bool b ∧ (b = decide (xs = ys))) := by
  have lh_xs := h_xs.len'
  have lh_ys := h_ys.len'
  refine enter [(sS A_xs n_xs c_xs), (sS A_ys n_ys c_ys)] 26 Try.func42 rfl rfl rfl rfl hG ?_
  refine WC_seq (WC_region ?_)
  refine WL_execS htb 1 [0, 1] [] ⟨[(0, (sS A_xs n_xs c_xs)), (1, (sS A_ys n_ys c_ys))], [], 0, [], []⟩ (by kernel_rfl) ?_
  refine WL_nil ?_
  refine WQ_code ?_
  refine WC_seq ?_
  refine WC_seq (WC_region ?_)
  refine WL_execS htb 5 [10, 0, 1] [] ⟨[(10, (bB ((((n_xs : Nat) : Int) : Int) != ((n_ys : Nat) : Int)))), (0, (sS A_xs n_xs c_xs)), (1, (sS A_ys n_ys c_ys))], [], 0, [], []⟩ (by kernel_rfl) ?_
  refine WL_nil ?_
  refine WQ_code ?_
  refine WC_cond (b := ((((n_xs : Nat) : Int) : Int) != ((n_ys : Nat) : Int))) rfl (fun hb => ?_) (fun hb => ?_)
  · replace hb := bne_iff_ne.1 hb
    refine WC_seq (WC_region ?_)
    refine WL_execS htb 1 [4] [] ⟨[(4, (bB false))], [], 0, [], []⟩ (by kernel_rfl) ?_
    refine WL_nil ?_
    refine WQ_code ?_
    refine WC_ret ?_
    refine WQ_then_ret ?_
    exact WQ_done htb [(bB false)] _ (.inl rfl) rfl (by kernel_rfl) (fun ρ w hW => ⟨false, rfl, ne_case (by omega)⟩)
  · replace hb := (bne_eq_false_iff_eq.1) hb
    refine WC_skip ?_
    refine WQ_code ?_
    refine WC_seq ?_
    refine WC_seq (WC_region ?_)
    refine WL_execS htb 3 [13, 12, 0, 1] [] ⟨[(13, (iI 0)), (12, (iN n_xs)), (0, (sS A_xs n_xs c_xs)), (1, (sS A_ys n_ys c_ys))], [], 0, [], []⟩ (by kernel_rfl) ?_
    refine WL_nil ?_
    refine WQ_code ?_
    refine WC_block ?_
    refine WK_keep [13, 12, 0, 1] [] rfl rfl ?_
    refine WK_env [(13, (iN 0)), (12, (iN n_xs)), (0, (sS A_xs n_xs c_xs)), (1, (sS A_ys n_ys c_ys))] (fun ρ => ⟨rfl, rfl, ⟨rfl, rfl, ⟨rfl, rfl, ⟨rfl, rfl, trivial⟩⟩⟩⟩) ?_
    refine WC_loop (ι := Nat) (fun i G1 => Le G G1 ∧ (i ≤ n_xs ∧ xs.take i = ys.take i)) (fun i => ⟨[(13, (iN i)), (12, (iN n_xs)), (0, (sS A_xs n_xs c_xs)), (1, (sS A_ys n_ys c_ys))], [], 0, [], []⟩) (fun i => n_xs - i) 0 ⟨Le.refl _, ⟨Nat.zero_le _, rfl⟩⟩ rfl ?_
    rintro i G1 ⟨hle, hF⟩
    replace h_xs := h_xs.mono hle
    replace h_ys := h_ys.mono hle
    have hc1 := hle
    obtain ⟨hi, ht⟩ := hF
    refine WC_seq (WC_region ?_)
    refine WL_execS htb 1 [14, 13, 12, 0, 1] [] ⟨[(14, (bB (decide ((((i : Nat) : Int) : Int) < ((n_xs : Nat) : Int))))), (13, (iN i)), (12, (iN n_xs)), (0, (sS A_xs n_xs c_xs)), (1, (sS A_ys n_ys c_ys))], [], 0, [], []⟩ (by kernel_rfl) ?_
    refine WL_nil ?_
    refine WQ_code ?_
    refine WC_seq ?_
    refine WC_cond (b := (decide ((((i : Nat) : Int) : Int) < ((n_xs : Nat) : Int)))) rfl (fun hc => ?_) (fun hc => ?_)
    · replace hc := of_decide_eq_true hc
      refine WC_skip ?_
      refine WQ_code ?_
      refine WC_seq ?_
      refine WC_block ?_
      refine WC_seq (WC_region ?_)
      refine WL_execS htb 2 [5, 13, 12, 0, 1] [] ⟨[(5, (iN i)), (13, (iN i)), (12, (iN n_xs)), (0, (sS A_xs n_xs c_xs)), (1, (sS A_ys n_ys c_ys))], [], 0, [], []⟩ (by kernel_rfl) ?_
      refine WL_nil ?_
      refine WQ_code ?_
      refine WC_seq (WC_draw mixed ?_)
      refine WD_takeL htb rfl (fun _ _ _ _ _ h => h) (Le.refl _) [0, 1, 4, 5] (fuel := 5) (listed' := bts 9 51) (S' := ⟨[(21, (iN i)), (20, (sS A_ys n_ys c_ys)), (17, (iN i)), (16, (sS A_xs n_xs c_xs)), (5, (iN i)), (13, (iN i)), (12, (iN n_xs)), (0, (sS A_xs n_xs c_xs)), (1, (sS A_ys n_ys c_ys))], [], 0, [], []⟩) (FZ.nil _) (by kernel_rfl) rfl ?_
      obtain ⟨q2, rfl⟩ := h_xs.ptr (by omega)
      obtain ⟨x5, _, hx3, ⟨rfl, hn6⟩, at4⟩ := h_xs.get i (by omega)
      have bdhn6 : -9223372036854775808 ≤ x5 ∧ x5 ≤ 9223372036854775807 := bd_of hn6
      replace at4 : At G1 (q2.add (i * 1)) [.int .i64 x5] := at4
      refine WD_idx htb 2 (by rfl) rfl (by decide +kernel) (fun _ _ _ _ _ h => h) (Le.refl _) q2 n_xs ((i : Nat) : Int) 1 (by kernel_rfl) (by omega) (by omega) ?_
      refine WD_ld htb 3 (by rfl) rfl (by decide +kernel) (fun _ _ _ _ _ h => h) (Le.refl _) (q2.add (i * 1)) false 1 [.int .i64 x5] (by kernel_rfl) at4 rfl (by decide) ?_
      obtain ⟨q7, rfl⟩ := h_ys.ptr (by omega)
      obtain ⟨x10, _, hx8, ⟨rfl, hn11⟩, at9⟩ := h_ys.get i (by omega)
      have bdhn11 : -9223372036854775808 ≤ x10 ∧ x10 ≤ 9223372036854775807 := bd_of hn11
      replace at9 : At G1 (q7.add (i * 1)) [.int .i64 x10] := at9
      refine WD_idx htb 6 (by rfl) rfl (by decide +kernel) (fun _ _ _ _ _ h => h) (Le.refl _) q7 n_ys ((i : Nat) : Int) 1 (by kernel_rfl) (by omega) (by omega) ?_
      refine WD_ld htb 7 (by rfl) rfl (by decide +kernel) (fun _ _ _ _ _ h => h) (Le.refl _) (q7.add (i * 1)) false 1 [.int .i64 x10] (by kernel_rfl) at9 rfl (by decide) ?_
      refine WD_takeL htb rfl (fun _ _ _ _ _ h => h) (Le.refl _) [8] (fuel := 0) (listed' := bts 9 511) (S' := ⟨[(24, (bB ((x5 : Int) != x10))), (23, (iI x10)), (22, (.v (.pointer (some (q7.add (i * 1)))))), (19, (iI x5)), (18, (.v (.pointer (some (q2.add (i * 1)))))), (21, (iN i)), (20, (sS (some q7) n_ys c_ys)), (17, (iN i)), (16, (sS (some q2) n_xs c_xs)), (5, (iN i)), (13, (iN i)), (12, (iN n_xs)), (0, (sS (some q2) n_xs c_xs)), (1, (sS (some q7) n_ys c_ys))], [], 0, [], []⟩) (FZ.nil _) (by kernel_rfl) rfl ?_
      refine WD_done (by decide +kernel) ?_
      refine WK_keep [24, 13, 12, 0, 1] [] rfl rfl ?_
      refine WQ_code ?_
      refine WC_cond (b := ((x5 : Int) != x10)) rfl (fun hx => ?_) (fun hx => ?_)
      · replace hx := bne_iff_ne.1 hx
        refine WC_seq (WC_region ?_)
        refine WL_execS htb 1 [4] [] ⟨[(4, (bB false))], [], 0, [], []⟩ (by kernel_rfl) ?_
        refine WL_nil ?_
        refine WQ_code ?_
        refine WC_ret ?_
        refine WQ_blk_ret ?_
        refine WQ_then_ret ?_
        refine WQ_then_ret ?_
        refine WQ_blk_ret ?_
        refine WQ_then_ret ?_
        exact WQ_done htb [(bB false)] _ (.inl rfl) rfl (by kernel_rfl) (fun ρ w hW => ⟨false, rfl, eq_case1 hx3 hx8 hx⟩)
      · replace hx := (bne_eq_false_iff_eq.1) hx
        refine WC_skip ?_
        refine WQ_blk ?_
        refine WQ_code ?_
        refine WC_region ?_
        refine WL_execS htb 2 [13, 12, 0, 1] [] ⟨[(13, (iI (IntKind.i64.wrap (((i : Nat) : Int) + 1)))), (12, (iN n_xs)), (0, (sS (some q2) n_xs c_xs)), (1, (sS (some q7) n_ys c_ys))], [], 0, [], []⟩ (by kernel_rfl) ?_
        refine WL_nil ?_
        refine WK_env [(13, (iN (i + 1))), (12, (iN n_xs)), (0, (sS (some q2) n_xs c_xs)), (1, (sS (some q7) n_ys c_ys))] (fun ρ => ⟨rfl, (congrArg (Value.int .i64) (by rw [wrap_id (by omega)]; first | rfl | omega)), ⟨rfl, rfl, ⟨rfl, rfl, ⟨rfl, rfl, trivial⟩⟩⟩⟩) ?_
        refine WK_keep [13, 12, 0, 1] [] rfl rfl ?_
        refine WK_env [(13, (iN (i+1))), (12, (iN n_xs)), (0, (sS (some q2) n_xs c_xs)), (1, (sS (some q7) n_ys c_ys))] (fun ρ => ⟨rfl, rfl, ⟨rfl, rfl, ⟨rfl, rfl, ⟨rfl, rfl, trivial⟩⟩⟩⟩) ?_
        exact WQ_next (i+1) (by omega) ⟨hc1, ⟨by omega, eq_case2 ht hx3 hx8 hx⟩⟩ (fun ρ a w h => h)
    · replace hc := of_decide_eq_false hc
      refine WC_exit ?_
      refine WQ_then_exit ?_
      refine WQ_then_exit ?_
      refine WQ_hit ?_
      refine WQ_code ?_
      refine WC_seq (WC_region ?_)
      refine WL_execS htb 1 [4] [] ⟨[(4, (bB true))], [], 0, [], []⟩ (by kernel_rfl) ?_
      refine WL_nil ?_
      refine WQ_code ?_
      refine WC_ret ?_
      exact WQ_done htb [(bB true)] _ (.inl rfl) rfl (by kernel_rfl) (fun ρ w hW => ⟨true, rfl, eq_case3 ht (by omega) (by omega)⟩)

end Go.Proofs.Ytbpajkjolhoflaa.Sym
