/- Walks of functions that the laws of this seat reach, printed by a program of this session's. -/
import Derived.Test.YtfemkbockhpmcaaB1
import Derived.Test.YtfemkbockhpmcaaSymP
set_option linter.unusedSimpArgs false
set_option linter.unusedVariables false
set_option maxHeartbeats 4000000
namespace Go.Proofs.Ytfemkbockhpmcaa.Sym
open Go Go.Proofs Go.RowKit

theorem isFlaw : IsFlaw Try.prog 31 :=
  ⟨by kernel_rfl, by kernel_rfl, by kernel_rfl, ⟨({ name := "Kind", type := 3, offset := 0, embedded := false, tag := "", pkgPath := "", byteOffset := 0 } : Field), ({ name := "Name", type := 9, offset := 1, embedded := false, tag := "", pkgPath := "", byteOffset := 8 } : Field), by kernel_rfl, by decide, by decide, by rfl, by rfl, by kernel_rfl, by kernel_rfl, by kernel_rfl, by kernel_rfl⟩⟩
section
variable {α : Type} [DecidableEq α] {xs ys : List α} {i : Nat} {x y : α}
theorem ne_caseG (h : xs.length ≠ ys.length) : false = decide (xs = ys) := (decide_eq_false (fun e => h (by rw [e]))).symm
theorem eq_caseG1 (h1 : xs[i]? = some x) (h2 : ys[i]? = some y) (h : ¬ x = y) : false = decide (xs = ys) := (decide_eq_false (fun e => h (by subst e; rw [h1] at h2; injection h2))).symm
omit [DecidableEq α] in
theorem eq_caseG2 (ht : xs.take i = ys.take i) (h1 : xs[i]? = some x) (h2 : ys[i]? = some y) (h : x = y) : xs.take (i + 1) = ys.take (i + 1) := by rw [take_succ' h1, take_succ' h2, ht, h]
theorem eq_caseG3 (ht : xs.take i = ys.take i) (h1 : xs.length ≤ i) (h : ys.length ≤ i) : true = decide (xs = ys) := by
  rw [List.take_of_length_le h1, List.take_of_length_le h] at ht
  exact (decide_eq_true ht).symm
end
theorem sameFlaws_ok {w : World} {G : Heap} (hG : Has w G) {xs : (List (Int × ByteArray))} {A_xs : Option Addr} {n_xs : Nat} {c_xs : Nat} {ys : (List (Int × ByteArray))} {A_ys : Option Addr} {n_ys : Nat} {c_ys : Nat} (h_xs : Sl (tPair (tInt .i64) tStr) G A_xs n_xs c_xs xs) (h_ys : Sl (tPair (tInt .i64) tStr) G A_ys n_ys c_ys ys) :
    Calls Try.prog 19 #[(.slice A_xs n_xs c_xs), (.slice A_ys n_ys c_ys)] w (Ret w G fun v G' => ∃ (b : Bool), v = .bool b ∧ (b = decide (xs = ys))) := by
 have lh_xs := h_xs.len'
 have lh_ys := h_ys.len'
 refine enter [(sS A_xs n_xs c_xs), (sS A_ys n_ys c_ys)] 26 Try.func19 rfl rfl rfl rfl hG ?_
 refine WC_seq (WC_region ?_)
 refine WL_execS htb 1 [0, 1] [] ⟨[(0, (sS A_xs n_xs c_xs)), (1, (sS A_ys n_ys c_ys))], [], 0, [], []⟩ (by kernel_rfl) ?_
 refine WL_nil ?_
 refine WQ_code ?_
 refine WC_seq ?_
 refine WC_seq (WC_region ?_)
 refine WL_execS htb 5 [10, 0, 1] [] ⟨[(10, (bB ((((n_xs : Nat) : Int) : Int) != ((n_ys : Nat) : Int)))), (0, (sS A_xs n_xs c_xs)), (1, (sS A_ys n_ys c_ys))], [], 0, [], []⟩ (by kernel_rfl) ?_
 refine WL_nil ?_
 refine WQ_code ?_
 refine WC_cond (b := ((((n_xs : Nat) : Int) : Int) != ((n_ys : Nat) : Int))) rfl (fun hb0 => ?_) (fun hb0 => ?_)
 ·
  replace hb0 := bne_iff_ne.1 hb0
  refine WC_seq (WC_region ?_)
  refine WL_execS htb 1 [4] [] ⟨[(4, (bB false))], [], 0, [], []⟩ (by kernel_rfl) ?_
  refine WL_nil ?_
  refine WQ_code ?_
  refine WC_ret ?_
  refine WQ_then_ret ?_
  exact WQ_done htb [(bB false)] _ (.inl rfl) rfl (by kernel_rfl) (fun ρ w hW => ⟨false, rfl, ne_caseG (by omega)⟩)
 ·
  replace hb0 := (bne_eq_false_iff_eq.1) hb0
  refine WC_skip ?_
  refine WQ_code ?_
  refine WC_seq ?_
  refine WC_seq (WC_region ?_)
  refine WL_execS htb 3 [13, 12, 0, 1] [] ⟨[(13, (iI 0)), (12, (iN n_xs)), (0, (sS A_xs n_xs c_xs)), (1, (sS A_ys n_ys c_ys))], [], 0, [], []⟩ (by kernel_rfl) ?_
  refine WL_nil ?_
  refine WQ_code ?_
  refine WC_block ?_
  refine WK_keep [13, 12, 0, 1] [] rfl rfl ?_
  refine WK_env [(13, (iN 0)), (12, (iN n_xs)), (0, (sS A_xs n_xs c_xs)), (1, (sS A_ys n_ys c_ys))] (fun ρ => ⟨rfl, rfl, ⟨rfl, rfl, ⟨rfl, rfl, ⟨rfl, rfl, trivial⟩⟩⟩⟩) ?_
  refine WC_loop (ι := Nat) (fun i G1 => Le G G1 ∧ (i ≤ n_xs ∧ xs.take i = ys.take i)) (fun i => ⟨[(13, (iN i)), (12, (iN n_xs)), (0, (sS A_xs n_xs c_xs)), (1, (sS A_ys n_ys c_ys))], [], 0, [], []⟩) (fun i => n_xs - i) (0) ⟨Le.refl _, ⟨Nat.zero_le _, rfl⟩⟩ rfl ?_
  rintro i G1 ⟨hle, hF⟩
  show WC _ _ _ _ _ ⟨[(13, (iN i)), (12, (iN n_xs)), (0, (sS A_xs n_xs c_xs)), (1, (sS A_ys n_ys c_ys))], [], 0, [], []⟩ _
  replace h_xs := h_xs.mono hle
  replace h_ys := h_ys.mono hle
  have hc2 := hle
  obtain ⟨hi, ht⟩ := hF
  refine WC_seq (WC_region ?_)
  refine WL_execS htb 1 [14, 13, 12, 0, 1] [] ⟨[(14, (bB (decide ((((i : Nat) : Int) : Int) < ((n_xs : Nat) : Int))))), (13, (iN i)), (12, (iN n_xs)), (0, (sS A_xs n_xs c_xs)), (1, (sS A_ys n_ys c_ys))], [], 0, [], []⟩ (by kernel_rfl) ?_
  refine WL_nil ?_
  refine WQ_code ?_
  refine WC_seq ?_
  refine WC_cond (b := (decide ((((i : Nat) : Int) : Int) < ((n_xs : Nat) : Int)))) rfl (fun hc => ?_) (fun hc => ?_)
  ·
   replace hc := of_decide_eq_true hc
   refine WC_skip ?_
   refine WQ_code ?_
   refine WC_seq ?_
   refine WC_block ?_
   refine WC_seq (WC_region ?_)
   refine WL_execS htb 2 [5, 13, 12, 0, 1] [] ⟨[(5, (iN i)), (13, (iN i)), (12, (iN n_xs)), (0, (sS A_xs n_xs c_xs)), (1, (sS A_ys n_ys c_ys))], [], 0, [], []⟩ (by kernel_rfl) ?_
   refine WL_nil ?_
   refine WQ_code ?_
   refine WC_seq (WC_draw mixed ?_)
   refine WD_takeL htb rfl (fun _ _ _ _ _ h => h) (Le.refl _) [0, 1, 4, 5] (fuel := 5) (listed' := bts 9 51) (S' := ⟨[(21, (iN i)), (20, (sS A_ys n_ys c_ys)), (17, (iN i)), (16, (sS A_xs n_xs c_xs)), (5, (iN i)), (13, (iN i)), (12, (iN n_xs)), (0, (sS A_xs n_xs c_xs)), (1, (sS A_ys n_ys c_ys))], [], 0, [], []⟩) (FZ.nil _) (by kernel_rfl) rfl ?_
   obtain ⟨q3, rfl⟩ := h_xs.ptr (by omega)
   obtain ⟨⟨x6, x8⟩, _, hx4, ⟨_, _, rfl, ⟨rfl, hn7⟩, ⟨rfl, hn9⟩⟩, at5⟩ := h_xs.get i (by omega)
   have bdhn7 : -9223372036854775808 ≤ x6 ∧ x6 ≤ 9223372036854775807 := bd_of hn7
   replace at5 : At G1 (q3.add (i * 2)) [.int .i64 x6, .string x8] := at5
   refine WD_idx htb 2 (by rfl) rfl (by decide +kernel) (fun _ _ _ _ _ h => h) (Le.refl _) q3 n_xs ((i : Nat) : Int) 2 (by kernel_rfl) (by omega) (by omega) ?_
   refine WD_ld htb 3 (by rfl) rfl (by decide +kernel) (fun _ _ _ _ _ h => h) (Le.refl _) (q3.add (i * 2)) true 2 [.int .i64 x6, .string x8] (by kernel_rfl) at5 rfl (by decide) ?_
   obtain ⟨q10, rfl⟩ := h_ys.ptr (by omega)
   obtain ⟨⟨x13, x15⟩, _, hx11, ⟨_, _, rfl, ⟨rfl, hn14⟩, ⟨rfl, hn16⟩⟩, at12⟩ := h_ys.get i (by omega)
   have bdhn14 : -9223372036854775808 ≤ x13 ∧ x13 ≤ 9223372036854775807 := bd_of hn14
   replace at12 : At G1 (q10.add (i * 2)) [.int .i64 x13, .string x15] := at12
   refine WD_idx htb 6 (by rfl) rfl (by decide +kernel) (fun _ _ _ _ _ h => h) (Le.refl _) q10 n_ys ((i : Nat) : Int) 2 (by kernel_rfl) (by omega) (by omega) ?_
   refine WD_ld htb 7 (by rfl) rfl (by decide +kernel) (fun _ _ _ _ _ h => h) (Le.refl _) (q10.add (i * 2)) true 2 [.int .i64 x13, .string x15] (by kernel_rfl) at12 rfl (by decide) ?_
   refine WD_eqF 8 (by rfl) rfl (by decide +kernel) (fun _ _ _ _ _ h => h) (Le.refl _) 31 (.agg [(iI x6), (tS x8)]) (.agg [(iI x13), (tS x15)]) false (by kernel_rfl) isFlaw (x6, x8) (x13, x15) (fun ρ => rfl) (fun ρ => rfl) ?_
   show WD _ _ _ _ _ _ _ _ _ ⟨[(24, (bB (!(decide ((x6, x8) = (x13, x15)))))), (23, (.agg [(iI x13), (tS x15)])), (22, (.v (.pointer (some (q10.add (i * 2)))))), (19, (.agg [(iI x6), (tS x8)])), (18, (.v (.pointer (some (q3.add (i * 2)))))), (21, (iN i)), (20, (sS (some q10) n_ys c_ys)), (17, (iN i)), (16, (sS (some q3) n_xs c_xs)), (5, (iN i)), (13, (iN i)), (12, (iN n_xs)), (0, (sS (some q3) n_xs c_xs)), (1, (sS (some q10) n_ys c_ys))], [], 0, [], []⟩
   refine WD_done (by decide +kernel) ?_
   refine WK_keep [24, 13, 12, 0, 1] [] rfl rfl ?_
   refine WQ_code ?_
   refine WC_cond (b := (!(decide ((x6, x8) = (x13, x15))))) rfl (fun hd => ?_) (fun hd => ?_)
   ·
    rw [Bool.not_eq_true'] at hd
    replace hd := of_decide_eq_false hd
    refine WC_seq (WC_region ?_)
    refine WL_execS htb 1 [4] [] ⟨[(4, (bB false))], [], 0, [], []⟩ (by kernel_rfl) ?_
    refine WL_nil ?_
    refine WQ_code ?_
    refine WC_ret ?_
    refine WQ_blk_ret ?_
    refine WQ_then_ret ?_
    refine WQ_then_ret ?_
    refine WQ_blk_ret ?_
    refine WQ_then_ret ?_
    exact WQ_done htb [(bB false)] _ (.inl rfl) rfl (by kernel_rfl) (fun ρ w hW => ⟨false, rfl, eq_caseG1 hx4 hx11 (by simpa using hd)⟩)
   ·
    rw [Bool.not_eq_false'] at hd
    replace hd := of_decide_eq_true hd
    refine WC_skip ?_
    refine WQ_blk ?_
    refine WQ_code ?_
    refine WC_region ?_
    refine WL_execS htb 2 [13, 12, 0, 1] [] ⟨[(13, (iI (IntKind.i64.wrap (((i : Nat) : Int) + 1)))), (12, (iN n_xs)), (0, (sS (some q3) n_xs c_xs)), (1, (sS (some q10) n_ys c_ys))], [], 0, [], []⟩ (by kernel_rfl) ?_
    refine WL_nil ?_
    refine WK_env [(13, (iN (i + 1))), (12, (iN n_xs)), (0, (sS (some q3) n_xs c_xs)), (1, (sS (some q10) n_ys c_ys))] (fun ρ => ⟨rfl, (congrArg (Value.int .i64) (by rw [wrap_id (by omega)]; first | rfl | omega)), ⟨rfl, rfl, ⟨rfl, rfl, ⟨rfl, rfl, trivial⟩⟩⟩⟩) ?_
    refine WK_keep [13, 12, 0, 1] [] rfl rfl ?_
    exact WQ_next ((i + 1)) (by show n_xs - (i + 1) < n_xs - i; omega) ⟨hc2, ⟨by omega, eq_caseG2 ht hx4 hx11 (by simpa using hd)⟩⟩ (fun ρ a w h => h)
  ·
   replace hc := of_decide_eq_false hc
   refine WC_exit ?_
   refine WQ_then_exit ?_
   refine WQ_then_exit ?_
   refine WQ_hit ?_
   refine WQ_code ?_
   refine WC_seq (WC_region ?_)
   refine WL_execS htb 1 [4] [] ⟨[(4, (bB true))], [], 0, [], []⟩ (by kernel_rfl) ?_
   refine WL_nil ?_
   refine WQ_code ?_
   refine WC_ret ?_
   exact WQ_done htb [(bB true)] _ (.inl rfl) rfl (by kernel_rfl) (fun ρ w hW => ⟨true, rfl, eq_caseG3 ht (by omega) (by omega)⟩)

end Go.Proofs.Ytfemkbockhpmcaa.Sym
