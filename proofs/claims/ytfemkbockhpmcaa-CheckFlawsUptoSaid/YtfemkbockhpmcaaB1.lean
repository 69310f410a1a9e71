/- Walks of functions that the laws of this seat reach, printed by a program of this session's. -/
import Derived.Test.YtfemkbockhpmcaaL0
set_option linter.unusedSimpArgs false
set_option linter.unusedVariables false
set_option maxHeartbeats 4000000
namespace Go.Proofs.Ytfemkbockhpmcaa.Sym
open Go Go.Proofs Go.RowKit
theorem has_ok {w : World} {G : Heap} (hG : Has w G) {xs : (List ByteArray)} {A_xs : Option Addr} {n_xs : Nat} {c_xs : Nat} {x : ByteArray} (h_xs : Sl tStr G A_xs n_xs c_xs xs) (h_x : x.size ≤ big) :
    Calls Try.prog 65 #[(.slice A_xs n_xs c_xs), (.string x)] w (Ret w G fun v G' => ∃ (b : Bool), v = .bool b ∧ (b = hasB xs x)) := by
 have lh_xs := h_xs.len'
 refine enter [(sS A_xs n_xs c_xs), (tS x)] 17 Try.func65 rfl rfl rfl rfl hG ?_
 refine WC_seq (WC_region ?_)
 refine WL_execS htb 1 [0, 1] [] ⟨[(0, (sS A_xs n_xs c_xs)), (1, (tS x))], [], 0, [], []⟩ (by kernel_rfl) ?_
 refine WL_nil ?_
 refine WQ_code ?_
 refine WC_seq ?_
 refine WC_seq (WC_region ?_)
 refine WL_execS htb 3 [9, 8, 7, 1] [] ⟨[(9, (iI 0)), (8, (iN n_xs)), (7, (sS A_xs n_xs c_xs)), (1, (tS x))], [], 0, [], []⟩ (by kernel_rfl) ?_
 refine WL_nil ?_
 refine WQ_code ?_
 refine WC_block ?_
 refine WK_keep [9, 8, 7, 1] [] rfl rfl ?_
 refine WK_env [(9, (iN 0)), (8, (iN n_xs)), (7, (sS A_xs n_xs c_xs)), (1, (tS x))] (fun ρ => ⟨rfl, rfl, ⟨rfl, rfl, ⟨rfl, rfl, ⟨rfl, rfl, trivial⟩⟩⟩⟩) ?_
 refine WC_loop (ι := Nat) (fun i G1 => Le G G1 ∧ (i ≤ n_xs ∧ x ∉ xs.take i)) (fun i => ⟨[(9, (iN i)), (8, (iN n_xs)), (7, (sS A_xs n_xs c_xs)), (1, (tS x))], [], 0, [], []⟩) (fun i => n_xs - i) (0) ⟨Le.refl _, ⟨Nat.zero_le _, by simp⟩⟩ rfl ?_
 rintro i G1 ⟨hle, hF⟩
 show WC _ _ _ _ _ ⟨[(9, (iN i)), (8, (iN n_xs)), (7, (sS A_xs n_xs c_xs)), (1, (tS x))], [], 0, [], []⟩ _
 replace h_xs := h_xs.mono hle
 have hc2 := hle
 obtain ⟨hi, hn⟩ := hF
 refine WC_seq (WC_region ?_)
 refine WL_execS htb 1 [10, 9, 8, 7, 1] [] ⟨[(10, (bB (decide ((((i : Nat) : Int) : Int) < ((n_xs : Nat) : Int))))), (9, (iN i)), (8, (iN n_xs)), (7, (sS A_xs n_xs c_xs)), (1, (tS x))], [], 0, [], []⟩ (by kernel_rfl) ?_
 refine WL_nil ?_
 refine WQ_code ?_
 refine WC_seq ?_
 refine WC_cond (b := (decide ((((i : Nat) : Int) : Int) < ((n_xs : Nat) : Int)))) rfl (fun hc => ?_) (fun hc => ?_)
 ·
  replace hc := of_decide_eq_true hc
  refine WC_skip ?_
  refine WQ_code ?_
  refine WC_seq ?_
  refine WC_block ?_
  refine WC_seq (WC_region ?_)
  obtain ⟨q3, rfl⟩ := h_xs.ptr (by omega)
  obtain ⟨x6, _, hx4, ⟨rfl, hn7⟩, at5⟩ := h_xs.get i (by omega)
  replace at5 : At G1 (q3.add (i * 1)) [.string x6] := at5
  refine WL_op (WOp_idx htb q3 n_xs ((i : Nat) : Int) 1 (by kernel_rfl) (by omega) (by omega) ?_)
  refine WL_op (WOp_ld htb (q3.add (i * 1)) false 1 [.string x6] (by kernel_rfl) at5 rfl (by decide) ?_)
  refine WL_execS htb 1 [6, 9, 8, 7, 1] [] ⟨[(6, (tS x6)), (9, (iN i)), (8, (iN n_xs)), (7, (sS (some q3) n_xs c_xs)), (1, (tS x))], [], 0, [], []⟩ (by kernel_rfl) ?_
  refine WL_nil ?_
  refine WQ_code ?_
  refine WC_seq (WC_region ?_)
  refine WL_execS htb 3 [15, 9, 8, 7, 1] [] ⟨[(15, (bB ((x6 : ByteArray).toList == (x : ByteArray).toList))), (9, (iN i)), (8, (iN n_xs)), (7, (sS (some q3) n_xs c_xs)), (1, (tS x))], [], 0, [], []⟩ (by kernel_rfl) ?_
  refine WL_nil ?_
  refine WQ_code ?_
  refine WC_cond (b := ((x6 : ByteArray).toList == (x : ByteArray).toList)) rfl (fun hd => ?_) (fun hd => ?_)
  ·
   replace hd := eq_of_beq hd
   refine WC_seq (WC_region ?_)
   refine WL_execS htb 1 [4] [] ⟨[(4, (bB true))], [], 0, [], []⟩ (by kernel_rfl) ?_
   refine WL_nil ?_
   refine WQ_code ?_
   refine WC_ret ?_
   refine WQ_blk_ret ?_
   refine WQ_then_ret ?_
   refine WQ_then_ret ?_
   refine WQ_blk_ret ?_
   refine WQ_then_ret ?_
   exact WQ_done htb [(bB true)] _ (.inl rfl) rfl (by kernel_rfl) (fun ρ w hW => ⟨true, rfl, has_yes hx4 hd⟩)
  ·
   replace hd := ne_of_beq_false hd
   refine WC_skip ?_
   refine WQ_blk ?_
   refine WQ_code ?_
   refine WC_region ?_
   refine WL_execS htb 2 [9, 8, 7, 1] [] ⟨[(9, (iI (IntKind.i64.wrap (((i : Nat) : Int) + 1)))), (8, (iN n_xs)), (7, (sS (some q3) n_xs c_xs)), (1, (tS x))], [], 0, [], []⟩ (by kernel_rfl) ?_
   refine WL_nil ?_
   refine WK_env [(9, (iN (i + 1))), (8, (iN n_xs)), (7, (sS (some q3) n_xs c_xs)), (1, (tS x))] (fun ρ => ⟨rfl, (congrArg (Value.int .i64) (by rw [wrap_id (by omega)]; first | rfl | omega)), ⟨rfl, rfl, ⟨rfl, rfl, ⟨rfl, rfl, trivial⟩⟩⟩⟩) ?_
   refine WK_keep [9, 8, 7, 1] [] rfl rfl ?_
   exact WQ_next ((i + 1)) (by show n_xs - (i + 1) < n_xs - i; omega) ⟨hc2, ⟨by omega, has_step hx4 hd hn⟩⟩ (fun ρ a w h => h)
 ·
  replace hc := of_decide_eq_false hc
  refine WC_exit ?_
  refine WQ_then_exit ?_
  refine WQ_then_exit ?_
  refine WQ_hit ?_
  refine WQ_code ?_
  refine WC_seq (WC_region ?_)
  refine WL_execS htb 1 [4] [] ⟨[(4, (bB false))], [], 0, [], []⟩ (by kernel_rfl) ?_
  refine WL_nil ?_
  refine WQ_code ?_
  refine WC_ret ?_
  exact WQ_done htb [(bB false)] _ (.inl rfl) rfl (by kernel_rfl) (fun ρ w hW => ⟨false, rfl, has_no hn (by omega)⟩)

theorem sameNames_ok {w : World} {G : Heap} (hG : Has w G) {xs : (List ByteArray)} {A_xs : Option Addr} {n_xs : Nat} {c_xs : Nat} {ys : (List ByteArray)} {A_ys : Option Addr} {n_ys : Nat} {c_ys : Nat} (h_xs : Sl tStr G A_xs n_xs c_xs xs) (h_ys : Sl tStr G A_ys n_ys c_ys ys) :
    Calls Try.prog 60 #[(.slice A_xs n_xs c_xs), (.slice A_ys n_ys c_ys)] w (Ret w G fun v G' => ∃ (b : Bool), v = .bool b ∧ (b = decide (xs = ys))) := by
 have lh_xs := h_xs.len'
 have lh_ys := h_ys.len'
 refine enter [(sS A_xs n_xs c_xs), (sS A_ys n_ys c_ys)] 26 Try.func60 rfl rfl rfl rfl hG ?_
 refine WC_seq (WC_region ?_)
 refine WL_execS htb 1 [0, 1] [] ⟨[(0, (sS A_xs n_xs c_xs)), (1, (sS A_ys n_ys c_ys))], [], 0, [], []⟩ (by kernel_rfl) ?_
 refine WL_nil ?_
 refine WQ_code ?_
 refine WC_seq ?_
 refine WC_seq (WC_region ?_)
 refine WL_execS htb 5 [10, 0, 1] [] ⟨[(10, (bB ((((n_xs : Nat) : Int) : Int) != ((n_ys : Nat) : Int)))), (0, (sS A_xs n_xs c_xs)), (1, (sS A_ys n_ys c_ys))], [], 0, [], []⟩ (by kernel_rfl) ?_
 refine WL_nil ?_
 refine WQ_code ?_
 refine WC_cond (b := ((((n_xs : Nat) : Int) : Int) != ((n_ys : Nat) : Int))) rfl (fun hb => ?_) (fun hb => ?_)
 ·
  replace hb := bne_iff_ne.1 hb
  refine WC_seq (WC_region ?_)
  refine WL_execS htb 1 [4] [] ⟨[(4, (bB false))], [], 0, [], []⟩ (by kernel_rfl) ?_
  refine WL_nil ?_
  refine WQ_code ?_
  refine WC_ret ?_
  refine WQ_then_ret ?_
  exact WQ_done htb [(bB false)] _ (.inl rfl) rfl (by kernel_rfl) (fun ρ w hW => ⟨false, rfl, ne_caseP (by omega)⟩)
 ·
  replace hb := (bne_eq_false_iff_eq.1) hb
  refine WC_skip ?_
  refine WQ_code ?_
  refine WC_seq ?_
  refine WC_seq (WC_region ?_)
  refine WL_execS htb 3 [13, 12, 0, 1] [] ⟨[(13, (iI 0)), (12, (iN n_xs)), (0, (sS A_xs n_xs c_xs)), (1, (sS A_ys n_ys c_ys))], [], 0, [], []⟩ (by kernel_rfl) ?_
  refine WL_nil ?_
  refine WQ_code ?_
  refine WC_block ?_
  refine WK_keep [13, 12, 0, 1] [] rfl rfl ?_
  refine WK_env [(13, (iN 0)), (12, (iN n_xs)), (0, (sS A_xs n_xs c_xs)), (1, (sS A_ys n_ys c_ys))] (fun ρ => ⟨rfl, rfl, ⟨rfl, rfl, ⟨rfl, rfl, ⟨rfl, rfl, trivial⟩⟩⟩⟩) ?_
  refine WC_loop (ι := Nat) (fun i G1 => Le G G1 ∧ (i ≤ n_xs ∧ xs.take i = ys.take i)) (fun i => ⟨[(13, (iN i)), (12, (iN n_xs)), (0, (sS A_xs n_xs c_xs)), (1, (sS A_ys n_ys c_ys))], [], 0, [], []⟩) (fun i => n_xs - i) (0) ⟨Le.refl _, ⟨Nat.zero_le _, rfl⟩⟩ rfl ?_
  rintro i G1 ⟨hle, hF⟩
  show WC _ _ _ _ _ ⟨[(13, (iN i)), (12, (iN n_xs)), (0, (sS A_xs n_xs c_xs)), (1, (sS A_ys n_ys c_ys))], [], 0, [], []⟩ _
  replace h_xs := h_xs.mono hle
  replace h_ys := h_ys.mono hle
  have hc2 := hle
  obtain ⟨hi, ht⟩ := hF
  refine WC_seq (WC_region ?_)
  refine WL_execS htb 1 [14, 13, 12, 0, 1] [] ⟨[(14, (bB (decide ((((i : Nat) : Int) : Int) < ((n_xs : Nat) : Int))))), (13, (iN i)), (12, (iN n_xs)), (0, (sS A_xs n_xs c_xs)), (1, (sS A_ys n_ys c_ys))], [], 0, [], []⟩ (by kernel_rfl) ?_
  refine WL_nil ?_
  refine WQ_code ?_
  refine WC_seq ?_
  refine WC_cond (b := (decide ((((i : Nat) : Int) : Int) < ((n_xs : Nat) : Int)))) rfl (fun hc => ?_) (fun hc => ?_)
  ·
   replace hc := of_decide_eq_true hc
   refine WC_skip ?_
   refine WQ_code ?_
   refine WC_seq ?_
   refine WC_block ?_
   refine WC_seq (WC_region ?_)
   refine WL_execS htb 2 [5, 13, 12, 0, 1] [] ⟨[(5, (iN i)), (13, (iN i)), (12, (iN n_xs)), (0, (sS A_xs n_xs c_xs)), (1, (sS A_ys n_ys c_ys))], [], 0, [], []⟩ (by kernel_rfl) ?_
   refine WL_nil ?_
   refine WQ_code ?_
   refine WC_seq (WC_draw mixed ?_)
   refine WD_takeL htb rfl (fun _ _ _ _ _ h => h) (Le.refl _) [0, 1, 4, 5] (fuel := 5) (listed' := bts 9 51) (S' := ⟨[(21, (iN i)), (20, (sS A_ys n_ys c_ys)), (17, (iN i)), (16, (sS A_xs n_xs c_xs)), (5, (iN i)), (13, (iN i)), (12, (iN n_xs)), (0, (sS A_xs n_xs c_xs)), (1, (sS A_ys n_ys c_ys))], [], 0, [], []⟩) (FZ.nil _) (by kernel_rfl) rfl ?_
   obtain ⟨q3, rfl⟩ := h_xs.ptr (by omega)
   obtain ⟨x6, _, hx4, ⟨rfl, hn7⟩, at5⟩ := h_xs.get i (by omega)
   replace at5 : At G1 (q3.add (i * 1)) [.string x6] := at5
   refine WD_idx htb 2 (by rfl) rfl (by decide +kernel) (fun _ _ _ _ _ h => h) (Le.refl _) q3 n_xs ((i : Nat) : Int) 1 (by kernel_rfl) (by omega) (by omega) ?_
   refine WD_ld htb 3 (by rfl) rfl (by decide +kernel) (fun _ _ _ _ _ h => h) (Le.refl _) (q3.add (i * 1)) false 1 [.string x6] (by kernel_rfl) at5 rfl (by decide) ?_
   obtain ⟨q8, rfl⟩ := h_ys.ptr (by omega)
   obtain ⟨x11, _, hx9, ⟨rfl, hn12⟩, at10⟩ := h_ys.get i (by omega)
   replace at10 : At G1 (q8.add (i * 1)) [.string x11] := at10
   refine WD_idx htb 6 (by rfl) rfl (by decide +kernel) (fun _ _ _ _ _ h => h) (Le.refl _) q8 n_ys ((i : Nat) : Int) 1 (by kernel_rfl) (by omega) (by omega) ?_
   refine WD_ld htb 7 (by rfl) rfl (by decide +kernel) (fun _ _ _ _ _ h => h) (Le.refl _) (q8.add (i * 1)) false 1 [.string x11] (by kernel_rfl) at10 rfl (by decide) ?_
   refine WD_takeL htb rfl (fun _ _ _ _ _ h => h) (Le.refl _) [8] (fuel := 0) (listed' := bts 9 511) (S' := ⟨[(24, (bB (!((x6 : ByteArray).toList == (x11 : ByteArray).toList)))), (23, (tS x11)), (22, (.v (.pointer (some (q8.add (i * 1)))))), (19, (tS x6)), (18, (.v (.pointer (some (q3.add (i * 1)))))), (21, (iN i)), (20, (sS (some q8) n_ys c_ys)), (17, (iN i)), (16, (sS (some q3) n_xs c_xs)), (5, (iN i)), (13, (iN i)), (12, (iN n_xs)), (0, (sS (some q3) n_xs c_xs)), (1, (sS (some q8) n_ys c_ys))], [], 0, [], []⟩) (FZ.nil _) (by kernel_rfl) rfl ?_
   refine WD_done (by decide +kernel) ?_
   refine WK_keep [24, 13, 12, 0, 1] [] rfl rfl ?_
   refine WQ_code ?_
   refine WC_cond (b := (!((x6 : ByteArray).toList == (x11 : ByteArray).toList))) rfl (fun hx => ?_) (fun hx => ?_)
   ·
    rw [Bool.not_eq_true'] at hx
    replace hx := ne_of_beq_false hx
    refine WC_seq (WC_region ?_)
    refine WL_execS htb 1 [4] [] ⟨[(4, (bB false))], [], 0, [], []⟩ (by kernel_rfl) ?_
    refine WL_nil ?_
    refine WQ_code ?_
    refine WC_ret ?_
    refine WQ_blk_ret ?_
    refine WQ_then_ret ?_
    refine WQ_then_ret ?_
    refine WQ_blk_ret ?_
    refine WQ_then_ret ?_
    exact WQ_done htb [(bB false)] _ (.inl rfl) rfl (by kernel_rfl) (fun ρ w hW => ⟨false, rfl, eq_caseS1 hx4 hx9 hx⟩)
   ·
    rw [Bool.not_eq_false'] at hx
    replace hx := eq_of_beq hx
    refine WC_skip ?_
    refine WQ_blk ?_
    refine WQ_code ?_
    refine WC_region ?_
    refine WL_execS htb 2 [13, 12, 0, 1] [] ⟨[(13, (iI (IntKind.i64.wrap (((i : Nat) : Int) + 1)))), (12, (iN n_xs)), (0, (sS (some q3) n_xs c_xs)), (1, (sS (some q8) n_ys c_ys))], [], 0, [], []⟩ (by kernel_rfl) ?_
    refine WL_nil ?_
    refine WK_env [(13, (iN (i + 1))), (12, (iN n_xs)), (0, (sS (some q3) n_xs c_xs)), (1, (sS (some q8) n_ys c_ys))] (fun ρ => ⟨rfl, (congrArg (Value.int .i64) (by rw [wrap_id (by omega)]; first | rfl | omega)), ⟨rfl, rfl, ⟨rfl, rfl, ⟨rfl, rfl, trivial⟩⟩⟩⟩) ?_
    refine WK_keep [13, 12, 0, 1] [] rfl rfl ?_
    exact WQ_next ((i + 1)) (by show n_xs - (i + 1) < n_xs - i; omega) ⟨hc2, ⟨by omega, eq_caseS2 ht hx4 hx9 hx⟩⟩ (fun ρ a w h => h)
  ·
   replace hc := of_decide_eq_false hc
   refine WC_exit ?_
   refine WQ_then_exit ?_
   refine WQ_then_exit ?_
   refine WQ_hit ?_
   refine WQ_code ?_
   refine WC_seq (WC_region ?_)
   refine WL_execS htb 1 [4] [] ⟨[(4, (bB true))], [], 0, [], []⟩ (by kernel_rfl) ?_
   refine WL_nil ?_
   refine WQ_code ?_
   refine WC_ret ?_
   exact WQ_done htb [(bB true)] _ (.inl rfl) rfl (by kernel_rfl) (fun ρ w hW => ⟨true, rfl, eq_case3P ht (by omega) (by omega)⟩)

theorem all_ok {w : World} {G : Heap} (hG : Has w G) {xs : (List ByteArray)} {A_xs : Option Addr} {n_xs : Nat} {c_xs : Nat} {ys : (List ByteArray)} {A_ys : Option Addr} {n_ys : Nat} {c_ys : Nat} (h_xs : Sl tStr G A_xs n_xs c_xs xs) (h_ys : Sl tStr G A_ys n_ys c_ys ys) :
    Calls Try.prog 92 #[(.slice A_xs n_xs c_xs), (.slice A_ys n_ys c_ys)] w (Ret w G fun v G' => ∃ (b : Bool), v = .bool b ∧ (b = decide (∀ x ∈ xs, hasB ys x = true))) := by
 have lh_xs := h_xs.len'
 have lh_ys := h_ys.len'
 refine enter [(sS A_xs n_xs c_xs), (sS A_ys n_ys c_ys)] 18 Try.func92 rfl rfl rfl rfl hG ?_
 refine WC_seq (WC_region ?_)
 refine WL_execS htb 1 [0, 1] [] ⟨[(0, (sS A_xs n_xs c_xs)), (1, (sS A_ys n_ys c_ys))], [], 0, [], []⟩ (by kernel_rfl) ?_
 refine WL_nil ?_
 refine WQ_code ?_
 refine WC_seq ?_
 refine WC_seq (WC_region ?_)
 refine WL_execS htb 3 [9, 8, 7, 1] [] ⟨[(9, (iI 0)), (8, (iN n_xs)), (7, (sS A_xs n_xs c_xs)), (1, (sS A_ys n_ys c_ys))], [], 0, [], []⟩ (by kernel_rfl) ?_
 refine WL_nil ?_
 refine WQ_code ?_
 refine WC_block ?_
 refine WK_keep [9, 8, 7, 1] [] rfl rfl ?_
 refine WK_env [(9, (iN 0)), (8, (iN n_xs)), (7, (sS A_xs n_xs c_xs)), (1, (sS A_ys n_ys c_ys))] (fun ρ => ⟨rfl, rfl, ⟨rfl, rfl, ⟨rfl, rfl, ⟨rfl, rfl, trivial⟩⟩⟩⟩) ?_
 refine WC_loop (ι := Nat) (fun i G1 => Le G G1 ∧ (i ≤ n_xs ∧ ∀ x ∈ xs.take i, hasB ys x = true)) (fun i => ⟨[(9, (iN i)), (8, (iN n_xs)), (7, (sS A_xs n_xs c_xs)), (1, (sS A_ys n_ys c_ys))], [], 0, [], []⟩) (fun i => n_xs - i) (0) ⟨Le.refl _, ⟨Nat.zero_le _, by simp⟩⟩ rfl ?_
 rintro i G1 ⟨hle, hF⟩
 show WC _ _ _ _ _ ⟨[(9, (iN i)), (8, (iN n_xs)), (7, (sS A_xs n_xs c_xs)), (1, (sS A_ys n_ys c_ys))], [], 0, [], []⟩ _
 replace h_xs := h_xs.mono hle
 replace h_ys := h_ys.mono hle
 have hc2 := hle
 obtain ⟨hi, hn⟩ := hF
 refine WC_seq (WC_region ?_)
 refine WL_execS htb 1 [10, 9, 8, 7, 1] [] ⟨[(10, (bB (decide ((((i : Nat) : Int) : Int) < ((n_xs : Nat) : Int))))), (9, (iN i)), (8, (iN n_xs)), (7, (sS A_xs n_xs c_xs)), (1, (sS A_ys n_ys c_ys))], [], 0, [], []⟩ (by kernel_rfl) ?_
 refine WL_nil ?_
 refine WQ_code ?_
 refine WC_seq ?_
 refine WC_cond (b := (decide ((((i : Nat) : Int) : Int) < ((n_xs : Nat) : Int)))) rfl (fun hc => ?_) (fun hc => ?_)
 ·
  replace hc := of_decide_eq_true hc
  refine WC_skip ?_
  refine WQ_code ?_
  refine WC_seq ?_
  refine WC_block ?_
  refine WC_seq (WC_region ?_)
  obtain ⟨q3, rfl⟩ := h_xs.ptr (by omega)
  obtain ⟨x6, _, hx4, ⟨rfl, hn7⟩, at5⟩ := h_xs.get i (by omega)
  replace at5 : At G1 (q3.add (i * 1)) [.string x6] := at5
  refine WL_op (WOp_idx htb q3 n_xs ((i : Nat) : Int) 1 (by kernel_rfl) (by omega) (by omega) ?_)
  refine WL_op (WOp_ld htb (q3.add (i * 1)) false 1 [.string x6] (by kernel_rfl) at5 rfl (by decide) ?_)
  refine WL_execS htb 1 [6, 9, 8, 7, 1] [] ⟨[(6, (tS x6)), (9, (iN i)), (8, (iN n_xs)), (7, (sS (some q3) n_xs c_xs)), (1, (sS A_ys n_ys c_ys))], [], 0, [], []⟩ (by kernel_rfl) ?_
  refine WL_nil ?_
  refine WQ_code ?_
  refine WC_seq (WC_region ?_)
  refine WL_execS htb 2 [14, 13, 9, 8, 7, 1] [] ⟨[(14, (tS x6)), (13, (sS A_ys n_ys c_ys)), (9, (iN i)), (8, (iN n_xs)), (7, (sS (some q3) n_xs c_xs)), (1, (sS A_ys n_ys c_ys))], [], 0, [], []⟩ (by kernel_rfl) ?_
  refine WL_op (WOp_call 65 [(sS A_ys n_ys c_ys), (tS x6)] (by kernel_rfl) (goes_of Try.func65 rfl rfl) (fun ρ w hW => has_ok hW.has (xs := ys) (x := x6) h_ys hn7) ?_)
  intro G1 v hle hΦ
  replace hc2 := Le.trans hc2 hle
  replace h_xs := h_xs.mono hle
  replace h_ys := h_ys.mono hle
  obtain ⟨r8, rfl, hR9⟩ := hΦ
  refine WL_execS htb 1 [16, 9, 8, 7, 1] [] ⟨[(16, (bB (!r8))), (9, (iN i)), (8, (iN n_xs)), (7, (sS (some q3) n_xs c_xs)), (1, (sS A_ys n_ys c_ys))], [], 0, [], []⟩ (by kernel_rfl) ?_
  refine WL_nil ?_
  refine WQ_code ?_
  refine WC_cond (b := (!r8)) rfl (fun hd => ?_) (fun hd => ?_)
  ·
   rw [Bool.not_eq_true'] at hd
   refine WC_seq (WC_region ?_)
   refine WL_execS htb 1 [4] [] ⟨[(4, (bB false))], [], 0, [], []⟩ (by kernel_rfl) ?_
   refine WL_nil ?_
   refine WQ_code ?_
   refine WC_ret ?_
   refine WQ_blk_ret ?_
   refine WQ_then_ret ?_
   refine WQ_then_ret ?_
   refine WQ_blk_ret ?_
   refine WQ_then_ret ?_
   exact WQ_done htb [(bB false)] _ (.inl rfl) rfl (by kernel_rfl) (fun ρ w hW => ⟨false, rfl, all_no hx4 (by rw [← hR9, hd]; simp)⟩)
  ·
   rw [Bool.not_eq_false'] at hd
   refine WC_skip ?_
   refine WQ_blk ?_
   refine WQ_code ?_
   refine WC_region ?_
   refine WL_execS htb 2 [9, 8, 7, 1] [] ⟨[(9, (iI (IntKind.i64.wrap (((i : Nat) : Int) + 1)))), (8, (iN n_xs)), (7, (sS (some q3) n_xs c_xs)), (1, (sS A_ys n_ys c_ys))], [], 0, [], []⟩ (by kernel_rfl) ?_
   refine WL_nil ?_
   refine WK_env [(9, (iN (i + 1))), (8, (iN n_xs)), (7, (sS (some q3) n_xs c_xs)), (1, (sS A_ys n_ys c_ys))] (fun ρ => ⟨rfl, (congrArg (Value.int .i64) (by rw [wrap_id (by omega)]; first | rfl | omega)), ⟨rfl, rfl, ⟨rfl, rfl, ⟨rfl, rfl, trivial⟩⟩⟩⟩) ?_
   refine WK_keep [9, 8, 7, 1] [] rfl rfl ?_
   exact WQ_next ((i + 1)) (by show n_xs - (i + 1) < n_xs - i; omega) ⟨hc2, ⟨by omega, all_step hx4 hn (by rw [← hR9, hd])⟩⟩ (fun ρ a w h => h)
 ·
  replace hc := of_decide_eq_false hc
  refine WC_exit ?_
  refine WQ_then_exit ?_
  refine WQ_then_exit ?_
  refine WQ_hit ?_
  refine WQ_code ?_
  refine WC_seq (WC_region ?_)
  refine WL_execS htb 1 [4] [] ⟨[(4, (bB true))], [], 0, [], []⟩ (by kernel_rfl) ?_
  refine WL_nil ?_
  refine WQ_code ?_
  refine WC_ret ?_
  exact WQ_done htb [(bB true)] _ (.inl rfl) rfl (by kernel_rfl) (fun ρ w hW => ⟨true, rfl, all_yes hn (by omega)⟩)

theorem names_ok {w : World} {G : Heap} (hG : Has w G) {g : (List (ByteArray × (List (List ByteArray))))} {A_g : Option Addr} {n_g : Nat} {c_g : Nat} (h_g : Sl (tPair tStr (tSlice (tSlice tStr))) G A_g n_g c_g g) (hb : n_g ≤ 1000000000) :
    Calls Try.prog 18 #[(.agg #[.slice A_g n_g c_g])] w (Ret w G fun v G' => ∃ (A_r : Option Addr) (n_r : Nat) (c_r : Nat), v = .slice A_r n_r c_r ∧ (Sl tStr G' A_r n_r c_r (g.map Prod.fst)) ∧ (True)) := by
 have lh_g := h_g.len'
 refine enter [(.agg [(sS A_g n_g c_g)])] 20 Try.func18 rfl rfl rfl rfl hG ?_
 refine WC_seq (WC_region ?_)
 refine WL_execS htb 2 [1] [0] ⟨[(1, (.p 0 0))], [(0, (.cells 24 [(sS A_g n_g c_g)]))], 1, [], []⟩ (by kernel_rfl) ?_
 refine WL_nil ?_
 refine WQ_code ?_
 refine WC_seq (WC_region ?_)
 refine WL_execS htb 1 [3, 1] [0] ⟨[(3, (sS none 0 0)), (1, (.p 0 0))], [(0, (.cells 24 [(sS A_g n_g c_g)]))], 1, [], []⟩ (by kernel_rfl) ?_
 refine WL_nil ?_
 refine WQ_code ?_
 refine WC_seq ?_
 refine WC_seq (WC_region ?_)
 refine WL_execS htb 4 [9, 8, 7, 3] [] ⟨[(9, (iI 0)), (8, (iN n_g)), (7, (sS A_g n_g c_g)), (3, (sS none 0 0))], [], 1, [], []⟩ (by kernel_rfl) ?_
 refine WL_nil ?_
 refine WQ_code ?_
 refine WC_block ?_
 refine WK_off 9 rfl ?_
 refine WK_env [(9, (iI 0)), (8, (iN n_g)), (7, (sS A_g n_g c_g)), (3, (.ls true 1 0 0))] (fun ρ => ⟨rfl, rfl, ⟨rfl, rfl, ⟨rfl, rfl, ⟨rfl, rfl, trivial⟩⟩⟩⟩) ?_
 refine WK_keep [9, 8, 7, 3] [1] rfl rfl ?_
 refine WK_env [(9, (iN 0)), (8, (iN n_g)), (7, (sS A_g n_g c_g)), (3, (.ls true 1 0 0))] (fun ρ => ⟨rfl, rfl, ⟨rfl, rfl, ⟨rfl, rfl, ⟨rfl, rfl, trivial⟩⟩⟩⟩) ?_
 refine WC_loop (ι := Nat × Bool × Array Value × Nat) (fun (i, z, arr, cap) G1 => Le G G1 ∧ (i ≤ n_g ∧ OwnL tStr G1 ((g.take i).map Prod.fst) arr cap ∧ (z = true → ((g.take i).map Prod.fst) = []))) (fun (i, z, arr, cap) => ⟨[(9, (iN i)), (8, (iN n_g)), (7, (sS A_g n_g c_g)), (3, (.ls z 1 i cap))], [(1, (.lst z 9 arr))], 2, [], []⟩) (fun (i, z, arr, cap) => n_g - i) (0, true, #[], 0) ⟨Le.refl _, ⟨Nat.zero_le _, OwnL.nil _ _, fun _ => rfl⟩⟩ rfl ?_
 rintro ⟨i, z, arr, cap⟩ G1 ⟨hle, hF⟩
 show WC _ _ _ _ _ ⟨[(9, (iN i)), (8, (iN n_g)), (7, (sS A_g n_g c_g)), (3, (.ls z 1 i cap))], [(1, (.lst z 9 arr))], 2, [], []⟩ _
 replace h_g := h_g.mono hle
 have hc2 := hle
 obtain ⟨hi, ho, hz0⟩ := hF
 refine WC_seq (WC_region ?_)
 refine WL_execS htb 1 [10, 9, 8, 7, 3] [1] ⟨[(10, (bB (decide ((((i : Nat) : Int) : Int) < ((n_g : Nat) : Int))))), (9, (iN i)), (8, (iN n_g)), (7, (sS A_g n_g c_g)), (3, (.ls z 1 i cap))], [(1, (.lst z 9 arr))], 2, [], []⟩ (by kernel_rfl) ?_
 refine WL_nil ?_
 refine WQ_code ?_
 refine WC_seq ?_
 refine WC_cond (b := (decide ((((i : Nat) : Int) : Int) < ((n_g : Nat) : Int)))) rfl (fun hc => ?_) (fun hc => ?_)
 ·
  replace hc := of_decide_eq_true hc
  refine WC_skip ?_
  refine WQ_code ?_
  refine WC_seq ?_
  refine WC_block ?_
  refine WC_seq (WC_region ?_)
  obtain ⟨q3, rfl⟩ := h_g.ptr (by omega)
  obtain ⟨⟨x6, x8⟩, _, hx4, ⟨_, _, rfl, ⟨rfl, hn7⟩, hr9⟩, at5⟩ := h_g.get i (by omega)
  obtain ⟨A11, n12, c13, rfl, hs10⟩ := Sl.of hr9
  replace hs10 : Sl (tSlice tStr) _ A11 n12 c13 x8 := hs10
  have lhs10 := hs10.len'
  replace at5 : At G1 (q3.add (i * 2)) [.string x6, .slice A11 n12 c13] := at5
  refine WL_op (WOp_idx htb q3 n_g ((i : Nat) : Int) 2 (by kernel_rfl) (by omega) (by omega) ?_)
  refine WL_op (WOp_ld htb (q3.add (i * 2)) true 2 [.string x6, .slice A11 n12 c13] (by kernel_rfl) at5 rfl (by decide) ?_)
  refine WL_execS htb 2 [5, 9, 8, 7, 3] [2, 1] ⟨[(5, (.p 2 0)), (9, (iN i)), (8, (iN n_g)), (7, (sS (some q3) n_g c_g)), (3, (.ls z 1 i cap))], [(2, (.cells 34 [(tS x6), (sS A11 n12 c13)])), (1, (.lst z 9 arr))], 3, [], []⟩ (by kernel_rfl) ?_
  refine WL_nil ?_
  refine WQ_code ?_
  refine WC_region ?_
  refine WL_execS htb 4 [16, 13, 9, 8, 7] [3, 1] ⟨[(16, (.s 3 1 1)), (13, (.ls z 1 i cap)), (9, (iN i)), (8, (iN n_g)), (7, (sS (some q3) n_g c_g))], [(3, (.cells 9 [(tS x6)])), (1, (.lst z 9 arr))], 4, [], []⟩ (by kernel_rfl) ?_
  refine WK_freezeV 3 rfl rfl rfl rfl ?_
  intro bk15 G14 hle hbk15
  replace hc2 := Le.trans hc2 hle
  replace h_g := h_g.mono hle
  replace ho := ho.mono hle
  show WK _ _ ⟨[(16, (sS (some ⟨bk15, 0, none⟩) 1 1)), (13, (.ls z 1 i cap)), (9, (iN i)), (8, (iN n_g)), (7, (sS (some q3) n_g c_g))], [(1, (.lst z 9 arr))], 4, [], []⟩ _
  have hs16 : Sl tStr G14 (some ⟨bk15, 0, none⟩) 1 1 [x6] := Sl.lit (cs := [.string x6]) (RepsL.cons' (rep_str _ (x := x6) hn7) .nil) hbk15 rfl (by unfold big; omega)
  have lhs16 := hs16.len'
  refine WL_op (WOp_append htb z 1 i cap (some ⟨bk15, 0, none⟩) 1 9 1 16 (by kernel_rfl) (by kernel_rfl) rfl rfl tStr (xs := ((g.take i).map Prod.fst)) (ys := [x6]) ho (by rw [List.length_map, List.length_take]; omega) hz0 hs16.row hs16.len rfl (by decide) (by simp only [List.length_map, List.length_take, List.length_cons, List.length_nil]; omega) (by unfold big; simp only [List.length_map, List.length_take, List.length_cons, List.length_nil]; omega) (fun z17 arr18 cap19 hz20 ho21 => ?_))
  show WL _ _ _ _ _ _ ⟨[(17, (.ls z17 4 ((((g.take i).map Prod.fst) ++ ([x6])).length) cap19)), (16, (sS (some ⟨bk15, 0, none⟩) 1 1)), (13, (.ls z 1 i cap)), (9, (iN i)), (8, (iN n_g)), (7, (sS (some q3) n_g c_g))], [(4, (.lst z17 9 arr18))], 5, [], []⟩ _
  refine WL_execS htb 1 [3, 9, 8, 7] [4] ⟨[(3, (.ls z17 4 ((((g.take i).map Prod.fst) ++ ([x6])).length) cap19)), (9, (iN i)), (8, (iN n_g)), (7, (sS (some q3) n_g c_g))], [(4, (.lst z17 9 arr18))], 5, [], []⟩ (by kernel_rfl) ?_
  refine WL_nil ?_
  refine WQ_blk ?_
  refine WQ_code ?_
  refine WC_region ?_
  refine WL_execS htb 2 [9, 3, 8, 7] [4] ⟨[(9, (iI (IntKind.i64.wrap (((i : Nat) : Int) + 1)))), (3, (.ls z17 4 ((((g.take i).map Prod.fst) ++ ([x6])).length) cap19)), (8, (iN n_g)), (7, (sS (some q3) n_g c_g))], [(4, (.lst z17 9 arr18))], 5, [], []⟩ (by kernel_rfl) ?_
  refine WL_nil ?_
  refine WK_env [(9, (iN (i + 1))), (3, (.ls z17 4 ((((g.take i).map Prod.fst) ++ ([x6])).length) cap19)), (8, (iN n_g)), (7, (sS (some q3) n_g c_g))] (fun ρ => ⟨rfl, (congrArg (Value.int .i64) (by rw [wrap_id (by omega)]; first | rfl | omega)), ⟨rfl, rfl, ⟨rfl, rfl, ⟨rfl, rfl, trivial⟩⟩⟩⟩) ?_
  refine WK_keep [9, 8, 7, 3] [4] rfl rfl ?_
  refine WK_env [(9, (iN (i + 1))), (8, (iN n_g)), (7, (sS (some q3) n_g c_g)), (3, (.ls z17 4 (i + 1) cap19))] (fun ρ => ⟨rfl, rfl, ⟨rfl, rfl, ⟨rfl, rfl, ⟨rfl, (congrArg (fun n => nilOr z17 (.slice (some ⟨ρ 4, 0, none⟩) n cap19)) (by simp only [List.length_append, List.length_map, List.length_take, List.length_cons, List.length_nil]; omega)), trivial⟩⟩⟩⟩) ?_
  exact WQ_nextR ((i + 1), z17, arr18, cap19) (by show n_g - (i + 1) < n_g - i; omega) ⟨hc2, ⟨by omega, by rw [map_step (f := Prod.fst) hx4]; exact ho21, fun h => by rw [map_step (f := Prod.fst) hx4]; exact hz20 h⟩⟩ [(1, 4)] rfl rfl rfl rfl rfl rfl
 ·
  replace hc := of_decide_eq_false hc
  refine WC_exit ?_
  refine WQ_then_exit ?_
  refine WQ_then_exit ?_
  refine WQ_hit ?_
  refine WQ_code ?_
  refine WC_seq (WC_region ?_)
  refine WL_execS htb 2 [2] [1] ⟨[(2, (.ls z 1 i cap))], [(1, (.lst z 9 arr))], 2, [], []⟩ (by kernel_rfl) ?_
  refine WL_nil ?_
  refine WQ_code ?_
  refine WC_ret ?_
  refine WK_freezeL 1 rfl rfl ?_
  intro bk4 G3 hle hbk4
  replace hc2 := Le.trans hc2 hle
  obtain ⟨A6, n7, c8, e9, hs5⟩ := OwnL.sl (n := i) ho hle hz0 hbk4 (by rw [List.length_map, List.length_take]; omega)
  refine WK_env [(2, (sS A6 n7 c8))] (fun ρ => ⟨rfl, (by exact e9), trivial⟩) ?_
  have lhs5 := hs5.len'
  exact WQ_done htb [(sS A6 n7 c8)] _ (.inl rfl) rfl (by kernel_rfl) (fun ρ w hW => ⟨_, _, _, rfl, (by rw [(by rw [List.take_of_length_le (by omega)] : (g.map Prod.fst) = ((g.take i).map Prod.fst))]; exact hs5), trivial⟩)

theorem sameInts_ok {w : World} {G : Heap} (hG : Has w G) {xs : (List Int)} {A_xs : Option Addr} {n_xs : Nat} {c_xs : Nat} {ys : (List Int)} {A_ys : Option Addr} {n_ys : Nat} {c_ys : Nat} (h_xs : Sl (tInt .i64) G A_xs n_xs c_xs xs) (h_ys : Sl (tInt .i64) G A_ys n_ys c_ys ys) :
    Calls Try.prog 71 #[(.slice A_xs n_xs c_xs), (.slice A_ys n_ys c_ys)] w (Ret w G fun v G' => ∃ (b : Bool), v = .bool b ∧ (b = decide (xs = ys))) := by
 have lh_xs := h_xs.len'
 have lh_ys := h_ys.len'
 refine enter [(sS A_xs n_xs c_xs), (sS A_ys n_ys c_ys)] 26 Try.func71 rfl rfl rfl rfl hG ?_
 refine WC_seq (WC_region ?_)
 refine WL_execS htb 1 [0, 1] [] ⟨[(0, (sS A_xs n_xs c_xs)), (1, (sS A_ys n_ys c_ys))], [], 0, [], []⟩ (by kernel_rfl) ?_
 refine WL_nil ?_
 refine WQ_code ?_
 refine WC_seq ?_
 refine WC_seq (WC_region ?_)
 refine WL_execS htb 5 [10, 0, 1] [] ⟨[(10, (bB ((((n_xs : Nat) : Int) : Int) != ((n_ys : Nat) : Int)))), (0, (sS A_xs n_xs c_xs)), (1, (sS A_ys n_ys c_ys))], [], 0, [], []⟩ (by kernel_rfl) ?_
 refine WL_nil ?_
 refine WQ_code ?_
 refine WC_cond (b := ((((n_xs : Nat) : Int) : Int) != ((n_ys : Nat) : Int))) rfl (fun hb => ?_) (fun hb => ?_)
 ·
  replace hb := bne_iff_ne.1 hb
  refine WC_seq (WC_region ?_)
  refine WL_execS htb 1 [4] [] ⟨[(4, (bB false))], [], 0, [], []⟩ (by kernel_rfl) ?_
  refine WL_nil ?_
  refine WQ_code ?_
  refine WC_ret ?_
  refine WQ_then_ret ?_
  exact WQ_done htb [(bB false)] _ (.inl rfl) rfl (by kernel_rfl) (fun ρ w hW => ⟨false, rfl, ne_case (by omega)⟩)
 ·
  replace hb := (bne_eq_false_iff_eq.1) hb
  refine WC_skip ?_
  refine WQ_code ?_
  refine WC_seq ?_
  refine WC_seq (WC_region ?_)
  refine WL_execS htb 3 [13, 12, 0, 1] [] ⟨[(13, (iI 0)), (12, (iN n_xs)), (0, (sS A_xs n_xs c_xs)), (1, (sS A_ys n_ys c_ys))], [], 0, [], []⟩ (by kernel_rfl) ?_
  refine WL_nil ?_
  refine WQ_code ?_
  refine WC_block ?_
  refine WK_keep [13, 12, 0, 1] [] rfl rfl ?_
  refine WK_env [(13, (iN 0)), (12, (iN n_xs)), (0, (sS A_xs n_xs c_xs)), (1, (sS A_ys n_ys c_ys))] (fun ρ => ⟨rfl, rfl, ⟨rfl, rfl, ⟨rfl, rfl, ⟨rfl, rfl, trivial⟩⟩⟩⟩) ?_
  refine WC_loop (ι := Nat) (fun i G1 => Le G G1 ∧ (i ≤ n_xs ∧ xs.take i = ys.take i)) (fun i => ⟨[(13, (iN i)), (12, (iN n_xs)), (0, (sS A_xs n_xs c_xs)), (1, (sS A_ys n_ys c_ys))], [], 0, [], []⟩) (fun i => n_xs - i) 0 ⟨Le.refl _, ⟨Nat.zero_le _, rfl⟩⟩ rfl ?_
  rintro i G1 ⟨hle, hF⟩
  replace h_xs := h_xs.mono hle
  replace h_ys := h_ys.mono hle
  have hc1 := hle
  obtain ⟨hi, ht⟩ := hF
  refine WC_seq (WC_region ?_)
  refine WL_execS htb 1 [14, 13, 12, 0, 1] [] ⟨[(14, (bB (decide ((((i : Nat) : Int) : Int) < ((n_xs : Nat) : Int))))), (13, (iN i)), (12, (iN n_xs)), (0, (sS A_xs n_xs c_xs)), (1, (sS A_ys n_ys c_ys))], [], 0, [], []⟩ (by kernel_rfl) ?_
  refine WL_nil ?_
  refine WQ_code ?_
  refine WC_seq ?_
  refine WC_cond (b := (decide ((((i : Nat) : Int) : Int) < ((n_xs : Nat) : Int)))) rfl (fun hc => ?_) (fun hc => ?_)
  ·
   replace hc := of_decide_eq_true hc
   refine WC_skip ?_
   refine WQ_code ?_
   refine WC_seq ?_
   refine WC_block ?_
   refine WC_seq (WC_region ?_)
   refine WL_execS htb 2 [5, 13, 12, 0, 1] [] ⟨[(5, (iN i)), (13, (iN i)), (12, (iN n_xs)), (0, (sS A_xs n_xs c_xs)), (1, (sS A_ys n_ys c_ys))], [], 0, [], []⟩ (by kernel_rfl) ?_
   refine WL_nil ?_
   refine WQ_code ?_
   refine WC_seq (WC_draw mixed ?_)
   refine WD_takeL htb rfl (fun _ _ _ _ _ h => h) (Le.refl _) [0, 1, 4, 5] (fuel := 5) (listed' := bts 9 51) (S' := ⟨[(21, (iN i)), (20, (sS A_ys n_ys c_ys)), (17, (iN i)), (16, (sS A_xs n_xs c_xs)), (5, (iN i)), (13, (iN i)), (12, (iN n_xs)), (0, (sS A_xs n_xs c_xs)), (1, (sS A_ys n_ys c_ys))], [], 0, [], []⟩) (FZ.nil _) (by kernel_rfl) rfl ?_
   obtain ⟨q2, rfl⟩ := h_xs.ptr (by omega)
   obtain ⟨x5, _, hx3, ⟨rfl, hn6⟩, at4⟩ := h_xs.get i (by omega)
   have bdhn6 : -9223372036854775808 ≤ x5 ∧ x5 ≤ 9223372036854775807 := bd_of hn6
   replace at4 : At G1 (q2.add (i * 1)) [.int .i64 x5] := at4
   refine WD_idx htb 2 (by rfl) rfl (by decide +kernel) (fun _ _ _ _ _ h => h) (Le.refl _) q2 n_xs ((i : Nat) : Int) 1 (by kernel_rfl) (by omega) (by omega) ?_
   refine WD_ld htb 3 (by rfl) rfl (by decide +kernel) (fun _ _ _ _ _ h => h) (Le.refl _) (q2.add (i * 1)) false 1 [.int .i64 x5] (by kernel_rfl) at4 rfl (by decide) ?_
   obtain ⟨q7, rfl⟩ := h_ys.ptr (by omega)
   obtain ⟨x10, _, hx8, ⟨rfl, hn11⟩, at9⟩ := h_ys.get i (by omega)
   have bdhn11 : -9223372036854775808 ≤ x10 ∧ x10 ≤ 9223372036854775807 := bd_of hn11
   replace at9 : At G1 (q7.add (i * 1)) [.int .i64 x10] := at9
   refine WD_idx htb 6 (by rfl) rfl (by decide +kernel) (fun _ _ _ _ _ h => h) (Le.refl _) q7 n_ys ((i : Nat) : Int) 1 (by kernel_rfl) (by omega) (by omega) ?_
   refine WD_ld htb 7 (by rfl) rfl (by decide +kernel) (fun _ _ _ _ _ h => h) (Le.refl _) (q7.add (i * 1)) false 1 [.int .i64 x10] (by kernel_rfl) at9 rfl (by decide) ?_
   refine WD_takeL htb rfl (fun _ _ _ _ _ h => h) (Le.refl _) [8] (fuel := 0) (listed' := bts 9 511) (S' := ⟨[(24, (bB ((x5 : Int) != x10))), (23, (iI x10)), (22, (.v (.pointer (some (q7.add (i * 1)))))), (19, (iI x5)), (18, (.v (.pointer (some (q2.add (i * 1)))))), (21, (iN i)), (20, (sS (some q7) n_ys c_ys)), (17, (iN i)), (16, (sS (some q2) n_xs c_xs)), (5, (iN i)), (13, (iN i)), (12, (iN n_xs)), (0, (sS (some q2) n_xs c_xs)), (1, (sS (some q7) n_ys c_ys))], [], 0, [], []⟩) (FZ.nil _) (by kernel_rfl) rfl ?_
   refine WD_done (by decide +kernel) ?_
   refine WK_keep [24, 13, 12, 0, 1] [] rfl rfl ?_
   refine WQ_code ?_
   refine WC_cond (b := ((x5 : Int) != x10)) rfl (fun hx => ?_) (fun hx => ?_)
   ·
    replace hx := bne_iff_ne.1 hx
    refine WC_seq (WC_region ?_)
    refine WL_execS htb 1 [4] [] ⟨[(4, (bB false))], [], 0, [], []⟩ (by kernel_rfl) ?_
    refine WL_nil ?_
    refine WQ_code ?_
    refine WC_ret ?_
    refine WQ_blk_ret ?_
    refine WQ_then_ret ?_
    refine WQ_then_ret ?_
    refine WQ_blk_ret ?_
    refine WQ_then_ret ?_
    exact WQ_done htb [(bB false)] _ (.inl rfl) rfl (by kernel_rfl) (fun ρ w hW => ⟨false, rfl, eq_case1 hx3 hx8 hx⟩)
   ·
    replace hx := (bne_eq_false_iff_eq.1) hx
    refine WC_skip ?_
    refine WQ_blk ?_
    refine WQ_code ?_
    refine WC_region ?_
    refine WL_execS htb 2 [13, 12, 0, 1] [] ⟨[(13, (iI (IntKind.i64.wrap (((i : Nat) : Int) + 1)))), (12, (iN n_xs)), (0, (sS (some q2) n_xs c_xs)), (1, (sS (some q7) n_ys c_ys))], [], 0, [], []⟩ (by kernel_rfl) ?_
    refine WL_nil ?_
    refine WK_env [(13, (iN (i + 1))), (12, (iN n_xs)), (0, (sS (some q2) n_xs c_xs)), (1, (sS (some q7) n_ys c_ys))] (fun ρ => ⟨rfl, (congrArg (Value.int .i64) (by rw [wrap_id (by omega)]; first | rfl | omega)), ⟨rfl, rfl, ⟨rfl, rfl, ⟨rfl, rfl, trivial⟩⟩⟩⟩) ?_
    refine WK_keep [13, 12, 0, 1] [] rfl rfl ?_
    refine WK_env [(13, (iN (i+1))), (12, (iN n_xs)), (0, (sS (some q2) n_xs c_xs)), (1, (sS (some q7) n_ys c_ys))] (fun ρ => ⟨rfl, rfl, ⟨rfl, rfl, ⟨rfl, rfl, ⟨rfl, rfl, trivial⟩⟩⟩⟩) ?_
    exact WQ_next (i+1) (by omega) ⟨hc1, ⟨by omega, eq_case2 ht hx3 hx8 hx⟩⟩ (fun ρ a w h => h)
  ·
   replace hc := of_decide_eq_false hc
   refine WC_exit ?_
   refine WQ_then_exit ?_
   refine WQ_then_exit ?_
   refine WQ_hit ?_
   refine WQ_code ?_
   refine WC_seq (WC_region ?_)
   refine WL_execS htb 1 [4] [] ⟨[(4, (bB true))], [], 0, [], []⟩ (by kernel_rfl) ?_
   refine WL_nil ?_
   refine WQ_code ?_
   refine WC_ret ?_
   exact WQ_done htb [(bB true)] _ (.inl rfl) rfl (by kernel_rfl) (fun ρ w hW => ⟨true, rfl, eq_case3 ht (by omega) (by omega)⟩)

theorem sameCfg_ok {w : World} {G : Heap} (hG : Has w G) {tk : (List ByteArray)} {A_tk : Option Addr} {n_tk : Nat} {c_tk : Nat} {nm : (List ByteArray)} {A_nm : Option Addr} {n_nm : Nat} {c_nm : Nat} {rs : (List (List (List Int)))} {A_rs : Option Addr} {n_rs : Nat} {c_rs : Nat} {tk2 : (List ByteArray)} {A_tk2 : Option Addr} {n_tk2 : Nat} {c_tk2 : Nat} {nm2 : (List ByteArray)} {A_nm2 : Option Addr} {n_nm2 : Nat} {c_nm2 : Nat} {rs2 : (List (List (List Int)))} {A_rs2 : Option Addr} {n_rs2 : Nat} {c_rs2 : Nat} (h_tk : Sl tStr G A_tk n_tk c_tk tk) (h_nm : Sl tStr G A_nm n_nm c_nm nm) (h_rs : Sl (tSlice (tSlice (tInt .i64))) G A_rs n_rs c_rs rs) (h_tk2 : Sl tStr G A_tk2 n_tk2 c_tk2 tk2) (h_nm2 : Sl tStr G A_nm2 n_nm2 c_nm2 nm2) (h_rs2 : Sl (tSlice (tSlice (tInt .i64))) G A_rs2 n_rs2 c_rs2 rs2) :
    Calls Try.prog 33 #[(.agg #[.slice A_tk n_tk c_tk, .slice A_nm n_nm c_nm, .slice A_rs n_rs c_rs]), (.agg #[.slice A_tk2 n_tk2 c_tk2, .slice A_nm2 n_nm2 c_nm2, .slice A_rs2 n_rs2 c_rs2])] w (Ret w G fun v G' => ∃ (b : Bool), v = .bool b ∧ (b = decide (tk = tk2 ∧ nm = nm2 ∧ rs = rs2))) := by
 have lh_tk := h_tk.len'
 have lh_nm := h_nm.len'
 have lh_rs := h_rs.len'
 have lh_tk2 := h_tk2.len'
 have lh_nm2 := h_nm2.len'
 have lh_rs2 := h_rs2.len'
 refine enter [(.agg [(sS A_tk n_tk c_tk), (sS A_nm n_nm c_nm), (sS A_rs n_rs c_rs)]), (.agg [(sS A_tk2 n_tk2 c_tk2), (sS A_nm2 n_nm2 c_nm2), (sS A_rs2 n_rs2 c_rs2)])] 78 Try.func33 rfl rfl rfl rfl hG ?_
 refine WC_seq (WC_region ?_)
 refine WL_execS htb 3 [3, 2] [1, 0] ⟨[(3, (.p 1 0)), (2, (.p 0 0))], [(1, (.cells 41 [(sS A_tk2 n_tk2 c_tk2), (sS A_nm2 n_nm2 c_nm2), (sS A_rs2 n_rs2 c_rs2)])), (0, (.cells 41 [(sS A_tk n_tk c_tk), (sS A_nm n_nm c_nm), (sS A_rs n_rs c_rs)]))], 2, [], []⟩ (by kernel_rfl) ?_
 refine WL_nil ?_
 refine WQ_code ?_
 refine WC_seq ?_
 refine WC_seq (WC_region ?_)
 refine WL_execS htb 4 [10, 8, 3, 2] [1, 0] ⟨[(10, (sS A_tk2 n_tk2 c_tk2)), (8, (sS A_tk n_tk c_tk)), (3, (.p 1 0)), (2, (.p 0 0))], [(1, (.cells 41 [(sS A_tk2 n_tk2 c_tk2), (sS A_nm2 n_nm2 c_nm2), (sS A_rs2 n_rs2 c_rs2)])), (0, (.cells 41 [(sS A_tk n_tk c_tk), (sS A_nm n_nm c_nm), (sS A_rs n_rs c_rs)]))], 2, [], []⟩ (by kernel_rfl) ?_
 refine WL_op (WOp_call 60 [(sS A_tk n_tk c_tk), (sS A_tk2 n_tk2 c_tk2)] (by kernel_rfl) (goes_of Try.func60 rfl rfl) (fun ρ w hW => sameNames_ok hW.has (xs := tk) (ys := tk2) h_tk h_tk2) ?_)
 intro G1 v hle hΦ
 replace h_tk := h_tk.mono hle
 replace h_nm := h_nm.mono hle
 replace h_rs := h_rs.mono hle
 replace h_tk2 := h_tk2.mono hle
 replace h_nm2 := h_nm2.mono hle
 replace h_rs2 := h_rs2.mono hle
 obtain ⟨r1, rfl, hR2⟩ := hΦ
 refine WL_execS htb 2 [13, 3, 2] [1, 0] ⟨[(13, (bB (!r1))), (3, (.p 1 0)), (2, (.p 0 0))], [(1, (.cells 41 [(sS A_tk2 n_tk2 c_tk2), (sS A_nm2 n_nm2 c_nm2), (sS A_rs2 n_rs2 c_rs2)])), (0, (.cells 41 [(sS A_tk n_tk c_tk), (sS A_nm n_nm c_nm), (sS A_rs n_rs c_rs)]))], 2, [], []⟩ (by kernel_rfl) ?_
 refine WK_split 13 (!r1) rfl (fun hb0 => ?_) (fun hb0 => ?_)
 ·
  rw [Bool.not_eq_true'] at hb0
  refine WK_keep [13, 3, 2] [1, 0] rfl rfl ?_
  have h1 : ¬ tk = tk2 := of_decide_eq_false (hR2.symm.trans (by simpa using hb0))
  refine WL_execS htb 16 [29, 3, 2] [1, 0] ⟨[(29, (bB true)), (3, (.p 1 0)), (2, (.p 0 0))], [(1, (.cells 41 [(sS A_tk2 n_tk2 c_tk2), (sS A_nm2 n_nm2 c_nm2), (sS A_rs2 n_rs2 c_rs2)])), (0, (.cells 41 [(sS A_tk n_tk c_tk), (sS A_nm n_nm c_nm), (sS A_rs n_rs c_rs)]))], 2, [], []⟩ (by kernel_rfl) ?_
  refine WL_nil ?_
  refine WQ_code ?_
  refine WC_cond (b := true) rfl (fun _ => ?_) (fun h => by cases h)
  refine WC_seq (WC_region ?_)
  refine WL_execS htb 1 [4] [] ⟨[(4, (bB false))], [], 2, [], []⟩ (by kernel_rfl) ?_
  refine WL_nil ?_
  refine WQ_code ?_
  refine WC_ret ?_
  refine WQ_then_ret ?_
  exact WQ_done htb [(bB false)] _ (.inl rfl) rfl (by kernel_rfl) (fun ρ w hW => ⟨false, rfl, (decide_eq_false (fun h => h1 h.1)).symm⟩)
 ·
  rw [Bool.not_eq_false'] at hb0
  refine WK_keep [13, 3, 2] [1, 0] rfl rfl ?_
  have h1 : tk = tk2 := of_decide_eq_true (hR2.symm.trans (by simpa using hb0))
  refine WL_execS htb 4 [17, 15, 13, 3, 2] [1, 0] ⟨[(17, (sS A_nm2 n_nm2 c_nm2)), (15, (sS A_nm n_nm c_nm)), (13, (bB false)), (3, (.p 1 0)), (2, (.p 0 0))], [(1, (.cells 41 [(sS A_tk2 n_tk2 c_tk2), (sS A_nm2 n_nm2 c_nm2), (sS A_rs2 n_rs2 c_rs2)])), (0, (.cells 41 [(sS A_tk n_tk c_tk), (sS A_nm n_nm c_nm), (sS A_rs n_rs c_rs)]))], 2, [], []⟩ (by kernel_rfl) ?_
  refine WL_op (WOp_call 60 [(sS A_nm n_nm c_nm), (sS A_nm2 n_nm2 c_nm2)] (by kernel_rfl) (goes_of Try.func60 rfl rfl) (fun ρ w hW => sameNames_ok hW.has (xs := nm) (ys := nm2) h_nm h_nm2) ?_)
  intro G2 v hle hΦ
  replace h_tk := h_tk.mono hle
  replace h_nm := h_nm.mono hle
  replace h_rs := h_rs.mono hle
  replace h_tk2 := h_tk2.mono hle
  replace h_nm2 := h_nm2.mono hle
  replace h_rs2 := h_rs2.mono hle
  obtain ⟨r3, rfl, hR4⟩ := hΦ
  refine WL_execS htb 3 [21, 3, 2] [1, 0] ⟨[(21, (bB (!r3))), (3, (.p 1 0)), (2, (.p 0 0))], [(1, (.cells 41 [(sS A_tk2 n_tk2 c_tk2), (sS A_nm2 n_nm2 c_nm2), (sS A_rs2 n_rs2 c_rs2)])), (0, (.cells 41 [(sS A_tk n_tk c_tk), (sS A_nm n_nm c_nm), (sS A_rs n_rs c_rs)]))], 2, [], []⟩ (by kernel_rfl) ?_
  refine WK_split 21 (!r3) rfl (fun hb1 => ?_) (fun hb1 => ?_)
  ·
   rw [Bool.not_eq_true'] at hb1
   refine WK_keep [21, 3, 2] [1, 0] rfl rfl ?_
   have h2 : ¬ nm = nm2 := of_decide_eq_false (hR4.symm.trans (by simpa using hb1))
   refine WL_execS htb 8 [29, 3, 2] [1, 0] ⟨[(29, (bB true)), (3, (.p 1 0)), (2, (.p 0 0))], [(1, (.cells 41 [(sS A_tk2 n_tk2 c_tk2), (sS A_nm2 n_nm2 c_nm2), (sS A_rs2 n_rs2 c_rs2)])), (0, (.cells 41 [(sS A_tk n_tk c_tk), (sS A_nm n_nm c_nm), (sS A_rs n_rs c_rs)]))], 2, [], []⟩ (by kernel_rfl) ?_
   refine WL_nil ?_
   refine WQ_code ?_
   refine WC_cond (b := true) rfl (fun _ => ?_) (fun h => by cases h)
   refine WC_seq (WC_region ?_)
   refine WL_execS htb 1 [4] [] ⟨[(4, (bB false))], [], 2, [], []⟩ (by kernel_rfl) ?_
   refine WL_nil ?_
   refine WQ_code ?_
   refine WC_ret ?_
   refine WQ_then_ret ?_
   exact WQ_done htb [(bB false)] _ (.inl rfl) rfl (by kernel_rfl) (fun ρ w hW => ⟨false, rfl, (decide_eq_false (fun h => h2 h.2.1)).symm⟩)
  ·
   rw [Bool.not_eq_false'] at hb1
   refine WK_keep [21, 3, 2] [1, 0] rfl rfl ?_
   have h2 : nm = nm2 := of_decide_eq_true (hR4.symm.trans (by simpa using hb1))
   refine WL_execS htb 8 [29, 3, 2] [1, 0] ⟨[(29, (bB ((((n_rs : Nat) : Int) : Int) != ((n_rs2 : Nat) : Int)))), (3, (.p 1 0)), (2, (.p 0 0))], [(1, (.cells 41 [(sS A_tk2 n_tk2 c_tk2), (sS A_nm2 n_nm2 c_nm2), (sS A_rs2 n_rs2 c_rs2)])), (0, (.cells 41 [(sS A_tk n_tk c_tk), (sS A_nm n_nm c_nm), (sS A_rs n_rs c_rs)]))], 2, [], []⟩ (by kernel_rfl) ?_
   refine WL_nil ?_
   refine WQ_code ?_
   refine WC_cond (b := ((((n_rs : Nat) : Int) : Int) != ((n_rs2 : Nat) : Int))) rfl (fun hb2 => ?_) (fun hb2 => ?_)
   ·
    replace hb2 := bne_iff_ne.1 hb2
    refine WC_seq (WC_region ?_)
    refine WL_execS htb 1 [4] [] ⟨[(4, (bB false))], [], 2, [], []⟩ (by kernel_rfl) ?_
    refine WL_nil ?_
    refine WQ_code ?_
    refine WC_ret ?_
    refine WQ_then_ret ?_
    exact WQ_done htb [(bB false)] _ (.inl rfl) rfl (by kernel_rfl) (fun ρ w hW => ⟨false, rfl, (decide_eq_false (fun h => by have := congrArg List.length h.2.2; omega)).symm⟩)
   ·
    replace hb2 := (bne_eq_false_iff_eq.1) hb2
    refine WC_skip ?_
    refine WQ_code ?_
    refine WC_seq ?_
    refine WC_seq (WC_region ?_)
    refine WL_execS htb 4 [33, 32, 3, 2] [1, 0] ⟨[(33, (iI 0)), (32, (iN n_rs)), (3, (.p 1 0)), (2, (.p 0 0))], [(1, (.cells 41 [(sS A_tk2 n_tk2 c_tk2), (sS A_nm2 n_nm2 c_nm2), (sS A_rs2 n_rs2 c_rs2)])), (0, (.cells 41 [(sS A_tk n_tk c_tk), (sS A_nm n_nm c_nm), (sS A_rs n_rs c_rs)]))], 2, [], []⟩ (by kernel_rfl) ?_
    refine WL_nil ?_
    refine WQ_code ?_
    refine WC_block ?_
    refine WK_freeze 1 rfl rfl rfl rfl ?_
    intro bk6 G5 hle hbk6
    replace h_tk := h_tk.mono hle
    replace h_nm := h_nm.mono hle
    replace h_rs := h_rs.mono hle
    replace h_tk2 := h_tk2.mono hle
    replace h_nm2 := h_nm2.mono hle
    replace h_rs2 := h_rs2.mono hle
    have hz := FZ.cons (h := 1) hbk6 rfl (FZ.nil _)
    refine WK_freeze 0 rfl rfl rfl rfl ?_
    intro bk8 G7 hle hbk8
    replace h_tk := h_tk.mono hle
    replace h_nm := h_nm.mono hle
    replace h_rs := h_rs.mono hle
    replace h_tk2 := h_tk2.mono hle
    replace h_nm2 := h_nm2.mono hle
    replace h_rs2 := h_rs2.mono hle
    replace hz := hz.mono hle
    have hz := FZ.cons (h := 0) hbk8 rfl hz
    refine WK_keep [33, 32, 3, 2] [] rfl rfl ?_
    refine WK_env [(33, (iN 0)), (32, (iN n_rs)), (3, (.p 1 0)), (2, (.p 0 0))] (fun ρ => ⟨rfl, rfl, ⟨rfl, rfl, ⟨rfl, rfl, ⟨rfl, rfl, trivial⟩⟩⟩⟩) ?_
    refine WC_loop (ι := Nat) (fun i G9 => Le G7 G9 ∧ (i ≤ n_rs ∧ rs.take i = rs2.take i)) (fun i => ⟨[(33, (iN i)), (32, (iN n_rs)), (3, (.p 1 0)), (2, (.p 0 0))], [], 2, [], [(0, bk8, (.cells 41 [(sS A_tk n_tk c_tk), (sS A_nm n_nm c_nm), (sS A_rs n_rs c_rs)])), (1, bk6, (.cells 41 [(sS A_tk2 n_tk2 c_tk2), (sS A_nm2 n_nm2 c_nm2), (sS A_rs2 n_rs2 c_rs2)]))]⟩) (fun i => n_rs - i) (0) ⟨Le.refl _, ⟨Nat.zero_le _, rfl⟩⟩ rfl ?_
    rintro i G9 ⟨hle, hF⟩
    show WC _ _ _ _ _ ⟨[(33, (iN i)), (32, (iN n_rs)), (3, (.p 1 0)), (2, (.p 0 0))], [], 2, [], [(0, bk8, (.cells 41 [(sS A_tk n_tk c_tk), (sS A_nm n_nm c_nm), (sS A_rs n_rs c_rs)])), (1, bk6, (.cells 41 [(sS A_tk2 n_tk2 c_tk2), (sS A_nm2 n_nm2 c_nm2), (sS A_rs2 n_rs2 c_rs2)]))]⟩ _
    replace h_tk := h_tk.mono hle
    replace h_nm := h_nm.mono hle
    replace h_rs := h_rs.mono hle
    replace h_tk2 := h_tk2.mono hle
    replace h_nm2 := h_nm2.mono hle
    replace h_rs2 := h_rs2.mono hle
    replace hz := hz.mono hle
    have hc10 := hle
    obtain ⟨hi, ht⟩ := hF
    refine WC_seq (WC_region ?_)
    refine WL_execS htb 1 [34, 33, 32, 3, 2] [] ⟨[(34, (bB (decide ((((i : Nat) : Int) : Int) < ((n_rs : Nat) : Int))))), (33, (iN i)), (32, (iN n_rs)), (3, (.p 1 0)), (2, (.p 0 0))], [], 2, [], [(0, bk8, (.cells 41 [(sS A_tk n_tk c_tk), (sS A_nm n_nm c_nm), (sS A_rs n_rs c_rs)])), (1, bk6, (.cells 41 [(sS A_tk2 n_tk2 c_tk2), (sS A_nm2 n_nm2 c_nm2), (sS A_rs2 n_rs2 c_rs2)]))]⟩ (by kernel_rfl) ?_
    refine WL_nil ?_
    refine WQ_code ?_
    refine WC_seq ?_
    refine WC_cond (b := (decide ((((i : Nat) : Int) : Int) < ((n_rs : Nat) : Int)))) rfl (fun hc => ?_) (fun hc => ?_)
    ·
     replace hc := of_decide_eq_true hc
     refine WC_skip ?_
     refine WQ_code ?_
     refine WC_seq ?_
     refine WC_block ?_
     refine WC_seq (WC_region ?_)
     refine WL_execS htb 2 [5, 33, 32, 3, 2] [] ⟨[(5, (iN i)), (33, (iN i)), (32, (iN n_rs)), (3, (.p 1 0)), (2, (.p 0 0))], [], 2, [], [(0, bk8, (.cells 41 [(sS A_tk n_tk c_tk), (sS A_nm n_nm c_nm), (sS A_rs n_rs c_rs)])), (1, bk6, (.cells 41 [(sS A_tk2 n_tk2 c_tk2), (sS A_nm2 n_nm2 c_nm2), (sS A_rs2 n_rs2 c_rs2)]))]⟩ (by kernel_rfl) ?_
     refine WL_nil ?_
     refine WQ_code ?_
     refine WC_seq ?_
     refine WC_seq (WC_draw mixed ?_)
     refine WD_takeL htb rfl (fun _ _ _ _ _ h => h) (Le.refl _) [0, 1, 2, 6, 7, 8] (fuel := 7) (listed' := bts 13 455) (S' := ⟨[(44, (iN i)), (43, (sS A_rs2 n_rs2 c_rs2)), (42, (.p 1 2)), (38, (iN i)), (37, (sS A_rs n_rs c_rs)), (36, (.p 0 2)), (5, (iN i)), (33, (iN i)), (32, (iN n_rs)), (3, (.p 1 0)), (2, (.p 0 0))], [], 2, [], [(0, bk8, (.cells 41 [(sS A_tk n_tk c_tk), (sS A_nm n_nm c_nm), (sS A_rs n_rs c_rs)])), (1, bk6, (.cells 41 [(sS A_tk2 n_tk2 c_tk2), (sS A_nm2 n_nm2 c_nm2), (sS A_rs2 n_rs2 c_rs2)]))]⟩) hz (by kernel_rfl) rfl ?_
     obtain ⟨q11, rfl⟩ := h_rs.ptr (by omega)
     obtain ⟨x14, _, hx12, hr15, at13⟩ := h_rs.get i (by omega)
     obtain ⟨A17, n18, c19, rfl, hs16⟩ := Sl.of hr15
     replace hs16 : Sl (tSlice (tInt .i64)) _ A17 n18 c19 x14 := hs16
     have lhs16 := hs16.len'
     replace at13 : At G9 (q11.add (i * 1)) [.slice A17 n18 c19] := at13
     refine WD_idx htb 3 (by rfl) rfl (by decide +kernel) (fun _ _ _ _ _ h => h) (Le.refl _) q11 n_rs ((i : Nat) : Int) 1 (by kernel_rfl) (by omega) (by omega) ?_
     refine WD_ld htb 4 (by rfl) rfl (by decide +kernel) (fun _ _ _ _ _ h => h) (Le.refl _) (q11.add (i * 1)) false 1 [.slice A17 n18 c19] (by kernel_rfl) at13 rfl (by decide) ?_
     refine WD_takeL htb rfl (fun _ _ _ _ _ h => h) (Le.refl _) [5] (fuel := 4) (listed' := bts 13 511) (S' := ⟨[(41, (iN n18)), (40, (sS A17 n18 c19)), (39, (.v (.pointer (some (q11.add (i * 1)))))), (44, (iN i)), (43, (sS A_rs2 n_rs2 c_rs2)), (42, (.p 1 2)), (38, (iN i)), (37, (sS (some q11) n_rs c_rs)), (36, (.p 0 2)), (5, (iN i)), (33, (iN i)), (32, (iN n_rs)), (3, (.p 1 0)), (2, (.p 0 0))], [], 2, [], [(0, bk8, (.cells 41 [(sS A_tk n_tk c_tk), (sS A_nm n_nm c_nm), (sS (some q11) n_rs c_rs)])), (1, bk6, (.cells 41 [(sS A_tk2 n_tk2 c_tk2), (sS A_nm2 n_nm2 c_nm2), (sS A_rs2 n_rs2 c_rs2)]))]⟩) hz (by kernel_rfl) rfl ?_
     obtain ⟨q20, rfl⟩ := h_rs2.ptr (by omega)
     obtain ⟨x23, _, hx21, hr24, at22⟩ := h_rs2.get i (by omega)
     obtain ⟨A26, n27, c28, rfl, hs25⟩ := Sl.of hr24
     replace hs25 : Sl (tSlice (tInt .i64)) _ A26 n27 c28 x23 := hs25
     have lhs25 := hs25.len'
     replace at22 : At G9 (q20.add (i * 1)) [.slice A26 n27 c28] := at22
     refine WD_idx htb 9 (by rfl) rfl (by decide +kernel) (fun _ _ _ _ _ h => h) (Le.refl _) q20 n_rs2 ((i : Nat) : Int) 1 (by kernel_rfl) (by omega) (by omega) ?_
     refine WD_ld htb 10 (by rfl) rfl (by decide +kernel) (fun _ _ _ _ _ h => h) (Le.refl _) (q20.add (i * 1)) false 1 [.slice A26 n27 c28] (by kernel_rfl) at22 rfl (by decide) ?_
     refine WD_takeL htb rfl (fun _ _ _ _ _ h => h) (Le.refl _) [11, 12] (fuel := 0) (listed' := bts 13 8191) (S' := ⟨[(48, (bB ((((n18 : Nat) : Int) : Int) != ((n27 : Nat) : Int)))), (47, (iN n27)), (46, (sS A26 n27 c28)), (45, (.v (.pointer (some (q20.add (i * 1)))))), (41, (iN n18)), (40, (sS A17 n18 c19)), (39, (.v (.pointer (some (q11.add (i * 1)))))), (44, (iN i)), (43, (sS (some q20) n_rs2 c_rs2)), (42, (.p 1 2)), (38, (iN i)), (37, (sS (some q11) n_rs c_rs)), (36, (.p 0 2)), (5, (iN i)), (33, (iN i)), (32, (iN n_rs)), (3, (.p 1 0)), (2, (.p 0 0))], [], 2, [], [(0, bk8, (.cells 41 [(sS A_tk n_tk c_tk), (sS A_nm n_nm c_nm), (sS (some q11) n_rs c_rs)])), (1, bk6, (.cells 41 [(sS A_tk2 n_tk2 c_tk2), (sS A_nm2 n_nm2 c_nm2), (sS (some q20) n_rs2 c_rs2)]))]⟩) hz (by kernel_rfl) rfl ?_
     refine WD_done (by decide +kernel) ?_
     refine WK_keep [48, 5, 33, 32, 3, 2] [] rfl rfl ?_
     refine WQ_code ?_
     refine WC_cond (b := ((((n18 : Nat) : Int) : Int) != ((n27 : Nat) : Int))) rfl (fun hd => ?_) (fun hd => ?_)
     ·
      replace hd := bne_iff_ne.1 hd
      refine WC_seq (WC_region ?_)
      refine WL_execS htb 1 [4] [] ⟨[(4, (bB false))], [], 2, [], [(0, bk8, (.cells 41 [(sS A_tk n_tk c_tk), (sS A_nm n_nm c_nm), (sS (some q11) n_rs c_rs)])), (1, bk6, (.cells 41 [(sS A_tk2 n_tk2 c_tk2), (sS A_nm2 n_nm2 c_nm2), (sS (some q20) n_rs2 c_rs2)]))]⟩ (by kernel_rfl) ?_
      refine WL_nil ?_
      refine WQ_code ?_
      refine WC_ret ?_
      refine WQ_then_ret ?_
      refine WQ_blk_ret ?_
      refine WQ_then_ret ?_
      refine WQ_then_ret ?_
      refine WQ_blk_ret ?_
      refine WQ_then_ret ?_
      exact WQ_done htb [(bB false)] _ (.inl rfl) rfl (by kernel_rfl) (fun ρ w hW => ⟨false, rfl, (decide_eq_false (fun h => by have := nth1 h.2.2 hx12 hx21; omega)).symm⟩)
     ·
      replace hd := (bne_eq_false_iff_eq.1) hd
      refine WC_skip ?_
      refine WQ_code ?_
      refine WC_seq (WC_region ?_)
      refine WL_execS htb 3 [51, 50, 5, 33, 32, 3, 2] [] ⟨[(51, (iN i)), (50, (sS (some q11) n_rs c_rs)), (5, (iN i)), (33, (iN i)), (32, (iN n_rs)), (3, (.p 1 0)), (2, (.p 0 0))], [], 2, [], [(0, bk8, (.cells 41 [(sS A_tk n_tk c_tk), (sS A_nm n_nm c_nm), (sS (some q11) n_rs c_rs)])), (1, bk6, (.cells 41 [(sS A_tk2 n_tk2 c_tk2), (sS A_nm2 n_nm2 c_nm2), (sS (some q20) n_rs2 c_rs2)]))]⟩ (by kernel_rfl) ?_
      obtain ⟨_, hr31, at30⟩ := h_rs.getk hx12
      obtain ⟨A33, n34, c35, rfl, hs32⟩ := Sl.of hr31
      replace hs32 : Sl (tSlice (tInt .i64)) _ A33 n34 c35 x14 := hs32
      have lhs32 := hs32.len'
      replace at30 : At G9 (q11.add (i * 1)) [.slice A33 n34 c35] := at30
      refine WL_op (WOp_idx htb q11 n_rs ((i : Nat) : Int) 1 (by kernel_rfl) (by omega) (by omega) ?_)
      refine WL_op (WOp_ld htb (q11.add (i * 1)) false 1 [.slice A33 n34 c35] (by kernel_rfl) at30 rfl (by decide) ?_)
      refine WL_execS htb 2 [55, 54, 5, 33, 32, 3, 2] [] ⟨[(55, (iI 0)), (54, (iN n34)), (5, (iN i)), (33, (iN i)), (32, (iN n_rs)), (3, (.p 1 0)), (2, (.p 0 0))], [], 2, [], [(0, bk8, (.cells 41 [(sS A_tk n_tk c_tk), (sS A_nm n_nm c_nm), (sS (some q11) n_rs c_rs)])), (1, bk6, (.cells 41 [(sS A_tk2 n_tk2 c_tk2), (sS A_nm2 n_nm2 c_nm2), (sS (some q20) n_rs2 c_rs2)]))]⟩ (by kernel_rfl) ?_
      refine WL_nil ?_
      refine WQ_code ?_
      refine WC_block ?_
      have hxy : x14.length = x23.length := by omega
      refine WK_keep [55, 54, 5, 33, 32, 3, 2] [] rfl rfl ?_
      refine WK_env [(55, (iN 0)), (54, (iN n34)), (5, (iN i)), (33, (iN i)), (32, (iN n_rs)), (3, (.p 1 0)), (2, (.p 0 0))] (fun ρ => ⟨rfl, rfl, ⟨rfl, rfl, ⟨rfl, rfl, ⟨rfl, rfl, ⟨rfl, rfl, ⟨rfl, rfl, ⟨rfl, rfl, trivial⟩⟩⟩⟩⟩⟩⟩) ?_
      refine WC_loop (ι := Nat) (fun j G36 => Le G9 G36 ∧ (j ≤ n34 ∧ x14.take j = x23.take j)) (fun j => ⟨[(55, (iN j)), (54, (iN n34)), (5, (iN i)), (33, (iN i)), (32, (iN n_rs)), (3, (.p 1 0)), (2, (.p 0 0))], [], 2, [], [(0, bk8, (.cells 41 [(sS A_tk n_tk c_tk), (sS A_nm n_nm c_nm), (sS (some q11) n_rs c_rs)])), (1, bk6, (.cells 41 [(sS A_tk2 n_tk2 c_tk2), (sS A_nm2 n_nm2 c_nm2), (sS (some q20) n_rs2 c_rs2)]))]⟩) (fun j => n34 - j) (0) ⟨Le.refl _, ⟨Nat.zero_le _, rfl⟩⟩ rfl ?_
      rintro j G36 ⟨hle, hF⟩
      show WC _ _ _ _ _ ⟨[(55, (iN j)), (54, (iN n34)), (5, (iN i)), (33, (iN i)), (32, (iN n_rs)), (3, (.p 1 0)), (2, (.p 0 0))], [], 2, [], [(0, bk8, (.cells 41 [(sS A_tk n_tk c_tk), (sS A_nm n_nm c_nm), (sS (some q11) n_rs c_rs)])), (1, bk6, (.cells 41 [(sS A_tk2 n_tk2 c_tk2), (sS A_nm2 n_nm2 c_nm2), (sS (some q20) n_rs2 c_rs2)]))]⟩ _
      replace hc10 := Le.trans hc10 hle
      replace h_tk := h_tk.mono hle
      replace h_nm := h_nm.mono hle
      replace h_rs := h_rs.mono hle
      replace h_tk2 := h_tk2.mono hle
      replace h_nm2 := h_nm2.mono hle
      replace h_rs2 := h_rs2.mono hle
      replace at13 := at13.mono hle
      replace hz := hz.mono hle
      have hc37 := hle
      obtain ⟨hj, hu⟩ := hF
      refine WC_seq (WC_region ?_)
      refine WL_execS htb 1 [56, 55, 54, 5, 33, 32, 3, 2] [] ⟨[(56, (bB (decide ((((j : Nat) : Int) : Int) < ((n34 : Nat) : Int))))), (55, (iN j)), (54, (iN n34)), (5, (iN i)), (33, (iN i)), (32, (iN n_rs)), (3, (.p 1 0)), (2, (.p 0 0))], [], 2, [], [(0, bk8, (.cells 41 [(sS A_tk n_tk c_tk), (sS A_nm n_nm c_nm), (sS (some q11) n_rs c_rs)])), (1, bk6, (.cells 41 [(sS A_tk2 n_tk2 c_tk2), (sS A_nm2 n_nm2 c_nm2), (sS (some q20) n_rs2 c_rs2)]))]⟩ (by kernel_rfl) ?_
      refine WL_nil ?_
      refine WQ_code ?_
      refine WC_seq ?_
      refine WC_cond (b := (decide ((((j : Nat) : Int) : Int) < ((n34 : Nat) : Int)))) rfl (fun he => ?_) (fun he => ?_)
      ·
       replace he := of_decide_eq_true he
       refine WC_skip ?_
       refine WQ_code ?_
       refine WC_seq ?_
       refine WC_block ?_
       refine WC_seq (WC_region ?_)
       refine WL_execS htb 2 [6, 55, 54, 5, 33, 32, 3, 2] [] ⟨[(6, (iN j)), (55, (iN j)), (54, (iN n34)), (5, (iN i)), (33, (iN i)), (32, (iN n_rs)), (3, (.p 1 0)), (2, (.p 0 0))], [], 2, [], [(0, bk8, (.cells 41 [(sS A_tk n_tk c_tk), (sS A_nm n_nm c_nm), (sS (some q11) n_rs c_rs)])), (1, bk6, (.cells 41 [(sS A_tk2 n_tk2 c_tk2), (sS A_nm2 n_nm2 c_nm2), (sS (some q20) n_rs2 c_rs2)]))]⟩ (by kernel_rfl) ?_
       refine WL_nil ?_
       refine WQ_code ?_
       refine WC_seq (WC_draw mixed ?_)
       refine WD_takeL htb rfl (fun _ _ _ _ _ h => h) (Le.refl _) [0, 1, 2, 5, 8, 9, 10, 13] (fuel := 10) (listed' := bts 18 10023) (S' := ⟨[(71, (iN j)), (68, (iN i)), (67, (sS (some q20) n_rs2 c_rs2)), (66, (.p 1 2)), (63, (iN j)), (60, (iN i)), (59, (sS (some q11) n_rs c_rs)), (58, (.p 0 2)), (6, (iN j)), (55, (iN j)), (54, (iN n34)), (5, (iN i)), (33, (iN i)), (32, (iN n_rs)), (3, (.p 1 0)), (2, (.p 0 0))], [], 2, [], [(0, bk8, (.cells 41 [(sS A_tk n_tk c_tk), (sS A_nm n_nm c_nm), (sS (some q11) n_rs c_rs)])), (1, bk6, (.cells 41 [(sS A_tk2 n_tk2 c_tk2), (sS A_nm2 n_nm2 c_nm2), (sS (some q20) n_rs2 c_rs2)]))]⟩) hz (by kernel_rfl) rfl ?_
       obtain ⟨_, hr40, at39⟩ := h_rs.getk hx12
       obtain ⟨A42, n43, c44, rfl, hs41⟩ := Sl.of hr40
       replace hs41 : Sl (tSlice (tInt .i64)) _ A42 n43 c44 x14 := hs41
       have lhs41 := hs41.len'
       replace at39 : At G36 (q11.add (i * 1)) [.slice A42 n43 c44] := at39
       refine WD_idx htb 3 (by rfl) rfl (by decide +kernel) (fun _ _ _ _ _ h => h) (Le.refl _) q11 n_rs ((i : Nat) : Int) 1 (by kernel_rfl) (by omega) (by omega) ?_
       refine WD_ld htb 4 (by rfl) rfl (by decide +kernel) (fun _ _ _ _ _ h => h) (Le.refl _) (q11.add (i * 1)) false 1 [.slice A42 n43 c44] (by kernel_rfl) at39 rfl (by decide) ?_
       obtain ⟨q45, rfl⟩ := hs41.ptr (by omega)
       obtain ⟨x48, _, hx46, hr49, at47⟩ := hs41.get j (by omega)
       obtain ⟨A51, n52, c53, rfl, hs50⟩ := Sl.of hr49
       replace hs50 : Sl (tInt .i64) _ A51 n52 c53 x48 := hs50
       have lhs50 := hs50.len'
       replace at47 : At G36 (q45.add (j * 1)) [.slice A51 n52 c53] := at47
       refine WD_idx htb 6 (by rfl) rfl (by decide +kernel) (fun _ _ _ _ _ h => h) (Le.refl _) q45 n43 ((j : Nat) : Int) 1 (by kernel_rfl) (by omega) (by omega) ?_
       refine WD_ld htb 7 (by rfl) rfl (by decide +kernel) (fun _ _ _ _ _ h => h) (Le.refl _) (q45.add (j * 1)) false 1 [.slice A51 n52 c53] (by kernel_rfl) at47 rfl (by decide) ?_
       obtain ⟨_, hr56, at55⟩ := h_rs2.getk hx21
       obtain ⟨A58, n59, c60, rfl, hs57⟩ := Sl.of hr56
       replace hs57 : Sl (tSlice (tInt .i64)) _ A58 n59 c60 x23 := hs57
       have lhs57 := hs57.len'
       replace at55 : At G36 (q20.add (i * 1)) [.slice A58 n59 c60] := at55
       refine WD_idx htb 11 (by rfl) rfl (by decide +kernel) (fun _ _ _ _ _ h => h) (Le.refl _) q20 n_rs2 ((i : Nat) : Int) 1 (by kernel_rfl) (by omega) (by omega) ?_
       refine WD_ld htb 12 (by rfl) rfl (by decide +kernel) (fun _ _ _ _ _ h => h) (Le.refl _) (q20.add (i * 1)) false 1 [.slice A58 n59 c60] (by kernel_rfl) at55 rfl (by decide) ?_
       obtain ⟨q61, rfl⟩ := hs57.ptr (by omega)
       obtain ⟨x64, _, hx62, hr65, at63⟩ := hs57.get j (by omega)
       obtain ⟨A67, n68, c69, rfl, hs66⟩ := Sl.of hr65
       replace hs66 : Sl (tInt .i64) _ A67 n68 c69 x64 := hs66
       have lhs66 := hs66.len'
       replace at63 : At G36 (q61.add (j * 1)) [.slice A67 n68 c69] := at63
       refine WD_idx htb 14 (by rfl) rfl (by decide +kernel) (fun _ _ _ _ _ h => h) (Le.refl _) q61 n59 ((j : Nat) : Int) 1 (by kernel_rfl) (by omega) (by omega) ?_
       refine WD_ld htb 15 (by rfl) rfl (by decide +kernel) (fun _ _ _ _ _ h => h) (Le.refl _) (q61.add (j * 1)) false 1 [.slice A67 n68 c69] (by kernel_rfl) at63 rfl (by decide) ?_
       refine WD_one 16 (by rfl) (by decide +kernel) (WOp_call 71 [(sS A51 n52 c53), (sS A67 n68 c69)] (by kernel_rfl) (goes_of Try.func71 rfl rfl) (fun ρ w hW => sameInts_ok hW.has (xs := x48) (ys := x64) hs50 hs66) ?_)
       intro G3 v hle hΦ
       replace hc10 := Le.trans hc10 hle
       replace hc37 := Le.trans hc37 hle
       replace h_tk := h_tk.mono hle
       replace h_nm := h_nm.mono hle
       replace h_rs := h_rs.mono hle
       replace h_tk2 := h_tk2.mono hle
       replace h_nm2 := h_nm2.mono hle
       replace h_rs2 := h_rs2.mono hle
       replace at13 := at13.mono hle
       replace hs41 := hs41.mono hle
       replace at39 := at39.mono hle
       replace hs50 := hs50.mono hle
       replace at47 := at47.mono hle
       replace hs57 := hs57.mono hle
       replace at55 := at55.mono hle
       replace hs66 := hs66.mono hle
       replace at63 := at63.mono hle
       replace hz := hz.mono hle
       obtain ⟨r70, rfl, hR71⟩ := hΦ
       refine WD_on hle ?_
       refine WD_up hle ?_
       refine WD_takeL htb rfl (fun _ _ _ _ _ h => h) (Le.refl _) [17] (fuel := 0) (listed' := bts 18 262143) (S' := ⟨[(75, (bB (!r70))), (74, (bB r70)), (73, (sS A67 n68 c69)), (72, (.v (.pointer (some (q61.add (j * 1)))))), (70, (sS (some q61) n59 c60)), (69, (.v (.pointer (some (q20.add (i * 1)))))), (65, (sS A51 n52 c53)), (64, (.v (.pointer (some (q45.add (j * 1)))))), (62, (sS (some q45) n43 c44)), (61, (.v (.pointer (some (q11.add (i * 1)))))), (71, (iN j)), (68, (iN i)), (67, (sS (some q20) n_rs2 c_rs2)), (66, (.p 1 2)), (63, (iN j)), (60, (iN i)), (59, (sS (some q11) n_rs c_rs)), (58, (.p 0 2)), (6, (iN j)), (55, (iN j)), (54, (iN n34)), (5, (iN i)), (33, (iN i)), (32, (iN n_rs)), (3, (.p 1 0)), (2, (.p 0 0))], [], 2, [], [(0, bk8, (.cells 41 [(sS A_tk n_tk c_tk), (sS A_nm n_nm c_nm), (sS (some q11) n_rs c_rs)])), (1, bk6, (.cells 41 [(sS A_tk2 n_tk2 c_tk2), (sS A_nm2 n_nm2 c_nm2), (sS (some q20) n_rs2 c_rs2)]))]⟩) hz (by kernel_rfl) rfl ?_
       refine WD_done (by decide +kernel) ?_
       refine WK_keep [75, 55, 54, 5, 33, 32, 3, 2] [] rfl rfl ?_
       refine WQ_code ?_
       refine WC_cond (b := (!r70)) rfl (fun hg => ?_) (fun hg => ?_)
       ·
        rw [Bool.not_eq_true'] at hg
        have hne : x48 ≠ x64 := of_decide_eq_false (hR71.symm.trans (by simpa using hg))
        refine WC_seq (WC_region ?_)
        refine WL_execS htb 1 [4] [] ⟨[(4, (bB false))], [], 2, [], [(0, bk8, (.cells 41 [(sS A_tk n_tk c_tk), (sS A_nm n_nm c_nm), (sS (some q11) n_rs c_rs)])), (1, bk6, (.cells 41 [(sS A_tk2 n_tk2 c_tk2), (sS A_nm2 n_nm2 c_nm2), (sS (some q20) n_rs2 c_rs2)]))]⟩ (by kernel_rfl) ?_
        refine WL_nil ?_
        refine WQ_code ?_
        refine WC_ret ?_
        refine WQ_blk_ret ?_
        refine WQ_then_ret ?_
        refine WQ_then_ret ?_
        refine WQ_blk_ret ?_
        refine WQ_blk_ret ?_
        refine WQ_then_ret ?_
        refine WQ_then_ret ?_
        refine WQ_blk_ret ?_
        refine WQ_then_ret ?_
        exact WQ_done htb [(bB false)] _ (.inl rfl) rfl (by kernel_rfl) (fun ρ w hW => ⟨false, rfl, (decide_eq_false (fun h => hne (nth2 h.2.2 hx12 hx21 hx46 hx62))).symm⟩)
       ·
        rw [Bool.not_eq_false'] at hg
        have heq : x48 = x64 := of_decide_eq_true (hR71.symm.trans (by simpa using hg))
        refine WC_skip ?_
        refine WQ_blk ?_
        refine WQ_code ?_
        refine WC_region ?_
        refine WL_execS htb 2 [55, 54, 5, 33, 32, 3, 2] [] ⟨[(55, (iI (IntKind.i64.wrap (((j : Nat) : Int) + 1)))), (54, (iN n34)), (5, (iN i)), (33, (iN i)), (32, (iN n_rs)), (3, (.p 1 0)), (2, (.p 0 0))], [], 2, [], [(0, bk8, (.cells 41 [(sS A_tk n_tk c_tk), (sS A_nm n_nm c_nm), (sS (some q11) n_rs c_rs)])), (1, bk6, (.cells 41 [(sS A_tk2 n_tk2 c_tk2), (sS A_nm2 n_nm2 c_nm2), (sS (some q20) n_rs2 c_rs2)]))]⟩ (by kernel_rfl) ?_
        refine WL_nil ?_
        refine WK_env [(55, (iN (j + 1))), (54, (iN n34)), (5, (iN i)), (33, (iN i)), (32, (iN n_rs)), (3, (.p 1 0)), (2, (.p 0 0))] (fun ρ => ⟨rfl, (congrArg (Value.int .i64) (by rw [wrap_id (by omega)]; first | rfl | omega)), ⟨rfl, rfl, ⟨rfl, rfl, ⟨rfl, rfl, ⟨rfl, rfl, ⟨rfl, rfl, ⟨rfl, rfl, trivial⟩⟩⟩⟩⟩⟩⟩) ?_
        refine WK_keep [55, 54, 5, 33, 32, 3, 2] [] rfl rfl ?_
        exact WQ_next ((j + 1)) (by show n34 - (j + 1) < n34 - j; omega) ⟨hc37, ⟨by omega, by rw [take_succ' hx46, take_succ' hx62, hu, heq]⟩⟩ (fun ρ a w h => h)
      ·
       replace he := of_decide_eq_false he
       refine WC_exit ?_
       refine WQ_then_exit ?_
       refine WQ_then_exit ?_
       refine WQ_hit ?_
       refine WQ_blk ?_
       refine WQ_code ?_
       refine WC_region ?_
       refine WL_execS htb 2 [33, 32, 3, 2] [] ⟨[(33, (iI (IntKind.i64.wrap (((i : Nat) : Int) + 1)))), (32, (iN n_rs)), (3, (.p 1 0)), (2, (.p 0 0))], [], 2, [], [(0, bk8, (.cells 41 [(sS A_tk n_tk c_tk), (sS A_nm n_nm c_nm), (sS (some q11) n_rs c_rs)])), (1, bk6, (.cells 41 [(sS A_tk2 n_tk2 c_tk2), (sS A_nm2 n_nm2 c_nm2), (sS (some q20) n_rs2 c_rs2)]))]⟩ (by kernel_rfl) ?_
       refine WL_nil ?_
       have hxe : x14 = x23 := by rw [List.take_of_length_le (by omega), List.take_of_length_le (by omega)] at hu; exact hu
       refine WK_env [(33, (iN (i + 1))), (32, (iN n_rs)), (3, (.p 1 0)), (2, (.p 0 0))] (fun ρ => ⟨rfl, (congrArg (Value.int .i64) (by rw [wrap_id (by omega)]; first | rfl | omega)), ⟨rfl, rfl, ⟨rfl, rfl, ⟨rfl, rfl, trivial⟩⟩⟩⟩) ?_
       refine WK_keep [33, 32, 3, 2] [] rfl rfl ?_
       exact WQ_next ((i + 1)) (by show n_rs - (i + 1) < n_rs - i; omega) ⟨hc10, ⟨by omega, by rw [take_succ' hx12, take_succ' hx21, ht, hxe]⟩⟩ (fun ρ a w h => h)
    ·
     replace hc := of_decide_eq_false hc
     refine WC_exit ?_
     refine WQ_then_exit ?_
     refine WQ_then_exit ?_
     refine WQ_hit ?_
     refine WQ_code ?_
     refine WC_seq (WC_region ?_)
     refine WL_execS htb 1 [4] [] ⟨[(4, (bB true))], [], 2, [], [(0, bk8, (.cells 41 [(sS A_tk n_tk c_tk), (sS A_nm n_nm c_nm), (sS A_rs n_rs c_rs)])), (1, bk6, (.cells 41 [(sS A_tk2 n_tk2 c_tk2), (sS A_nm2 n_nm2 c_nm2), (sS A_rs2 n_rs2 c_rs2)]))]⟩ (by kernel_rfl) ?_
     refine WL_nil ?_
     refine WQ_code ?_
     refine WC_ret ?_
     exact WQ_done htb [(bB true)] _ (.inl rfl) rfl (by kernel_rfl) (fun ρ w hW => ⟨true, rfl, (decide_eq_true ⟨h1, h2, by rw [List.take_of_length_le (by omega), List.take_of_length_le (by omega)] at ht; exact ht⟩).symm⟩)

theorem index_ok {w : World} {G : Heap} (hG : Has w G) {xs : (List ByteArray)} {A_xs : Option Addr} {n_xs : Nat} {c_xs : Nat} {x : ByteArray} (h_xs : Sl tStr G A_xs n_xs c_xs xs) (h_x : x.size ≤ big) :
    Calls Try.prog 46 #[(.slice A_xs n_xs c_xs), (.string x)] w (Ret w G fun v G' => ∃ (r : Int), v = .int .i64 r ∧ (-9223372036854775808 ≤ r ∧ r ≤ 9223372036854775807) ∧ (r = placeB xs x)) := by
 have lh_xs := h_xs.len'
 refine enter [(sS A_xs n_xs c_xs), (tS x)] 19 Try.func46 rfl rfl rfl rfl hG ?_
 refine WC_seq (WC_region ?_)
 refine WL_execS htb 1 [0, 1] [] ⟨[(0, (sS A_xs n_xs c_xs)), (1, (tS x))], [], 0, [], []⟩ (by kernel_rfl) ?_
 refine WL_nil ?_
 refine WQ_code ?_
 refine WC_seq ?_
 refine WC_seq (WC_region ?_)
 refine WL_execS htb 3 [8, 7, 0, 1] [] ⟨[(8, (iI 0)), (7, (iN n_xs)), (0, (sS A_xs n_xs c_xs)), (1, (tS x))], [], 0, [], []⟩ (by kernel_rfl) ?_
 refine WL_nil ?_
 refine WQ_code ?_
 refine WC_block ?_
 refine WK_keep [8, 7, 0, 1] [] rfl rfl ?_
 refine WK_env [(8, (iN 0)), (7, (iN n_xs)), (0, (sS A_xs n_xs c_xs)), (1, (tS x))] (fun ρ => ⟨rfl, rfl, ⟨rfl, rfl, ⟨rfl, rfl, ⟨rfl, rfl, trivial⟩⟩⟩⟩) ?_
 refine WC_loop (ι := Nat) (fun i G1 => Le G G1 ∧ (i ≤ n_xs ∧ x ∉ xs.take i)) (fun i => ⟨[(8, (iN i)), (7, (iN n_xs)), (0, (sS A_xs n_xs c_xs)), (1, (tS x))], [], 0, [], []⟩) (fun i => n_xs - i) (0) ⟨Le.refl _, ⟨Nat.zero_le _, by simp⟩⟩ rfl ?_
 rintro i G1 ⟨hle, hF⟩
 show WC _ _ _ _ _ ⟨[(8, (iN i)), (7, (iN n_xs)), (0, (sS A_xs n_xs c_xs)), (1, (tS x))], [], 0, [], []⟩ _
 replace h_xs := h_xs.mono hle
 have hc2 := hle
 obtain ⟨hi, hn⟩ := hF
 refine WC_seq (WC_region ?_)
 refine WL_execS htb 1 [9, 8, 7, 0, 1] [] ⟨[(9, (bB (decide ((((i : Nat) : Int) : Int) < ((n_xs : Nat) : Int))))), (8, (iN i)), (7, (iN n_xs)), (0, (sS A_xs n_xs c_xs)), (1, (tS x))], [], 0, [], []⟩ (by kernel_rfl) ?_
 refine WL_nil ?_
 refine WQ_code ?_
 refine WC_seq ?_
 refine WC_cond (b := (decide ((((i : Nat) : Int) : Int) < ((n_xs : Nat) : Int)))) rfl (fun hc => ?_) (fun hc => ?_)
 ·
  replace hc := of_decide_eq_true hc
  refine WC_skip ?_
  refine WQ_code ?_
  refine WC_seq ?_
  refine WC_block ?_
  refine WC_seq (WC_region ?_)
  refine WL_execS htb 2 [5, 8, 7, 0, 1] [] ⟨[(5, (iN i)), (8, (iN i)), (7, (iN n_xs)), (0, (sS A_xs n_xs c_xs)), (1, (tS x))], [], 0, [], []⟩ (by kernel_rfl) ?_
  refine WL_nil ?_
  refine WQ_code ?_
  refine WC_seq (WC_region ?_)
  refine WL_execS htb 3 [13, 12, 11, 5, 8, 7, 0, 1] [] ⟨[(13, (iN i)), (12, (sS A_xs n_xs c_xs)), (11, (tS x)), (5, (iN i)), (8, (iN i)), (7, (iN n_xs)), (0, (sS A_xs n_xs c_xs)), (1, (tS x))], [], 0, [], []⟩ (by kernel_rfl) ?_
  obtain ⟨q3, rfl⟩ := h_xs.ptr (by omega)
  obtain ⟨x6, _, hx4, ⟨rfl, hn7⟩, at5⟩ := h_xs.get i (by omega)
  replace at5 : At G1 (q3.add (i * 1)) [.string x6] := at5
  refine WL_op (WOp_idx htb q3 n_xs ((i : Nat) : Int) 1 (by kernel_rfl) (by omega) (by omega) ?_)
  refine WL_op (WOp_ld htb (q3.add (i * 1)) false 1 [.string x6] (by kernel_rfl) at5 rfl (by decide) ?_)
  refine WL_execS htb 1 [16, 5, 8, 7, 0, 1] [] ⟨[(16, (bB ((x : ByteArray).toList == (x6 : ByteArray).toList))), (5, (iN i)), (8, (iN i)), (7, (iN n_xs)), (0, (sS (some q3) n_xs c_xs)), (1, (tS x))], [], 0, [], []⟩ (by kernel_rfl) ?_
  refine WL_nil ?_
  refine WQ_code ?_
  refine WC_cond (b := ((x : ByteArray).toList == (x6 : ByteArray).toList)) rfl (fun hd => ?_) (fun hd => ?_)
  ·
   replace hd := eq_of_beq hd
   refine WC_seq (WC_region ?_)
   refine WL_execS htb 2 [4] [] ⟨[(4, (iN i))], [], 0, [], []⟩ (by kernel_rfl) ?_
   refine WL_nil ?_
   refine WQ_code ?_
   refine WC_ret ?_
   refine WQ_blk_ret ?_
   refine WQ_then_ret ?_
   refine WQ_then_ret ?_
   refine WQ_blk_ret ?_
   refine WQ_then_ret ?_
   exact WQ_done htb [(iN i)] _ (.inl rfl) rfl (by kernel_rfl) (fun ρ w hW => ⟨((i : Nat) : Int), rfl, (by omega), place_yes hx4 hd.symm hn⟩)
  ·
   replace hd := ne_of_beq_false hd
   refine WC_skip ?_
   refine WQ_blk ?_
   refine WQ_code ?_
   refine WC_region ?_
   refine WL_execS htb 2 [8, 7, 0, 1] [] ⟨[(8, (iI (IntKind.i64.wrap (((i : Nat) : Int) + 1)))), (7, (iN n_xs)), (0, (sS (some q3) n_xs c_xs)), (1, (tS x))], [], 0, [], []⟩ (by kernel_rfl) ?_
   refine WL_nil ?_
   refine WK_env [(8, (iN (i + 1))), (7, (iN n_xs)), (0, (sS (some q3) n_xs c_xs)), (1, (tS x))] (fun ρ => ⟨rfl, (congrArg (Value.int .i64) (by rw [wrap_id (by omega)]; first | rfl | omega)), ⟨rfl, rfl, ⟨rfl, rfl, ⟨rfl, rfl, trivial⟩⟩⟩⟩) ?_
   refine WK_keep [8, 7, 0, 1] [] rfl rfl ?_
   exact WQ_next ((i + 1)) (by show n_xs - (i + 1) < n_xs - i; omega) ⟨hc2, ⟨by omega, has_step hx4 (Ne.symm hd) hn⟩⟩ (fun ρ a w h => h)
 ·
  replace hc := of_decide_eq_false hc
  refine WC_exit ?_
  refine WQ_then_exit ?_
  refine WQ_then_exit ?_
  refine WQ_hit ?_
  refine WQ_code ?_
  refine WC_seq (WC_region ?_)
  refine WL_execS htb 1 [4] [] ⟨[(4, (iI (-1)))], [], 0, [], []⟩ (by kernel_rfl) ?_
  refine WL_nil ?_
  refine WQ_code ?_
  refine WC_ret ?_
  exact WQ_done htb [(iI (-1))] _ (.inl rfl) rfl (by kernel_rfl) (fun ρ w hW => ⟨(-1), rfl, (by omega), place_no hn (by omega)⟩)

end Go.Proofs.Ytfemkbockhpmcaa.Sym
