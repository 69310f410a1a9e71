/- Walks of functions that the laws of this seat reach, printed by a program of this session's. -/
import Derived.Test.YtfemkbockhpmcaaB14
set_option linter.unusedSimpArgs false
set_option linter.unusedVariables false
set_option maxHeartbeats 4000000
namespace Go.Proofs.Ytfemkbockhpmcaa.Sym
open Go Go.Proofs Go.RowKit

theorem Ret.imp {w : World} {G : Heap} {Φ Ψ : Value → Heap → Prop} (h : ∀ v G', Φ v G' → Ψ v G') {e : Ending} {w' : World} (hE : Ret w G Φ e w') : Ret w G Ψ e w' := by
  obtain ⟨v, G', h1, h2, h3, h4, h5, h6⟩ := hE
  first | exact ⟨v, G', h1, h2, h3, h4, h5, h _ _ h6⟩ | skip
theorem bytes_eq {x y : ByteArray} (h : x.toList = y.toList) : x = y := by
  rw [ByteArray.toList_eq, ByteArray.toList_eq] at h
  cases x; cases y; simp at h; simpa using h
theorem equalI_ok {w : World} {G : Heap} (hG : Has w G) {xs : (List Int)} {A_xs : Option Addr} {n_xs : Nat} {c_xs : Nat} {ys : (List Int)} {A_ys : Option Addr} {n_ys : Nat} {c_ys : Nat} (h_xs : Sl (tInt .i64) G A_xs n_xs c_xs xs) (h_ys : Sl (tInt .i64) G A_ys n_ys c_ys ys) :
    Calls Try.prog 75 #[(.slice A_xs n_xs c_xs), (.slice A_ys n_ys c_ys)] w (Ret w G fun v G' => ∃ (b : Bool), v = .bool b ∧ (b = decide (xs = ys))) := by
  have lh_xs := h_xs.len'
  have lh_ys := h_ys.len'
  refine enter [(sS A_xs n_xs c_xs), (sS A_ys n_ys c_ys)] 26 Try.func75 rfl rfl rfl rfl hG ?_
  refine WC_seq (WC_region ?_)
  refine WL_execS htb 1 [0, 1] [] ⟨[(0, (sS A_xs n_xs c_xs)), (1, (sS A_ys n_ys c_ys))], [], 0, [], []⟩ (by kernel_rfl) ?_
  refine WL_nil ?_
  refine WQ_code ?_
  refine WC_seq ?_
  refine WC_seq (WC_region ?_)
  refine WL_execS htb 5 [10, 0, 1] [] ⟨[(10, (bB ((((n_xs : Nat) : Int) : Int) != ((n_ys : Nat) : Int)))), (0, (sS A_xs n_xs c_xs)), (1, (sS A_ys n_ys c_ys))], [], 0, [], []⟩ (by kernel_rfl) ?_
  refine WL_nil ?_
  refine WQ_code ?_
  refine WC_cond (b := ((((n_xs : Nat) : Int) : Int) != ((n_ys : Nat) : Int))) rfl (fun hb => ?_) (fun hb => ?_)
  · replace hb := bne_iff_ne.1 hb
    refine WC_seq (WC_region ?_)
    refine WL_execS htb 1 [4] [] ⟨[(4, (bB false))], [], 0, [], []⟩ (by kernel_rfl) ?_
    refine WL_nil ?_
    refine WQ_code ?_
    refine WC_ret ?_
    refine WQ_then_ret ?_
    exact WQ_done htb [(bB false)] _ (.inl rfl) rfl (by kernel_rfl) (fun ρ w hW => ⟨false, rfl, ne_caseG (by omega)⟩)
  · replace hb := (bne_eq_false_iff_eq.1) hb
    refine WC_skip ?_
    refine WQ_code ?_
    refine WC_seq ?_
    refine WC_seq (WC_region ?_)
    refine WL_execS htb 3 [13, 12, 0, 1] [] ⟨[(13, (iI 0)), (12, (iN n_xs)), (0, (sS A_xs n_xs c_xs)), (1, (sS A_ys n_ys c_ys))], [], 0, [], []⟩ (by kernel_rfl) ?_
    refine WL_nil ?_
    refine WQ_code ?_
    refine WC_block ?_
    refine WK_keep [13, 12, 0, 1] [] rfl rfl ?_
    refine WK_env [(13, (iN 0)), (12, (iN n_xs)), (0, (sS A_xs n_xs c_xs)), (1, (sS A_ys n_ys c_ys))] (fun ρ => ⟨rfl, rfl, ⟨rfl, rfl, ⟨rfl, rfl, ⟨rfl, rfl, trivial⟩⟩⟩⟩) ?_
    refine WC_loop (ι := Nat) (fun i G1 => Le G G1 ∧ (i ≤ n_xs ∧ xs.take i = ys.take i)) (fun i => ⟨[(13, (iN i)), (12, (iN n_xs)), (0, (sS A_xs n_xs c_xs)), (1, (sS A_ys n_ys c_ys))], [], 0, [], []⟩) (fun i => n_xs - i) (0) ⟨Le.refl _, ⟨Nat.zero_le _, rfl⟩⟩ rfl ?_
    rintro i G1 ⟨hle, hF⟩
    show WC _ _ _ _ _ ⟨[(13, (iN i)), (12, (iN n_xs)), (0, (sS A_xs n_xs c_xs)), (1, (sS A_ys n_ys c_ys))], [], 0, [], []⟩ _
    replace h_xs := h_xs.mono hle
    replace h_ys := h_ys.mono hle
    have hc2 := hle
    obtain ⟨hi, ht⟩ := hF
    refine WC_seq (WC_region ?_)
    refine WL_execS htb 1 [14, 13, 12, 0, 1] [] ⟨[(14, (bB (decide ((((i : Nat) : Int) : Int) < ((n_xs : Nat) : Int))))), (13, (iN i)), (12, (iN n_xs)), (0, (sS A_xs n_xs c_xs)), (1, (sS A_ys n_ys c_ys))], [], 0, [], []⟩ (by kernel_rfl) ?_
    refine WL_nil ?_
    refine WQ_code ?_
    refine WC_seq ?_
    refine WC_cond (b := (decide ((((i : Nat) : Int) : Int) < ((n_xs : Nat) : Int)))) rfl (fun hc => ?_) (fun hc => ?_)
    · replace hc := of_decide_eq_true hc
      refine WC_skip ?_
      refine WQ_code ?_
      refine WC_seq ?_
      refine WC_block ?_
      refine WC_seq (WC_region ?_)
      refine WL_execS htb 2 [5, 13, 12, 0, 1] [] ⟨[(5, (iN i)), (13, (iN i)), (12, (iN n_xs)), (0, (sS A_xs n_xs c_xs)), (1, (sS A_ys n_ys c_ys))], [], 0, [], []⟩ (by kernel_rfl) ?_
      refine WL_nil ?_
      refine WQ_code ?_
      refine WC_seq (WC_draw mixed ?_)
      refine WD_takeL htb rfl (fun _ _ _ _ _ h => h) (Le.refl _) [0, 1, 4, 5] (fuel := 5) (listed' := bts 9 51) (S' := ⟨[(21, (iN i)), (20, (sS A_ys n_ys c_ys)), (17, (iN i)), (16, (sS A_xs n_xs c_xs)), (5, (iN i)), (13, (iN i)), (12, (iN n_xs)), (0, (sS A_xs n_xs c_xs)), (1, (sS A_ys n_ys c_ys))], [], 0, [], []⟩) (FZ.nil _) (by kernel_rfl) rfl ?_
      obtain ⟨q3, rfl⟩ := h_xs.ptr (by omega)
      obtain ⟨x6, _, hx4, ⟨rfl, hn7⟩, at5⟩ := h_xs.get i (by omega)
      have bdhn7 : -9223372036854775808 ≤ x6 ∧ x6 ≤ 9223372036854775807 := bd_of hn7
      replace at5 : At G1 (q3.add (i * 1)) [.int .i64 x6] := at5
      refine WD_idx htb 2 (by rfl) rfl (by decide +kernel) (fun _ _ _ _ _ h => h) (Le.refl _) q3 n_xs ((i : Nat) : Int) 1 (by kernel_rfl) (by omega) (by omega) ?_
      refine WD_ld htb 3 (by rfl) rfl (by decide +kernel) (fun _ _ _ _ _ h => h) (Le.refl _) (q3.add (i * 1)) false 1 [.int .i64 x6] (by kernel_rfl) at5 rfl (by decide) ?_
      obtain ⟨q8, rfl⟩ := h_ys.ptr (by omega)
      obtain ⟨x11, _, hx9, ⟨rfl, hn12⟩, at10⟩ := h_ys.get i (by omega)
      have bdhn12 : -9223372036854775808 ≤ x11 ∧ x11 ≤ 9223372036854775807 := bd_of hn12
      replace at10 : At G1 (q8.add (i * 1)) [.int .i64 x11] := at10
      refine WD_idx htb 6 (by rfl) rfl (by decide +kernel) (fun _ _ _ _ _ h => h) (Le.refl _) q8 n_ys ((i : Nat) : Int) 1 (by kernel_rfl) (by omega) (by omega) ?_
      refine WD_ld htb 7 (by rfl) rfl (by decide +kernel) (fun _ _ _ _ _ h => h) (Le.refl _) (q8.add (i * 1)) false 1 [.int .i64 x11] (by kernel_rfl) at10 rfl (by decide) ?_
      refine WD_takeL htb rfl (fun _ _ _ _ _ h => h) (Le.refl _) [8] (fuel := 0) (listed' := bts 9 511) (S' := ⟨[(24, (bB ((x6 : Int) != x11))), (23, (iI x11)), (22, (.v (.pointer (some (q8.add (i * 1)))))), (19, (iI x6)), (18, (.v (.pointer (some (q3.add (i * 1)))))), (21, (iN i)), (20, (sS (some q8) n_ys c_ys)), (17, (iN i)), (16, (sS (some q3) n_xs c_xs)), (5, (iN i)), (13, (iN i)), (12, (iN n_xs)), (0, (sS (some q3) n_xs c_xs)), (1, (sS (some q8) n_ys c_ys))], [], 0, [], []⟩) (FZ.nil _) (by kernel_rfl) rfl ?_
      refine WD_done (by decide +kernel) ?_
      refine WK_keep [24, 13, 12, 0, 1] [] rfl rfl ?_
      refine WQ_code ?_
      have hqx : x6 = x11 ∨ ¬ x6 = x11 := Classical.em _
      refine WC_cond (b := ((x6 : Int) != x11)) rfl (fun hx => ?_) (fun hx => ?_)
      · replace hx := bne_iff_ne.1 hx
        have hne : ¬ x6 = x11 := fun e => hx (by rw [e])
        refine WC_seq (WC_region ?_)
        refine WL_execS htb 1 [4] [] ⟨[(4, (bB false))], [], 0, [], []⟩ (by kernel_rfl) ?_
        refine WL_nil ?_
        refine WQ_code ?_
        refine WC_ret ?_
        refine WQ_blk_ret ?_
        refine WQ_then_ret ?_
        refine WQ_then_ret ?_
        refine WQ_blk_ret ?_
        refine WQ_then_ret ?_
        exact WQ_done htb [(bB false)] _ (.inl rfl) rfl (by kernel_rfl) (fun ρ w hW => ⟨false, rfl, eq_caseG1 hx4 hx9 hne⟩)
      · replace hx := (bne_eq_false_iff_eq.1) hx
        refine WC_skip ?_
        refine WQ_blk ?_
        refine WQ_code ?_
        refine WC_region ?_
        refine WL_execS htb 2 [13, 12, 0, 1] [] ⟨[(13, (iI (IntKind.i64.wrap (((i : Nat) : Int) + 1)))), (12, (iN n_xs)), (0, (sS (some q3) n_xs c_xs)), (1, (sS (some q8) n_ys c_ys))], [], 0, [], []⟩ (by kernel_rfl) ?_
        refine WL_nil ?_
        refine WK_env [(13, (iN (i + 1))), (12, (iN n_xs)), (0, (sS (some q3) n_xs c_xs)), (1, (sS (some q8) n_ys c_ys))] (fun ρ => ⟨rfl, (congrArg (Value.int .i64) (by rw [wrap_id (by omega)]; first | rfl | omega)), ⟨rfl, rfl, ⟨rfl, rfl, ⟨rfl, rfl, trivial⟩⟩⟩⟩) ?_
        refine WK_keep [13, 12, 0, 1] [] rfl rfl ?_
        exact WQ_next ((i + 1)) (by show n_xs - (i + 1) < n_xs - i; omega) ⟨hc2, ⟨by omega, eq_caseG2 ht hx4 hx9 hx⟩⟩ (fun ρ a w h => h)
    · replace hc := of_decide_eq_false hc
      refine WC_exit ?_
      refine WQ_then_exit ?_
      refine WQ_then_exit ?_
      refine WQ_hit ?_
      refine WQ_code ?_
      refine WC_seq (WC_region ?_)
      refine WL_execS htb 1 [4] [] ⟨[(4, (bB true))], [], 0, [], []⟩ (by kernel_rfl) ?_
      refine WL_nil ?_
      refine WQ_code ?_
      refine WC_ret ?_
      exact WQ_done htb [(bB true)] _ (.inl rfl) rfl (by kernel_rfl) (fun ρ w hW => ⟨true, rfl, eq_caseG3 ht (by omega) (by omega)⟩)

theorem equalS_ok {w : World} {G : Heap} (hG : Has w G) {xs : (List ByteArray)} {A_xs : Option Addr} {n_xs : Nat} {c_xs : Nat} {ys : (List ByteArray)} {A_ys : Option Addr} {n_ys : Nat} {c_ys : Nat} (h_xs : Sl tStr G A_xs n_xs c_xs xs) (h_ys : Sl tStr G A_ys n_ys c_ys ys) :
    Calls Try.prog 59 #[(.slice A_xs n_xs c_xs), (.slice A_ys n_ys c_ys)] w (Ret w G fun v G' => ∃ (b : Bool), v = .bool b ∧ (b = decide (xs = ys))) := by
  have lh_xs := h_xs.len'
  have lh_ys := h_ys.len'
  refine enter [(sS A_xs n_xs c_xs), (sS A_ys n_ys c_ys)] 26 Try.func59 rfl rfl rfl rfl hG ?_
  refine WC_seq (WC_region ?_)
  refine WL_execS htb 1 [0, 1] [] ⟨[(0, (sS A_xs n_xs c_xs)), (1, (sS A_ys n_ys c_ys))], [], 0, [], []⟩ (by kernel_rfl) ?_
  refine WL_nil ?_
  refine WQ_code ?_
  refine WC_seq ?_
  refine WC_seq (WC_region ?_)
  refine WL_execS htb 5 [10, 0, 1] [] ⟨[(10, (bB ((((n_xs : Nat) : Int) : Int) != ((n_ys : Nat) : Int)))), (0, (sS A_xs n_xs c_xs)), (1, (sS A_ys n_ys c_ys))], [], 0, [], []⟩ (by kernel_rfl) ?_
  refine WL_nil ?_
  refine WQ_code ?_
  refine WC_cond (b := ((((n_xs : Nat) : Int) : Int) != ((n_ys : Nat) : Int))) rfl (fun hb => ?_) (fun hb => ?_)
  · replace hb := bne_iff_ne.1 hb
    refine WC_seq (WC_region ?_)
    refine WL_execS htb 1 [4] [] ⟨[(4, (bB false))], [], 0, [], []⟩ (by kernel_rfl) ?_
    refine WL_nil ?_
    refine WQ_code ?_
    refine WC_ret ?_
    refine WQ_then_ret ?_
    exact WQ_done htb [(bB false)] _ (.inl rfl) rfl (by kernel_rfl) (fun ρ w hW => ⟨false, rfl, ne_caseG (by omega)⟩)
  · replace hb := (bne_eq_false_iff_eq.1) hb
    refine WC_skip ?_
    refine WQ_code ?_
    refine WC_seq ?_
    refine WC_seq (WC_region ?_)
    refine WL_execS htb 3 [13, 12, 0, 1] [] ⟨[(13, (iI 0)), (12, (iN n_xs)), (0, (sS A_xs n_xs c_xs)), (1, (sS A_ys n_ys c_ys))], [], 0, [], []⟩ (by kernel_rfl) ?_
    refine WL_nil ?_
    refine WQ_code ?_
    refine WC_block ?_
    refine WK_keep [13, 12, 0, 1] [] rfl rfl ?_
    refine WK_env [(13, (iN 0)), (12, (iN n_xs)), (0, (sS A_xs n_xs c_xs)), (1, (sS A_ys n_ys c_ys))] (fun ρ => ⟨rfl, rfl, ⟨rfl, rfl, ⟨rfl, rfl, ⟨rfl, rfl, trivial⟩⟩⟩⟩) ?_
    refine WC_loop (ι := Nat) (fun i G1 => Le G G1 ∧ (i ≤ n_xs ∧ xs.take i = ys.take i)) (fun i => ⟨[(13, (iN i)), (12, (iN n_xs)), (0, (sS A_xs n_xs c_xs)), (1, (sS A_ys n_ys c_ys))], [], 0, [], []⟩) (fun i => n_xs - i) (0) ⟨Le.refl _, ⟨Nat.zero_le _, rfl⟩⟩ rfl ?_
    rintro i G1 ⟨hle, hF⟩
    show WC _ _ _ _ _ ⟨[(13, (iN i)), (12, (iN n_xs)), (0, (sS A_xs n_xs c_xs)), (1, (sS A_ys n_ys c_ys))], [], 0, [], []⟩ _
    replace h_xs := h_xs.mono hle
    replace h_ys := h_ys.mono hle
    have hc2 := hle
    obtain ⟨hi, ht⟩ := hF
    refine WC_seq (WC_region ?_)
    refine WL_execS htb 1 [14, 13, 12, 0, 1] [] ⟨[(14, (bB (decide ((((i : Nat) : Int) : Int) < ((n_xs : Nat) : Int))))), (13, (iN i)), (12, (iN n_xs)), (0, (sS A_xs n_xs c_xs)), (1, (sS A_ys n_ys c_ys))], [], 0, [], []⟩ (by kernel_rfl) ?_
    refine WL_nil ?_
    refine WQ_code ?_
    refine WC_seq ?_
    refine WC_cond (b := (decide ((((i : Nat) : Int) : Int) < ((n_xs : Nat) : Int)))) rfl (fun hc => ?_) (fun hc => ?_)
    · replace hc := of_decide_eq_true hc
      refine WC_skip ?_
      refine WQ_code ?_
      refine WC_seq ?_
      refine WC_block ?_
      refine WC_seq (WC_region ?_)
      refine WL_execS htb 2 [5, 13, 12, 0, 1] [] ⟨[(5, (iN i)), (13, (iN i)), (12, (iN n_xs)), (0, (sS A_xs n_xs c_xs)), (1, (sS A_ys n_ys c_ys))], [], 0, [], []⟩ (by kernel_rfl) ?_
      refine WL_nil ?_
      refine WQ_code ?_
      refine WC_seq (WC_draw mixed ?_)
      refine WD_takeL htb rfl (fun _ _ _ _ _ h => h) (Le.refl _) [0, 1, 4, 5] (fuel := 5) (listed' := bts 9 51) (S' := ⟨[(21, (iN i)), (20, (sS A_ys n_ys c_ys)), (17, (iN i)), (16, (sS A_xs n_xs c_xs)), (5, (iN i)), (13, (iN i)), (12, (iN n_xs)), (0, (sS A_xs n_xs c_xs)), (1, (sS A_ys n_ys c_ys))], [], 0, [], []⟩) (FZ.nil _) (by kernel_rfl) rfl ?_
      obtain ⟨q3, rfl⟩ := h_xs.ptr (by omega)
      obtain ⟨x6, _, hx4, ⟨rfl, hn7⟩, at5⟩ := h_xs.get i (by omega)
      replace at5 : At G1 (q3.add (i * 1)) [.string x6] := at5
      refine WD_idx htb 2 (by rfl) rfl (by decide +kernel) (fun _ _ _ _ _ h => h) (Le.refl _) q3 n_xs ((i : Nat) : Int) 1 (by kernel_rfl) (by omega) (by omega) ?_
      refine WD_ld htb 3 (by rfl) rfl (by decide +kernel) (fun _ _ _ _ _ h => h) (Le.refl _) (q3.add (i * 1)) false 1 [.string x6] (by kernel_rfl) at5 rfl (by decide) ?_
      obtain ⟨q8, rfl⟩ := h_ys.ptr (by omega)
      obtain ⟨x11, _, hx9, ⟨rfl, hn12⟩, at10⟩ := h_ys.get i (by omega)
      replace at10 : At G1 (q8.add (i * 1)) [.string x11] := at10
      refine WD_idx htb 6 (by rfl) rfl (by decide +kernel) (fun _ _ _ _ _ h => h) (Le.refl _) q8 n_ys ((i : Nat) : Int) 1 (by kernel_rfl) (by omega) (by omega) ?_
      refine WD_ld htb 7 (by rfl) rfl (by decide +kernel) (fun _ _ _ _ _ h => h) (Le.refl _) (q8.add (i * 1)) false 1 [.string x11] (by kernel_rfl) at10 rfl (by decide) ?_
      refine WD_takeL htb rfl (fun _ _ _ _ _ h => h) (Le.refl _) [8] (fuel := 0) (listed' := bts 9 511) (S' := ⟨[(24, (bB (!((x6 : ByteArray).toList == (x11 : ByteArray).toList)))), (23, (tS x11)), (22, (.v (.pointer (some (q8.add (i * 1)))))), (19, (tS x6)), (18, (.v (.pointer (some (q3.add (i * 1)))))), (21, (iN i)), (20, (sS (some q8) n_ys c_ys)), (17, (iN i)), (16, (sS (some q3) n_xs c_xs)), (5, (iN i)), (13, (iN i)), (12, (iN n_xs)), (0, (sS (some q3) n_xs c_xs)), (1, (sS (some q8) n_ys c_ys))], [], 0, [], []⟩) (FZ.nil _) (by kernel_rfl) rfl ?_
      refine WD_done (by decide +kernel) ?_
      refine WK_keep [24, 13, 12, 0, 1] [] rfl rfl ?_
      refine WQ_code ?_
      have hqx : x6 = x11 ∨ ¬ x6 = x11 := Classical.em _
      refine WC_cond (b := (!((x6 : ByteArray).toList == (x11 : ByteArray).toList))) rfl (fun hx => ?_) (fun hx => ?_)
      · rw [Bool.not_eq_true'] at hx
        replace hx := ne_of_beq_false hx
        have hne : ¬ x6 = x11 := fun e => hx (by rw [e])
        refine WC_seq (WC_region ?_)
        refine WL_execS htb 1 [4] [] ⟨[(4, (bB false))], [], 0, [], []⟩ (by kernel_rfl) ?_
        refine WL_nil ?_
        refine WQ_code ?_
        refine WC_ret ?_
        refine WQ_blk_ret ?_
        refine WQ_then_ret ?_
        refine WQ_then_ret ?_
        refine WQ_blk_ret ?_
        refine WQ_then_ret ?_
        exact WQ_done htb [(bB false)] _ (.inl rfl) rfl (by kernel_rfl) (fun ρ w hW => ⟨false, rfl, eq_caseG1 hx4 hx9 hne⟩)
      · rw [Bool.not_eq_false'] at hx
        replace hx := eq_of_beq hx
        refine WC_skip ?_
        refine WQ_blk ?_
        refine WQ_code ?_
        refine WC_region ?_
        refine WL_execS htb 2 [13, 12, 0, 1] [] ⟨[(13, (iI (IntKind.i64.wrap (((i : Nat) : Int) + 1)))), (12, (iN n_xs)), (0, (sS (some q3) n_xs c_xs)), (1, (sS (some q8) n_ys c_ys))], [], 0, [], []⟩ (by kernel_rfl) ?_
        refine WL_nil ?_
        refine WK_env [(13, (iN (i + 1))), (12, (iN n_xs)), (0, (sS (some q3) n_xs c_xs)), (1, (sS (some q8) n_ys c_ys))] (fun ρ => ⟨rfl, (congrArg (Value.int .i64) (by rw [wrap_id (by omega)]; first | rfl | omega)), ⟨rfl, rfl, ⟨rfl, rfl, ⟨rfl, rfl, trivial⟩⟩⟩⟩) ?_
        refine WK_keep [13, 12, 0, 1] [] rfl rfl ?_
        exact WQ_next ((i + 1)) (by show n_xs - (i + 1) < n_xs - i; omega) ⟨hc2, ⟨by omega, eq_caseG2 ht hx4 hx9 (bytes_eq hx)⟩⟩ (fun ρ a w h => h)
    · replace hc := of_decide_eq_false hc
      refine WC_exit ?_
      refine WQ_then_exit ?_
      refine WQ_then_exit ?_
      refine WQ_hit ?_
      refine WQ_code ?_
      refine WC_seq (WC_region ?_)
      refine WL_execS htb 1 [4] [] ⟨[(4, (bB true))], [], 0, [], []⟩ (by kernel_rfl) ?_
      refine WL_nil ?_
      refine WQ_code ?_
      refine WC_ret ?_
      exact WQ_done htb [(bB true)] _ (.inl rfl) rfl (by kernel_rfl) (fun ρ w hW => ⟨true, rfl, eq_caseG3 ht (by omega) (by omega)⟩)

theorem equalI_v {w : World} {G : Heap} (hG : Has w G) {xs : (List Int)} {A_xs : Option Addr} {n_xs : Nat} {c_xs : Nat} {ys : (List Int)} {A_ys : Option Addr} {n_ys : Nat} {c_ys : Nat} (h_xs : Sl (tInt .i64) G A_xs n_xs c_xs xs) (h_ys : Sl (tInt .i64) G A_ys n_ys c_ys ys) :
    Calls Try.prog 75 #[.slice A_xs n_xs c_xs, .slice A_ys n_ys c_ys] w (Ret w G fun v G' => v = .bool (decide (xs = ys))) :=
  (equalI_ok hG h_xs h_ys).mono fun e w' hE => Ret.imp (fun v G' h => by obtain ⟨b, rfl, hb⟩ := h; rw [hb]) hE
theorem equalS_v {w : World} {G : Heap} (hG : Has w G) {xs : (List ByteArray)} {A_xs : Option Addr} {n_xs : Nat} {c_xs : Nat} {ys : (List ByteArray)} {A_ys : Option Addr} {n_ys : Nat} {c_ys : Nat} (h_xs : Sl tStr G A_xs n_xs c_xs xs) (h_ys : Sl tStr G A_ys n_ys c_ys ys) :
    Calls Try.prog 59 #[.slice A_xs n_xs c_xs, .slice A_ys n_ys c_ys] w (Ret w G fun v G' => v = .bool (decide (xs = ys))) :=
  (equalS_ok hG h_xs h_ys).mono fun e w' hE => Ret.imp (fun v G' h => by obtain ⟨b, rfl, hb⟩ := h; rw [hb]) hE
theorem eqfun2_ok {w : World} {G : Heap} (hG : Has w G) {xs : (List (List Int))} {A_xs : Option Addr} {n_xs : Nat} {c_xs : Nat} {ys : (List (List Int))} {A_ys : Option Addr} {n_ys : Nat} {c_ys : Nat} (h_xs : Sl (tSlice (tInt .i64)) G A_xs n_xs c_xs xs) (h_ys : Sl (tSlice (tInt .i64)) G A_ys n_ys c_ys ys) :
    Calls Try.prog 74 #[.slice A_xs n_xs c_xs, .slice A_ys n_ys c_ys, .func (.func 75) #[] #[]] w (Ret w G fun v G' => v = .bool (decide (xs = ys))) := by
  have lh_xs := h_xs.len'
  have lh_ys := h_ys.len'
  refine enter [(sS A_xs n_xs c_xs), (sS A_ys n_ys c_ys), (.fn (.func 75) [])] 32 Try.func74 rfl rfl rfl rfl hG ?_
  refine WC_seq (WC_region ?_)
  refine WL_execS htb 1 [0, 1, 2] [] ⟨[(0, (sS A_xs n_xs c_xs)), (1, (sS A_ys n_ys c_ys)), (2, (.fn (.func 75) []))], [], 0, [], []⟩ (by kernel_rfl) ?_
  refine WL_nil ?_
  refine WQ_code ?_
  refine WC_seq ?_
  refine WC_seq (WC_region ?_)
  refine WL_execS htb 5 [14, 0, 1, 2] [] ⟨[(14, (bB ((((n_xs : Nat) : Int) : Int) != ((n_ys : Nat) : Int)))), (0, (sS A_xs n_xs c_xs)), (1, (sS A_ys n_ys c_ys)), (2, (.fn (.func 75) []))], [], 0, [], []⟩ (by kernel_rfl) ?_
  refine WL_nil ?_
  refine WQ_code ?_
  refine WC_cond (b := ((((n_xs : Nat) : Int) : Int) != ((n_ys : Nat) : Int))) rfl (fun hb => ?_) (fun hb => ?_)
  · replace hb := bne_iff_ne.1 hb
    refine WC_seq (WC_region ?_)
    refine WL_execS htb 1 [6] [] ⟨[(6, (bB false))], [], 0, [], []⟩ (by kernel_rfl) ?_
    refine WL_nil ?_
    refine WQ_code ?_
    refine WC_ret ?_
    refine WQ_then_ret ?_
    exact WQ_done htb [(bB false)] _ (.inl rfl) rfl (by kernel_rfl) (fun ρ w hW => congrArg Value.bool (ne_caseG (by omega)))
  · replace hb := (bne_eq_false_iff_eq.1) hb
    refine WC_skip ?_
    refine WQ_code ?_
    refine WC_seq ?_
    refine WC_seq (WC_region ?_)
    refine WL_execS htb 3 [17, 16, 15, 1, 2] [] ⟨[(17, (iI 0)), (16, (iN n_xs)), (15, (sS A_xs n_xs c_xs)), (1, (sS A_ys n_ys c_ys)), (2, (.fn (.func 75) []))], [], 0, [], []⟩ (by kernel_rfl) ?_
    refine WL_nil ?_
    refine WQ_code ?_
    refine WC_block ?_
    refine WK_keep [17, 16, 15, 1, 2] [] rfl rfl ?_
    refine WK_env [(17, (iN 0)), (16, (iN n_xs)), (15, (sS A_xs n_xs c_xs)), (1, (sS A_ys n_ys c_ys)), (2, (.fn (.func 75) []))] (fun ρ => ⟨rfl, rfl, ⟨rfl, rfl, ⟨rfl, rfl, ⟨rfl, rfl, ⟨rfl, rfl, trivial⟩⟩⟩⟩⟩) ?_
    refine WC_loop (ι := Nat) (fun i G1 => Le G G1 ∧ (i ≤ n_xs ∧ xs.take i = ys.take i)) (fun i => ⟨[(17, (iN i)), (16, (iN n_xs)), (15, (sS A_xs n_xs c_xs)), (1, (sS A_ys n_ys c_ys)), (2, (.fn (.func 75) []))], [], 0, [], []⟩) (fun i => n_xs - i) (0) ⟨Le.refl _, ⟨Nat.zero_le _, rfl⟩⟩ rfl ?_
    rintro i G1 ⟨hle, hF⟩
    show WC _ _ _ _ _ ⟨[(17, (iN i)), (16, (iN n_xs)), (15, (sS A_xs n_xs c_xs)), (1, (sS A_ys n_ys c_ys)), (2, (.fn (.func 75) []))], [], 0, [], []⟩ _
    replace h_xs := h_xs.mono hle
    replace h_ys := h_ys.mono hle
    have hc2 := hle
    obtain ⟨hi, ht⟩ := hF
    refine WC_seq (WC_region ?_)
    refine WL_execS htb 1 [18, 17, 16, 15, 1, 2] [] ⟨[(18, (bB (decide ((((i : Nat) : Int) : Int) < ((n_xs : Nat) : Int))))), (17, (iN i)), (16, (iN n_xs)), (15, (sS A_xs n_xs c_xs)), (1, (sS A_ys n_ys c_ys)), (2, (.fn (.func 75) []))], [], 0, [], []⟩ (by kernel_rfl) ?_
    refine WL_nil ?_
    refine WQ_code ?_
    refine WC_seq ?_
    refine WC_cond (b := (decide ((((i : Nat) : Int) : Int) < ((n_xs : Nat) : Int)))) rfl (fun hc => ?_) (fun hc => ?_)
    · replace hc := of_decide_eq_true hc
      refine WC_skip ?_
      refine WQ_code ?_
      refine WC_seq ?_
      refine WC_block ?_
      refine WC_seq (WC_region ?_)
      refine WL_execS htb 1 [19, 17, 16, 15, 1, 2] [] ⟨[(19, (iN i)), (17, (iN i)), (16, (iN n_xs)), (15, (sS A_xs n_xs c_xs)), (1, (sS A_ys n_ys c_ys)), (2, (.fn (.func 75) []))], [], 0, [], []⟩ (by kernel_rfl) ?_
      obtain ⟨q3, rfl⟩ := h_xs.ptr (by omega)
      obtain ⟨x6, _, hx4, hr7, at5⟩ := h_xs.get i (by omega)
      obtain ⟨A9, n10, c11, rfl, hs8⟩ := Sl.of hr7
      replace hs8 : Sl (tInt .i64) _ A9 n10 c11 x6 := hs8
      have lhs8 := hs8.len'
      replace at5 : At G1 (q3.add (i * 1)) [.slice A9 n10 c11] := at5
      refine WL_op (WOp_idx htb q3 n_xs ((i : Nat) : Int) 1 (by kernel_rfl) (by omega) (by omega) ?_)
      refine WL_op (WOp_ld htb (q3.add (i * 1)) false 1 [.slice A9 n10 c11] (by kernel_rfl) at5 rfl (by decide) ?_)
      refine WL_execS htb 2 [8, 7, 17, 16, 15, 1, 2] [] ⟨[(8, (sS A9 n10 c11)), (7, (iN i)), (17, (iN i)), (16, (iN n_xs)), (15, (sS (some q3) n_xs c_xs)), (1, (sS A_ys n_ys c_ys)), (2, (.fn (.func 75) []))], [], 0, [], []⟩ (by kernel_rfl) ?_
      refine WL_nil ?_
      refine WQ_code ?_
      refine WC_seq (WC_region ?_)
      refine WL_execS htb 2 [23, 22, 8, 17, 16, 15, 1, 2] [] ⟨[(23, (iN i)), (22, (sS A_ys n_ys c_ys)), (8, (sS A9 n10 c11)), (17, (iN i)), (16, (iN n_xs)), (15, (sS (some q3) n_xs c_xs)), (1, (sS A_ys n_ys c_ys)), (2, (.fn (.func 75) []))], [], 0, [], []⟩ (by kernel_rfl) ?_
      obtain ⟨q12, rfl⟩ := h_ys.ptr (by omega)
      obtain ⟨x15, _, hx13, hr16, at14⟩ := h_ys.get i (by omega)
      obtain ⟨A18, n19, c20, rfl, hs17⟩ := Sl.of hr16
      replace hs17 : Sl (tInt .i64) _ A18 n19 c20 x15 := hs17
      have lhs17 := hs17.len'
      replace at14 : At G1 (q12.add (i * 1)) [.slice A18 n19 c20] := at14
      refine WL_op (WOp_idx htb q12 n_ys ((i : Nat) : Int) 1 (by kernel_rfl) (by omega) (by omega) ?_)
      refine WL_op (WOp_ld htb (q12.add (i * 1)) false 1 [.slice A18 n19 c20] (by kernel_rfl) at14 rfl (by decide) ?_)
      refine WL_execS htb 1 [9, 8, 17, 16, 15, 1, 2] [] ⟨[(9, (sS A18 n19 c20)), (8, (sS A9 n10 c11)), (17, (iN i)), (16, (iN n_xs)), (15, (sS (some q3) n_xs c_xs)), (1, (sS (some q12) n_ys c_ys)), (2, (.fn (.func 75) []))], [], 0, [], []⟩ (by kernel_rfl) ?_
      refine WL_nil ?_
      refine WQ_code ?_
      refine WC_seq (WC_region ?_)
      refine WL_execS htb 3 [28, 27, 26, 17, 16, 15, 1, 2] [] ⟨[(28, (sS A18 n19 c20)), (27, (sS A9 n10 c11)), (26, (.fn (.func 75) [])), (17, (iN i)), (16, (iN n_xs)), (15, (sS (some q3) n_xs c_xs)), (1, (sS (some q12) n_ys c_ys)), (2, (.fn (.func 75) []))], [], 0, [], []⟩ (by kernel_rfl) ?_
      refine WL_op (WOp_call 75 [(sS A9 n10 c11), (sS A18 n19 c20)] (by kernel_rfl) (goes_of Try.func75 rfl rfl) (fun ρ w hW => equalI_v hW.has hs8 hs17) ?_)
      intro G701 v hle hΦ
      replace hc2 := Le.trans hc2 hle
      replace h_xs := h_xs.mono hle
      replace h_ys := h_ys.mono hle
      replace hs8 := hs8.mono hle
      replace hs17 := hs17.mono hle
      subst hΦ
      refine WL_execS htb 1 [30, 17, 16, 15, 1, 2] [] ⟨[(30, (bB (!(decide (x6 = x15))))), (17, (iN i)), (16, (iN n_xs)), (15, (sS (some q3) n_xs c_xs)), (1, (sS (some q12) n_ys c_ys)), (2, (.fn (.func 75) []))], [], 0, [], []⟩ (by kernel_rfl) ?_
      refine WL_nil ?_
      refine WQ_code ?_
      refine WC_cond (b := (!(decide (x6 = x15)))) rfl (fun hx => ?_) (fun hx => ?_)
      · rw [Bool.not_eq_true'] at hx
        replace hx := of_decide_eq_false hx
        refine WC_seq (WC_region ?_)
        refine WL_execS htb 1 [6] [] ⟨[(6, (bB false))], [], 0, [], []⟩ (by kernel_rfl) ?_
        refine WL_nil ?_
        refine WQ_code ?_
        refine WC_ret ?_
        refine WQ_blk_ret ?_
        refine WQ_then_ret ?_
        refine WQ_then_ret ?_
        refine WQ_blk_ret ?_
        refine WQ_then_ret ?_
        exact WQ_done htb [(bB false)] _ (.inl rfl) rfl (by kernel_rfl) (fun ρ w hW => congrArg Value.bool (eq_caseG1 hx4 hx13 hx))
      · rw [Bool.not_eq_false'] at hx
        replace hx := of_decide_eq_true hx
        refine WC_skip ?_
        refine WQ_blk ?_
        refine WQ_code ?_
        refine WC_region ?_
        refine WL_execS htb 2 [17, 16, 15, 1, 2] [] ⟨[(17, (iI (IntKind.i64.wrap (((i : Nat) : Int) + 1)))), (16, (iN n_xs)), (15, (sS (some q3) n_xs c_xs)), (1, (sS (some q12) n_ys c_ys)), (2, (.fn (.func 75) []))], [], 0, [], []⟩ (by kernel_rfl) ?_
        refine WL_nil ?_
        refine WK_env [(17, (iN (i + 1))), (16, (iN n_xs)), (15, (sS (some q3) n_xs c_xs)), (1, (sS (some q12) n_ys c_ys)), (2, (.fn (.func 75) []))] (fun ρ => ⟨rfl, (congrArg (Value.int .i64) (by rw [wrap_id (by omega)]; first | rfl | omega)), ⟨rfl, rfl, ⟨rfl, rfl, ⟨rfl, rfl, ⟨rfl, rfl, trivial⟩⟩⟩⟩⟩) ?_
        refine WK_keep [17, 16, 15, 1, 2] [] rfl rfl ?_
        exact WQ_next ((i + 1)) (by show n_xs - (i + 1) < n_xs - i; omega) ⟨hc2, ⟨by omega, eq_caseG2 ht hx4 hx13 hx⟩⟩ (fun ρ a w h => h)
    · replace hc := of_decide_eq_false hc
      refine WC_exit ?_
      refine WQ_then_exit ?_
      refine WQ_then_exit ?_
      refine WQ_hit ?_
      refine WQ_code ?_
      refine WC_seq (WC_region ?_)
      refine WL_execS htb 1 [6] [] ⟨[(6, (bB true))], [], 0, [], []⟩ (by kernel_rfl) ?_
      refine WL_nil ?_
      refine WQ_code ?_
      refine WC_ret ?_
      exact WQ_done htb [(bB true)] _ (.inl rfl) rfl (by kernel_rfl) (fun ρ w hW => congrArg Value.bool (eq_caseG3 ht (by omega) (by omega)))

theorem same73_ok {w : World} {G : Heap} (hG : Has w G) {xs : (List (List Int))} {A_xs : Option Addr} {n_xs : Nat} {c_xs : Nat} {ys : (List (List Int))} {A_ys : Option Addr} {n_ys : Nat} {c_ys : Nat} (h_xs : Sl (tSlice (tInt .i64)) G A_xs n_xs c_xs xs) (h_ys : Sl (tSlice (tInt .i64)) G A_ys n_ys c_ys ys) :
    Calls Try.prog 73 #[(.slice A_xs n_xs c_xs), (.slice A_ys n_ys c_ys)] w (Ret w G fun v G' => v = .bool (decide (xs = ys))) := by
  have lh_xs := h_xs.len'
  have lh_ys := h_ys.len'
  refine enter [(sS A_xs n_xs c_xs), (sS A_ys n_ys c_ys)] 8 Try.func73 rfl rfl rfl rfl hG ?_
  refine WC_seq (WC_region ?_)
  refine WL_execS htb 1 [0, 1] [] ⟨[(0, (sS A_xs n_xs c_xs)), (1, (sS A_ys n_ys c_ys))], [], 0, [], []⟩ (by kernel_rfl) ?_
  refine WL_nil ?_
  refine WQ_code ?_
  refine WC_seq (WC_region ?_)
  refine WL_execS htb 2 [6, 5] [] ⟨[(6, (sS A_ys n_ys c_ys)), (5, (sS A_xs n_xs c_xs))], [], 0, [], []⟩ (by kernel_rfl) ?_
  refine WL_op (WOp_call 74 [(sS A_xs n_xs c_xs), (sS A_ys n_ys c_ys), (.fn (.func 75) [])] (by kernel_rfl) (goes_of Try.func74 rfl rfl) (fun ρ w hW => eqfun2_ok hW.has h_xs h_ys) ?_)
  intro G701 v hle hΦ
  replace h_xs := h_xs.mono hle
  replace h_ys := h_ys.mono hle
  subst hΦ
  refine WL_execS htb 1 [4] [] ⟨[(4, (bB (decide (xs = ys))))], [], 0, [], []⟩ (by kernel_rfl) ?_
  refine WL_nil ?_
  refine WQ_code ?_
  refine WC_ret ?_
  exact WQ_done htb [(bB (decide (xs = ys)))] _ (.inl rfl) rfl (by kernel_rfl) (fun ρ w hW => rfl)

theorem eqfun3_ok {w : World} {G : Heap} (hG : Has w G) {xs : (List (List (List Int)))} {A_xs : Option Addr} {n_xs : Nat} {c_xs : Nat} {ys : (List (List (List Int)))} {A_ys : Option Addr} {n_ys : Nat} {c_ys : Nat} (h_xs : Sl (tSlice (tSlice (tInt .i64))) G A_xs n_xs c_xs xs) (h_ys : Sl (tSlice (tSlice (tInt .i64))) G A_ys n_ys c_ys ys) :
    Calls Try.prog 72 #[.slice A_xs n_xs c_xs, .slice A_ys n_ys c_ys, .func (.func 73) #[] #[]] w (Ret w G fun v G' => v = .bool (decide (xs = ys))) := by
  have lh_xs := h_xs.len'
  have lh_ys := h_ys.len'
  refine enter [(sS A_xs n_xs c_xs), (sS A_ys n_ys c_ys), (.fn (.func 73) [])] 32 Try.func72 rfl rfl rfl rfl hG ?_
  refine WC_seq (WC_region ?_)
  refine WL_execS htb 1 [0, 1, 2] [] ⟨[(0, (sS A_xs n_xs c_xs)), (1, (sS A_ys n_ys c_ys)), (2, (.fn (.func 73) []))], [], 0, [], []⟩ (by kernel_rfl) ?_
  refine WL_nil ?_
  refine WQ_code ?_
  refine WC_seq ?_
  refine WC_seq (WC_region ?_)
  refine WL_execS htb 5 [14, 0, 1, 2] [] ⟨[(14, (bB ((((n_xs : Nat) : Int) : Int) != ((n_ys : Nat) : Int)))), (0, (sS A_xs n_xs c_xs)), (1, (sS A_ys n_ys c_ys)), (2, (.fn (.func 73) []))], [], 0, [], []⟩ (by kernel_rfl) ?_
  refine WL_nil ?_
  refine WQ_code ?_
  refine WC_cond (b := ((((n_xs : Nat) : Int) : Int) != ((n_ys : Nat) : Int))) rfl (fun hb => ?_) (fun hb => ?_)
  · replace hb := bne_iff_ne.1 hb
    refine WC_seq (WC_region ?_)
    refine WL_execS htb 1 [6] [] ⟨[(6, (bB false))], [], 0, [], []⟩ (by kernel_rfl) ?_
    refine WL_nil ?_
    refine WQ_code ?_
    refine WC_ret ?_
    refine WQ_then_ret ?_
    exact WQ_done htb [(bB false)] _ (.inl rfl) rfl (by kernel_rfl) (fun ρ w hW => congrArg Value.bool (ne_caseG (by omega)))
  · replace hb := (bne_eq_false_iff_eq.1) hb
    refine WC_skip ?_
    refine WQ_code ?_
    refine WC_seq ?_
    refine WC_seq (WC_region ?_)
    refine WL_execS htb 3 [17, 16, 15, 1, 2] [] ⟨[(17, (iI 0)), (16, (iN n_xs)), (15, (sS A_xs n_xs c_xs)), (1, (sS A_ys n_ys c_ys)), (2, (.fn (.func 73) []))], [], 0, [], []⟩ (by kernel_rfl) ?_
    refine WL_nil ?_
    refine WQ_code ?_
    refine WC_block ?_
    refine WK_keep [17, 16, 15, 1, 2] [] rfl rfl ?_
    refine WK_env [(17, (iN 0)), (16, (iN n_xs)), (15, (sS A_xs n_xs c_xs)), (1, (sS A_ys n_ys c_ys)), (2, (.fn (.func 73) []))] (fun ρ => ⟨rfl, rfl, ⟨rfl, rfl, ⟨rfl, rfl, ⟨rfl, rfl, ⟨rfl, rfl, trivial⟩⟩⟩⟩⟩) ?_
    refine WC_loop (ι := Nat) (fun i G1 => Le G G1 ∧ (i ≤ n_xs ∧ xs.take i = ys.take i)) (fun i => ⟨[(17, (iN i)), (16, (iN n_xs)), (15, (sS A_xs n_xs c_xs)), (1, (sS A_ys n_ys c_ys)), (2, (.fn (.func 73) []))], [], 0, [], []⟩) (fun i => n_xs - i) (0) ⟨Le.refl _, ⟨Nat.zero_le _, rfl⟩⟩ rfl ?_
    rintro i G1 ⟨hle, hF⟩
    show WC _ _ _ _ _ ⟨[(17, (iN i)), (16, (iN n_xs)), (15, (sS A_xs n_xs c_xs)), (1, (sS A_ys n_ys c_ys)), (2, (.fn (.func 73) []))], [], 0, [], []⟩ _
    replace h_xs := h_xs.mono hle
    replace h_ys := h_ys.mono hle
    have hc2 := hle
    obtain ⟨hi, ht⟩ := hF
    refine WC_seq (WC_region ?_)
    refine WL_execS htb 1 [18, 17, 16, 15, 1, 2] [] ⟨[(18, (bB (decide ((((i : Nat) : Int) : Int) < ((n_xs : Nat) : Int))))), (17, (iN i)), (16, (iN n_xs)), (15, (sS A_xs n_xs c_xs)), (1, (sS A_ys n_ys c_ys)), (2, (.fn (.func 73) []))], [], 0, [], []⟩ (by kernel_rfl) ?_
    refine WL_nil ?_
    refine WQ_code ?_
    refine WC_seq ?_
    refine WC_cond (b := (decide ((((i : Nat) : Int) : Int) < ((n_xs : Nat) : Int)))) rfl (fun hc => ?_) (fun hc => ?_)
    · replace hc := of_decide_eq_true hc
      refine WC_skip ?_
      refine WQ_code ?_
      refine WC_seq ?_
      refine WC_block ?_
      refine WC_seq (WC_region ?_)
      refine WL_execS htb 1 [19, 17, 16, 15, 1, 2] [] ⟨[(19, (iN i)), (17, (iN i)), (16, (iN n_xs)), (15, (sS A_xs n_xs c_xs)), (1, (sS A_ys n_ys c_ys)), (2, (.fn (.func 73) []))], [], 0, [], []⟩ (by kernel_rfl) ?_
      obtain ⟨q3, rfl⟩ := h_xs.ptr (by omega)
      obtain ⟨x6, _, hx4, hr7, at5⟩ := h_xs.get i (by omega)
      obtain ⟨A9, n10, c11, rfl, hs8⟩ := Sl.of hr7
      replace hs8 : Sl (tSlice (tInt .i64)) _ A9 n10 c11 x6 := hs8
      have lhs8 := hs8.len'
      replace at5 : At G1 (q3.add (i * 1)) [.slice A9 n10 c11] := at5
      refine WL_op (WOp_idx htb q3 n_xs ((i : Nat) : Int) 1 (by kernel_rfl) (by omega) (by omega) ?_)
      refine WL_op (WOp_ld htb (q3.add (i * 1)) false 1 [.slice A9 n10 c11] (by kernel_rfl) at5 rfl (by decide) ?_)
      refine WL_execS htb 2 [8, 7, 17, 16, 15, 1, 2] [] ⟨[(8, (sS A9 n10 c11)), (7, (iN i)), (17, (iN i)), (16, (iN n_xs)), (15, (sS (some q3) n_xs c_xs)), (1, (sS A_ys n_ys c_ys)), (2, (.fn (.func 73) []))], [], 0, [], []⟩ (by kernel_rfl) ?_
      refine WL_nil ?_
      refine WQ_code ?_
      refine WC_seq (WC_region ?_)
      refine WL_execS htb 2 [23, 22, 8, 17, 16, 15, 1, 2] [] ⟨[(23, (iN i)), (22, (sS A_ys n_ys c_ys)), (8, (sS A9 n10 c11)), (17, (iN i)), (16, (iN n_xs)), (15, (sS (some q3) n_xs c_xs)), (1, (sS A_ys n_ys c_ys)), (2, (.fn (.func 73) []))], [], 0, [], []⟩ (by kernel_rfl) ?_
      obtain ⟨q12, rfl⟩ := h_ys.ptr (by omega)
      obtain ⟨x15, _, hx13, hr16, at14⟩ := h_ys.get i (by omega)
      obtain ⟨A18, n19, c20, rfl, hs17⟩ := Sl.of hr16
      replace hs17 : Sl (tSlice (tInt .i64)) _ A18 n19 c20 x15 := hs17
      have lhs17 := hs17.len'
      replace at14 : At G1 (q12.add (i * 1)) [.slice A18 n19 c20] := at14
      refine WL_op (WOp_idx htb q12 n_ys ((i : Nat) : Int) 1 (by kernel_rfl) (by omega) (by omega) ?_)
      refine WL_op (WOp_ld htb (q12.add (i * 1)) false 1 [.slice A18 n19 c20] (by kernel_rfl) at14 rfl (by decide) ?_)
      refine WL_execS htb 1 [9, 8, 17, 16, 15, 1, 2] [] ⟨[(9, (sS A18 n19 c20)), (8, (sS A9 n10 c11)), (17, (iN i)), (16, (iN n_xs)), (15, (sS (some q3) n_xs c_xs)), (1, (sS (some q12) n_ys c_ys)), (2, (.fn (.func 73) []))], [], 0, [], []⟩ (by kernel_rfl) ?_
      refine WL_nil ?_
      refine WQ_code ?_
      refine WC_seq (WC_region ?_)
      refine WL_execS htb 3 [28, 27, 26, 17, 16, 15, 1, 2] [] ⟨[(28, (sS A18 n19 c20)), (27, (sS A9 n10 c11)), (26, (.fn (.func 73) [])), (17, (iN i)), (16, (iN n_xs)), (15, (sS (some q3) n_xs c_xs)), (1, (sS (some q12) n_ys c_ys)), (2, (.fn (.func 73) []))], [], 0, [], []⟩ (by kernel_rfl) ?_
      refine WL_op (WOp_call 73 [(sS A9 n10 c11), (sS A18 n19 c20)] (by kernel_rfl) (goes_of Try.func73 rfl rfl) (fun ρ w hW => same73_ok hW.has hs8 hs17) ?_)
      intro G701 v hle hΦ
      replace hc2 := Le.trans hc2 hle
      replace h_xs := h_xs.mono hle
      replace h_ys := h_ys.mono hle
      replace hs8 := hs8.mono hle
      replace hs17 := hs17.mono hle
      subst hΦ
      refine WL_execS htb 1 [30, 17, 16, 15, 1, 2] [] ⟨[(30, (bB (!(decide (x6 = x15))))), (17, (iN i)), (16, (iN n_xs)), (15, (sS (some q3) n_xs c_xs)), (1, (sS (some q12) n_ys c_ys)), (2, (.fn (.func 73) []))], [], 0, [], []⟩ (by kernel_rfl) ?_
      refine WL_nil ?_
      refine WQ_code ?_
      refine WC_cond (b := (!(decide (x6 = x15)))) rfl (fun hx => ?_) (fun hx => ?_)
      · rw [Bool.not_eq_true'] at hx
        replace hx := of_decide_eq_false hx
        refine WC_seq (WC_region ?_)
        refine WL_execS htb 1 [6] [] ⟨[(6, (bB false))], [], 0, [], []⟩ (by kernel_rfl) ?_
        refine WL_nil ?_
        refine WQ_code ?_
        refine WC_ret ?_
        refine WQ_blk_ret ?_
        refine WQ_then_ret ?_
        refine WQ_then_ret ?_
        refine WQ_blk_ret ?_
        refine WQ_then_ret ?_
        exact WQ_done htb [(bB false)] _ (.inl rfl) rfl (by kernel_rfl) (fun ρ w hW => congrArg Value.bool (eq_caseG1 hx4 hx13 hx))
      · rw [Bool.not_eq_false'] at hx
        replace hx := of_decide_eq_true hx
        refine WC_skip ?_
        refine WQ_blk ?_
        refine WQ_code ?_
        refine WC_region ?_
        refine WL_execS htb 2 [17, 16, 15, 1, 2] [] ⟨[(17, (iI (IntKind.i64.wrap (((i : Nat) : Int) + 1)))), (16, (iN n_xs)), (15, (sS (some q3) n_xs c_xs)), (1, (sS (some q12) n_ys c_ys)), (2, (.fn (.func 73) []))], [], 0, [], []⟩ (by kernel_rfl) ?_
        refine WL_nil ?_
        refine WK_env [(17, (iN (i + 1))), (16, (iN n_xs)), (15, (sS (some q3) n_xs c_xs)), (1, (sS (some q12) n_ys c_ys)), (2, (.fn (.func 73) []))] (fun ρ => ⟨rfl, (congrArg (Value.int .i64) (by rw [wrap_id (by omega)]; first | rfl | omega)), ⟨rfl, rfl, ⟨rfl, rfl, ⟨rfl, rfl, ⟨rfl, rfl, trivial⟩⟩⟩⟩⟩) ?_
        refine WK_keep [17, 16, 15, 1, 2] [] rfl rfl ?_
        exact WQ_next ((i + 1)) (by show n_xs - (i + 1) < n_xs - i; omega) ⟨hc2, ⟨by omega, eq_caseG2 ht hx4 hx13 hx⟩⟩ (fun ρ a w h => h)
    · replace hc := of_decide_eq_false hc
      refine WC_exit ?_
      refine WQ_then_exit ?_
      refine WQ_then_exit ?_
      refine WQ_hit ?_
      refine WQ_code ?_
      refine WC_seq (WC_region ?_)
      refine WL_execS htb 1 [6] [] ⟨[(6, (bB true))], [], 0, [], []⟩ (by kernel_rfl) ?_
      refine WL_nil ?_
      refine WQ_code ?_
      refine WC_ret ?_
      exact WQ_done htb [(bB true)] _ (.inl rfl) rfl (by kernel_rfl) (fun ρ w hW => congrArg Value.bool (eq_caseG3 ht (by omega) (by omega)))

theorem eqfunS_ok {w : World} {G : Heap} (hG : Has w G) {xs : (List (List ByteArray))} {A_xs : Option Addr} {n_xs : Nat} {c_xs : Nat} {ys : (List (List ByteArray))} {A_ys : Option Addr} {n_ys : Nat} {c_ys : Nat} (h_xs : Sl (tSlice tStr) G A_xs n_xs c_xs xs) (h_ys : Sl (tSlice tStr) G A_ys n_ys c_ys ys) :
    Calls Try.prog 58 #[.slice A_xs n_xs c_xs, .slice A_ys n_ys c_ys, .func (.func 59) #[] #[]] w (Ret w G fun v G' => v = .bool (decide (xs = ys))) := by
  have lh_xs := h_xs.len'
  have lh_ys := h_ys.len'
  refine enter [(sS A_xs n_xs c_xs), (sS A_ys n_ys c_ys), (.fn (.func 59) [])] 32 Try.func58 rfl rfl rfl rfl hG ?_
  refine WC_seq (WC_region ?_)
  refine WL_execS htb 1 [0, 1, 2] [] ⟨[(0, (sS A_xs n_xs c_xs)), (1, (sS A_ys n_ys c_ys)), (2, (.fn (.func 59) []))], [], 0, [], []⟩ (by kernel_rfl) ?_
  refine WL_nil ?_
  refine WQ_code ?_
  refine WC_seq ?_
  refine WC_seq (WC_region ?_)
  refine WL_execS htb 5 [14, 0, 1, 2] [] ⟨[(14, (bB ((((n_xs : Nat) : Int) : Int) != ((n_ys : Nat) : Int)))), (0, (sS A_xs n_xs c_xs)), (1, (sS A_ys n_ys c_ys)), (2, (.fn (.func 59) []))], [], 0, [], []⟩ (by kernel_rfl) ?_
  refine WL_nil ?_
  refine WQ_code ?_
  refine WC_cond (b := ((((n_xs : Nat) : Int) : Int) != ((n_ys : Nat) : Int))) rfl (fun hb => ?_) (fun hb => ?_)
  · replace hb := bne_iff_ne.1 hb
    refine WC_seq (WC_region ?_)
    refine WL_execS htb 1 [6] [] ⟨[(6, (bB false))], [], 0, [], []⟩ (by kernel_rfl) ?_
    refine WL_nil ?_
    refine WQ_code ?_
    refine WC_ret ?_
    refine WQ_then_ret ?_
    exact WQ_done htb [(bB false)] _ (.inl rfl) rfl (by kernel_rfl) (fun ρ w hW => congrArg Value.bool (ne_caseG (by omega)))
  · replace hb := (bne_eq_false_iff_eq.1) hb
    refine WC_skip ?_
    refine WQ_code ?_
    refine WC_seq ?_
    refine WC_seq (WC_region ?_)
    refine WL_execS htb 3 [17, 16, 15, 1, 2] [] ⟨[(17, (iI 0)), (16, (iN n_xs)), (15, (sS A_xs n_xs c_xs)), (1, (sS A_ys n_ys c_ys)), (2, (.fn (.func 59) []))], [], 0, [], []⟩ (by kernel_rfl) ?_
    refine WL_nil ?_
    refine WQ_code ?_
    refine WC_block ?_
    refine WK_keep [17, 16, 15, 1, 2] [] rfl rfl ?_
    refine WK_env [(17, (iN 0)), (16, (iN n_xs)), (15, (sS A_xs n_xs c_xs)), (1, (sS A_ys n_ys c_ys)), (2, (.fn (.func 59) []))] (fun ρ => ⟨rfl, rfl, ⟨rfl, rfl, ⟨rfl, rfl, ⟨rfl, rfl, ⟨rfl, rfl, trivial⟩⟩⟩⟩⟩) ?_
    refine WC_loop (ι := Nat) (fun i G1 => Le G G1 ∧ (i ≤ n_xs ∧ xs.take i = ys.take i)) (fun i => ⟨[(17, (iN i)), (16, (iN n_xs)), (15, (sS A_xs n_xs c_xs)), (1, (sS A_ys n_ys c_ys)), (2, (.fn (.func 59) []))], [], 0, [], []⟩) (fun i => n_xs - i) (0) ⟨Le.refl _, ⟨Nat.zero_le _, rfl⟩⟩ rfl ?_
    rintro i G1 ⟨hle, hF⟩
    show WC _ _ _ _ _ ⟨[(17, (iN i)), (16, (iN n_xs)), (15, (sS A_xs n_xs c_xs)), (1, (sS A_ys n_ys c_ys)), (2, (.fn (.func 59) []))], [], 0, [], []⟩ _
    replace h_xs := h_xs.mono hle
    replace h_ys := h_ys.mono hle
    have hc2 := hle
    obtain ⟨hi, ht⟩ := hF
    refine WC_seq (WC_region ?_)
    refine WL_execS htb 1 [18, 17, 16, 15, 1, 2] [] ⟨[(18, (bB (decide ((((i : Nat) : Int) : Int) < ((n_xs : Nat) : Int))))), (17, (iN i)), (16, (iN n_xs)), (15, (sS A_xs n_xs c_xs)), (1, (sS A_ys n_ys c_ys)), (2, (.fn (.func 59) []))], [], 0, [], []⟩ (by kernel_rfl) ?_
    refine WL_nil ?_
    refine WQ_code ?_
    refine WC_seq ?_
    refine WC_cond (b := (decide ((((i : Nat) : Int) : Int) < ((n_xs : Nat) : Int)))) rfl (fun hc => ?_) (fun hc => ?_)
    · replace hc := of_decide_eq_true hc
      refine WC_skip ?_
      refine WQ_code ?_
      refine WC_seq ?_
      refine WC_block ?_
      refine WC_seq (WC_region ?_)
      refine WL_execS htb 1 [19, 17, 16, 15, 1, 2] [] ⟨[(19, (iN i)), (17, (iN i)), (16, (iN n_xs)), (15, (sS A_xs n_xs c_xs)), (1, (sS A_ys n_ys c_ys)), (2, (.fn (.func 59) []))], [], 0, [], []⟩ (by kernel_rfl) ?_
      obtain ⟨q3, rfl⟩ := h_xs.ptr (by omega)
      obtain ⟨x6, _, hx4, hr7, at5⟩ := h_xs.get i (by omega)
      obtain ⟨A9, n10, c11, rfl, hs8⟩ := Sl.of hr7
      replace hs8 : Sl tStr _ A9 n10 c11 x6 := hs8
      have lhs8 := hs8.len'
      replace at5 : At G1 (q3.add (i * 1)) [.slice A9 n10 c11] := at5
      refine WL_op (WOp_idx htb q3 n_xs ((i : Nat) : Int) 1 (by kernel_rfl) (by omega) (by omega) ?_)
      refine WL_op (WOp_ld htb (q3.add (i * 1)) false 1 [.slice A9 n10 c11] (by kernel_rfl) at5 rfl (by decide) ?_)
      refine WL_execS htb 2 [8, 7, 17, 16, 15, 1, 2] [] ⟨[(8, (sS A9 n10 c11)), (7, (iN i)), (17, (iN i)), (16, (iN n_xs)), (15, (sS (some q3) n_xs c_xs)), (1, (sS A_ys n_ys c_ys)), (2, (.fn (.func 59) []))], [], 0, [], []⟩ (by kernel_rfl) ?_
      refine WL_nil ?_
      refine WQ_code ?_
      refine WC_seq (WC_region ?_)
      refine WL_execS htb 2 [23, 22, 8, 17, 16, 15, 1, 2] [] ⟨[(23, (iN i)), (22, (sS A_ys n_ys c_ys)), (8, (sS A9 n10 c11)), (17, (iN i)), (16, (iN n_xs)), (15, (sS (some q3) n_xs c_xs)), (1, (sS A_ys n_ys c_ys)), (2, (.fn (.func 59) []))], [], 0, [], []⟩ (by kernel_rfl) ?_
      obtain ⟨q12, rfl⟩ := h_ys.ptr (by omega)
      obtain ⟨x15, _, hx13, hr16, at14⟩ := h_ys.get i (by omega)
      obtain ⟨A18, n19, c20, rfl, hs17⟩ := Sl.of hr16
      replace hs17 : Sl tStr _ A18 n19 c20 x15 := hs17
      have lhs17 := hs17.len'
      replace at14 : At G1 (q12.add (i * 1)) [.slice A18 n19 c20] := at14
      refine WL_op (WOp_idx htb q12 n_ys ((i : Nat) : Int) 1 (by kernel_rfl) (by omega) (by omega) ?_)
      refine WL_op (WOp_ld htb (q12.add (i * 1)) false 1 [.slice A18 n19 c20] (by kernel_rfl) at14 rfl (by decide) ?_)
      refine WL_execS htb 1 [9, 8, 17, 16, 15, 1, 2] [] ⟨[(9, (sS A18 n19 c20)), (8, (sS A9 n10 c11)), (17, (iN i)), (16, (iN n_xs)), (15, (sS (some q3) n_xs c_xs)), (1, (sS (some q12) n_ys c_ys)), (2, (.fn (.func 59) []))], [], 0, [], []⟩ (by kernel_rfl) ?_
      refine WL_nil ?_
      refine WQ_code ?_
      refine WC_seq (WC_region ?_)
      refine WL_execS htb 3 [28, 27, 26, 17, 16, 15, 1, 2] [] ⟨[(28, (sS A18 n19 c20)), (27, (sS A9 n10 c11)), (26, (.fn (.func 59) [])), (17, (iN i)), (16, (iN n_xs)), (15, (sS (some q3) n_xs c_xs)), (1, (sS (some q12) n_ys c_ys)), (2, (.fn (.func 59) []))], [], 0, [], []⟩ (by kernel_rfl) ?_
      refine WL_op (WOp_call 59 [(sS A9 n10 c11), (sS A18 n19 c20)] (by kernel_rfl) (goes_of Try.func59 rfl rfl) (fun ρ w hW => equalS_v hW.has hs8 hs17) ?_)
      intro G701 v hle hΦ
      replace hc2 := Le.trans hc2 hle
      replace h_xs := h_xs.mono hle
      replace h_ys := h_ys.mono hle
      replace hs8 := hs8.mono hle
      replace hs17 := hs17.mono hle
      subst hΦ
      refine WL_execS htb 1 [30, 17, 16, 15, 1, 2] [] ⟨[(30, (bB (!(decide (x6 = x15))))), (17, (iN i)), (16, (iN n_xs)), (15, (sS (some q3) n_xs c_xs)), (1, (sS (some q12) n_ys c_ys)), (2, (.fn (.func 59) []))], [], 0, [], []⟩ (by kernel_rfl) ?_
      refine WL_nil ?_
      refine WQ_code ?_
      refine WC_cond (b := (!(decide (x6 = x15)))) rfl (fun hx => ?_) (fun hx => ?_)
      · rw [Bool.not_eq_true'] at hx
        replace hx := of_decide_eq_false hx
        refine WC_seq (WC_region ?_)
        refine WL_execS htb 1 [6] [] ⟨[(6, (bB false))], [], 0, [], []⟩ (by kernel_rfl) ?_
        refine WL_nil ?_
        refine WQ_code ?_
        refine WC_ret ?_
        refine WQ_blk_ret ?_
        refine WQ_then_ret ?_
        refine WQ_then_ret ?_
        refine WQ_blk_ret ?_
        refine WQ_then_ret ?_
        exact WQ_done htb [(bB false)] _ (.inl rfl) rfl (by kernel_rfl) (fun ρ w hW => congrArg Value.bool (eq_caseG1 hx4 hx13 hx))
      · rw [Bool.not_eq_false'] at hx
        replace hx := of_decide_eq_true hx
        refine WC_skip ?_
        refine WQ_blk ?_
        refine WQ_code ?_
        refine WC_region ?_
        refine WL_execS htb 2 [17, 16, 15, 1, 2] [] ⟨[(17, (iI (IntKind.i64.wrap (((i : Nat) : Int) + 1)))), (16, (iN n_xs)), (15, (sS (some q3) n_xs c_xs)), (1, (sS (some q12) n_ys c_ys)), (2, (.fn (.func 59) []))], [], 0, [], []⟩ (by kernel_rfl) ?_
        refine WL_nil ?_
        refine WK_env [(17, (iN (i + 1))), (16, (iN n_xs)), (15, (sS (some q3) n_xs c_xs)), (1, (sS (some q12) n_ys c_ys)), (2, (.fn (.func 59) []))] (fun ρ => ⟨rfl, (congrArg (Value.int .i64) (by rw [wrap_id (by omega)]; first | rfl | omega)), ⟨rfl, rfl, ⟨rfl, rfl, ⟨rfl, rfl, ⟨rfl, rfl, trivial⟩⟩⟩⟩⟩) ?_
        refine WK_keep [17, 16, 15, 1, 2] [] rfl rfl ?_
        exact WQ_next ((i + 1)) (by show n_xs - (i + 1) < n_xs - i; omega) ⟨hc2, ⟨by omega, eq_caseG2 ht hx4 hx13 hx⟩⟩ (fun ρ a w h => h)
    · replace hc := of_decide_eq_false hc
      refine WC_exit ?_
      refine WQ_then_exit ?_
      refine WQ_then_exit ?_
      refine WQ_hit ?_
      refine WQ_code ?_
      refine WC_seq (WC_region ?_)
      refine WL_execS htb 1 [6] [] ⟨[(6, (bB true))], [], 0, [], []⟩ (by kernel_rfl) ?_
      refine WL_nil ?_
      refine WQ_code ?_
      refine WC_ret ?_
      exact WQ_done htb [(bB true)] _ (.inl rfl) rfl (by kernel_rfl) (fun ρ w hW => congrArg Value.bool (eq_caseG3 ht (by omega) (by omega)))

theorem sameRule_ok {w : World} {G : Heap} (hG : Has w G) {na : ByteArray} {aa : (List (List ByteArray))} {A_aa : Option Addr} {n_aa : Nat} {c_aa : Nat} {nb : ByteArray} {ab : (List (List ByteArray))} {A_ab : Option Addr} {n_ab : Nat} {c_ab : Nat} (h_na : na.size ≤ big) (h_aa : Sl (tSlice tStr) G A_aa n_aa c_aa aa) (h_nb : nb.size ≤ big) (h_ab : Sl (tSlice tStr) G A_ab n_ab c_ab ab) :
    Calls Try.prog 57 #[(.agg #[.string na, .slice A_aa n_aa c_aa]), (.agg #[.string nb, .slice A_ab n_ab c_ab])] w (Ret w G fun v G' => v = .bool (decide ((na, aa) = (nb, ab)))) := by
  have lh_aa := h_aa.len'
  have lh_ab := h_ab.len'
  refine enter [(.agg [(tS na), (sS A_aa n_aa c_aa)]), (.agg [(tS nb), (sS A_ab n_ab c_ab)])] 17 Try.func57 rfl rfl rfl rfl hG ?_
  refine WC_seq (WC_region ?_)
  refine WL_execS htb 3 [3, 2] [1, 0] ⟨[(3, (.p 1 0)), (2, (.p 0 0))], [(1, (.cells 34 [(tS nb), (sS A_ab n_ab c_ab)])), (0, (.cells 34 [(tS na), (sS A_aa n_aa c_aa)]))], 2, [], []⟩ (by kernel_rfl) ?_
  refine WL_nil ?_
  refine WQ_code ?_
  refine WC_seq (WC_region ?_)
  refine WL_execS htb 6 [10, 3, 2] [1, 0] ⟨[(10, (bB ((na : ByteArray).toList == (nb : ByteArray).toList))), (3, (.p 1 0)), (2, (.p 0 0))], [(1, (.cells 34 [(tS nb), (sS A_ab n_ab c_ab)])), (0, (.cells 34 [(tS na), (sS A_aa n_aa c_aa)]))], 2, [], []⟩ (by kernel_rfl) ?_
  refine WK_split 10 ((na : ByteArray).toList == (nb : ByteArray).toList) rfl (fun hd => ?_) (fun hd => ?_)
  · replace hd := eq_of_beq hd
    refine WK_keep [10, 3, 2] [1, 0] rfl rfl ?_
    refine WL_execS htb 4 [14, 12, 10] [] ⟨[(14, (sS A_ab n_ab c_ab)), (12, (sS A_aa n_aa c_aa)), (10, (bB true))], [], 2, [], []⟩ (by kernel_rfl) ?_
    refine WL_op (WOp_call 58 [(sS A_aa n_aa c_aa), (sS A_ab n_ab c_ab), (.fn (.func 59) [])] (by kernel_rfl) (goes_of Try.func58 rfl rfl) (fun ρ w hW => eqfunS_ok hW.has h_aa h_ab) ?_)
    intro G701 v hle hΦ
    replace h_aa := h_aa.mono hle
    replace h_ab := h_ab.mono hle
    subst hΦ
    refine WL_execS htb 2 [4] [] ⟨[(4, (bB (decide (aa = ab))))], [], 2, [], []⟩ (by kernel_rfl) ?_
    refine WL_nil ?_
    refine WQ_code ?_
    refine WC_ret ?_
    exact WQ_done htb [(bB (decide (aa = ab)))] _ (.inl rfl) rfl (by kernel_rfl) (fun ρ w hW => congrArg Value.bool (by rw [show na = nb from bytes_eq (by simpa using hd)]; simp))
  · replace hd := ne_of_beq_false hd
    refine WK_keep [10, 3, 2] [1, 0] rfl rfl ?_
    refine WL_execS htb 7 [4] [] ⟨[(4, (bB false))], [], 2, [], []⟩ (by kernel_rfl) ?_
    refine WL_nil ?_
    refine WQ_code ?_
    refine WC_ret ?_
    exact WQ_done htb [(bB false)] _ (.inl rfl) rfl (by kernel_rfl) (fun ρ w hW => congrArg Value.bool (decide_eq_false (fun e => by (injection e with e1 e2; subst e1; simp at hd))).symm)

theorem eqfunR_ok {w : World} {G : Heap} (hG : Has w G) {xs : (List (ByteArray × (List (List ByteArray))))} {A_xs : Option Addr} {n_xs : Nat} {c_xs : Nat} {ys : (List (ByteArray × (List (List ByteArray))))} {A_ys : Option Addr} {n_ys : Nat} {c_ys : Nat} (h_xs : Sl (tPair tStr (tSlice (tSlice tStr))) G A_xs n_xs c_xs xs) (h_ys : Sl (tPair tStr (tSlice (tSlice tStr))) G A_ys n_ys c_ys ys) :
    Calls Try.prog 56 #[.slice A_xs n_xs c_xs, .slice A_ys n_ys c_ys, .func (.func 57) #[] #[]] w (Ret w G fun v G' => v = .bool (decide (xs = ys))) := by
  have lh_xs := h_xs.len'
  have lh_ys := h_ys.len'
  refine enter [(sS A_xs n_xs c_xs), (sS A_ys n_ys c_ys), (.fn (.func 57) [])] 32 Try.func56 rfl rfl rfl rfl hG ?_
  refine WC_seq (WC_region ?_)
  refine WL_execS htb 1 [0, 1, 2] [] ⟨[(0, (sS A_xs n_xs c_xs)), (1, (sS A_ys n_ys c_ys)), (2, (.fn (.func 57) []))], [], 0, [], []⟩ (by kernel_rfl) ?_
  refine WL_nil ?_
  refine WQ_code ?_
  refine WC_seq ?_
  refine WC_seq (WC_region ?_)
  refine WL_execS htb 5 [14, 0, 1, 2] [] ⟨[(14, (bB ((((n_xs : Nat) : Int) : Int) != ((n_ys : Nat) : Int)))), (0, (sS A_xs n_xs c_xs)), (1, (sS A_ys n_ys c_ys)), (2, (.fn (.func 57) []))], [], 0, [], []⟩ (by kernel_rfl) ?_
  refine WL_nil ?_
  refine WQ_code ?_
  refine WC_cond (b := ((((n_xs : Nat) : Int) : Int) != ((n_ys : Nat) : Int))) rfl (fun hb => ?_) (fun hb => ?_)
  · replace hb := bne_iff_ne.1 hb
    refine WC_seq (WC_region ?_)
    refine WL_execS htb 1 [6] [] ⟨[(6, (bB false))], [], 0, [], []⟩ (by kernel_rfl) ?_
    refine WL_nil ?_
    refine WQ_code ?_
    refine WC_ret ?_
    refine WQ_then_ret ?_
    exact WQ_done htb [(bB false)] _ (.inl rfl) rfl (by kernel_rfl) (fun ρ w hW => congrArg Value.bool (ne_caseG (by omega)))
  · replace hb := (bne_eq_false_iff_eq.1) hb
    refine WC_skip ?_
    refine WQ_code ?_
    refine WC_seq ?_
    refine WC_seq (WC_region ?_)
    refine WL_execS htb 3 [17, 16, 15, 1, 2] [] ⟨[(17, (iI 0)), (16, (iN n_xs)), (15, (sS A_xs n_xs c_xs)), (1, (sS A_ys n_ys c_ys)), (2, (.fn (.func 57) []))], [], 0, [], []⟩ (by kernel_rfl) ?_
    refine WL_nil ?_
    refine WQ_code ?_
    refine WC_block ?_
    refine WK_keep [17, 16, 15, 1, 2] [] rfl rfl ?_
    refine WK_env [(17, (iN 0)), (16, (iN n_xs)), (15, (sS A_xs n_xs c_xs)), (1, (sS A_ys n_ys c_ys)), (2, (.fn (.func 57) []))] (fun ρ => ⟨rfl, rfl, ⟨rfl, rfl, ⟨rfl, rfl, ⟨rfl, rfl, ⟨rfl, rfl, trivial⟩⟩⟩⟩⟩) ?_
    refine WC_loop (ι := Nat) (fun i G1 => Le G G1 ∧ (i ≤ n_xs ∧ xs.take i = ys.take i)) (fun i => ⟨[(17, (iN i)), (16, (iN n_xs)), (15, (sS A_xs n_xs c_xs)), (1, (sS A_ys n_ys c_ys)), (2, (.fn (.func 57) []))], [], 0, [], []⟩) (fun i => n_xs - i) (0) ⟨Le.refl _, ⟨Nat.zero_le _, rfl⟩⟩ rfl ?_
    rintro i G1 ⟨hle, hF⟩
    show WC _ _ _ _ _ ⟨[(17, (iN i)), (16, (iN n_xs)), (15, (sS A_xs n_xs c_xs)), (1, (sS A_ys n_ys c_ys)), (2, (.fn (.func 57) []))], [], 0, [], []⟩ _
    replace h_xs := h_xs.mono hle
    replace h_ys := h_ys.mono hle
    have hc2 := hle
    obtain ⟨hi, ht⟩ := hF
    refine WC_seq (WC_region ?_)
    refine WL_execS htb 1 [18, 17, 16, 15, 1, 2] [] ⟨[(18, (bB (decide ((((i : Nat) : Int) : Int) < ((n_xs : Nat) : Int))))), (17, (iN i)), (16, (iN n_xs)), (15, (sS A_xs n_xs c_xs)), (1, (sS A_ys n_ys c_ys)), (2, (.fn (.func 57) []))], [], 0, [], []⟩ (by kernel_rfl) ?_
    refine WL_nil ?_
    refine WQ_code ?_
    refine WC_seq ?_
    refine WC_cond (b := (decide ((((i : Nat) : Int) : Int) < ((n_xs : Nat) : Int)))) rfl (fun hc => ?_) (fun hc => ?_)
    · replace hc := of_decide_eq_true hc
      refine WC_skip ?_
      refine WQ_code ?_
      refine WC_seq ?_
      refine WC_block ?_
      refine WC_seq (WC_region ?_)
      refine WL_execS htb 1 [19, 17, 16, 15, 1, 2] [] ⟨[(19, (iN i)), (17, (iN i)), (16, (iN n_xs)), (15, (sS A_xs n_xs c_xs)), (1, (sS A_ys n_ys c_ys)), (2, (.fn (.func 57) []))], [], 0, [], []⟩ (by kernel_rfl) ?_
      obtain ⟨q3, rfl⟩ := h_xs.ptr (by omega)
      obtain ⟨⟨x6, x8⟩, _, hx4, ⟨_, _, rfl, ⟨rfl, hn7⟩, hr9⟩, at5⟩ := h_xs.get i (by omega)
      obtain ⟨A11, n12, c13, rfl, hs10⟩ := Sl.of hr9
      replace hs10 : Sl (tSlice tStr) _ A11 n12 c13 x8 := hs10
      have lhs10 := hs10.len'
      replace at5 : At G1 (q3.add (i * 2)) [.string x6, .slice A11 n12 c13] := at5
      refine WL_op (WOp_idx htb q3 n_xs ((i : Nat) : Int) 2 (by kernel_rfl) (by omega) (by omega) ?_)
      refine WL_op (WOp_ld htb (q3.add (i * 2)) true 2 [.string x6, .slice A11 n12 c13] (by kernel_rfl) at5 rfl (by decide) ?_)
      refine WL_execS htb 3 [7, 8, 17, 16, 15, 1, 2] [0] ⟨[(7, (iN i)), (8, (.p 0 0)), (17, (iN i)), (16, (iN n_xs)), (15, (sS (some q3) n_xs c_xs)), (1, (sS A_ys n_ys c_ys)), (2, (.fn (.func 57) []))], [(0, (.cells 34 [(tS x6), (sS A11 n12 c13)]))], 1, [], []⟩ (by kernel_rfl) ?_
      refine WL_nil ?_
      refine WQ_code ?_
      refine WC_seq (WC_region ?_)
      refine WL_execS htb 2 [23, 22, 8, 17, 16, 15, 1, 2] [0] ⟨[(23, (iN i)), (22, (sS A_ys n_ys c_ys)), (8, (.p 0 0)), (17, (iN i)), (16, (iN n_xs)), (15, (sS (some q3) n_xs c_xs)), (1, (sS A_ys n_ys c_ys)), (2, (.fn (.func 57) []))], [(0, (.cells 34 [(tS x6), (sS A11 n12 c13)]))], 1, [], []⟩ (by kernel_rfl) ?_
      obtain ⟨q14, rfl⟩ := h_ys.ptr (by omega)
      obtain ⟨⟨x17, x19⟩, _, hx15, ⟨_, _, rfl, ⟨rfl, hn18⟩, hr20⟩, at16⟩ := h_ys.get i (by omega)
      obtain ⟨A22, n23, c24, rfl, hs21⟩ := Sl.of hr20
      replace hs21 : Sl (tSlice tStr) _ A22 n23 c24 x19 := hs21
      have lhs21 := hs21.len'
      replace at16 : At G1 (q14.add (i * 2)) [.string x17, .slice A22 n23 c24] := at16
      refine WL_op (WOp_idx htb q14 n_ys ((i : Nat) : Int) 2 (by kernel_rfl) (by omega) (by omega) ?_)
      refine WL_op (WOp_ld htb (q14.add (i * 2)) true 2 [.string x17, .slice A22 n23 c24] (by kernel_rfl) at16 rfl (by decide) ?_)
      refine WL_execS htb 2 [9, 8, 17, 16, 15, 1, 2] [1, 0] ⟨[(9, (.p 1 0)), (8, (.p 0 0)), (17, (iN i)), (16, (iN n_xs)), (15, (sS (some q3) n_xs c_xs)), (1, (sS (some q14) n_ys c_ys)), (2, (.fn (.func 57) []))], [(1, (.cells 34 [(tS x17), (sS A22 n23 c24)])), (0, (.cells 34 [(tS x6), (sS A11 n12 c13)]))], 2, [], []⟩ (by kernel_rfl) ?_
      refine WL_nil ?_
      refine WQ_code ?_
      refine WC_seq (WC_region ?_)
      refine WL_execS htb 3 [28, 27, 26, 17, 16, 15, 1, 2] [] ⟨[(28, (.agg [(tS x17), (sS A22 n23 c24)])), (27, (.agg [(tS x6), (sS A11 n12 c13)])), (26, (.fn (.func 57) [])), (17, (iN i)), (16, (iN n_xs)), (15, (sS (some q3) n_xs c_xs)), (1, (sS (some q14) n_ys c_ys)), (2, (.fn (.func 57) []))], [], 2, [], []⟩ (by kernel_rfl) ?_
      refine WL_op (WOp_call 57 [(.agg [(tS x6), (sS A11 n12 c13)]), (.agg [(tS x17), (sS A22 n23 c24)])] (by kernel_rfl) (goes_of Try.func57 rfl rfl) (fun ρ w hW => sameRule_ok hW.has hn7 hs10 hn18 hs21) ?_)
      intro G701 v hle hΦ
      replace hc2 := Le.trans hc2 hle
      replace h_xs := h_xs.mono hle
      replace h_ys := h_ys.mono hle
      replace hs10 := hs10.mono hle
      replace hs21 := hs21.mono hle
      subst hΦ
      refine WL_execS htb 1 [30, 17, 16, 15, 1, 2] [] ⟨[(30, (bB (!(decide ((x6, x8) = (x17, x19)))))), (17, (iN i)), (16, (iN n_xs)), (15, (sS (some q3) n_xs c_xs)), (1, (sS (some q14) n_ys c_ys)), (2, (.fn (.func 57) []))], [], 2, [], []⟩ (by kernel_rfl) ?_
      refine WL_nil ?_
      refine WQ_code ?_
      refine WC_cond (b := (!(decide ((x6, x8) = (x17, x19))))) rfl (fun hx => ?_) (fun hx => ?_)
      · rw [Bool.not_eq_true'] at hx
        replace hx := of_decide_eq_false hx
        refine WC_seq (WC_region ?_)
        refine WL_execS htb 1 [6] [] ⟨[(6, (bB false))], [], 2, [], []⟩ (by kernel_rfl) ?_
        refine WL_nil ?_
        refine WQ_code ?_
        refine WC_ret ?_
        refine WQ_blk_ret ?_
        refine WQ_then_ret ?_
        refine WQ_then_ret ?_
        refine WQ_blk_ret ?_
        refine WQ_then_ret ?_
        exact WQ_done htb [(bB false)] _ (.inl rfl) rfl (by kernel_rfl) (fun ρ w hW => congrArg Value.bool (eq_caseG1 hx4 hx15 hx))
      · rw [Bool.not_eq_false'] at hx
        replace hx := of_decide_eq_true hx
        refine WC_skip ?_
        refine WQ_blk ?_
        refine WQ_code ?_
        refine WC_region ?_
        refine WL_execS htb 2 [17, 16, 15, 1, 2] [] ⟨[(17, (iI (IntKind.i64.wrap (((i : Nat) : Int) + 1)))), (16, (iN n_xs)), (15, (sS (some q3) n_xs c_xs)), (1, (sS (some q14) n_ys c_ys)), (2, (.fn (.func 57) []))], [], 2, [], []⟩ (by kernel_rfl) ?_
        refine WL_nil ?_
        refine WK_env [(17, (iN (i + 1))), (16, (iN n_xs)), (15, (sS (some q3) n_xs c_xs)), (1, (sS (some q14) n_ys c_ys)), (2, (.fn (.func 57) []))] (fun ρ => ⟨rfl, (congrArg (Value.int .i64) (by rw [wrap_id (by omega)]; first | rfl | omega)), ⟨rfl, rfl, ⟨rfl, rfl, ⟨rfl, rfl, ⟨rfl, rfl, trivial⟩⟩⟩⟩⟩) ?_
        refine WK_keep [17, 16, 15, 1, 2] [] rfl rfl ?_
        exact WQ_next ((i + 1)) (by show n_xs - (i + 1) < n_xs - i; omega) ⟨hc2, ⟨by omega, eq_caseG2 ht hx4 hx15 hx⟩⟩ (fun ρ a w h => h)
    · replace hc := of_decide_eq_false hc
      refine WC_exit ?_
      refine WQ_then_exit ?_
      refine WQ_then_exit ?_
      refine WQ_hit ?_
      refine WQ_code ?_
      refine WC_seq (WC_region ?_)
      refine WL_execS htb 1 [6] [] ⟨[(6, (bB true))], [], 0, [], []⟩ (by kernel_rfl) ?_
      refine WL_nil ?_
      refine WQ_code ?_
      refine WC_ret ?_
      exact WQ_done htb [(bB true)] _ (.inl rfl) rfl (by kernel_rfl) (fun ρ w hW => congrArg Value.bool (eq_caseG3 ht (by omega) (by omega)))

theorem sameG_ok {w : World} {G : Heap} (hG : Has w G) {xs : (List (ByteArray × (List (List ByteArray))))} {A_xs : Option Addr} {n_xs : Nat} {c_xs : Nat} {ys : (List (ByteArray × (List (List ByteArray))))} {A_ys : Option Addr} {n_ys : Nat} {c_ys : Nat} (h_xs : Sl (tPair tStr (tSlice (tSlice tStr))) G A_xs n_xs c_xs xs) (h_ys : Sl (tPair tStr (tSlice (tSlice tStr))) G A_ys n_ys c_ys ys) :
    Calls Try.prog 27 #[(.agg #[.slice A_xs n_xs c_xs]), (.agg #[.slice A_ys n_ys c_ys])] w (Ret w G fun v G' => v = .bool (decide ((xs) = (ys)))) := by
  have lh_xs := h_xs.len'
  have lh_ys := h_ys.len'
  refine enter [(.agg [(sS A_xs n_xs c_xs)]), (.agg [(sS A_ys n_ys c_ys)])] 10 Try.func27 rfl rfl rfl rfl hG ?_
  refine WC_seq (WC_region ?_)
  refine WL_execS htb 3 [3, 2] [1, 0] ⟨[(3, (.p 1 0)), (2, (.p 0 0))], [(1, (.cells 24 [(sS A_ys n_ys c_ys)])), (0, (.cells 24 [(sS A_xs n_xs c_xs)]))], 2, [], []⟩ (by kernel_rfl) ?_
  refine WL_nil ?_
  refine WQ_code ?_
  refine WC_seq (WC_region ?_)
  refine WL_execS htb 4 [8, 6] [] ⟨[(8, (sS A_ys n_ys c_ys)), (6, (sS A_xs n_xs c_xs))], [], 2, [], []⟩ (by kernel_rfl) ?_
  refine WL_op (WOp_call 56 [(sS A_xs n_xs c_xs), (sS A_ys n_ys c_ys), (.fn (.func 57) [])] (by kernel_rfl) (goes_of Try.func56 rfl rfl) (fun ρ w hW => eqfunR_ok hW.has h_xs h_ys) ?_)
  intro G701 v hle hΦ
  replace h_xs := h_xs.mono hle
  replace h_ys := h_ys.mono hle
  subst hΦ
  refine WL_execS htb 1 [4] [] ⟨[(4, (bB (decide (xs = ys))))], [], 2, [], []⟩ (by kernel_rfl) ?_
  refine WL_nil ?_
  refine WQ_code ?_
  refine WC_ret ?_
  exact WQ_done htb [(bB (decide (xs = ys)))] _ (.inl rfl) rfl (by kernel_rfl) (fun ρ w hW => rfl)

end Go.Proofs.Ytfemkbockhpmcaa.Sym
