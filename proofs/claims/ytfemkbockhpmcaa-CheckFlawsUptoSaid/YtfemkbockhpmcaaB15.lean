/- Walks of functions that the laws of this seat reach, printed by a program of this session's. -/
import Derived.Test.YtfemkbockhpmcaaB14
set_option linter.unusedSimpArgs false
set_option linter.unusedVariables false
set_option maxHeartbeats 4000000
namespace Go.Proofs.Ytfemkbockhpmcaa.Sym
open Go Go.Proofs Go.RowKit

theorem Ret.imp {w : World} {G : Heap} {Φ Ψ : Value → Heap → Prop} (h : ∀ v G', Φ v G' → Ψ v G') {e : Ending} {w' : World} (hE : Ret w G Φ e w') : Ret w G Ψ e w' := by
  obtain ⟨v, G', h1, h2, h3, h4, h5, h6⟩ := hE
  first | exact ⟨v, G', h1, h2, h3, h4, h5, h _ _ h6⟩ | skip
theorem bytes_eq {x y : ByteArray} (h : x.toList = y.toList) : x = y := by
  rw [ByteArray.toList_eq, ByteArray.toList_eq] at h
  cases x; cases y; simp at h; simpa using h
theorem equalI_ok {w : World} {G : Heap} (hG : Has w G) {xs : (List Int)} {A_xs : Option Addr} {n_xs : Nat} {c_xs : Nat} {ys : (List Int)} {A_ys : Option Addr} {n_ys : Nat} {c_ys : Nat} (h_xs : Sl (tInt .i64) G A_xs n_xs c_xs xs) (h_ys : Sl (tInt .i64) G A_ys n_ys c_ys ys) :
    Calls Try.prog 75 #[(.slice A_xs n_xs c_xs), (.slice A_ys n_ys c_ys)] w (Ret w G fun v G' => ∃ (b : Bool), v = .bool b ∧ (b = decide (xs = ys))) := by
 have lh_xs := h_xs.len'
 have lh_ys := h_ys.len'
 refine enter [(sS A_xs n_xs c_xs), (sS A_ys n_ys c_ys)] 26 Try.func75 rfl rfl rfl rfl hG ?_
 refine WC_seq (WC_region ?_)
 refine WL_execS htb 1 [0, 1] [] ⟨[(0, (sS A_xs n_xs c_xs)), (1, (sS A_ys n_ys c_ys))], [], 0, [], []⟩ (by kernel_rfl) ?_
 refine WL_nil ?_
 refine WQ_code ?_
 refine WC_seq ?_
 refine WC_seq (WC_region ?_)
 refine WL_execS htb 5 [10, 0, 1] [] ⟨[(10, (bB ((((n_xs : Nat) : Int) : Int) != ((n_ys : Nat) : Int)))), (0, (sS A_xs n_xs c_xs)), (1, (sS A_ys n_ys c_ys))], [], 0, [], []⟩ (by kernel_rfl) ?_
 refine WL_nil ?_
 refine WQ_code ?_
 refine WC_cond (b := ((((n_xs : Nat) : Int) : Int) != ((n_ys : Nat) : Int))) rfl (fun hb => ?_) (fun hb => ?_)
 ·
  replace hb := bne_iff_ne.1 hb
  refine WC_seq (WC_region ?_)
  refine WL_execS htb 1 [4] [] ⟨[(4, (bB false))], [], 0, [], []⟩ (by kernel_rfl) ?_
  refine WL_nil ?_
  refine WQ_code ?_
  refine WC_ret ?_
  refine WQ_then_ret ?_
  exact WQ_done htb [(bB false)] _ (.inl rfl) rfl (by kernel_rfl) (fun ρ w hW => ⟨false, rfl, ne_caseG (by omega)⟩)
 ·
  replace hb := (bne_eq_false_iff_eq.1) hb
  refine WC_skip ?_
  refine WQ_code ?_
  refine WC_seq ?_
  refine WC_seq (WC_region ?_)
  refine WL_execS htb 3 [13, 12, 0, 1] [] ⟨[(13, (iI 0)), (12, (iN n_xs)), (0, (sS A_xs n_xs c_xs)), (1, (sS A_ys n_ys c_ys))], [], 0, [], []⟩ (by kernel_rfl) ?_
  refine WL_nil ?_
  refine WQ_code ?_
  refine WC_block ?_
  refine WK_keep [13, 12, 0, 1] [] rfl rfl ?_
  refine WK_env [(13, (iN 0)), (12, (iN n_xs)), (0, (sS A_xs n_xs c_xs)), (1, (sS A_ys n_ys c_ys))] (fun ρ => ⟨rfl, rfl, ⟨rfl, rfl, ⟨rfl, rfl, ⟨rfl, rfl, trivial⟩⟩⟩⟩) ?_
  refine WC_loop (ι := Nat) (fun i G1 => Le G G1 ∧ (i ≤ n_xs ∧ xs.take i = ys.take i)) (fun i => ⟨[(13, (iN i)), (12, (iN n_xs)), (0, (sS A_xs n_xs c_xs)), (1, (sS A_ys n_ys c_ys))], [], 0, [], []⟩) (fun i => n_xs - i) (0) ⟨Le.refl _, ⟨Nat.zero_le _, rfl⟩⟩ rfl ?_
  rintro i G1 ⟨hle, hF⟩
  show WC _ _ _ _ _ ⟨[(13, (iN i)), (12, (iN n_xs)), (0, (sS A_xs n_xs c_xs)), (1, (sS A_ys n_ys c_ys))], [], 0, [], []⟩ _
  replace h_xs := h_xs.mono hle
  replace h_ys := h_ys.mono hle
  have hc2 := hle
  obtain ⟨hi, ht⟩ := hF
  refine WC_seq (WC_region ?_)
  refine WL_execS htb 1 [14, 13, 12, 0, 1] [] ⟨[(14, (bB (decide ((((i : Nat) : Int) : Int) < ((n_xs : Nat) : Int))))), (13, (iN i)), (12, (iN n_xs)), (0, (sS A_xs n_xs c_xs)), (1, (sS A_ys n_ys c_ys))], [], 0, [], []⟩ (by kernel_rfl) ?_
  refine WL_nil ?_
  refine WQ_code ?_
  refine WC_seq ?_
  refine WC_cond (b := (decide ((((i : Nat) : Int) : Int) < ((n_xs : Nat) : Int)))) rfl (fun hc => ?_) (fun hc => ?_)
  ·
   replace hc := of_decide_eq_true hc
   refine WC_skip ?_
   refine WQ_code ?_
   refine WC_seq ?_
   refine WC_block ?_
   refine WC_seq (WC_region ?_)
   refine WL_execS htb 2 [5, 13, 12, 0, 1] [] ⟨[(5, (iN i)), (13, (iN i)), (12, (iN n_xs)), (0, (sS A_xs n_xs c_xs)), (1, (sS A_ys n_ys c_ys))], [], 0, [], []⟩ (by kernel_rfl) ?_
   refine WL_nil ?_
   refine WQ_code ?_
   refine WC_seq (WC_draw mixed ?_)
   refine WD_takeL htb rfl (fun _ _ _ _ _ h => h) (Le.refl _) [0, 1, 4, 5] (fuel := 5) (listed' := bts 9 51) (S' := ⟨[(21, (iN i)), (20, (sS A_ys n_ys c_ys)), (17, (iN i)), (16, (sS A_xs n_xs c_xs)), (5, (iN i)), (13, (iN i)), (12, (iN n_xs)), (0, (sS A_xs n_xs c_xs)), (1, (sS A_ys n_ys c_ys))], [], 0, [], []⟩) (FZ.nil _) (by kernel_rfl) rfl ?_
   obtain ⟨q3, rfl⟩ := h_xs.ptr (by omega)
   obtain ⟨x6, _, hx4, ⟨rfl, hn7⟩, at5⟩ := h_xs.get i (by omega)
   have bdhn7 : -9223372036854775808 ≤ x6 ∧ x6 ≤ 9223372036854775807 := bd_of hn7
   replace at5 : At G1 (q3.add (i * 1)) [.int .i64 x6] := at5
   refine WD_idx htb 2 (by rfl) rfl (by decide +kernel) (fun _ _ _ _ _ h => h) (Le.refl _) q3 n_xs ((i : Nat) : Int) 1 (by kernel_rfl) (by omega) (by omega) ?_
   refine WD_ld htb 3 (by rfl) rfl (by decide +kernel) (fun _ _ _ _ _ h => h) (Le.refl _) (q3.add (i * 1)) false 1 [.int .i64 x6] (by kernel_rfl) at5 rfl (by decide) ?_
   obtain ⟨q8, rfl⟩ := h_ys.ptr (by omega)
   obtain ⟨x11, _, hx9, ⟨rfl, hn12⟩, at10⟩ := h_ys.get i (by omega)
   have bdhn12 : -9223372036854775808 ≤ x11 ∧ x11 ≤ 9223372036854775807 := bd_of hn12
   replace at10 : At G1 (q8.add (i * 1)) [.int .i64 x11] := at10
   refine WD_idx htb 6 (by rfl) rfl (by decide +kernel) (fun _ _ _ _ _ h => h) (Le.refl _) q8 n_ys ((i : Nat) : Int) 1 (by kernel_rfl) (by omega) (by omega) ?_
   refine WD_ld htb 7 (by rfl) rfl (by decide +kernel) (fun _ _ _ _ _ h => h) (Le.refl _) (q8.add (i * 1)) false 1 [.int .i64 x11] (by kernel_rfl) at10 rfl (by decide) ?_
   refine WD_takeL htb rfl (fun _ _ _ _ _ h => h) (Le.refl _) [8] (fuel := 0) (listed' := bts 9 511) (S' := ⟨[(24, (bB ((x6 : Int) != x11))), (23, (iI x11)), (22, (.v (.pointer (some (q8.add (i * 1)))))), (19, (iI x6)), (18, (.v (.pointer (some (q3.add (i * 1)))))), (21, (iN i)), (20, (sS (some q8) n_ys c_ys)), (17, (iN i)), (16, (sS (some q3) n_xs c_xs)), (5, (iN i)), (13, (iN i)), (12, (iN n_xs)), (0, (sS (some q3) n_xs c_xs)), (1, (sS (some q8) n_ys c_ys))], [], 0, [], []⟩) (FZ.nil _) (by kernel_rfl) rfl ?_
   refine WD_done (by decide +kernel) ?_
   refine WK_keep [24, 13, 12, 0, 1] [] rfl rfl ?_
   refine WQ_code ?_
   have hqx : x6 = x11 ∨ ¬ x6 = x11 := Classical.em _
   refine WC_cond (b := ((x6 : Int) != x11)) rfl (fun hx => ?_) (fun hx => ?_)
   ·
    replace hx := bne_iff_ne.1 hx
    have hne : ¬ x6 = x11 := fun e => hx (by rw [e])
    refine WC_seq (WC_region ?_)
    refine WL_execS htb 1 [4] [] ⟨[(4, (bB false))], [], 0, [], []⟩ (by kernel_rfl) ?_
    refine WL_nil ?_
    refine WQ_code ?_
    refine WC_ret ?_
    refine WQ_blk_ret ?_
    refine WQ_then_ret ?_
    refine WQ_then_ret ?_
    refine WQ_blk_ret ?_
    refine WQ_then_ret ?_
    exact WQ_done htb [(bB false)] _ (.inl rfl) rfl (by kernel_rfl) (fun ρ w hW => ⟨false, rfl, eq_caseG1 hx4 hx9 hne⟩)
   ·
    replace hx := (bne_eq_false_iff_eq.1) hx
    refine WC_skip ?_
    refine WQ_blk ?_
    refine WQ_code ?_
    refine WC_region ?_
    refine WL_execS htb 2 [13, 12, 0, 1] [] ⟨[(13, (iI (IntKind.i64.wrap (((i : Nat) : Int) + 1)))), (12, (iN n_xs)), (0, (sS (some q3) n_xs c_xs)), (1, (sS (some q8) n_ys c_ys))], [], 0, [], []⟩ (by kernel_rfl) ?_
    refine WL_nil ?_
    refine WK_env [(13, (iN (i + 1))), (12, (iN n_xs)), (0, (sS (some q3) n_xs c_xs)), (1, (sS (some q8) n_ys c_ys))] (fun ρ => ⟨rfl, (congrArg (Value.int .i64) (by rw [wrap_id (by omega)]; first | rfl | omega)), ⟨rfl, rfl, ⟨rfl, rfl, ⟨rfl, rfl, trivial⟩⟩⟩⟩) ?_
    refine WK_keep [13, 12, 0, 1] [] rfl rfl ?_
    exact WQ_next ((i + 1)) (by show n_xs - (i + 1) < n_xs - i; omega) ⟨hc2, ⟨by omega, eq_caseG2 ht hx4 hx9 hx⟩⟩ (fun ρ a w h => h)
  ·
   replace hc := of_decide_eq_false hc
   refine WC_exit ?_
   refine WQ_then_exit ?_
   refine WQ_then_exit ?_
   refine WQ_hit ?_
   refine WQ_code ?_
   refine WC_seq (WC_region ?_)
   refine WL_execS htb 1 [4] [] ⟨[(4, (bB true))], [], 0, [], []⟩ (by kernel_rfl) ?_
   refine WL_nil ?_
   refine WQ_code ?_
   refine WC_ret ?_
   exact WQ_done htb [(bB true)] _ (.inl rfl) rfl (by kernel_rfl) (fun ρ w hW => ⟨true, rfl, eq_caseG3 ht (by omega) (by omega)⟩)

theorem equalI_v {w : World} {G : Heap} (hG : Has w G) {xs : (List Int)} {A_xs : Option Addr} {n_xs : Nat} {c_xs : Nat} {ys : (List Int)} {A_ys : Option Addr} {n_ys : Nat} {c_ys : Nat} (h_xs : Sl (tInt .i64) G A_xs n_xs c_xs xs) (h_ys : Sl (tInt .i64) G A_ys n_ys c_ys ys) :
    Calls Try.prog 75 #[.slice A_xs n_xs c_xs, .slice A_ys n_ys c_ys] w (Ret w G fun v G' => v = .bool (decide (xs = ys))) :=
  (equalI_ok hG h_xs h_ys).mono fun e w' hE => Ret.imp (fun v G' h => by obtain ⟨b, rfl, hb⟩ := h; rw [hb]) hE
theorem eqfun2_ok {w : World} {G : Heap} (hG : Has w G) {xs : (List (List Int))} {A_xs : Option Addr} {n_xs : Nat} {c_xs : Nat} {ys : (List (List Int))} {A_ys : Option Addr} {n_ys : Nat} {c_ys : Nat} (h_xs : Sl (tSlice (tInt .i64)) G A_xs n_xs c_xs xs) (h_ys : Sl (tSlice (tInt .i64)) G A_ys n_ys c_ys ys) :
    Calls Try.prog 74 #[.slice A_xs n_xs c_xs, .slice A_ys n_ys c_ys, .func (.func 75) #[] #[]] w (Ret w G fun v G' => v = .bool (decide (xs = ys))) := by
 have lh_xs := h_xs.len'
 have lh_ys := h_ys.len'
 refine enter [(sS A_xs n_xs c_xs), (sS A_ys n_ys c_ys), (.fn (.func 75) [])] 32 Try.func74 rfl rfl rfl rfl hG ?_
 refine WC_seq (WC_region ?_)
 refine WL_execS htb 1 [0, 1, 2] [] ⟨[(0, (sS A_xs n_xs c_xs)), (1, (sS A_ys n_ys c_ys)), (2, (.fn (.func 75) []))], [], 0, [], []⟩ (by kernel_rfl) ?_
 refine WL_nil ?_
 refine WQ_code ?_
 refine WC_seq ?_
 refine WC_seq (WC_region ?_)
 refine WL_execS htb 5 [14, 0, 1, 2] [] ⟨[(14, (bB ((((n_xs : Nat) : Int) : Int) != ((n_ys : Nat) : Int)))), (0, (sS A_xs n_xs c_xs)), (1, (sS A_ys n_ys c_ys)), (2, (.fn (.func 75) []))], [], 0, [], []⟩ (by kernel_rfl) ?_
 refine WL_nil ?_
 refine WQ_code ?_
 refine WC_cond (b := ((((n_xs : Nat) : Int) : Int) != ((n_ys : Nat) : Int))) rfl (fun hb => ?_) (fun hb => ?_)
 ·
  replace hb := bne_iff_ne.1 hb
  refine WC_seq (WC_region ?_)
  refine WL_execS htb 1 [6] [] ⟨[(6, (bB false))], [], 0, [], []⟩ (by kernel_rfl) ?_
  refine WL_nil ?_
  refine WQ_code ?_
  refine WC_ret ?_
  refine WQ_then_ret ?_
  exact WQ_done htb [(bB false)] _ (.inl rfl) rfl (by kernel_rfl) (fun ρ w hW => congrArg Value.bool (ne_caseG (by omega)))
 ·
  replace hb := (bne_eq_false_iff_eq.1) hb
  refine WC_skip ?_
  refine WQ_code ?_
  refine WC_seq ?_
  refine WC_seq (WC_region ?_)
  refine WL_execS htb 3 [17, 16, 15, 1, 2] [] ⟨[(17, (iI 0)), (16, (iN n_xs)), (15, (sS A_xs n_xs c_xs)), (1, (sS A_ys n_ys c_ys)), (2, (.fn (.func 75) []))], [], 0, [], []⟩ (by kernel_rfl) ?_
  refine WL_nil ?_
  refine WQ_code ?_
  refine WC_block ?_
  refine WK_keep [17, 16, 15, 1, 2] [] rfl rfl ?_
  refine WK_env [(17, (iN 0)), (16, (iN n_xs)), (15, (sS A_xs n_xs c_xs)), (1, (sS A_ys n_ys c_ys)), (2, (.fn (.func 75) []))] (fun ρ => ⟨rfl, rfl, ⟨rfl, rfl, ⟨rfl, rfl, ⟨rfl, rfl, ⟨rfl, rfl, trivial⟩⟩⟩⟩⟩) ?_
  refine WC_loop (ι := Nat) (fun i G1 => Le G G1 ∧ (i ≤ n_xs ∧ xs.take i = ys.take i)) (fun i => ⟨[(17, (iN i)), (16, (iN n_xs)), (15, (sS A_xs n_xs c_xs)), (1, (sS A_ys n_ys c_ys)), (2, (.fn (.func 75) []))], [], 0, [], []⟩) (fun i => n_xs - i) (0) ⟨Le.refl _, ⟨Nat.zero_le _, rfl⟩⟩ rfl ?_
  rintro i G1 ⟨hle, hF⟩
  show WC _ _ _ _ _ ⟨[(17, (iN i)), (16, (iN n_xs)), (15, (sS A_xs n_xs c_xs)), (1, (sS A_ys n_ys c_ys)), (2, (.fn (.func 75) []))], [], 0, [], []⟩ _
  replace h_xs := h_xs.mono hle
  replace h_ys := h_ys.mono hle
  have hc2 := hle
  obtain ⟨hi, ht⟩ := hF
  refine WC_seq (WC_region ?_)
  refine WL_execS htb 1 [18, 17, 16, 15, 1, 2] [] ⟨[(18, (bB (decide ((((i : Nat) : Int) : Int) < ((n_xs : Nat) : Int))))), (17, (iN i)), (16, (iN n_xs)), (15, (sS A_xs n_xs c_xs)), (1, (sS A_ys n_ys c_ys)), (2, (.fn (.func 75) []))], [], 0, [], []⟩ (by kernel_rfl) ?_
  refine WL_nil ?_
  refine WQ_code ?_
  refine WC_seq ?_
  refine WC_cond (b := (decide ((((i : Nat) : Int) : Int) < ((n_xs : Nat) : Int)))) rfl (fun hc => ?_) (fun hc => ?_)
  ·
   replace hc := of_decide_eq_true hc
   refine WC_skip ?_
   refine WQ_code ?_
   refine WC_seq ?_
   refine WC_block ?_
   refine WC_seq (WC_region ?_)
   refine WL_execS htb 1 [19, 17, 16, 15, 1, 2] [] ⟨[(19, (iN i)), (17, (iN i)), (16, (iN n_xs)), (15, (sS A_xs n_xs c_xs)), (1, (sS A_ys n_ys c_ys)), (2, (.fn (.func 75) []))], [], 0, [], []⟩ (by kernel_rfl) ?_
   obtain ⟨q3, rfl⟩ := h_xs.ptr (by omega)
   obtain ⟨x6, _, hx4, hr7, at5⟩ := h_xs.get i (by omega)
   obtain ⟨A9, n10, c11, rfl, hs8⟩ := Sl.of hr7
   replace hs8 : Sl (tInt .i64) _ A9 n10 c11 x6 := hs8
   have lhs8 := hs8.len'
   replace at5 : At G1 (q3.add (i * 1)) [.slice A9 n10 c11] := at5
   refine WL_op (WOp_idx htb q3 n_xs ((i : Nat) : Int) 1 (by kernel_rfl) (by omega) (by omega) ?_)
   refine WL_op (WOp_ld htb (q3.add (i * 1)) false 1 [.slice A9 n10 c11] (by kernel_rfl) at5 rfl (by decide) ?_)
   refine WL_execS htb 2 [8, 7, 17, 16, 15, 1, 2] [] ⟨[(8, (sS A9 n10 c11)), (7, (iN i)), (17, (iN i)), (16, (iN n_xs)), (15, (sS (some q3) n_xs c_xs)), (1, (sS A_ys n_ys c_ys)), (2, (.fn (.func 75) []))], [], 0, [], []⟩ (by kernel_rfl) ?_
   refine WL_nil ?_
   refine WQ_code ?_
   refine WC_seq (WC_region ?_)
   refine WL_execS htb 2 [23, 22, 8, 17, 16, 15, 1, 2] [] ⟨[(23, (iN i)), (22, (sS A_ys n_ys c_ys)), (8, (sS A9 n10 c11)), (17, (iN i)), (16, (iN n_xs)), (15, (sS (some q3) n_xs c_xs)), (1, (sS A_ys n_ys c_ys)), (2, (.fn (.func 75) []))], [], 0, [], []⟩ (by kernel_rfl) ?_
   obtain ⟨q12, rfl⟩ := h_ys.ptr (by omega)
   obtain ⟨x15, _, hx13, hr16, at14⟩ := h_ys.get i (by omega)
   obtain ⟨A18, n19, c20, rfl, hs17⟩ := Sl.of hr16
   replace hs17 : Sl (tInt .i64) _ A18 n19 c20 x15 := hs17
   have lhs17 := hs17.len'
   replace at14 : At G1 (q12.add (i * 1)) [.slice A18 n19 c20] := at14
   refine WL_op (WOp_idx htb q12 n_ys ((i : Nat) : Int) 1 (by kernel_rfl) (by omega) (by omega) ?_)
   refine WL_op (WOp_ld htb (q12.add (i * 1)) false 1 [.slice A18 n19 c20] (by kernel_rfl) at14 rfl (by decide) ?_)
   refine WL_execS htb 1 [9, 8, 17, 16, 15, 1, 2] [] ⟨[(9, (sS A18 n19 c20)), (8, (sS A9 n10 c11)), (17, (iN i)), (16, (iN n_xs)), (15, (sS (some q3) n_xs c_xs)), (1, (sS (some q12) n_ys c_ys)), (2, (.fn (.func 75) []))], [], 0, [], []⟩ (by kernel_rfl) ?_
   refine WL_nil ?_
   refine WQ_code ?_
   refine WC_seq (WC_region ?_)
   refine WL_execS htb 3 [28, 27, 26, 17, 16, 15, 1, 2] [] ⟨[(28, (sS A18 n19 c20)), (27, (sS A9 n10 c11)), (26, (.fn (.func 75) [])), (17, (iN i)), (16, (iN n_xs)), (15, (sS (some q3) n_xs c_xs)), (1, (sS (some q12) n_ys c_ys)), (2, (.fn (.func 75) []))], [], 0, [], []⟩ (by kernel_rfl) ?_
   refine WL_op (WOp_call 75 [(sS A9 n10 c11), (sS A18 n19 c20)] (by kernel_rfl) (goes_of Try.func75 rfl rfl) (fun ρ w hW => equalI_v hW.has hs8 hs17) ?_)
   intro G701 v hle hΦ
   replace hc2 := Le.trans hc2 hle
   replace h_xs := h_xs.mono hle
   replace h_ys := h_ys.mono hle
   replace hs8 := hs8.mono hle
   replace hs17 := hs17.mono hle
   subst hΦ
   refine WL_execS htb 1 [30, 17, 16, 15, 1, 2] [] ⟨[(30, (bB (!(decide (x6 = x15))))), (17, (iN i)), (16, (iN n_xs)), (15, (sS (some q3) n_xs c_xs)), (1, (sS (some q12) n_ys c_ys)), (2, (.fn (.func 75) []))], [], 0, [], []⟩ (by kernel_rfl) ?_
   refine WL_nil ?_
   refine WQ_code ?_
   refine WC_cond (b := (!(decide (x6 = x15)))) rfl (fun hx => ?_) (fun hx => ?_)
   ·
    rw [Bool.not_eq_true'] at hx
    replace hx := of_decide_eq_false hx
    refine WC_seq (WC_region ?_)
    refine WL_execS htb 1 [6] [] ⟨[(6, (bB false))], [], 0, [], []⟩ (by kernel_rfl) ?_
    refine WL_nil ?_
    refine WQ_code ?_
    refine WC_ret ?_
    refine WQ_blk_ret ?_
    refine WQ_then_ret ?_
    refine WQ_then_ret ?_
    refine WQ_blk_ret ?_
    refine WQ_then_ret ?_
    exact WQ_done htb [(bB false)] _ (.inl rfl) rfl (by kernel_rfl) (fun ρ w hW => congrArg Value.bool (eq_caseG1 hx4 hx13 hx))
   ·
    rw [Bool.not_eq_false'] at hx
    replace hx := of_decide_eq_true hx
    refine WC_skip ?_
    refine WQ_blk ?_
    refine WQ_code ?_
    refine WC_region ?_
    refine WL_execS htb 2 [17, 16, 15, 1, 2] [] ⟨[(17, (iI (IntKind.i64.wrap (((i : Nat) : Int) + 1)))), (16, (iN n_xs)), (15, (sS (some q3) n_xs c_xs)), (1, (sS (some q12) n_ys c_ys)), (2, (.fn (.func 75) []))], [], 0, [], []⟩ (by kernel_rfl) ?_
    refine WL_nil ?_
    refine WK_env [(17, (iN (i + 1))), (16, (iN n_xs)), (15, (sS (some q3) n_xs c_xs)), (1, (sS (some q12) n_ys c_ys)), (2, (.fn (.func 75) []))] (fun ρ => ⟨rfl, (congrArg (Value.int .i64) (by rw [wrap_id (by omega)]; first | rfl | omega)), ⟨rfl, rfl, ⟨rfl, rfl, ⟨rfl, rfl, ⟨rfl, rfl, trivial⟩⟩⟩⟩⟩) ?_
    refine WK_keep [17, 16, 15, 1, 2] [] rfl rfl ?_
    exact WQ_next ((i + 1)) (by show n_xs - (i + 1) < n_xs - i; omega) ⟨hc2, ⟨by omega, eq_caseG2 ht hx4 hx13 hx⟩⟩ (fun ρ a w h => h)
  ·
   replace hc := of_decide_eq_false hc
   refine WC_exit ?_
   refine WQ_then_exit ?_
   refine WQ_then_exit ?_
   refine WQ_hit ?_
   refine WQ_code ?_
   refine WC_seq (WC_region ?_)
   refine WL_execS htb 1 [6] [] ⟨[(6, (bB true))], [], 0, [], []⟩ (by kernel_rfl) ?_
   refine WL_nil ?_
   refine WQ_code ?_
   refine WC_ret ?_
   exact WQ_done htb [(bB true)] _ (.inl rfl) rfl (by kernel_rfl) (fun ρ w hW => congrArg Value.bool (eq_caseG3 ht (by omega) (by omega)))

theorem same73_ok {w : World} {G : Heap} (hG : Has w G) {xs : (List (List Int))} {A_xs : Option Addr} {n_xs : Nat} {c_xs : Nat} {ys : (List (List Int))} {A_ys : Option Addr} {n_ys : Nat} {c_ys : Nat} (h_xs : Sl (tSlice (tInt .i64)) G A_xs n_xs c_xs xs) (h_ys : Sl (tSlice (tInt .i64)) G A_ys n_ys c_ys ys) :
    Calls Try.prog 73 #[(.slice A_xs n_xs c_xs), (.slice A_ys n_ys c_ys)] w (Ret w G fun v G' => v = .bool (decide (xs = ys))) := by
 have lh_xs := h_xs.len'
 have lh_ys := h_ys.len'
 refine enter [(sS A_xs n_xs c_xs), (sS A_ys n_ys c_ys)] 8 Try.func73 rfl rfl rfl rfl hG ?_
 refine WC_seq (WC_region ?_)
 refine WL_execS htb 1 [0, 1] [] ⟨[(0, (sS A_xs n_xs c_xs)), (1, (sS A_ys n_ys c_ys))], [], 0, [], []⟩ (by kernel_rfl) ?_
 refine WL_nil ?_
 refine WQ_code ?_
 refine WC_seq (WC_region ?_)
 refine WL_execS htb 2 [6, 5] [] ⟨[(6, (sS A_ys n_ys c_ys)), (5, (sS A_xs n_xs c_xs))], [], 0, [], []⟩ (by kernel_rfl) ?_
 refine WL_op (WOp_call 74 [(sS A_xs n_xs c_xs), (sS A_ys n_ys c_ys), (.fn (.func 75) [])] (by kernel_rfl) (goes_of Try.func74 rfl rfl) (fun ρ w hW => eqfun2_ok hW.has h_xs h_ys) ?_)
 intro G701 v hle hΦ
 replace h_xs := h_xs.mono hle
 replace h_ys := h_ys.mono hle
 subst hΦ
 refine WL_execS htb 1 [4] [] ⟨[(4, (bB (decide (xs = ys))))], [], 0, [], []⟩ (by kernel_rfl) ?_
 refine WL_nil ?_
 refine WQ_code ?_
 refine WC_ret ?_
 exact WQ_done htb [(bB (decide (xs = ys)))] _ (.inl rfl) rfl (by kernel_rfl) (fun ρ w hW => rfl)

theorem eqfun3_ok {w : World} {G : Heap} (hG : Has w G) {xs : (List (List (List Int)))} {A_xs : Option Addr} {n_xs : Nat} {c_xs : Nat} {ys : (List (List (List Int)))} {A_ys : Option Addr} {n_ys : Nat} {c_ys : Nat} (h_xs : Sl (tSlice (tSlice (tInt .i64))) G A_xs n_xs c_xs xs) (h_ys : Sl (tSlice (tSlice (tInt .i64))) G A_ys n_ys c_ys ys) :
    Calls Try.prog 72 #[.slice A_xs n_xs c_xs, .slice A_ys n_ys c_ys, .func (.func 73) #[] #[]] w (Ret w G fun v G' => v = .bool (decide (xs = ys))) := by
 have lh_xs := h_xs.len'
 have lh_ys := h_ys.len'
 refine enter [(sS A_xs n_xs c_xs), (sS A_ys n_ys c_ys), (.fn (.func 73) [])] 32 Try.func72 rfl rfl rfl rfl hG ?_
 refine WC_seq (WC_region ?_)
 refine WL_execS htb 1 [0, 1, 2] [] ⟨[(0, (sS A_xs n_xs c_xs)), (1, (sS A_ys n_ys c_ys)), (2, (.fn (.func 73) []))], [], 0, [], []⟩ (by kernel_rfl) ?_
 refine WL_nil ?_
 refine WQ_code ?_
 refine WC_seq ?_
 refine WC_seq (WC_region ?_)
 refine WL_execS htb 5 [14, 0, 1, 2] [] ⟨[(14, (bB ((((n_xs : Nat) : Int) : Int) != ((n_ys : Nat) : Int)))), (0, (sS A_xs n_xs c_xs)), (1, (sS A_ys n_ys c_ys)), (2, (.fn (.func 73) []))], [], 0, [], []⟩ (by kernel_rfl) ?_
 refine WL_nil ?_
 refine WQ_code ?_
 refine WC_cond (b := ((((n_xs : Nat) : Int) : Int) != ((n_ys : Nat) : Int))) rfl (fun hb => ?_) (fun hb => ?_)
 ·
  replace hb := bne_iff_ne.1 hb
  refine WC_seq (WC_region ?_)
  refine WL_execS htb 1 [6] [] ⟨[(6, (bB false))], [], 0, [], []⟩ (by kernel_rfl) ?_
  refine WL_nil ?_
  refine WQ_code ?_
  refine WC_ret ?_
  refine WQ_then_ret ?_
  exact WQ_done htb [(bB false)] _ (.inl rfl) rfl (by kernel_rfl) (fun ρ w hW => congrArg Value.bool (ne_caseG (by omega)))
 ·
  replace hb := (bne_eq_false_iff_eq.1) hb
  refine WC_skip ?_
  refine WQ_code ?_
  refine WC_seq ?_
  refine WC_seq (WC_region ?_)
  refine WL_execS htb 3 [17, 16, 15, 1, 2] [] ⟨[(17, (iI 0)), (16, (iN n_xs)), (15, (sS A_xs n_xs c_xs)), (1, (sS A_ys n_ys c_ys)), (2, (.fn (.func 73) []))], [], 0, [], []⟩ (by kernel_rfl) ?_
  refine WL_nil ?_
  refine WQ_code ?_
  refine WC_block ?_
  refine WK_keep [17, 16, 15, 1, 2] [] rfl rfl ?_
  refine WK_env [(17, (iN 0)), (16, (iN n_xs)), (15, (sS A_xs n_xs c_xs)), (1, (sS A_ys n_ys c_ys)), (2, (.fn (.func 73) []))] (fun ρ => ⟨rfl, rfl, ⟨rfl, rfl, ⟨rfl, rfl, ⟨rfl, rfl, ⟨rfl, rfl, trivial⟩⟩⟩⟩⟩) ?_
  refine WC_loop (ι := Nat) (fun i G1 => Le G G1 ∧ (i ≤ n_xs ∧ xs.take i = ys.take i)) (fun i => ⟨[(17, (iN i)), (16, (iN n_xs)), (15, (sS A_xs n_xs c_xs)), (1, (sS A_ys n_ys c_ys)), (2, (.fn (.func 73) []))], [], 0, [], []⟩) (fun i => n_xs - i) (0) ⟨Le.refl _, ⟨Nat.zero_le _, rfl⟩⟩ rfl ?_
  rintro i G1 ⟨hle, hF⟩
  show WC _ _ _ _ _ ⟨[(17, (iN i)), (16, (iN n_xs)), (15, (sS A_xs n_xs c_xs)), (1, (sS A_ys n_ys c_ys)), (2, (.fn (.func 73) []))], [], 0, [], []⟩ _
  replace h_xs := h_xs.mono hle
  replace h_ys := h_ys.mono hle
  have hc2 := hle
  obtain ⟨hi, ht⟩ := hF
  refine WC_seq (WC_region ?_)
  refine WL_execS htb 1 [18, 17, 16, 15, 1, 2] [] ⟨[(18, (bB (decide ((((i : Nat) : Int) : Int) < ((n_xs : Nat) : Int))))), (17, (iN i)), (16, (iN n_xs)), (15, (sS A_xs n_xs c_xs)), (1, (sS A_ys n_ys c_ys)), (2, (.fn (.func 73) []))], [], 0, [], []⟩ (by kernel_rfl) ?_
  refine WL_nil ?_
  refine WQ_code ?_
  refine WC_seq ?_
  refine WC_cond (b := (decide ((((i : Nat) : Int) : Int) < ((n_xs : Nat) : Int)))) rfl (fun hc => ?_) (fun hc => ?_)
  ·
   replace hc := of_decide_eq_true hc
   refine WC_skip ?_
   refine WQ_code ?_
   refine WC_seq ?_
   refine WC_block ?_
   refine WC_seq (WC_region ?_)
   refine WL_execS htb 1 [19, 17, 16, 15, 1, 2] [] ⟨[(19, (iN i)), (17, (iN i)), (16, (iN n_xs)), (15, (sS A_xs n_xs c_xs)), (1, (sS A_ys n_ys c_ys)), (2, (.fn (.func 73) []))], [], 0, [], []⟩ (by kernel_rfl) ?_
   obtain ⟨q3, rfl⟩ := h_xs.ptr (by omega)
   obtain ⟨x6, _, hx4, hr7, at5⟩ := h_xs.get i (by omega)
   obtain ⟨A9, n10, c11, rfl, hs8⟩ := Sl.of hr7
   replace hs8 : Sl (tSlice (tInt .i64)) _ A9 n10 c11 x6 := hs8
   have lhs8 := hs8.len'
   replace at5 : At G1 (q3.add (i * 1)) [.slice A9 n10 c11] := at5
   refine WL_op (WOp_idx htb q3 n_xs ((i : Nat) : Int) 1 (by kernel_rfl) (by omega) (by omega) ?_)
   refine WL_op (WOp_ld htb (q3.add (i * 1)) false 1 [.slice A9 n10 c11] (by kernel_rfl) at5 rfl (by decide) ?_)
   refine WL_execS htb 2 [8, 7, 17, 16, 15, 1, 2] [] ⟨[(8, (sS A9 n10 c11)), (7, (iN i)), (17, (iN i)), (16, (iN n_xs)), (15, (sS (some q3) n_xs c_xs)), (1, (sS A_ys n_ys c_ys)), (2, (.fn (.func 73) []))], [], 0, [], []⟩ (by kernel_rfl) ?_
   refine WL_nil ?_
   refine WQ_code ?_
   refine WC_seq (WC_region ?_)
   refine WL_execS htb 2 [23, 22, 8, 17, 16, 15, 1, 2] [] ⟨[(23, (iN i)), (22, (sS A_ys n_ys c_ys)), (8, (sS A9 n10 c11)), (17, (iN i)), (16, (iN n_xs)), (15, (sS (some q3) n_xs c_xs)), (1, (sS A_ys n_ys c_ys)), (2, (.fn (.func 73) []))], [], 0, [], []⟩ (by kernel_rfl) ?_
   obtain ⟨q12, rfl⟩ := h_ys.ptr (by omega)
   obtain ⟨x15, _, hx13, hr16, at14⟩ := h_ys.get i (by omega)
   obtain ⟨A18, n19, c20, rfl, hs17⟩ := Sl.of hr16
   replace hs17 : Sl (tSlice (tInt .i64)) _ A18 n19 c20 x15 := hs17
   have lhs17 := hs17.len'
   replace at14 : At G1 (q12.add (i * 1)) [.slice A18 n19 c20] := at14
   refine WL_op (WOp_idx htb q12 n_ys ((i : Nat) : Int) 1 (by kernel_rfl) (by omega) (by omega) ?_)
   refine WL_op (WOp_ld htb (q12.add (i * 1)) false 1 [.slice A18 n19 c20] (by kernel_rfl) at14 rfl (by decide) ?_)
   refine WL_execS htb 1 [9, 8, 17, 16, 15, 1, 2] [] ⟨[(9, (sS A18 n19 c20)), (8, (sS A9 n10 c11)), (17, (iN i)), (16, (iN n_xs)), (15, (sS (some q3) n_xs c_xs)), (1, (sS (some q12) n_ys c_ys)), (2, (.fn (.func 73) []))], [], 0, [], []⟩ (by kernel_rfl) ?_
   refine WL_nil ?_
   refine WQ_code ?_
   refine WC_seq (WC_region ?_)
   refine WL_execS htb 3 [28, 27, 26, 17, 16, 15, 1, 2] [] ⟨[(28, (sS A18 n19 c20)), (27, (sS A9 n10 c11)), (26, (.fn (.func 73) [])), (17, (iN i)), (16, (iN n_xs)), (15, (sS (some q3) n_xs c_xs)), (1, (sS (some q12) n_ys c_ys)), (2, (.fn (.func 73) []))], [], 0, [], []⟩ (by kernel_rfl) ?_
   refine WL_op (WOp_call 73 [(sS A9 n10 c11), (sS A18 n19 c20)] (by kernel_rfl) (goes_of Try.func73 rfl rfl) (fun ρ w hW => same73_ok hW.has hs8 hs17) ?_)
   intro G701 v hle hΦ
   replace hc2 := Le.trans hc2 hle
   replace h_xs := h_xs.mono hle
   replace h_ys := h_ys.mono hle
   replace hs8 := hs8.mono hle
   replace hs17 := hs17.mono hle
   subst hΦ
   refine WL_execS htb 1 [30, 17, 16, 15, 1, 2] [] ⟨[(30, (bB (!(decide (x6 = x15))))), (17, (iN i)), (16, (iN n_xs)), (15, (sS (some q3) n_xs c_xs)), (1, (sS (some q12) n_ys c_ys)), (2, (.fn (.func 73) []))], [], 0, [], []⟩ (by kernel_rfl) ?_
   refine WL_nil ?_
   refine WQ_code ?_
   refine WC_cond (b := (!(decide (x6 = x15)))) rfl (fun hx => ?_) (fun hx => ?_)
   ·
    rw [Bool.not_eq_true'] at hx
    replace hx := of_decide_eq_false hx
    refine WC_seq (WC_region ?_)
    refine WL_execS htb 1 [6] [] ⟨[(6, (bB false))], [], 0, [], []⟩ (by kernel_rfl) ?_
    refine WL_nil ?_
    refine WQ_code ?_
    refine WC_ret ?_
    refine WQ_blk_ret ?_
    refine WQ_then_ret ?_
    refine WQ_then_ret ?_
    refine WQ_blk_ret ?_
    refine WQ_then_ret ?_
    exact WQ_done htb [(bB false)] _ (.inl rfl) rfl (by kernel_rfl) (fun ρ w hW => congrArg Value.bool (eq_caseG1 hx4 hx13 hx))
   ·
    rw [Bool.not_eq_false'] at hx
    replace hx := of_decide_eq_true hx
    refine WC_skip ?_
    refine WQ_blk ?_
    refine WQ_code ?_
    refine WC_region ?_
    refine WL_execS htb 2 [17, 16, 15, 1, 2] [] ⟨[(17, (iI (IntKind.i64.wrap (((i : Nat) : Int) + 1)))), (16, (iN n_xs)), (15, (sS (some q3) n_xs c_xs)), (1, (sS (some q12) n_ys c_ys)), (2, (.fn (.func 73) []))], [], 0, [], []⟩ (by kernel_rfl) ?_
    refine WL_nil ?_
    refine WK_env [(17, (iN (i + 1))), (16, (iN n_xs)), (15, (sS (some q3) n_xs c_xs)), (1, (sS (some q12) n_ys c_ys)), (2, (.fn (.func 73) []))] (fun ρ => ⟨rfl, (congrArg (Value.int .i64) (by rw [wrap_id (by omega)]; first | rfl | omega)), ⟨rfl, rfl, ⟨rfl, rfl, ⟨rfl, rfl, ⟨rfl, rfl, trivial⟩⟩⟩⟩⟩) ?_
    refine WK_keep [17, 16, 15, 1, 2] [] rfl rfl ?_
    exact WQ_next ((i + 1)) (by show n_xs - (i + 1) < n_xs - i; omega) ⟨hc2, ⟨by omega, eq_caseG2 ht hx4 hx13 hx⟩⟩ (fun ρ a w h => h)
  ·
   replace hc := of_decide_eq_false hc
   refine WC_exit ?_
   refine WQ_then_exit ?_
   refine WQ_then_exit ?_
   refine WQ_hit ?_
   refine WQ_code ?_
   refine WC_seq (WC_region ?_)
   refine WL_execS htb 1 [6] [] ⟨[(6, (bB true))], [], 0, [], []⟩ (by kernel_rfl) ?_
   refine WL_nil ?_
   refine WQ_code ?_
   refine WC_ret ?_
   exact WQ_done htb [(bB true)] _ (.inl rfl) rfl (by kernel_rfl) (fun ρ w hW => congrArg Value.bool (eq_caseG3 ht (by omega) (by omega)))

end Go.Proofs.Ytfemkbockhpmcaa.Sym
