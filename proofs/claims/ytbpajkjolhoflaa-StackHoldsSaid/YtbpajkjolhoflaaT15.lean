/- Walks of functions that the laws of this seat reach, printed by a program of this session's. -/
import Derived.Test.YtbpajkjolhoflaaT14
set_option linter.unusedSimpArgs false
set_option linter.unusedVariables false
set_option maxHeartbeats 4000000
namespace Go.Proofs.Ytbpajkjolhoflaa.Sym
open Go Go.Proofs Go.RowKit




def nextS (rs rs2 : List (List (List Int))) (p : List Int × List Int) (kd pk : Int) : List (List Int × List Int) × Bool :=
  if kd = 1 then ([], decide (p.1.length = 0 ∧ p.2.length = 0))
  else if kd = 2 then theseS (dropS p).2 [(dropS p).1]
  else if kd = 3 then oldS rs p
  else if kd = 4 then theseS (newS rs2 p pk).2 [(newS rs2 p pk).1]
  else if kd = 5 then theseS (splitS p).2.2 [(splitS p).1, (splitS p).2.1]
  else ([], false)
theorem theseS_nil (b : Bool) : theseS b [] = ([], b) := by cases b <;> rfl
section
variable {rs rs2 : List (List (List Int))} {p : List Int × List Int} {kd pk : Int}
theorem nextS_1 {a b : List Int} (h : kd = 1) : nextS rs rs2 (a, b) kd pk = ([], decide (a.length = 0 ∧ b.length = 0)) := by subst h; rfl
theorem nextS_2 (h : kd = 2) : nextS rs rs2 p kd pk = theseS (dropS p).2 [(dropS p).1] := by subst h; rfl
theorem nextS_3 (h : kd = 3) : nextS rs rs2 p kd pk = oldS rs p := by subst h; rfl
theorem nextS_4 (h : kd = 4) : nextS rs rs2 p kd pk = theseS (newS rs2 p pk).2 [(newS rs2 p pk).1] := by subst h; rfl
theorem nextS_5 (h : kd = 5) : nextS rs rs2 p kd pk = theseS (splitS p).2.2 [(splitS p).1, (splitS p).2.1] := by subst h; rfl
theorem nextS_0 (h1 : kd ≠ 1) (h2 : kd ≠ 2) (h3 : kd ≠ 3) (h4 : kd ≠ 4) (h5 : kd ≠ 5) : nextS rs rs2 p kd pk = ([], false) := by
  unfold nextS; rw [if_neg h1, if_neg h2, if_neg h3, if_neg h4, if_neg h5]
end
theorem next_ok {w : World} {G : Heap} (hG : Has w G) {tk : (List ByteArray)} {A_tk : Option Addr} {n_tk : Nat} {c_tk : Nat} {nm : (List ByteArray)} {A_nm : Option Addr} {n_nm : Nat} {c_nm : Nat} {rs : (List (List (List Int)))} {A_rs : Option Addr} {n_rs : Nat} {c_rs : Nat} {tk2 : (List ByteArray)} {A_tk2 : Option Addr} {n_tk2 : Nat} {c_tk2 : Nat} {nm2 : (List ByteArray)} {A_nm2 : Option Addr} {n_nm2 : Nat} {c_nm2 : Nat} {rs2 : (List (List (List Int)))} {A_rs2 : Option Addr} {n_rs2 : Nat} {c_rs2 : Nat} {a : (List Int)} {A_a : Option Addr} {n_a : Nat} {c_a : Nat} {b : (List Int)} {A_b : Option Addr} {n_b : Nat} {c_b : Nat} {kd : Int} {pk : Int} (h_tk : Sl tStr G A_tk n_tk c_tk tk) (h_nm : Sl tStr G A_nm n_nm c_nm nm) (h_rs : Sl (tSlice (tSlice (tInt .i64))) G A_rs n_rs c_rs rs) (h_tk2 : Sl tStr G A_tk2 n_tk2 c_tk2 tk2) (h_nm2 : Sl tStr G A_nm2 n_nm2 c_nm2 nm2) (h_rs2 : Sl (tSlice (tSlice (tInt .i64))) G A_rs2 n_rs2 c_rs2 rs2) (h_a : Sl (tInt .i64) G A_a n_a c_a a) (h_b : Sl (tInt .i64) G A_b n_b c_b b) (h_kd : -9223372036854775808 ≤ kd ∧ kd ≤ 9223372036854775807) (h_pk : -9223372036854775808 ≤ pk ∧ pk ≤ 9223372036854775807) (hr : SmallR rs) (hr2 : SmallR rs2) (hb1 : n_a ≤ 1000000000) (hb2 : n_b ≤ 1000000000) :
    Calls Try.prog 24 #[(.agg #[.slice A_tk n_tk c_tk, .slice A_nm n_nm c_nm, .slice A_rs n_rs c_rs]), (.agg #[.slice A_tk2 n_tk2 c_tk2, .slice A_nm2 n_nm2 c_nm2, .slice A_rs2 n_rs2 c_rs2]), (.agg #[.slice A_a n_a c_a, .slice A_b n_b c_b, .int .i64 kd, .int .i64 pk])] w (Ret w G fun v G' => ∃ (r : (List ((List Int) × (List Int)))) (A_r : Option Addr) (n_r : Nat) (c_r : Nat) (ok : Bool), v = .tuple #[.slice A_r n_r c_r, .bool ok] ∧ (Sl (tPair (tSlice (tInt .i64)) (tSlice (tInt .i64))) G' A_r n_r c_r r) ∧ ((r, ok) = nextS rs rs2 (a, b) kd pk)) := by
  have lh_tk := h_tk.len'
  have lh_nm := h_nm.len'
  have lh_rs := h_rs.len'
  have lh_tk2 := h_tk2.len'
  have lh_nm2 := h_nm2.len'
  have lh_rs2 := h_rs2.len'
  have lh_a := h_a.len'
  have lh_b := h_b.len'
  refine enter [(.agg [(sS A_tk n_tk c_tk), (sS A_nm n_nm c_nm), (sS A_rs n_rs c_rs)]), (.agg [(sS A_tk2 n_tk2 c_tk2), (sS A_nm2 n_nm2 c_nm2), (sS A_rs2 n_rs2 c_rs2)]), (.agg [(sS A_a n_a c_a), (sS A_b n_b c_b), (iI kd), (iI pk)])] 87 Try.func24 rfl rfl rfl rfl hG ?_
  refine WC_seq (WC_region ?_)
  refine WL_execS htb 5 [5, 4, 3] [2, 1, 0] ⟨[(5, (.p 2 0)), (4, (.p 1 0)), (3, (.p 0 0))], [(2, (.cells 37 [(sS A_a n_a c_a), (sS A_b n_b c_b), (iI kd), (iI pk)])), (1, (.cells 35 [(sS A_tk2 n_tk2 c_tk2), (sS A_nm2 n_nm2 c_nm2), (sS A_rs2 n_rs2 c_rs2)])), (0, (.cells 35 [(sS A_tk n_tk c_tk), (sS A_nm n_nm c_nm), (sS A_rs n_rs c_rs)]))], 3, [], []⟩ (by kernel_rfl) ?_
  refine WL_nil ?_
  refine WQ_code ?_
  refine WC_seq ?_
  refine WC_seq (WC_region ?_)
  refine WL_execS htb 2 [16, 5, 4, 3] [2, 1, 0] ⟨[(16, (iI kd)), (5, (.p 2 0)), (4, (.p 1 0)), (3, (.p 0 0))], [(2, (.cells 37 [(sS A_a n_a c_a), (sS A_b n_b c_b), (iI kd), (iI pk)])), (1, (.cells 35 [(sS A_tk2 n_tk2 c_tk2), (sS A_nm2 n_nm2 c_nm2), (sS A_rs2 n_rs2 c_rs2)])), (0, (.cells 35 [(sS A_tk n_tk c_tk), (sS A_nm n_nm c_nm), (sS A_rs n_rs c_rs)]))], 3, [], []⟩ (by kernel_rfl) ?_
  refine WL_nil ?_
  refine WQ_code ?_
  refine WC_block ?_
  refine WC_seq (WC_region ?_)
  refine WL_execS htb 2 [17, 16, 5, 4, 3] [2, 1, 0] ⟨[(17, (bB ((kd : Int) == 1))), (16, (iI kd)), (5, (.p 2 0)), (4, (.p 1 0)), (3, (.p 0 0))], [(2, (.cells 37 [(sS A_a n_a c_a), (sS A_b n_b c_b), (iI kd), (iI pk)])), (1, (.cells 35 [(sS A_tk2 n_tk2 c_tk2), (sS A_nm2 n_nm2 c_nm2), (sS A_rs2 n_rs2 c_rs2)])), (0, (.cells 35 [(sS A_tk n_tk c_tk), (sS A_nm n_nm c_nm), (sS A_rs n_rs c_rs)]))], 3, [], []⟩ (by kernel_rfl) ?_
  refine WL_nil ?_
  refine WQ_code ?_
  refine WC_cond (b := ((kd : Int) == 1)) rfl (fun hk1 => ?_) (fun hk1 => ?_)
  · replace hk1 := eq_of_beq hk1
    refine WC_seq (WC_region ?_)
    refine WL_execS htb 10 [28] [] ⟨[(28, (bB (((IntKind.i64.wrap (((n_a : Nat) : Int) + ((n_b : Nat) : Int))) : Int) == 0)))], [], 3, [], []⟩ (by kernel_rfl) ?_
    refine WL_op (WOp_call 48 [(bB (((IntKind.i64.wrap (((n_a : Nat) : Int) + ((n_b : Nat) : Int))) : Int) == 0)), (sS none 0 0)] (by kernel_rfl) (goes_of Try.func48 rfl rfl) (fun ρ w hW => these_ok hW.has (ok := (((IntKind.i64.wrap (((n_a : Nat) : Int) + ((n_b : Nat) : Int))) : Int) == 0)) (xs := []) (Sl.none0 _ _)) ?_)
    intro G1 v hle hΦ
    obtain ⟨r1, A_r1, n_r1, c_r1, r2, rfl, h_r1, hR3⟩ := hΦ
    have lh_r1 := h_r1.len'
    refine WL_execS htb 4 [7, 6] [] ⟨[(7, (bB r2)), (6, (sS A_r1 n_r1 c_r1))], [], 3, [], []⟩ (by kernel_rfl) ?_
    refine WL_nil ?_
    refine WQ_code ?_
    refine WC_ret ?_
    refine WQ_blk_ret ?_
    refine WQ_then_ret ?_
    exact WQ_done htb [(sS A_r1 n_r1 c_r1), (bB r2)] _ (.inl rfl) rfl (by kernel_rfl) (fun ρ w hW => ⟨r1, _, _, _, r2, rfl, h_r1, by rw [nextS_1 hk1, hR3, theseS_nil, wrap_id (by omega)]; exact congrArg (Prod.mk []) (Bool.eq_iff_iff.2 (by rw [beq_iff_eq, decide_eq_true_iff]; omega))⟩)
  · replace hk1 := ne_of_beq_false hk1
    refine WC_seq (WC_region ?_)
    refine WL_execS htb 2 [32, 16, 5, 4, 3] [2, 1, 0] ⟨[(32, (bB ((kd : Int) == 2))), (16, (iI kd)), (5, (.p 2 0)), (4, (.p 1 0)), (3, (.p 0 0))], [(2, (.cells 37 [(sS A_a n_a c_a), (sS A_b n_b c_b), (iI kd), (iI pk)])), (1, (.cells 35 [(sS A_tk2 n_tk2 c_tk2), (sS A_nm2 n_nm2 c_nm2), (sS A_rs2 n_rs2 c_rs2)])), (0, (.cells 35 [(sS A_tk n_tk c_tk), (sS A_nm n_nm c_nm), (sS A_rs n_rs c_rs)]))], 3, [], []⟩ (by kernel_rfl) ?_
    refine WL_nil ?_
    refine WQ_code ?_
    refine WC_cond (b := ((kd : Int) == 2)) rfl (fun hk2 => ?_) (fun hk2 => ?_)
    · replace hk2 := eq_of_beq hk2
      refine WC_seq (WC_region ?_)
      refine WL_execS htb 2 [36] [] ⟨[(36, (.agg [(sS A_a n_a c_a), (sS A_b n_b c_b)]))], [], 3, [], []⟩ (by kernel_rfl) ?_
      refine WL_op (WOp_call 13 [(.agg [(sS A_a n_a c_a), (sS A_b n_b c_b)])] (by kernel_rfl) (goes_of Try.func13 rfl rfl) (fun ρ w hW => drop_ok hW.has (a := a) (b := b) h_a h_b (by omega) (by omega)) ?_)
      intro G1 v hle hΦ
      replace h_a := h_a.mono hle
      replace h_b := h_b.mono hle
      obtain ⟨r1, A_r1, n_r1, c_r1, r2, A_r2, n_r2, c_r2, r3, rfl, h_r1, h_r2, hR4⟩ := hΦ
      have lh_r1 := h_r1.len'
      have lh_r2 := h_r2.len'
      refine WL_execS htb 6 [9, 8] [3] ⟨[(9, (bB r3)), (8, (.p 3 0))], [(3, (.cells 24 [(sS A_r1 n_r1 c_r1), (sS A_r2 n_r2 c_r2)]))], 4, [], []⟩ (by kernel_rfl) ?_
      refine WL_nil ?_
      refine WQ_code ?_
      refine WC_seq (WC_region ?_)
      refine WL_execS htb 3 [42, 40] [4] ⟨[(42, (.s 4 1 1)), (40, (bB r3))], [(4, (.cells 24 [(sS A_r1 n_r1 c_r1), (sS A_r2 n_r2 c_r2)]))], 5, [], []⟩ (by kernel_rfl) ?_
      refine WK_freezeV 4 rfl rfl rfl rfl ?_
      intro bk6 G5 hle hbk6
      replace h_r1 := h_r1.mono hle
      replace h_r2 := h_r2.mono hle
      show WK _ _ ⟨[(42, (sS (some ⟨bk6, 0, none⟩) 1 1)), (40, (bB r3))], [], 5, [], []⟩ _
      have hs7 : Sl (tPair (tSlice (tInt .i64)) (tSlice (tInt .i64))) G5 (some ⟨bk6, 0, none⟩) 1 1 [(r1, r2)] := Sl.lit (cs := [.slice A_r1 n_r1 c_r1, .slice A_r2 n_r2 c_r2]) (RepsL.cons' (rep_pair h_r1.reps h_r2.reps) .nil) hbk6 rfl (by unfold big; omega)
      have lhs7 := hs7.len'
      refine WL_op (WOp_call 48 [(bB r3), (sS (some ⟨bk6, 0, none⟩) 1 1)] (by kernel_rfl) (goes_of Try.func48 rfl rfl) (fun ρ w hW => these_ok hW.has (ok := r3) (xs := [(r1, r2)]) hs7) ?_)
      intro G2 v hle hΦ
      replace hs7 := hs7.mono hle
      obtain ⟨r8, A_r8, n_r8, c_r8, r9, rfl, h_r8, hR10⟩ := hΦ
      have lh_r8 := h_r8.len'
      refine WL_execS htb 4 [7, 6] [] ⟨[(7, (bB r9)), (6, (sS A_r8 n_r8 c_r8))], [], 5, [], []⟩ (by kernel_rfl) ?_
      refine WL_nil ?_
      refine WQ_code ?_
      refine WC_ret ?_
      refine WQ_blk_ret ?_
      refine WQ_then_ret ?_
      exact WQ_done htb [(sS A_r8 n_r8 c_r8), (bB r9)] _ (.inl rfl) rfl (by kernel_rfl) (fun ρ w hW => ⟨r8, _, _, _, r9, rfl, h_r8, by rw [nextS_2 hk2, ← hR4, hR10]⟩)
    · replace hk2 := ne_of_beq_false hk2
      refine WC_seq (WC_region ?_)
      refine WL_execS htb 2 [46, 16, 5, 4, 3] [2, 1, 0] ⟨[(46, (bB ((kd : Int) == 3))), (16, (iI kd)), (5, (.p 2 0)), (4, (.p 1 0)), (3, (.p 0 0))], [(2, (.cells 37 [(sS A_a n_a c_a), (sS A_b n_b c_b), (iI kd), (iI pk)])), (1, (.cells 35 [(sS A_tk2 n_tk2 c_tk2), (sS A_nm2 n_nm2 c_nm2), (sS A_rs2 n_rs2 c_rs2)])), (0, (.cells 35 [(sS A_tk n_tk c_tk), (sS A_nm n_nm c_nm), (sS A_rs n_rs c_rs)]))], 3, [], []⟩ (by kernel_rfl) ?_
      refine WL_nil ?_
      refine WQ_code ?_
      refine WC_cond (b := ((kd : Int) == 3)) rfl (fun hk3 => ?_) (fun hk3 => ?_)
      · replace hk3 := eq_of_beq hk3
        refine WC_seq (WC_region ?_)
        refine WL_execS htb 3 [50, 48] [] ⟨[(50, (.agg [(sS A_a n_a c_a), (sS A_b n_b c_b)])), (48, (.agg [(sS A_tk n_tk c_tk), (sS A_nm n_nm c_nm), (sS A_rs n_rs c_rs)]))], [], 3, [], []⟩ (by kernel_rfl) ?_
        refine WL_op (WOp_call 18 [(.agg [(sS A_tk n_tk c_tk), (sS A_nm n_nm c_nm), (sS A_rs n_rs c_rs)]), (.agg [(sS A_a n_a c_a), (sS A_b n_b c_b)])] (by kernel_rfl) (goes_of Try.func18 rfl rfl) (fun ρ w hW => old_ok hW.has (tk := tk) (nm := nm) (rs := rs) (a := a) (b := b) h_tk h_nm h_rs h_a h_b hr (by omega) (by omega)) ?_)
        intro G1 v hle hΦ
        replace h_tk := h_tk.mono hle
        replace h_nm := h_nm.mono hle
        replace h_rs := h_rs.mono hle
        replace h_a := h_a.mono hle
        replace h_b := h_b.mono hle
        obtain ⟨r1, A_r1, n_r1, c_r1, r2, rfl, h_r1, hR3⟩ := hΦ
        have lh_r1 := h_r1.len'
        refine WL_execS htb 4 [7, 6] [] ⟨[(7, (bB r2)), (6, (sS A_r1 n_r1 c_r1))], [], 3, [], []⟩ (by kernel_rfl) ?_
        refine WL_nil ?_
        refine WQ_code ?_
        refine WC_ret ?_
        refine WQ_blk_ret ?_
        refine WQ_then_ret ?_
        exact WQ_done htb [(sS A_r1 n_r1 c_r1), (bB r2)] _ (.inl rfl) rfl (by kernel_rfl) (fun ρ w hW => ⟨r1, _, _, _, r2, rfl, h_r1, by rw [nextS_3 hk3, ← hR3]⟩)
      · replace hk3 := ne_of_beq_false hk3
        refine WC_seq (WC_region ?_)
        refine WL_execS htb 2 [54, 16, 5, 4] [2, 1] ⟨[(54, (bB ((kd : Int) == 4))), (16, (iI kd)), (5, (.p 2 0)), (4, (.p 1 0))], [(2, (.cells 37 [(sS A_a n_a c_a), (sS A_b n_b c_b), (iI kd), (iI pk)])), (1, (.cells 35 [(sS A_tk2 n_tk2 c_tk2), (sS A_nm2 n_nm2 c_nm2), (sS A_rs2 n_rs2 c_rs2)]))], 3, [], []⟩ (by kernel_rfl) ?_
        refine WL_nil ?_
        refine WQ_code ?_
        refine WC_cond (b := ((kd : Int) == 4)) rfl (fun hk4 => ?_) (fun hk4 => ?_)
        · replace hk4 := eq_of_beq hk4
          refine WC_seq (WC_region ?_)
          refine WL_execS htb 5 [61, 59, 57] [] ⟨[(61, (iI pk)), (59, (.agg [(sS A_a n_a c_a), (sS A_b n_b c_b)])), (57, (.agg [(sS A_tk2 n_tk2 c_tk2), (sS A_nm2 n_nm2 c_nm2), (sS A_rs2 n_rs2 c_rs2)]))], [], 3, [], []⟩ (by kernel_rfl) ?_
          refine WL_op (WOp_call 21 [(.agg [(sS A_tk2 n_tk2 c_tk2), (sS A_nm2 n_nm2 c_nm2), (sS A_rs2 n_rs2 c_rs2)]), (.agg [(sS A_a n_a c_a), (sS A_b n_b c_b)]), (iI pk)] (by kernel_rfl) (goes_of Try.func21 rfl rfl) (fun ρ w hW => new_ok hW.has (tk := tk2) (nm := nm2) (rs := rs2) (a := a) (b := b) (k := pk) h_tk2 h_nm2 h_rs2 h_a h_b h_pk hr2 (by omega) (by omega)) ?_)
          intro G1 v hle hΦ
          replace h_tk2 := h_tk2.mono hle
          replace h_nm2 := h_nm2.mono hle
          replace h_rs2 := h_rs2.mono hle
          replace h_a := h_a.mono hle
          replace h_b := h_b.mono hle
          obtain ⟨r1, A_r1, n_r1, c_r1, r2, A_r2, n_r2, c_r2, r3, rfl, h_r1, h_r2, hR4⟩ := hΦ
          have lh_r1 := h_r1.len'
          have lh_r2 := h_r2.len'
          refine WL_execS htb 6 [11, 10] [3] ⟨[(11, (bB r3)), (10, (.p 3 0))], [(3, (.cells 24 [(sS A_r1 n_r1 c_r1), (sS A_r2 n_r2 c_r2)]))], 4, [], []⟩ (by kernel_rfl) ?_
          refine WL_nil ?_
          refine WQ_code ?_
          refine WC_seq (WC_region ?_)
          refine WL_execS htb 3 [67, 65] [4] ⟨[(67, (.s 4 1 1)), (65, (bB r3))], [(4, (.cells 24 [(sS A_r1 n_r1 c_r1), (sS A_r2 n_r2 c_r2)]))], 5, [], []⟩ (by kernel_rfl) ?_
          refine WK_freezeV 4 rfl rfl rfl rfl ?_
          intro bk6 G5 hle hbk6
          replace h_r1 := h_r1.mono hle
          replace h_r2 := h_r2.mono hle
          show WK _ _ ⟨[(67, (sS (some ⟨bk6, 0, none⟩) 1 1)), (65, (bB r3))], [], 5, [], []⟩ _
          have hs7 : Sl (tPair (tSlice (tInt .i64)) (tSlice (tInt .i64))) G5 (some ⟨bk6, 0, none⟩) 1 1 [(r1, r2)] := Sl.lit (cs := [.slice A_r1 n_r1 c_r1, .slice A_r2 n_r2 c_r2]) (RepsL.cons' (rep_pair h_r1.reps h_r2.reps) .nil) hbk6 rfl (by unfold big; omega)
          have lhs7 := hs7.len'
          refine WL_op (WOp_call 48 [(bB r3), (sS (some ⟨bk6, 0, none⟩) 1 1)] (by kernel_rfl) (goes_of Try.func48 rfl rfl) (fun ρ w hW => these_ok hW.has (ok := r3) (xs := [(r1, r2)]) hs7) ?_)
          intro G2 v hle hΦ
          replace hs7 := hs7.mono hle
          obtain ⟨r8, A_r8, n_r8, c_r8, r9, rfl, h_r8, hR10⟩ := hΦ
          have lh_r8 := h_r8.len'
          refine WL_execS htb 4 [7, 6] [] ⟨[(7, (bB r9)), (6, (sS A_r8 n_r8 c_r8))], [], 5, [], []⟩ (by kernel_rfl) ?_
          refine WL_nil ?_
          refine WQ_code ?_
          refine WC_ret ?_
          refine WQ_blk_ret ?_
          refine WQ_then_ret ?_
          exact WQ_done htb [(sS A_r8 n_r8 c_r8), (bB r9)] _ (.inl rfl) rfl (by kernel_rfl) (fun ρ w hW => ⟨r8, _, _, _, r9, rfl, h_r8, by rw [nextS_4 hk4, ← hR4, hR10]⟩)
        · replace hk4 := ne_of_beq_false hk4
          refine WC_seq (WC_region ?_)
          refine WL_execS htb 2 [71, 5] [2] ⟨[(71, (bB ((kd : Int) == 5))), (5, (.p 2 0))], [(2, (.cells 37 [(sS A_a n_a c_a), (sS A_b n_b c_b), (iI kd), (iI pk)]))], 3, [], []⟩ (by kernel_rfl) ?_
          refine WL_nil ?_
          refine WQ_code ?_
          refine WC_cond (b := ((kd : Int) == 5)) rfl (fun hk5 => ?_) (fun hk5 => ?_)
          · replace hk5 := eq_of_beq hk5
            refine WC_seq (WC_region ?_)
            refine WL_execS htb 2 [75] [] ⟨[(75, (.agg [(sS A_a n_a c_a), (sS A_b n_b c_b)]))], [], 3, [], []⟩ (by kernel_rfl) ?_
            refine WL_op (WOp_call 12 [(.agg [(sS A_a n_a c_a), (sS A_b n_b c_b)])] (by kernel_rfl) (goes_of Try.func12 rfl rfl) (fun ρ w hW => split_ok hW.has (a := a) (b := b) h_a h_b (by omega) (by omega)) ?_)
            intro G1 v hle hΦ
            replace h_a := h_a.mono hle
            replace h_b := h_b.mono hle
            obtain ⟨r1, A_r1, n_r1, c_r1, r2, A_r2, n_r2, c_r2, r3, A_r3, n_r3, c_r3, r4, A_r4, n_r4, c_r4, r5, rfl, h_r1, h_r2, h_r3, h_r4, hR6⟩ := hΦ
            have lh_r1 := h_r1.len'
            have lh_r2 := h_r2.len'
            have lh_r3 := h_r3.len'
            have lh_r4 := h_r4.len'
            refine WL_execS htb 9 [14, 13, 12] [4, 3] ⟨[(14, (bB r5)), (13, (.p 4 0)), (12, (.p 3 0))], [(4, (.cells 24 [(sS A_r3 n_r3 c_r3), (sS A_r4 n_r4 c_r4)])), (3, (.cells 24 [(sS A_r1 n_r1 c_r1), (sS A_r2 n_r2 c_r2)]))], 5, [], []⟩ (by kernel_rfl) ?_
            refine WL_nil ?_
            refine WQ_code ?_
            refine WC_seq (WC_region ?_)
            refine WL_execS htb 4 [83, 80] [5] ⟨[(83, (.s 5 2 2)), (80, (bB r5))], [(5, (.cells 24 [(sS A_r1 n_r1 c_r1), (sS A_r2 n_r2 c_r2), (sS A_r3 n_r3 c_r3), (sS A_r4 n_r4 c_r4)]))], 6, [], []⟩ (by kernel_rfl) ?_
            refine WK_freezeV 5 rfl rfl rfl rfl ?_
            intro bk8 G7 hle hbk8
            replace h_r1 := h_r1.mono hle
            replace h_r2 := h_r2.mono hle
            replace h_r3 := h_r3.mono hle
            replace h_r4 := h_r4.mono hle
            show WK _ _ ⟨[(83, (sS (some ⟨bk8, 0, none⟩) 2 2)), (80, (bB r5))], [], 6, [], []⟩ _
            have hs9 : Sl (tPair (tSlice (tInt .i64)) (tSlice (tInt .i64))) G7 (some ⟨bk8, 0, none⟩) 2 2 [(r1, r2), (r3, r4)] := Sl.lit (cs := [.slice A_r1 n_r1 c_r1, .slice A_r2 n_r2 c_r2, .slice A_r3 n_r3 c_r3, .slice A_r4 n_r4 c_r4]) (RepsL.cons' (rep_pair h_r1.reps h_r2.reps) (RepsL.cons' (rep_pair h_r3.reps h_r4.reps) .nil)) hbk8 rfl (by unfold big; omega)
            have lhs9 := hs9.len'
            refine WL_op (WOp_call 48 [(bB r5), (sS (some ⟨bk8, 0, none⟩) 2 2)] (by kernel_rfl) (goes_of Try.func48 rfl rfl) (fun ρ w hW => these_ok hW.has (ok := r5) (xs := [(r1, r2), (r3, r4)]) hs9) ?_)
            intro G2 v hle hΦ
            replace hs9 := hs9.mono hle
            obtain ⟨r10, A_r10, n_r10, c_r10, r11, rfl, h_r10, hR12⟩ := hΦ
            have lh_r10 := h_r10.len'
            refine WL_execS htb 4 [7, 6] [] ⟨[(7, (bB r11)), (6, (sS A_r10 n_r10 c_r10))], [], 6, [], []⟩ (by kernel_rfl) ?_
            refine WL_nil ?_
            refine WQ_code ?_
            refine WC_ret ?_
            refine WQ_blk_ret ?_
            refine WQ_then_ret ?_
            exact WQ_done htb [(sS A_r10 n_r10 c_r10), (bB r11)] _ (.inl rfl) rfl (by kernel_rfl) (fun ρ w hW => ⟨r10, _, _, _, r11, rfl, h_r10, by rw [nextS_5 hk5, ← hR6, hR12]⟩)
          · replace hk5 := ne_of_beq_false hk5
            refine WC_skip ?_
            refine WQ_blk ?_
            refine WQ_code ?_
            refine WC_seq (WC_region ?_)
            refine WL_execS htb 2 [7, 6] [] ⟨[(7, (bB false)), (6, (sS none 0 0))], [], 3, [], []⟩ (by kernel_rfl) ?_
            refine WL_nil ?_
            refine WQ_code ?_
            refine WC_ret ?_
            exact WQ_done htb [(sS none 0 0), (bB false)] _ (.inl rfl) rfl (by kernel_rfl) (fun ρ w hW => ⟨[], _, _, _, false, rfl, (Sl.none0 _ _), by rw [nextS_0 hk1 hk2 hk3 hk4 hk5]⟩)

end Go.Proofs.Ytbpajkjolhoflaa.Sym
