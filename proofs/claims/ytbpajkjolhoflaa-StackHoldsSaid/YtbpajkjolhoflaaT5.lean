/- Walks of functions that the laws of this seat reach, printed by a program of this session's. -/
import Derived.Test.YtbpajkjolhoflaaT4
set_option linter.unusedSimpArgs false
set_option linter.unusedVariables false
set_option maxHeartbeats 4000000
namespace Go.Proofs.Ytbpajkjolhoflaa.Sym
open Go Go.Proofs Go.RowKit

def splitS (p : List Int × List Int) : (List Int × List Int) × (List Int × List Int) × Bool :=
  match p with
  | (x :: a, y :: b) => (([x], [y]), (a, b), true)
  | _ => (([], []), ([], []), false)
theorem splitS_no {a b : List Int} (h : (if ((b.length : Nat) : Int) < ((a.length : Nat) : Int) then ((b.length : Nat) : Int) else ((a.length : Nat) : Int)) = 0) : splitS (a, b) = (([], []), ([], []), false) := by
  cases a with
  | nil => rfl
  | cons x a => cases b with
    | nil => rfl
    | cons y b => simp only [List.length_cons] at h; split at h <;> omega
theorem splitS_yes {a b : List Int} {x y : Int} (h1 : a[0]? = some x) (h2 : b[0]? = some y) : splitS (a, b) = (([x], [y]), (a.drop 1, b.drop 1), true) := by
  cases a with
  | nil => simp at h1
  | cons x a => cases b with
    | nil => simp at h2
    | cons y b => simp at h1 h2; subst h1; subst h2; simp [splitS]
theorem split_ok {w : World} {G : Heap} (hG : Has w G) {a : (List Int)} {A_a : Option Addr} {n_a : Nat} {c_a : Nat} {b : (List Int)} {A_b : Option Addr} {n_b : Nat} {c_b : Nat} (h_a : Sl (tInt .i64) G A_a n_a c_a a) (h_b : Sl (tInt .i64) G A_b n_b c_b b) (hb1 : n_a ≤ 4000000000) (hb2 : n_b ≤ 4000000000) :
    Calls Try.prog 12 #[(.agg #[.slice A_a n_a c_a, .slice A_b n_b c_b])] w (Ret w G fun v G' => ∃ (r1 : (List Int)) (A_r1 : Option Addr) (n_r1 : Nat) (c_r1 : Nat) (r2 : (List Int)) (A_r2 : Option Addr) (n_r2 : Nat) (c_r2 : Nat) (r3 : (List Int)) (A_r3 : Option Addr) (n_r3 : Nat) (c_r3 : Nat) (r4 : (List Int)) (A_r4 : Option Addr) (n_r4 : Nat) (c_r4 : Nat) (ok : Bool), v = .tuple #[.agg #[.slice A_r1 n_r1 c_r1, .slice A_r2 n_r2 c_r2], .agg #[.slice A_r3 n_r3 c_r3, .slice A_r4 n_r4 c_r4], .bool ok] ∧ (Sl (tInt .i64) G' A_r1 n_r1 c_r1 r1) ∧ (Sl (tInt .i64) G' A_r2 n_r2 c_r2 r2) ∧ (Sl (tInt .i64) G' A_r3 n_r3 c_r3 r3) ∧ (Sl (tInt .i64) G' A_r4 n_r4 c_r4 r4) ∧ (((r1, r2), (r3, r4), ok) = splitS (a, b))) := by
  have lh_a := h_a.len'
  have lh_b := h_b.len'
  refine enter [(.agg [(sS A_a n_a c_a), (sS A_b n_b c_b)])] 33 Try.func12 rfl rfl rfl rfl hG ?_
  refine WC_seq (WC_region ?_)
  refine WL_execS htb 4 [3, 2, 1] [2, 1, 0] ⟨[(3, (.p 2 0)), (2, (.p 1 0)), (1, (.p 0 0))], [(2, (.cells 24 [(sS none 0 0), (sS none 0 0)])), (1, (.cells 24 [(sS none 0 0), (sS none 0 0)])), (0, (.cells 24 [(sS A_a n_a c_a), (sS A_b n_b c_b)]))], 3, [], []⟩ (by kernel_rfl) ?_
  refine WL_nil ?_
  refine WQ_code ?_
  refine WC_seq ?_
  refine WC_seq (WC_region ?_)
  refine WL_execS htb 8 [12, 3, 2, 1] [2, 1, 0] ⟨[(12, (bB (((if (((n_b : Nat) : Int) : Int) < ((n_a : Nat) : Int) then ((n_b : Nat) : Int) else ((n_a : Nat) : Int)) : Int) == 0))), (3, (.p 2 0)), (2, (.p 1 0)), (1, (.p 0 0))], [(2, (.cells 24 [(sS none 0 0), (sS none 0 0)])), (1, (.cells 24 [(sS none 0 0), (sS none 0 0)])), (0, (.cells 24 [(sS A_a n_a c_a), (sS A_b n_b c_b)]))], 3, [], []⟩ (by kernel_rfl) ?_
  refine WL_nil ?_
  refine WQ_code ?_
  refine WC_cond (b := (((if (((n_b : Nat) : Int) : Int) < ((n_a : Nat) : Int) then ((n_b : Nat) : Int) else ((n_a : Nat) : Int)) : Int) == 0)) rfl (fun hb => ?_) (fun hb => ?_)
  · replace hb := eq_of_beq hb
    refine WC_seq (WC_region ?_)
    refine WL_execS htb 5 [4, 3, 2] [2, 1] ⟨[(4, (bB false)), (3, (.p 2 0)), (2, (.p 1 0))], [(2, (.cells 24 [(sS none 0 0), (sS none 0 0)])), (1, (.cells 24 [(sS none 0 0), (sS none 0 0)]))], 3, [], []⟩ (by kernel_rfl) ?_
    refine WL_nil ?_
    refine WQ_code ?_
    refine WC_ret ?_
    refine WQ_then_ret ?_
    exact WQ_done htb [(.agg [(sS none 0 0), (sS none 0 0)]), (.agg [(sS none 0 0), (sS none 0 0)]), (bB false)] _ (.inl rfl) rfl (by kernel_rfl) (fun ρ w hW => ⟨[], _, _, _, [], _, _, _, [], _, _, _, [], _, _, _, false, rfl, (Sl.none0 _ _), (Sl.none0 _ _), (Sl.none0 _ _), (Sl.none0 _ _), (splitS_no (by omega)).symm⟩)
  · replace hb := ne_of_beq_false hb
    have ha : 0 < n_a ∧ 0 < n_b := by split at hb <;> omega
    refine WC_skip ?_
    refine WQ_code ?_
    refine WK_keep [3, 2, 1] [2, 1, 0] rfl rfl ?_
    refine WK_freeze 0 rfl rfl rfl rfl ?_
    intro bk2 G1 hle hbk2
    replace h_a := h_a.mono hle
    replace h_b := h_b.mono hle
    have hz := FZ.cons (h := 0) hbk2 rfl (FZ.nil _)
    refine WC_seq (WC_draw mixed ?_)
    refine WD_takeL htb rfl (fun _ _ _ _ _ h => h) (Le.refl _) [0, 1, 5, 6, 11, 12, 14, 15] (fuel := 13) (listed' := bts 21 55395) (S' := ⟨[(30, (sS A_b n_b c_b)), (29, (.p 0 1)), (27, (sS A_a n_a c_a)), (26, (.p 0 0)), (21, (sS A_b n_b c_b)), (20, (.p 0 1)), (16, (sS A_a n_a c_a)), (15, (.p 0 0)), (3, (.p 2 0)), (2, (.p 1 0)), (1, (.p 0 0))], [(2, (.cells 24 [(sS none 0 0), (sS none 0 0)])), (1, (.cells 24 [(sS none 0 0), (sS none 0 0)]))], 3, [], [(0, bk2, (.cells 24 [(sS A_a n_a c_a), (sS A_b n_b c_b)]))]⟩) hz (by kernel_rfl) rfl ?_
    obtain ⟨q3, rfl⟩ := h_a.ptr (by omega)
    obtain ⟨x6, _, hx4, ⟨rfl, hn7⟩, at5⟩ := h_a.get 0 (by omega)
    have bdhn7 : -9223372036854775808 ≤ x6 ∧ x6 ≤ 9223372036854775807 := bd_of hn7
    replace at5 : At G1 (q3.add (0 * 1)) [.int .i64 x6] := at5
    refine WD_idx htb 2 (by rfl) rfl (by decide +kernel) (fun _ _ _ _ _ h => h) (Le.refl _) q3 n_a 0 1 (by kernel_rfl) (by omega) (by omega) ?_
    refine WD_ld htb 3 (by rfl) rfl (by decide +kernel) (fun _ _ _ _ _ h => h) (Le.refl _) (q3.add (0 * 1)) false 1 [.int .i64 x6] (by kernel_rfl) at5 rfl (by decide) ?_
    obtain ⟨q8, rfl⟩ := h_b.ptr (by omega)
    obtain ⟨x11, _, hx9, ⟨rfl, hn12⟩, at10⟩ := h_b.get 0 (by omega)
    have bdhn12 : -9223372036854775808 ≤ x11 ∧ x11 ≤ 9223372036854775807 := bd_of hn12
    replace at10 : At G1 (q8.add (0 * 1)) [.int .i64 x11] := at10
    refine WD_idx htb 7 (by rfl) rfl (by decide +kernel) (fun _ _ _ _ _ h => h) (Le.refl _) q8 n_b 0 1 (by kernel_rfl) (by omega) (by omega) ?_
    refine WD_ld htb 8 (by rfl) rfl (by decide +kernel) (fun _ _ _ _ _ h => h) (Le.refl _) (q8.add (0 * 1)) false 1 [.int .i64 x11] (by kernel_rfl) at10 rfl (by decide) ?_
    refine WD_join (ι := Option Addr × Nat × Nat × Option Addr × Nat × Nat × Option Addr × Nat × Nat × Option Addr × Nat × Nat) (fun (A13, n14, c15, A17, n18, c19, A21, n22, c23, A25, n26, c27) G' => Le G1 G' ∧ Sl (tInt .i64) G' A13 n14 c15 ([x6]) ∧ Sl (tInt .i64) G' A17 n18 c19 ([x11]) ∧ Sl (tInt .i64) G' A21 n22 c23 (a.drop 1) ∧ Sl (tInt .i64) G' A25 n26 c27 (b.drop 1)) (fun (A13, n14, c15, A17, n18, c19, A21, n22, c23, A25, n26, c27) => ⟨[(32, (.agg [(sS A21 n22 c23), (sS A25 n26 c27)])), (25, (.agg [(sS A13 n14 c15), (sS A17 n18 c19)])), (19, (sS A13 n14 c15)), (24, (sS A17 n18 c19)), (28, (sS A21 n22 c23)), (31, (sS A25 n26 c27)), (23, (iI x11)), (22, (.v (.pointer (some (q8.add (0 * 1)))))), (18, (iI x6)), (17, (.v (.pointer (some (q3.add (0 * 1)))))), (30, (sS (some q8) n_b c_b)), (29, (.p 0 1)), (27, (sS (some q3) n_a c_a)), (26, (.p 0 0)), (21, (sS (some q8) n_b c_b)), (20, (.p 0 1)), (16, (sS (some q3) n_a c_a)), (15, (.p 0 0)), (3, (.p 2 0)), (2, (.p 1 0)), (1, (.p 0 0))], [(2, (.cells 24 [(sS none 0 0), (sS none 0 0)])), (1, (.cells 24 [(sS none 0 0), (sS none 0 0)]))], 3, [], [(0, bk2, (.cells 24 [(sS (some q3) n_a c_a), (sS (some q8) n_b c_b)]))]⟩) 3 #[true, true, true, true, true, true, true, true, true, true, true, true, true, true, true, true, true, true, false, false, false] ?cont (fun hK29 => ?now)
    case now =>
      have hc30 := Le.refl G1
      refine WD_three 4 9 13 (by rfl) (by rfl) (by rfl) (by decide +kernel) ?_ ?_ ?_
      · skip
        refine WOp_step htb (S' := ⟨[(19, (.s 3 1 1)), (23, (iI x11)), (22, (.v (.pointer (some (q8.add (0 * 1)))))), (18, (iI x6)), (17, (.v (.pointer (some (q3.add (0 * 1)))))), (30, (sS (some q8) n_b c_b)), (29, (.p 0 1)), (27, (sS (some q3) n_a c_a)), (26, (.p 0 0)), (21, (sS (some q8) n_b c_b)), (20, (.p 0 1)), (16, (sS (some q3) n_a c_a)), (15, (.p 0 0)), (3, (.p 2 0)), (2, (.p 1 0)), (1, (.p 0 0))], [(3, (.cells 3 [(iI x6)])), (2, (.cells 24 [(sS none 0 0), (sS none 0 0)])), (1, (.cells 24 [(sS none 0 0), (sS none 0 0)]))], 4, [], [(0, bk2, (.cells 24 [(sS (some q3) n_a c_a), (sS (some q8) n_b c_b)]))]⟩) (by kernel_rfl) (WD_on (Le.refl _) ?_)
        refine WK_freezeV 3 rfl rfl rfl rfl ?_
        intro bk32 G31 hle hbk32
        replace hc30 := Le.trans hc30 hle
        replace h_a := h_a.mono hle
        replace h_b := h_b.mono hle
        replace at5 := at5.mono hle
        replace at10 := at10.mono hle
        replace hz := hz.mono hle
        refine WD_up hle ?_
        show WK _ _ ⟨[(19, (sS (some ⟨bk32, 0, none⟩) 1 1)), (23, (iI x11)), (22, (.v (.pointer (some (q8.add (0 * 1)))))), (18, (iI x6)), (17, (.v (.pointer (some (q3.add (0 * 1)))))), (30, (sS (some q8) n_b c_b)), (29, (.p 0 1)), (27, (sS (some q3) n_a c_a)), (26, (.p 0 0)), (21, (sS (some q8) n_b c_b)), (20, (.p 0 1)), (16, (sS (some q3) n_a c_a)), (15, (.p 0 0)), (3, (.p 2 0)), (2, (.p 1 0)), (1, (.p 0 0))], [(2, (.cells 24 [(sS none 0 0), (sS none 0 0)])), (1, (.cells 24 [(sS none 0 0), (sS none 0 0)]))], 4, [], [(0, bk2, (.cells 24 [(sS (some q3) n_a c_a), (sS (some q8) n_b c_b)]))]⟩ _
        have hs33 : Sl (tInt .i64) G31 (some ⟨bk32, 0, none⟩) 1 1 [x6] := Sl.lit (cs := [.int .i64 x6]) (RepsL.cons' (rep_int _ (x := x6) (bd_of hn7)) .nil) hbk32 rfl (by unfold big; omega)
        have lhs33 := hs33.len'
        refine WD_two 9 13 (by rfl) (by rfl) (by decide +kernel) ?_ ?_
        · skip
          refine WOp_step htb (S' := ⟨[(24, (.s 4 1 1)), (19, (sS (some ⟨bk32, 0, none⟩) 1 1)), (23, (iI x11)), (22, (.v (.pointer (some (q8.add (0 * 1)))))), (18, (iI x6)), (17, (.v (.pointer (some (q3.add (0 * 1)))))), (30, (sS (some q8) n_b c_b)), (29, (.p 0 1)), (27, (sS (some q3) n_a c_a)), (26, (.p 0 0)), (21, (sS (some q8) n_b c_b)), (20, (.p 0 1)), (16, (sS (some q3) n_a c_a)), (15, (.p 0 0)), (3, (.p 2 0)), (2, (.p 1 0)), (1, (.p 0 0))], [(4, (.cells 3 [(iI x11)])), (2, (.cells 24 [(sS none 0 0), (sS none 0 0)])), (1, (.cells 24 [(sS none 0 0), (sS none 0 0)]))], 5, [], [(0, bk2, (.cells 24 [(sS (some q3) n_a c_a), (sS (some q8) n_b c_b)]))]⟩) (by kernel_rfl) (WD_on (Le.refl _) ?_)
          refine WK_freezeV 4 rfl rfl rfl rfl ?_
          intro bk35 G34 hle hbk35
          replace hc30 := Le.trans hc30 hle
          replace h_a := h_a.mono hle
          replace h_b := h_b.mono hle
          replace at5 := at5.mono hle
          replace at10 := at10.mono hle
          replace hs33 := hs33.mono hle
          replace hz := hz.mono hle
          refine WD_up hle ?_
          show WK _ _ ⟨[(24, (sS (some ⟨bk35, 0, none⟩) 1 1)), (19, (sS (some ⟨bk32, 0, none⟩) 1 1)), (23, (iI x11)), (22, (.v (.pointer (some (q8.add (0 * 1)))))), (18, (iI x6)), (17, (.v (.pointer (some (q3.add (0 * 1)))))), (30, (sS (some q8) n_b c_b)), (29, (.p 0 1)), (27, (sS (some q3) n_a c_a)), (26, (.p 0 0)), (21, (sS (some q8) n_b c_b)), (20, (.p 0 1)), (16, (sS (some q3) n_a c_a)), (15, (.p 0 0)), (3, (.p 2 0)), (2, (.p 1 0)), (1, (.p 0 0))], [(2, (.cells 24 [(sS none 0 0), (sS none 0 0)])), (1, (.cells 24 [(sS none 0 0), (sS none 0 0)]))], 5, [], [(0, bk2, (.cells 24 [(sS (some q3) n_a c_a), (sS (some q8) n_b c_b)]))]⟩ _
          have hs36 : Sl (tInt .i64) G34 (some ⟨bk35, 0, none⟩) 1 1 [x11] := Sl.lit (cs := [.int .i64 x11]) (RepsL.cons' (rep_int _ (x := x11) (bd_of hn12)) .nil) hbk35 rfl (by unfold big; omega)
          have lhs36 := hs36.len'
          refine WD_takeL htb rfl (fun _ _ _ _ _ h => h) (Le.refl _) [10] (fuel := 6) (listed' := bts 21 57343) (S' := ⟨[(25, (.agg [(sS (some ⟨bk32, 0, none⟩) 1 1), (sS (some ⟨bk35, 0, none⟩) 1 1)])), (24, (sS (some ⟨bk35, 0, none⟩) 1 1)), (19, (sS (some ⟨bk32, 0, none⟩) 1 1)), (23, (iI x11)), (22, (.v (.pointer (some (q8.add (0 * 1)))))), (18, (iI x6)), (17, (.v (.pointer (some (q3.add (0 * 1)))))), (30, (sS (some q8) n_b c_b)), (29, (.p 0 1)), (27, (sS (some q3) n_a c_a)), (26, (.p 0 0)), (21, (sS (some q8) n_b c_b)), (20, (.p 0 1)), (16, (sS (some q3) n_a c_a)), (15, (.p 0 0)), (3, (.p 2 0)), (2, (.p 1 0)), (1, (.p 0 0))], [(2, (.cells 24 [(sS none 0 0), (sS none 0 0)])), (1, (.cells 24 [(sS none 0 0), (sS none 0 0)]))], 5, [], [(0, bk2, (.cells 24 [(sS (some q3) n_a c_a), (sS (some q8) n_b c_b)]))]⟩) hz (by kernel_rfl) rfl ?_
          refine WD_one 13 (by rfl) (by decide +kernel) (WOp_call 41 [(sS (some q3) n_a c_a)] (by kernel_rfl) (goes_of Try.func41 rfl rfl) (fun ρ w hW => rest_ok hW.has (xs := a) h_a (by omega) (by omega)) ?_)
          intro G1 v hle hΦ
          replace hc30 := Le.trans hc30 hle
          replace h_a := h_a.mono hle
          replace h_b := h_b.mono hle
          replace at5 := at5.mono hle
          replace at10 := at10.mono hle
          replace hs33 := hs33.mono hle
          replace hs36 := hs36.mono hle
          replace hz := hz.mono hle
          obtain ⟨A_r37, n_r37, c_r37, rfl, h_r37, hR38⟩ := hΦ
          have lh_r37 := h_r37.len'
          refine WD_on hle ?_
          refine WD_up hle ?_
          refine WD_one 16 (by rfl) (by decide +kernel) (WOp_call 41 [(sS (some q8) n_b c_b)] (by kernel_rfl) (goes_of Try.func41 rfl rfl) (fun ρ w hW => rest_ok hW.has (xs := b) h_b (by omega) (by omega)) ?_)
          intro G2 v hle hΦ
          replace hc30 := Le.trans hc30 hle
          replace h_a := h_a.mono hle
          replace h_b := h_b.mono hle
          replace at5 := at5.mono hle
          replace at10 := at10.mono hle
          replace hs33 := hs33.mono hle
          replace hs36 := hs36.mono hle
          replace h_r37 := h_r37.mono hle
          replace hz := hz.mono hle
          obtain ⟨A_r39, n_r39, c_r39, rfl, h_r39, hR40⟩ := hΦ
          have lh_r39 := h_r39.len'
          refine WD_on hle ?_
          refine WD_up hle ?_
          refine WD_takeL htb rfl (fun _ _ _ _ _ h => h) (Le.refl _) [17] (fuel := 3) (listed' := bts 21 262143) (S' := ⟨[(32, (.agg [(sS A_r37 n_r37 c_r37), (sS A_r39 n_r39 c_r39)])), (31, (sS A_r39 n_r39 c_r39)), (28, (sS A_r37 n_r37 c_r37)), (25, (.agg [(sS (some ⟨bk32, 0, none⟩) 1 1), (sS (some ⟨bk35, 0, none⟩) 1 1)])), (24, (sS (some ⟨bk35, 0, none⟩) 1 1)), (19, (sS (some ⟨bk32, 0, none⟩) 1 1)), (23, (iI x11)), (22, (.v (.pointer (some (q8.add (0 * 1)))))), (18, (iI x6)), (17, (.v (.pointer (some (q3.add (0 * 1)))))), (30, (sS (some q8) n_b c_b)), (29, (.p 0 1)), (27, (sS (some q3) n_a c_a)), (26, (.p 0 0)), (21, (sS (some q8) n_b c_b)), (20, (.p 0 1)), (16, (sS (some q3) n_a c_a)), (15, (.p 0 0)), (3, (.p 2 0)), (2, (.p 1 0)), (1, (.p 0 0))], [(2, (.cells 24 [(sS none 0 0), (sS none 0 0)])), (1, (.cells 24 [(sS none 0 0), (sS none 0 0)]))], 5, [], [(0, bk2, (.cells 24 [(sS (some q3) n_a c_a), (sS (some q8) n_b c_b)]))]⟩) hz (by kernel_rfl) rfl ?_
          refine WK_keep [32, 25, 19, 24, 28, 31, 23, 22, 18, 17, 30, 29, 27, 26, 21, 20, 16, 15, 3, 2, 1] [2, 1] rfl rfl ?_
          refine WK_ren (T := ⟨[(32, (.agg [(sS A_r37 n_r37 c_r37), (sS A_r39 n_r39 c_r39)])), (25, (.agg [(sS (some ⟨bk32, 0, none⟩) 1 1), (sS (some ⟨bk35, 0, none⟩) 1 1)])), (19, (sS (some ⟨bk32, 0, none⟩) 1 1)), (24, (sS (some ⟨bk35, 0, none⟩) 1 1)), (28, (sS A_r37 n_r37 c_r37)), (31, (sS A_r39 n_r39 c_r39)), (23, (iI x11)), (22, (.v (.pointer (some (q8.add (0 * 1)))))), (18, (iI x6)), (17, (.v (.pointer (some (q3.add (0 * 1)))))), (30, (sS (some q8) n_b c_b)), (29, (.p 0 1)), (27, (sS (some q3) n_a c_a)), (26, (.p 0 0)), (21, (sS (some q8) n_b c_b)), (20, (.p 0 1)), (16, (sS (some q3) n_a c_a)), (15, (.p 0 0)), (3, (.p 2 0)), (2, (.p 1 0)), (1, (.p 0 0))], [(2, (.cells 24 [(sS none 0 0), (sS none 0 0)])), (1, (.cells 24 [(sS none 0 0), (sS none 0 0)]))], 3, [], [(0, bk2, (.cells 24 [(sS (some q3) n_a c_a), (sS (some q8) n_b c_b)]))]⟩) [] rfl rfl rfl rfl rfl rfl ?_
          exact hK29 ((some ⟨bk32, 0, none⟩), 1, 1, (some ⟨bk35, 0, none⟩), 1, 1, A_r37, n_r37, c_r37, A_r39, n_r39, c_r39) G2 ⟨hc30, hs33, hs36, h_r37, h_r39⟩
        · skip
          refine WOp_call 41 [(sS (some q3) n_a c_a)] (by kernel_rfl) (goes_of Try.func41 rfl rfl) (fun ρ w hW => rest_ok hW.has (xs := a) h_a (by omega) (by omega)) ?_
          intro G1 v hle hΦ
          replace hc30 := Le.trans hc30 hle
          replace h_a := h_a.mono hle
          replace h_b := h_b.mono hle
          replace at5 := at5.mono hle
          replace at10 := at10.mono hle
          replace hs33 := hs33.mono hle
          replace hz := hz.mono hle
          obtain ⟨A_r34, n_r34, c_r34, rfl, h_r34, hR35⟩ := hΦ
          have lh_r34 := h_r34.len'
          refine WD_on hle ?_
          refine WD_up hle ?_
          refine WD_two 9 16 (by rfl) (by rfl) (by decide +kernel) ?_ ?_
          · skip
            refine WOp_step htb (S' := ⟨[(24, (.s 4 1 1)), (28, (sS A_r34 n_r34 c_r34)), (19, (sS (some ⟨bk32, 0, none⟩) 1 1)), (23, (iI x11)), (22, (.v (.pointer (some (q8.add (0 * 1)))))), (18, (iI x6)), (17, (.v (.pointer (some (q3.add (0 * 1)))))), (30, (sS (some q8) n_b c_b)), (29, (.p 0 1)), (27, (sS (some q3) n_a c_a)), (26, (.p 0 0)), (21, (sS (some q8) n_b c_b)), (20, (.p 0 1)), (16, (sS (some q3) n_a c_a)), (15, (.p 0 0)), (3, (.p 2 0)), (2, (.p 1 0)), (1, (.p 0 0))], [(4, (.cells 3 [(iI x11)])), (2, (.cells 24 [(sS none 0 0), (sS none 0 0)])), (1, (.cells 24 [(sS none 0 0), (sS none 0 0)]))], 5, [], [(0, bk2, (.cells 24 [(sS (some q3) n_a c_a), (sS (some q8) n_b c_b)]))]⟩) (by kernel_rfl) (WD_on (Le.refl _) ?_)
            refine WK_freezeV 4 rfl rfl rfl rfl ?_
            intro bk37 G36 hle hbk37
            replace hc30 := Le.trans hc30 hle
            replace h_a := h_a.mono hle
            replace h_b := h_b.mono hle
            replace at5 := at5.mono hle
            replace at10 := at10.mono hle
            replace hs33 := hs33.mono hle
            replace h_r34 := h_r34.mono hle
            replace hz := hz.mono hle
            refine WD_up hle ?_
            show WK _ _ ⟨[(24, (sS (some ⟨bk37, 0, none⟩) 1 1)), (28, (sS A_r34 n_r34 c_r34)), (19, (sS (some ⟨bk32, 0, none⟩) 1 1)), (23, (iI x11)), (22, (.v (.pointer (some (q8.add (0 * 1)))))), (18, (iI x6)), (17, (.v (.pointer (some (q3.add (0 * 1)))))), (30, (sS (some q8) n_b c_b)), (29, (.p 0 1)), (27, (sS (some q3) n_a c_a)), (26, (.p 0 0)), (21, (sS (some q8) n_b c_b)), (20, (.p 0 1)), (16, (sS (some q3) n_a c_a)), (15, (.p 0 0)), (3, (.p 2 0)), (2, (.p 1 0)), (1, (.p 0 0))], [(2, (.cells 24 [(sS none 0 0), (sS none 0 0)])), (1, (.cells 24 [(sS none 0 0), (sS none 0 0)]))], 5, [], [(0, bk2, (.cells 24 [(sS (some q3) n_a c_a), (sS (some q8) n_b c_b)]))]⟩ _
            have hs38 : Sl (tInt .i64) G36 (some ⟨bk37, 0, none⟩) 1 1 [x11] := Sl.lit (cs := [.int .i64 x11]) (RepsL.cons' (rep_int _ (x := x11) (bd_of hn12)) .nil) hbk37 rfl (by unfold big; omega)
            have lhs38 := hs38.len'
            refine WD_takeL htb rfl (fun _ _ _ _ _ h => h) (Le.refl _) [10] (fuel := 5) (listed' := bts 21 65535) (S' := ⟨[(25, (.agg [(sS (some ⟨bk32, 0, none⟩) 1 1), (sS (some ⟨bk37, 0, none⟩) 1 1)])), (24, (sS (some ⟨bk37, 0, none⟩) 1 1)), (28, (sS A_r34 n_r34 c_r34)), (19, (sS (some ⟨bk32, 0, none⟩) 1 1)), (23, (iI x11)), (22, (.v (.pointer (some (q8.add (0 * 1)))))), (18, (iI x6)), (17, (.v (.pointer (some (q3.add (0 * 1)))))), (30, (sS (some q8) n_b c_b)), (29, (.p 0 1)), (27, (sS (some q3) n_a c_a)), (26, (.p 0 0)), (21, (sS (some q8) n_b c_b)), (20, (.p 0 1)), (16, (sS (some q3) n_a c_a)), (15, (.p 0 0)), (3, (.p 2 0)), (2, (.p 1 0)), (1, (.p 0 0))], [(2, (.cells 24 [(sS none 0 0), (sS none 0 0)])), (1, (.cells 24 [(sS none 0 0), (sS none 0 0)]))], 5, [], [(0, bk2, (.cells 24 [(sS (some q3) n_a c_a), (sS (some q8) n_b c_b)]))]⟩) hz (by kernel_rfl) rfl ?_
            refine WD_one 16 (by rfl) (by decide +kernel) (WOp_call 41 [(sS (some q8) n_b c_b)] (by kernel_rfl) (goes_of Try.func41 rfl rfl) (fun ρ w hW => rest_ok hW.has (xs := b) h_b (by omega) (by omega)) ?_)
            intro G2 v hle hΦ
            replace hc30 := Le.trans hc30 hle
            replace h_a := h_a.mono hle
            replace h_b := h_b.mono hle
            replace at5 := at5.mono hle
            replace at10 := at10.mono hle
            replace hs33 := hs33.mono hle
            replace h_r34 := h_r34.mono hle
            replace hs38 := hs38.mono hle
            replace hz := hz.mono hle
            obtain ⟨A_r39, n_r39, c_r39, rfl, h_r39, hR40⟩ := hΦ
            have lh_r39 := h_r39.len'
            refine WD_on hle ?_
            refine WD_up hle ?_
            refine WD_takeL htb rfl (fun _ _ _ _ _ h => h) (Le.refl _) [17] (fuel := 3) (listed' := bts 21 262143) (S' := ⟨[(32, (.agg [(sS A_r34 n_r34 c_r34), (sS A_r39 n_r39 c_r39)])), (31, (sS A_r39 n_r39 c_r39)), (25, (.agg [(sS (some ⟨bk32, 0, none⟩) 1 1), (sS (some ⟨bk37, 0, none⟩) 1 1)])), (24, (sS (some ⟨bk37, 0, none⟩) 1 1)), (28, (sS A_r34 n_r34 c_r34)), (19, (sS (some ⟨bk32, 0, none⟩) 1 1)), (23, (iI x11)), (22, (.v (.pointer (some (q8.add (0 * 1)))))), (18, (iI x6)), (17, (.v (.pointer (some (q3.add (0 * 1)))))), (30, (sS (some q8) n_b c_b)), (29, (.p 0 1)), (27, (sS (some q3) n_a c_a)), (26, (.p 0 0)), (21, (sS (some q8) n_b c_b)), (20, (.p 0 1)), (16, (sS (some q3) n_a c_a)), (15, (.p 0 0)), (3, (.p 2 0)), (2, (.p 1 0)), (1, (.p 0 0))], [(2, (.cells 24 [(sS none 0 0), (sS none 0 0)])), (1, (.cells 24 [(sS none 0 0), (sS none 0 0)]))], 5, [], [(0, bk2, (.cells 24 [(sS (some q3) n_a c_a), (sS (some q8) n_b c_b)]))]⟩) hz (by kernel_rfl) rfl ?_
            refine WK_keep [32, 25, 19, 24, 28, 31, 23, 22, 18, 17, 30, 29, 27, 26, 21, 20, 16, 15, 3, 2, 1] [2, 1] rfl rfl ?_
            refine WK_ren (T := ⟨[(32, (.agg [(sS A_r34 n_r34 c_r34), (sS A_r39 n_r39 c_r39)])), (25, (.agg [(sS (some ⟨bk32, 0, none⟩) 1 1), (sS (some ⟨bk37, 0, none⟩) 1 1)])), (19, (sS (some ⟨bk32, 0, none⟩) 1 1)), (24, (sS (some ⟨bk37, 0, none⟩) 1 1)), (28, (sS A_r34 n_r34 c_r34)), (31, (sS A_r39 n_r39 c_r39)), (23, (iI x11)), (22, (.v (.pointer (some (q8.add (0 * 1)))))), (18, (iI x6)), (17, (.v (.pointer (some (q3.add (0 * 1)))))), (30, (sS (some q8) n_b c_b)), (29, (.p 0 1)), (27, (sS (some q3) n_a c_a)), (26, (.p 0 0)), (21, (sS (some q8) n_b c_b)), (20, (.p 0 1)), (16, (sS (some q3) n_a c_a)), (15, (.p 0 0)), (3, (.p 2 0)), (2, (.p 1 0)), (1, (.p 0 0))], [(2, (.cells 24 [(sS none 0 0), (sS none 0 0)])), (1, (.cells 24 [(sS none 0 0), (sS none 0 0)]))], 3, [], [(0, bk2, (.cells 24 [(sS (some q3) n_a c_a), (sS (some q8) n_b c_b)]))]⟩) [] rfl rfl rfl rfl rfl rfl ?_
            exact hK29 ((some ⟨bk32, 0, none⟩), 1, 1, (some ⟨bk37, 0, none⟩), 1, 1, A_r34, n_r34, c_r34, A_r39, n_r39, c_r39) G2 ⟨hc30, hs33, hs38, h_r34, h_r39⟩
          · skip
            refine WOp_call 41 [(sS (some q8) n_b c_b)] (by kernel_rfl) (goes_of Try.func41 rfl rfl) (fun ρ w hW => rest_ok hW.has (xs := b) h_b (by omega) (by omega)) ?_
            intro G2 v hle hΦ
            replace hc30 := Le.trans hc30 hle
            replace h_a := h_a.mono hle
            replace h_b := h_b.mono hle
            replace at5 := at5.mono hle
            replace at10 := at10.mono hle
            replace hs33 := hs33.mono hle
            replace h_r34 := h_r34.mono hle
            replace hz := hz.mono hle
            obtain ⟨A_r36, n_r36, c_r36, rfl, h_r36, hR37⟩ := hΦ
            have lh_r36 := h_r36.len'
            refine WD_on hle ?_
            refine WD_up hle ?_
            refine WD_takeL htb rfl (fun _ _ _ _ _ h => h) (Le.refl _) [17] (fuel := 5) (listed' := bts 21 260607) (S' := ⟨[(32, (.agg [(sS A_r34 n_r34 c_r34), (sS A_r36 n_r36 c_r36)])), (31, (sS A_r36 n_r36 c_r36)), (28, (sS A_r34 n_r34 c_r34)), (19, (sS (some ⟨bk32, 0, none⟩) 1 1)), (23, (iI x11)), (22, (.v (.pointer (some (q8.add (0 * 1)))))), (18, (iI x6)), (17, (.v (.pointer (some (q3.add (0 * 1)))))), (30, (sS (some q8) n_b c_b)), (29, (.p 0 1)), (27, (sS (some q3) n_a c_a)), (26, (.p 0 0)), (21, (sS (some q8) n_b c_b)), (20, (.p 0 1)), (16, (sS (some q3) n_a c_a)), (15, (.p 0 0)), (3, (.p 2 0)), (2, (.p 1 0)), (1, (.p 0 0))], [(2, (.cells 24 [(sS none 0 0), (sS none 0 0)])), (1, (.cells 24 [(sS none 0 0), (sS none 0 0)]))], 4, [], [(0, bk2, (.cells 24 [(sS (some q3) n_a c_a), (sS (some q8) n_b c_b)]))]⟩) hz (by kernel_rfl) rfl ?_
            refine WD_one 9 (by rfl) (by decide +kernel) (WOp_step htb (S' := ⟨[(24, (.s 4 1 1)), (32, (.agg [(sS A_r34 n_r34 c_r34), (sS A_r36 n_r36 c_r36)])), (31, (sS A_r36 n_r36 c_r36)), (28, (sS A_r34 n_r34 c_r34)), (19, (sS (some ⟨bk32, 0, none⟩) 1 1)), (23, (iI x11)), (22, (.v (.pointer (some (q8.add (0 * 1)))))), (18, (iI x6)), (17, (.v (.pointer (some (q3.add (0 * 1)))))), (30, (sS (some q8) n_b c_b)), (29, (.p 0 1)), (27, (sS (some q3) n_a c_a)), (26, (.p 0 0)), (21, (sS (some q8) n_b c_b)), (20, (.p 0 1)), (16, (sS (some q3) n_a c_a)), (15, (.p 0 0)), (3, (.p 2 0)), (2, (.p 1 0)), (1, (.p 0 0))], [(4, (.cells 3 [(iI x11)])), (2, (.cells 24 [(sS none 0 0), (sS none 0 0)])), (1, (.cells 24 [(sS none 0 0), (sS none 0 0)]))], 5, [], [(0, bk2, (.cells 24 [(sS (some q3) n_a c_a), (sS (some q8) n_b c_b)]))]⟩) (by kernel_rfl) (WD_on (Le.refl _) ?_))
            refine WK_freezeV 4 rfl rfl rfl rfl ?_
            intro bk39 G38 hle hbk39
            replace hc30 := Le.trans hc30 hle
            replace h_a := h_a.mono hle
            replace h_b := h_b.mono hle
            replace at5 := at5.mono hle
            replace at10 := at10.mono hle
            replace hs33 := hs33.mono hle
            replace h_r34 := h_r34.mono hle
            replace h_r36 := h_r36.mono hle
            replace hz := hz.mono hle
            refine WD_up hle ?_
            show WK _ _ ⟨[(24, (sS (some ⟨bk39, 0, none⟩) 1 1)), (32, (.agg [(sS A_r34 n_r34 c_r34), (sS A_r36 n_r36 c_r36)])), (31, (sS A_r36 n_r36 c_r36)), (28, (sS A_r34 n_r34 c_r34)), (19, (sS (some ⟨bk32, 0, none⟩) 1 1)), (23, (iI x11)), (22, (.v (.pointer (some (q8.add (0 * 1)))))), (18, (iI x6)), (17, (.v (.pointer (some (q3.add (0 * 1)))))), (30, (sS (some q8) n_b c_b)), (29, (.p 0 1)), (27, (sS (some q3) n_a c_a)), (26, (.p 0 0)), (21, (sS (some q8) n_b c_b)), (20, (.p 0 1)), (16, (sS (some q3) n_a c_a)), (15, (.p 0 0)), (3, (.p 2 0)), (2, (.p 1 0)), (1, (.p 0 0))], [(2, (.cells 24 [(sS none 0 0), (sS none 0 0)])), (1, (.cells 24 [(sS none 0 0), (sS none 0 0)]))], 5, [], [(0, bk2, (.cells 24 [(sS (some q3) n_a c_a), (sS (some q8) n_b c_b)]))]⟩ _
            have hs40 : Sl (tInt .i64) G38 (some ⟨bk39, 0, none⟩) 1 1 [x11] := Sl.lit (cs := [.int .i64 x11]) (RepsL.cons' (rep_int _ (x := x11) (bd_of hn12)) .nil) hbk39 rfl (by unfold big; omega)
            have lhs40 := hs40.len'
            refine WD_takeL htb rfl (fun _ _ _ _ _ h => h) (Le.refl _) [10] (fuel := 3) (listed' := bts 21 262143) (S' := ⟨[(25, (.agg [(sS (some ⟨bk32, 0, none⟩) 1 1), (sS (some ⟨bk39, 0, none⟩) 1 1)])), (24, (sS (some ⟨bk39, 0, none⟩) 1 1)), (32, (.agg [(sS A_r34 n_r34 c_r34), (sS A_r36 n_r36 c_r36)])), (31, (sS A_r36 n_r36 c_r36)), (28, (sS A_r34 n_r34 c_r34)), (19, (sS (some ⟨bk32, 0, none⟩) 1 1)), (23, (iI x11)), (22, (.v (.pointer (some (q8.add (0 * 1)))))), (18, (iI x6)), (17, (.v (.pointer (some (q3.add (0 * 1)))))), (30, (sS (some q8) n_b c_b)), (29, (.p 0 1)), (27, (sS (some q3) n_a c_a)), (26, (.p 0 0)), (21, (sS (some q8) n_b c_b)), (20, (.p 0 1)), (16, (sS (some q3) n_a c_a)), (15, (.p 0 0)), (3, (.p 2 0)), (2, (.p 1 0)), (1, (.p 0 0))], [(2, (.cells 24 [(sS none 0 0), (sS none 0 0)])), (1, (.cells 24 [(sS none 0 0), (sS none 0 0)]))], 5, [], [(0, bk2, (.cells 24 [(sS (some q3) n_a c_a), (sS (some q8) n_b c_b)]))]⟩) hz (by kernel_rfl) rfl ?_
            refine WK_keep [32, 25, 19, 24, 28, 31, 23, 22, 18, 17, 30, 29, 27, 26, 21, 20, 16, 15, 3, 2, 1] [2, 1] rfl rfl ?_
            refine WK_ren (T := ⟨[(32, (.agg [(sS A_r34 n_r34 c_r34), (sS A_r36 n_r36 c_r36)])), (25, (.agg [(sS (some ⟨bk32, 0, none⟩) 1 1), (sS (some ⟨bk39, 0, none⟩) 1 1)])), (19, (sS (some ⟨bk32, 0, none⟩) 1 1)), (24, (sS (some ⟨bk39, 0, none⟩) 1 1)), (28, (sS A_r34 n_r34 c_r34)), (31, (sS A_r36 n_r36 c_r36)), (23, (iI x11)), (22, (.v (.pointer (some (q8.add (0 * 1)))))), (18, (iI x6)), (17, (.v (.pointer (some (q3.add (0 * 1)))))), (30, (sS (some q8) n_b c_b)), (29, (.p 0 1)), (27, (sS (some q3) n_a c_a)), (26, (.p 0 0)), (21, (sS (some q8) n_b c_b)), (20, (.p 0 1)), (16, (sS (some q3) n_a c_a)), (15, (.p 0 0)), (3, (.p 2 0)), (2, (.p 1 0)), (1, (.p 0 0))], [(2, (.cells 24 [(sS none 0 0), (sS none 0 0)])), (1, (.cells 24 [(sS none 0 0), (sS none 0 0)]))], 3, [], [(0, bk2, (.cells 24 [(sS (some q3) n_a c_a), (sS (some q8) n_b c_b)]))]⟩) [] rfl rfl rfl rfl rfl rfl ?_
            exact hK29 ((some ⟨bk32, 0, none⟩), 1, 1, (some ⟨bk39, 0, none⟩), 1, 1, A_r34, n_r34, c_r34, A_r36, n_r36, c_r36) G38 ⟨hc30, hs33, hs40, h_r34, h_r36⟩
      · skip
        refine WOp_step htb (S' := ⟨[(24, (.s 3 1 1)), (23, (iI x11)), (22, (.v (.pointer (some (q8.add (0 * 1)))))), (18, (iI x6)), (17, (.v (.pointer (some (q3.add (0 * 1)))))), (30, (sS (some q8) n_b c_b)), (29, (.p 0 1)), (27, (sS (some q3) n_a c_a)), (26, (.p 0 0)), (21, (sS (some q8) n_b c_b)), (20, (.p 0 1)), (16, (sS (some q3) n_a c_a)), (15, (.p 0 0)), (3, (.p 2 0)), (2, (.p 1 0)), (1, (.p 0 0))], [(3, (.cells 3 [(iI x11)])), (2, (.cells 24 [(sS none 0 0), (sS none 0 0)])), (1, (.cells 24 [(sS none 0 0), (sS none 0 0)]))], 4, [], [(0, bk2, (.cells 24 [(sS (some q3) n_a c_a), (sS (some q8) n_b c_b)]))]⟩) (by kernel_rfl) (WD_on (Le.refl _) ?_)
        refine WK_freezeV 3 rfl rfl rfl rfl ?_
        intro bk32 G31 hle hbk32
        replace hc30 := Le.trans hc30 hle
        replace h_a := h_a.mono hle
        replace h_b := h_b.mono hle
        replace at5 := at5.mono hle
        replace at10 := at10.mono hle
        replace hz := hz.mono hle
        refine WD_up hle ?_
        show WK _ _ ⟨[(24, (sS (some ⟨bk32, 0, none⟩) 1 1)), (23, (iI x11)), (22, (.v (.pointer (some (q8.add (0 * 1)))))), (18, (iI x6)), (17, (.v (.pointer (some (q3.add (0 * 1)))))), (30, (sS (some q8) n_b c_b)), (29, (.p 0 1)), (27, (sS (some q3) n_a c_a)), (26, (.p 0 0)), (21, (sS (some q8) n_b c_b)), (20, (.p 0 1)), (16, (sS (some q3) n_a c_a)), (15, (.p 0 0)), (3, (.p 2 0)), (2, (.p 1 0)), (1, (.p 0 0))], [(2, (.cells 24 [(sS none 0 0), (sS none 0 0)])), (1, (.cells 24 [(sS none 0 0), (sS none 0 0)]))], 4, [], [(0, bk2, (.cells 24 [(sS (some q3) n_a c_a), (sS (some q8) n_b c_b)]))]⟩ _
        have hs33 : Sl (tInt .i64) G31 (some ⟨bk32, 0, none⟩) 1 1 [x11] := Sl.lit (cs := [.int .i64 x11]) (RepsL.cons' (rep_int _ (x := x11) (bd_of hn12)) .nil) hbk32 rfl (by unfold big; omega)
        have lhs33 := hs33.len'
        refine WD_two 4 13 (by rfl) (by rfl) (by decide +kernel) ?_ ?_
        · skip
          refine WOp_step htb (S' := ⟨[(19, (.s 4 1 1)), (24, (sS (some ⟨bk32, 0, none⟩) 1 1)), (23, (iI x11)), (22, (.v (.pointer (some (q8.add (0 * 1)))))), (18, (iI x6)), (17, (.v (.pointer (some (q3.add (0 * 1)))))), (30, (sS (some q8) n_b c_b)), (29, (.p 0 1)), (27, (sS (some q3) n_a c_a)), (26, (.p 0 0)), (21, (sS (some q8) n_b c_b)), (20, (.p 0 1)), (16, (sS (some q3) n_a c_a)), (15, (.p 0 0)), (3, (.p 2 0)), (2, (.p 1 0)), (1, (.p 0 0))], [(4, (.cells 3 [(iI x6)])), (2, (.cells 24 [(sS none 0 0), (sS none 0 0)])), (1, (.cells 24 [(sS none 0 0), (sS none 0 0)]))], 5, [], [(0, bk2, (.cells 24 [(sS (some q3) n_a c_a), (sS (some q8) n_b c_b)]))]⟩) (by kernel_rfl) (WD_on (Le.refl _) ?_)
          refine WK_freezeV 4 rfl rfl rfl rfl ?_
          intro bk35 G34 hle hbk35
          replace hc30 := Le.trans hc30 hle
          replace h_a := h_a.mono hle
          replace h_b := h_b.mono hle
          replace at5 := at5.mono hle
          replace at10 := at10.mono hle
          replace hs33 := hs33.mono hle
          replace hz := hz.mono hle
          refine WD_up hle ?_
          show WK _ _ ⟨[(19, (sS (some ⟨bk35, 0, none⟩) 1 1)), (24, (sS (some ⟨bk32, 0, none⟩) 1 1)), (23, (iI x11)), (22, (.v (.pointer (some (q8.add (0 * 1)))))), (18, (iI x6)), (17, (.v (.pointer (some (q3.add (0 * 1)))))), (30, (sS (some q8) n_b c_b)), (29, (.p 0 1)), (27, (sS (some q3) n_a c_a)), (26, (.p 0 0)), (21, (sS (some q8) n_b c_b)), (20, (.p 0 1)), (16, (sS (some q3) n_a c_a)), (15, (.p 0 0)), (3, (.p 2 0)), (2, (.p 1 0)), (1, (.p 0 0))], [(2, (.cells 24 [(sS none 0 0), (sS none 0 0)])), (1, (.cells 24 [(sS none 0 0), (sS none 0 0)]))], 5, [], [(0, bk2, (.cells 24 [(sS (some q3) n_a c_a), (sS (some q8) n_b c_b)]))]⟩ _
          have hs36 : Sl (tInt .i64) G34 (some ⟨bk35, 0, none⟩) 1 1 [x6] := Sl.lit (cs := [.int .i64 x6]) (RepsL.cons' (rep_int _ (x := x6) (bd_of hn7)) .nil) hbk35 rfl (by unfold big; omega)
          have lhs36 := hs36.len'
          refine WD_takeL htb rfl (fun _ _ _ _ _ h => h) (Le.refl _) [10] (fuel := 6) (listed' := bts 21 57343) (S' := ⟨[(25, (.agg [(sS (some ⟨bk35, 0, none⟩) 1 1), (sS (some ⟨bk32, 0, none⟩) 1 1)])), (19, (sS (some ⟨bk35, 0, none⟩) 1 1)), (24, (sS (some ⟨bk32, 0, none⟩) 1 1)), (23, (iI x11)), (22, (.v (.pointer (some (q8.add (0 * 1)))))), (18, (iI x6)), (17, (.v (.pointer (some (q3.add (0 * 1)))))), (30, (sS (some q8) n_b c_b)), (29, (.p 0 1)), (27, (sS (some q3) n_a c_a)), (26, (.p 0 0)), (21, (sS (some q8) n_b c_b)), (20, (.p 0 1)), (16, (sS (some q3) n_a c_a)), (15, (.p 0 0)), (3, (.p 2 0)), (2, (.p 1 0)), (1, (.p 0 0))], [(2, (.cells 24 [(sS none 0 0), (sS none 0 0)])), (1, (.cells 24 [(sS none 0 0), (sS none 0 0)]))], 5, [], [(0, bk2, (.cells 24 [(sS (some q3) n_a c_a), (sS (some q8) n_b c_b)]))]⟩) hz (by kernel_rfl) rfl ?_
          refine WD_one 13 (by rfl) (by decide +kernel) (WOp_call 41 [(sS (some q3) n_a c_a)] (by kernel_rfl) (goes_of Try.func41 rfl rfl) (fun ρ w hW => rest_ok hW.has (xs := a) h_a (by omega) (by omega)) ?_)
          intro G1 v hle hΦ
          replace hc30 := Le.trans hc30 hle
          replace h_a := h_a.mono hle
          replace h_b := h_b.mono hle
          replace at5 := at5.mono hle
          replace at10 := at10.mono hle
          replace hs33 := hs33.mono hle
          replace hs36 := hs36.mono hle
          replace hz := hz.mono hle
          obtain ⟨A_r37, n_r37, c_r37, rfl, h_r37, hR38⟩ := hΦ
          have lh_r37 := h_r37.len'
          refine WD_on hle ?_
          refine WD_up hle ?_
          refine WD_one 16 (by rfl) (by decide +kernel) (WOp_call 41 [(sS (some q8) n_b c_b)] (by kernel_rfl) (goes_of Try.func41 rfl rfl) (fun ρ w hW => rest_ok hW.has (xs := b) h_b (by omega) (by omega)) ?_)
          intro G2 v hle hΦ
          replace hc30 := Le.trans hc30 hle
          replace h_a := h_a.mono hle
          replace h_b := h_b.mono hle
          replace at5 := at5.mono hle
          replace at10 := at10.mono hle
          replace hs33 := hs33.mono hle
          replace hs36 := hs36.mono hle
          replace h_r37 := h_r37.mono hle
          replace hz := hz.mono hle
          obtain ⟨A_r39, n_r39, c_r39, rfl, h_r39, hR40⟩ := hΦ
          have lh_r39 := h_r39.len'
          refine WD_on hle ?_
          refine WD_up hle ?_
          refine WD_takeL htb rfl (fun _ _ _ _ _ h => h) (Le.refl _) [17] (fuel := 3) (listed' := bts 21 262143) (S' := ⟨[(32, (.agg [(sS A_r37 n_r37 c_r37), (sS A_r39 n_r39 c_r39)])), (31, (sS A_r39 n_r39 c_r39)), (28, (sS A_r37 n_r37 c_r37)), (25, (.agg [(sS (some ⟨bk35, 0, none⟩) 1 1), (sS (some ⟨bk32, 0, none⟩) 1 1)])), (19, (sS (some ⟨bk35, 0, none⟩) 1 1)), (24, (sS (some ⟨bk32, 0, none⟩) 1 1)), (23, (iI x11)), (22, (.v (.pointer (some (q8.add (0 * 1)))))), (18, (iI x6)), (17, (.v (.pointer (some (q3.add (0 * 1)))))), (30, (sS (some q8) n_b c_b)), (29, (.p 0 1)), (27, (sS (some q3) n_a c_a)), (26, (.p 0 0)), (21, (sS (some q8) n_b c_b)), (20, (.p 0 1)), (16, (sS (some q3) n_a c_a)), (15, (.p 0 0)), (3, (.p 2 0)), (2, (.p 1 0)), (1, (.p 0 0))], [(2, (.cells 24 [(sS none 0 0), (sS none 0 0)])), (1, (.cells 24 [(sS none 0 0), (sS none 0 0)]))], 5, [], [(0, bk2, (.cells 24 [(sS (some q3) n_a c_a), (sS (some q8) n_b c_b)]))]⟩) hz (by kernel_rfl) rfl ?_
          refine WK_keep [32, 25, 19, 24, 28, 31, 23, 22, 18, 17, 30, 29, 27, 26, 21, 20, 16, 15, 3, 2, 1] [2, 1] rfl rfl ?_
          refine WK_ren (T := ⟨[(32, (.agg [(sS A_r37 n_r37 c_r37), (sS A_r39 n_r39 c_r39)])), (25, (.agg [(sS (some ⟨bk35, 0, none⟩) 1 1), (sS (some ⟨bk32, 0, none⟩) 1 1)])), (19, (sS (some ⟨bk35, 0, none⟩) 1 1)), (24, (sS (some ⟨bk32, 0, none⟩) 1 1)), (28, (sS A_r37 n_r37 c_r37)), (31, (sS A_r39 n_r39 c_r39)), (23, (iI x11)), (22, (.v (.pointer (some (q8.add (0 * 1)))))), (18, (iI x6)), (17, (.v (.pointer (some (q3.add (0 * 1)))))), (30, (sS (some q8) n_b c_b)), (29, (.p 0 1)), (27, (sS (some q3) n_a c_a)), (26, (.p 0 0)), (21, (sS (some q8) n_b c_b)), (20, (.p 0 1)), (16, (sS (some q3) n_a c_a)), (15, (.p 0 0)), (3, (.p 2 0)), (2, (.p 1 0)), (1, (.p 0 0))], [(2, (.cells 24 [(sS none 0 0), (sS none 0 0)])), (1, (.cells 24 [(sS none 0 0), (sS none 0 0)]))], 3, [], [(0, bk2, (.cells 24 [(sS (some q3) n_a c_a), (sS (some q8) n_b c_b)]))]⟩) [] rfl rfl rfl rfl rfl rfl ?_
          exact hK29 ((some ⟨bk35, 0, none⟩), 1, 1, (some ⟨bk32, 0, none⟩), 1, 1, A_r37, n_r37, c_r37, A_r39, n_r39, c_r39) G2 ⟨hc30, hs36, hs33, h_r37, h_r39⟩
        · skip
          refine WOp_call 41 [(sS (some q3) n_a c_a)] (by kernel_rfl) (goes_of Try.func41 rfl rfl) (fun ρ w hW => rest_ok hW.has (xs := a) h_a (by omega) (by omega)) ?_
          intro G1 v hle hΦ
          replace hc30 := Le.trans hc30 hle
          replace h_a := h_a.mono hle
          replace h_b := h_b.mono hle
          replace at5 := at5.mono hle
          replace at10 := at10.mono hle
          replace hs33 := hs33.mono hle
          replace hz := hz.mono hle
          obtain ⟨A_r34, n_r34, c_r34, rfl, h_r34, hR35⟩ := hΦ
          have lh_r34 := h_r34.len'
          refine WD_on hle ?_
          refine WD_up hle ?_
          refine WD_two 4 16 (by rfl) (by rfl) (by decide +kernel) ?_ ?_
          · skip
            refine WOp_step htb (S' := ⟨[(19, (.s 4 1 1)), (28, (sS A_r34 n_r34 c_r34)), (24, (sS (some ⟨bk32, 0, none⟩) 1 1)), (23, (iI x11)), (22, (.v (.pointer (some (q8.add (0 * 1)))))), (18, (iI x6)), (17, (.v (.pointer (some (q3.add (0 * 1)))))), (30, (sS (some q8) n_b c_b)), (29, (.p 0 1)), (27, (sS (some q3) n_a c_a)), (26, (.p 0 0)), (21, (sS (some q8) n_b c_b)), (20, (.p 0 1)), (16, (sS (some q3) n_a c_a)), (15, (.p 0 0)), (3, (.p 2 0)), (2, (.p 1 0)), (1, (.p 0 0))], [(4, (.cells 3 [(iI x6)])), (2, (.cells 24 [(sS none 0 0), (sS none 0 0)])), (1, (.cells 24 [(sS none 0 0), (sS none 0 0)]))], 5, [], [(0, bk2, (.cells 24 [(sS (some q3) n_a c_a), (sS (some q8) n_b c_b)]))]⟩) (by kernel_rfl) (WD_on (Le.refl _) ?_)
            refine WK_freezeV 4 rfl rfl rfl rfl ?_
            intro bk37 G36 hle hbk37
            replace hc30 := Le.trans hc30 hle
            replace h_a := h_a.mono hle
            replace h_b := h_b.mono hle
            replace at5 := at5.mono hle
            replace at10 := at10.mono hle
            replace hs33 := hs33.mono hle
            replace h_r34 := h_r34.mono hle
            replace hz := hz.mono hle
            refine WD_up hle ?_
            show WK _ _ ⟨[(19, (sS (some ⟨bk37, 0, none⟩) 1 1)), (28, (sS A_r34 n_r34 c_r34)), (24, (sS (some ⟨bk32, 0, none⟩) 1 1)), (23, (iI x11)), (22, (.v (.pointer (some (q8.add (0 * 1)))))), (18, (iI x6)), (17, (.v (.pointer (some (q3.add (0 * 1)))))), (30, (sS (some q8) n_b c_b)), (29, (.p 0 1)), (27, (sS (some q3) n_a c_a)), (26, (.p 0 0)), (21, (sS (some q8) n_b c_b)), (20, (.p 0 1)), (16, (sS (some q3) n_a c_a)), (15, (.p 0 0)), (3, (.p 2 0)), (2, (.p 1 0)), (1, (.p 0 0))], [(2, (.cells 24 [(sS none 0 0), (sS none 0 0)])), (1, (.cells 24 [(sS none 0 0), (sS none 0 0)]))], 5, [], [(0, bk2, (.cells 24 [(sS (some q3) n_a c_a), (sS (some q8) n_b c_b)]))]⟩ _
            have hs38 : Sl (tInt .i64) G36 (some ⟨bk37, 0, none⟩) 1 1 [x6] := Sl.lit (cs := [.int .i64 x6]) (RepsL.cons' (rep_int _ (x := x6) (bd_of hn7)) .nil) hbk37 rfl (by unfold big; omega)
            have lhs38 := hs38.len'
            refine WD_takeL htb rfl (fun _ _ _ _ _ h => h) (Le.refl _) [10] (fuel := 5) (listed' := bts 21 65535) (S' := ⟨[(25, (.agg [(sS (some ⟨bk37, 0, none⟩) 1 1), (sS (some ⟨bk32, 0, none⟩) 1 1)])), (19, (sS (some ⟨bk37, 0, none⟩) 1 1)), (28, (sS A_r34 n_r34 c_r34)), (24, (sS (some ⟨bk32, 0, none⟩) 1 1)), (23, (iI x11)), (22, (.v (.pointer (some (q8.add (0 * 1)))))), (18, (iI x6)), (17, (.v (.pointer (some (q3.add (0 * 1)))))), (30, (sS (some q8) n_b c_b)), (29, (.p 0 1)), (27, (sS (some q3) n_a c_a)), (26, (.p 0 0)), (21, (sS (some q8) n_b c_b)), (20, (.p 0 1)), (16, (sS (some q3) n_a c_a)), (15, (.p 0 0)), (3, (.p 2 0)), (2, (.p 1 0)), (1, (.p 0 0))], [(2, (.cells 24 [(sS none 0 0), (sS none 0 0)])), (1, (.cells 24 [(sS none 0 0), (sS none 0 0)]))], 5, [], [(0, bk2, (.cells 24 [(sS (some q3) n_a c_a), (sS (some q8) n_b c_b)]))]⟩) hz (by kernel_rfl) rfl ?_
            refine WD_one 16 (by rfl) (by decide +kernel) (WOp_call 41 [(sS (some q8) n_b c_b)] (by kernel_rfl) (goes_of Try.func41 rfl rfl) (fun ρ w hW => rest_ok hW.has (xs := b) h_b (by omega) (by omega)) ?_)
            intro G2 v hle hΦ
            replace hc30 := Le.trans hc30 hle
            replace h_a := h_a.mono hle
            replace h_b := h_b.mono hle
            replace at5 := at5.mono hle
            replace at10 := at10.mono hle
            replace hs33 := hs33.mono hle
            replace h_r34 := h_r34.mono hle
            replace hs38 := hs38.mono hle
            replace hz := hz.mono hle
            obtain ⟨A_r39, n_r39, c_r39, rfl, h_r39, hR40⟩ := hΦ
            have lh_r39 := h_r39.len'
            refine WD_on hle ?_
            refine WD_up hle ?_
            refine WD_takeL htb rfl (fun _ _ _ _ _ h => h) (Le.refl _) [17] (fuel := 3) (listed' := bts 21 262143) (S' := ⟨[(32, (.agg [(sS A_r34 n_r34 c_r34), (sS A_r39 n_r39 c_r39)])), (31, (sS A_r39 n_r39 c_r39)), (25, (.agg [(sS (some ⟨bk37, 0, none⟩) 1 1), (sS (some ⟨bk32, 0, none⟩) 1 1)])), (19, (sS (some ⟨bk37, 0, none⟩) 1 1)), (28, (sS A_r34 n_r34 c_r34)), (24, (sS (some ⟨bk32, 0, none⟩) 1 1)), (23, (iI x11)), (22, (.v (.pointer (some (q8.add (0 * 1)))))), (18, (iI x6)), (17, (.v (.pointer (some (q3.add (0 * 1)))))), (30, (sS (some q8) n_b c_b)), (29, (.p 0 1)), (27, (sS (some q3) n_a c_a)), (26, (.p 0 0)), (21, (sS (some q8) n_b c_b)), (20, (.p 0 1)), (16, (sS (some q3) n_a c_a)), (15, (.p 0 0)), (3, (.p 2 0)), (2, (.p 1 0)), (1, (.p 0 0))], [(2, (.cells 24 [(sS none 0 0), (sS none 0 0)])), (1, (.cells 24 [(sS none 0 0), (sS none 0 0)]))], 5, [], [(0, bk2, (.cells 24 [(sS (some q3) n_a c_a), (sS (some q8) n_b c_b)]))]⟩) hz (by kernel_rfl) rfl ?_
            refine WK_keep [32, 25, 19, 24, 28, 31, 23, 22, 18, 17, 30, 29, 27, 26, 21, 20, 16, 15, 3, 2, 1] [2, 1] rfl rfl ?_
            refine WK_ren (T := ⟨[(32, (.agg [(sS A_r34 n_r34 c_r34), (sS A_r39 n_r39 c_r39)])), (25, (.agg [(sS (some ⟨bk37, 0, none⟩) 1 1), (sS (some ⟨bk32, 0, none⟩) 1 1)])), (19, (sS (some ⟨bk37, 0, none⟩) 1 1)), (24, (sS (some ⟨bk32, 0, none⟩) 1 1)), (28, (sS A_r34 n_r34 c_r34)), (31, (sS A_r39 n_r39 c_r39)), (23, (iI x11)), (22, (.v (.pointer (some (q8.add (0 * 1)))))), (18, (iI x6)), (17, (.v (.pointer (some (q3.add (0 * 1)))))), (30, (sS (some q8) n_b c_b)), (29, (.p 0 1)), (27, (sS (some q3) n_a c_a)), (26, (.p 0 0)), (21, (sS (some q8) n_b c_b)), (20, (.p 0 1)), (16, (sS (some q3) n_a c_a)), (15, (.p 0 0)), (3, (.p 2 0)), (2, (.p 1 0)), (1, (.p 0 0))], [(2, (.cells 24 [(sS none 0 0), (sS none 0 0)])), (1, (.cells 24 [(sS none 0 0), (sS none 0 0)]))], 3, [], [(0, bk2, (.cells 24 [(sS (some q3) n_a c_a), (sS (some q8) n_b c_b)]))]⟩) [] rfl rfl rfl rfl rfl rfl ?_
            exact hK29 ((some ⟨bk37, 0, none⟩), 1, 1, (some ⟨bk32, 0, none⟩), 1, 1, A_r34, n_r34, c_r34, A_r39, n_r39, c_r39) G2 ⟨hc30, hs38, hs33, h_r34, h_r39⟩
          · skip
            refine WOp_call 41 [(sS (some q8) n_b c_b)] (by kernel_rfl) (goes_of Try.func41 rfl rfl) (fun ρ w hW => rest_ok hW.has (xs := b) h_b (by omega) (by omega)) ?_
            intro G2 v hle hΦ
            replace hc30 := Le.trans hc30 hle
            replace h_a := h_a.mono hle
            replace h_b := h_b.mono hle
            replace at5 := at5.mono hle
            replace at10 := at10.mono hle
            replace hs33 := hs33.mono hle
            replace h_r34 := h_r34.mono hle
            replace hz := hz.mono hle
            obtain ⟨A_r36, n_r36, c_r36, rfl, h_r36, hR37⟩ := hΦ
            have lh_r36 := h_r36.len'
            refine WD_on hle ?_
            refine WD_up hle ?_
            refine WD_takeL htb rfl (fun _ _ _ _ _ h => h) (Le.refl _) [17] (fuel := 5) (listed' := bts 21 261103) (S' := ⟨[(32, (.agg [(sS A_r34 n_r34 c_r34), (sS A_r36 n_r36 c_r36)])), (31, (sS A_r36 n_r36 c_r36)), (28, (sS A_r34 n_r34 c_r34)), (24, (sS (some ⟨bk32, 0, none⟩) 1 1)), (23, (iI x11)), (22, (.v (.pointer (some (q8.add (0 * 1)))))), (18, (iI x6)), (17, (.v (.pointer (some (q3.add (0 * 1)))))), (30, (sS (some q8) n_b c_b)), (29, (.p 0 1)), (27, (sS (some q3) n_a c_a)), (26, (.p 0 0)), (21, (sS (some q8) n_b c_b)), (20, (.p 0 1)), (16, (sS (some q3) n_a c_a)), (15, (.p 0 0)), (3, (.p 2 0)), (2, (.p 1 0)), (1, (.p 0 0))], [(2, (.cells 24 [(sS none 0 0), (sS none 0 0)])), (1, (.cells 24 [(sS none 0 0), (sS none 0 0)]))], 4, [], [(0, bk2, (.cells 24 [(sS (some q3) n_a c_a), (sS (some q8) n_b c_b)]))]⟩) hz (by kernel_rfl) rfl ?_
            refine WD_one 4 (by rfl) (by decide +kernel) (WOp_step htb (S' := ⟨[(19, (.s 4 1 1)), (32, (.agg [(sS A_r34 n_r34 c_r34), (sS A_r36 n_r36 c_r36)])), (31, (sS A_r36 n_r36 c_r36)), (28, (sS A_r34 n_r34 c_r34)), (24, (sS (some ⟨bk32, 0, none⟩) 1 1)), (23, (iI x11)), (22, (.v (.pointer (some (q8.add (0 * 1)))))), (18, (iI x6)), (17, (.v (.pointer (some (q3.add (0 * 1)))))), (30, (sS (some q8) n_b c_b)), (29, (.p 0 1)), (27, (sS (some q3) n_a c_a)), (26, (.p 0 0)), (21, (sS (some q8) n_b c_b)), (20, (.p 0 1)), (16, (sS (some q3) n_a c_a)), (15, (.p 0 0)), (3, (.p 2 0)), (2, (.p 1 0)), (1, (.p 0 0))], [(4, (.cells 3 [(iI x6)])), (2, (.cells 24 [(sS none 0 0), (sS none 0 0)])), (1, (.cells 24 [(sS none 0 0), (sS none 0 0)]))], 5, [], [(0, bk2, (.cells 24 [(sS (some q3) n_a c_a), (sS (some q8) n_b c_b)]))]⟩) (by kernel_rfl) (WD_on (Le.refl _) ?_))
            refine WK_freezeV 4 rfl rfl rfl rfl ?_
            intro bk39 G38 hle hbk39
            replace hc30 := Le.trans hc30 hle
            replace h_a := h_a.mono hle
            replace h_b := h_b.mono hle
            replace at5 := at5.mono hle
            replace at10 := at10.mono hle
            replace hs33 := hs33.mono hle
            replace h_r34 := h_r34.mono hle
            replace h_r36 := h_r36.mono hle
            replace hz := hz.mono hle
            refine WD_up hle ?_
            show WK _ _ ⟨[(19, (sS (some ⟨bk39, 0, none⟩) 1 1)), (32, (.agg [(sS A_r34 n_r34 c_r34), (sS A_r36 n_r36 c_r36)])), (31, (sS A_r36 n_r36 c_r36)), (28, (sS A_r34 n_r34 c_r34)), (24, (sS (some ⟨bk32, 0, none⟩) 1 1)), (23, (iI x11)), (22, (.v (.pointer (some (q8.add (0 * 1)))))), (18, (iI x6)), (17, (.v (.pointer (some (q3.add (0 * 1)))))), (30, (sS (some q8) n_b c_b)), (29, (.p 0 1)), (27, (sS (some q3) n_a c_a)), (26, (.p 0 0)), (21, (sS (some q8) n_b c_b)), (20, (.p 0 1)), (16, (sS (some q3) n_a c_a)), (15, (.p 0 0)), (3, (.p 2 0)), (2, (.p 1 0)), (1, (.p 0 0))], [(2, (.cells 24 [(sS none 0 0), (sS none 0 0)])), (1, (.cells 24 [(sS none 0 0), (sS none 0 0)]))], 5, [], [(0, bk2, (.cells 24 [(sS (some q3) n_a c_a), (sS (some q8) n_b c_b)]))]⟩ _
            have hs40 : Sl (tInt .i64) G38 (some ⟨bk39, 0, none⟩) 1 1 [x6] := Sl.lit (cs := [.int .i64 x6]) (RepsL.cons' (rep_int _ (x := x6) (bd_of hn7)) .nil) hbk39 rfl (by unfold big; omega)
            have lhs40 := hs40.len'
            refine WD_takeL htb rfl (fun _ _ _ _ _ h => h) (Le.refl _) [10] (fuel := 3) (listed' := bts 21 262143) (S' := ⟨[(25, (.agg [(sS (some ⟨bk39, 0, none⟩) 1 1), (sS (some ⟨bk32, 0, none⟩) 1 1)])), (19, (sS (some ⟨bk39, 0, none⟩) 1 1)), (32, (.agg [(sS A_r34 n_r34 c_r34), (sS A_r36 n_r36 c_r36)])), (31, (sS A_r36 n_r36 c_r36)), (28, (sS A_r34 n_r34 c_r34)), (24, (sS (some ⟨bk32, 0, none⟩) 1 1)), (23, (iI x11)), (22, (.v (.pointer (some (q8.add (0 * 1)))))), (18, (iI x6)), (17, (.v (.pointer (some (q3.add (0 * 1)))))), (30, (sS (some q8) n_b c_b)), (29, (.p 0 1)), (27, (sS (some q3) n_a c_a)), (26, (.p 0 0)), (21, (sS (some q8) n_b c_b)), (20, (.p 0 1)), (16, (sS (some q3) n_a c_a)), (15, (.p 0 0)), (3, (.p 2 0)), (2, (.p 1 0)), (1, (.p 0 0))], [(2, (.cells 24 [(sS none 0 0), (sS none 0 0)])), (1, (.cells 24 [(sS none 0 0), (sS none 0 0)]))], 5, [], [(0, bk2, (.cells 24 [(sS (some q3) n_a c_a), (sS (some q8) n_b c_b)]))]⟩) hz (by kernel_rfl) rfl ?_
            refine WK_keep [32, 25, 19, 24, 28, 31, 23, 22, 18, 17, 30, 29, 27, 26, 21, 20, 16, 15, 3, 2, 1] [2, 1] rfl rfl ?_
            refine WK_ren (T := ⟨[(32, (.agg [(sS A_r34 n_r34 c_r34), (sS A_r36 n_r36 c_r36)])), (25, (.agg [(sS (some ⟨bk39, 0, none⟩) 1 1), (sS (some ⟨bk32, 0, none⟩) 1 1)])), (19, (sS (some ⟨bk39, 0, none⟩) 1 1)), (24, (sS (some ⟨bk32, 0, none⟩) 1 1)), (28, (sS A_r34 n_r34 c_r34)), (31, (sS A_r36 n_r36 c_r36)), (23, (iI x11)), (22, (.v (.pointer (some (q8.add (0 * 1)))))), (18, (iI x6)), (17, (.v (.pointer (some (q3.add (0 * 1)))))), (30, (sS (some q8) n_b c_b)), (29, (.p 0 1)), (27, (sS (some q3) n_a c_a)), (26, (.p 0 0)), (21, (sS (some q8) n_b c_b)), (20, (.p 0 1)), (16, (sS (some q3) n_a c_a)), (15, (.p 0 0)), (3, (.p 2 0)), (2, (.p 1 0)), (1, (.p 0 0))], [(2, (.cells 24 [(sS none 0 0), (sS none 0 0)])), (1, (.cells 24 [(sS none 0 0), (sS none 0 0)]))], 3, [], [(0, bk2, (.cells 24 [(sS (some q3) n_a c_a), (sS (some q8) n_b c_b)]))]⟩) [] rfl rfl rfl rfl rfl rfl ?_
            exact hK29 ((some ⟨bk39, 0, none⟩), 1, 1, (some ⟨bk32, 0, none⟩), 1, 1, A_r34, n_r34, c_r34, A_r36, n_r36, c_r36) G38 ⟨hc30, hs40, hs33, h_r34, h_r36⟩
      · skip
        refine WOp_call 41 [(sS (some q3) n_a c_a)] (by kernel_rfl) (goes_of Try.func41 rfl rfl) (fun ρ w hW => rest_ok hW.has (xs := a) h_a (by omega) (by omega)) ?_
        intro G1 v hle hΦ
        replace hc30 := Le.trans hc30 hle
        replace h_a := h_a.mono hle
        replace h_b := h_b.mono hle
        replace at5 := at5.mono hle
        replace at10 := at10.mono hle
        replace hz := hz.mono hle
        obtain ⟨A_r31, n_r31, c_r31, rfl, h_r31, hR32⟩ := hΦ
        have lh_r31 := h_r31.len'
        refine WD_on hle ?_
        refine WD_up hle ?_
        refine WD_three 4 9 16 (by rfl) (by rfl) (by rfl) (by decide +kernel) ?_ ?_ ?_
        · skip
          refine WOp_step htb (S' := ⟨[(19, (.s 3 1 1)), (28, (sS A_r31 n_r31 c_r31)), (23, (iI x11)), (22, (.v (.pointer (some (q8.add (0 * 1)))))), (18, (iI x6)), (17, (.v (.pointer (some (q3.add (0 * 1)))))), (30, (sS (some q8) n_b c_b)), (29, (.p 0 1)), (27, (sS (some q3) n_a c_a)), (26, (.p 0 0)), (21, (sS (some q8) n_b c_b)), (20, (.p 0 1)), (16, (sS (some q3) n_a c_a)), (15, (.p 0 0)), (3, (.p 2 0)), (2, (.p 1 0)), (1, (.p 0 0))], [(3, (.cells 3 [(iI x6)])), (2, (.cells 24 [(sS none 0 0), (sS none 0 0)])), (1, (.cells 24 [(sS none 0 0), (sS none 0 0)]))], 4, [], [(0, bk2, (.cells 24 [(sS (some q3) n_a c_a), (sS (some q8) n_b c_b)]))]⟩) (by kernel_rfl) (WD_on (Le.refl _) ?_)
          refine WK_freezeV 3 rfl rfl rfl rfl ?_
          intro bk34 G33 hle hbk34
          replace hc30 := Le.trans hc30 hle
          replace h_a := h_a.mono hle
          replace h_b := h_b.mono hle
          replace at5 := at5.mono hle
          replace at10 := at10.mono hle
          replace h_r31 := h_r31.mono hle
          replace hz := hz.mono hle
          refine WD_up hle ?_
          show WK _ _ ⟨[(19, (sS (some ⟨bk34, 0, none⟩) 1 1)), (28, (sS A_r31 n_r31 c_r31)), (23, (iI x11)), (22, (.v (.pointer (some (q8.add (0 * 1)))))), (18, (iI x6)), (17, (.v (.pointer (some (q3.add (0 * 1)))))), (30, (sS (some q8) n_b c_b)), (29, (.p 0 1)), (27, (sS (some q3) n_a c_a)), (26, (.p 0 0)), (21, (sS (some q8) n_b c_b)), (20, (.p 0 1)), (16, (sS (some q3) n_a c_a)), (15, (.p 0 0)), (3, (.p 2 0)), (2, (.p 1 0)), (1, (.p 0 0))], [(2, (.cells 24 [(sS none 0 0), (sS none 0 0)])), (1, (.cells 24 [(sS none 0 0), (sS none 0 0)]))], 4, [], [(0, bk2, (.cells 24 [(sS (some q3) n_a c_a), (sS (some q8) n_b c_b)]))]⟩ _
          have hs35 : Sl (tInt .i64) G33 (some ⟨bk34, 0, none⟩) 1 1 [x6] := Sl.lit (cs := [.int .i64 x6]) (RepsL.cons' (rep_int _ (x := x6) (bd_of hn7)) .nil) hbk34 rfl (by unfold big; omega)
          have lhs35 := hs35.len'
          refine WD_two 9 16 (by rfl) (by rfl) (by decide +kernel) ?_ ?_
          · skip
            refine WOp_step htb (S' := ⟨[(24, (.s 4 1 1)), (19, (sS (some ⟨bk34, 0, none⟩) 1 1)), (28, (sS A_r31 n_r31 c_r31)), (23, (iI x11)), (22, (.v (.pointer (some (q8.add (0 * 1)))))), (18, (iI x6)), (17, (.v (.pointer (some (q3.add (0 * 1)))))), (30, (sS (some q8) n_b c_b)), (29, (.p 0 1)), (27, (sS (some q3) n_a c_a)), (26, (.p 0 0)), (21, (sS (some q8) n_b c_b)), (20, (.p 0 1)), (16, (sS (some q3) n_a c_a)), (15, (.p 0 0)), (3, (.p 2 0)), (2, (.p 1 0)), (1, (.p 0 0))], [(4, (.cells 3 [(iI x11)])), (2, (.cells 24 [(sS none 0 0), (sS none 0 0)])), (1, (.cells 24 [(sS none 0 0), (sS none 0 0)]))], 5, [], [(0, bk2, (.cells 24 [(sS (some q3) n_a c_a), (sS (some q8) n_b c_b)]))]⟩) (by kernel_rfl) (WD_on (Le.refl _) ?_)
            refine WK_freezeV 4 rfl rfl rfl rfl ?_
            intro bk37 G36 hle hbk37
            replace hc30 := Le.trans hc30 hle
            replace h_a := h_a.mono hle
            replace h_b := h_b.mono hle
            replace at5 := at5.mono hle
            replace at10 := at10.mono hle
            replace h_r31 := h_r31.mono hle
            replace hs35 := hs35.mono hle
            replace hz := hz.mono hle
            refine WD_up hle ?_
            show WK _ _ ⟨[(24, (sS (some ⟨bk37, 0, none⟩) 1 1)), (19, (sS (some ⟨bk34, 0, none⟩) 1 1)), (28, (sS A_r31 n_r31 c_r31)), (23, (iI x11)), (22, (.v (.pointer (some (q8.add (0 * 1)))))), (18, (iI x6)), (17, (.v (.pointer (some (q3.add (0 * 1)))))), (30, (sS (some q8) n_b c_b)), (29, (.p 0 1)), (27, (sS (some q3) n_a c_a)), (26, (.p 0 0)), (21, (sS (some q8) n_b c_b)), (20, (.p 0 1)), (16, (sS (some q3) n_a c_a)), (15, (.p 0 0)), (3, (.p 2 0)), (2, (.p 1 0)), (1, (.p 0 0))], [(2, (.cells 24 [(sS none 0 0), (sS none 0 0)])), (1, (.cells 24 [(sS none 0 0), (sS none 0 0)]))], 5, [], [(0, bk2, (.cells 24 [(sS (some q3) n_a c_a), (sS (some q8) n_b c_b)]))]⟩ _
            have hs38 : Sl (tInt .i64) G36 (some ⟨bk37, 0, none⟩) 1 1 [x11] := Sl.lit (cs := [.int .i64 x11]) (RepsL.cons' (rep_int _ (x := x11) (bd_of hn12)) .nil) hbk37 rfl (by unfold big; omega)
            have lhs38 := hs38.len'
            refine WD_takeL htb rfl (fun _ _ _ _ _ h => h) (Le.refl _) [10] (fuel := 5) (listed' := bts 21 65535) (S' := ⟨[(25, (.agg [(sS (some ⟨bk34, 0, none⟩) 1 1), (sS (some ⟨bk37, 0, none⟩) 1 1)])), (24, (sS (some ⟨bk37, 0, none⟩) 1 1)), (19, (sS (some ⟨bk34, 0, none⟩) 1 1)), (28, (sS A_r31 n_r31 c_r31)), (23, (iI x11)), (22, (.v (.pointer (some (q8.add (0 * 1)))))), (18, (iI x6)), (17, (.v (.pointer (some (q3.add (0 * 1)))))), (30, (sS (some q8) n_b c_b)), (29, (.p 0 1)), (27, (sS (some q3) n_a c_a)), (26, (.p 0 0)), (21, (sS (some q8) n_b c_b)), (20, (.p 0 1)), (16, (sS (some q3) n_a c_a)), (15, (.p 0 0)), (3, (.p 2 0)), (2, (.p 1 0)), (1, (.p 0 0))], [(2, (.cells 24 [(sS none 0 0), (sS none 0 0)])), (1, (.cells 24 [(sS none 0 0), (sS none 0 0)]))], 5, [], [(0, bk2, (.cells 24 [(sS (some q3) n_a c_a), (sS (some q8) n_b c_b)]))]⟩) hz (by kernel_rfl) rfl ?_
            refine WD_one 16 (by rfl) (by decide +kernel) (WOp_call 41 [(sS (some q8) n_b c_b)] (by kernel_rfl) (goes_of Try.func41 rfl rfl) (fun ρ w hW => rest_ok hW.has (xs := b) h_b (by omega) (by omega)) ?_)
            intro G2 v hle hΦ
            replace hc30 := Le.trans hc30 hle
            replace h_a := h_a.mono hle
            replace h_b := h_b.mono hle
            replace at5 := at5.mono hle
            replace at10 := at10.mono hle
            replace h_r31 := h_r31.mono hle
            replace hs35 := hs35.mono hle
            replace hs38 := hs38.mono hle
            replace hz := hz.mono hle
            obtain ⟨A_r39, n_r39, c_r39, rfl, h_r39, hR40⟩ := hΦ
            have lh_r39 := h_r39.len'
            refine WD_on hle ?_
            refine WD_up hle ?_
            refine WD_takeL htb rfl (fun _ _ _ _ _ h => h) (Le.refl _) [17] (fuel := 3) (listed' := bts 21 262143) (S' := ⟨[(32, (.agg [(sS A_r31 n_r31 c_r31), (sS A_r39 n_r39 c_r39)])), (31, (sS A_r39 n_r39 c_r39)), (25, (.agg [(sS (some ⟨bk34, 0, none⟩) 1 1), (sS (some ⟨bk37, 0, none⟩) 1 1)])), (24, (sS (some ⟨bk37, 0, none⟩) 1 1)), (19, (sS (some ⟨bk34, 0, none⟩) 1 1)), (28, (sS A_r31 n_r31 c_r31)), (23, (iI x11)), (22, (.v (.pointer (some (q8.add (0 * 1)))))), (18, (iI x6)), (17, (.v (.pointer (some (q3.add (0 * 1)))))), (30, (sS (some q8) n_b c_b)), (29, (.p 0 1)), (27, (sS (some q3) n_a c_a)), (26, (.p 0 0)), (21, (sS (some q8) n_b c_b)), (20, (.p 0 1)), (16, (sS (some q3) n_a c_a)), (15, (.p 0 0)), (3, (.p 2 0)), (2, (.p 1 0)), (1, (.p 0 0))], [(2, (.cells 24 [(sS none 0 0), (sS none 0 0)])), (1, (.cells 24 [(sS none 0 0), (sS none 0 0)]))], 5, [], [(0, bk2, (.cells 24 [(sS (some q3) n_a c_a), (sS (some q8) n_b c_b)]))]⟩) hz (by kernel_rfl) rfl ?_
            refine WK_keep [32, 25, 19, 24, 28, 31, 23, 22, 18, 17, 30, 29, 27, 26, 21, 20, 16, 15, 3, 2, 1] [2, 1] rfl rfl ?_
            refine WK_ren (T := ⟨[(32, (.agg [(sS A_r31 n_r31 c_r31), (sS A_r39 n_r39 c_r39)])), (25, (.agg [(sS (some ⟨bk34, 0, none⟩) 1 1), (sS (some ⟨bk37, 0, none⟩) 1 1)])), (19, (sS (some ⟨bk34, 0, none⟩) 1 1)), (24, (sS (some ⟨bk37, 0, none⟩) 1 1)), (28, (sS A_r31 n_r31 c_r31)), (31, (sS A_r39 n_r39 c_r39)), (23, (iI x11)), (22, (.v (.pointer (some (q8.add (0 * 1)))))), (18, (iI x6)), (17, (.v (.pointer (some (q3.add (0 * 1)))))), (30, (sS (some q8) n_b c_b)), (29, (.p 0 1)), (27, (sS (some q3) n_a c_a)), (26, (.p 0 0)), (21, (sS (some q8) n_b c_b)), (20, (.p 0 1)), (16, (sS (some q3) n_a c_a)), (15, (.p 0 0)), (3, (.p 2 0)), (2, (.p 1 0)), (1, (.p 0 0))], [(2, (.cells 24 [(sS none 0 0), (sS none 0 0)])), (1, (.cells 24 [(sS none 0 0), (sS none 0 0)]))], 3, [], [(0, bk2, (.cells 24 [(sS (some q3) n_a c_a), (sS (some q8) n_b c_b)]))]⟩) [] rfl rfl rfl rfl rfl rfl ?_
            exact hK29 ((some ⟨bk34, 0, none⟩), 1, 1, (some ⟨bk37, 0, none⟩), 1, 1, A_r31, n_r31, c_r31, A_r39, n_r39, c_r39) G2 ⟨hc30, hs35, hs38, h_r31, h_r39⟩
          · skip
            refine WOp_call 41 [(sS (some q8) n_b c_b)] (by kernel_rfl) (goes_of Try.func41 rfl rfl) (fun ρ w hW => rest_ok hW.has (xs := b) h_b (by omega) (by omega)) ?_
            intro G2 v hle hΦ
            replace hc30 := Le.trans hc30 hle
            replace h_a := h_a.mono hle
            replace h_b := h_b.mono hle
            replace at5 := at5.mono hle
            replace at10 := at10.mono hle
            replace h_r31 := h_r31.mono hle
            replace hs35 := hs35.mono hle
            replace hz := hz.mono hle
            obtain ⟨A_r36, n_r36, c_r36, rfl, h_r36, hR37⟩ := hΦ
            have lh_r36 := h_r36.len'
            refine WD_on hle ?_
            refine WD_up hle ?_
            refine WD_takeL htb rfl (fun _ _ _ _ _ h => h) (Le.refl _) [17] (fuel := 5) (listed' := bts 21 260607) (S' := ⟨[(32, (.agg [(sS A_r31 n_r31 c_r31), (sS A_r36 n_r36 c_r36)])), (31, (sS A_r36 n_r36 c_r36)), (19, (sS (some ⟨bk34, 0, none⟩) 1 1)), (28, (sS A_r31 n_r31 c_r31)), (23, (iI x11)), (22, (.v (.pointer (some (q8.add (0 * 1)))))), (18, (iI x6)), (17, (.v (.pointer (some (q3.add (0 * 1)))))), (30, (sS (some q8) n_b c_b)), (29, (.p 0 1)), (27, (sS (some q3) n_a c_a)), (26, (.p 0 0)), (21, (sS (some q8) n_b c_b)), (20, (.p 0 1)), (16, (sS (some q3) n_a c_a)), (15, (.p 0 0)), (3, (.p 2 0)), (2, (.p 1 0)), (1, (.p 0 0))], [(2, (.cells 24 [(sS none 0 0), (sS none 0 0)])), (1, (.cells 24 [(sS none 0 0), (sS none 0 0)]))], 4, [], [(0, bk2, (.cells 24 [(sS (some q3) n_a c_a), (sS (some q8) n_b c_b)]))]⟩) hz (by kernel_rfl) rfl ?_
            refine WD_one 9 (by rfl) (by decide +kernel) (WOp_step htb (S' := ⟨[(24, (.s 4 1 1)), (32, (.agg [(sS A_r31 n_r31 c_r31), (sS A_r36 n_r36 c_r36)])), (31, (sS A_r36 n_r36 c_r36)), (19, (sS (some ⟨bk34, 0, none⟩) 1 1)), (28, (sS A_r31 n_r31 c_r31)), (23, (iI x11)), (22, (.v (.pointer (some (q8.add (0 * 1)))))), (18, (iI x6)), (17, (.v (.pointer (some (q3.add (0 * 1)))))), (30, (sS (some q8) n_b c_b)), (29, (.p 0 1)), (27, (sS (some q3) n_a c_a)), (26, (.p 0 0)), (21, (sS (some q8) n_b c_b)), (20, (.p 0 1)), (16, (sS (some q3) n_a c_a)), (15, (.p 0 0)), (3, (.p 2 0)), (2, (.p 1 0)), (1, (.p 0 0))], [(4, (.cells 3 [(iI x11)])), (2, (.cells 24 [(sS none 0 0), (sS none 0 0)])), (1, (.cells 24 [(sS none 0 0), (sS none 0 0)]))], 5, [], [(0, bk2, (.cells 24 [(sS (some q3) n_a c_a), (sS (some q8) n_b c_b)]))]⟩) (by kernel_rfl) (WD_on (Le.refl _) ?_))
            refine WK_freezeV 4 rfl rfl rfl rfl ?_
            intro bk39 G38 hle hbk39
            replace hc30 := Le.trans hc30 hle
            replace h_a := h_a.mono hle
            replace h_b := h_b.mono hle
            replace at5 := at5.mono hle
            replace at10 := at10.mono hle
            replace h_r31 := h_r31.mono hle
            replace hs35 := hs35.mono hle
            replace h_r36 := h_r36.mono hle
            replace hz := hz.mono hle
            refine WD_up hle ?_
            show WK _ _ ⟨[(24, (sS (some ⟨bk39, 0, none⟩) 1 1)), (32, (.agg [(sS A_r31 n_r31 c_r31), (sS A_r36 n_r36 c_r36)])), (31, (sS A_r36 n_r36 c_r36)), (19, (sS (some ⟨bk34, 0, none⟩) 1 1)), (28, (sS A_r31 n_r31 c_r31)), (23, (iI x11)), (22, (.v (.pointer (some (q8.add (0 * 1)))))), (18, (iI x6)), (17, (.v (.pointer (some (q3.add (0 * 1)))))), (30, (sS (some q8) n_b c_b)), (29, (.p 0 1)), (27, (sS (some q3) n_a c_a)), (26, (.p 0 0)), (21, (sS (some q8) n_b c_b)), (20, (.p 0 1)), (16, (sS (some q3) n_a c_a)), (15, (.p 0 0)), (3, (.p 2 0)), (2, (.p 1 0)), (1, (.p 0 0))], [(2, (.cells 24 [(sS none 0 0), (sS none 0 0)])), (1, (.cells 24 [(sS none 0 0), (sS none 0 0)]))], 5, [], [(0, bk2, (.cells 24 [(sS (some q3) n_a c_a), (sS (some q8) n_b c_b)]))]⟩ _
            have hs40 : Sl (tInt .i64) G38 (some ⟨bk39, 0, none⟩) 1 1 [x11] := Sl.lit (cs := [.int .i64 x11]) (RepsL.cons' (rep_int _ (x := x11) (bd_of hn12)) .nil) hbk39 rfl (by unfold big; omega)
            have lhs40 := hs40.len'
            refine WD_takeL htb rfl (fun _ _ _ _ _ h => h) (Le.refl _) [10] (fuel := 3) (listed' := bts 21 262143) (S' := ⟨[(25, (.agg [(sS (some ⟨bk34, 0, none⟩) 1 1), (sS (some ⟨bk39, 0, none⟩) 1 1)])), (24, (sS (some ⟨bk39, 0, none⟩) 1 1)), (32, (.agg [(sS A_r31 n_r31 c_r31), (sS A_r36 n_r36 c_r36)])), (31, (sS A_r36 n_r36 c_r36)), (19, (sS (some ⟨bk34, 0, none⟩) 1 1)), (28, (sS A_r31 n_r31 c_r31)), (23, (iI x11)), (22, (.v (.pointer (some (q8.add (0 * 1)))))), (18, (iI x6)), (17, (.v (.pointer (some (q3.add (0 * 1)))))), (30, (sS (some q8) n_b c_b)), (29, (.p 0 1)), (27, (sS (some q3) n_a c_a)), (26, (.p 0 0)), (21, (sS (some q8) n_b c_b)), (20, (.p 0 1)), (16, (sS (some q3) n_a c_a)), (15, (.p 0 0)), (3, (.p 2 0)), (2, (.p 1 0)), (1, (.p 0 0))], [(2, (.cells 24 [(sS none 0 0), (sS none 0 0)])), (1, (.cells 24 [(sS none 0 0), (sS none 0 0)]))], 5, [], [(0, bk2, (.cells 24 [(sS (some q3) n_a c_a), (sS (some q8) n_b c_b)]))]⟩) hz (by kernel_rfl) rfl ?_
            refine WK_keep [32, 25, 19, 24, 28, 31, 23, 22, 18, 17, 30, 29, 27, 26, 21, 20, 16, 15, 3, 2, 1] [2, 1] rfl rfl ?_
            refine WK_ren (T := ⟨[(32, (.agg [(sS A_r31 n_r31 c_r31), (sS A_r36 n_r36 c_r36)])), (25, (.agg [(sS (some ⟨bk34, 0, none⟩) 1 1), (sS (some ⟨bk39, 0, none⟩) 1 1)])), (19, (sS (some ⟨bk34, 0, none⟩) 1 1)), (24, (sS (some ⟨bk39, 0, none⟩) 1 1)), (28, (sS A_r31 n_r31 c_r31)), (31, (sS A_r36 n_r36 c_r36)), (23, (iI x11)), (22, (.v (.pointer (some (q8.add (0 * 1)))))), (18, (iI x6)), (17, (.v (.pointer (some (q3.add (0 * 1)))))), (30, (sS (some q8) n_b c_b)), (29, (.p 0 1)), (27, (sS (some q3) n_a c_a)), (26, (.p 0 0)), (21, (sS (some q8) n_b c_b)), (20, (.p 0 1)), (16, (sS (some q3) n_a c_a)), (15, (.p 0 0)), (3, (.p 2 0)), (2, (.p 1 0)), (1, (.p 0 0))], [(2, (.cells 24 [(sS none 0 0), (sS none 0 0)])), (1, (.cells 24 [(sS none 0 0), (sS none 0 0)]))], 3, [], [(0, bk2, (.cells 24 [(sS (some q3) n_a c_a), (sS (some q8) n_b c_b)]))]⟩) [] rfl rfl rfl rfl rfl rfl ?_
            exact hK29 ((some ⟨bk34, 0, none⟩), 1, 1, (some ⟨bk39, 0, none⟩), 1, 1, A_r31, n_r31, c_r31, A_r36, n_r36, c_r36) G38 ⟨hc30, hs35, hs40, h_r31, h_r36⟩
        · skip
          refine WOp_step htb (S' := ⟨[(24, (.s 3 1 1)), (28, (sS A_r31 n_r31 c_r31)), (23, (iI x11)), (22, (.v (.pointer (some (q8.add (0 * 1)))))), (18, (iI x6)), (17, (.v (.pointer (some (q3.add (0 * 1)))))), (30, (sS (some q8) n_b c_b)), (29, (.p 0 1)), (27, (sS (some q3) n_a c_a)), (26, (.p 0 0)), (21, (sS (some q8) n_b c_b)), (20, (.p 0 1)), (16, (sS (some q3) n_a c_a)), (15, (.p 0 0)), (3, (.p 2 0)), (2, (.p 1 0)), (1, (.p 0 0))], [(3, (.cells 3 [(iI x11)])), (2, (.cells 24 [(sS none 0 0), (sS none 0 0)])), (1, (.cells 24 [(sS none 0 0), (sS none 0 0)]))], 4, [], [(0, bk2, (.cells 24 [(sS (some q3) n_a c_a), (sS (some q8) n_b c_b)]))]⟩) (by kernel_rfl) (WD_on (Le.refl _) ?_)
          refine WK_freezeV 3 rfl rfl rfl rfl ?_
          intro bk34 G33 hle hbk34
          replace hc30 := Le.trans hc30 hle
          replace h_a := h_a.mono hle
          replace h_b := h_b.mono hle
          replace at5 := at5.mono hle
          replace at10 := at10.mono hle
          replace h_r31 := h_r31.mono hle
          replace hz := hz.mono hle
          refine WD_up hle ?_
          show WK _ _ ⟨[(24, (sS (some ⟨bk34, 0, none⟩) 1 1)), (28, (sS A_r31 n_r31 c_r31)), (23, (iI x11)), (22, (.v (.pointer (some (q8.add (0 * 1)))))), (18, (iI x6)), (17, (.v (.pointer (some (q3.add (0 * 1)))))), (30, (sS (some q8) n_b c_b)), (29, (.p 0 1)), (27, (sS (some q3) n_a c_a)), (26, (.p 0 0)), (21, (sS (some q8) n_b c_b)), (20, (.p 0 1)), (16, (sS (some q3) n_a c_a)), (15, (.p 0 0)), (3, (.p 2 0)), (2, (.p 1 0)), (1, (.p 0 0))], [(2, (.cells 24 [(sS none 0 0), (sS none 0 0)])), (1, (.cells 24 [(sS none 0 0), (sS none 0 0)]))], 4, [], [(0, bk2, (.cells 24 [(sS (some q3) n_a c_a), (sS (some q8) n_b c_b)]))]⟩ _
          have hs35 : Sl (tInt .i64) G33 (some ⟨bk34, 0, none⟩) 1 1 [x11] := Sl.lit (cs := [.int .i64 x11]) (RepsL.cons' (rep_int _ (x := x11) (bd_of hn12)) .nil) hbk34 rfl (by unfold big; omega)
          have lhs35 := hs35.len'
          refine WD_two 4 16 (by rfl) (by rfl) (by decide +kernel) ?_ ?_
          · skip
            refine WOp_step htb (S' := ⟨[(19, (.s 4 1 1)), (24, (sS (some ⟨bk34, 0, none⟩) 1 1)), (28, (sS A_r31 n_r31 c_r31)), (23, (iI x11)), (22, (.v (.pointer (some (q8.add (0 * 1)))))), (18, (iI x6)), (17, (.v (.pointer (some (q3.add (0 * 1)))))), (30, (sS (some q8) n_b c_b)), (29, (.p 0 1)), (27, (sS (some q3) n_a c_a)), (26, (.p 0 0)), (21, (sS (some q8) n_b c_b)), (20, (.p 0 1)), (16, (sS (some q3) n_a c_a)), (15, (.p 0 0)), (3, (.p 2 0)), (2, (.p 1 0)), (1, (.p 0 0))], [(4, (.cells 3 [(iI x6)])), (2, (.cells 24 [(sS none 0 0), (sS none 0 0)])), (1, (.cells 24 [(sS none 0 0), (sS none 0 0)]))], 5, [], [(0, bk2, (.cells 24 [(sS (some q3) n_a c_a), (sS (some q8) n_b c_b)]))]⟩) (by kernel_rfl) (WD_on (Le.refl _) ?_)
            refine WK_freezeV 4 rfl rfl rfl rfl ?_
            intro bk37 G36 hle hbk37
            replace hc30 := Le.trans hc30 hle
            replace h_a := h_a.mono hle
            replace h_b := h_b.mono hle
            replace at5 := at5.mono hle
            replace at10 := at10.mono hle
            replace h_r31 := h_r31.mono hle
            replace hs35 := hs35.mono hle
            replace hz := hz.mono hle
            refine WD_up hle ?_
            show WK _ _ ⟨[(19, (sS (some ⟨bk37, 0, none⟩) 1 1)), (24, (sS (some ⟨bk34, 0, none⟩) 1 1)), (28, (sS A_r31 n_r31 c_r31)), (23, (iI x11)), (22, (.v (.pointer (some (q8.add (0 * 1)))))), (18, (iI x6)), (17, (.v (.pointer (some (q3.add (0 * 1)))))), (30, (sS (some q8) n_b c_b)), (29, (.p 0 1)), (27, (sS (some q3) n_a c_a)), (26, (.p 0 0)), (21, (sS (some q8) n_b c_b)), (20, (.p 0 1)), (16, (sS (some q3) n_a c_a)), (15, (.p 0 0)), (3, (.p 2 0)), (2, (.p 1 0)), (1, (.p 0 0))], [(2, (.cells 24 [(sS none 0 0), (sS none 0 0)])), (1, (.cells 24 [(sS none 0 0), (sS none 0 0)]))], 5, [], [(0, bk2, (.cells 24 [(sS (some q3) n_a c_a), (sS (some q8) n_b c_b)]))]⟩ _
            have hs38 : Sl (tInt .i64) G36 (some ⟨bk37, 0, none⟩) 1 1 [x6] := Sl.lit (cs := [.int .i64 x6]) (RepsL.cons' (rep_int _ (x := x6) (bd_of hn7)) .nil) hbk37 rfl (by unfold big; omega)
            have lhs38 := hs38.len'
            refine WD_takeL htb rfl (fun _ _ _ _ _ h => h) (Le.refl _) [10] (fuel := 5) (listed' := bts 21 65535) (S' := ⟨[(25, (.agg [(sS (some ⟨bk37, 0, none⟩) 1 1), (sS (some ⟨bk34, 0, none⟩) 1 1)])), (19, (sS (some ⟨bk37, 0, none⟩) 1 1)), (24, (sS (some ⟨bk34, 0, none⟩) 1 1)), (28, (sS A_r31 n_r31 c_r31)), (23, (iI x11)), (22, (.v (.pointer (some (q8.add (0 * 1)))))), (18, (iI x6)), (17, (.v (.pointer (some (q3.add (0 * 1)))))), (30, (sS (some q8) n_b c_b)), (29, (.p 0 1)), (27, (sS (some q3) n_a c_a)), (26, (.p 0 0)), (21, (sS (some q8) n_b c_b)), (20, (.p 0 1)), (16, (sS (some q3) n_a c_a)), (15, (.p 0 0)), (3, (.p 2 0)), (2, (.p 1 0)), (1, (.p 0 0))], [(2, (.cells 24 [(sS none 0 0), (sS none 0 0)])), (1, (.cells 24 [(sS none 0 0), (sS none 0 0)]))], 5, [], [(0, bk2, (.cells 24 [(sS (some q3) n_a c_a), (sS (some q8) n_b c_b)]))]⟩) hz (by kernel_rfl) rfl ?_
            refine WD_one 16 (by rfl) (by decide +kernel) (WOp_call 41 [(sS (some q8) n_b c_b)] (by kernel_rfl) (goes_of Try.func41 rfl rfl) (fun ρ w hW => rest_ok hW.has (xs := b) h_b (by omega) (by omega)) ?_)
            intro G2 v hle hΦ
            replace hc30 := Le.trans hc30 hle
            replace h_a := h_a.mono hle
            replace h_b := h_b.mono hle
            replace at5 := at5.mono hle
            replace at10 := at10.mono hle
            replace h_r31 := h_r31.mono hle
            replace hs35 := hs35.mono hle
            replace hs38 := hs38.mono hle
            replace hz := hz.mono hle
            obtain ⟨A_r39, n_r39, c_r39, rfl, h_r39, hR40⟩ := hΦ
            have lh_r39 := h_r39.len'
            refine WD_on hle ?_
            refine WD_up hle ?_
            refine WD_takeL htb rfl (fun _ _ _ _ _ h => h) (Le.refl _) [17] (fuel := 3) (listed' := bts 21 262143) (S' := ⟨[(32, (.agg [(sS A_r31 n_r31 c_r31), (sS A_r39 n_r39 c_r39)])), (31, (sS A_r39 n_r39 c_r39)), (25, (.agg [(sS (some ⟨bk37, 0, none⟩) 1 1), (sS (some ⟨bk34, 0, none⟩) 1 1)])), (19, (sS (some ⟨bk37, 0, none⟩) 1 1)), (24, (sS (some ⟨bk34, 0, none⟩) 1 1)), (28, (sS A_r31 n_r31 c_r31)), (23, (iI x11)), (22, (.v (.pointer (some (q8.add (0 * 1)))))), (18, (iI x6)), (17, (.v (.pointer (some (q3.add (0 * 1)))))), (30, (sS (some q8) n_b c_b)), (29, (.p 0 1)), (27, (sS (some q3) n_a c_a)), (26, (.p 0 0)), (21, (sS (some q8) n_b c_b)), (20, (.p 0 1)), (16, (sS (some q3) n_a c_a)), (15, (.p 0 0)), (3, (.p 2 0)), (2, (.p 1 0)), (1, (.p 0 0))], [(2, (.cells 24 [(sS none 0 0), (sS none 0 0)])), (1, (.cells 24 [(sS none 0 0), (sS none 0 0)]))], 5, [], [(0, bk2, (.cells 24 [(sS (some q3) n_a c_a), (sS (some q8) n_b c_b)]))]⟩) hz (by kernel_rfl) rfl ?_
            refine WK_keep [32, 25, 19, 24, 28, 31, 23, 22, 18, 17, 30, 29, 27, 26, 21, 20, 16, 15, 3, 2, 1] [2, 1] rfl rfl ?_
            refine WK_ren (T := ⟨[(32, (.agg [(sS A_r31 n_r31 c_r31), (sS A_r39 n_r39 c_r39)])), (25, (.agg [(sS (some ⟨bk37, 0, none⟩) 1 1), (sS (some ⟨bk34, 0, none⟩) 1 1)])), (19, (sS (some ⟨bk37, 0, none⟩) 1 1)), (24, (sS (some ⟨bk34, 0, none⟩) 1 1)), (28, (sS A_r31 n_r31 c_r31)), (31, (sS A_r39 n_r39 c_r39)), (23, (iI x11)), (22, (.v (.pointer (some (q8.add (0 * 1)))))), (18, (iI x6)), (17, (.v (.pointer (some (q3.add (0 * 1)))))), (30, (sS (some q8) n_b c_b)), (29, (.p 0 1)), (27, (sS (some q3) n_a c_a)), (26, (.p 0 0)), (21, (sS (some q8) n_b c_b)), (20, (.p 0 1)), (16, (sS (some q3) n_a c_a)), (15, (.p 0 0)), (3, (.p 2 0)), (2, (.p 1 0)), (1, (.p 0 0))], [(2, (.cells 24 [(sS none 0 0), (sS none 0 0)])), (1, (.cells 24 [(sS none 0 0), (sS none 0 0)]))], 3, [], [(0, bk2, (.cells 24 [(sS (some q3) n_a c_a), (sS (some q8) n_b c_b)]))]⟩) [] rfl rfl rfl rfl rfl rfl ?_
            exact hK29 ((some ⟨bk37, 0, none⟩), 1, 1, (some ⟨bk34, 0, none⟩), 1, 1, A_r31, n_r31, c_r31, A_r39, n_r39, c_r39) G2 ⟨hc30, hs38, hs35, h_r31, h_r39⟩
          · skip
            refine WOp_call 41 [(sS (some q8) n_b c_b)] (by kernel_rfl) (goes_of Try.func41 rfl rfl) (fun ρ w hW => rest_ok hW.has (xs := b) h_b (by omega) (by omega)) ?_
            intro G2 v hle hΦ
            replace hc30 := Le.trans hc30 hle
            replace h_a := h_a.mono hle
            replace h_b := h_b.mono hle
            replace at5 := at5.mono hle
            replace at10 := at10.mono hle
            replace h_r31 := h_r31.mono hle
            replace hs35 := hs35.mono hle
            replace hz := hz.mono hle
            obtain ⟨A_r36, n_r36, c_r36, rfl, h_r36, hR37⟩ := hΦ
            have lh_r36 := h_r36.len'
            refine WD_on hle ?_
            refine WD_up hle ?_
            refine WD_takeL htb rfl (fun _ _ _ _ _ h => h) (Le.refl _) [17] (fuel := 5) (listed' := bts 21 261103) (S' := ⟨[(32, (.agg [(sS A_r31 n_r31 c_r31), (sS A_r36 n_r36 c_r36)])), (31, (sS A_r36 n_r36 c_r36)), (24, (sS (some ⟨bk34, 0, none⟩) 1 1)), (28, (sS A_r31 n_r31 c_r31)), (23, (iI x11)), (22, (.v (.pointer (some (q8.add (0 * 1)))))), (18, (iI x6)), (17, (.v (.pointer (some (q3.add (0 * 1)))))), (30, (sS (some q8) n_b c_b)), (29, (.p 0 1)), (27, (sS (some q3) n_a c_a)), (26, (.p 0 0)), (21, (sS (some q8) n_b c_b)), (20, (.p 0 1)), (16, (sS (some q3) n_a c_a)), (15, (.p 0 0)), (3, (.p 2 0)), (2, (.p 1 0)), (1, (.p 0 0))], [(2, (.cells 24 [(sS none 0 0), (sS none 0 0)])), (1, (.cells 24 [(sS none 0 0), (sS none 0 0)]))], 4, [], [(0, bk2, (.cells 24 [(sS (some q3) n_a c_a), (sS (some q8) n_b c_b)]))]⟩) hz (by kernel_rfl) rfl ?_
            refine WD_one 4 (by rfl) (by decide +kernel) (WOp_step htb (S' := ⟨[(19, (.s 4 1 1)), (32, (.agg [(sS A_r31 n_r31 c_r31), (sS A_r36 n_r36 c_r36)])), (31, (sS A_r36 n_r36 c_r36)), (24, (sS (some ⟨bk34, 0, none⟩) 1 1)), (28, (sS A_r31 n_r31 c_r31)), (23, (iI x11)), (22, (.v (.pointer (some (q8.add (0 * 1)))))), (18, (iI x6)), (17, (.v (.pointer (some (q3.add (0 * 1)))))), (30, (sS (some q8) n_b c_b)), (29, (.p 0 1)), (27, (sS (some q3) n_a c_a)), (26, (.p 0 0)), (21, (sS (some q8) n_b c_b)), (20, (.p 0 1)), (16, (sS (some q3) n_a c_a)), (15, (.p 0 0)), (3, (.p 2 0)), (2, (.p 1 0)), (1, (.p 0 0))], [(4, (.cells 3 [(iI x6)])), (2, (.cells 24 [(sS none 0 0), (sS none 0 0)])), (1, (.cells 24 [(sS none 0 0), (sS none 0 0)]))], 5, [], [(0, bk2, (.cells 24 [(sS (some q3) n_a c_a), (sS (some q8) n_b c_b)]))]⟩) (by kernel_rfl) (WD_on (Le.refl _) ?_))
            refine WK_freezeV 4 rfl rfl rfl rfl ?_
            intro bk39 G38 hle hbk39
            replace hc30 := Le.trans hc30 hle
            replace h_a := h_a.mono hle
            replace h_b := h_b.mono hle
            replace at5 := at5.mono hle
            replace at10 := at10.mono hle
            replace h_r31 := h_r31.mono hle
            replace hs35 := hs35.mono hle
            replace h_r36 := h_r36.mono hle
            replace hz := hz.mono hle
            refine WD_up hle ?_
            show WK _ _ ⟨[(19, (sS (some ⟨bk39, 0, none⟩) 1 1)), (32, (.agg [(sS A_r31 n_r31 c_r31), (sS A_r36 n_r36 c_r36)])), (31, (sS A_r36 n_r36 c_r36)), (24, (sS (some ⟨bk34, 0, none⟩) 1 1)), (28, (sS A_r31 n_r31 c_r31)), (23, (iI x11)), (22, (.v (.pointer (some (q8.add (0 * 1)))))), (18, (iI x6)), (17, (.v (.pointer (some (q3.add (0 * 1)))))), (30, (sS (some q8) n_b c_b)), (29, (.p 0 1)), (27, (sS (some q3) n_a c_a)), (26, (.p 0 0)), (21, (sS (some q8) n_b c_b)), (20, (.p 0 1)), (16, (sS (some q3) n_a c_a)), (15, (.p 0 0)), (3, (.p 2 0)), (2, (.p 1 0)), (1, (.p 0 0))], [(2, (.cells 24 [(sS none 0 0), (sS none 0 0)])), (1, (.cells 24 [(sS none 0 0), (sS none 0 0)]))], 5, [], [(0, bk2, (.cells 24 [(sS (some q3) n_a c_a), (sS (some q8) n_b c_b)]))]⟩ _
            have hs40 : Sl (tInt .i64) G38 (some ⟨bk39, 0, none⟩) 1 1 [x6] := Sl.lit (cs := [.int .i64 x6]) (RepsL.cons' (rep_int _ (x := x6) (bd_of hn7)) .nil) hbk39 rfl (by unfold big; omega)
            have lhs40 := hs40.len'
            refine WD_takeL htb rfl (fun _ _ _ _ _ h => h) (Le.refl _) [10] (fuel := 3) (listed' := bts 21 262143) (S' := ⟨[(25, (.agg [(sS (some ⟨bk39, 0, none⟩) 1 1), (sS (some ⟨bk34, 0, none⟩) 1 1)])), (19, (sS (some ⟨bk39, 0, none⟩) 1 1)), (32, (.agg [(sS A_r31 n_r31 c_r31), (sS A_r36 n_r36 c_r36)])), (31, (sS A_r36 n_r36 c_r36)), (24, (sS (some ⟨bk34, 0, none⟩) 1 1)), (28, (sS A_r31 n_r31 c_r31)), (23, (iI x11)), (22, (.v (.pointer (some (q8.add (0 * 1)))))), (18, (iI x6)), (17, (.v (.pointer (some (q3.add (0 * 1)))))), (30, (sS (some q8) n_b c_b)), (29, (.p 0 1)), (27, (sS (some q3) n_a c_a)), (26, (.p 0 0)), (21, (sS (some q8) n_b c_b)), (20, (.p 0 1)), (16, (sS (some q3) n_a c_a)), (15, (.p 0 0)), (3, (.p 2 0)), (2, (.p 1 0)), (1, (.p 0 0))], [(2, (.cells 24 [(sS none 0 0), (sS none 0 0)])), (1, (.cells 24 [(sS none 0 0), (sS none 0 0)]))], 5, [], [(0, bk2, (.cells 24 [(sS (some q3) n_a c_a), (sS (some q8) n_b c_b)]))]⟩) hz (by kernel_rfl) rfl ?_
            refine WK_keep [32, 25, 19, 24, 28, 31, 23, 22, 18, 17, 30, 29, 27, 26, 21, 20, 16, 15, 3, 2, 1] [2, 1] rfl rfl ?_
            refine WK_ren (T := ⟨[(32, (.agg [(sS A_r31 n_r31 c_r31), (sS A_r36 n_r36 c_r36)])), (25, (.agg [(sS (some ⟨bk39, 0, none⟩) 1 1), (sS (some ⟨bk34, 0, none⟩) 1 1)])), (19, (sS (some ⟨bk39, 0, none⟩) 1 1)), (24, (sS (some ⟨bk34, 0, none⟩) 1 1)), (28, (sS A_r31 n_r31 c_r31)), (31, (sS A_r36 n_r36 c_r36)), (23, (iI x11)), (22, (.v (.pointer (some (q8.add (0 * 1)))))), (18, (iI x6)), (17, (.v (.pointer (some (q3.add (0 * 1)))))), (30, (sS (some q8) n_b c_b)), (29, (.p 0 1)), (27, (sS (some q3) n_a c_a)), (26, (.p 0 0)), (21, (sS (some q8) n_b c_b)), (20, (.p 0 1)), (16, (sS (some q3) n_a c_a)), (15, (.p 0 0)), (3, (.p 2 0)), (2, (.p 1 0)), (1, (.p 0 0))], [(2, (.cells 24 [(sS none 0 0), (sS none 0 0)])), (1, (.cells 24 [(sS none 0 0), (sS none 0 0)]))], 3, [], [(0, bk2, (.cells 24 [(sS (some q3) n_a c_a), (sS (some q8) n_b c_b)]))]⟩) [] rfl rfl rfl rfl rfl rfl ?_
            exact hK29 ((some ⟨bk39, 0, none⟩), 1, 1, (some ⟨bk34, 0, none⟩), 1, 1, A_r31, n_r31, c_r31, A_r36, n_r36, c_r36) G38 ⟨hc30, hs40, hs35, h_r31, h_r36⟩
        · skip
          refine WOp_call 41 [(sS (some q8) n_b c_b)] (by kernel_rfl) (goes_of Try.func41 rfl rfl) (fun ρ w hW => rest_ok hW.has (xs := b) h_b (by omega) (by omega)) ?_
          intro G2 v hle hΦ
          replace hc30 := Le.trans hc30 hle
          replace h_a := h_a.mono hle
          replace h_b := h_b.mono hle
          replace at5 := at5.mono hle
          replace at10 := at10.mono hle
          replace h_r31 := h_r31.mono hle
          replace hz := hz.mono hle
          obtain ⟨A_r33, n_r33, c_r33, rfl, h_r33, hR34⟩ := hΦ
          have lh_r33 := h_r33.len'
          refine WD_on hle ?_
          refine WD_up hle ?_
          refine WD_takeL htb rfl (fun _ _ _ _ _ h => h) (Le.refl _) [17] (fuel := 6) (listed' := bts 21 260591) (S' := ⟨[(32, (.agg [(sS A_r31 n_r31 c_r31), (sS A_r33 n_r33 c_r33)])), (31, (sS A_r33 n_r33 c_r33)), (28, (sS A_r31 n_r31 c_r31)), (23, (iI x11)), (22, (.v (.pointer (some (q8.add (0 * 1)))))), (18, (iI x6)), (17, (.v (.pointer (some (q3.add (0 * 1)))))), (30, (sS (some q8) n_b c_b)), (29, (.p 0 1)), (27, (sS (some q3) n_a c_a)), (26, (.p 0 0)), (21, (sS (some q8) n_b c_b)), (20, (.p 0 1)), (16, (sS (some q3) n_a c_a)), (15, (.p 0 0)), (3, (.p 2 0)), (2, (.p 1 0)), (1, (.p 0 0))], [(2, (.cells 24 [(sS none 0 0), (sS none 0 0)])), (1, (.cells 24 [(sS none 0 0), (sS none 0 0)]))], 3, [], [(0, bk2, (.cells 24 [(sS (some q3) n_a c_a), (sS (some q8) n_b c_b)]))]⟩) hz (by kernel_rfl) rfl ?_
          refine WD_two 4 9 (by rfl) (by rfl) (by decide +kernel) ?_ ?_
          · skip
            refine WOp_step htb (S' := ⟨[(19, (.s 3 1 1)), (32, (.agg [(sS A_r31 n_r31 c_r31), (sS A_r33 n_r33 c_r33)])), (31, (sS A_r33 n_r33 c_r33)), (28, (sS A_r31 n_r31 c_r31)), (23, (iI x11)), (22, (.v (.pointer (some (q8.add (0 * 1)))))), (18, (iI x6)), (17, (.v (.pointer (some (q3.add (0 * 1)))))), (30, (sS (some q8) n_b c_b)), (29, (.p 0 1)), (27, (sS (some q3) n_a c_a)), (26, (.p 0 0)), (21, (sS (some q8) n_b c_b)), (20, (.p 0 1)), (16, (sS (some q3) n_a c_a)), (15, (.p 0 0)), (3, (.p 2 0)), (2, (.p 1 0)), (1, (.p 0 0))], [(3, (.cells 3 [(iI x6)])), (2, (.cells 24 [(sS none 0 0), (sS none 0 0)])), (1, (.cells 24 [(sS none 0 0), (sS none 0 0)]))], 4, [], [(0, bk2, (.cells 24 [(sS (some q3) n_a c_a), (sS (some q8) n_b c_b)]))]⟩) (by kernel_rfl) (WD_on (Le.refl _) ?_)
            refine WK_freezeV 3 rfl rfl rfl rfl ?_
            intro bk36 G35 hle hbk36
            replace hc30 := Le.trans hc30 hle
            replace h_a := h_a.mono hle
            replace h_b := h_b.mono hle
            replace at5 := at5.mono hle
            replace at10 := at10.mono hle
            replace h_r31 := h_r31.mono hle
            replace h_r33 := h_r33.mono hle
            replace hz := hz.mono hle
            refine WD_up hle ?_
            show WK _ _ ⟨[(19, (sS (some ⟨bk36, 0, none⟩) 1 1)), (32, (.agg [(sS A_r31 n_r31 c_r31), (sS A_r33 n_r33 c_r33)])), (31, (sS A_r33 n_r33 c_r33)), (28, (sS A_r31 n_r31 c_r31)), (23, (iI x11)), (22, (.v (.pointer (some (q8.add (0 * 1)))))), (18, (iI x6)), (17, (.v (.pointer (some (q3.add (0 * 1)))))), (30, (sS (some q8) n_b c_b)), (29, (.p 0 1)), (27, (sS (some q3) n_a c_a)), (26, (.p 0 0)), (21, (sS (some q8) n_b c_b)), (20, (.p 0 1)), (16, (sS (some q3) n_a c_a)), (15, (.p 0 0)), (3, (.p 2 0)), (2, (.p 1 0)), (1, (.p 0 0))], [(2, (.cells 24 [(sS none 0 0), (sS none 0 0)])), (1, (.cells 24 [(sS none 0 0), (sS none 0 0)]))], 4, [], [(0, bk2, (.cells 24 [(sS (some q3) n_a c_a), (sS (some q8) n_b c_b)]))]⟩ _
            have hs37 : Sl (tInt .i64) G35 (some ⟨bk36, 0, none⟩) 1 1 [x6] := Sl.lit (cs := [.int .i64 x6]) (RepsL.cons' (rep_int _ (x := x6) (bd_of hn7)) .nil) hbk36 rfl (by unfold big; omega)
            have lhs37 := hs37.len'
            refine WD_one 9 (by rfl) (by decide +kernel) (WOp_step htb (S' := ⟨[(24, (.s 4 1 1)), (19, (sS (some ⟨bk36, 0, none⟩) 1 1)), (32, (.agg [(sS A_r31 n_r31 c_r31), (sS A_r33 n_r33 c_r33)])), (31, (sS A_r33 n_r33 c_r33)), (28, (sS A_r31 n_r31 c_r31)), (23, (iI x11)), (22, (.v (.pointer (some (q8.add (0 * 1)))))), (18, (iI x6)), (17, (.v (.pointer (some (q3.add (0 * 1)))))), (30, (sS (some q8) n_b c_b)), (29, (.p 0 1)), (27, (sS (some q3) n_a c_a)), (26, (.p 0 0)), (21, (sS (some q8) n_b c_b)), (20, (.p 0 1)), (16, (sS (some q3) n_a c_a)), (15, (.p 0 0)), (3, (.p 2 0)), (2, (.p 1 0)), (1, (.p 0 0))], [(4, (.cells 3 [(iI x11)])), (2, (.cells 24 [(sS none 0 0), (sS none 0 0)])), (1, (.cells 24 [(sS none 0 0), (sS none 0 0)]))], 5, [], [(0, bk2, (.cells 24 [(sS (some q3) n_a c_a), (sS (some q8) n_b c_b)]))]⟩) (by kernel_rfl) (WD_on (Le.refl _) ?_))
            refine WK_freezeV 4 rfl rfl rfl rfl ?_
            intro bk39 G38 hle hbk39
            replace hc30 := Le.trans hc30 hle
            replace h_a := h_a.mono hle
            replace h_b := h_b.mono hle
            replace at5 := at5.mono hle
            replace at10 := at10.mono hle
            replace h_r31 := h_r31.mono hle
            replace h_r33 := h_r33.mono hle
            replace hs37 := hs37.mono hle
            replace hz := hz.mono hle
            refine WD_up hle ?_
            show WK _ _ ⟨[(24, (sS (some ⟨bk39, 0, none⟩) 1 1)), (19, (sS (some ⟨bk36, 0, none⟩) 1 1)), (32, (.agg [(sS A_r31 n_r31 c_r31), (sS A_r33 n_r33 c_r33)])), (31, (sS A_r33 n_r33 c_r33)), (28, (sS A_r31 n_r31 c_r31)), (23, (iI x11)), (22, (.v (.pointer (some (q8.add (0 * 1)))))), (18, (iI x6)), (17, (.v (.pointer (some (q3.add (0 * 1)))))), (30, (sS (some q8) n_b c_b)), (29, (.p 0 1)), (27, (sS (some q3) n_a c_a)), (26, (.p 0 0)), (21, (sS (some q8) n_b c_b)), (20, (.p 0 1)), (16, (sS (some q3) n_a c_a)), (15, (.p 0 0)), (3, (.p 2 0)), (2, (.p 1 0)), (1, (.p 0 0))], [(2, (.cells 24 [(sS none 0 0), (sS none 0 0)])), (1, (.cells 24 [(sS none 0 0), (sS none 0 0)]))], 5, [], [(0, bk2, (.cells 24 [(sS (some q3) n_a c_a), (sS (some q8) n_b c_b)]))]⟩ _
            have hs40 : Sl (tInt .i64) G38 (some ⟨bk39, 0, none⟩) 1 1 [x11] := Sl.lit (cs := [.int .i64 x11]) (RepsL.cons' (rep_int _ (x := x11) (bd_of hn12)) .nil) hbk39 rfl (by unfold big; omega)
            have lhs40 := hs40.len'
            refine WD_takeL htb rfl (fun _ _ _ _ _ h => h) (Le.refl _) [10] (fuel := 3) (listed' := bts 21 262143) (S' := ⟨[(25, (.agg [(sS (some ⟨bk36, 0, none⟩) 1 1), (sS (some ⟨bk39, 0, none⟩) 1 1)])), (24, (sS (some ⟨bk39, 0, none⟩) 1 1)), (19, (sS (some ⟨bk36, 0, none⟩) 1 1)), (32, (.agg [(sS A_r31 n_r31 c_r31), (sS A_r33 n_r33 c_r33)])), (31, (sS A_r33 n_r33 c_r33)), (28, (sS A_r31 n_r31 c_r31)), (23, (iI x11)), (22, (.v (.pointer (some (q8.add (0 * 1)))))), (18, (iI x6)), (17, (.v (.pointer (some (q3.add (0 * 1)))))), (30, (sS (some q8) n_b c_b)), (29, (.p 0 1)), (27, (sS (some q3) n_a c_a)), (26, (.p 0 0)), (21, (sS (some q8) n_b c_b)), (20, (.p 0 1)), (16, (sS (some q3) n_a c_a)), (15, (.p 0 0)), (3, (.p 2 0)), (2, (.p 1 0)), (1, (.p 0 0))], [(2, (.cells 24 [(sS none 0 0), (sS none 0 0)])), (1, (.cells 24 [(sS none 0 0), (sS none 0 0)]))], 5, [], [(0, bk2, (.cells 24 [(sS (some q3) n_a c_a), (sS (some q8) n_b c_b)]))]⟩) hz (by kernel_rfl) rfl ?_
            refine WK_keep [32, 25, 19, 24, 28, 31, 23, 22, 18, 17, 30, 29, 27, 26, 21, 20, 16, 15, 3, 2, 1] [2, 1] rfl rfl ?_
            refine WK_ren (T := ⟨[(32, (.agg [(sS A_r31 n_r31 c_r31), (sS A_r33 n_r33 c_r33)])), (25, (.agg [(sS (some ⟨bk36, 0, none⟩) 1 1), (sS (some ⟨bk39, 0, none⟩) 1 1)])), (19, (sS (some ⟨bk36, 0, none⟩) 1 1)), (24, (sS (some ⟨bk39, 0, none⟩) 1 1)), (28, (sS A_r31 n_r31 c_r31)), (31, (sS A_r33 n_r33 c_r33)), (23, (iI x11)), (22, (.v (.pointer (some (q8.add (0 * 1)))))), (18, (iI x6)), (17, (.v (.pointer (some (q3.add (0 * 1)))))), (30, (sS (some q8) n_b c_b)), (29, (.p 0 1)), (27, (sS (some q3) n_a c_a)), (26, (.p 0 0)), (21, (sS (some q8) n_b c_b)), (20, (.p 0 1)), (16, (sS (some q3) n_a c_a)), (15, (.p 0 0)), (3, (.p 2 0)), (2, (.p 1 0)), (1, (.p 0 0))], [(2, (.cells 24 [(sS none 0 0), (sS none 0 0)])), (1, (.cells 24 [(sS none 0 0), (sS none 0 0)]))], 3, [], [(0, bk2, (.cells 24 [(sS (some q3) n_a c_a), (sS (some q8) n_b c_b)]))]⟩) [] rfl rfl rfl rfl rfl rfl ?_
            exact hK29 ((some ⟨bk36, 0, none⟩), 1, 1, (some ⟨bk39, 0, none⟩), 1, 1, A_r31, n_r31, c_r31, A_r33, n_r33, c_r33) G38 ⟨hc30, hs37, hs40, h_r31, h_r33⟩
          · skip
            refine WOp_step htb (S' := ⟨[(24, (.s 3 1 1)), (32, (.agg [(sS A_r31 n_r31 c_r31), (sS A_r33 n_r33 c_r33)])), (31, (sS A_r33 n_r33 c_r33)), (28, (sS A_r31 n_r31 c_r31)), (23, (iI x11)), (22, (.v (.pointer (some (q8.add (0 * 1)))))), (18, (iI x6)), (17, (.v (.pointer (some (q3.add (0 * 1)))))), (30, (sS (some q8) n_b c_b)), (29, (.p 0 1)), (27, (sS (some q3) n_a c_a)), (26, (.p 0 0)), (21, (sS (some q8) n_b c_b)), (20, (.p 0 1)), (16, (sS (some q3) n_a c_a)), (15, (.p 0 0)), (3, (.p 2 0)), (2, (.p 1 0)), (1, (.p 0 0))], [(3, (.cells 3 [(iI x11)])), (2, (.cells 24 [(sS none 0 0), (sS none 0 0)])), (1, (.cells 24 [(sS none 0 0), (sS none 0 0)]))], 4, [], [(0, bk2, (.cells 24 [(sS (some q3) n_a c_a), (sS (some q8) n_b c_b)]))]⟩) (by kernel_rfl) (WD_on (Le.refl _) ?_)
            refine WK_freezeV 3 rfl rfl rfl rfl ?_
            intro bk36 G35 hle hbk36
            replace hc30 := Le.trans hc30 hle
            replace h_a := h_a.mono hle
            replace h_b := h_b.mono hle
            replace at5 := at5.mono hle
            replace at10 := at10.mono hle
            replace h_r31 := h_r31.mono hle
            replace h_r33 := h_r33.mono hle
            replace hz := hz.mono hle
            refine WD_up hle ?_
            show WK _ _ ⟨[(24, (sS (some ⟨bk36, 0, none⟩) 1 1)), (32, (.agg [(sS A_r31 n_r31 c_r31), (sS A_r33 n_r33 c_r33)])), (31, (sS A_r33 n_r33 c_r33)), (28, (sS A_r31 n_r31 c_r31)), (23, (iI x11)), (22, (.v (.pointer (some (q8.add (0 * 1)))))), (18, (iI x6)), (17, (.v (.pointer (some (q3.add (0 * 1)))))), (30, (sS (some q8) n_b c_b)), (29, (.p 0 1)), (27, (sS (some q3) n_a c_a)), (26, (.p 0 0)), (21, (sS (some q8) n_b c_b)), (20, (.p 0 1)), (16, (sS (some q3) n_a c_a)), (15, (.p 0 0)), (3, (.p 2 0)), (2, (.p 1 0)), (1, (.p 0 0))], [(2, (.cells 24 [(sS none 0 0), (sS none 0 0)])), (1, (.cells 24 [(sS none 0 0), (sS none 0 0)]))], 4, [], [(0, bk2, (.cells 24 [(sS (some q3) n_a c_a), (sS (some q8) n_b c_b)]))]⟩ _
            have hs37 : Sl (tInt .i64) G35 (some ⟨bk36, 0, none⟩) 1 1 [x11] := Sl.lit (cs := [.int .i64 x11]) (RepsL.cons' (rep_int _ (x := x11) (bd_of hn12)) .nil) hbk36 rfl (by unfold big; omega)
            have lhs37 := hs37.len'
            refine WD_one 4 (by rfl) (by decide +kernel) (WOp_step htb (S' := ⟨[(19, (.s 4 1 1)), (24, (sS (some ⟨bk36, 0, none⟩) 1 1)), (32, (.agg [(sS A_r31 n_r31 c_r31), (sS A_r33 n_r33 c_r33)])), (31, (sS A_r33 n_r33 c_r33)), (28, (sS A_r31 n_r31 c_r31)), (23, (iI x11)), (22, (.v (.pointer (some (q8.add (0 * 1)))))), (18, (iI x6)), (17, (.v (.pointer (some (q3.add (0 * 1)))))), (30, (sS (some q8) n_b c_b)), (29, (.p 0 1)), (27, (sS (some q3) n_a c_a)), (26, (.p 0 0)), (21, (sS (some q8) n_b c_b)), (20, (.p 0 1)), (16, (sS (some q3) n_a c_a)), (15, (.p 0 0)), (3, (.p 2 0)), (2, (.p 1 0)), (1, (.p 0 0))], [(4, (.cells 3 [(iI x6)])), (2, (.cells 24 [(sS none 0 0), (sS none 0 0)])), (1, (.cells 24 [(sS none 0 0), (sS none 0 0)]))], 5, [], [(0, bk2, (.cells 24 [(sS (some q3) n_a c_a), (sS (some q8) n_b c_b)]))]⟩) (by kernel_rfl) (WD_on (Le.refl _) ?_))
            refine WK_freezeV 4 rfl rfl rfl rfl ?_
            intro bk39 G38 hle hbk39
            replace hc30 := Le.trans hc30 hle
            replace h_a := h_a.mono hle
            replace h_b := h_b.mono hle
            replace at5 := at5.mono hle
            replace at10 := at10.mono hle
            replace h_r31 := h_r31.mono hle
            replace h_r33 := h_r33.mono hle
            replace hs37 := hs37.mono hle
            replace hz := hz.mono hle
            refine WD_up hle ?_
            show WK _ _ ⟨[(19, (sS (some ⟨bk39, 0, none⟩) 1 1)), (24, (sS (some ⟨bk36, 0, none⟩) 1 1)), (32, (.agg [(sS A_r31 n_r31 c_r31), (sS A_r33 n_r33 c_r33)])), (31, (sS A_r33 n_r33 c_r33)), (28, (sS A_r31 n_r31 c_r31)), (23, (iI x11)), (22, (.v (.pointer (some (q8.add (0 * 1)))))), (18, (iI x6)), (17, (.v (.pointer (some (q3.add (0 * 1)))))), (30, (sS (some q8) n_b c_b)), (29, (.p 0 1)), (27, (sS (some q3) n_a c_a)), (26, (.p 0 0)), (21, (sS (some q8) n_b c_b)), (20, (.p 0 1)), (16, (sS (some q3) n_a c_a)), (15, (.p 0 0)), (3, (.p 2 0)), (2, (.p 1 0)), (1, (.p 0 0))], [(2, (.cells 24 [(sS none 0 0), (sS none 0 0)])), (1, (.cells 24 [(sS none 0 0), (sS none 0 0)]))], 5, [], [(0, bk2, (.cells 24 [(sS (some q3) n_a c_a), (sS (some q8) n_b c_b)]))]⟩ _
            have hs40 : Sl (tInt .i64) G38 (some ⟨bk39, 0, none⟩) 1 1 [x6] := Sl.lit (cs := [.int .i64 x6]) (RepsL.cons' (rep_int _ (x := x6) (bd_of hn7)) .nil) hbk39 rfl (by unfold big; omega)
            have lhs40 := hs40.len'
            refine WD_takeL htb rfl (fun _ _ _ _ _ h => h) (Le.refl _) [10] (fuel := 3) (listed' := bts 21 262143) (S' := ⟨[(25, (.agg [(sS (some ⟨bk39, 0, none⟩) 1 1), (sS (some ⟨bk36, 0, none⟩) 1 1)])), (19, (sS (some ⟨bk39, 0, none⟩) 1 1)), (24, (sS (some ⟨bk36, 0, none⟩) 1 1)), (32, (.agg [(sS A_r31 n_r31 c_r31), (sS A_r33 n_r33 c_r33)])), (31, (sS A_r33 n_r33 c_r33)), (28, (sS A_r31 n_r31 c_r31)), (23, (iI x11)), (22, (.v (.pointer (some (q8.add (0 * 1)))))), (18, (iI x6)), (17, (.v (.pointer (some (q3.add (0 * 1)))))), (30, (sS (some q8) n_b c_b)), (29, (.p 0 1)), (27, (sS (some q3) n_a c_a)), (26, (.p 0 0)), (21, (sS (some q8) n_b c_b)), (20, (.p 0 1)), (16, (sS (some q3) n_a c_a)), (15, (.p 0 0)), (3, (.p 2 0)), (2, (.p 1 0)), (1, (.p 0 0))], [(2, (.cells 24 [(sS none 0 0), (sS none 0 0)])), (1, (.cells 24 [(sS none 0 0), (sS none 0 0)]))], 5, [], [(0, bk2, (.cells 24 [(sS (some q3) n_a c_a), (sS (some q8) n_b c_b)]))]⟩) hz (by kernel_rfl) rfl ?_
            refine WK_keep [32, 25, 19, 24, 28, 31, 23, 22, 18, 17, 30, 29, 27, 26, 21, 20, 16, 15, 3, 2, 1] [2, 1] rfl rfl ?_
            refine WK_ren (T := ⟨[(32, (.agg [(sS A_r31 n_r31 c_r31), (sS A_r33 n_r33 c_r33)])), (25, (.agg [(sS (some ⟨bk39, 0, none⟩) 1 1), (sS (some ⟨bk36, 0, none⟩) 1 1)])), (19, (sS (some ⟨bk39, 0, none⟩) 1 1)), (24, (sS (some ⟨bk36, 0, none⟩) 1 1)), (28, (sS A_r31 n_r31 c_r31)), (31, (sS A_r33 n_r33 c_r33)), (23, (iI x11)), (22, (.v (.pointer (some (q8.add (0 * 1)))))), (18, (iI x6)), (17, (.v (.pointer (some (q3.add (0 * 1)))))), (30, (sS (some q8) n_b c_b)), (29, (.p 0 1)), (27, (sS (some q3) n_a c_a)), (26, (.p 0 0)), (21, (sS (some q8) n_b c_b)), (20, (.p 0 1)), (16, (sS (some q3) n_a c_a)), (15, (.p 0 0)), (3, (.p 2 0)), (2, (.p 1 0)), (1, (.p 0 0))], [(2, (.cells 24 [(sS none 0 0), (sS none 0 0)])), (1, (.cells 24 [(sS none 0 0), (sS none 0 0)]))], 3, [], [(0, bk2, (.cells 24 [(sS (some q3) n_a c_a), (sS (some q8) n_b c_b)]))]⟩) [] rfl rfl rfl rfl rfl rfl ?_
            exact hK29 ((some ⟨bk39, 0, none⟩), 1, 1, (some ⟨bk36, 0, none⟩), 1, 1, A_r31, n_r31, c_r31, A_r33, n_r33, c_r33) G38 ⟨hc30, hs40, hs37, h_r31, h_r33⟩
    rintro ⟨A13, n14, c15, A17, n18, c19, A21, n22, c23, A25, n26, c27⟩ G31 ⟨hle, hs16, hs20, hs24, hs28⟩
    show WK _ _ ⟨[(32, (.agg [(sS A21 n22 c23), (sS A25 n26 c27)])), (25, (.agg [(sS A13 n14 c15), (sS A17 n18 c19)])), (19, (sS A13 n14 c15)), (24, (sS A17 n18 c19)), (28, (sS A21 n22 c23)), (31, (sS A25 n26 c27)), (23, (iI x11)), (22, (.v (.pointer (some (q8.add (0 * 1)))))), (18, (iI x6)), (17, (.v (.pointer (some (q3.add (0 * 1)))))), (30, (sS (some q8) n_b c_b)), (29, (.p 0 1)), (27, (sS (some q3) n_a c_a)), (26, (.p 0 0)), (21, (sS (some q8) n_b c_b)), (20, (.p 0 1)), (16, (sS (some q3) n_a c_a)), (15, (.p 0 0)), (3, (.p 2 0)), (2, (.p 1 0)), (1, (.p 0 0))], [(2, (.cells 24 [(sS none 0 0), (sS none 0 0)])), (1, (.cells 24 [(sS none 0 0), (sS none 0 0)]))], 3, [], [(0, bk2, (.cells 24 [(sS (some q3) n_a c_a), (sS (some q8) n_b c_b)]))]⟩ _
    replace h_a := h_a.mono hle
    replace h_b := h_b.mono hle
    replace at5 := at5.mono hle
    replace at10 := at10.mono hle
    replace hz := hz.mono hle
    have lhs16 := hs16.len'
    have lhs20 := hs20.len'
    have lhs24 := hs24.len'
    have lhs28 := hs28.len'
    refine WD_one 18 (by rfl) (by decide +kernel) (WOp_step htb (S' := ⟨[(32, (.agg [(sS A21 n22 c23), (sS A25 n26 c27)])), (25, (.agg [(sS A13 n14 c15), (sS A17 n18 c19)])), (19, (sS A13 n14 c15)), (24, (sS A17 n18 c19)), (28, (sS A21 n22 c23)), (31, (sS A25 n26 c27)), (23, (iI x11)), (22, (.v (.pointer (some (q8.add (0 * 1)))))), (18, (iI x6)), (17, (.v (.pointer (some (q3.add (0 * 1)))))), (30, (sS (some q8) n_b c_b)), (29, (.p 0 1)), (27, (sS (some q3) n_a c_a)), (26, (.p 0 0)), (21, (sS (some q8) n_b c_b)), (20, (.p 0 1)), (16, (sS (some q3) n_a c_a)), (15, (.p 0 0)), (3, (.p 2 0)), (2, (.p 1 0)), (1, (.p 0 0))], [(2, (.cells 24 [(sS none 0 0), (sS none 0 0)])), (1, (.cells 24 [(sS A13 n14 c15), (sS A17 n18 c19)]))], 3, [], [(0, bk2, (.cells 24 [(sS (some q3) n_a c_a), (sS (some q8) n_b c_b)]))]⟩) (by kernel_rfl) (WD_on (Le.refl _) ?_))
    refine WD_one 19 (by rfl) (by decide +kernel) (WOp_step htb (S' := ⟨[(32, (.agg [(sS A21 n22 c23), (sS A25 n26 c27)])), (25, (.agg [(sS A13 n14 c15), (sS A17 n18 c19)])), (19, (sS A13 n14 c15)), (24, (sS A17 n18 c19)), (28, (sS A21 n22 c23)), (31, (sS A25 n26 c27)), (23, (iI x11)), (22, (.v (.pointer (some (q8.add (0 * 1)))))), (18, (iI x6)), (17, (.v (.pointer (some (q3.add (0 * 1)))))), (30, (sS (some q8) n_b c_b)), (29, (.p 0 1)), (27, (sS (some q3) n_a c_a)), (26, (.p 0 0)), (21, (sS (some q8) n_b c_b)), (20, (.p 0 1)), (16, (sS (some q3) n_a c_a)), (15, (.p 0 0)), (3, (.p 2 0)), (2, (.p 1 0)), (1, (.p 0 0))], [(2, (.cells 24 [(sS A21 n22 c23), (sS A25 n26 c27)])), (1, (.cells 24 [(sS A13 n14 c15), (sS A17 n18 c19)]))], 3, [], [(0, bk2, (.cells 24 [(sS (some q3) n_a c_a), (sS (some q8) n_b c_b)]))]⟩) (by kernel_rfl) (WD_on (Le.refl _) ?_))
    refine WD_takeL htb rfl (fun _ _ _ _ _ h => h) (Le.refl _) [20] (fuel := 0) (listed' := bts 21 2097151) (S' := ⟨[(4, (bB true)), (32, (.agg [(sS A21 n22 c23), (sS A25 n26 c27)])), (25, (.agg [(sS A13 n14 c15), (sS A17 n18 c19)])), (19, (sS A13 n14 c15)), (24, (sS A17 n18 c19)), (28, (sS A21 n22 c23)), (31, (sS A25 n26 c27)), (23, (iI x11)), (22, (.v (.pointer (some (q8.add (0 * 1)))))), (18, (iI x6)), (17, (.v (.pointer (some (q3.add (0 * 1)))))), (30, (sS (some q8) n_b c_b)), (29, (.p 0 1)), (27, (sS (some q3) n_a c_a)), (26, (.p 0 0)), (21, (sS (some q8) n_b c_b)), (20, (.p 0 1)), (16, (sS (some q3) n_a c_a)), (15, (.p 0 0)), (3, (.p 2 0)), (2, (.p 1 0)), (1, (.p 0 0))], [(2, (.cells 24 [(sS A21 n22 c23), (sS A25 n26 c27)])), (1, (.cells 24 [(sS A13 n14 c15), (sS A17 n18 c19)]))], 3, [], [(0, bk2, (.cells 24 [(sS (some q3) n_a c_a), (sS (some q8) n_b c_b)]))]⟩) hz (by kernel_rfl) rfl ?_
    refine WD_done (by decide +kernel) ?_
    refine WK_keep [4, 3, 2] [2, 1] rfl rfl ?_
    refine WQ_code ?_
    refine WC_ret ?_
    exact WQ_done htb [(.agg [(sS A13 n14 c15), (sS A17 n18 c19)]), (.agg [(sS A21 n22 c23), (sS A25 n26 c27)]), (bB true)] _ (.inl rfl) rfl (by kernel_rfl) (fun ρ w hW => ⟨[x6], _, _, _, [x11], _, _, _, a.drop 1, _, _, _, b.drop 1, _, _, _, true, rfl, hs16, hs20, hs24, hs28, (splitS_yes hx4 hx9).symm⟩)

end Go.Proofs.Ytbpajkjolhoflaa.Sym
