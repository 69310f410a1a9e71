/- Walks of functions that the laws of this seat reach, printed by a program of this session's. -/
import Derived.Test.YtbpajkjolhoflaaT8
set_option linter.unusedSimpArgs false
set_option linter.unusedVariables false
set_option maxHeartbeats 4000000
namespace Go.Proofs.Ytbpajkjolhoflaa.Sym
open Go Go.Proofs Go.RowKit




theorem live_ok {w : World} {G : Heap} (hG : Has w G) :
    Calls Try.prog 11 #[] w (Ret w G fun v G' => ∃ (b : Bool), v = .bool b ∧ (b = true)) := by
  refine enter [] 72 Try.func11 rfl rfl rfl rfl hG ?_
  refine WC_seq (WC_region ?_)
  refine WL_execS htb 1 [] [] ⟨[], [], 0, [], []⟩ (by kernel_rfl) ?_
  refine WL_nil ?_
  refine WQ_code ?_
  refine WC_seq (WC_region ?_)
  refine WL_execS htb 8 [1] [5, 4, 3, 2, 1, 0] ⟨[(1, (.p 5 0))], [(5, (.cells 35 [(.s 0 2 2), (.s 1 1 1), (.s 4 1 1)])), (4, (.cells 63 [(.s 3 2 2)])), (3, (.cells 22 [(.s 2 3 3), (sS none 0 0)])), (2, (.cells 3 [(iI 0), (iI (-1)), (iI 1)])), (1, (.cells 9 [(tS (⟨#[83]⟩))])), (0, (.cells 9 [(tS (⟨#[97]⟩)), (tS (⟨#[98]⟩))]))], 6, [], []⟩ (by kernel_rfl) ?_
  refine WL_nil ?_
  refine WQ_code ?_
  refine WC_seq (WC_region ?_)
  refine WL_execS htb 5 [2, 1] [8, 7, 6, 5, 4, 3, 2, 1, 0] ⟨[(2, (.p 8 0)), (1, (.p 5 0))], [(8, (.cells 24 [(.s 6 2 2), (.s 7 2 2)])), (7, (.cells 3 [(iI 0), (iI (-2))])), (6, (.cells 3 [(iI 0), (iI (-1))])), (5, (.cells 35 [(.s 0 2 2), (.s 1 1 1), (.s 4 1 1)])), (4, (.cells 63 [(.s 3 2 2)])), (3, (.cells 22 [(.s 2 3 3), (sS none 0 0)])), (2, (.cells 3 [(iI 0), (iI (-1)), (iI 1)])), (1, (.cells 9 [(tS (⟨#[83]⟩))])), (0, (.cells 9 [(tS (⟨#[97]⟩)), (tS (⟨#[98]⟩))]))], 9, [], []⟩ (by kernel_rfl) ?_
  refine WL_nil ?_
  refine WQ_code ?_
  refine WC_seq (WC_region ?_)
  refine WL_execS htb 1 [20, 2, 1] [8, 7, 6, 5, 4, 3, 2, 1, 0] ⟨[(20, (.agg [(.s 6 2 2), (.s 7 2 2)])), (2, (.p 8 0)), (1, (.p 5 0))], [(8, (.cells 24 [(.s 6 2 2), (.s 7 2 2)])), (7, (.cells 3 [(iI 0), (iI (-2))])), (6, (.cells 3 [(iI 0), (iI (-1))])), (5, (.cells 35 [(.s 0 2 2), (.s 1 1 1), (.s 4 1 1)])), (4, (.cells 63 [(.s 3 2 2)])), (3, (.cells 22 [(.s 2 3 3), (sS none 0 0)])), (2, (.cells 3 [(iI 0), (iI (-1)), (iI 1)])), (1, (.cells 9 [(tS (⟨#[83]⟩))])), (0, (.cells 9 [(tS (⟨#[97]⟩)), (tS (⟨#[98]⟩))]))], 9, [], []⟩ (by kernel_rfl) ?_
  refine WK_freezeV 6 rfl rfl rfl rfl ?_
  intro bk2 G1 hle hbk2
  show WK _ _ ⟨[(20, (.agg [(sS (some ⟨bk2, 0, none⟩) 2 2), (.s 7 2 2)])), (2, (.p 8 0)), (1, (.p 5 0))], [(8, (.cells 24 [(sS (some ⟨bk2, 0, none⟩) 2 2), (.s 7 2 2)])), (7, (.cells 3 [(iI 0), (iI (-2))])), (5, (.cells 35 [(.s 0 2 2), (.s 1 1 1), (.s 4 1 1)])), (4, (.cells 63 [(.s 3 2 2)])), (3, (.cells 22 [(.s 2 3 3), (sS none 0 0)])), (2, (.cells 3 [(iI 0), (iI (-1)), (iI 1)])), (1, (.cells 9 [(tS (⟨#[83]⟩))])), (0, (.cells 9 [(tS (⟨#[97]⟩)), (tS (⟨#[98]⟩))]))], 9, [], []⟩ _
  have hs3 : Sl (tInt .i64) G1 (some ⟨bk2, 0, none⟩) 2 2 [0, (-1)] := Sl.lit (cs := [.int .i64 0, .int .i64 (-1)]) (RepsL.cons' (rep_int _ (x := 0) (by omega)) (RepsL.cons' (rep_int _ (x := (-1)) (by omega)) .nil)) hbk2 rfl (by unfold big; omega)
  have lhs3 := hs3.len'
  refine WK_freezeV 7 rfl rfl rfl rfl ?_
  intro bk5 G4 hle hbk5
  replace hs3 := hs3.mono hle
  show WK _ _ ⟨[(20, (.agg [(sS (some ⟨bk2, 0, none⟩) 2 2), (sS (some ⟨bk5, 0, none⟩) 2 2)])), (2, (.p 8 0)), (1, (.p 5 0))], [(8, (.cells 24 [(sS (some ⟨bk2, 0, none⟩) 2 2), (sS (some ⟨bk5, 0, none⟩) 2 2)])), (5, (.cells 35 [(.s 0 2 2), (.s 1 1 1), (.s 4 1 1)])), (4, (.cells 63 [(.s 3 2 2)])), (3, (.cells 22 [(.s 2 3 3), (sS none 0 0)])), (2, (.cells 3 [(iI 0), (iI (-1)), (iI 1)])), (1, (.cells 9 [(tS (⟨#[83]⟩))])), (0, (.cells 9 [(tS (⟨#[97]⟩)), (tS (⟨#[98]⟩))]))], 9, [], []⟩ _
  have hs6 : Sl (tInt .i64) G4 (some ⟨bk5, 0, none⟩) 2 2 [0, (-2)] := Sl.lit (cs := [.int .i64 0, .int .i64 (-2)]) (RepsL.cons' (rep_int _ (x := 0) (by omega)) (RepsL.cons' (rep_int _ (x := (-2)) (by omega)) .nil)) hbk5 rfl (by unfold big; omega)
  have lhs6 := hs6.len'
  refine WL_op (WOp_call 13 [(.agg [(sS (some ⟨bk2, 0, none⟩) 2 2), (sS (some ⟨bk5, 0, none⟩) 2 2)])] (by kernel_rfl) (goes_of Try.func13 rfl rfl) (fun ρ w hW => drop_ok hW.has (a := [0, (-1)]) (b := [0, (-2)]) hs3 hs6 (by omega) (by omega)) ?_)
  intro G1 v hle hΦ
  replace hs3 := hs3.mono hle
  replace hs6 := hs6.mono hle
  obtain ⟨r7, A_r7, n_r7, c_r7, r8, A_r8, n_r8, c_r8, r9, rfl, h_r7, h_r8, hR10⟩ := hΦ
  have lh_r7 := h_r7.len'
  have lh_r8 := h_r8.len'
  replace hR10 := hR10.trans (show dropS ([0, -1], [0, -2]) = (([-1], [-2]), true) by decide)
  simp only [Prod.mk.injEq] at hR10
  obtain ⟨⟨rfl, rfl⟩, rfl⟩ := hR10
  have hn1 : n_r7 ≤ 1000000000 := by rw [h_r7.len]; decide
  have hn2 : n_r8 ≤ 1000000000 := by rw [h_r8.len]; decide
  refine WL_execS htb 6 [4, 3, 2, 1] [9, 8, 5, 4, 3, 2, 1, 0] ⟨[(4, (bB true)), (3, (.p 9 0)), (2, (.p 8 0)), (1, (.p 5 0))], [(9, (.cells 24 [(sS A_r7 n_r7 c_r7), (sS A_r8 n_r8 c_r8)])), (8, (.cells 24 [(sS (some ⟨bk2, 0, none⟩) 2 2), (sS (some ⟨bk5, 0, none⟩) 2 2)])), (5, (.cells 35 [(.s 0 2 2), (.s 1 1 1), (.s 4 1 1)])), (4, (.cells 63 [(.s 3 2 2)])), (3, (.cells 22 [(.s 2 3 3), (sS none 0 0)])), (2, (.cells 3 [(iI 0), (iI (-1)), (iI 1)])), (1, (.cells 9 [(tS (⟨#[83]⟩))])), (0, (.cells 9 [(tS (⟨#[97]⟩)), (tS (⟨#[98]⟩))]))], 10, [], []⟩ (by kernel_rfl) ?_
  refine WL_nil ?_
  refine WQ_code ?_
  refine WC_seq (WC_region ?_)
  refine WL_execS htb 1 [25, 4, 3, 1] [9, 5, 4, 3, 2, 1, 0] ⟨[(25, (.agg [(sS (some ⟨bk2, 0, none⟩) 2 2), (sS (some ⟨bk5, 0, none⟩) 2 2)])), (4, (bB true)), (3, (.p 9 0)), (1, (.p 5 0))], [(9, (.cells 24 [(sS A_r7 n_r7 c_r7), (sS A_r8 n_r8 c_r8)])), (5, (.cells 35 [(.s 0 2 2), (.s 1 1 1), (.s 4 1 1)])), (4, (.cells 63 [(.s 3 2 2)])), (3, (.cells 22 [(.s 2 3 3), (sS none 0 0)])), (2, (.cells 3 [(iI 0), (iI (-1)), (iI 1)])), (1, (.cells 9 [(tS (⟨#[83]⟩))])), (0, (.cells 9 [(tS (⟨#[97]⟩)), (tS (⟨#[98]⟩))]))], 10, [], []⟩ (by kernel_rfl) ?_
  refine WL_op (WOp_call 12 [(.agg [(sS (some ⟨bk2, 0, none⟩) 2 2), (sS (some ⟨bk5, 0, none⟩) 2 2)])] (by kernel_rfl) (goes_of Try.func12 rfl rfl) (fun ρ w hW => split_ok hW.has (a := [0, (-1)]) (b := [0, (-2)]) hs3 hs6 (by omega) (by omega)) ?_)
  intro G2 v hle hΦ
  replace hs3 := hs3.mono hle
  replace hs6 := hs6.mono hle
  replace h_r7 := h_r7.mono hle
  replace h_r8 := h_r8.mono hle
  obtain ⟨r11, A_r11, n_r11, c_r11, r12, A_r12, n_r12, c_r12, r13, A_r13, n_r13, c_r13, r14, A_r14, n_r14, c_r14, r15, rfl, h_r11, h_r12, h_r13, h_r14, hR16⟩ := hΦ
  have lh_r11 := h_r11.len'
  have lh_r12 := h_r12.len'
  have lh_r13 := h_r13.len'
  have lh_r14 := h_r14.len'
  replace hR16 := hR16.trans (show splitS ([0, -1], [0, -2]) = (([0], [0]), ([-1], [-2]), true) by decide)
  simp only [Prod.mk.injEq] at hR16
  obtain ⟨⟨rfl, rfl⟩, ⟨rfl, rfl⟩, rfl⟩ := hR16
  refine WL_execS htb 9 [7, 6, 5, 4, 3, 1] [11, 10, 9, 5, 4, 3, 2, 1, 0] ⟨[(7, (bB true)), (6, (.p 11 0)), (5, (.p 10 0)), (4, (bB true)), (3, (.p 9 0)), (1, (.p 5 0))], [(11, (.cells 24 [(sS A_r13 n_r13 c_r13), (sS A_r14 n_r14 c_r14)])), (10, (.cells 24 [(sS A_r11 n_r11 c_r11), (sS A_r12 n_r12 c_r12)])), (9, (.cells 24 [(sS A_r7 n_r7 c_r7), (sS A_r8 n_r8 c_r8)])), (5, (.cells 35 [(.s 0 2 2), (.s 1 1 1), (.s 4 1 1)])), (4, (.cells 63 [(.s 3 2 2)])), (3, (.cells 22 [(.s 2 3 3), (sS none 0 0)])), (2, (.cells 3 [(iI 0), (iI (-1)), (iI 1)])), (1, (.cells 9 [(tS (⟨#[83]⟩))])), (0, (.cells 9 [(tS (⟨#[97]⟩)), (tS (⟨#[98]⟩))]))], 12, [], []⟩ (by kernel_rfl) ?_
  refine WL_nil ?_
  refine WQ_code ?_
  refine WC_seq (WC_region ?_)
  refine WL_execS htb 2 [32, 31, 7, 6, 5, 4, 3] [11, 10, 9, 4, 3, 2, 1, 0] ⟨[(32, (.agg [(sS A_r7 n_r7 c_r7), (sS A_r8 n_r8 c_r8)])), (31, (.agg [(.s 0 2 2), (.s 1 1 1), (.s 4 1 1)])), (7, (bB true)), (6, (.p 11 0)), (5, (.p 10 0)), (4, (bB true)), (3, (.p 9 0))], [(11, (.cells 24 [(sS A_r13 n_r13 c_r13), (sS A_r14 n_r14 c_r14)])), (10, (.cells 24 [(sS A_r11 n_r11 c_r11), (sS A_r12 n_r12 c_r12)])), (9, (.cells 24 [(sS A_r7 n_r7 c_r7), (sS A_r8 n_r8 c_r8)])), (4, (.cells 63 [(.s 3 2 2)])), (3, (.cells 22 [(.s 2 3 3), (sS none 0 0)])), (2, (.cells 3 [(iI 0), (iI (-1)), (iI 1)])), (1, (.cells 9 [(tS (⟨#[83]⟩))])), (0, (.cells 9 [(tS (⟨#[97]⟩)), (tS (⟨#[98]⟩))]))], 12, [], []⟩ (by kernel_rfl) ?_
  refine WK_freezeV 0 rfl rfl rfl rfl ?_
  intro bk18 G17 hle hbk18
  replace h_r7 := h_r7.mono hle
  replace h_r8 := h_r8.mono hle
  replace h_r11 := h_r11.mono hle
  replace h_r12 := h_r12.mono hle
  replace h_r13 := h_r13.mono hle
  replace h_r14 := h_r14.mono hle
  show WK _ _ ⟨[(32, (.agg [(sS A_r7 n_r7 c_r7), (sS A_r8 n_r8 c_r8)])), (31, (.agg [(sS (some ⟨bk18, 0, none⟩) 2 2), (.s 1 1 1), (.s 4 1 1)])), (7, (bB true)), (6, (.p 11 0)), (5, (.p 10 0)), (4, (bB true)), (3, (.p 9 0))], [(11, (.cells 24 [(sS A_r13 n_r13 c_r13), (sS A_r14 n_r14 c_r14)])), (10, (.cells 24 [(sS A_r11 n_r11 c_r11), (sS A_r12 n_r12 c_r12)])), (9, (.cells 24 [(sS A_r7 n_r7 c_r7), (sS A_r8 n_r8 c_r8)])), (4, (.cells 63 [(.s 3 2 2)])), (3, (.cells 22 [(.s 2 3 3), (sS none 0 0)])), (2, (.cells 3 [(iI 0), (iI (-1)), (iI 1)])), (1, (.cells 9 [(tS (⟨#[83]⟩))]))], 12, [], []⟩ _
  have hs19 : Sl tStr G17 (some ⟨bk18, 0, none⟩) 2 2 [⟨#[97]⟩, ⟨#[98]⟩] := Sl.lit (cs := [.string ⟨#[97]⟩, .string ⟨#[98]⟩]) (RepsL.cons' (rep_str _ (x := ⟨#[97]⟩) (by decide)) (RepsL.cons' (rep_str _ (x := ⟨#[98]⟩) (by decide)) .nil)) hbk18 rfl (by unfold big; omega)
  have lhs19 := hs19.len'
  refine WK_freezeV 1 rfl rfl rfl rfl ?_
  intro bk21 G20 hle hbk21
  replace h_r7 := h_r7.mono hle
  replace h_r8 := h_r8.mono hle
  replace h_r11 := h_r11.mono hle
  replace h_r12 := h_r12.mono hle
  replace h_r13 := h_r13.mono hle
  replace h_r14 := h_r14.mono hle
  replace hs19 := hs19.mono hle
  show WK _ _ ⟨[(32, (.agg [(sS A_r7 n_r7 c_r7), (sS A_r8 n_r8 c_r8)])), (31, (.agg [(sS (some ⟨bk18, 0, none⟩) 2 2), (sS (some ⟨bk21, 0, none⟩) 1 1), (.s 4 1 1)])), (7, (bB true)), (6, (.p 11 0)), (5, (.p 10 0)), (4, (bB true)), (3, (.p 9 0))], [(11, (.cells 24 [(sS A_r13 n_r13 c_r13), (sS A_r14 n_r14 c_r14)])), (10, (.cells 24 [(sS A_r11 n_r11 c_r11), (sS A_r12 n_r12 c_r12)])), (9, (.cells 24 [(sS A_r7 n_r7 c_r7), (sS A_r8 n_r8 c_r8)])), (4, (.cells 63 [(.s 3 2 2)])), (3, (.cells 22 [(.s 2 3 3), (sS none 0 0)])), (2, (.cells 3 [(iI 0), (iI (-1)), (iI 1)]))], 12, [], []⟩ _
  have hs22 : Sl tStr G20 (some ⟨bk21, 0, none⟩) 1 1 [⟨#[83]⟩] := Sl.lit (cs := [.string ⟨#[83]⟩]) (RepsL.cons' (rep_str _ (x := ⟨#[83]⟩) (by decide)) .nil) hbk21 rfl (by unfold big; omega)
  have lhs22 := hs22.len'
  refine WK_freezeV 2 rfl rfl rfl rfl ?_
  intro bk24 G23 hle hbk24
  replace h_r7 := h_r7.mono hle
  replace h_r8 := h_r8.mono hle
  replace h_r11 := h_r11.mono hle
  replace h_r12 := h_r12.mono hle
  replace h_r13 := h_r13.mono hle
  replace h_r14 := h_r14.mono hle
  replace hs19 := hs19.mono hle
  replace hs22 := hs22.mono hle
  show WK _ _ ⟨[(32, (.agg [(sS A_r7 n_r7 c_r7), (sS A_r8 n_r8 c_r8)])), (31, (.agg [(sS (some ⟨bk18, 0, none⟩) 2 2), (sS (some ⟨bk21, 0, none⟩) 1 1), (.s 4 1 1)])), (7, (bB true)), (6, (.p 11 0)), (5, (.p 10 0)), (4, (bB true)), (3, (.p 9 0))], [(11, (.cells 24 [(sS A_r13 n_r13 c_r13), (sS A_r14 n_r14 c_r14)])), (10, (.cells 24 [(sS A_r11 n_r11 c_r11), (sS A_r12 n_r12 c_r12)])), (9, (.cells 24 [(sS A_r7 n_r7 c_r7), (sS A_r8 n_r8 c_r8)])), (4, (.cells 63 [(.s 3 2 2)])), (3, (.cells 22 [(sS (some ⟨bk24, 0, none⟩) 3 3), (sS none 0 0)]))], 12, [], []⟩ _
  have hs25 : Sl (tInt .i64) G23 (some ⟨bk24, 0, none⟩) 3 3 [0, (-1), 1] := Sl.lit (cs := [.int .i64 0, .int .i64 (-1), .int .i64 1]) (RepsL.cons' (rep_int _ (x := 0) (by omega)) (RepsL.cons' (rep_int _ (x := (-1)) (by omega)) (RepsL.cons' (rep_int _ (x := 1) (by omega)) .nil))) hbk24 rfl (by unfold big; omega)
  have lhs25 := hs25.len'
  refine WK_freezeV 3 rfl rfl rfl rfl ?_
  intro bk27 G26 hle hbk27
  replace h_r7 := h_r7.mono hle
  replace h_r8 := h_r8.mono hle
  replace h_r11 := h_r11.mono hle
  replace h_r12 := h_r12.mono hle
  replace h_r13 := h_r13.mono hle
  replace h_r14 := h_r14.mono hle
  replace hs19 := hs19.mono hle
  replace hs22 := hs22.mono hle
  replace hs25 := hs25.mono hle
  show WK _ _ ⟨[(32, (.agg [(sS A_r7 n_r7 c_r7), (sS A_r8 n_r8 c_r8)])), (31, (.agg [(sS (some ⟨bk18, 0, none⟩) 2 2), (sS (some ⟨bk21, 0, none⟩) 1 1), (.s 4 1 1)])), (7, (bB true)), (6, (.p 11 0)), (5, (.p 10 0)), (4, (bB true)), (3, (.p 9 0))], [(11, (.cells 24 [(sS A_r13 n_r13 c_r13), (sS A_r14 n_r14 c_r14)])), (10, (.cells 24 [(sS A_r11 n_r11 c_r11), (sS A_r12 n_r12 c_r12)])), (9, (.cells 24 [(sS A_r7 n_r7 c_r7), (sS A_r8 n_r8 c_r8)])), (4, (.cells 63 [(sS (some ⟨bk27, 0, none⟩) 2 2)]))], 12, [], []⟩ _
  have hs28 : Sl (tSlice (tInt .i64)) G26 (some ⟨bk27, 0, none⟩) 2 2 [[0, (-1), 1], []] := Sl.lit (cs := [.slice (some ⟨bk24, 0, none⟩) 3 3, .slice none 0 0]) (RepsL.cons' hs25.reps (RepsL.cons' ((Sl.none0 _ _)).reps .nil)) hbk27 rfl (by unfold big; omega)
  have lhs28 := hs28.len'
  refine WK_freezeV 4 rfl rfl rfl rfl ?_
  intro bk30 G29 hle hbk30
  replace h_r7 := h_r7.mono hle
  replace h_r8 := h_r8.mono hle
  replace h_r11 := h_r11.mono hle
  replace h_r12 := h_r12.mono hle
  replace h_r13 := h_r13.mono hle
  replace h_r14 := h_r14.mono hle
  replace hs19 := hs19.mono hle
  replace hs22 := hs22.mono hle
  replace hs28 := hs28.mono hle
  show WK _ _ ⟨[(32, (.agg [(sS A_r7 n_r7 c_r7), (sS A_r8 n_r8 c_r8)])), (31, (.agg [(sS (some ⟨bk18, 0, none⟩) 2 2), (sS (some ⟨bk21, 0, none⟩) 1 1), (sS (some ⟨bk30, 0, none⟩) 1 1)])), (7, (bB true)), (6, (.p 11 0)), (5, (.p 10 0)), (4, (bB true)), (3, (.p 9 0))], [(11, (.cells 24 [(sS A_r13 n_r13 c_r13), (sS A_r14 n_r14 c_r14)])), (10, (.cells 24 [(sS A_r11 n_r11 c_r11), (sS A_r12 n_r12 c_r12)])), (9, (.cells 24 [(sS A_r7 n_r7 c_r7), (sS A_r8 n_r8 c_r8)]))], 12, [], []⟩ _
  have hs31 : Sl (tSlice (tSlice (tInt .i64))) G29 (some ⟨bk30, 0, none⟩) 1 1 [[[0, (-1), 1], []]] := Sl.lit (cs := [.slice (some ⟨bk27, 0, none⟩) 2 2]) (RepsL.cons' hs28.reps .nil) hbk30 rfl (by unfold big; omega)
  have lhs31 := hs31.len'
  refine WL_op (WOp_call 18 [(.agg [(sS (some ⟨bk18, 0, none⟩) 2 2), (sS (some ⟨bk21, 0, none⟩) 1 1), (sS (some ⟨bk30, 0, none⟩) 1 1)]), (.agg [(sS A_r7 n_r7 c_r7), (sS A_r8 n_r8 c_r8)])] (by kernel_rfl) (goes_of Try.func18 rfl rfl) (fun ρ w hW => old_ok hW.has (tk := [⟨#[97]⟩, ⟨#[98]⟩]) (nm := [⟨#[83]⟩]) (rs := [[[0, (-1), 1], []]]) (a := ([-1])) (b := ([-2])) hs19 hs22 hs31 h_r7 h_r8 (by simp [SmallR]) hn1 hn2) ?_)
  intro G3 v hle hΦ
  replace h_r7 := h_r7.mono hle
  replace h_r8 := h_r8.mono hle
  replace h_r11 := h_r11.mono hle
  replace h_r12 := h_r12.mono hle
  replace h_r13 := h_r13.mono hle
  replace h_r14 := h_r14.mono hle
  replace hs19 := hs19.mono hle
  replace hs22 := hs22.mono hle
  replace hs31 := hs31.mono hle
  obtain ⟨r32, A_r32, n_r32, c_r32, r33, rfl, h_r32, hR34⟩ := hΦ
  have lh_r32 := h_r32.len'
  replace hR34 := hR34.trans (show oldS [[[0, -1, 1], []]] ([-1], [-2]) = ([([0, -1, 1], [-2]), ([], [-2])], true) by decide)
  simp only [Prod.mk.injEq] at hR34
  obtain ⟨rfl, rfl⟩ := hR34
  refine WL_execS htb 5 [9, 8, 7, 6, 5, 4, 3] [11, 10, 9] ⟨[(9, (bB true)), (8, (sS A_r32 n_r32 c_r32)), (7, (bB true)), (6, (.p 11 0)), (5, (.p 10 0)), (4, (bB true)), (3, (.p 9 0))], [(11, (.cells 24 [(sS A_r13 n_r13 c_r13), (sS A_r14 n_r14 c_r14)])), (10, (.cells 24 [(sS A_r11 n_r11 c_r11), (sS A_r12 n_r12 c_r12)])), (9, (.cells 24 [(sS A_r7 n_r7 c_r7), (sS A_r8 n_r8 c_r8)]))], 12, [], []⟩ (by kernel_rfl) ?_
  refine WL_nil ?_
  refine WQ_code ?_
  refine WC_seq (WC_region ?_)
  refine WL_execS htb 12 [47, 44, 43, 8, 6, 5, 3] [13, 12, 11, 10, 9] ⟨[(47, (.agg [(.s 12 1 1), (.s 13 1 1)])), (44, (.agg [(sS A_r7 n_r7 c_r7), (sS A_r8 n_r8 c_r8)])), (43, (bB true)), (8, (sS A_r32 n_r32 c_r32)), (6, (.p 11 0)), (5, (.p 10 0)), (3, (.p 9 0))], [(13, (.cells 3 [(iI (-2))])), (12, (.cells 3 [(iI (-1))])), (11, (.cells 24 [(sS A_r13 n_r13 c_r13), (sS A_r14 n_r14 c_r14)])), (10, (.cells 24 [(sS A_r11 n_r11 c_r11), (sS A_r12 n_r12 c_r12)])), (9, (.cells 24 [(sS A_r7 n_r7 c_r7), (sS A_r8 n_r8 c_r8)]))], 14, [], []⟩ (by kernel_rfl) ?_
  refine WK_freezeV 12 rfl rfl rfl rfl ?_
  intro bk36 G35 hle hbk36
  replace h_r7 := h_r7.mono hle
  replace h_r8 := h_r8.mono hle
  replace h_r11 := h_r11.mono hle
  replace h_r12 := h_r12.mono hle
  replace h_r13 := h_r13.mono hle
  replace h_r14 := h_r14.mono hle
  replace h_r32 := h_r32.mono hle
  show WK _ _ ⟨[(47, (.agg [(sS (some ⟨bk36, 0, none⟩) 1 1), (.s 13 1 1)])), (44, (.agg [(sS A_r7 n_r7 c_r7), (sS A_r8 n_r8 c_r8)])), (43, (bB true)), (8, (sS A_r32 n_r32 c_r32)), (6, (.p 11 0)), (5, (.p 10 0)), (3, (.p 9 0))], [(13, (.cells 3 [(iI (-2))])), (11, (.cells 24 [(sS A_r13 n_r13 c_r13), (sS A_r14 n_r14 c_r14)])), (10, (.cells 24 [(sS A_r11 n_r11 c_r11), (sS A_r12 n_r12 c_r12)])), (9, (.cells 24 [(sS A_r7 n_r7 c_r7), (sS A_r8 n_r8 c_r8)]))], 14, [], []⟩ _
  have hs37 : Sl (tInt .i64) G35 (some ⟨bk36, 0, none⟩) 1 1 [(-1)] := Sl.lit (cs := [.int .i64 (-1)]) (RepsL.cons' (rep_int _ (x := (-1)) (by omega)) .nil) hbk36 rfl (by unfold big; omega)
  have lhs37 := hs37.len'
  refine WK_freezeV 13 rfl rfl rfl rfl ?_
  intro bk39 G38 hle hbk39
  replace h_r7 := h_r7.mono hle
  replace h_r8 := h_r8.mono hle
  replace h_r11 := h_r11.mono hle
  replace h_r12 := h_r12.mono hle
  replace h_r13 := h_r13.mono hle
  replace h_r14 := h_r14.mono hle
  replace h_r32 := h_r32.mono hle
  replace hs37 := hs37.mono hle
  show WK _ _ ⟨[(47, (.agg [(sS (some ⟨bk36, 0, none⟩) 1 1), (sS (some ⟨bk39, 0, none⟩) 1 1)])), (44, (.agg [(sS A_r7 n_r7 c_r7), (sS A_r8 n_r8 c_r8)])), (43, (bB true)), (8, (sS A_r32 n_r32 c_r32)), (6, (.p 11 0)), (5, (.p 10 0)), (3, (.p 9 0))], [(11, (.cells 24 [(sS A_r13 n_r13 c_r13), (sS A_r14 n_r14 c_r14)])), (10, (.cells 24 [(sS A_r11 n_r11 c_r11), (sS A_r12 n_r12 c_r12)])), (9, (.cells 24 [(sS A_r7 n_r7 c_r7), (sS A_r8 n_r8 c_r8)]))], 14, [], []⟩ _
  have hs40 : Sl (tInt .i64) G38 (some ⟨bk39, 0, none⟩) 1 1 [(-2)] := Sl.lit (cs := [.int .i64 (-2)]) (RepsL.cons' (rep_int _ (x := (-2)) (by omega)) .nil) hbk39 rfl (by unfold big; omega)
  have lhs40 := hs40.len'
  refine WL_op (WOp_call 14 [(.agg [(sS A_r7 n_r7 c_r7), (sS A_r8 n_r8 c_r8)]), (.agg [(sS (some ⟨bk36, 0, none⟩) 1 1), (sS (some ⟨bk39, 0, none⟩) 1 1)])] (by kernel_rfl) (goes_of Try.func14 rfl rfl) (fun ρ w hW => rsame_ok hW.has (a1 := ([-1])) (a2 := ([-2])) (b1 := [(-1)]) (b2 := [(-2)]) h_r7 h_r8 hs37 hs40) ?_)
  intro G4 v hle hΦ
  replace h_r7 := h_r7.mono hle
  replace h_r8 := h_r8.mono hle
  replace h_r11 := h_r11.mono hle
  replace h_r12 := h_r12.mono hle
  replace h_r13 := h_r13.mono hle
  replace h_r14 := h_r14.mono hle
  replace h_r32 := h_r32.mono hle
  replace hs37 := hs37.mono hle
  replace hs40 := hs40.mono hle
  obtain ⟨r41, rfl, hR42⟩ := hΦ
  replace hR42 := hR42.trans (show _ = true by decide)
  obtain rfl := hR42
  refine WL_execS htb 6 [54, 51, 50, 8, 6, 3] [15, 14, 11, 9] ⟨[(54, (.agg [(.s 14 1 1), (.s 15 1 1)])), (51, (.agg [(sS A_r11 n_r11 c_r11), (sS A_r12 n_r12 c_r12)])), (50, (bB true)), (8, (sS A_r32 n_r32 c_r32)), (6, (.p 11 0)), (3, (.p 9 0))], [(15, (.cells 3 [(iI 0)])), (14, (.cells 3 [(iI 0)])), (11, (.cells 24 [(sS A_r13 n_r13 c_r13), (sS A_r14 n_r14 c_r14)])), (9, (.cells 24 [(sS A_r7 n_r7 c_r7), (sS A_r8 n_r8 c_r8)]))], 16, [], []⟩ (by kernel_rfl) ?_
  refine WK_freezeV 14 rfl rfl rfl rfl ?_
  intro bk44 G43 hle hbk44
  replace h_r7 := h_r7.mono hle
  replace h_r8 := h_r8.mono hle
  replace h_r11 := h_r11.mono hle
  replace h_r12 := h_r12.mono hle
  replace h_r13 := h_r13.mono hle
  replace h_r14 := h_r14.mono hle
  replace h_r32 := h_r32.mono hle
  show WK _ _ ⟨[(54, (.agg [(sS (some ⟨bk44, 0, none⟩) 1 1), (.s 15 1 1)])), (51, (.agg [(sS A_r11 n_r11 c_r11), (sS A_r12 n_r12 c_r12)])), (50, (bB true)), (8, (sS A_r32 n_r32 c_r32)), (6, (.p 11 0)), (3, (.p 9 0))], [(15, (.cells 3 [(iI 0)])), (11, (.cells 24 [(sS A_r13 n_r13 c_r13), (sS A_r14 n_r14 c_r14)])), (9, (.cells 24 [(sS A_r7 n_r7 c_r7), (sS A_r8 n_r8 c_r8)]))], 16, [], []⟩ _
  have hs45 : Sl (tInt .i64) G43 (some ⟨bk44, 0, none⟩) 1 1 [0] := Sl.lit (cs := [.int .i64 0]) (RepsL.cons' (rep_int _ (x := 0) (by omega)) .nil) hbk44 rfl (by unfold big; omega)
  have lhs45 := hs45.len'
  refine WK_freezeV 15 rfl rfl rfl rfl ?_
  intro bk47 G46 hle hbk47
  replace h_r7 := h_r7.mono hle
  replace h_r8 := h_r8.mono hle
  replace h_r11 := h_r11.mono hle
  replace h_r12 := h_r12.mono hle
  replace h_r13 := h_r13.mono hle
  replace h_r14 := h_r14.mono hle
  replace h_r32 := h_r32.mono hle
  replace hs45 := hs45.mono hle
  show WK _ _ ⟨[(54, (.agg [(sS (some ⟨bk44, 0, none⟩) 1 1), (sS (some ⟨bk47, 0, none⟩) 1 1)])), (51, (.agg [(sS A_r11 n_r11 c_r11), (sS A_r12 n_r12 c_r12)])), (50, (bB true)), (8, (sS A_r32 n_r32 c_r32)), (6, (.p 11 0)), (3, (.p 9 0))], [(11, (.cells 24 [(sS A_r13 n_r13 c_r13), (sS A_r14 n_r14 c_r14)])), (9, (.cells 24 [(sS A_r7 n_r7 c_r7), (sS A_r8 n_r8 c_r8)]))], 16, [], []⟩ _
  have hs48 : Sl (tInt .i64) G46 (some ⟨bk47, 0, none⟩) 1 1 [0] := Sl.lit (cs := [.int .i64 0]) (RepsL.cons' (rep_int _ (x := 0) (by omega)) .nil) hbk47 rfl (by unfold big; omega)
  have lhs48 := hs48.len'
  refine WL_op (WOp_call 14 [(.agg [(sS A_r11 n_r11 c_r11), (sS A_r12 n_r12 c_r12)]), (.agg [(sS (some ⟨bk44, 0, none⟩) 1 1), (sS (some ⟨bk47, 0, none⟩) 1 1)])] (by kernel_rfl) (goes_of Try.func14 rfl rfl) (fun ρ w hW => rsame_ok hW.has (a1 := ([0])) (a2 := ([0])) (b1 := [0]) (b2 := [0]) h_r11 h_r12 hs45 hs48) ?_)
  intro G5 v hle hΦ
  replace h_r7 := h_r7.mono hle
  replace h_r8 := h_r8.mono hle
  replace h_r11 := h_r11.mono hle
  replace h_r12 := h_r12.mono hle
  replace h_r13 := h_r13.mono hle
  replace h_r14 := h_r14.mono hle
  replace h_r32 := h_r32.mono hle
  replace hs45 := hs45.mono hle
  replace hs48 := hs48.mono hle
  obtain ⟨r49, rfl, hR50⟩ := hΦ
  replace hR50 := hR50.trans (show _ = true by decide)
  obtain rfl := hR50
  refine WL_execS htb 4 [59, 58, 57, 8] [] ⟨[(59, (.agg [(sS A_r7 n_r7 c_r7), (sS A_r8 n_r8 c_r8)])), (58, (.agg [(sS A_r13 n_r13 c_r13), (sS A_r14 n_r14 c_r14)])), (57, (bB true)), (8, (sS A_r32 n_r32 c_r32))], [], 16, [], []⟩ (by kernel_rfl) ?_
  refine WL_op (WOp_call 14 [(.agg [(sS A_r13 n_r13 c_r13), (sS A_r14 n_r14 c_r14)]), (.agg [(sS A_r7 n_r7 c_r7), (sS A_r8 n_r8 c_r8)])] (by kernel_rfl) (goes_of Try.func14 rfl rfl) (fun ρ w hW => rsame_ok hW.has (a1 := ([-1])) (a2 := ([-2])) (b1 := ([-1])) (b2 := ([-2])) h_r13 h_r14 h_r7 h_r8) ?_)
  intro G6 v hle hΦ
  replace h_r7 := h_r7.mono hle
  replace h_r8 := h_r8.mono hle
  replace h_r13 := h_r13.mono hle
  replace h_r14 := h_r14.mono hle
  replace h_r32 := h_r32.mono hle
  obtain ⟨r51, rfl, hR52⟩ := hΦ
  replace hR52 := hR52.trans (show _ = true by decide)
  obtain rfl := hR52
  refine WL_execS htb 9 [69, 63, 62] [19, 18, 17, 16] ⟨[(69, (.s 19 2 2)), (63, (sS A_r32 n_r32 c_r32)), (62, (bB true))], [(19, (.cells 24 [(.s 16 3 3), (.s 17 1 1), (sS none 0 0), (.s 18 1 1)])), (18, (.cells 3 [(iI (-2))])), (17, (.cells 3 [(iI (-2))])), (16, (.cells 3 [(iI 0), (iI (-1)), (iI 1)]))], 20, [], []⟩ (by kernel_rfl) ?_
  refine WK_freezeV 16 rfl rfl rfl rfl ?_
  intro bk54 G53 hle hbk54
  replace h_r32 := h_r32.mono hle
  show WK _ _ ⟨[(69, (.s 19 2 2)), (63, (sS A_r32 n_r32 c_r32)), (62, (bB true))], [(19, (.cells 24 [(sS (some ⟨bk54, 0, none⟩) 3 3), (.s 17 1 1), (sS none 0 0), (.s 18 1 1)])), (18, (.cells 3 [(iI (-2))])), (17, (.cells 3 [(iI (-2))]))], 20, [], []⟩ _
  have hs55 : Sl (tInt .i64) G53 (some ⟨bk54, 0, none⟩) 3 3 [0, (-1), 1] := Sl.lit (cs := [.int .i64 0, .int .i64 (-1), .int .i64 1]) (RepsL.cons' (rep_int _ (x := 0) (by omega)) (RepsL.cons' (rep_int _ (x := (-1)) (by omega)) (RepsL.cons' (rep_int _ (x := 1) (by omega)) .nil))) hbk54 rfl (by unfold big; omega)
  have lhs55 := hs55.len'
  refine WK_freezeV 17 rfl rfl rfl rfl ?_
  intro bk57 G56 hle hbk57
  replace h_r32 := h_r32.mono hle
  replace hs55 := hs55.mono hle
  show WK _ _ ⟨[(69, (.s 19 2 2)), (63, (sS A_r32 n_r32 c_r32)), (62, (bB true))], [(19, (.cells 24 [(sS (some ⟨bk54, 0, none⟩) 3 3), (sS (some ⟨bk57, 0, none⟩) 1 1), (sS none 0 0), (.s 18 1 1)])), (18, (.cells 3 [(iI (-2))]))], 20, [], []⟩ _
  have hs58 : Sl (tInt .i64) G56 (some ⟨bk57, 0, none⟩) 1 1 [(-2)] := Sl.lit (cs := [.int .i64 (-2)]) (RepsL.cons' (rep_int _ (x := (-2)) (by omega)) .nil) hbk57 rfl (by unfold big; omega)
  have lhs58 := hs58.len'
  refine WK_freezeV 18 rfl rfl rfl rfl ?_
  intro bk60 G59 hle hbk60
  replace h_r32 := h_r32.mono hle
  replace hs55 := hs55.mono hle
  replace hs58 := hs58.mono hle
  show WK _ _ ⟨[(69, (.s 19 2 2)), (63, (sS A_r32 n_r32 c_r32)), (62, (bB true))], [(19, (.cells 24 [(sS (some ⟨bk54, 0, none⟩) 3 3), (sS (some ⟨bk57, 0, none⟩) 1 1), (sS none 0 0), (sS (some ⟨bk60, 0, none⟩) 1 1)]))], 20, [], []⟩ _
  have hs61 : Sl (tInt .i64) G59 (some ⟨bk60, 0, none⟩) 1 1 [(-2)] := Sl.lit (cs := [.int .i64 (-2)]) (RepsL.cons' (rep_int _ (x := (-2)) (by omega)) .nil) hbk60 rfl (by unfold big; omega)
  have lhs61 := hs61.len'
  refine WK_freezeV 19 rfl rfl rfl rfl ?_
  intro bk63 G62 hle hbk63
  replace h_r32 := h_r32.mono hle
  replace hs55 := hs55.mono hle
  replace hs58 := hs58.mono hle
  replace hs61 := hs61.mono hle
  show WK _ _ ⟨[(69, (sS (some ⟨bk63, 0, none⟩) 2 2)), (63, (sS A_r32 n_r32 c_r32)), (62, (bB true))], [], 20, [], []⟩ _
  have hs64 : Sl (tPair (tSlice (tInt .i64)) (tSlice (tInt .i64))) G62 (some ⟨bk63, 0, none⟩) 2 2 [([0, (-1), 1], [(-2)]), ([], [(-2)])] := Sl.lit (cs := [.slice (some ⟨bk54, 0, none⟩) 3 3, .slice (some ⟨bk57, 0, none⟩) 1 1, .slice none 0 0, .slice (some ⟨bk60, 0, none⟩) 1 1]) (RepsL.cons' (rep_pair hs55.reps hs58.reps) (RepsL.cons' (rep_pair ((Sl.none0 _ _)).reps hs61.reps) .nil)) hbk63 rfl (by unfold big; omega)
  have lhs64 := hs64.len'
  refine WL_op (WOp_call 20 [(sS A_r32 n_r32 c_r32), (sS (some ⟨bk63, 0, none⟩) 2 2)] (by kernel_rfl) (goes_of Try.func20 rfl rfl) (fun ρ w hW => sameAll_ok hW.has (xs := ([([0, -1, 1], [-2]), ([], [-2])])) (ys := [([0, (-1), 1], [(-2)]), ([], [(-2)])]) h_r32 hs64) ?_)
  intro G7 v hle hΦ
  replace h_r32 := h_r32.mono hle
  replace hs64 := hs64.mono hle
  obtain ⟨r65, rfl, hR66⟩ := hΦ
  replace hR66 := hR66.trans (show _ = true by decide)
  obtain rfl := hR66
  refine WL_execS htb 2 [0] [] ⟨[(0, (bB true))], [], 20, [], []⟩ (by kernel_rfl) ?_
  refine WL_nil ?_
  refine WQ_code ?_
  refine WC_ret ?_
  exact WQ_done htb [(bB true)] _ (.inl rfl) rfl (by kernel_rfl) (fun ρ w hW => ⟨true, rfl, rfl⟩)

end Go.Proofs.Ytbpajkjolhoflaa.Sym
