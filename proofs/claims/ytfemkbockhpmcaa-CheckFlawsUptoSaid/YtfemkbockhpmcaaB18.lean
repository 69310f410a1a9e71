/- Walks of functions that the laws of this seat reach, printed by a program of this session's. -/
import Derived.Test.YtfemkbockhpmcaaB17
set_option linter.unusedSimpArgs false
set_option linter.unusedVariables false
set_option maxHeartbeats 4000000
namespace Go.Proofs.Ytfemkbockhpmcaa.Sym
open Go Go.Proofs Go.RowKit

def gL1 : List Rule := [(⟨#[83]⟩, [[⟨#[97]⟩]]), (⟨#[66]⟩, [[⟨#[98]⟩]])]
def gL2 : List Rule := [(⟨#[83]⟩, [[⟨#[97]⟩, ⟨#[83]⟩], []])]
theorem led_iff {g : List Rule} {nr : ByteArray → Bool} (hs : ∀ s, nr s = true → Led g s) (h0 : ∀ r, g[0]? = some r → nr r.1 = true) (hc : ∀ n, nr n = true → ∀ m ∈ succL g n, nr m = true) : ∀ s, nr s = true ↔ Led g s := fun s => by
  refine ⟨hs s, fun h => ?_⟩
  induction h with
  | first r hr => exact h0 r hr
  | step n m _ hm ih => exact hc n ih m hm
theorem flaws_L1 : flawsL [((⟨#[83]⟩ : ByteArray), [[(⟨#[97]⟩ : ByteArray)]]), (⟨#[66]⟩, [[⟨#[98]⟩]])] [⟨#[97]⟩] = [((2 : Int), (⟨#[98]⟩ : ByteArray)), (3, ⟨#[66]⟩), (4, ⟨#[66]⟩)] := by
  show flawsL gL1 [⟨#[97]⟩] = _
  rw [← flawsL_of (g := gL1) (tk := [⟨#[97]⟩]) (gd := fun s => decide (s = ⟨#[83]⟩)) (nr := fun s => decide (s = ⟨#[83]⟩) || decide (s = ⟨#[97]⟩)) ?_ ?_]
  · decide +kernel
  · refine fert_iff (fun s hs => ?_) (by unfold FertC; decide +kernel)
    have e := of_decide_eq_true hs; subst e
    exact Fert.mk (⟨#[83]⟩, [[⟨#[97]⟩]]) [⟨#[97]⟩] (by simp [gL1]) (by simp) (fun n hn hk => absurd hn hk)
  · refine led_iff (fun s hs => ?_) (fun r hr => ?_) (fun n hn => ?_)
    · have h1 : Led gL1 ⟨#[83]⟩ := Led.first (g := gL1) (⟨#[83]⟩, [[⟨#[97]⟩]]) rfl
      rcases Bool.or_eq_true_iff.1 hs with h | h
      · rw [of_decide_eq_true h]; exact h1
      · rw [of_decide_eq_true h]; exact Led.step _ _ h1 (by rw [show succL gL1 ⟨#[83]⟩ = [⟨#[97]⟩] by decide +kernel]; exact List.mem_cons_self)
    · have e : r = (⟨#[83]⟩, [[⟨#[97]⟩]]) := by injection hr with hr; exact hr.symm
      subst e; decide +kernel
    · rcases Bool.or_eq_true_iff.1 hn with h | h
      · rw [of_decide_eq_true h]; decide +kernel
      · rw [of_decide_eq_true h]; decide +kernel
theorem flaws_L2 : flawsL gL2 [⟨#[98]⟩, ⟨#[97]⟩] = [] := by
  rw [← flawsL_of (g := gL2) (tk := [⟨#[98]⟩, ⟨#[97]⟩]) (gd := fun s => decide (s = ⟨#[83]⟩)) (nr := fun s => decide (s = ⟨#[83]⟩) || decide (s = ⟨#[97]⟩)) ?_ ?_]
  · decide +kernel
  · refine fert_iff (fun s hs => ?_) (by unfold FertC; decide +kernel)
    have e := of_decide_eq_true hs; subst e
    exact Fert.mk (⟨#[83]⟩, [[⟨#[97]⟩, ⟨#[83]⟩], []]) [] (by simp [gL2]) (by simp) (fun n hn hk => by cases hn)
  · refine led_iff (fun s hs => ?_) (fun r hr => ?_) (fun n hn => ?_)
    · have h1 : Led gL2 ⟨#[83]⟩ := Led.first (g := gL2) (⟨#[83]⟩, [[⟨#[97]⟩, ⟨#[83]⟩], []]) rfl
      rcases Bool.or_eq_true_iff.1 hs with h | h
      · rw [of_decide_eq_true h]; exact h1
      · rw [of_decide_eq_true h]; exact Led.step _ _ h1 (by rw [show succL gL2 ⟨#[83]⟩ = [⟨#[97]⟩, ⟨#[83]⟩] by decide +kernel]; exact List.mem_cons_self)
    · have e : r = (⟨#[83]⟩, [[⟨#[97]⟩, ⟨#[83]⟩], []]) := by injection hr with hr; exact hr.symm
      subst e; decide +kernel
    · rcases Bool.or_eq_true_iff.1 hn with h | h
      · rw [of_decide_eq_true h]; decide +kernel
      · rw [of_decide_eq_true h]; decide +kernel
theorem num_L2 : numS [((⟨#[83]⟩ : ByteArray), [[(⟨#[97]⟩ : ByteArray), ⟨#[83]⟩], []])] [⟨#[98]⟩, ⟨#[97]⟩] = (([⟨#[98]⟩, ⟨#[97]⟩], [⟨#[83]⟩], [[[1, -1], []]]), 0) := by
  show numS gL2 _ = _
  rw [← num_ok (g := gL2) (tk := [⟨#[98]⟩, ⟨#[97]⟩]) (by unfold MayP MayR; decide +kernel) (by unfold LongP LongR; decide +kernel) (by unfold TokP; decide +kernel) (by decide) flaws_L2]
  decide +kernel
theorem valid_L2 : validS [⟨#[98]⟩, ⟨#[97]⟩] [⟨#[83]⟩] [[[1, -1], []]] = 0 := by
  have hb : backS [⟨#[98]⟩, ⟨#[97]⟩] [⟨#[83]⟩] [[[1, -1], []]] = some gL2 := by decide +kernel
  have hn : numS gL2 [⟨#[98]⟩, ⟨#[97]⟩] = (([⟨#[98]⟩, ⟨#[97]⟩], [⟨#[83]⟩], [[[1, -1], []]]), 0) := num_L2
  exact (valid_yes hb hn.symm rfl rfl).symm
theorem live8_ok {w : World} {G : Heap} (hG : Has w G) :
    Calls Try.prog 14 #[] w (Ret w G fun v G' => v = .bool true) := by
 refine enter [] 51 Try.func14 rfl rfl rfl rfl hG ?_
 refine WC_seq (WC_region ?_)
 refine WL_execS htb 1 [] [] ⟨[], [], 0, [], []⟩ (by kernel_rfl) ?_
 refine WL_nil ?_
 refine WQ_code ?_
 refine WC_seq (WC_region ?_)
 refine WL_execS htb 2 [6] [1, 0] ⟨[(6, (.s 1 1 1))], [(1, (.cells 25 [(.s 0 1 1)])), (0, (.cells 9 [(tS (⟨#[97]⟩))]))], 2, [], []⟩ (by kernel_rfl) ?_
 refine WK_freezeV 0 rfl rfl rfl rfl ?_
 intro bk2 G1 hle hbk2
 show WK _ _ ⟨[(6, (.s 1 1 1))], [(1, (.cells 25 [(sS (some ⟨bk2, 0, none⟩) 1 1)]))], 2, [], []⟩ _
 have hs3 : Sl tStr G1 (some ⟨bk2, 0, none⟩) 1 1 [⟨#[97]⟩] := Sl.lit (cs := [.string ⟨#[97]⟩]) (RepsL.cons' (rep_str _ (x := ⟨#[97]⟩) (by decide)) .nil) hbk2 rfl (by unfold big; omega)
 have lhs3 := hs3.len'
 refine WK_freezeV 1 rfl rfl rfl rfl ?_
 intro bk5 G4 hle hbk5
 replace hs3 := hs3.mono hle
 show WK _ _ ⟨[(6, (sS (some ⟨bk5, 0, none⟩) 1 1))], [], 2, [], []⟩ _
 have hs6 : Sl (tSlice tStr) G4 (some ⟨bk5, 0, none⟩) 1 1 [[⟨#[97]⟩]] := Sl.lit (cs := [.slice (some ⟨bk2, 0, none⟩) 1 1]) (RepsL.cons' hs3.reps .nil) hbk5 rfl (by unfold big; omega)
 have lhs6 := hs6.len'
 refine WL_op (WOp_call 17 [(tS (⟨#[83]⟩)), (sS (some ⟨bk5, 0, none⟩) 1 1)] (by kernel_rfl) (goes_of Try.func17 rfl rfl) (fun ρ w hW => rule_ok hW.has (n := ⟨#[83]⟩) (al := [[⟨#[97]⟩]]) (by decide) hs6) ?_)
 intro G701 v hle hΦ
 replace hs6 := hs6.mono hle
 obtain ⟨r7, r8, A_r8, n_r8, c_r8, rfl, h_r7, h_r8, hR9⟩ := hΦ
 have lh_r8 := h_r8.len'
 obtain ⟨rfl, rfl⟩ := hR9
 refine WL_execS htb 2 [9, 7] [3, 2] ⟨[(9, (.s 3 1 1)), (7, (.agg [(tS (⟨#[83]⟩)), (sS A_r8 n_r8 c_r8)]))], [(3, (.cells 25 [(.s 2 1 1)])), (2, (.cells 9 [(tS (⟨#[98]⟩))]))], 4, [], []⟩ (by kernel_rfl) ?_
 refine WK_freezeV 2 rfl rfl rfl rfl ?_
 intro bk11 G10 hle hbk11
 replace h_r8 := h_r8.mono hle
 show WK _ _ ⟨[(9, (.s 3 1 1)), (7, (.agg [(tS (⟨#[83]⟩)), (sS A_r8 n_r8 c_r8)]))], [(3, (.cells 25 [(sS (some ⟨bk11, 0, none⟩) 1 1)]))], 4, [], []⟩ _
 have hs12 : Sl tStr G10 (some ⟨bk11, 0, none⟩) 1 1 [⟨#[98]⟩] := Sl.lit (cs := [.string ⟨#[98]⟩]) (RepsL.cons' (rep_str _ (x := ⟨#[98]⟩) (by decide)) .nil) hbk11 rfl (by unfold big; omega)
 have lhs12 := hs12.len'
 refine WK_freezeV 3 rfl rfl rfl rfl ?_
 intro bk14 G13 hle hbk14
 replace h_r8 := h_r8.mono hle
 replace hs12 := hs12.mono hle
 show WK _ _ ⟨[(9, (sS (some ⟨bk14, 0, none⟩) 1 1)), (7, (.agg [(tS (⟨#[83]⟩)), (sS A_r8 n_r8 c_r8)]))], [], 4, [], []⟩ _
 have hs15 : Sl (tSlice tStr) G13 (some ⟨bk14, 0, none⟩) 1 1 [[⟨#[98]⟩]] := Sl.lit (cs := [.slice (some ⟨bk11, 0, none⟩) 1 1]) (RepsL.cons' hs12.reps .nil) hbk14 rfl (by unfold big; omega)
 have lhs15 := hs15.len'
 refine WL_op (WOp_call 17 [(tS (⟨#[66]⟩)), (sS (some ⟨bk14, 0, none⟩) 1 1)] (by kernel_rfl) (goes_of Try.func17 rfl rfl) (fun ρ w hW => rule_ok hW.has (n := ⟨#[66]⟩) (al := [[⟨#[98]⟩]]) (by decide) hs15) ?_)
 intro G702 v hle hΦ
 replace h_r8 := h_r8.mono hle
 replace hs15 := hs15.mono hle
 obtain ⟨r16, r17, A_r17, n_r17, c_r17, rfl, h_r16, h_r17, hR18⟩ := hΦ
 have lh_r17 := h_r17.len'
 obtain ⟨rfl, rfl⟩ := hR18
 refine WL_execS htb 4 [1] [5, 4] ⟨[(1, (.p 5 0))], [(5, (.cells 24 [(.s 4 2 2)])), (4, (.cells 34 [(tS (⟨#[83]⟩)), (sS A_r8 n_r8 c_r8), (tS (⟨#[66]⟩)), (sS A_r17 n_r17 c_r17)]))], 6, [], []⟩ (by kernel_rfl) ?_
 refine WL_nil ?_
 refine WQ_code ?_
 refine WC_seq (WC_region ?_)
 refine WL_execS htb 2 [14, 1] [7, 6, 5, 4] ⟨[(14, (.s 7 2 2)), (1, (.p 5 0))], [(7, (.cells 25 [(.s 6 2 2), (sS none 0 0)])), (6, (.cells 9 [(tS (⟨#[97]⟩)), (tS (⟨#[83]⟩))])), (5, (.cells 24 [(.s 4 2 2)])), (4, (.cells 34 [(tS (⟨#[83]⟩)), (sS A_r8 n_r8 c_r8), (tS (⟨#[66]⟩)), (sS A_r17 n_r17 c_r17)]))], 8, [], []⟩ (by kernel_rfl) ?_
 refine WK_freezeV 6 rfl rfl rfl rfl ?_
 intro bk20 G19 hle hbk20
 replace h_r8 := h_r8.mono hle
 replace h_r17 := h_r17.mono hle
 show WK _ _ ⟨[(14, (.s 7 2 2)), (1, (.p 5 0))], [(7, (.cells 25 [(sS (some ⟨bk20, 0, none⟩) 2 2), (sS none 0 0)])), (5, (.cells 24 [(.s 4 2 2)])), (4, (.cells 34 [(tS (⟨#[83]⟩)), (sS A_r8 n_r8 c_r8), (tS (⟨#[66]⟩)), (sS A_r17 n_r17 c_r17)]))], 8, [], []⟩ _
 have hs21 : Sl tStr G19 (some ⟨bk20, 0, none⟩) 2 2 [⟨#[97]⟩, ⟨#[83]⟩] := Sl.lit (cs := [.string ⟨#[97]⟩, .string ⟨#[83]⟩]) (RepsL.cons' (rep_str _ (x := ⟨#[97]⟩) (by decide)) (RepsL.cons' (rep_str _ (x := ⟨#[83]⟩) (by decide)) .nil)) hbk20 rfl (by unfold big; omega)
 have lhs21 := hs21.len'
 refine WK_freezeV 7 rfl rfl rfl rfl ?_
 intro bk23 G22 hle hbk23
 replace h_r8 := h_r8.mono hle
 replace h_r17 := h_r17.mono hle
 replace hs21 := hs21.mono hle
 show WK _ _ ⟨[(14, (sS (some ⟨bk23, 0, none⟩) 2 2)), (1, (.p 5 0))], [(5, (.cells 24 [(.s 4 2 2)])), (4, (.cells 34 [(tS (⟨#[83]⟩)), (sS A_r8 n_r8 c_r8), (tS (⟨#[66]⟩)), (sS A_r17 n_r17 c_r17)]))], 8, [], []⟩ _
 have hs24 : Sl (tSlice tStr) G22 (some ⟨bk23, 0, none⟩) 2 2 [[⟨#[97]⟩, ⟨#[83]⟩], []] := Sl.lit (cs := [.slice (some ⟨bk20, 0, none⟩) 2 2, .slice none 0 0]) (RepsL.cons' hs21.reps (RepsL.cons' ((Sl.none0 _ _)).reps .nil)) hbk23 rfl (by unfold big; omega)
 have lhs24 := hs24.len'
 refine WL_op (WOp_call 17 [(tS (⟨#[83]⟩)), (sS (some ⟨bk23, 0, none⟩) 2 2)] (by kernel_rfl) (goes_of Try.func17 rfl rfl) (fun ρ w hW => rule_ok hW.has (n := ⟨#[83]⟩) (al := [[⟨#[97]⟩, ⟨#[83]⟩], []]) (by decide) hs24) ?_)
 intro G703 v hle hΦ
 replace h_r8 := h_r8.mono hle
 replace h_r17 := h_r17.mono hle
 replace hs24 := hs24.mono hle
 obtain ⟨r25, r26, A_r26, n_r26, c_r26, rfl, h_r25, h_r26, hR27⟩ := hΦ
 have lh_r26 := h_r26.len'
 obtain ⟨rfl, rfl⟩ := hR27
 refine WL_execS htb 4 [2, 1] [9, 8, 5, 4] ⟨[(2, (.p 9 0)), (1, (.p 5 0))], [(9, (.cells 24 [(.s 8 1 1)])), (8, (.cells 34 [(tS (⟨#[83]⟩)), (sS A_r26 n_r26 c_r26)])), (5, (.cells 24 [(.s 4 2 2)])), (4, (.cells 34 [(tS (⟨#[83]⟩)), (sS A_r8 n_r8 c_r8), (tS (⟨#[66]⟩)), (sS A_r17 n_r17 c_r17)]))], 10, [], []⟩ (by kernel_rfl) ?_
 refine WL_nil ?_
 refine WQ_code ?_
 refine WC_seq (WC_region ?_)
 refine WL_execS htb 2 [20, 19, 1] [10, 8, 5, 4] ⟨[(20, (.s 10 2 2)), (19, (.agg [(.s 8 1 1)])), (1, (.p 5 0))], [(10, (.cells 9 [(tS (⟨#[98]⟩)), (tS (⟨#[97]⟩))])), (8, (.cells 34 [(tS (⟨#[83]⟩)), (sS A_r26 n_r26 c_r26)])), (5, (.cells 24 [(.s 4 2 2)])), (4, (.cells 34 [(tS (⟨#[83]⟩)), (sS A_r8 n_r8 c_r8), (tS (⟨#[66]⟩)), (sS A_r17 n_r17 c_r17)]))], 11, [], []⟩ (by kernel_rfl) ?_
 refine WK_freezeV 8 rfl rfl rfl rfl ?_
 intro bk29 G28 hle hbk29
 replace h_r8 := h_r8.mono hle
 replace h_r17 := h_r17.mono hle
 replace h_r26 := h_r26.mono hle
 show WK _ _ ⟨[(20, (.s 10 2 2)), (19, (.agg [(sS (some ⟨bk29, 0, none⟩) 1 1)])), (1, (.p 5 0))], [(10, (.cells 9 [(tS (⟨#[98]⟩)), (tS (⟨#[97]⟩))])), (5, (.cells 24 [(.s 4 2 2)])), (4, (.cells 34 [(tS (⟨#[83]⟩)), (sS A_r8 n_r8 c_r8), (tS (⟨#[66]⟩)), (sS A_r17 n_r17 c_r17)]))], 11, [], []⟩ _
 have hs30 : Sl (tPair tStr (tSlice (tSlice tStr))) G28 (some ⟨bk29, 0, none⟩) 1 1 [((⟨#[83]⟩), ([[⟨#[97]⟩, ⟨#[83]⟩], []]))] := Sl.lit (cs := [.string (⟨#[83]⟩), .slice A_r26 n_r26 c_r26]) (RepsL.cons' (rep_pair (rep_str _ (x := (⟨#[83]⟩)) (by decide)) h_r26.reps) .nil) hbk29 rfl (by unfold big; omega)
 have lhs30 := hs30.len'
 refine WK_freezeV 10 rfl rfl rfl rfl ?_
 intro bk32 G31 hle hbk32
 replace h_r8 := h_r8.mono hle
 replace h_r17 := h_r17.mono hle
 replace hs30 := hs30.mono hle
 show WK _ _ ⟨[(20, (sS (some ⟨bk32, 0, none⟩) 2 2)), (19, (.agg [(sS (some ⟨bk29, 0, none⟩) 1 1)])), (1, (.p 5 0))], [(5, (.cells 24 [(.s 4 2 2)])), (4, (.cells 34 [(tS (⟨#[83]⟩)), (sS A_r8 n_r8 c_r8), (tS (⟨#[66]⟩)), (sS A_r17 n_r17 c_r17)]))], 11, [], []⟩ _
 have hs33 : Sl tStr G31 (some ⟨bk32, 0, none⟩) 2 2 [⟨#[98]⟩, ⟨#[97]⟩] := Sl.lit (cs := [.string ⟨#[98]⟩, .string ⟨#[97]⟩]) (RepsL.cons' (rep_str _ (x := ⟨#[98]⟩) (by decide)) (RepsL.cons' (rep_str _ (x := ⟨#[97]⟩) (by decide)) .nil)) hbk32 rfl (by unfold big; omega)
 have lhs33 := hs33.len'
 refine WL_op (WOp_call 20 [(.agg [(sS (some ⟨bk29, 0, none⟩) 1 1)]), (sS (some ⟨bk32, 0, none⟩) 2 2)] (by kernel_rfl) (goes_of Try.func20 rfl rfl) (fun ρ w hW => number_ok hW.has (g := [((⟨#[83]⟩), ([[⟨#[97]⟩, ⟨#[83]⟩], []]))]) (tk := [⟨#[98]⟩, ⟨#[97]⟩]) hs30 hs33) ?_)
 intro G704 v hle hΦ
 replace h_r8 := h_r8.mono hle
 replace h_r17 := h_r17.mono hle
 replace hs30 := hs30.mono hle
 replace hs33 := hs33.mono hle
 obtain ⟨r34, A_r34, n_r34, c_r34, r35, A_r35, n_r35, c_r35, r36, A_r36, n_r36, c_r36, r37, rfl, h_r34, h_r35, h_r36, h_r37, hR38⟩ := hΦ
 have lh_r34 := h_r34.len'
 have lh_r35 := h_r35.len'
 have lh_r36 := h_r36.len'
 rw [num_L2] at hR38
 simp only [Prod.mk.injEq] at hR38
 obtain ⟨⟨rfl, rfl, rfl⟩, rfl⟩ := hR38
 refine WL_execS htb 6 [4, 3, 1] [11, 5, 4] ⟨[(4, (iI 0)), (3, (.p 11 0)), (1, (.p 5 0))], [(11, (.cells 41 [(sS A_r34 n_r34 c_r34), (sS A_r35 n_r35 c_r35), (sS A_r36 n_r36 c_r36)])), (5, (.cells 24 [(.s 4 2 2)])), (4, (.cells 34 [(tS (⟨#[83]⟩)), (sS A_r8 n_r8 c_r8), (tS (⟨#[66]⟩)), (sS A_r17 n_r17 c_r17)]))], 12, [], []⟩ (by kernel_rfl) ?_
 refine WL_nil ?_
 refine WQ_code ?_
 refine WC_seq (WC_region ?_)
 refine WL_execS htb 2 [25, 24, 4, 3] [12, 11, 4] ⟨[(25, (.s 12 1 1)), (24, (.agg [(.s 4 2 2)])), (4, (iI 0)), (3, (.p 11 0))], [(12, (.cells 9 [(tS (⟨#[97]⟩))])), (11, (.cells 41 [(sS A_r34 n_r34 c_r34), (sS A_r35 n_r35 c_r35), (sS A_r36 n_r36 c_r36)])), (4, (.cells 34 [(tS (⟨#[83]⟩)), (sS A_r8 n_r8 c_r8), (tS (⟨#[66]⟩)), (sS A_r17 n_r17 c_r17)]))], 13, [], []⟩ (by kernel_rfl) ?_
 refine WK_freezeV 4 rfl rfl rfl rfl ?_
 intro bk40 G39 hle hbk40
 replace h_r8 := h_r8.mono hle
 replace h_r17 := h_r17.mono hle
 replace h_r34 := h_r34.mono hle
 replace h_r35 := h_r35.mono hle
 replace h_r36 := h_r36.mono hle
 show WK _ _ ⟨[(25, (.s 12 1 1)), (24, (.agg [(sS (some ⟨bk40, 0, none⟩) 2 2)])), (4, (iI 0)), (3, (.p 11 0))], [(12, (.cells 9 [(tS (⟨#[97]⟩))])), (11, (.cells 41 [(sS A_r34 n_r34 c_r34), (sS A_r35 n_r35 c_r35), (sS A_r36 n_r36 c_r36)]))], 13, [], []⟩ _
 have hs41 : Sl (tPair tStr (tSlice (tSlice tStr))) G39 (some ⟨bk40, 0, none⟩) 2 2 [((⟨#[83]⟩), ([[⟨#[97]⟩]])), ((⟨#[66]⟩), ([[⟨#[98]⟩]]))] := Sl.lit (cs := [.string (⟨#[83]⟩), .slice A_r8 n_r8 c_r8, .string (⟨#[66]⟩), .slice A_r17 n_r17 c_r17]) (RepsL.cons' (rep_pair (rep_str _ (x := (⟨#[83]⟩)) (by decide)) h_r8.reps) (RepsL.cons' (rep_pair (rep_str _ (x := (⟨#[66]⟩)) (by decide)) h_r17.reps) .nil)) hbk40 rfl (by unfold big; omega)
 have lhs41 := hs41.len'
 refine WK_freezeV 12 rfl rfl rfl rfl ?_
 intro bk43 G42 hle hbk43
 replace h_r34 := h_r34.mono hle
 replace h_r35 := h_r35.mono hle
 replace h_r36 := h_r36.mono hle
 replace hs41 := hs41.mono hle
 show WK _ _ ⟨[(25, (sS (some ⟨bk43, 0, none⟩) 1 1)), (24, (.agg [(sS (some ⟨bk40, 0, none⟩) 2 2)])), (4, (iI 0)), (3, (.p 11 0))], [(11, (.cells 41 [(sS A_r34 n_r34 c_r34), (sS A_r35 n_r35 c_r35), (sS A_r36 n_r36 c_r36)]))], 13, [], []⟩ _
 have hs44 : Sl tStr G42 (some ⟨bk43, 0, none⟩) 1 1 [⟨#[97]⟩] := Sl.lit (cs := [.string ⟨#[97]⟩]) (RepsL.cons' (rep_str _ (x := ⟨#[97]⟩) (by decide)) .nil) hbk43 rfl (by unfold big; omega)
 have lhs44 := hs44.len'
 refine WL_op (WOp_call 16 [(.agg [(sS (some ⟨bk40, 0, none⟩) 2 2)]), (sS (some ⟨bk43, 0, none⟩) 1 1)] (by kernel_rfl) (goes_of Try.func16 rfl rfl) (fun ρ w hW => flawsP_ok hW.has (g := [((⟨#[83]⟩), ([[⟨#[97]⟩]])), ((⟨#[66]⟩), ([[⟨#[98]⟩]]))]) (tk := [⟨#[97]⟩]) hs41 hs44 (by decide) (by decide) (by decide)) ?_)
 intro G705 v hle hΦ
 replace h_r34 := h_r34.mono hle
 replace h_r35 := h_r35.mono hle
 replace h_r36 := h_r36.mono hle
 replace hs41 := hs41.mono hle
 replace hs44 := hs44.mono hle
 obtain ⟨Af45, nf46, cf47, gd, nr, rfl, hsf48, hgd, hnr⟩ := hΦ
 rw [flawsL_of hgd hnr] at hsf48
 clear hgd hnr
 have lhsf48 := hsf48.len'
 refine WL_execS htb 4 [30, 26, 4, 3] [13, 11] ⟨[(30, (.s 13 3 3)), (26, (sS Af45 nf46 cf47)), (4, (iI 0)), (3, (.p 11 0))], [(13, (.cells 31 [(iI 2), (tS (⟨#[98]⟩)), (iI 3), (tS (⟨#[66]⟩)), (iI 4), (tS (⟨#[66]⟩))])), (11, (.cells 41 [(sS A_r34 n_r34 c_r34), (sS A_r35 n_r35 c_r35), (sS A_r36 n_r36 c_r36)]))], 14, [], []⟩ (by kernel_rfl) ?_
 refine WK_freezeV 13 rfl rfl rfl rfl ?_
 intro bk50 G49 hle hbk50
 replace h_r34 := h_r34.mono hle
 replace h_r35 := h_r35.mono hle
 replace h_r36 := h_r36.mono hle
 replace hsf48 := hsf48.mono hle
 show WK _ _ ⟨[(30, (sS (some ⟨bk50, 0, none⟩) 3 3)), (26, (sS Af45 nf46 cf47)), (4, (iI 0)), (3, (.p 11 0))], [(11, (.cells 41 [(sS A_r34 n_r34 c_r34), (sS A_r35 n_r35 c_r35), (sS A_r36 n_r36 c_r36)]))], 14, [], []⟩ _
 have hs51 : Sl (tPair (tInt .i64) tStr) G49 (some ⟨bk50, 0, none⟩) 3 3 [(2, ⟨#[98]⟩), (3, ⟨#[66]⟩), (4, ⟨#[66]⟩)] := Sl.lit (cs := [.int .i64 2, .string ⟨#[98]⟩, .int .i64 3, .string ⟨#[66]⟩, .int .i64 4, .string ⟨#[66]⟩]) (RepsL.cons' (rep_pair (rep_int _ (x := 2) (by omega)) (rep_str _ (x := ⟨#[98]⟩) (by decide))) (RepsL.cons' (rep_pair (rep_int _ (x := 3) (by omega)) (rep_str _ (x := ⟨#[66]⟩) (by decide))) (RepsL.cons' (rep_pair (rep_int _ (x := 4) (by omega)) (rep_str _ (x := ⟨#[66]⟩) (by decide))) .nil))) hbk50 rfl (by unfold big; omega)
 have lhs51 := hs51.len'
 refine WL_op (WOp_call 19 [(sS Af45 nf46 cf47), (sS (some ⟨bk50, 0, none⟩) 3 3)] (by kernel_rfl) (goes_of Try.func19 rfl rfl) (fun ρ w hW => sameFlaws_ok hW.has (xs := (flawsL ([((⟨#[83]⟩), ([[⟨#[97]⟩]])), ((⟨#[66]⟩), ([[⟨#[98]⟩]]))]) ([⟨#[97]⟩]))) (ys := [(2, ⟨#[98]⟩), (3, ⟨#[66]⟩), (4, ⟨#[66]⟩)]) hsf48 hs51) ?_)
 intro G706 v hle hΦ
 replace h_r34 := h_r34.mono hle
 replace h_r35 := h_r35.mono hle
 replace h_r36 := h_r36.mono hle
 replace hsf48 := hsf48.mono hle
 replace hs51 := hs51.mono hle
 obtain ⟨r52, rfl, hR53⟩ := hΦ
 rw [flaws_L1] at hR53
 replace hR53 := hR53.trans (show _ = true from decide_eq_true rfl)
 obtain rfl := hR53
 refine WL_execS htb 5 [36, 3] [11] ⟨[(36, (bB ((0 : Int) == 0))), (3, (.p 11 0))], [(11, (.cells 41 [(sS A_r34 n_r34 c_r34), (sS A_r35 n_r35 c_r35), (sS A_r36 n_r36 c_r36)]))], 14, [], []⟩ (by kernel_rfl) ?_
 refine WK_env [(36, (bB true)), (3, (.p 11 0))] (fun ρ => ⟨rfl, rfl, ⟨rfl, rfl, trivial⟩⟩) ?_
 refine WL_execS htb 7 [43, 37, 36, 3] [18, 17, 16, 15, 14, 11] ⟨[(43, (.agg [(.s 14 2 2), (.s 15 1 1), (.s 18 1 1)])), (37, (.agg [(sS A_r34 n_r34 c_r34), (sS A_r35 n_r35 c_r35), (sS A_r36 n_r36 c_r36)])), (36, (bB true)), (3, (.p 11 0))], [(18, (.cells 46 [(.s 17 2 2)])), (17, (.cells 47 [(.s 16 2 2), (sS none 0 0)])), (16, (.cells 3 [(iI 1), (iI (-1))])), (15, (.cells 9 [(tS (⟨#[83]⟩))])), (14, (.cells 9 [(tS (⟨#[98]⟩)), (tS (⟨#[97]⟩))])), (11, (.cells 41 [(sS A_r34 n_r34 c_r34), (sS A_r35 n_r35 c_r35), (sS A_r36 n_r36 c_r36)]))], 19, [], []⟩ (by kernel_rfl) ?_
 refine WK_freezeV 14 rfl rfl rfl rfl ?_
 intro bk55 G54 hle hbk55
 replace h_r34 := h_r34.mono hle
 replace h_r35 := h_r35.mono hle
 replace h_r36 := h_r36.mono hle
 show WK _ _ ⟨[(43, (.agg [(sS (some ⟨bk55, 0, none⟩) 2 2), (.s 15 1 1), (.s 18 1 1)])), (37, (.agg [(sS A_r34 n_r34 c_r34), (sS A_r35 n_r35 c_r35), (sS A_r36 n_r36 c_r36)])), (36, (bB true)), (3, (.p 11 0))], [(18, (.cells 46 [(.s 17 2 2)])), (17, (.cells 47 [(.s 16 2 2), (sS none 0 0)])), (16, (.cells 3 [(iI 1), (iI (-1))])), (15, (.cells 9 [(tS (⟨#[83]⟩))])), (11, (.cells 41 [(sS A_r34 n_r34 c_r34), (sS A_r35 n_r35 c_r35), (sS A_r36 n_r36 c_r36)]))], 19, [], []⟩ _
 have hs56 : Sl tStr G54 (some ⟨bk55, 0, none⟩) 2 2 [⟨#[98]⟩, ⟨#[97]⟩] := Sl.lit (cs := [.string ⟨#[98]⟩, .string ⟨#[97]⟩]) (RepsL.cons' (rep_str _ (x := ⟨#[98]⟩) (by decide)) (RepsL.cons' (rep_str _ (x := ⟨#[97]⟩) (by decide)) .nil)) hbk55 rfl (by unfold big; omega)
 have lhs56 := hs56.len'
 refine WK_freezeV 15 rfl rfl rfl rfl ?_
 intro bk58 G57 hle hbk58
 replace h_r34 := h_r34.mono hle
 replace h_r35 := h_r35.mono hle
 replace h_r36 := h_r36.mono hle
 replace hs56 := hs56.mono hle
 show WK _ _ ⟨[(43, (.agg [(sS (some ⟨bk55, 0, none⟩) 2 2), (sS (some ⟨bk58, 0, none⟩) 1 1), (.s 18 1 1)])), (37, (.agg [(sS A_r34 n_r34 c_r34), (sS A_r35 n_r35 c_r35), (sS A_r36 n_r36 c_r36)])), (36, (bB true)), (3, (.p 11 0))], [(18, (.cells 46 [(.s 17 2 2)])), (17, (.cells 47 [(.s 16 2 2), (sS none 0 0)])), (16, (.cells 3 [(iI 1), (iI (-1))])), (11, (.cells 41 [(sS A_r34 n_r34 c_r34), (sS A_r35 n_r35 c_r35), (sS A_r36 n_r36 c_r36)]))], 19, [], []⟩ _
 have hs59 : Sl tStr G57 (some ⟨bk58, 0, none⟩) 1 1 [⟨#[83]⟩] := Sl.lit (cs := [.string ⟨#[83]⟩]) (RepsL.cons' (rep_str _ (x := ⟨#[83]⟩) (by decide)) .nil) hbk58 rfl (by unfold big; omega)
 have lhs59 := hs59.len'
 refine WK_freezeV 16 rfl rfl rfl rfl ?_
 intro bk61 G60 hle hbk61
 replace h_r34 := h_r34.mono hle
 replace h_r35 := h_r35.mono hle
 replace h_r36 := h_r36.mono hle
 replace hs56 := hs56.mono hle
 replace hs59 := hs59.mono hle
 show WK _ _ ⟨[(43, (.agg [(sS (some ⟨bk55, 0, none⟩) 2 2), (sS (some ⟨bk58, 0, none⟩) 1 1), (.s 18 1 1)])), (37, (.agg [(sS A_r34 n_r34 c_r34), (sS A_r35 n_r35 c_r35), (sS A_r36 n_r36 c_r36)])), (36, (bB true)), (3, (.p 11 0))], [(18, (.cells 46 [(.s 17 2 2)])), (17, (.cells 47 [(sS (some ⟨bk61, 0, none⟩) 2 2), (sS none 0 0)])), (11, (.cells 41 [(sS A_r34 n_r34 c_r34), (sS A_r35 n_r35 c_r35), (sS A_r36 n_r36 c_r36)]))], 19, [], []⟩ _
 have hs62 : Sl (tInt .i64) G60 (some ⟨bk61, 0, none⟩) 2 2 [1, (-1)] := Sl.lit (cs := [.int .i64 1, .int .i64 (-1)]) (RepsL.cons' (rep_int _ (x := 1) (by omega)) (RepsL.cons' (rep_int _ (x := (-1)) (by omega)) .nil)) hbk61 rfl (by unfold big; omega)
 have lhs62 := hs62.len'
 refine WK_freezeV 17 rfl rfl rfl rfl ?_
 intro bk64 G63 hle hbk64
 replace h_r34 := h_r34.mono hle
 replace h_r35 := h_r35.mono hle
 replace h_r36 := h_r36.mono hle
 replace hs56 := hs56.mono hle
 replace hs59 := hs59.mono hle
 replace hs62 := hs62.mono hle
 show WK _ _ ⟨[(43, (.agg [(sS (some ⟨bk55, 0, none⟩) 2 2), (sS (some ⟨bk58, 0, none⟩) 1 1), (.s 18 1 1)])), (37, (.agg [(sS A_r34 n_r34 c_r34), (sS A_r35 n_r35 c_r35), (sS A_r36 n_r36 c_r36)])), (36, (bB true)), (3, (.p 11 0))], [(18, (.cells 46 [(sS (some ⟨bk64, 0, none⟩) 2 2)])), (11, (.cells 41 [(sS A_r34 n_r34 c_r34), (sS A_r35 n_r35 c_r35), (sS A_r36 n_r36 c_r36)]))], 19, [], []⟩ _
 have hs65 : Sl (tSlice (tInt .i64)) G63 (some ⟨bk64, 0, none⟩) 2 2 [[1, (-1)], []] := Sl.lit (cs := [.slice (some ⟨bk61, 0, none⟩) 2 2, .slice none 0 0]) (RepsL.cons' hs62.reps (RepsL.cons' ((Sl.none0 _ _)).reps .nil)) hbk64 rfl (by unfold big; omega)
 have lhs65 := hs65.len'
 refine WK_freezeV 18 rfl rfl rfl rfl ?_
 intro bk67 G66 hle hbk67
 replace h_r34 := h_r34.mono hle
 replace h_r35 := h_r35.mono hle
 replace h_r36 := h_r36.mono hle
 replace hs56 := hs56.mono hle
 replace hs59 := hs59.mono hle
 replace hs65 := hs65.mono hle
 show WK _ _ ⟨[(43, (.agg [(sS (some ⟨bk55, 0, none⟩) 2 2), (sS (some ⟨bk58, 0, none⟩) 1 1), (sS (some ⟨bk67, 0, none⟩) 1 1)])), (37, (.agg [(sS A_r34 n_r34 c_r34), (sS A_r35 n_r35 c_r35), (sS A_r36 n_r36 c_r36)])), (36, (bB true)), (3, (.p 11 0))], [(11, (.cells 41 [(sS A_r34 n_r34 c_r34), (sS A_r35 n_r35 c_r35), (sS A_r36 n_r36 c_r36)]))], 19, [], []⟩ _
 have hs68 : Sl (tSlice (tSlice (tInt .i64))) G66 (some ⟨bk67, 0, none⟩) 1 1 [[[1, (-1)], []]] := Sl.lit (cs := [.slice (some ⟨bk64, 0, none⟩) 2 2]) (RepsL.cons' hs65.reps .nil) hbk67 rfl (by unfold big; omega)
 have lhs68 := hs68.len'
 refine WL_op (WOp_call 33 [(.agg [(sS A_r34 n_r34 c_r34), (sS A_r35 n_r35 c_r35), (sS A_r36 n_r36 c_r36)]), (.agg [(sS (some ⟨bk55, 0, none⟩) 2 2), (sS (some ⟨bk58, 0, none⟩) 1 1), (sS (some ⟨bk67, 0, none⟩) 1 1)])] (by kernel_rfl) (goes_of Try.func33 rfl rfl) (fun ρ w hW => sameCfg_ok hW.has (tk := ([⟨#[98]⟩, ⟨#[97]⟩])) (nm := ([⟨#[83]⟩])) (rs := ([[[1, -1], []]])) (tk2 := [⟨#[98]⟩, ⟨#[97]⟩]) (nm2 := [⟨#[83]⟩]) (rs2 := [[[1, (-1)], []]]) h_r34 h_r35 h_r36 hs56 hs59 hs68) ?_)
 intro G707 v hle hΦ
 replace h_r34 := h_r34.mono hle
 replace h_r35 := h_r35.mono hle
 replace h_r36 := h_r36.mono hle
 replace hs56 := hs56.mono hle
 replace hs59 := hs59.mono hle
 replace hs68 := hs68.mono hle
 obtain ⟨r69, rfl, hR70⟩ := hΦ
 replace hR70 := hR70.trans (show _ = true by decide +kernel)
 obtain rfl := hR70
 refine WL_execS htb 3 [47, 46] [] ⟨[(47, (.agg [(sS A_r34 n_r34 c_r34), (sS A_r35 n_r35 c_r35), (sS A_r36 n_r36 c_r36)])), (46, (bB true))], [], 19, [], []⟩ (by kernel_rfl) ?_
 refine WL_op (WOp_call 37 [(.agg [(sS A_r34 n_r34 c_r34), (sS A_r35 n_r35 c_r35), (sS A_r36 n_r36 c_r36)])] (by kernel_rfl) (goes_of Try.func37 rfl rfl) (fun ρ w hW => validP_ok hW.has (tk := ([⟨#[98]⟩, ⟨#[97]⟩])) (nm := ([⟨#[83]⟩])) (rs := ([[[1, -1], []]])) h_r34 h_r35 h_r36 (by decide)) ?_)
 intro G708 v hle hΦ
 replace h_r34 := h_r34.mono hle
 replace h_r35 := h_r35.mono hle
 replace h_r36 := h_r36.mono hle
 obtain ⟨r71, rfl, h_r71, hR72⟩ := hΦ
 replace hR72 := hR72.trans valid_L2
 obtain rfl := hR72
 refine WL_execS htb 3 [0] [] ⟨[(0, (bB ((0 : Int) == 0)))], [], 19, [], []⟩ (by kernel_rfl) ?_
 refine WL_nil ?_
 refine WQ_code ?_
 refine WC_ret ?_
 exact WQ_done htb [(bB ((0 : Int) == 0))] _ (.inl rfl) rfl (by kernel_rfl) (fun ρ w hW => rfl)

end Go.Proofs.Ytfemkbockhpmcaa.Sym
