/- Walks of functions that the laws of this seat reach, printed by a program of this session's. -/
import Derived.Test.YtfemkbockhpmcaaB10
import Derived.Test.YtfemkbockhpmcaaSymQ
import Derived.Test.YtfemkbockhpmcaaSymI
set_option linter.unusedSimpArgs false
set_option linter.unusedVariables false
set_option maxHeartbeats 4000000
namespace Go.Proofs.Ytfemkbockhpmcaa.Sym
open Go Go.Proofs Go.RowKit

theorem letter_all' {c : Nat} (h : c < 256) : (decide ((97 : Int) ≤ orInt .u8 ((c : Nat) : Int) 32) && decide (orInt .u8 ((c : Nat) : Int) 32 ≤ 122) || (((c : Nat) : Int) == 95)) = letterC c := letter_all ⟨c, h⟩
theorem isname_end {s : ByteArray} {i : Nat} (hn : ∀ j, j < i → OkC j (s.data.toList[j]?.getD 0).toNat) (hi : s.size ≤ i) (hz : s.toList ≠ []) : decide (((s.size : Nat) : Int) ≤ 32) = decide (IsNameP s) := by
  have h1 : 1 ≤ s.size := by
    rcases Nat.eq_zero_or_pos s.size with h | h
    · exfalso; apply hz
      rw [ByteArray.toList_eq]
      exact List.length_eq_zero_iff.1 (by simpa using h)
    · exact h
  by_cases h : s.size ≤ 32
  · rw [decide_eq_true (by omega), decide_eq_true ⟨h1, h, fun j hj => hn j (by omega)⟩]
  · rw [decide_eq_false (by omega), decide_eq_false (fun hh => h hh.2.1)]
theorem isname_end0 {s : ByteArray} (hz : s.toList = []) : false = decide (IsNameP s) := by
  refine (decide_eq_false (fun h => ?_)).symm
  have h1 := h.1
  rw [ByteArray.toList_eq] at hz
  have : s.data.toList.length = 0 := by rw [hz]; rfl
  have e : s.size = s.data.toList.length := Array.length_toList.symm
  omega
theorem letter_ok {w : World} {G : Heap} (hG : Has w G) {c : Nat} (hc : c < 256) :
    Calls Try.prog 79 #[.int .u8 ((c : Nat) : Int)] w (Ret w G fun v G' => v = .bool (letterC c)) := by
 refine enter [(.v (.int .u8 ((c : Nat) : Int)))] 15 Try.func79 rfl rfl rfl rfl hG ?_; have hl := letter_all' hc; refine WC_seq (WC_region (WL_execK htb 1 ⟨[(0, (.v (.int .u8 ((c : Nat) : Int))))], [], 0, [], []⟩ ?_)); refine WL_nil (WQ_code (WC_seq (WC_region (WL_execK htb 1 ⟨[(3, (.v (.int .u8 ((c : Nat) : Int)))), (0, (.v (.int .u8 ((c : Nat) : Int))))], [], 0, [], []⟩ ?_)))); refine WL_op (WOp_or .u8 ((c : Nat) : Int) 32 (by kernel_rfl) ?_); refine WL_execK htb 2 ⟨[(6, (bB (decide ((97 : Int) ≤ (orInt .u8 ((c : Nat) : Int) 32))))), (0, (.v (.int .u8 ((c : Nat) : Int))))], [], 0, [], []⟩ ?_; refine WK_split 6 (decide ((97 : Int) ≤ (orInt .u8 ((c : Nat) : Int) 32))) rfl (fun hq0 => ?_) (fun hq0 => ?_)
 ·
  replace hq0 := of_decide_eq_true hq0; refine WK_keep [6, 0] [] rfl rfl ?_; refine WL_execK htb 1 ⟨[(7, (.v (.int .u8 ((c : Nat) : Int)))), (6, (bB true)), (0, (.v (.int .u8 ((c : Nat) : Int))))], [], 0, [], []⟩ ?_; refine WL_op (WOp_or .u8 ((c : Nat) : Int) 32 (by kernel_rfl) ?_); refine WL_execK htb 3 ⟨[(11, (bB (decide (((orInt .u8 ((c : Nat) : Int) 32) : Int) ≤ 122)))), (0, (.v (.int .u8 ((c : Nat) : Int))))], [], 0, [], []⟩ ?_; refine WK_split 11 (decide (((orInt .u8 ((c : Nat) : Int) 32) : Int) ≤ 122)) rfl (fun hq1 => ?_) (fun hq1 => ?_)
  ·
   replace hq1 := of_decide_eq_true hq1; refine WK_keep [11, 0] [] rfl rfl ?_; refine WL_execK htb 4 ⟨[(2, (bB true))], [], 0, [], []⟩ ?_; exact WL_nil (WQ_code (WC_ret (WQ_done htb [(bB true)] _ (.inl rfl) rfl (by kernel_rfl) (fun ρ w hW => congrArg Value.bool (show _ = letterC c by (rw [← hl, decide_eq_true hq0, decide_eq_true hq1]; rfl))))))
  ·
   replace hq1 := of_decide_eq_false hq1; refine WK_keep [11, 0] [] rfl rfl ?_; refine WL_execK htb 4 ⟨[(2, (bB ((((c : Nat) : Int) : Int) == 95)))], [], 0, [], []⟩ ?_; exact WL_nil (WQ_code (WC_ret (WQ_done htb [(bB ((((c : Nat) : Int) : Int) == 95))] _ (.inl rfl) rfl (by kernel_rfl) (fun ρ w hW => congrArg Value.bool (show _ = letterC c by (rw [← hl, decide_eq_true hq0, decide_eq_false hq1]; rfl))))))
 ·
  replace hq0 := of_decide_eq_false hq0; refine WK_keep [6, 0] [] rfl rfl ?_; refine WL_execK htb 9 ⟨[(2, (bB ((((c : Nat) : Int) : Int) == 95)))], [], 0, [], []⟩ ?_; exact WL_nil (WQ_code (WC_ret (WQ_done htb [(bB ((((c : Nat) : Int) : Int) == 95))] _ (.inl rfl) rfl (by kernel_rfl) (fun ρ w hW => congrArg Value.bool (show _ = letterC c by (rw [← hl, decide_eq_false hq0]; rfl))))))

theorem isName_ok {w : World} {G : Heap} (hG : Has w G) {s : ByteArray} (h_s : s.size ≤ big) :
    Calls Try.prog 45 #[(.string s)] w (Ret w G fun v G' => ∃ (b : Bool), v = .bool b ∧ (b = decide (IsNameP s))) := by
 refine enter [(tS s)] 38 Try.func45 rfl rfl rfl rfl hG ?_; refine WC_seq (WC_region (WL_execK htb 1 ⟨[(0, (tS s))], [], 0, [], []⟩ ?_)); refine WL_nil (WQ_code (WC_seq (WC_seq (WC_region (WL_execK htb 3 ⟨[(6, (iI 0)), (5, (iN ((s : ByteArray).size))), (0, (tS s))], [], 0, [], []⟩ ?_))))); refine WL_nil (WQ_code (WC_block (WK_keep [6, 5, 0] [] rfl rfl ?_))); refine WK_env [(6, (iN 0)), (5, (iN ((s : ByteArray).size))), (0, (tS s))] (fun ρ => ⟨rfl, rfl, ⟨rfl, rfl, ⟨rfl, rfl, trivial⟩⟩⟩) ?_; refine WC_loop (ι := Nat) (fun i G1 => Le G G1 ∧ (i ≤ s.size ∧ ∀ j, j < i → OkC j (s.data.toList[j]?.getD 0).toNat)) (fun i => ⟨[(6, (iN i)), (5, (iN ((s : ByteArray).size))), (0, (tS s))], [], 0, [], []⟩) (fun i => s.size - i) (0) ⟨Le.refl _, ⟨Nat.zero_le _, fun j h => absurd h (Nat.not_lt_zero j)⟩⟩ rfl ?_; rintro i G1 ⟨hle, hF⟩; show WC _ _ _ _ _ ⟨[(6, (iN i)), (5, (iN ((s : ByteArray).size))), (0, (tS s))], [], 0, [], []⟩ _; have hc2 := hle; obtain ⟨hi, hn⟩ := hF; have hbig : s.size ≤ 9223372036854775807 := h_s; refine WC_seq (WC_region (WL_execK htb 1 ⟨[(7, (bB (decide ((((i : Nat) : Int) : Int) < (((s : ByteArray).size : Nat) : Int))))), (6, (iN i)), (5, (iN ((s : ByteArray).size))), (0, (tS s))], [], 0, [], []⟩ ?_)); refine WL_nil (WQ_code (WC_seq (WC_cond (b := (decide ((((i : Nat) : Int) : Int) < (((s : ByteArray).size : Nat) : Int)))) rfl (fun hc => ?_) (fun hc => ?_))))
 ·
  replace hc := of_decide_eq_true hc; refine WC_skip (WQ_code (WC_seq (WC_block (WC_seq (WC_region (WL_execK htb 2 ⟨[(3, (iN i)), (6, (iN i)), (5, (iN ((s : ByteArray).size))), (0, (tS s))], [], 0, [], []⟩ ?_)))))); refine WL_nil (WQ_code (WC_seq (WC_region (WL_execK htb 2 ⟨[(10, (iN i)), (9, (tS s)), (3, (iN i)), (6, (iN i)), (5, (iN ((s : ByteArray).size))), (0, (tS s))], [], 0, [], []⟩ ?_)))); refine WL_op (WOp_ix htb s ((i : Nat) : Int) (by kernel_rfl) (by omega) (by omega) ?_); refine WL_op (WOp_call 79 [(.v (.int .u8 (((s.data.toList[i]?.getD 0).toNat : Nat) : Int)))] (by kernel_rfl) (goes_of Try.func79 rfl rfl) (fun ρ w hW => letter_ok hW.has (c := (s.data.toList[i]?.getD 0).toNat) (UInt8.toNat_lt _)) ?_); intro G701 v hle hΦ; replace hc2 := Le.trans hc2 hle; subst hΦ; refine WL_execK htb 2 ⟨[(14, (bB (!(letterC ((s.data.toList[i]?.getD 0).toNat))))), (3, (iN i)), (6, (iN i)), (5, (iN ((s : ByteArray).size))), (0, (tS s))], [], 0, [], []⟩ ?_; refine WK_split 14 (!(letterC ((s.data.toList[i]?.getD 0).toNat))) rfl (fun hq0 => ?_) (fun hq0 => ?_)
  ·
   rw [Bool.not_eq_true'] at hq0; refine WK_keep [14, 3, 6, 5, 0] [] rfl rfl ?_; refine WL_execK htb 3 ⟨[(17, (bB ((((i : Nat) : Int) : Int) == 0))), (14, (bB true)), (3, (iN i)), (6, (iN i)), (5, (iN ((s : ByteArray).size))), (0, (tS s))], [], 0, [], []⟩ ?_; refine WK_split 17 ((((i : Nat) : Int) : Int) == 0) rfl (fun hq1 => ?_) (fun hq1 => ?_)
   ·
    replace hq1 := eq_of_beq hq1; refine WK_keep [17, 14, 3, 6, 5, 0] [] rfl rfl ?_; refine WL_execK htb 12 ⟨[(29, (bB true)), (6, (iN i)), (5, (iN ((s : ByteArray).size))), (0, (tS s))], [], 0, [], []⟩ ?_; refine WL_nil (WQ_code (WC_cond (b := true) rfl (fun _ => ?_) (fun h => by cases h))); refine WC_seq (WC_region (WL_execK htb 1 ⟨[(2, (bB false))], [], 0, [], []⟩ ?_)); exact WL_nil (WQ_code (WC_ret (WQ_blk_ret (WQ_then_ret (WQ_then_ret (WQ_blk_ret (WQ_then_ret (WQ_done htb [(bB false)] _ (.inl rfl) rfl (by kernel_rfl) (fun ρ w hW => ⟨false, rfl, (decide_eq_false (fun h => by (have := h.2.2 i (by omega); simp only [letterC, decide_eq_true_iff, decide_eq_false_iff_not] at hq0; unfold OkC at this; omega))).symm⟩)))))))))
   ·
    replace hq1 := ne_of_beq_false hq1; refine WK_keep [17, 14, 3, 6, 5, 0] [] rfl rfl ?_; refine WL_execK htb 2 ⟨[(19, (iN i)), (18, (tS s)), (17, (bB false)), (14, (bB true)), (3, (iN i)), (6, (iN i)), (5, (iN ((s : ByteArray).size))), (0, (tS s))], [], 0, [], []⟩ ?_; refine WL_op (WOp_ix htb s ((i : Nat) : Int) (by kernel_rfl) (by omega) (by omega) ?_); refine WL_execK htb 3 ⟨[(23, (bB (decide (((((s.data.toList[i]?.getD 0).toNat : Nat) : Int) : Int) < 48)))), (14, (bB true)), (3, (iN i)), (6, (iN i)), (5, (iN ((s : ByteArray).size))), (0, (tS s))], [], 0, [], []⟩ ?_; refine WK_split 23 (decide (((((s.data.toList[i]?.getD 0).toNat : Nat) : Int) : Int) < 48)) rfl (fun hq2 => ?_) (fun hq2 => ?_)
    ·
     replace hq2 := of_decide_eq_true hq2; refine WK_keep [23, 14, 3, 6, 5, 0] [] rfl rfl ?_; refine WL_execK htb 6 ⟨[(29, (bB true)), (6, (iN i)), (5, (iN ((s : ByteArray).size))), (0, (tS s))], [], 0, [], []⟩ ?_; refine WL_nil (WQ_code (WC_cond (b := true) rfl (fun _ => ?_) (fun h => by cases h))); refine WC_seq (WC_region (WL_execK htb 1 ⟨[(2, (bB false))], [], 0, [], []⟩ ?_)); exact WL_nil (WQ_code (WC_ret (WQ_blk_ret (WQ_then_ret (WQ_then_ret (WQ_blk_ret (WQ_then_ret (WQ_done htb [(bB false)] _ (.inl rfl) rfl (by kernel_rfl) (fun ρ w hW => ⟨false, rfl, (decide_eq_false (fun h => by (have := h.2.2 i (by omega); simp only [letterC, decide_eq_true_iff, decide_eq_false_iff_not] at hq0; unfold OkC at this; omega))).symm⟩)))))))))
    ·
     replace hq2 := of_decide_eq_false hq2; refine WK_keep [23, 14, 3, 6, 5, 0] [] rfl rfl ?_; refine WL_execK htb 2 ⟨[(25, (iN i)), (24, (tS s)), (23, (bB false)), (14, (bB true)), (6, (iN i)), (5, (iN ((s : ByteArray).size))), (0, (tS s))], [], 0, [], []⟩ ?_; refine WL_op (WOp_ix htb s ((i : Nat) : Int) (by kernel_rfl) (by omega) (by omega) ?_); refine WL_execK htb 3 ⟨[(29, (bB (decide (((((s.data.toList[i]?.getD 0).toNat : Nat) : Int) : Int) > 57)))), (6, (iN i)), (5, (iN ((s : ByteArray).size))), (0, (tS s))], [], 0, [], []⟩ ?_; refine WL_nil (WQ_code (WC_cond (b := (decide (((((s.data.toList[i]?.getD 0).toNat : Nat) : Int) : Int) > 57))) rfl (fun hq3 => ?_) (fun hq3 => ?_)))
     ·
      replace hq3 := of_decide_eq_true hq3; refine WC_seq (WC_region (WL_execK htb 1 ⟨[(2, (bB false))], [], 0, [], []⟩ ?_)); exact WL_nil (WQ_code (WC_ret (WQ_blk_ret (WQ_then_ret (WQ_then_ret (WQ_blk_ret (WQ_then_ret (WQ_done htb [(bB false)] _ (.inl rfl) rfl (by kernel_rfl) (fun ρ w hW => ⟨false, rfl, (decide_eq_false (fun h => by (have := h.2.2 i (by omega); simp only [letterC, decide_eq_true_iff, decide_eq_false_iff_not] at hq0; unfold OkC at this; omega))).symm⟩)))))))))
     ·
      replace hq3 := of_decide_eq_false hq3; refine WC_skip (WQ_blk (WQ_code (WC_region (WL_execK htb 2 ⟨[(6, (iI (IntKind.i64.wrap (((i : Nat) : Int) + 1)))), (5, (iN ((s : ByteArray).size))), (0, (tS s))], [], 0, [], []⟩ ?_)))); refine WL_nil (WK_env [(6, (iN (i + 1))), (5, (iN ((s : ByteArray).size))), (0, (tS s))] (fun ρ => ⟨rfl, (congrArg (Value.int .i64) (by rw [wrap_id (by omega)]; first | rfl | omega)), ⟨rfl, rfl, ⟨rfl, rfl, trivial⟩⟩⟩) ?_); refine WK_keep [6, 5, 0] [] rfl rfl ?_; exact WQ_next ((i + 1)) (by show s.size - (i + 1) < s.size - i; omega) ⟨hc2, ⟨by omega, okc_step hn (by (simp only [letterC, decide_eq_true_iff, decide_eq_false_iff_not] at hq0; unfold OkC; omega))⟩⟩ (fun ρ a w h => h)
  ·
   rw [Bool.not_eq_false'] at hq0; refine WK_keep [14, 3, 6, 5, 0] [] rfl rfl ?_; refine WL_execK htb 15 ⟨[(29, (bB false)), (6, (iN i)), (5, (iN ((s : ByteArray).size))), (0, (tS s))], [], 0, [], []⟩ ?_; refine WL_nil (WQ_code (WC_cond (b := false) rfl (fun h => by cases h) (fun _ => ?_))); refine WC_skip (WQ_blk (WQ_code (WC_region (WL_execK htb 2 ⟨[(6, (iI (IntKind.i64.wrap (((i : Nat) : Int) + 1)))), (5, (iN ((s : ByteArray).size))), (0, (tS s))], [], 0, [], []⟩ ?_)))); refine WL_nil (WK_env [(6, (iN (i + 1))), (5, (iN ((s : ByteArray).size))), (0, (tS s))] (fun ρ => ⟨rfl, (congrArg (Value.int .i64) (by rw [wrap_id (by omega)]; first | rfl | omega)), ⟨rfl, rfl, ⟨rfl, rfl, trivial⟩⟩⟩) ?_); refine WK_keep [6, 5, 0] [] rfl rfl ?_; exact WQ_next ((i + 1)) (by show s.size - (i + 1) < s.size - i; omega) ⟨hc2, ⟨by omega, okc_step hn (by (simp only [letterC, decide_eq_true_iff, decide_eq_false_iff_not] at hq0; unfold OkC; omega))⟩⟩ (fun ρ a w h => h)
 ·
  replace hc := of_decide_eq_false hc; refine WC_exit (WQ_then_exit (WQ_then_exit (WQ_hit (WQ_code (WC_seq (WC_region (WL_execK htb 3 ⟨[(33, (bB (!((s : ByteArray).toList == (⟨#[]⟩ : ByteArray).toList)))), (0, (tS s))], [], 0, [], []⟩ ?_))))))); refine WK_split 33 (!((s : ByteArray).toList == (⟨#[]⟩ : ByteArray).toList)) rfl (fun hz0 => ?_) (fun hz0 => ?_)
  ·
   rw [Bool.not_eq_true'] at hz0; replace hz0 := ne_of_beq_false hz0; refine WK_keep [33, 0] [] rfl rfl ?_; refine WL_execK htb 5 ⟨[(2, (bB (decide (((((s : ByteArray).size : Nat) : Int) : Int) ≤ 32))))], [], 0, [], []⟩ ?_; exact WL_nil (WQ_code (WC_ret (WQ_done htb [(bB (decide (((((s : ByteArray).size : Nat) : Int) : Int) ≤ 32)))] _ (.inl rfl) rfl (by kernel_rfl) (fun ρ w hW => ⟨(decide (((((s : ByteArray).size : Nat) : Int) : Int) ≤ 32)), rfl, isname_end hn (by omega) (by simpa using hz0)⟩))))
  ·
   rw [Bool.not_eq_false'] at hz0; replace hz0 := eq_of_beq hz0; refine WK_keep [33, 0] [] rfl rfl ?_; refine WL_execK htb 5 ⟨[(2, (bB false))], [], 0, [], []⟩ ?_; exact WL_nil (WQ_code (WC_ret (WQ_done htb [(bB false)] _ (.inl rfl) rfl (by kernel_rfl) (fun ρ w hW => ⟨false, rfl, isname_end0 (by simpa using hz0)⟩))))

end Go.Proofs.Ytfemkbockhpmcaa.Sym
