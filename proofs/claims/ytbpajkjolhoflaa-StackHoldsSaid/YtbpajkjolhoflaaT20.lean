/- Walks of functions that the laws of this seat reach, printed by a program of this session's. -/
import Derived.Test.YtbpajkjolhoflaaT19
import Derived.Test.YtbpajkjolhoflaaSymI
import Derived.Laws.Strings
import Derived.WideShapes
set_option linter.unusedSimpArgs false
set_option linter.unusedVariables false
set_option maxHeartbeats 4000000
namespace Go.Proofs.Ytbpajkjolhoflaa.Sym
open Go Go.Proofs Go.RowKit

def OkC (i c : Nat) : Prop := (97 ≤ c ∧ c ≤ 122) ∨ (65 ≤ c ∧ c ≤ 90) ∨ c = 95 ∨ (0 < i ∧ 48 ≤ c ∧ c ≤ 57)
instance (i c : Nat) : Decidable (OkC i c) := by unfold OkC; infer_instance
def IsNameP (s : ByteArray) : Prop := 1 ≤ s.size ∧ s.size ≤ 32 ∧ ∀ j, j < s.size → OkC j (s.data.toList[j]?.getD 0).toNat
instance (s : ByteArray) : Decidable (IsNameP s) := by unfold IsNameP; infer_instance
theorem okc_step {p : Nat → Nat → Prop} {f : Nat → Nat} {i : Nat} (hn : ∀ j, j < i → p j (f j)) (h : p i (f i)) : ∀ j, j < i + 1 → p j (f j) := fun j hj => by
  by_cases e : j = i
  · subst e; exact h
  · exact hn j (by omega)
theorem isName_ok {w : World} {G : Heap} (hG : Has w G) {s : ByteArray} (h_s : s.size ≤ big) :
    Calls Try.prog 67 #[(.string s)] w (Ret w G fun v G' => ∃ (b : Bool), v = .bool b ∧ (b = decide (IsNameP s))) := by
  refine enter [(tS s)] 55 Try.func67 rfl rfl rfl rfl hG ?_
  refine WC_seq (WC_region ?_)
  refine WL_execS htb 1 [0] [] ⟨[(0, (tS s))], [], 0, [], []⟩ (by kernel_rfl) ?_
  refine WL_nil ?_
  refine WQ_code ?_
  refine WC_seq ?_
  refine WC_seq (WC_region ?_)
  refine WL_execS htb 4 [9, 0] [] ⟨[(9, (bB (decide (((((s : ByteArray).size : Nat) : Int) : Int) < 1)))), (0, (tS s))], [], 0, [], []⟩ (by kernel_rfl) ?_
  refine WK_split 9 (decide (((((s : ByteArray).size : Nat) : Int) : Int) < 1)) rfl (fun hb0 => ?_) (fun hb0 => ?_)
  · replace hb0 := of_decide_eq_true hb0
    refine WK_keep [9, 0] [] rfl rfl ?_
    refine WL_execS htb 4 [13, 0] [] ⟨[(13, (bB true)), (0, (tS s))], [], 0, [], []⟩ (by kernel_rfl) ?_
    refine WL_nil ?_
    refine WQ_code ?_
    refine WC_cond (b := true) rfl (fun _ => ?_) (fun h => by cases h)
    refine WC_seq (WC_region ?_)
    refine WL_execS htb 1 [2] [] ⟨[(2, (bB false))], [], 0, [], []⟩ (by kernel_rfl) ?_
    refine WL_nil ?_
    refine WQ_code ?_
    refine WC_ret ?_
    refine WQ_then_ret ?_
    exact WQ_done htb [(bB false)] _ (.inl rfl) rfl (by kernel_rfl) (fun ρ w hW => ⟨false, rfl, (decide_eq_false (fun h => by have := h.1; omega)).symm⟩)
  · replace hb0 := of_decide_eq_false hb0
    refine WK_keep [9, 0] [] rfl rfl ?_
    refine WL_execS htb 4 [13, 0] [] ⟨[(13, (bB (decide (((((s : ByteArray).size : Nat) : Int) : Int) > 32)))), (0, (tS s))], [], 0, [], []⟩ (by kernel_rfl) ?_
    refine WL_nil ?_
    refine WQ_code ?_
    refine WC_cond (b := (decide (((((s : ByteArray).size : Nat) : Int) : Int) > 32))) rfl (fun hb1 => ?_) (fun hb1 => ?_)
    · replace hb1 := of_decide_eq_true hb1
      refine WC_seq (WC_region ?_)
      refine WL_execS htb 1 [2] [] ⟨[(2, (bB false))], [], 0, [], []⟩ (by kernel_rfl) ?_
      refine WL_nil ?_
      refine WQ_code ?_
      refine WC_ret ?_
      refine WQ_then_ret ?_
      exact WQ_done htb [(bB false)] _ (.inl rfl) rfl (by kernel_rfl) (fun ρ w hW => ⟨false, rfl, (decide_eq_false (fun h => by have := h.2.1; omega)).symm⟩)
    · replace hb1 := of_decide_eq_false hb1
      refine WC_skip ?_
      refine WQ_code ?_
      refine WC_seq ?_
      refine WC_seq (WC_region ?_)
      refine WL_execS htb 1 [3, 0] [] ⟨[(3, (iI 0)), (0, (tS s))], [], 0, [], []⟩ (by kernel_rfl) ?_
      refine WL_nil ?_
      refine WQ_code ?_
      refine WC_block ?_
      refine WK_keep [3, 0] [] rfl rfl ?_
      refine WK_env [(3, (iN 0)), (0, (tS s))] (fun ρ => ⟨rfl, rfl, ⟨rfl, rfl, trivial⟩⟩) ?_
      refine WC_loop (ι := Nat) (fun i G1 => Le G G1 ∧ (i ≤ s.size ∧ ∀ j, j < i → OkC j (s.data.toList[j]?.getD 0).toNat)) (fun i => ⟨[(3, (iN i)), (0, (tS s))], [], 0, [], []⟩) (fun i => s.size - i) (0) ⟨Le.refl _, ⟨Nat.zero_le _, fun j h => absurd h (Nat.not_lt_zero j)⟩⟩ rfl ?_
      rintro i G1 ⟨hle, hF⟩
      show WC _ _ _ _ _ ⟨[(3, (iN i)), (0, (tS s))], [], 0, [], []⟩ _
      have hc2 := hle
      obtain ⟨hi, hn⟩ := hF
      have hbig : s.size ≤ 9223372036854775807 := h_s
      refine WC_seq ?_
      refine WC_seq (WC_region ?_)
      refine WL_execS htb 4 [17, 3, 0] [] ⟨[(17, (bB (decide ((((i : Nat) : Int) : Int) < (((s : ByteArray).size : Nat) : Int))))), (3, (iN i)), (0, (tS s))], [], 0, [], []⟩ (by kernel_rfl) ?_
      refine WL_nil ?_
      refine WQ_code ?_
      refine WC_cond (b := (decide ((((i : Nat) : Int) : Int) < (((s : ByteArray).size : Nat) : Int)))) rfl (fun hc => ?_) (fun hc => ?_)
      · replace hc := of_decide_eq_true hc
        refine WC_skip ?_
        refine WQ_code ?_
        refine WC_seq ?_
        refine WC_block ?_
        refine WC_seq (WC_region ?_)
        refine WL_execS htb 2 [21, 20, 3, 0] [] ⟨[(21, (iN i)), (20, (tS s)), (3, (iN i)), (0, (tS s))], [], 0, [], []⟩ (by kernel_rfl) ?_
        refine WL_op (WOp_ix htb s ((i : Nat) : Int) (by kernel_rfl) (by omega) (by omega) ?_)
        refine WL_execS htb 1 [4, 3, 0] [] ⟨[(4, (.v (.int .u8 (((s.data.toList[i]?.getD 0).toNat : Nat) : Int)))), (3, (iN i)), (0, (tS s))], [], 0, [], []⟩ (by kernel_rfl) ?_
        refine WL_nil ?_
        refine WQ_code ?_
        refine WC_seq (WC_region ?_)
        refine WL_execS htb 3 [25, 4, 3, 0] [] ⟨[(25, (bB (decide (((((s.data.toList[i]?.getD 0).toNat : Nat) : Int) : Int) ≥ 97)))), (4, (.v (.int .u8 (((s.data.toList[i]?.getD 0).toNat : Nat) : Int)))), (3, (iN i)), (0, (tS s))], [], 0, [], []⟩ (by kernel_rfl) ?_
        refine WK_split 25 (decide (((((s.data.toList[i]?.getD 0).toNat : Nat) : Int) : Int) ≥ 97)) rfl (fun hq0 => ?_) (fun hq0 => ?_)
        · replace hq0 := of_decide_eq_true hq0
          refine WK_keep [25, 4, 3, 0] [] rfl rfl ?_
          refine WL_execS htb 4 [29, 4, 3, 0] [] ⟨[(29, (bB (decide (((((s.data.toList[i]?.getD 0).toNat : Nat) : Int) : Int) ≤ 122)))), (4, (.v (.int .u8 (((s.data.toList[i]?.getD 0).toNat : Nat) : Int)))), (3, (iN i)), (0, (tS s))], [], 0, [], []⟩ (by kernel_rfl) ?_
          refine WK_split 29 (decide (((((s.data.toList[i]?.getD 0).toNat : Nat) : Int) : Int) ≤ 122)) rfl (fun hq1 => ?_) (fun hq1 => ?_)
          · replace hq1 := of_decide_eq_true hq1
            refine WK_keep [29, 4, 3, 0] [] rfl rfl ?_
            refine WL_execS htb 12 [5, 4, 3, 0] [] ⟨[(5, (bB true)), (4, (.v (.int .u8 (((s.data.toList[i]?.getD 0).toNat : Nat) : Int)))), (3, (iN i)), (0, (tS s))], [], 0, [], []⟩ (by kernel_rfl) ?_
            refine WL_nil ?_
            refine WQ_code ?_
            refine WC_seq (WC_region ?_)
            refine WL_execS htb 14 [54, 3, 0] [] ⟨[(54, (bB false)), (3, (iN i)), (0, (tS s))], [], 0, [], []⟩ (by kernel_rfl) ?_
            refine WL_nil ?_
            refine WQ_code ?_
            refine WC_cond (b := false) rfl (fun h => by cases h) (fun _ => ?_)
            refine WC_skip ?_
            refine WQ_blk ?_
            refine WQ_code ?_
            refine WC_region ?_
            refine WL_execS htb 3 [3, 0] [] ⟨[(3, (iI (IntKind.i64.wrap (((i : Nat) : Int) + 1)))), (0, (tS s))], [], 0, [], []⟩ (by kernel_rfl) ?_
            refine WL_nil ?_
            refine WK_env [(3, (iN (i + 1))), (0, (tS s))] (fun ρ => ⟨rfl, (congrArg (Value.int .i64) (by rw [wrap_id (by omega)]; first | rfl | omega)), ⟨rfl, rfl, trivial⟩⟩) ?_
            refine WK_keep [3, 0] [] rfl rfl ?_
            exact WQ_next ((i + 1)) (by show s.size - (i + 1) < s.size - i; omega) ⟨hc2, ⟨by omega, okc_step hn (by unfold OkC; omega)⟩⟩ (fun ρ a w h => h)
          · replace hq1 := of_decide_eq_false hq1
            refine WK_keep [29, 4, 3, 0] [] rfl rfl ?_
            refine WL_execS htb 3 [32, 29, 4, 3, 0] [] ⟨[(32, (bB (decide (((((s.data.toList[i]?.getD 0).toNat : Nat) : Int) : Int) ≥ 65)))), (29, (bB false)), (4, (.v (.int .u8 (((s.data.toList[i]?.getD 0).toNat : Nat) : Int)))), (3, (iN i)), (0, (tS s))], [], 0, [], []⟩ (by kernel_rfl) ?_
            refine WK_split 32 (decide (((((s.data.toList[i]?.getD 0).toNat : Nat) : Int) : Int) ≥ 65)) rfl (fun hq2 => ?_) (fun hq2 => ?_)
            · replace hq2 := of_decide_eq_true hq2
              refine WK_keep [32, 29, 4, 3, 0] [] rfl rfl ?_
              refine WL_execS htb 5 [37, 4, 3, 0] [] ⟨[(37, (bB (decide (((((s.data.toList[i]?.getD 0).toNat : Nat) : Int) : Int) ≤ 90)))), (4, (.v (.int .u8 (((s.data.toList[i]?.getD 0).toNat : Nat) : Int)))), (3, (iN i)), (0, (tS s))], [], 0, [], []⟩ (by kernel_rfl) ?_
              refine WK_split 37 (decide (((((s.data.toList[i]?.getD 0).toNat : Nat) : Int) : Int) ≤ 90)) rfl (fun hq3 => ?_) (fun hq3 => ?_)
              · replace hq3 := of_decide_eq_true hq3
                refine WK_keep [37, 4, 3, 0] [] rfl rfl ?_
                refine WL_execS htb 4 [5, 4, 3, 0] [] ⟨[(5, (bB true)), (4, (.v (.int .u8 (((s.data.toList[i]?.getD 0).toNat : Nat) : Int)))), (3, (iN i)), (0, (tS s))], [], 0, [], []⟩ (by kernel_rfl) ?_
                refine WL_nil ?_
                refine WQ_code ?_
                refine WC_seq (WC_region ?_)
                refine WL_execS htb 14 [54, 3, 0] [] ⟨[(54, (bB false)), (3, (iN i)), (0, (tS s))], [], 0, [], []⟩ (by kernel_rfl) ?_
                refine WL_nil ?_
                refine WQ_code ?_
                refine WC_cond (b := false) rfl (fun h => by cases h) (fun _ => ?_)
                refine WC_skip ?_
                refine WQ_blk ?_
                refine WQ_code ?_
                refine WC_region ?_
                refine WL_execS htb 3 [3, 0] [] ⟨[(3, (iI (IntKind.i64.wrap (((i : Nat) : Int) + 1)))), (0, (tS s))], [], 0, [], []⟩ (by kernel_rfl) ?_
                refine WL_nil ?_
                refine WK_env [(3, (iN (i + 1))), (0, (tS s))] (fun ρ => ⟨rfl, (congrArg (Value.int .i64) (by rw [wrap_id (by omega)]; first | rfl | omega)), ⟨rfl, rfl, trivial⟩⟩) ?_
                refine WK_keep [3, 0] [] rfl rfl ?_
                exact WQ_next ((i + 1)) (by show s.size - (i + 1) < s.size - i; omega) ⟨hc2, ⟨by omega, okc_step hn (by unfold OkC; omega)⟩⟩ (fun ρ a w h => h)
              · replace hq3 := of_decide_eq_false hq3
                refine WK_keep [37, 4, 3, 0] [] rfl rfl ?_
                refine WL_execS htb 4 [5, 4, 3, 0] [] ⟨[(5, (bB (((((s.data.toList[i]?.getD 0).toNat : Nat) : Int) : Int) == 95))), (4, (.v (.int .u8 (((s.data.toList[i]?.getD 0).toNat : Nat) : Int)))), (3, (iN i)), (0, (tS s))], [], 0, [], []⟩ (by kernel_rfl) ?_
                refine WL_nil ?_
                refine WQ_code ?_
                refine WC_seq (WC_region ?_)
                refine WL_execS htb 3 [43, 4, 3, 0] [] ⟨[(43, (bB (!(((((s.data.toList[i]?.getD 0).toNat : Nat) : Int) : Int) == 95)))), (4, (.v (.int .u8 (((s.data.toList[i]?.getD 0).toNat : Nat) : Int)))), (3, (iN i)), (0, (tS s))], [], 0, [], []⟩ (by kernel_rfl) ?_
                refine WK_split 43 (!(((((s.data.toList[i]?.getD 0).toNat : Nat) : Int) : Int) == 95)) rfl (fun hq4 => ?_) (fun hq4 => ?_)
                · rw [Bool.not_eq_true'] at hq4
                  replace hq4 := ne_of_beq_false hq4
                  refine WK_keep [43, 4, 3, 0] [] rfl rfl ?_
                  refine WL_execS htb 3 [46, 43, 4, 3, 0] [] ⟨[(46, (bB ((((i : Nat) : Int) : Int) == 0))), (43, (bB true)), (4, (.v (.int .u8 (((s.data.toList[i]?.getD 0).toNat : Nat) : Int)))), (3, (iN i)), (0, (tS s))], [], 0, [], []⟩ (by kernel_rfl) ?_
                  refine WK_split 46 ((((i : Nat) : Int) : Int) == 0) rfl (fun hq5 => ?_) (fun hq5 => ?_)
                  · replace hq5 := eq_of_beq hq5
                    refine WK_keep [46, 43, 4, 3, 0] [] rfl rfl ?_
                    refine WL_execS htb 8 [54, 3, 0] [] ⟨[(54, (bB true)), (3, (iN i)), (0, (tS s))], [], 0, [], []⟩ (by kernel_rfl) ?_
                    refine WL_nil ?_
                    refine WQ_code ?_
                    refine WC_cond (b := true) rfl (fun _ => ?_) (fun h => by cases h)
                    refine WC_seq (WC_region ?_)
                    refine WL_execS htb 1 [2] [] ⟨[(2, (bB false))], [], 0, [], []⟩ (by kernel_rfl) ?_
                    refine WL_nil ?_
                    refine WQ_code ?_
                    refine WC_ret ?_
                    refine WQ_blk_ret ?_
                    refine WQ_then_ret ?_
                    refine WQ_then_ret ?_
                    refine WQ_blk_ret ?_
                    refine WQ_then_ret ?_
                    exact WQ_done htb [(bB false)] _ (.inl rfl) rfl (by kernel_rfl) (fun ρ w hW => ⟨false, rfl, (decide_eq_false (fun h => by have := h.2.2 i (by omega); unfold OkC at this; omega)).symm⟩)
                  · replace hq5 := ne_of_beq_false hq5
                    refine WK_keep [46, 43, 4, 3, 0] [] rfl rfl ?_
                    refine WL_execS htb 4 [50, 43, 4, 3, 0] [] ⟨[(50, (bB (decide (((((s.data.toList[i]?.getD 0).toNat : Nat) : Int) : Int) < 48)))), (43, (bB true)), (4, (.v (.int .u8 (((s.data.toList[i]?.getD 0).toNat : Nat) : Int)))), (3, (iN i)), (0, (tS s))], [], 0, [], []⟩ (by kernel_rfl) ?_
                    refine WK_split 50 (decide (((((s.data.toList[i]?.getD 0).toNat : Nat) : Int) : Int) < 48)) rfl (fun hq6 => ?_) (fun hq6 => ?_)
                    · replace hq6 := of_decide_eq_true hq6
                      refine WK_keep [50, 43, 4, 3, 0] [] rfl rfl ?_
                      refine WL_execS htb 4 [54, 3, 0] [] ⟨[(54, (bB true)), (3, (iN i)), (0, (tS s))], [], 0, [], []⟩ (by kernel_rfl) ?_
                      refine WL_nil ?_
                      refine WQ_code ?_
                      refine WC_cond (b := true) rfl (fun _ => ?_) (fun h => by cases h)
                      refine WC_seq (WC_region ?_)
                      refine WL_execS htb 1 [2] [] ⟨[(2, (bB false))], [], 0, [], []⟩ (by kernel_rfl) ?_
                      refine WL_nil ?_
                      refine WQ_code ?_
                      refine WC_ret ?_
                      refine WQ_blk_ret ?_
                      refine WQ_then_ret ?_
                      refine WQ_then_ret ?_
                      refine WQ_blk_ret ?_
                      refine WQ_then_ret ?_
                      exact WQ_done htb [(bB false)] _ (.inl rfl) rfl (by kernel_rfl) (fun ρ w hW => ⟨false, rfl, (decide_eq_false (fun h => by have := h.2.2 i (by omega); unfold OkC at this; omega)).symm⟩)
                    · replace hq6 := of_decide_eq_false hq6
                      refine WK_keep [50, 43, 4, 3, 0] [] rfl rfl ?_
                      refine WL_execS htb 4 [54, 3, 0] [] ⟨[(54, (bB (decide (((((s.data.toList[i]?.getD 0).toNat : Nat) : Int) : Int) > 57)))), (3, (iN i)), (0, (tS s))], [], 0, [], []⟩ (by kernel_rfl) ?_
                      refine WL_nil ?_
                      refine WQ_code ?_
                      refine WC_cond (b := (decide (((((s.data.toList[i]?.getD 0).toNat : Nat) : Int) : Int) > 57))) rfl (fun hq7 => ?_) (fun hq7 => ?_)
                      · replace hq7 := of_decide_eq_true hq7
                        refine WC_seq (WC_region ?_)
                        refine WL_execS htb 1 [2] [] ⟨[(2, (bB false))], [], 0, [], []⟩ (by kernel_rfl) ?_
                        refine WL_nil ?_
                        refine WQ_code ?_
                        refine WC_ret ?_
                        refine WQ_blk_ret ?_
                        refine WQ_then_ret ?_
                        refine WQ_then_ret ?_
                        refine WQ_blk_ret ?_
                        refine WQ_then_ret ?_
                        exact WQ_done htb [(bB false)] _ (.inl rfl) rfl (by kernel_rfl) (fun ρ w hW => ⟨false, rfl, (decide_eq_false (fun h => by have := h.2.2 i (by omega); unfold OkC at this; omega)).symm⟩)
                      · replace hq7 := of_decide_eq_false hq7
                        refine WC_skip ?_
                        refine WQ_blk ?_
                        refine WQ_code ?_
                        refine WC_region ?_
                        refine WL_execS htb 3 [3, 0] [] ⟨[(3, (iI (IntKind.i64.wrap (((i : Nat) : Int) + 1)))), (0, (tS s))], [], 0, [], []⟩ (by kernel_rfl) ?_
                        refine WL_nil ?_
                        refine WK_env [(3, (iN (i + 1))), (0, (tS s))] (fun ρ => ⟨rfl, (congrArg (Value.int .i64) (by rw [wrap_id (by omega)]; first | rfl | omega)), ⟨rfl, rfl, trivial⟩⟩) ?_
                        refine WK_keep [3, 0] [] rfl rfl ?_
                        exact WQ_next ((i + 1)) (by show s.size - (i + 1) < s.size - i; omega) ⟨hc2, ⟨by omega, okc_step hn (by unfold OkC; omega)⟩⟩ (fun ρ a w h => h)
                · rw [Bool.not_eq_false'] at hq4
                  replace hq4 := eq_of_beq hq4
                  refine WK_keep [43, 4, 3, 0] [] rfl rfl ?_
                  refine WL_execS htb 11 [54, 3, 0] [] ⟨[(54, (bB false)), (3, (iN i)), (0, (tS s))], [], 0, [], []⟩ (by kernel_rfl) ?_
                  refine WL_nil ?_
                  refine WQ_code ?_
                  refine WC_cond (b := false) rfl (fun h => by cases h) (fun _ => ?_)
                  refine WC_skip ?_
                  refine WQ_blk ?_
                  refine WQ_code ?_
                  refine WC_region ?_
                  refine WL_execS htb 3 [3, 0] [] ⟨[(3, (iI (IntKind.i64.wrap (((i : Nat) : Int) + 1)))), (0, (tS s))], [], 0, [], []⟩ (by kernel_rfl) ?_
                  refine WL_nil ?_
                  refine WK_env [(3, (iN (i + 1))), (0, (tS s))] (fun ρ => ⟨rfl, (congrArg (Value.int .i64) (by rw [wrap_id (by omega)]; first | rfl | omega)), ⟨rfl, rfl, trivial⟩⟩) ?_
                  refine WK_keep [3, 0] [] rfl rfl ?_
                  exact WQ_next ((i + 1)) (by show s.size - (i + 1) < s.size - i; omega) ⟨hc2, ⟨by omega, okc_step hn (by unfold OkC; omega)⟩⟩ (fun ρ a w h => h)
            · replace hq2 := of_decide_eq_false hq2
              refine WK_keep [32, 29, 4, 3, 0] [] rfl rfl ?_
              refine WL_execS htb 9 [5, 4, 3, 0] [] ⟨[(5, (bB (((((s.data.toList[i]?.getD 0).toNat : Nat) : Int) : Int) == 95))), (4, (.v (.int .u8 (((s.data.toList[i]?.getD 0).toNat : Nat) : Int)))), (3, (iN i)), (0, (tS s))], [], 0, [], []⟩ (by kernel_rfl) ?_
              refine WL_nil ?_
              refine WQ_code ?_
              refine WC_seq (WC_region ?_)
              refine WL_execS htb 3 [43, 4, 3, 0] [] ⟨[(43, (bB (!(((((s.data.toList[i]?.getD 0).toNat : Nat) : Int) : Int) == 95)))), (4, (.v (.int .u8 (((s.data.toList[i]?.getD 0).toNat : Nat) : Int)))), (3, (iN i)), (0, (tS s))], [], 0, [], []⟩ (by kernel_rfl) ?_
              refine WK_split 43 (!(((((s.data.toList[i]?.getD 0).toNat : Nat) : Int) : Int) == 95)) rfl (fun hq3 => ?_) (fun hq3 => ?_)
              · rw [Bool.not_eq_true'] at hq3
                replace hq3 := ne_of_beq_false hq3
                refine WK_keep [43, 4, 3, 0] [] rfl rfl ?_
                refine WL_execS htb 3 [46, 43, 4, 3, 0] [] ⟨[(46, (bB ((((i : Nat) : Int) : Int) == 0))), (43, (bB true)), (4, (.v (.int .u8 (((s.data.toList[i]?.getD 0).toNat : Nat) : Int)))), (3, (iN i)), (0, (tS s))], [], 0, [], []⟩ (by kernel_rfl) ?_
                refine WK_split 46 ((((i : Nat) : Int) : Int) == 0) rfl (fun hq4 => ?_) (fun hq4 => ?_)
                · replace hq4 := eq_of_beq hq4
                  refine WK_keep [46, 43, 4, 3, 0] [] rfl rfl ?_
                  refine WL_execS htb 8 [54, 3, 0] [] ⟨[(54, (bB true)), (3, (iN i)), (0, (tS s))], [], 0, [], []⟩ (by kernel_rfl) ?_
                  refine WL_nil ?_
                  refine WQ_code ?_
                  refine WC_cond (b := true) rfl (fun _ => ?_) (fun h => by cases h)
                  refine WC_seq (WC_region ?_)
                  refine WL_execS htb 1 [2] [] ⟨[(2, (bB false))], [], 0, [], []⟩ (by kernel_rfl) ?_
                  refine WL_nil ?_
                  refine WQ_code ?_
                  refine WC_ret ?_
                  refine WQ_blk_ret ?_
                  refine WQ_then_ret ?_
                  refine WQ_then_ret ?_
                  refine WQ_blk_ret ?_
                  refine WQ_then_ret ?_
                  exact WQ_done htb [(bB false)] _ (.inl rfl) rfl (by kernel_rfl) (fun ρ w hW => ⟨false, rfl, (decide_eq_false (fun h => by have := h.2.2 i (by omega); unfold OkC at this; omega)).symm⟩)
                · replace hq4 := ne_of_beq_false hq4
                  refine WK_keep [46, 43, 4, 3, 0] [] rfl rfl ?_
                  refine WL_execS htb 4 [50, 43, 4, 3, 0] [] ⟨[(50, (bB (decide (((((s.data.toList[i]?.getD 0).toNat : Nat) : Int) : Int) < 48)))), (43, (bB true)), (4, (.v (.int .u8 (((s.data.toList[i]?.getD 0).toNat : Nat) : Int)))), (3, (iN i)), (0, (tS s))], [], 0, [], []⟩ (by kernel_rfl) ?_
                  refine WK_split 50 (decide (((((s.data.toList[i]?.getD 0).toNat : Nat) : Int) : Int) < 48)) rfl (fun hq5 => ?_) (fun hq5 => ?_)
                  · replace hq5 := of_decide_eq_true hq5
                    refine WK_keep [50, 43, 4, 3, 0] [] rfl rfl ?_
                    refine WL_execS htb 4 [54, 3, 0] [] ⟨[(54, (bB true)), (3, (iN i)), (0, (tS s))], [], 0, [], []⟩ (by kernel_rfl) ?_
                    refine WL_nil ?_
                    refine WQ_code ?_
                    refine WC_cond (b := true) rfl (fun _ => ?_) (fun h => by cases h)
                    refine WC_seq (WC_region ?_)
                    refine WL_execS htb 1 [2] [] ⟨[(2, (bB false))], [], 0, [], []⟩ (by kernel_rfl) ?_
                    refine WL_nil ?_
                    refine WQ_code ?_
                    refine WC_ret ?_
                    refine WQ_blk_ret ?_
                    refine WQ_then_ret ?_
                    refine WQ_then_ret ?_
                    refine WQ_blk_ret ?_
                    refine WQ_then_ret ?_
                    exact WQ_done htb [(bB false)] _ (.inl rfl) rfl (by kernel_rfl) (fun ρ w hW => ⟨false, rfl, (decide_eq_false (fun h => by have := h.2.2 i (by omega); unfold OkC at this; omega)).symm⟩)
                  · replace hq5 := of_decide_eq_false hq5
                    refine WK_keep [50, 43, 4, 3, 0] [] rfl rfl ?_
                    refine WL_execS htb 4 [54, 3, 0] [] ⟨[(54, (bB (decide (((((s.data.toList[i]?.getD 0).toNat : Nat) : Int) : Int) > 57)))), (3, (iN i)), (0, (tS s))], [], 0, [], []⟩ (by kernel_rfl) ?_
                    refine WL_nil ?_
                    refine WQ_code ?_
                    refine WC_cond (b := (decide (((((s.data.toList[i]?.getD 0).toNat : Nat) : Int) : Int) > 57))) rfl (fun hq6 => ?_) (fun hq6 => ?_)
                    · replace hq6 := of_decide_eq_true hq6
                      refine WC_seq (WC_region ?_)
                      refine WL_execS htb 1 [2] [] ⟨[(2, (bB false))], [], 0, [], []⟩ (by kernel_rfl) ?_
                      refine WL_nil ?_
                      refine WQ_code ?_
                      refine WC_ret ?_
                      refine WQ_blk_ret ?_
                      refine WQ_then_ret ?_
                      refine WQ_then_ret ?_
                      refine WQ_blk_ret ?_
                      refine WQ_then_ret ?_
                      exact WQ_done htb [(bB false)] _ (.inl rfl) rfl (by kernel_rfl) (fun ρ w hW => ⟨false, rfl, (decide_eq_false (fun h => by have := h.2.2 i (by omega); unfold OkC at this; omega)).symm⟩)
                    · replace hq6 := of_decide_eq_false hq6
                      refine WC_skip ?_
                      refine WQ_blk ?_
                      refine WQ_code ?_
                      refine WC_region ?_
                      refine WL_execS htb 3 [3, 0] [] ⟨[(3, (iI (IntKind.i64.wrap (((i : Nat) : Int) + 1)))), (0, (tS s))], [], 0, [], []⟩ (by kernel_rfl) ?_
                      refine WL_nil ?_
                      refine WK_env [(3, (iN (i + 1))), (0, (tS s))] (fun ρ => ⟨rfl, (congrArg (Value.int .i64) (by rw [wrap_id (by omega)]; first | rfl | omega)), ⟨rfl, rfl, trivial⟩⟩) ?_
                      refine WK_keep [3, 0] [] rfl rfl ?_
                      exact WQ_next ((i + 1)) (by show s.size - (i + 1) < s.size - i; omega) ⟨hc2, ⟨by omega, okc_step hn (by unfold OkC; omega)⟩⟩ (fun ρ a w h => h)
              · rw [Bool.not_eq_false'] at hq3
                replace hq3 := eq_of_beq hq3
                refine WK_keep [43, 4, 3, 0] [] rfl rfl ?_
                refine WL_execS htb 11 [54, 3, 0] [] ⟨[(54, (bB false)), (3, (iN i)), (0, (tS s))], [], 0, [], []⟩ (by kernel_rfl) ?_
                refine WL_nil ?_
                refine WQ_code ?_
                refine WC_cond (b := false) rfl (fun h => by cases h) (fun _ => ?_)
                refine WC_skip ?_
                refine WQ_blk ?_
                refine WQ_code ?_
                refine WC_region ?_
                refine WL_execS htb 3 [3, 0] [] ⟨[(3, (iI (IntKind.i64.wrap (((i : Nat) : Int) + 1)))), (0, (tS s))], [], 0, [], []⟩ (by kernel_rfl) ?_
                refine WL_nil ?_
                refine WK_env [(3, (iN (i + 1))), (0, (tS s))] (fun ρ => ⟨rfl, (congrArg (Value.int .i64) (by rw [wrap_id (by omega)]; first | rfl | omega)), ⟨rfl, rfl, trivial⟩⟩) ?_
                refine WK_keep [3, 0] [] rfl rfl ?_
                exact WQ_next ((i + 1)) (by show s.size - (i + 1) < s.size - i; omega) ⟨hc2, ⟨by omega, okc_step hn (by unfold OkC; omega)⟩⟩ (fun ρ a w h => h)
        · replace hq0 := of_decide_eq_false hq0
          refine WK_keep [25, 4, 3, 0] [] rfl rfl ?_
          refine WL_execS htb 7 [32, 29, 4, 3, 0] [] ⟨[(32, (bB (decide (((((s.data.toList[i]?.getD 0).toNat : Nat) : Int) : Int) ≥ 65)))), (29, (bB false)), (4, (.v (.int .u8 (((s.data.toList[i]?.getD 0).toNat : Nat) : Int)))), (3, (iN i)), (0, (tS s))], [], 0, [], []⟩ (by kernel_rfl) ?_
          refine WK_split 32 (decide (((((s.data.toList[i]?.getD 0).toNat : Nat) : Int) : Int) ≥ 65)) rfl (fun hq1 => ?_) (fun hq1 => ?_)
          · replace hq1 := of_decide_eq_true hq1
            refine WK_keep [32, 29, 4, 3, 0] [] rfl rfl ?_
            refine WL_execS htb 5 [37, 4, 3, 0] [] ⟨[(37, (bB (decide (((((s.data.toList[i]?.getD 0).toNat : Nat) : Int) : Int) ≤ 90)))), (4, (.v (.int .u8 (((s.data.toList[i]?.getD 0).toNat : Nat) : Int)))), (3, (iN i)), (0, (tS s))], [], 0, [], []⟩ (by kernel_rfl) ?_
            refine WK_split 37 (decide (((((s.data.toList[i]?.getD 0).toNat : Nat) : Int) : Int) ≤ 90)) rfl (fun hq2 => ?_) (fun hq2 => ?_)
            · replace hq2 := of_decide_eq_true hq2
              refine WK_keep [37, 4, 3, 0] [] rfl rfl ?_
              refine WL_execS htb 4 [5, 4, 3, 0] [] ⟨[(5, (bB true)), (4, (.v (.int .u8 (((s.data.toList[i]?.getD 0).toNat : Nat) : Int)))), (3, (iN i)), (0, (tS s))], [], 0, [], []⟩ (by kernel_rfl) ?_
              refine WL_nil ?_
              refine WQ_code ?_
              refine WC_seq (WC_region ?_)
              refine WL_execS htb 14 [54, 3, 0] [] ⟨[(54, (bB false)), (3, (iN i)), (0, (tS s))], [], 0, [], []⟩ (by kernel_rfl) ?_
              refine WL_nil ?_
              refine WQ_code ?_
              refine WC_cond (b := false) rfl (fun h => by cases h) (fun _ => ?_)
              refine WC_skip ?_
              refine WQ_blk ?_
              refine WQ_code ?_
              refine WC_region ?_
              refine WL_execS htb 3 [3, 0] [] ⟨[(3, (iI (IntKind.i64.wrap (((i : Nat) : Int) + 1)))), (0, (tS s))], [], 0, [], []⟩ (by kernel_rfl) ?_
              refine WL_nil ?_
              refine WK_env [(3, (iN (i + 1))), (0, (tS s))] (fun ρ => ⟨rfl, (congrArg (Value.int .i64) (by rw [wrap_id (by omega)]; first | rfl | omega)), ⟨rfl, rfl, trivial⟩⟩) ?_
              refine WK_keep [3, 0] [] rfl rfl ?_
              exact WQ_next ((i + 1)) (by show s.size - (i + 1) < s.size - i; omega) ⟨hc2, ⟨by omega, okc_step hn (by unfold OkC; omega)⟩⟩ (fun ρ a w h => h)
            · replace hq2 := of_decide_eq_false hq2
              refine WK_keep [37, 4, 3, 0] [] rfl rfl ?_
              refine WL_execS htb 4 [5, 4, 3, 0] [] ⟨[(5, (bB (((((s.data.toList[i]?.getD 0).toNat : Nat) : Int) : Int) == 95))), (4, (.v (.int .u8 (((s.data.toList[i]?.getD 0).toNat : Nat) : Int)))), (3, (iN i)), (0, (tS s))], [], 0, [], []⟩ (by kernel_rfl) ?_
              refine WL_nil ?_
              refine WQ_code ?_
              refine WC_seq (WC_region ?_)
              refine WL_execS htb 3 [43, 4, 3, 0] [] ⟨[(43, (bB (!(((((s.data.toList[i]?.getD 0).toNat : Nat) : Int) : Int) == 95)))), (4, (.v (.int .u8 (((s.data.toList[i]?.getD 0).toNat : Nat) : Int)))), (3, (iN i)), (0, (tS s))], [], 0, [], []⟩ (by kernel_rfl) ?_
              refine WK_split 43 (!(((((s.data.toList[i]?.getD 0).toNat : Nat) : Int) : Int) == 95)) rfl (fun hq3 => ?_) (fun hq3 => ?_)
              · rw [Bool.not_eq_true'] at hq3
                replace hq3 := ne_of_beq_false hq3
                refine WK_keep [43, 4, 3, 0] [] rfl rfl ?_
                refine WL_execS htb 3 [46, 43, 4, 3, 0] [] ⟨[(46, (bB ((((i : Nat) : Int) : Int) == 0))), (43, (bB true)), (4, (.v (.int .u8 (((s.data.toList[i]?.getD 0).toNat : Nat) : Int)))), (3, (iN i)), (0, (tS s))], [], 0, [], []⟩ (by kernel_rfl) ?_
                refine WK_split 46 ((((i : Nat) : Int) : Int) == 0) rfl (fun hq4 => ?_) (fun hq4 => ?_)
                · replace hq4 := eq_of_beq hq4
                  refine WK_keep [46, 43, 4, 3, 0] [] rfl rfl ?_
                  refine WL_execS htb 8 [54, 3, 0] [] ⟨[(54, (bB true)), (3, (iN i)), (0, (tS s))], [], 0, [], []⟩ (by kernel_rfl) ?_
                  refine WL_nil ?_
                  refine WQ_code ?_
                  refine WC_cond (b := true) rfl (fun _ => ?_) (fun h => by cases h)
                  refine WC_seq (WC_region ?_)
                  refine WL_execS htb 1 [2] [] ⟨[(2, (bB false))], [], 0, [], []⟩ (by kernel_rfl) ?_
                  refine WL_nil ?_
                  refine WQ_code ?_
                  refine WC_ret ?_
                  refine WQ_blk_ret ?_
                  refine WQ_then_ret ?_
                  refine WQ_then_ret ?_
                  refine WQ_blk_ret ?_
                  refine WQ_then_ret ?_
                  exact WQ_done htb [(bB false)] _ (.inl rfl) rfl (by kernel_rfl) (fun ρ w hW => ⟨false, rfl, (decide_eq_false (fun h => by have := h.2.2 i (by omega); unfold OkC at this; omega)).symm⟩)
                · replace hq4 := ne_of_beq_false hq4
                  refine WK_keep [46, 43, 4, 3, 0] [] rfl rfl ?_
                  refine WL_execS htb 4 [50, 43, 4, 3, 0] [] ⟨[(50, (bB (decide (((((s.data.toList[i]?.getD 0).toNat : Nat) : Int) : Int) < 48)))), (43, (bB true)), (4, (.v (.int .u8 (((s.data.toList[i]?.getD 0).toNat : Nat) : Int)))), (3, (iN i)), (0, (tS s))], [], 0, [], []⟩ (by kernel_rfl) ?_
                  refine WK_split 50 (decide (((((s.data.toList[i]?.getD 0).toNat : Nat) : Int) : Int) < 48)) rfl (fun hq5 => ?_) (fun hq5 => ?_)
                  · replace hq5 := of_decide_eq_true hq5
                    refine WK_keep [50, 43, 4, 3, 0] [] rfl rfl ?_
                    refine WL_execS htb 4 [54, 3, 0] [] ⟨[(54, (bB true)), (3, (iN i)), (0, (tS s))], [], 0, [], []⟩ (by kernel_rfl) ?_
                    refine WL_nil ?_
                    refine WQ_code ?_
                    refine WC_cond (b := true) rfl (fun _ => ?_) (fun h => by cases h)
                    refine WC_seq (WC_region ?_)
                    refine WL_execS htb 1 [2] [] ⟨[(2, (bB false))], [], 0, [], []⟩ (by kernel_rfl) ?_
                    refine WL_nil ?_
                    refine WQ_code ?_
                    refine WC_ret ?_
                    refine WQ_blk_ret ?_
                    refine WQ_then_ret ?_
                    refine WQ_then_ret ?_
                    refine WQ_blk_ret ?_
                    refine WQ_then_ret ?_
                    exact WQ_done htb [(bB false)] _ (.inl rfl) rfl (by kernel_rfl) (fun ρ w hW => ⟨false, rfl, (decide_eq_false (fun h => by have := h.2.2 i (by omega); unfold OkC at this; omega)).symm⟩)
                  · replace hq5 := of_decide_eq_false hq5
                    refine WK_keep [50, 43, 4, 3, 0] [] rfl rfl ?_
                    refine WL_execS htb 4 [54, 3, 0] [] ⟨[(54, (bB (decide (((((s.data.toList[i]?.getD 0).toNat : Nat) : Int) : Int) > 57)))), (3, (iN i)), (0, (tS s))], [], 0, [], []⟩ (by kernel_rfl) ?_
                    refine WL_nil ?_
                    refine WQ_code ?_
                    refine WC_cond (b := (decide (((((s.data.toList[i]?.getD 0).toNat : Nat) : Int) : Int) > 57))) rfl (fun hq6 => ?_) (fun hq6 => ?_)
                    · replace hq6 := of_decide_eq_true hq6
                      refine WC_seq (WC_region ?_)
                      refine WL_execS htb 1 [2] [] ⟨[(2, (bB false))], [], 0, [], []⟩ (by kernel_rfl) ?_
                      refine WL_nil ?_
                      refine WQ_code ?_
                      refine WC_ret ?_
                      refine WQ_blk_ret ?_
                      refine WQ_then_ret ?_
                      refine WQ_then_ret ?_
                      refine WQ_blk_ret ?_
                      refine WQ_then_ret ?_
                      exact WQ_done htb [(bB false)] _ (.inl rfl) rfl (by kernel_rfl) (fun ρ w hW => ⟨false, rfl, (decide_eq_false (fun h => by have := h.2.2 i (by omega); unfold OkC at this; omega)).symm⟩)
                    · replace hq6 := of_decide_eq_false hq6
                      refine WC_skip ?_
                      refine WQ_blk ?_
                      refine WQ_code ?_
                      refine WC_region ?_
                      refine WL_execS htb 3 [3, 0] [] ⟨[(3, (iI (IntKind.i64.wrap (((i : Nat) : Int) + 1)))), (0, (tS s))], [], 0, [], []⟩ (by kernel_rfl) ?_
                      refine WL_nil ?_
                      refine WK_env [(3, (iN (i + 1))), (0, (tS s))] (fun ρ => ⟨rfl, (congrArg (Value.int .i64) (by rw [wrap_id (by omega)]; first | rfl | omega)), ⟨rfl, rfl, trivial⟩⟩) ?_
                      refine WK_keep [3, 0] [] rfl rfl ?_
                      exact WQ_next ((i + 1)) (by show s.size - (i + 1) < s.size - i; omega) ⟨hc2, ⟨by omega, okc_step hn (by unfold OkC; omega)⟩⟩ (fun ρ a w h => h)
              · rw [Bool.not_eq_false'] at hq3
                replace hq3 := eq_of_beq hq3
                refine WK_keep [43, 4, 3, 0] [] rfl rfl ?_
                refine WL_execS htb 11 [54, 3, 0] [] ⟨[(54, (bB false)), (3, (iN i)), (0, (tS s))], [], 0, [], []⟩ (by kernel_rfl) ?_
                refine WL_nil ?_
                refine WQ_code ?_
                refine WC_cond (b := false) rfl (fun h => by cases h) (fun _ => ?_)
                refine WC_skip ?_
                refine WQ_blk ?_
                refine WQ_code ?_
                refine WC_region ?_
                refine WL_execS htb 3 [3, 0] [] ⟨[(3, (iI (IntKind.i64.wrap (((i : Nat) : Int) + 1)))), (0, (tS s))], [], 0, [], []⟩ (by kernel_rfl) ?_
                refine WL_nil ?_
                refine WK_env [(3, (iN (i + 1))), (0, (tS s))] (fun ρ => ⟨rfl, (congrArg (Value.int .i64) (by rw [wrap_id (by omega)]; first | rfl | omega)), ⟨rfl, rfl, trivial⟩⟩) ?_
                refine WK_keep [3, 0] [] rfl rfl ?_
                exact WQ_next ((i + 1)) (by show s.size - (i + 1) < s.size - i; omega) ⟨hc2, ⟨by omega, okc_step hn (by unfold OkC; omega)⟩⟩ (fun ρ a w h => h)
          · replace hq1 := of_decide_eq_false hq1
            refine WK_keep [32, 29, 4, 3, 0] [] rfl rfl ?_
            refine WL_execS htb 9 [5, 4, 3, 0] [] ⟨[(5, (bB (((((s.data.toList[i]?.getD 0).toNat : Nat) : Int) : Int) == 95))), (4, (.v (.int .u8 (((s.data.toList[i]?.getD 0).toNat : Nat) : Int)))), (3, (iN i)), (0, (tS s))], [], 0, [], []⟩ (by kernel_rfl) ?_
            refine WL_nil ?_
            refine WQ_code ?_
            refine WC_seq (WC_region ?_)
            refine WL_execS htb 3 [43, 4, 3, 0] [] ⟨[(43, (bB (!(((((s.data.toList[i]?.getD 0).toNat : Nat) : Int) : Int) == 95)))), (4, (.v (.int .u8 (((s.data.toList[i]?.getD 0).toNat : Nat) : Int)))), (3, (iN i)), (0, (tS s))], [], 0, [], []⟩ (by kernel_rfl) ?_
            refine WK_split 43 (!(((((s.data.toList[i]?.getD 0).toNat : Nat) : Int) : Int) == 95)) rfl (fun hq2 => ?_) (fun hq2 => ?_)
            · rw [Bool.not_eq_true'] at hq2
              replace hq2 := ne_of_beq_false hq2
              refine WK_keep [43, 4, 3, 0] [] rfl rfl ?_
              refine WL_execS htb 3 [46, 43, 4, 3, 0] [] ⟨[(46, (bB ((((i : Nat) : Int) : Int) == 0))), (43, (bB true)), (4, (.v (.int .u8 (((s.data.toList[i]?.getD 0).toNat : Nat) : Int)))), (3, (iN i)), (0, (tS s))], [], 0, [], []⟩ (by kernel_rfl) ?_
              refine WK_split 46 ((((i : Nat) : Int) : Int) == 0) rfl (fun hq3 => ?_) (fun hq3 => ?_)
              · replace hq3 := eq_of_beq hq3
                refine WK_keep [46, 43, 4, 3, 0] [] rfl rfl ?_
                refine WL_execS htb 8 [54, 3, 0] [] ⟨[(54, (bB true)), (3, (iN i)), (0, (tS s))], [], 0, [], []⟩ (by kernel_rfl) ?_
                refine WL_nil ?_
                refine WQ_code ?_
                refine WC_cond (b := true) rfl (fun _ => ?_) (fun h => by cases h)
                refine WC_seq (WC_region ?_)
                refine WL_execS htb 1 [2] [] ⟨[(2, (bB false))], [], 0, [], []⟩ (by kernel_rfl) ?_
                refine WL_nil ?_
                refine WQ_code ?_
                refine WC_ret ?_
                refine WQ_blk_ret ?_
                refine WQ_then_ret ?_
                refine WQ_then_ret ?_
                refine WQ_blk_ret ?_
                refine WQ_then_ret ?_
                exact WQ_done htb [(bB false)] _ (.inl rfl) rfl (by kernel_rfl) (fun ρ w hW => ⟨false, rfl, (decide_eq_false (fun h => by have := h.2.2 i (by omega); unfold OkC at this; omega)).symm⟩)
              · replace hq3 := ne_of_beq_false hq3
                refine WK_keep [46, 43, 4, 3, 0] [] rfl rfl ?_
                refine WL_execS htb 4 [50, 43, 4, 3, 0] [] ⟨[(50, (bB (decide (((((s.data.toList[i]?.getD 0).toNat : Nat) : Int) : Int) < 48)))), (43, (bB true)), (4, (.v (.int .u8 (((s.data.toList[i]?.getD 0).toNat : Nat) : Int)))), (3, (iN i)), (0, (tS s))], [], 0, [], []⟩ (by kernel_rfl) ?_
                refine WK_split 50 (decide (((((s.data.toList[i]?.getD 0).toNat : Nat) : Int) : Int) < 48)) rfl (fun hq4 => ?_) (fun hq4 => ?_)
                · replace hq4 := of_decide_eq_true hq4
                  refine WK_keep [50, 43, 4, 3, 0] [] rfl rfl ?_
                  refine WL_execS htb 4 [54, 3, 0] [] ⟨[(54, (bB true)), (3, (iN i)), (0, (tS s))], [], 0, [], []⟩ (by kernel_rfl) ?_
                  refine WL_nil ?_
                  refine WQ_code ?_
                  refine WC_cond (b := true) rfl (fun _ => ?_) (fun h => by cases h)
                  refine WC_seq (WC_region ?_)
                  refine WL_execS htb 1 [2] [] ⟨[(2, (bB false))], [], 0, [], []⟩ (by kernel_rfl) ?_
                  refine WL_nil ?_
                  refine WQ_code ?_
                  refine WC_ret ?_
                  refine WQ_blk_ret ?_
                  refine WQ_then_ret ?_
                  refine WQ_then_ret ?_
                  refine WQ_blk_ret ?_
                  refine WQ_then_ret ?_
                  exact WQ_done htb [(bB false)] _ (.inl rfl) rfl (by kernel_rfl) (fun ρ w hW => ⟨false, rfl, (decide_eq_false (fun h => by have := h.2.2 i (by omega); unfold OkC at this; omega)).symm⟩)
                · replace hq4 := of_decide_eq_false hq4
                  refine WK_keep [50, 43, 4, 3, 0] [] rfl rfl ?_
                  refine WL_execS htb 4 [54, 3, 0] [] ⟨[(54, (bB (decide (((((s.data.toList[i]?.getD 0).toNat : Nat) : Int) : Int) > 57)))), (3, (iN i)), (0, (tS s))], [], 0, [], []⟩ (by kernel_rfl) ?_
                  refine WL_nil ?_
                  refine WQ_code ?_
                  refine WC_cond (b := (decide (((((s.data.toList[i]?.getD 0).toNat : Nat) : Int) : Int) > 57))) rfl (fun hq5 => ?_) (fun hq5 => ?_)
                  · replace hq5 := of_decide_eq_true hq5
                    refine WC_seq (WC_region ?_)
                    refine WL_execS htb 1 [2] [] ⟨[(2, (bB false))], [], 0, [], []⟩ (by kernel_rfl) ?_
                    refine WL_nil ?_
                    refine WQ_code ?_
                    refine WC_ret ?_
                    refine WQ_blk_ret ?_
                    refine WQ_then_ret ?_
                    refine WQ_then_ret ?_
                    refine WQ_blk_ret ?_
                    refine WQ_then_ret ?_
                    exact WQ_done htb [(bB false)] _ (.inl rfl) rfl (by kernel_rfl) (fun ρ w hW => ⟨false, rfl, (decide_eq_false (fun h => by have := h.2.2 i (by omega); unfold OkC at this; omega)).symm⟩)
                  · replace hq5 := of_decide_eq_false hq5
                    refine WC_skip ?_
                    refine WQ_blk ?_
                    refine WQ_code ?_
                    refine WC_region ?_
                    refine WL_execS htb 3 [3, 0] [] ⟨[(3, (iI (IntKind.i64.wrap (((i : Nat) : Int) + 1)))), (0, (tS s))], [], 0, [], []⟩ (by kernel_rfl) ?_
                    refine WL_nil ?_
                    refine WK_env [(3, (iN (i + 1))), (0, (tS s))] (fun ρ => ⟨rfl, (congrArg (Value.int .i64) (by rw [wrap_id (by omega)]; first | rfl | omega)), ⟨rfl, rfl, trivial⟩⟩) ?_
                    refine WK_keep [3, 0] [] rfl rfl ?_
                    exact WQ_next ((i + 1)) (by show s.size - (i + 1) < s.size - i; omega) ⟨hc2, ⟨by omega, okc_step hn (by unfold OkC; omega)⟩⟩ (fun ρ a w h => h)
            · rw [Bool.not_eq_false'] at hq2
              replace hq2 := eq_of_beq hq2
              refine WK_keep [43, 4, 3, 0] [] rfl rfl ?_
              refine WL_execS htb 11 [54, 3, 0] [] ⟨[(54, (bB false)), (3, (iN i)), (0, (tS s))], [], 0, [], []⟩ (by kernel_rfl) ?_
              refine WL_nil ?_
              refine WQ_code ?_
              refine WC_cond (b := false) rfl (fun h => by cases h) (fun _ => ?_)
              refine WC_skip ?_
              refine WQ_blk ?_
              refine WQ_code ?_
              refine WC_region ?_
              refine WL_execS htb 3 [3, 0] [] ⟨[(3, (iI (IntKind.i64.wrap (((i : Nat) : Int) + 1)))), (0, (tS s))], [], 0, [], []⟩ (by kernel_rfl) ?_
              refine WL_nil ?_
              refine WK_env [(3, (iN (i + 1))), (0, (tS s))] (fun ρ => ⟨rfl, (congrArg (Value.int .i64) (by rw [wrap_id (by omega)]; first | rfl | omega)), ⟨rfl, rfl, trivial⟩⟩) ?_
              refine WK_keep [3, 0] [] rfl rfl ?_
              exact WQ_next ((i + 1)) (by show s.size - (i + 1) < s.size - i; omega) ⟨hc2, ⟨by omega, okc_step hn (by unfold OkC; omega)⟩⟩ (fun ρ a w h => h)
      · replace hc := of_decide_eq_false hc
        refine WC_exit ?_
        refine WQ_then_exit ?_
        refine WQ_then_exit ?_
        refine WQ_hit ?_
        refine WQ_code ?_
        refine WC_seq (WC_region ?_)
        refine WL_execS htb 1 [2] [] ⟨[(2, (bB true))], [], 0, [], []⟩ (by kernel_rfl) ?_
        refine WL_nil ?_
        refine WQ_code ?_
        refine WC_ret ?_
        exact WQ_done htb [(bB true)] _ (.inl rfl) rfl (by kernel_rfl) (fun ρ w hW => ⟨true, rfl, (decide_eq_true ⟨by omega, by omega, fun j hj => hn j (by omega)⟩).symm⟩)

end Go.Proofs.Ytbpajkjolhoflaa.Sym
