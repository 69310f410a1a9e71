/- Walks of functions that the laws of this seat reach, printed by a program of this session's. -/
import Derived.Test.YtbpajkjolhoflaaT21
import Derived.Laws.Strings
import Derived.WideShapes
set_option linter.unusedSimpArgs false
set_option linter.unusedVariables false
set_option maxHeartbeats 4000000
namespace Go.Proofs.Ytbpajkjolhoflaa.Sym
open Go Go.Proofs Go.RowKit



def MayR (x : ByteArray × List (List ByteArray)) : Prop := IsNameP x.1 ∧ 0 < x.2.length ∧ ∀ a ∈ x.2, ∀ s ∈ a, IsNameP s
def MayP (g : List (ByteArray × List (List ByteArray))) : Prop := 0 < g.length ∧ ∀ x ∈ g, MayR x
theorem may_ok {w : World} {G : Heap} (hG : Has w G) {g : (List (ByteArray × (List (List ByteArray))))} {A_g : Option Addr} {n_g : Nat} {c_g : Nat} (h_g : Sl (tPair tStr (tSlice (tSlice tStr))) G A_g n_g c_g g) :
    Calls Try.prog 81 #[(.agg #[.slice A_g n_g c_g])] w (Ret w G fun v G' => ∃ (b : Bool), v = .bool b ∧ (b = true ↔ MayP g)) := by
  have lh_g := h_g.len'
  refine enter [(.agg [(sS A_g n_g c_g)])] 49 Try.func81 rfl rfl rfl rfl hG ?_
  refine WC_seq (WC_region ?_)
  refine WL_execS htb 2 [1] [0] ⟨[(1, (.p 0 0))], [(0, (.cells 78 [(sS A_g n_g c_g)]))], 1, [], []⟩ (by kernel_rfl) ?_
  refine WL_nil ?_
  refine WQ_code ?_
  refine WC_seq ?_
  refine WC_seq (WC_region ?_)
  refine WL_execS htb 4 [12, 11, 10, 1] [0] ⟨[(12, (iI 0)), (11, (iN n_g)), (10, (sS A_g n_g c_g)), (1, (.p 0 0))], [(0, (.cells 78 [(sS A_g n_g c_g)]))], 1, [], []⟩ (by kernel_rfl) ?_
  refine WL_nil ?_
  refine WQ_code ?_
  refine WC_block ?_
  refine WK_freeze 0 rfl rfl rfl rfl ?_
  intro bk2 G1 hle hbk2
  replace h_g := h_g.mono hle
  have hz := FZ.cons (h := 0) hbk2 rfl (FZ.nil _)
  refine WK_keep [12, 11, 10, 1] [] rfl rfl ?_
  refine WK_env [(12, (iN 0)), (11, (iN n_g)), (10, (sS A_g n_g c_g)), (1, (.p 0 0))] (fun ρ => ⟨rfl, rfl, ⟨rfl, rfl, ⟨rfl, rfl, ⟨rfl, rfl, trivial⟩⟩⟩⟩) ?_
  refine WC_loop (ι := Nat) (fun i G3 => Le G1 G3 ∧ (i ≤ n_g ∧ ∀ x ∈ g.take i, MayR x)) (fun i => ⟨[(12, (iN i)), (11, (iN n_g)), (10, (sS A_g n_g c_g)), (1, (.p 0 0))], [], 1, [], [(0, bk2, (.cells 78 [(sS A_g n_g c_g)]))]⟩) (fun i => n_g - i) (0) ⟨Le.refl _, ⟨Nat.zero_le _, by simp⟩⟩ rfl ?_
  rintro i G3 ⟨hle, hF⟩
  show WC _ _ _ _ _ ⟨[(12, (iN i)), (11, (iN n_g)), (10, (sS A_g n_g c_g)), (1, (.p 0 0))], [], 1, [], [(0, bk2, (.cells 78 [(sS A_g n_g c_g)]))]⟩ _
  replace h_g := h_g.mono hle
  replace hz := hz.mono hle
  have hc4 := hle
  obtain ⟨hi, hn⟩ := hF
  refine WC_seq (WC_region ?_)
  refine WL_execS htb 1 [13, 12, 11, 10, 1] [] ⟨[(13, (bB (decide ((((i : Nat) : Int) : Int) < ((n_g : Nat) : Int))))), (12, (iN i)), (11, (iN n_g)), (10, (sS A_g n_g c_g)), (1, (.p 0 0))], [], 1, [], [(0, bk2, (.cells 78 [(sS A_g n_g c_g)]))]⟩ (by kernel_rfl) ?_
  refine WL_nil ?_
  refine WQ_code ?_
  refine WC_seq ?_
  refine WC_cond (b := (decide ((((i : Nat) : Int) : Int) < ((n_g : Nat) : Int)))) rfl (fun hc => ?_) (fun hc => ?_)
  · replace hc := of_decide_eq_true hc
    refine WC_skip ?_
    refine WQ_code ?_
    refine WC_seq ?_
    refine WC_block ?_
    refine WC_seq (WC_region ?_)
    obtain ⟨q5, rfl⟩ := h_g.ptr (by omega)
    obtain ⟨⟨x8, x10⟩, _, hx6, ⟨_, _, rfl, ⟨rfl, hn9⟩, hr11⟩, at7⟩ := h_g.get i (by omega)
    obtain ⟨A13, n14, c15, rfl, hs12⟩ := Sl.of hr11
    replace hs12 : Sl (tSlice tStr) _ A13 n14 c15 x10 := hs12
    have lhs12 := hs12.len'
    replace at7 : At G3 (q5.add (i * 2)) [.string x8, .slice A13 n14 c15] := at7
    refine WL_op (WOp_idx htb q5 n_g ((i : Nat) : Int) 2 (by kernel_rfl) (by omega) (by omega) ?_)
    refine WL_op (WOp_ld htb (q5.add (i * 2)) true 2 [.string x8, .slice A13 n14 c15] (by kernel_rfl) at7 rfl (by decide) ?_)
    refine WL_execS htb 2 [4, 12, 11, 10, 1] [1] ⟨[(4, (.p 1 0)), (12, (iN i)), (11, (iN n_g)), (10, (sS (some q5) n_g c_g)), (1, (.p 0 0))], [(1, (.cells 111 [(tS x8), (sS A13 n14 c15)]))], 2, [], [(0, bk2, (.cells 78 [(sS (some q5) n_g c_g)]))]⟩ (by kernel_rfl) ?_
    refine WL_nil ?_
    refine WQ_code ?_
    refine WC_seq ?_
    refine WC_seq (WC_region ?_)
    refine WL_execS htb 2 [17, 4, 12, 11, 10, 1] [1] ⟨[(17, (tS x8)), (4, (.p 1 0)), (12, (iN i)), (11, (iN n_g)), (10, (sS (some q5) n_g c_g)), (1, (.p 0 0))], [(1, (.cells 111 [(tS x8), (sS A13 n14 c15)]))], 2, [], [(0, bk2, (.cells 78 [(sS (some q5) n_g c_g)]))]⟩ (by kernel_rfl) ?_
    refine WL_op (WOp_call 67 [(tS x8)] (by kernel_rfl) (goes_of Try.func67 rfl rfl) (fun ρ w hW => isName_ok hW.has (s := x8) hn9) ?_)
    intro G1 v hle hΦ
    replace hc4 := Le.trans hc4 hle
    replace h_g := h_g.mono hle
    replace hs12 := hs12.mono hle
    replace hz := hz.mono hle
    obtain ⟨r16, rfl, hR17⟩ := hΦ
    refine WL_execS htb 2 [20, 4, 12, 11, 10, 1] [1] ⟨[(20, (bB (!r16))), (4, (.p 1 0)), (12, (iN i)), (11, (iN n_g)), (10, (sS (some q5) n_g c_g)), (1, (.p 0 0))], [(1, (.cells 111 [(tS x8), (sS A13 n14 c15)]))], 2, [], [(0, bk2, (.cells 78 [(sS (some q5) n_g c_g)]))]⟩ (by kernel_rfl) ?_
    refine WK_split 20 (!r16) rfl (fun hd => ?_) (fun hd => ?_)
    · rw [Bool.not_eq_true'] at hd
      refine WK_keep [20, 4, 12, 11, 10, 1] [1] rfl rfl ?_
      refine WL_execS htb 5 [25, 4, 12, 11, 10, 1] [1] ⟨[(25, (bB true)), (4, (.p 1 0)), (12, (iN i)), (11, (iN n_g)), (10, (sS (some q5) n_g c_g)), (1, (.p 0 0))], [(1, (.cells 111 [(tS x8), (sS A13 n14 c15)]))], 2, [], [(0, bk2, (.cells 78 [(sS (some q5) n_g c_g)]))]⟩ (by kernel_rfl) ?_
      refine WL_nil ?_
      refine WQ_code ?_
      refine WC_cond (b := true) rfl (fun _ => ?_) (fun h => by cases h)
      refine WC_seq (WC_region ?_)
      refine WL_execS htb 1 [2] [] ⟨[(2, (bB false))], [], 2, [], [(0, bk2, (.cells 78 [(sS (some q5) n_g c_g)]))]⟩ (by kernel_rfl) ?_
      refine WL_nil ?_
      refine WQ_code ?_
      refine WC_ret ?_
      refine WQ_then_ret ?_
      refine WQ_blk_ret ?_
      refine WQ_then_ret ?_
      refine WQ_then_ret ?_
      refine WQ_blk_ret ?_
      refine WQ_then_ret ?_
      have hno : ¬ IsNameP x8 := of_decide_eq_false (hR17.symm.trans (by simpa using hd))
      exact WQ_done htb [(bB false)] _ (.inl rfl) rfl (by kernel_rfl) (fun ρ w hW => ⟨false, rfl, ⟨(fun h => by cases h), fun h => absurd (h.2 _ (List.mem_of_getElem? hx6)) (fun h => hno h.1)⟩⟩)
    · rw [Bool.not_eq_false'] at hd
      refine WK_keep [20, 4, 12, 11, 10, 1] [1] rfl rfl ?_
      have hyes : IsNameP x8 := of_decide_eq_true (hR17.symm.trans (by simpa using hd))
      refine WL_execS htb 5 [25, 4, 12, 11, 10, 1] [1] ⟨[(25, (bB ((((n14 : Nat) : Int) : Int) == 0))), (4, (.p 1 0)), (12, (iN i)), (11, (iN n_g)), (10, (sS (some q5) n_g c_g)), (1, (.p 0 0))], [(1, (.cells 111 [(tS x8), (sS A13 n14 c15)]))], 2, [], [(0, bk2, (.cells 78 [(sS (some q5) n_g c_g)]))]⟩ (by kernel_rfl) ?_
      refine WL_nil ?_
      refine WQ_code ?_
      refine WC_cond (b := ((((n14 : Nat) : Int) : Int) == 0)) rfl (fun hd2 => ?_) (fun hd2 => ?_)
      · replace hd2 := eq_of_beq hd2
        refine WC_seq (WC_region ?_)
        refine WL_execS htb 1 [2] [] ⟨[(2, (bB false))], [], 2, [], [(0, bk2, (.cells 78 [(sS (some q5) n_g c_g)]))]⟩ (by kernel_rfl) ?_
        refine WL_nil ?_
        refine WQ_code ?_
        refine WC_ret ?_
        refine WQ_then_ret ?_
        refine WQ_blk_ret ?_
        refine WQ_then_ret ?_
        refine WQ_then_ret ?_
        refine WQ_blk_ret ?_
        refine WQ_then_ret ?_
        exact WQ_done htb [(bB false)] _ (.inl rfl) rfl (by kernel_rfl) (fun ρ w hW => ⟨false, rfl, ⟨(fun h => by cases h), fun h => absurd (h.2 _ (List.mem_of_getElem? hx6)) (fun h => by have h' : 0 < x10.length := h.2.1; omega)⟩⟩)
      · replace hd2 := ne_of_beq_false hd2
        refine WC_skip ?_
        refine WQ_code ?_
        refine WC_seq (WC_region ?_)
        refine WL_execS htb 4 [29, 28, 27, 12, 11, 10, 1] [] ⟨[(29, (iI 0)), (28, (iN n14)), (27, (sS A13 n14 c15)), (12, (iN i)), (11, (iN n_g)), (10, (sS (some q5) n_g c_g)), (1, (.p 0 0))], [], 2, [], [(0, bk2, (.cells 78 [(sS (some q5) n_g c_g)]))]⟩ (by kernel_rfl) ?_
        refine WL_nil ?_
        refine WQ_code ?_
        refine WC_block ?_
        refine WK_keep [29, 28, 27, 12, 11, 10, 1] [] rfl rfl ?_
        refine WK_env [(29, (iN 0)), (28, (iN n14)), (27, (sS A13 n14 c15)), (12, (iN i)), (11, (iN n_g)), (10, (sS (some q5) n_g c_g)), (1, (.p 0 0))] (fun ρ => ⟨rfl, rfl, ⟨rfl, rfl, ⟨rfl, rfl, ⟨rfl, rfl, ⟨rfl, rfl, ⟨rfl, rfl, ⟨rfl, rfl, trivial⟩⟩⟩⟩⟩⟩⟩) ?_
        refine WC_loop (ι := Nat) (fun j G18 => Le G1 G18 ∧ (j ≤ n14 ∧ ∀ a ∈ x10.take j, ∀ s ∈ a, IsNameP s)) (fun j => ⟨[(29, (iN j)), (28, (iN n14)), (27, (sS A13 n14 c15)), (12, (iN i)), (11, (iN n_g)), (10, (sS (some q5) n_g c_g)), (1, (.p 0 0))], [], 2, [], [(0, bk2, (.cells 78 [(sS (some q5) n_g c_g)]))]⟩) (fun j => n14 - j) (0) ⟨Le.refl _, ⟨Nat.zero_le _, by simp⟩⟩ rfl ?_
        rintro j G18 ⟨hle, hF⟩
        show WC _ _ _ _ _ ⟨[(29, (iN j)), (28, (iN n14)), (27, (sS A13 n14 c15)), (12, (iN i)), (11, (iN n_g)), (10, (sS (some q5) n_g c_g)), (1, (.p 0 0))], [], 2, [], [(0, bk2, (.cells 78 [(sS (some q5) n_g c_g)]))]⟩ _
        replace hc4 := Le.trans hc4 hle
        replace h_g := h_g.mono hle
        replace hs12 := hs12.mono hle
        replace hz := hz.mono hle
        have hc19 := hle
        obtain ⟨hj, hm⟩ := hF
        refine WC_seq (WC_region ?_)
        refine WL_execS htb 1 [30, 29, 28, 27, 12, 11, 10, 1] [] ⟨[(30, (bB (decide ((((j : Nat) : Int) : Int) < ((n14 : Nat) : Int))))), (29, (iN j)), (28, (iN n14)), (27, (sS A13 n14 c15)), (12, (iN i)), (11, (iN n_g)), (10, (sS (some q5) n_g c_g)), (1, (.p 0 0))], [], 2, [], [(0, bk2, (.cells 78 [(sS (some q5) n_g c_g)]))]⟩ (by kernel_rfl) ?_
        refine WL_nil ?_
        refine WQ_code ?_
        refine WC_seq ?_
        refine WC_cond (b := (decide ((((j : Nat) : Int) : Int) < ((n14 : Nat) : Int)))) rfl (fun he => ?_) (fun he => ?_)
        · replace he := of_decide_eq_true he
          refine WC_skip ?_
          refine WQ_code ?_
          refine WC_seq ?_
          refine WC_block ?_
          refine WC_seq (WC_region ?_)
          obtain ⟨q20, rfl⟩ := hs12.ptr (by omega)
          obtain ⟨x23, _, hx21, hr24, at22⟩ := hs12.get j (by omega)
          obtain ⟨A26, n27, c28, rfl, hs25⟩ := Sl.of hr24
          replace hs25 : Sl tStr _ A26 n27 c28 x23 := hs25
          have lhs25 := hs25.len'
          replace at22 : At G18 (q20.add (j * 1)) [.slice A26 n27 c28] := at22
          refine WL_op (WOp_idx htb q20 n14 ((j : Nat) : Int) 1 (by kernel_rfl) (by omega) (by omega) ?_)
          refine WL_op (WOp_ld htb (q20.add (j * 1)) false 1 [.slice A26 n27 c28] (by kernel_rfl) at22 rfl (by decide) ?_)
          refine WL_execS htb 1 [6, 29, 28, 27, 12, 11, 10, 1] [] ⟨[(6, (sS A26 n27 c28)), (29, (iN j)), (28, (iN n14)), (27, (sS (some q20) n14 c15)), (12, (iN i)), (11, (iN n_g)), (10, (sS (some q5) n_g c_g)), (1, (.p 0 0))], [], 2, [], [(0, bk2, (.cells 78 [(sS (some q5) n_g c_g)]))]⟩ (by kernel_rfl) ?_
          refine WL_nil ?_
          refine WQ_code ?_
          refine WC_seq (WC_region ?_)
          refine WL_execS htb 3 [35, 34, 33, 29, 28, 27, 12, 11, 10, 1] [] ⟨[(35, (iI 0)), (34, (iN n27)), (33, (sS A26 n27 c28)), (29, (iN j)), (28, (iN n14)), (27, (sS (some q20) n14 c15)), (12, (iN i)), (11, (iN n_g)), (10, (sS (some q5) n_g c_g)), (1, (.p 0 0))], [], 2, [], [(0, bk2, (.cells 78 [(sS (some q5) n_g c_g)]))]⟩ (by kernel_rfl) ?_
          refine WL_nil ?_
          refine WQ_code ?_
          refine WC_block ?_
          refine WK_keep [35, 34, 33, 29, 28, 27, 12, 11, 10, 1] [] rfl rfl ?_
          refine WK_env [(35, (iN 0)), (34, (iN n27)), (33, (sS A26 n27 c28)), (29, (iN j)), (28, (iN n14)), (27, (sS (some q20) n14 c15)), (12, (iN i)), (11, (iN n_g)), (10, (sS (some q5) n_g c_g)), (1, (.p 0 0))] (fun ρ => ⟨rfl, rfl, ⟨rfl, rfl, ⟨rfl, rfl, ⟨rfl, rfl, ⟨rfl, rfl, ⟨rfl, rfl, ⟨rfl, rfl, ⟨rfl, rfl, ⟨rfl, rfl, ⟨rfl, rfl, trivial⟩⟩⟩⟩⟩⟩⟩⟩⟩⟩) ?_
          refine WC_loop (ι := Nat) (fun k G29 => Le G18 G29 ∧ (k ≤ n27 ∧ ∀ s ∈ x23.take k, IsNameP s)) (fun k => ⟨[(35, (iN k)), (34, (iN n27)), (33, (sS A26 n27 c28)), (29, (iN j)), (28, (iN n14)), (27, (sS (some q20) n14 c15)), (12, (iN i)), (11, (iN n_g)), (10, (sS (some q5) n_g c_g)), (1, (.p 0 0))], [], 2, [], [(0, bk2, (.cells 78 [(sS (some q5) n_g c_g)]))]⟩) (fun k => n27 - k) (0) ⟨Le.refl _, ⟨Nat.zero_le _, by simp⟩⟩ rfl ?_
          rintro k G29 ⟨hle, hF⟩
          show WC _ _ _ _ _ ⟨[(35, (iN k)), (34, (iN n27)), (33, (sS A26 n27 c28)), (29, (iN j)), (28, (iN n14)), (27, (sS (some q20) n14 c15)), (12, (iN i)), (11, (iN n_g)), (10, (sS (some q5) n_g c_g)), (1, (.p 0 0))], [], 2, [], [(0, bk2, (.cells 78 [(sS (some q5) n_g c_g)]))]⟩ _
          replace hc4 := Le.trans hc4 hle
          replace hc19 := Le.trans hc19 hle
          replace h_g := h_g.mono hle
          replace hs12 := hs12.mono hle
          replace hs25 := hs25.mono hle
          replace hz := hz.mono hle
          have hc30 := hle
          obtain ⟨hk, hs0⟩ := hF
          refine WC_seq (WC_region ?_)
          refine WL_execS htb 1 [36, 35, 34, 33, 29, 28, 27, 12, 11, 10, 1] [] ⟨[(36, (bB (decide ((((k : Nat) : Int) : Int) < ((n27 : Nat) : Int))))), (35, (iN k)), (34, (iN n27)), (33, (sS A26 n27 c28)), (29, (iN j)), (28, (iN n14)), (27, (sS (some q20) n14 c15)), (12, (iN i)), (11, (iN n_g)), (10, (sS (some q5) n_g c_g)), (1, (.p 0 0))], [], 2, [], [(0, bk2, (.cells 78 [(sS (some q5) n_g c_g)]))]⟩ (by kernel_rfl) ?_
          refine WL_nil ?_
          refine WQ_code ?_
          refine WC_seq ?_
          refine WC_cond (b := (decide ((((k : Nat) : Int) : Int) < ((n27 : Nat) : Int)))) rfl (fun hg => ?_) (fun hg => ?_)
          · replace hg := of_decide_eq_true hg
            refine WC_skip ?_
            refine WQ_code ?_
            refine WC_seq ?_
            refine WC_block ?_
            refine WC_seq (WC_region ?_)
            obtain ⟨q31, rfl⟩ := hs25.ptr (by omega)
            obtain ⟨x34, _, hx32, ⟨rfl, hn35⟩, at33⟩ := hs25.get k (by omega)
            replace at33 : At G29 (q31.add (k * 1)) [.string x34] := at33
            refine WL_op (WOp_idx htb q31 n27 ((k : Nat) : Int) 1 (by kernel_rfl) (by omega) (by omega) ?_)
            refine WL_op (WOp_ld htb (q31.add (k * 1)) false 1 [.string x34] (by kernel_rfl) at33 rfl (by decide) ?_)
            refine WL_execS htb 1 [8, 35, 34, 33, 29, 28, 27, 12, 11, 10, 1] [] ⟨[(8, (tS x34)), (35, (iN k)), (34, (iN n27)), (33, (sS (some q31) n27 c28)), (29, (iN j)), (28, (iN n14)), (27, (sS (some q20) n14 c15)), (12, (iN i)), (11, (iN n_g)), (10, (sS (some q5) n_g c_g)), (1, (.p 0 0))], [], 2, [], [(0, bk2, (.cells 78 [(sS (some q5) n_g c_g)]))]⟩ (by kernel_rfl) ?_
            refine WL_nil ?_
            refine WQ_code ?_
            refine WC_seq (WC_region ?_)
            refine WL_execS htb 1 [39, 35, 34, 33, 29, 28, 27, 12, 11, 10, 1] [] ⟨[(39, (tS x34)), (35, (iN k)), (34, (iN n27)), (33, (sS (some q31) n27 c28)), (29, (iN j)), (28, (iN n14)), (27, (sS (some q20) n14 c15)), (12, (iN i)), (11, (iN n_g)), (10, (sS (some q5) n_g c_g)), (1, (.p 0 0))], [], 2, [], [(0, bk2, (.cells 78 [(sS (some q5) n_g c_g)]))]⟩ (by kernel_rfl) ?_
            refine WL_op (WOp_call 67 [(tS x34)] (by kernel_rfl) (goes_of Try.func67 rfl rfl) (fun ρ w hW => isName_ok hW.has (s := x34) hn35) ?_)
            intro G2 v hle hΦ
            replace hc4 := Le.trans hc4 hle
            replace hc19 := Le.trans hc19 hle
            replace hc30 := Le.trans hc30 hle
            replace h_g := h_g.mono hle
            replace hs12 := hs12.mono hle
            replace hs25 := hs25.mono hle
            replace hz := hz.mono hle
            obtain ⟨r36, rfl, hR37⟩ := hΦ
            refine WL_execS htb 1 [41, 35, 34, 33, 29, 28, 27, 12, 11, 10, 1] [] ⟨[(41, (bB (!r36))), (35, (iN k)), (34, (iN n27)), (33, (sS (some q31) n27 c28)), (29, (iN j)), (28, (iN n14)), (27, (sS (some q20) n14 c15)), (12, (iN i)), (11, (iN n_g)), (10, (sS (some q5) n_g c_g)), (1, (.p 0 0))], [], 2, [], [(0, bk2, (.cells 78 [(sS (some q5) n_g c_g)]))]⟩ (by kernel_rfl) ?_
            refine WL_nil ?_
            refine WQ_code ?_
            refine WC_cond (b := (!r36)) rfl (fun hh => ?_) (fun hh => ?_)
            · rw [Bool.not_eq_true'] at hh
              have hno : ¬ IsNameP x34 := of_decide_eq_false (hR37.symm.trans (by simpa using hh))
              refine WC_seq (WC_region ?_)
              refine WL_execS htb 1 [2] [] ⟨[(2, (bB false))], [], 2, [], [(0, bk2, (.cells 78 [(sS (some q5) n_g c_g)]))]⟩ (by kernel_rfl) ?_
              refine WL_nil ?_
              refine WQ_code ?_
              refine WC_ret ?_
              refine WQ_blk_ret ?_
              refine WQ_then_ret ?_
              refine WQ_then_ret ?_
              refine WQ_blk_ret ?_
              refine WQ_blk_ret ?_
              refine WQ_then_ret ?_
              refine WQ_then_ret ?_
              refine WQ_blk_ret ?_
              refine WQ_blk_ret ?_
              refine WQ_then_ret ?_
              refine WQ_then_ret ?_
              refine WQ_blk_ret ?_
              refine WQ_then_ret ?_
              exact WQ_done htb [(bB false)] _ (.inl rfl) rfl (by kernel_rfl) (fun ρ w hW => ⟨false, rfl, ⟨(fun h => by cases h), fun h => absurd (h.2 _ (List.mem_of_getElem? hx6)) (fun h => hno (h.2.2 _ (List.mem_of_getElem? hx21) _ (List.mem_of_getElem? hx32)))⟩⟩)
            · rw [Bool.not_eq_false'] at hh
              have hyes2 : IsNameP x34 := of_decide_eq_true (hR37.symm.trans (by simpa using hh))
              refine WC_skip ?_
              refine WQ_blk ?_
              refine WQ_code ?_
              refine WC_region ?_
              refine WL_execS htb 2 [35, 34, 33, 29, 28, 27, 12, 11, 10, 1] [] ⟨[(35, (iI (IntKind.i64.wrap (((k : Nat) : Int) + 1)))), (34, (iN n27)), (33, (sS (some q31) n27 c28)), (29, (iN j)), (28, (iN n14)), (27, (sS (some q20) n14 c15)), (12, (iN i)), (11, (iN n_g)), (10, (sS (some q5) n_g c_g)), (1, (.p 0 0))], [], 2, [], [(0, bk2, (.cells 78 [(sS (some q5) n_g c_g)]))]⟩ (by kernel_rfl) ?_
              refine WL_nil ?_
              refine WK_env [(35, (iN (k + 1))), (34, (iN n27)), (33, (sS (some q31) n27 c28)), (29, (iN j)), (28, (iN n14)), (27, (sS (some q20) n14 c15)), (12, (iN i)), (11, (iN n_g)), (10, (sS (some q5) n_g c_g)), (1, (.p 0 0))] (fun ρ => ⟨rfl, (congrArg (Value.int .i64) (by rw [wrap_id (by omega)]; first | rfl | omega)), ⟨rfl, rfl, ⟨rfl, rfl, ⟨rfl, rfl, ⟨rfl, rfl, ⟨rfl, rfl, ⟨rfl, rfl, ⟨rfl, rfl, ⟨rfl, rfl, ⟨rfl, rfl, trivial⟩⟩⟩⟩⟩⟩⟩⟩⟩⟩) ?_
              refine WK_keep [35, 34, 33, 29, 28, 27, 12, 11, 10, 1] [] rfl rfl ?_
              exact WQ_next ((k + 1)) (by show n27 - (k + 1) < n27 - k; omega) ⟨hc30, ⟨by omega, all_step hx32 hs0 hyes2⟩⟩ (fun ρ a w h => h)
          · replace hg := of_decide_eq_false hg
            refine WC_exit ?_
            refine WQ_then_exit ?_
            refine WQ_then_exit ?_
            refine WQ_hit ?_
            refine WQ_blk ?_
            refine WQ_code ?_
            refine WC_region ?_
            refine WL_execS htb 2 [29, 28, 27, 12, 11, 10, 1] [] ⟨[(29, (iI (IntKind.i64.wrap (((j : Nat) : Int) + 1)))), (28, (iN n14)), (27, (sS (some q20) n14 c15)), (12, (iN i)), (11, (iN n_g)), (10, (sS (some q5) n_g c_g)), (1, (.p 0 0))], [], 2, [], [(0, bk2, (.cells 78 [(sS (some q5) n_g c_g)]))]⟩ (by kernel_rfl) ?_
            refine WL_nil ?_
            refine WK_env [(29, (iN (j + 1))), (28, (iN n14)), (27, (sS (some q20) n14 c15)), (12, (iN i)), (11, (iN n_g)), (10, (sS (some q5) n_g c_g)), (1, (.p 0 0))] (fun ρ => ⟨rfl, (congrArg (Value.int .i64) (by rw [wrap_id (by omega)]; first | rfl | omega)), ⟨rfl, rfl, ⟨rfl, rfl, ⟨rfl, rfl, ⟨rfl, rfl, ⟨rfl, rfl, ⟨rfl, rfl, trivial⟩⟩⟩⟩⟩⟩⟩) ?_
            have htk : x23.take k = x23 := List.take_of_length_le (by omega)
            rw [htk] at hs0
            refine WK_keep [29, 28, 27, 12, 11, 10, 1] [] rfl rfl ?_
            exact WQ_next ((j + 1)) (by show n14 - (j + 1) < n14 - j; omega) ⟨hc19, ⟨by omega, all_step hx21 hm hs0⟩⟩ (fun ρ a w h => h)
        · replace he := of_decide_eq_false he
          refine WC_exit ?_
          refine WQ_then_exit ?_
          refine WQ_then_exit ?_
          refine WQ_hit ?_
          refine WQ_blk ?_
          refine WQ_code ?_
          refine WC_region ?_
          refine WL_execS htb 2 [12, 11, 10, 1] [] ⟨[(12, (iI (IntKind.i64.wrap (((i : Nat) : Int) + 1)))), (11, (iN n_g)), (10, (sS (some q5) n_g c_g)), (1, (.p 0 0))], [], 2, [], [(0, bk2, (.cells 78 [(sS (some q5) n_g c_g)]))]⟩ (by kernel_rfl) ?_
          refine WL_nil ?_
          refine WK_env [(12, (iN (i + 1))), (11, (iN n_g)), (10, (sS (some q5) n_g c_g)), (1, (.p 0 0))] (fun ρ => ⟨rfl, (congrArg (Value.int .i64) (by rw [wrap_id (by omega)]; first | rfl | omega)), ⟨rfl, rfl, ⟨rfl, rfl, ⟨rfl, rfl, trivial⟩⟩⟩⟩) ?_
          have htk : x10.take j = x10 := List.take_of_length_le (by omega)
          rw [htk] at hm
          refine WK_keep [12, 11, 10, 1] [] rfl rfl ?_
          exact WQ_next ((i + 1)) (by show n_g - (i + 1) < n_g - i; omega) ⟨hc4, ⟨by omega, all_step hx6 hn ⟨hyes, (by show 0 < x10.length; omega), hm⟩⟩⟩ (fun ρ a w h => h)
  · replace hc := of_decide_eq_false hc
    refine WC_exit ?_
    refine WQ_then_exit ?_
    refine WQ_then_exit ?_
    refine WQ_hit ?_
    refine WQ_code ?_
    refine WC_seq (WC_region ?_)
    refine WL_execS htb 5 [2] [] ⟨[(2, (bB (decide ((((n_g : Nat) : Int) : Int) > 0))))], [], 1, [], [(0, bk2, (.cells 78 [(sS A_g n_g c_g)]))]⟩ (by kernel_rfl) ?_
    refine WL_nil ?_
    refine WQ_code ?_
    refine WC_ret ?_
    have htk : g.take i = g := List.take_of_length_le (by omega)
    rw [htk] at hn
    exact WQ_done htb [(bB (decide ((((n_g : Nat) : Int) : Int) > 0)))] _ (.inl rfl) rfl (by kernel_rfl) (fun ρ w hW => ⟨(decide ((((n_g : Nat) : Int) : Int) > 0)), rfl, ⟨fun h => ⟨by have := of_decide_eq_true h; omega, hn⟩, fun h => decide_eq_true (by have := h.1; omega)⟩⟩)

theorem check7_ok {w : World} {G : Heap} (hG : Has w G) {g : (List (ByteArray × (List (List ByteArray))))} {A_g : Option Addr} {n_g : Nat} {c_g : Nat} (h_g : Sl (tPair tStr (tSlice (tSlice tStr))) G A_g n_g c_g g) :
    Calls Try.prog 66 #[(.agg #[.slice A_g n_g c_g])] w (Ret w G fun v G' => ∃ (e : Int), v = .int .i64 e ∧ (-9223372036854775808 ≤ e ∧ e ≤ 9223372036854775807) ∧ ((MayP g → LongP g → e = 2) ∧ (MayP g → ¬ LongP g → e = 0) ∧ (¬ MayP g → e = 1))) := by
  have lh_g := h_g.len'
  refine enter [(.agg [(sS A_g n_g c_g)])] 8 Try.func66 rfl rfl rfl rfl hG ?_
  refine WC_seq (WC_region ?_)
  refine WL_execS htb 2 [1] [0] ⟨[(1, (.p 0 0))], [(0, (.cells 78 [(sS A_g n_g c_g)]))], 1, [], []⟩ (by kernel_rfl) ?_
  refine WL_nil ?_
  refine WQ_code ?_
  refine WC_seq ?_
  refine WC_seq (WC_region ?_)
  refine WL_execS htb 1 [3, 1] [0] ⟨[(3, (.agg [(sS A_g n_g c_g)])), (1, (.p 0 0))], [(0, (.cells 78 [(sS A_g n_g c_g)]))], 1, [], []⟩ (by kernel_rfl) ?_
  refine WL_op (WOp_call 81 [(.agg [(sS A_g n_g c_g)])] (by kernel_rfl) (goes_of Try.func81 rfl rfl) (fun ρ w hW => may_ok hW.has (g := g) h_g) ?_)
  intro G1 v hle hΦ
  replace h_g := h_g.mono hle
  obtain ⟨r1, rfl, hR2⟩ := hΦ
  refine WL_execS htb 1 [5, 1] [0] ⟨[(5, (bB (!r1))), (1, (.p 0 0))], [(0, (.cells 78 [(sS A_g n_g c_g)]))], 1, [], []⟩ (by kernel_rfl) ?_
  refine WL_nil ?_
  refine WQ_code ?_
  refine WC_cond (b := (!r1)) rfl (fun ha => ?_) (fun ha => ?_)
  · rw [Bool.not_eq_true'] at ha
    have hm : ¬ MayP g := fun h => by have := hR2.2 h; simp [this] at ha
    refine WC_seq (WC_region ?_)
    refine WL_execS htb 1 [2] [] ⟨[(2, (iI 1))], [], 1, [], []⟩ (by kernel_rfl) ?_
    refine WL_nil ?_
    refine WQ_code ?_
    refine WC_ret ?_
    refine WQ_then_ret ?_
    exact WQ_done htb [(iI 1)] _ (.inl rfl) rfl (by kernel_rfl) (fun ρ w hW => ⟨1, rfl, (by omega), ⟨fun h => absurd h hm, fun h => absurd h hm, fun _ => rfl⟩⟩)
  · rw [Bool.not_eq_false'] at ha
    have hm : MayP g := hR2.1 (by simpa using ha)
    refine WC_skip ?_
    refine WQ_code ?_
    refine WC_seq ?_
    refine WC_seq (WC_region ?_)
    refine WL_execS htb 1 [6] [] ⟨[(6, (.agg [(sS A_g n_g c_g)]))], [], 1, [], []⟩ (by kernel_rfl) ?_
    refine WL_op (WOp_call 82 [(.agg [(sS A_g n_g c_g)])] (by kernel_rfl) (goes_of Try.func82 rfl rfl) (fun ρ w hW => long_ok hW.has (g := g) h_g) ?_)
    intro G2 v hle hΦ
    replace h_g := h_g.mono hle
    obtain ⟨r3, rfl, hR4⟩ := hΦ
    refine WL_nil ?_
    refine WQ_code ?_
    refine WC_cond (b := r3) rfl (fun hb => ?_) (fun hb => ?_)
    · skip
      have hl := hR4.1 hb
      refine WC_seq (WC_region ?_)
      refine WL_execS htb 1 [2] [] ⟨[(2, (iI 2))], [], 1, [], []⟩ (by kernel_rfl) ?_
      refine WL_nil ?_
      refine WQ_code ?_
      refine WC_ret ?_
      refine WQ_then_ret ?_
      exact WQ_done htb [(iI 2)] _ (.inl rfl) rfl (by kernel_rfl) (fun ρ w hW => ⟨2, rfl, (by omega), ⟨fun _ _ => rfl, fun _ h => absurd hl h, fun h => absurd hm h⟩⟩)
    · skip
      have hl : ¬ LongP g := fun h => by have := hR4.2 h; simp [this] at hb
      refine WC_skip ?_
      refine WQ_code ?_
      refine WC_seq (WC_region ?_)
      refine WL_execS htb 1 [2] [] ⟨[(2, (iI 0))], [], 1, [], []⟩ (by kernel_rfl) ?_
      refine WL_nil ?_
      refine WQ_code ?_
      refine WC_ret ?_
      exact WQ_done htb [(iI 0)] _ (.inl rfl) rfl (by kernel_rfl) (fun ρ w hW => ⟨0, rfl, (by omega), ⟨fun _ h => absurd h hl, fun _ _ => rfl, fun h => absurd hm h⟩⟩)

end Go.Proofs.Ytbpajkjolhoflaa.Sym
