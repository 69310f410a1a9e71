/- Walks of functions that the laws of this seat reach, printed by a program of this session's. -/
import Derived.Test.YtbpajkjolhoflaaT20
import Derived.Laws.Strings
import Derived.WideShapes
set_option linter.unusedSimpArgs false
set_option linter.unusedVariables false
set_option maxHeartbeats 4000000
namespace Go.Proofs.Ytbpajkjolhoflaa.Sym
open Go Go.Proofs Go.RowKit


def LongR (x : ByteArray × List (List ByteArray)) : Prop := 30 < x.2.length ∨ ∃ a ∈ x.2, 30 < a.length
def LongP (g : List (ByteArray × List (List ByteArray))) : Prop := (∃ x ∈ g, LongR x) ∨ 60 < g.length
theorem long_ok {w : World} {G : Heap} (hG : Has w G) {g : (List (ByteArray × (List (List ByteArray))))} {A_g : Option Addr} {n_g : Nat} {c_g : Nat} (h_g : Sl (tPair tStr (tSlice (tSlice tStr))) G A_g n_g c_g g) :
    Calls Try.prog 82 #[(.agg #[.slice A_g n_g c_g])] w (Ret w G fun v G' => ∃ (b : Bool), v = .bool b ∧ (b = true ↔ LongP g)) := by
  have lh_g := h_g.len'
  refine enter [(.agg [(sS A_g n_g c_g)])] 34 Try.func82 rfl rfl rfl rfl hG ?_
  refine WC_seq (WC_region ?_)
  refine WL_execS htb 2 [1] [0] ⟨[(1, (.p 0 0))], [(0, (.cells 78 [(sS A_g n_g c_g)]))], 1, [], []⟩ (by kernel_rfl) ?_
  refine WL_nil ?_
  refine WQ_code ?_
  refine WC_seq ?_
  refine WC_seq (WC_region ?_)
  refine WL_execS htb 4 [10, 9, 8, 1] [0] ⟨[(10, (iI 0)), (9, (iN n_g)), (8, (sS A_g n_g c_g)), (1, (.p 0 0))], [(0, (.cells 78 [(sS A_g n_g c_g)]))], 1, [], []⟩ (by kernel_rfl) ?_
  refine WL_nil ?_
  refine WQ_code ?_
  refine WC_block ?_
  refine WK_freeze 0 rfl rfl rfl rfl ?_
  intro bk2 G1 hle hbk2
  replace h_g := h_g.mono hle
  have hz := FZ.cons (h := 0) hbk2 rfl (FZ.nil _)
  refine WK_keep [10, 9, 8, 1] [] rfl rfl ?_
  refine WK_env [(10, (iN 0)), (9, (iN n_g)), (8, (sS A_g n_g c_g)), (1, (.p 0 0))] (fun ρ => ⟨rfl, rfl, ⟨rfl, rfl, ⟨rfl, rfl, ⟨rfl, rfl, trivial⟩⟩⟩⟩) ?_
  refine WC_loop (ι := Nat) (fun i G3 => Le G1 G3 ∧ (i ≤ n_g ∧ ∀ x ∈ g.take i, ¬ LongR x)) (fun i => ⟨[(10, (iN i)), (9, (iN n_g)), (8, (sS A_g n_g c_g)), (1, (.p 0 0))], [], 1, [], [(0, bk2, (.cells 78 [(sS A_g n_g c_g)]))]⟩) (fun i => n_g - i) (0) ⟨Le.refl _, ⟨Nat.zero_le _, by simp⟩⟩ rfl ?_
  rintro i G3 ⟨hle, hF⟩
  show WC _ _ _ _ _ ⟨[(10, (iN i)), (9, (iN n_g)), (8, (sS A_g n_g c_g)), (1, (.p 0 0))], [], 1, [], [(0, bk2, (.cells 78 [(sS A_g n_g c_g)]))]⟩ _
  replace h_g := h_g.mono hle
  replace hz := hz.mono hle
  have hc4 := hle
  obtain ⟨hi, hn⟩ := hF
  refine WC_seq (WC_region ?_)
  refine WL_execS htb 1 [11, 10, 9, 8, 1] [] ⟨[(11, (bB (decide ((((i : Nat) : Int) : Int) < ((n_g : Nat) : Int))))), (10, (iN i)), (9, (iN n_g)), (8, (sS A_g n_g c_g)), (1, (.p 0 0))], [], 1, [], [(0, bk2, (.cells 78 [(sS A_g n_g c_g)]))]⟩ (by kernel_rfl) ?_
  refine WL_nil ?_
  refine WQ_code ?_
  refine WC_seq ?_
  refine WC_cond (b := (decide ((((i : Nat) : Int) : Int) < ((n_g : Nat) : Int)))) rfl (fun hc => ?_) (fun hc => ?_)
  · replace hc := of_decide_eq_true hc
    refine WC_skip ?_
    refine WQ_code ?_
    refine WC_seq ?_
    refine WC_block ?_
    refine WC_seq (WC_region ?_)
    obtain ⟨q5, rfl⟩ := h_g.ptr (by omega)
    obtain ⟨⟨x8, x10⟩, _, hx6, ⟨_, _, rfl, ⟨rfl, hn9⟩, hr11⟩, at7⟩ := h_g.get i (by omega)
    obtain ⟨A13, n14, c15, rfl, hs12⟩ := Sl.of hr11
    replace hs12 : Sl (tSlice tStr) _ A13 n14 c15 x10 := hs12
    have lhs12 := hs12.len'
    replace at7 : At G3 (q5.add (i * 2)) [.string x8, .slice A13 n14 c15] := at7
    refine WL_op (WOp_idx htb q5 n_g ((i : Nat) : Int) 2 (by kernel_rfl) (by omega) (by omega) ?_)
    refine WL_op (WOp_ld htb (q5.add (i * 2)) true 2 [.string x8, .slice A13 n14 c15] (by kernel_rfl) at7 rfl (by decide) ?_)
    refine WL_execS htb 2 [4, 10, 9, 8, 1] [1] ⟨[(4, (.p 1 0)), (10, (iN i)), (9, (iN n_g)), (8, (sS (some q5) n_g c_g)), (1, (.p 0 0))], [(1, (.cells 111 [(tS x8), (sS A13 n14 c15)]))], 2, [], [(0, bk2, (.cells 78 [(sS (some q5) n_g c_g)]))]⟩ (by kernel_rfl) ?_
    refine WL_nil ?_
    refine WQ_code ?_
    refine WC_seq ?_
    refine WC_seq (WC_region ?_)
    refine WL_execS htb 4 [17, 4, 10, 9, 8, 1] [1] ⟨[(17, (bB (decide ((((n14 : Nat) : Int) : Int) > 30)))), (4, (.p 1 0)), (10, (iN i)), (9, (iN n_g)), (8, (sS (some q5) n_g c_g)), (1, (.p 0 0))], [(1, (.cells 111 [(tS x8), (sS A13 n14 c15)]))], 2, [], [(0, bk2, (.cells 78 [(sS (some q5) n_g c_g)]))]⟩ (by kernel_rfl) ?_
    refine WL_nil ?_
    refine WQ_code ?_
    refine WC_cond (b := (decide ((((n14 : Nat) : Int) : Int) > 30))) rfl (fun hd => ?_) (fun hd => ?_)
    · replace hd := of_decide_eq_true hd
      refine WC_seq (WC_region ?_)
      refine WL_execS htb 1 [2] [] ⟨[(2, (bB true))], [], 2, [], [(0, bk2, (.cells 78 [(sS (some q5) n_g c_g)]))]⟩ (by kernel_rfl) ?_
      refine WL_nil ?_
      refine WQ_code ?_
      refine WC_ret ?_
      refine WQ_then_ret ?_
      refine WQ_blk_ret ?_
      refine WQ_then_ret ?_
      refine WQ_then_ret ?_
      refine WQ_blk_ret ?_
      refine WQ_then_ret ?_
      exact WQ_done htb [(bB true)] _ (.inl rfl) rfl (by kernel_rfl) (fun ρ w hW => ⟨true, rfl, ⟨fun _ => .inl ⟨_, List.mem_of_getElem? hx6, .inl (by show 30 < x10.length; omega)⟩, fun _ => rfl⟩⟩)
    · replace hd := of_decide_eq_false hd
      refine WC_skip ?_
      refine WQ_code ?_
      refine WC_seq (WC_region ?_)
      refine WL_execS htb 4 [21, 20, 19, 10, 9, 8, 1] [] ⟨[(21, (iI 0)), (20, (iN n14)), (19, (sS A13 n14 c15)), (10, (iN i)), (9, (iN n_g)), (8, (sS (some q5) n_g c_g)), (1, (.p 0 0))], [], 2, [], [(0, bk2, (.cells 78 [(sS (some q5) n_g c_g)]))]⟩ (by kernel_rfl) ?_
      refine WL_nil ?_
      refine WQ_code ?_
      refine WC_block ?_
      refine WK_keep [21, 20, 19, 10, 9, 8, 1] [] rfl rfl ?_
      refine WK_env [(21, (iN 0)), (20, (iN n14)), (19, (sS A13 n14 c15)), (10, (iN i)), (9, (iN n_g)), (8, (sS (some q5) n_g c_g)), (1, (.p 0 0))] (fun ρ => ⟨rfl, rfl, ⟨rfl, rfl, ⟨rfl, rfl, ⟨rfl, rfl, ⟨rfl, rfl, ⟨rfl, rfl, ⟨rfl, rfl, trivial⟩⟩⟩⟩⟩⟩⟩) ?_
      refine WC_loop (ι := Nat) (fun j G16 => Le G3 G16 ∧ (j ≤ n14 ∧ ∀ a ∈ x10.take j, ¬ 30 < a.length)) (fun j => ⟨[(21, (iN j)), (20, (iN n14)), (19, (sS A13 n14 c15)), (10, (iN i)), (9, (iN n_g)), (8, (sS (some q5) n_g c_g)), (1, (.p 0 0))], [], 2, [], [(0, bk2, (.cells 78 [(sS (some q5) n_g c_g)]))]⟩) (fun j => n14 - j) (0) ⟨Le.refl _, ⟨Nat.zero_le _, by simp⟩⟩ rfl ?_
      rintro j G16 ⟨hle, hF⟩
      show WC _ _ _ _ _ ⟨[(21, (iN j)), (20, (iN n14)), (19, (sS A13 n14 c15)), (10, (iN i)), (9, (iN n_g)), (8, (sS (some q5) n_g c_g)), (1, (.p 0 0))], [], 2, [], [(0, bk2, (.cells 78 [(sS (some q5) n_g c_g)]))]⟩ _
      replace hc4 := Le.trans hc4 hle
      replace h_g := h_g.mono hle
      replace hs12 := hs12.mono hle
      replace hz := hz.mono hle
      have hc17 := hle
      obtain ⟨hj, hm⟩ := hF
      refine WC_seq (WC_region ?_)
      refine WL_execS htb 1 [22, 21, 20, 19, 10, 9, 8, 1] [] ⟨[(22, (bB (decide ((((j : Nat) : Int) : Int) < ((n14 : Nat) : Int))))), (21, (iN j)), (20, (iN n14)), (19, (sS A13 n14 c15)), (10, (iN i)), (9, (iN n_g)), (8, (sS (some q5) n_g c_g)), (1, (.p 0 0))], [], 2, [], [(0, bk2, (.cells 78 [(sS (some q5) n_g c_g)]))]⟩ (by kernel_rfl) ?_
      refine WL_nil ?_
      refine WQ_code ?_
      refine WC_seq ?_
      refine WC_cond (b := (decide ((((j : Nat) : Int) : Int) < ((n14 : Nat) : Int)))) rfl (fun he => ?_) (fun he => ?_)
      · replace he := of_decide_eq_true he
        refine WC_skip ?_
        refine WQ_code ?_
        refine WC_seq ?_
        refine WC_block ?_
        refine WC_seq (WC_region ?_)
        obtain ⟨q18, rfl⟩ := hs12.ptr (by omega)
        obtain ⟨x21, _, hx19, hr22, at20⟩ := hs12.get j (by omega)
        obtain ⟨A24, n25, c26, rfl, hs23⟩ := Sl.of hr22
        replace hs23 : Sl tStr _ A24 n25 c26 x21 := hs23
        have lhs23 := hs23.len'
        replace at20 : At G16 (q18.add (j * 1)) [.slice A24 n25 c26] := at20
        refine WL_op (WOp_idx htb q18 n14 ((j : Nat) : Int) 1 (by kernel_rfl) (by omega) (by omega) ?_)
        refine WL_op (WOp_ld htb (q18.add (j * 1)) false 1 [.slice A24 n25 c26] (by kernel_rfl) at20 rfl (by decide) ?_)
        refine WL_execS htb 1 [6, 21, 20, 19, 10, 9, 8, 1] [] ⟨[(6, (sS A24 n25 c26)), (21, (iN j)), (20, (iN n14)), (19, (sS (some q18) n14 c15)), (10, (iN i)), (9, (iN n_g)), (8, (sS (some q5) n_g c_g)), (1, (.p 0 0))], [], 2, [], [(0, bk2, (.cells 78 [(sS (some q5) n_g c_g)]))]⟩ (by kernel_rfl) ?_
        refine WL_nil ?_
        refine WQ_code ?_
        refine WC_seq (WC_region ?_)
        refine WL_execS htb 3 [27, 21, 20, 19, 10, 9, 8, 1] [] ⟨[(27, (bB (decide ((((n25 : Nat) : Int) : Int) > 30)))), (21, (iN j)), (20, (iN n14)), (19, (sS (some q18) n14 c15)), (10, (iN i)), (9, (iN n_g)), (8, (sS (some q5) n_g c_g)), (1, (.p 0 0))], [], 2, [], [(0, bk2, (.cells 78 [(sS (some q5) n_g c_g)]))]⟩ (by kernel_rfl) ?_
        refine WL_nil ?_
        refine WQ_code ?_
        refine WC_cond (b := (decide ((((n25 : Nat) : Int) : Int) > 30))) rfl (fun hg => ?_) (fun hg => ?_)
        · replace hg := of_decide_eq_true hg
          refine WC_seq (WC_region ?_)
          refine WL_execS htb 1 [2] [] ⟨[(2, (bB true))], [], 2, [], [(0, bk2, (.cells 78 [(sS (some q5) n_g c_g)]))]⟩ (by kernel_rfl) ?_
          refine WL_nil ?_
          refine WQ_code ?_
          refine WC_ret ?_
          refine WQ_blk_ret ?_
          refine WQ_then_ret ?_
          refine WQ_then_ret ?_
          refine WQ_blk_ret ?_
          refine WQ_blk_ret ?_
          refine WQ_then_ret ?_
          refine WQ_then_ret ?_
          refine WQ_blk_ret ?_
          refine WQ_then_ret ?_
          exact WQ_done htb [(bB true)] _ (.inl rfl) rfl (by kernel_rfl) (fun ρ w hW => ⟨true, rfl, ⟨fun _ => .inl ⟨_, List.mem_of_getElem? hx6, .inr ⟨_, List.mem_of_getElem? hx19, by omega⟩⟩, fun _ => rfl⟩⟩)
        · replace hg := of_decide_eq_false hg
          refine WC_skip ?_
          refine WQ_blk ?_
          refine WQ_code ?_
          refine WC_region ?_
          refine WL_execS htb 2 [21, 20, 19, 10, 9, 8, 1] [] ⟨[(21, (iI (IntKind.i64.wrap (((j : Nat) : Int) + 1)))), (20, (iN n14)), (19, (sS (some q18) n14 c15)), (10, (iN i)), (9, (iN n_g)), (8, (sS (some q5) n_g c_g)), (1, (.p 0 0))], [], 2, [], [(0, bk2, (.cells 78 [(sS (some q5) n_g c_g)]))]⟩ (by kernel_rfl) ?_
          refine WL_nil ?_
          refine WK_env [(21, (iN (j + 1))), (20, (iN n14)), (19, (sS (some q18) n14 c15)), (10, (iN i)), (9, (iN n_g)), (8, (sS (some q5) n_g c_g)), (1, (.p 0 0))] (fun ρ => ⟨rfl, (congrArg (Value.int .i64) (by rw [wrap_id (by omega)]; first | rfl | omega)), ⟨rfl, rfl, ⟨rfl, rfl, ⟨rfl, rfl, ⟨rfl, rfl, ⟨rfl, rfl, ⟨rfl, rfl, trivial⟩⟩⟩⟩⟩⟩⟩) ?_
          refine WK_keep [21, 20, 19, 10, 9, 8, 1] [] rfl rfl ?_
          exact WQ_next ((j + 1)) (by show n14 - (j + 1) < n14 - j; omega) ⟨hc17, ⟨by omega, all_step hx19 hm (by omega)⟩⟩ (fun ρ a w h => h)
      · replace he := of_decide_eq_false he
        refine WC_exit ?_
        refine WQ_then_exit ?_
        refine WQ_then_exit ?_
        refine WQ_hit ?_
        refine WQ_blk ?_
        refine WQ_code ?_
        refine WC_region ?_
        refine WL_execS htb 2 [10, 9, 8, 1] [] ⟨[(10, (iI (IntKind.i64.wrap (((i : Nat) : Int) + 1)))), (9, (iN n_g)), (8, (sS (some q5) n_g c_g)), (1, (.p 0 0))], [], 2, [], [(0, bk2, (.cells 78 [(sS (some q5) n_g c_g)]))]⟩ (by kernel_rfl) ?_
        refine WL_nil ?_
        refine WK_env [(10, (iN (i + 1))), (9, (iN n_g)), (8, (sS (some q5) n_g c_g)), (1, (.p 0 0))] (fun ρ => ⟨rfl, (congrArg (Value.int .i64) (by rw [wrap_id (by omega)]; first | rfl | omega)), ⟨rfl, rfl, ⟨rfl, rfl, ⟨rfl, rfl, trivial⟩⟩⟩⟩) ?_
        have htk : x10.take j = x10 := List.take_of_length_le (by omega)
        rw [htk] at hm
        refine WK_keep [10, 9, 8, 1] [] rfl rfl ?_
        exact WQ_next ((i + 1)) (by show n_g - (i + 1) < n_g - i; omega) ⟨hc4, ⟨by omega, all_step hx6 hn (fun h => h.elim (fun h => by have h' : 30 < x10.length := h; omega) (fun ⟨a, ha, hl⟩ => hm a ha hl))⟩⟩ (fun ρ a w h => h)
  · replace hc := of_decide_eq_false hc
    refine WC_exit ?_
    refine WQ_then_exit ?_
    refine WQ_then_exit ?_
    refine WQ_hit ?_
    refine WQ_code ?_
    refine WC_seq (WC_region ?_)
    refine WL_execS htb 5 [2] [] ⟨[(2, (bB (decide ((((n_g : Nat) : Int) : Int) > 60))))], [], 1, [], [(0, bk2, (.cells 78 [(sS A_g n_g c_g)]))]⟩ (by kernel_rfl) ?_
    refine WL_nil ?_
    refine WQ_code ?_
    refine WC_ret ?_
    rw [List.take_of_length_le (by omega)] at hn
    exact WQ_done htb [(bB (decide ((((n_g : Nat) : Int) : Int) > 60)))] _ (.inl rfl) rfl (by kernel_rfl) (fun ρ w hW => ⟨(decide ((((n_g : Nat) : Int) : Int) > 60)), rfl, ⟨fun h => .inr (by have := of_decide_eq_true h; omega), fun h => h.elim (fun ⟨x, hx, hl⟩ => absurd hl (hn x hx)) (fun h => decide_eq_true (by omega))⟩⟩)

end Go.Proofs.Ytbpajkjolhoflaa.Sym
