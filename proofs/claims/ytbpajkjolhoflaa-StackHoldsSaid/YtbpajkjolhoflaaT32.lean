/- Walks of functions that the laws of this seat reach, printed by a program of this session's. -/
import Derived.Test.YtbpajkjolhoflaaT31
import Derived.Test.YtbpajkjolhoflaaSymL
import Derived.Test.YtbpajkjolhoflaaPl
import Derived.Laws.Strings
import Derived.WideShapes
set_option linter.unusedSimpArgs false
set_option linter.unusedVariables false
set_option maxHeartbeats 4000000
namespace Go.Proofs.Ytbpajkjolhoflaa.Sym
open Go Go.Proofs Go.RowKit
def symN (tk nm : List ByteArray) (n : ByteArray) : Int := if placeB tk n < 0 then -1 - placeB nm n else placeB tk n
theorem symN_nm {tk nm : List ByteArray} {n : ByteArray} (h : placeB tk n < 0) : symN tk nm n = -1 - placeB nm n := by unfold symN; rw [if_pos h]
theorem symN_tk {tk nm : List ByteArray} {n : ByteArray} (h : 0 ≤ placeB tk n) : symN tk nm n = placeB tk n := by unfold symN; rw [if_neg (by omega)]
theorem number_ok {w : World} {G : Heap} (hG : Has w G) {g : (List (ByteArray × (List (List ByteArray))))} {A_g : Option Addr} {n_g : Nat} {c_g : Nat} {tk : (List ByteArray)} {A_tk : Option Addr} {n_tk : Nat} {c_tk : Nat} (h_g : Sl (tPair tStr (tSlice (tSlice tStr))) G A_g n_g c_g g) (h_tk : Sl tStr G A_tk n_tk c_tk tk) (hg : SmallG g) (htk : tk.length ≤ 1000) :
    Calls Try.prog 50 #[(.agg #[.slice A_g n_g c_g]), (.slice A_tk n_tk c_tk)] w (Ret w G fun v G' => ∃ (tk2 : (List ByteArray)) (A_tk2 : Option Addr) (n_tk2 : Nat) (c_tk2 : Nat) (nm2 : (List ByteArray)) (A_nm2 : Option Addr) (n_nm2 : Nat) (c_nm2 : Nat) (rs2 : (List (List (List Int)))) (A_rs2 : Option Addr) (n_rs2 : Nat) (c_rs2 : Nat) (e : Int), v = .tuple #[.agg #[.slice A_tk2 n_tk2 c_tk2, .slice A_nm2 n_nm2 c_nm2, .slice A_rs2 n_rs2 c_rs2], .int .i64 e] ∧ (Sl tStr G' A_tk2 n_tk2 c_tk2 tk2) ∧ (Sl tStr G' A_nm2 n_nm2 c_nm2 nm2) ∧ (Sl (tSlice (tSlice (tInt .i64))) G' A_rs2 n_rs2 c_rs2 rs2) ∧ (-9223372036854775808 ≤ e ∧ e ≤ 9223372036854775807) ∧ (e = 0 → tk2 = tk ∧ nm2 = g.map Prod.fst ∧ rs2 = g.map (fun x => x.2.map fun a => a.map (symN tk (g.map Prod.fst))))) := by
  have lh_g := h_g.len'
  have lh_tk := h_tk.len'
  refine enter [(.agg [(sS A_g n_g c_g)]), (sS A_tk n_tk c_tk)] 107 Try.func50 rfl rfl rfl rfl hG ?_
  have hg1 := hg.1
  refine WC_seq (WC_region ?_)
  refine WL_execS htb 3 [4, 2, 1] [1, 0] ⟨[(4, (.p 1 0)), (2, (.p 0 0)), (1, (sS A_tk n_tk c_tk))], [(1, (.cells 35 [(sS none 0 0), (sS none 0 0), (sS none 0 0)])), (0, (.cells 78 [(sS A_g n_g c_g)]))], 2, [], []⟩ (by kernel_rfl) ?_
  refine WL_nil ?_
  refine WQ_code ?_
  refine WC_seq ?_
  refine WC_seq (WC_region ?_)
  refine WL_execS htb 1 [19, 4, 2, 1] [1, 0] ⟨[(19, (.agg [(sS A_g n_g c_g)])), (4, (.p 1 0)), (2, (.p 0 0)), (1, (sS A_tk n_tk c_tk))], [(1, (.cells 35 [(sS none 0 0), (sS none 0 0), (sS none 0 0)])), (0, (.cells 78 [(sS A_g n_g c_g)]))], 2, [], []⟩ (by kernel_rfl) ?_
  refine WL_op (WOp_call 66 [(.agg [(sS A_g n_g c_g)])] (by kernel_rfl) (goes_of Try.func66 rfl rfl) (fun ρ w hW => check7_ok hW.has (g := g) h_g) ?_)
  intro G1 v hle hΦ
  replace h_g := h_g.mono hle
  replace h_tk := h_tk.mono hle
  obtain ⟨r1, rfl, h_r1, hR2⟩ := hΦ
  refine WL_execS htb 1 [6, 4, 2, 1] [1, 0] ⟨[(6, (iI r1)), (4, (.p 1 0)), (2, (.p 0 0)), (1, (sS A_tk n_tk c_tk))], [(1, (.cells 35 [(sS none 0 0), (sS none 0 0), (sS none 0 0)])), (0, (.cells 78 [(sS A_g n_g c_g)]))], 2, [], []⟩ (by kernel_rfl) ?_
  refine WL_nil ?_
  refine WQ_code ?_
  refine WC_seq (WC_region ?_)
  refine WL_execS htb 2 [22, 6, 4, 2, 1] [1, 0] ⟨[(22, (bB ((r1 : Int) != 0))), (6, (iI r1)), (4, (.p 1 0)), (2, (.p 0 0)), (1, (sS A_tk n_tk c_tk))], [(1, (.cells 35 [(sS none 0 0), (sS none 0 0), (sS none 0 0)])), (0, (.cells 78 [(sS A_g n_g c_g)]))], 2, [], []⟩ (by kernel_rfl) ?_
  refine WL_nil ?_
  refine WQ_code ?_
  refine WC_cond (b := ((r1 : Int) != 0)) rfl (fun ha => ?_) (fun ha => ?_)
  · replace ha := bne_iff_ne.1 ha
    refine WC_seq (WC_region ?_)
    refine WL_execS htb 4 [5, 4] [1] ⟨[(5, (iI r1)), (4, (.p 1 0))], [(1, (.cells 35 [(sS none 0 0), (sS none 0 0), (sS none 0 0)]))], 2, [], []⟩ (by kernel_rfl) ?_
    refine WL_nil ?_
    refine WQ_code ?_
    refine WC_ret ?_
    refine WQ_then_ret ?_
    exact WQ_done htb [(.agg [(sS none 0 0), (sS none 0 0), (sS none 0 0)]), (iI r1)] _ (.inl rfl) rfl (by kernel_rfl) (fun ρ w hW => ⟨[], _, _, _, [], _, _, _, [], _, _, _, r1, rfl, (Sl.none0 _ _), (Sl.none0 _ _), (Sl.none0 _ _), h_r1, (fun h => absurd h (by simpa using ha))⟩)
  · replace ha := (bne_eq_false_iff_eq.1) ha
    refine WC_skip ?_
    refine WQ_code ?_
    refine WC_seq ?_
    refine WC_seq (WC_region ?_)
    refine WL_execS htb 3 [27, 26, 25, 4, 2, 1] [1, 0] ⟨[(27, (iI 0)), (26, (iN n_tk)), (25, (sS A_tk n_tk c_tk)), (4, (.p 1 0)), (2, (.p 0 0)), (1, (sS A_tk n_tk c_tk))], [(1, (.cells 35 [(sS none 0 0), (sS none 0 0), (sS none 0 0)])), (0, (.cells 78 [(sS A_g n_g c_g)]))], 2, [], []⟩ (by kernel_rfl) ?_
    refine WL_nil ?_
    refine WQ_code ?_
    refine WC_block ?_
    refine WK_freeze 0 rfl rfl rfl rfl ?_
    intro bk4 G3 hle hbk4
    replace h_g := h_g.mono hle
    replace h_tk := h_tk.mono hle
    have hz := FZ.cons (h := 0) hbk4 rfl (FZ.nil _)
    refine WK_keep [27, 26, 25, 4, 2, 1] [1] rfl rfl ?_
    refine WK_env [(27, (iN 0)), (26, (iN n_tk)), (25, (sS A_tk n_tk c_tk)), (4, (.p 1 0)), (2, (.p 0 0)), (1, (sS A_tk n_tk c_tk))] (fun ρ => ⟨rfl, rfl, ⟨rfl, rfl, ⟨rfl, rfl, ⟨rfl, rfl, ⟨rfl, rfl, ⟨rfl, rfl, trivial⟩⟩⟩⟩⟩⟩) ?_
    refine WC_loop (ι := Nat) (fun i G5 => Le G3 G5 ∧ (i ≤ n_tk)) (fun i => ⟨[(27, (iN i)), (26, (iN n_tk)), (25, (sS A_tk n_tk c_tk)), (4, (.p 1 0)), (2, (.p 0 0)), (1, (sS A_tk n_tk c_tk))], [(1, (.cells 35 [(sS none 0 0), (sS none 0 0), (sS none 0 0)]))], 2, [], [(0, bk4, (.cells 78 [(sS A_g n_g c_g)]))]⟩) (fun i => n_tk - i) (0) ⟨Le.refl _, Nat.zero_le _⟩ rfl ?_
    rintro i G5 ⟨hle, hF⟩
    show WC _ _ _ _ _ ⟨[(27, (iN i)), (26, (iN n_tk)), (25, (sS A_tk n_tk c_tk)), (4, (.p 1 0)), (2, (.p 0 0)), (1, (sS A_tk n_tk c_tk))], [(1, (.cells 35 [(sS none 0 0), (sS none 0 0), (sS none 0 0)]))], 2, [], [(0, bk4, (.cells 78 [(sS A_g n_g c_g)]))]⟩ _
    replace h_g := h_g.mono hle
    replace h_tk := h_tk.mono hle
    replace hz := hz.mono hle
    have hc6 := hle
    have hi := hF
    refine WC_seq (WC_region ?_)
    refine WL_execS htb 1 [28, 27, 26, 25, 4, 2, 1] [1] ⟨[(28, (bB (decide ((((i : Nat) : Int) : Int) < ((n_tk : Nat) : Int))))), (27, (iN i)), (26, (iN n_tk)), (25, (sS A_tk n_tk c_tk)), (4, (.p 1 0)), (2, (.p 0 0)), (1, (sS A_tk n_tk c_tk))], [(1, (.cells 35 [(sS none 0 0), (sS none 0 0), (sS none 0 0)]))], 2, [], [(0, bk4, (.cells 78 [(sS A_g n_g c_g)]))]⟩ (by kernel_rfl) ?_
    refine WL_nil ?_
    refine WQ_code ?_
    refine WC_seq ?_
    refine WC_cond (b := (decide ((((i : Nat) : Int) : Int) < ((n_tk : Nat) : Int)))) rfl (fun hc => ?_) (fun hc => ?_)
    · replace hc := of_decide_eq_true hc
      refine WC_skip ?_
      refine WQ_code ?_
      refine WC_seq ?_
      refine WC_block ?_
      refine WC_seq (WC_region ?_)
      refine WL_execS htb 1 [29, 27, 26, 25, 4, 2, 1] [1] ⟨[(29, (iN i)), (27, (iN i)), (26, (iN n_tk)), (25, (sS A_tk n_tk c_tk)), (4, (.p 1 0)), (2, (.p 0 0)), (1, (sS A_tk n_tk c_tk))], [(1, (.cells 35 [(sS none 0 0), (sS none 0 0), (sS none 0 0)]))], 2, [], [(0, bk4, (.cells 78 [(sS A_g n_g c_g)]))]⟩ (by kernel_rfl) ?_
      obtain ⟨q7, rfl⟩ := h_tk.ptr (by omega)
      obtain ⟨x10, _, hx8, ⟨rfl, hn11⟩, at9⟩ := h_tk.get i (by omega)
      replace at9 : At G5 (q7.add (i * 1)) [.string x10] := at9
      refine WL_op (WOp_idx htb q7 n_tk ((i : Nat) : Int) 1 (by kernel_rfl) (by omega) (by omega) ?_)
      refine WL_op (WOp_ld htb (q7.add (i * 1)) false 1 [.string x10] (by kernel_rfl) at9 rfl (by decide) ?_)
      refine WL_execS htb 2 [8, 7, 27, 26, 25, 4, 2, 1] [1] ⟨[(8, (tS x10)), (7, (iN i)), (27, (iN i)), (26, (iN n_tk)), (25, (sS (some q7) n_tk c_tk)), (4, (.p 1 0)), (2, (.p 0 0)), (1, (sS (some q7) n_tk c_tk))], [(1, (.cells 35 [(sS none 0 0), (sS none 0 0), (sS none 0 0)]))], 2, [], [(0, bk4, (.cells 78 [(sS A_g n_g c_g)]))]⟩ (by kernel_rfl) ?_
      refine WL_nil ?_
      refine WQ_code ?_
      refine WC_seq (WC_region ?_)
      refine WL_execS htb 1 [32, 8, 7, 27, 26, 25, 4, 2, 1] [1] ⟨[(32, (tS x10)), (8, (tS x10)), (7, (iN i)), (27, (iN i)), (26, (iN n_tk)), (25, (sS (some q7) n_tk c_tk)), (4, (.p 1 0)), (2, (.p 0 0)), (1, (sS (some q7) n_tk c_tk))], [(1, (.cells 35 [(sS none 0 0), (sS none 0 0), (sS none 0 0)]))], 2, [], [(0, bk4, (.cells 78 [(sS A_g n_g c_g)]))]⟩ (by kernel_rfl) ?_
      refine WL_op (WOp_call 67 [(tS x10)] (by kernel_rfl) (goes_of Try.func67 rfl rfl) (fun ρ w hW => isName_ok hW.has (s := x10) hn11) ?_)
      intro G2 v hle hΦ
      replace hc6 := Le.trans hc6 hle
      replace h_g := h_g.mono hle
      replace h_tk := h_tk.mono hle
      replace hz := hz.mono hle
      obtain ⟨r12, rfl, hR13⟩ := hΦ
      refine WL_execS htb 2 [35, 8, 7, 27, 26, 25, 4, 2, 1] [1] ⟨[(35, (bB (!r12))), (8, (tS x10)), (7, (iN i)), (27, (iN i)), (26, (iN n_tk)), (25, (sS (some q7) n_tk c_tk)), (4, (.p 1 0)), (2, (.p 0 0)), (1, (sS (some q7) n_tk c_tk))], [(1, (.cells 35 [(sS none 0 0), (sS none 0 0), (sS none 0 0)]))], 2, [], [(0, bk4, (.cells 78 [(sS A_g n_g c_g)]))]⟩ (by kernel_rfl) ?_
      refine WK_split 35 (!r12) rfl (fun hd => ?_) (fun hd => ?_)
      · rw [Bool.not_eq_true'] at hd
        refine WK_keep [35, 8, 7, 27, 26, 25, 4, 2, 1] [1] rfl rfl ?_
        refine WL_execS htb 6 [41, 27, 26, 25, 4, 2, 1] [1] ⟨[(41, (bB true)), (27, (iN i)), (26, (iN n_tk)), (25, (sS (some q7) n_tk c_tk)), (4, (.p 1 0)), (2, (.p 0 0)), (1, (sS (some q7) n_tk c_tk))], [(1, (.cells 35 [(sS none 0 0), (sS none 0 0), (sS none 0 0)]))], 2, [], [(0, bk4, (.cells 78 [(sS A_g n_g c_g)]))]⟩ (by kernel_rfl) ?_
        refine WL_nil ?_
        refine WQ_code ?_
        refine WC_cond (b := true) rfl (fun _ => ?_) (fun h => by cases h)
        refine WC_seq (WC_region ?_)
        refine WL_execS htb 3 [5, 4] [1] ⟨[(5, (iI 1)), (4, (.p 1 0))], [(1, (.cells 35 [(sS none 0 0), (sS none 0 0), (sS none 0 0)]))], 2, [], [(0, bk4, (.cells 78 [(sS A_g n_g c_g)]))]⟩ (by kernel_rfl) ?_
        refine WL_nil ?_
        refine WQ_code ?_
        refine WC_ret ?_
        refine WQ_blk_ret ?_
        refine WQ_then_ret ?_
        refine WQ_then_ret ?_
        refine WQ_blk_ret ?_
        refine WQ_then_ret ?_
        exact WQ_done htb [(.agg [(sS none 0 0), (sS none 0 0), (sS none 0 0)]), (iI 1)] _ (.inl rfl) rfl (by kernel_rfl) (fun ρ w hW => ⟨[], _, _, _, [], _, _, _, [], _, _, _, 1, rfl, (Sl.none0 _ _), (Sl.none0 _ _), (Sl.none0 _ _), (by omega), (fun h => by cases h)⟩)
      · rw [Bool.not_eq_false'] at hd
        refine WK_keep [35, 8, 7, 27, 26, 25, 4, 2, 1] [1] rfl rfl ?_
        refine WL_execS htb 2 [37, 36, 35, 8, 27, 26, 25, 4, 2, 1] [1] ⟨[(37, (iN i)), (36, (sS (some q7) n_tk c_tk)), (35, (bB false)), (8, (tS x10)), (27, (iN i)), (26, (iN n_tk)), (25, (sS (some q7) n_tk c_tk)), (4, (.p 1 0)), (2, (.p 0 0)), (1, (sS (some q7) n_tk c_tk))], [(1, (.cells 35 [(sS none 0 0), (sS none 0 0), (sS none 0 0)]))], 2, [], [(0, bk4, (.cells 78 [(sS A_g n_g c_g)]))]⟩ (by kernel_rfl) ?_
        obtain ⟨A14, hA15⟩ : ∃ A, sliceAddr (some q7) c_tk 0 1 = A := ⟨_, rfl⟩
        have hs16 := h_tk.part 0 i (by omega) (by omega) hA15
        refine WL_op (WOp_sl htb (some q7) n_tk c_tk 0 i 1 (by kernel_rfl) (by omega) (by omega) hA15 ?_)
        have lhs16 := hs16.len'
        refine WL_execS htb 1 [39, 38, 35, 27, 26, 25, 4, 2, 1] [1] ⟨[(39, (tS x10)), (38, (sS A14 (i - 0) (c_tk - 0))), (35, (bB false)), (27, (iN i)), (26, (iN n_tk)), (25, (sS (some q7) n_tk c_tk)), (4, (.p 1 0)), (2, (.p 0 0)), (1, (sS (some q7) n_tk c_tk))], [(1, (.cells 35 [(sS none 0 0), (sS none 0 0), (sS none 0 0)]))], 2, [], [(0, bk4, (.cells 78 [(sS A_g n_g c_g)]))]⟩ (by kernel_rfl) ?_
        refine WL_op (WOp_call 68 [(sS A14 (i - 0) (c_tk - 0)), (tS x10)] (by kernel_rfl) (goes_of Try.func68 rfl rfl) (fun ρ w hW => has_ok hW.has (xs := ((tk.take i).drop 0)) (x := x10) hs16 hn11) ?_)
        intro G3 v hle hΦ
        replace hc6 := Le.trans hc6 hle
        replace h_g := h_g.mono hle
        replace h_tk := h_tk.mono hle
        replace hs16 := hs16.mono hle
        replace hz := hz.mono hle
        obtain ⟨r17, rfl, hR18⟩ := hΦ
        refine WL_execS htb 1 [41, 27, 26, 25, 4, 2, 1] [1] ⟨[(41, (bB r17)), (27, (iN i)), (26, (iN n_tk)), (25, (sS (some q7) n_tk c_tk)), (4, (.p 1 0)), (2, (.p 0 0)), (1, (sS (some q7) n_tk c_tk))], [(1, (.cells 35 [(sS none 0 0), (sS none 0 0), (sS none 0 0)]))], 2, [], [(0, bk4, (.cells 78 [(sS A_g n_g c_g)]))]⟩ (by kernel_rfl) ?_
        refine WL_nil ?_
        refine WQ_code ?_
        refine WC_cond (b := r17) rfl (fun he => ?_) (fun he => ?_)
        · skip
          refine WC_seq (WC_region ?_)
          refine WL_execS htb 3 [5, 4] [1] ⟨[(5, (iI 1)), (4, (.p 1 0))], [(1, (.cells 35 [(sS none 0 0), (sS none 0 0), (sS none 0 0)]))], 2, [], [(0, bk4, (.cells 78 [(sS A_g n_g c_g)]))]⟩ (by kernel_rfl) ?_
          refine WL_nil ?_
          refine WQ_code ?_
          refine WC_ret ?_
          refine WQ_blk_ret ?_
          refine WQ_then_ret ?_
          refine WQ_then_ret ?_
          refine WQ_blk_ret ?_
          refine WQ_then_ret ?_
          exact WQ_done htb [(.agg [(sS none 0 0), (sS none 0 0), (sS none 0 0)]), (iI 1)] _ (.inl rfl) rfl (by kernel_rfl) (fun ρ w hW => ⟨[], _, _, _, [], _, _, _, [], _, _, _, 1, rfl, (Sl.none0 _ _), (Sl.none0 _ _), (Sl.none0 _ _), (by omega), (fun h => by cases h)⟩)
        · skip
          refine WC_skip ?_
          refine WQ_blk ?_
          refine WQ_code ?_
          refine WC_region ?_
          refine WL_execS htb 2 [27, 26, 25, 4, 2, 1] [1] ⟨[(27, (iI (IntKind.i64.wrap (((i : Nat) : Int) + 1)))), (26, (iN n_tk)), (25, (sS (some q7) n_tk c_tk)), (4, (.p 1 0)), (2, (.p 0 0)), (1, (sS (some q7) n_tk c_tk))], [(1, (.cells 35 [(sS none 0 0), (sS none 0 0), (sS none 0 0)]))], 2, [], [(0, bk4, (.cells 78 [(sS A_g n_g c_g)]))]⟩ (by kernel_rfl) ?_
          refine WL_nil ?_
          refine WK_env [(27, (iN (i + 1))), (26, (iN n_tk)), (25, (sS (some q7) n_tk c_tk)), (4, (.p 1 0)), (2, (.p 0 0)), (1, (sS (some q7) n_tk c_tk))] (fun ρ => ⟨rfl, (congrArg (Value.int .i64) (by rw [wrap_id (by omega)]; first | rfl | omega)), ⟨rfl, rfl, ⟨rfl, rfl, ⟨rfl, rfl, ⟨rfl, rfl, ⟨rfl, rfl, trivial⟩⟩⟩⟩⟩⟩) ?_
          refine WK_keep [27, 26, 25, 4, 2, 1] [1] rfl rfl ?_
          exact WQ_next ((i + 1)) (by show n_tk - (i + 1) < n_tk - i; omega) ⟨hc6, by omega⟩ (fun ρ a w h => h)
    · replace hc := of_decide_eq_false hc
      refine WC_exit ?_
      refine WQ_then_exit ?_
      refine WQ_then_exit ?_
      refine WQ_hit ?_
      refine WQ_code ?_
      refine WC_seq ?_
      refine WC_seq (WC_region ?_)
      refine WL_execS htb 3 [46, 4, 2, 1] [1] ⟨[(46, (bB (decide ((((n_tk : Nat) : Int) : Int) > 60)))), (4, (.p 1 0)), (2, (.p 0 0)), (1, (sS A_tk n_tk c_tk))], [(1, (.cells 35 [(sS none 0 0), (sS none 0 0), (sS none 0 0)]))], 2, [], [(0, bk4, (.cells 78 [(sS A_g n_g c_g)]))]⟩ (by kernel_rfl) ?_
      refine WL_nil ?_
      refine WQ_code ?_
      refine WC_cond (b := (decide ((((n_tk : Nat) : Int) : Int) > 60))) rfl (fun hl => ?_) (fun hl => ?_)
      · replace hl := of_decide_eq_true hl
        refine WC_seq (WC_region ?_)
        refine WL_execS htb 3 [5, 4] [1] ⟨[(5, (iI 2)), (4, (.p 1 0))], [(1, (.cells 35 [(sS none 0 0), (sS none 0 0), (sS none 0 0)]))], 2, [], [(0, bk4, (.cells 78 [(sS A_g n_g c_g)]))]⟩ (by kernel_rfl) ?_
        refine WL_nil ?_
        refine WQ_code ?_
        refine WC_ret ?_
        refine WQ_then_ret ?_
        exact WQ_done htb [(.agg [(sS none 0 0), (sS none 0 0), (sS none 0 0)]), (iI 2)] _ (.inl rfl) rfl (by kernel_rfl) (fun ρ w hW => ⟨[], _, _, _, [], _, _, _, [], _, _, _, 2, rfl, (Sl.none0 _ _), (Sl.none0 _ _), (Sl.none0 _ _), (by omega), (fun h => by cases h)⟩)
      · replace hl := of_decide_eq_false hl
        refine WC_skip ?_
        refine WQ_code ?_
        refine WC_seq ?_
        refine WC_seq (WC_region ?_)
        refine WL_execS htb 2 [49, 48, 4, 2, 1] [1] ⟨[(49, (sS A_tk n_tk c_tk)), (48, (.agg [(sS A_g n_g c_g)])), (4, (.p 1 0)), (2, (.p 0 0)), (1, (sS A_tk n_tk c_tk))], [(1, (.cells 35 [(sS none 0 0), (sS none 0 0), (sS none 0 0)]))], 2, [], [(0, bk4, (.cells 78 [(sS A_g n_g c_g)]))]⟩ (by kernel_rfl) ?_
        refine WL_op (WOp_call 69 [(.agg [(sS A_g n_g c_g)]), (sS A_tk n_tk c_tk)] (by kernel_rfl) (goes_of Try.func69 rfl rfl) (fun ρ w hW => flaws_ok hW.has (g := g) (tk := tk) h_g h_tk hg htk) ?_)
        intro G2 v hle hΦ
        replace hc6 := Le.trans hc6 hle
        replace h_g := h_g.mono hle
        replace h_tk := h_tk.mono hle
        replace hz := hz.mono hle
        obtain ⟨r7, A_r7, n_r7, c_r7, rfl, h_r7, hR8⟩ := hΦ
        have lh_r7 := h_r7.len'
        refine WL_execS htb 2 [52, 4, 2, 1] [1] ⟨[(52, (bB (decide ((((n_r7 : Nat) : Int) : Int) > 0)))), (4, (.p 1 0)), (2, (.p 0 0)), (1, (sS A_tk n_tk c_tk))], [(1, (.cells 35 [(sS none 0 0), (sS none 0 0), (sS none 0 0)]))], 2, [], [(0, bk4, (.cells 78 [(sS A_g n_g c_g)]))]⟩ (by kernel_rfl) ?_
        refine WL_nil ?_
        refine WQ_code ?_
        refine WC_cond (b := (decide ((((n_r7 : Nat) : Int) : Int) > 0))) rfl (fun hf => ?_) (fun hf => ?_)
        · replace hf := of_decide_eq_true hf
          refine WC_seq (WC_region ?_)
          refine WL_execS htb 3 [5, 4] [1] ⟨[(5, (iI 80)), (4, (.p 1 0))], [(1, (.cells 35 [(sS none 0 0), (sS none 0 0), (sS none 0 0)]))], 2, [], [(0, bk4, (.cells 78 [(sS A_g n_g c_g)]))]⟩ (by kernel_rfl) ?_
          refine WL_nil ?_
          refine WQ_code ?_
          refine WC_ret ?_
          refine WQ_then_ret ?_
          exact WQ_done htb [(.agg [(sS none 0 0), (sS none 0 0), (sS none 0 0)]), (iI 80)] _ (.inl rfl) rfl (by kernel_rfl) (fun ρ w hW => ⟨[], _, _, _, [], _, _, _, [], _, _, _, 80, rfl, (Sl.none0 _ _), (Sl.none0 _ _), (Sl.none0 _ _), (by omega), (fun h => by cases h)⟩)
        · replace hf := of_decide_eq_false hf
          refine WC_skip ?_
          refine WQ_code ?_
          refine WK_keep [4, 2, 1] [1] rfl rfl ?_
          refine WC_seq (WC_draw mixed ?_)
          refine WD_takeL htb rfl (fun _ _ _ _ _ h => h) (Le.refl _) [0, 2] (fuel := 5) (listed' := bts 7 5) (S' := ⟨[(56, (.agg [(sS A_g n_g c_g)])), (54, (sS A_tk n_tk c_tk)), (4, (.p 1 0)), (2, (.p 0 0)), (1, (sS A_tk n_tk c_tk))], [(1, (.cells 35 [(sS none 0 0), (sS none 0 0), (sS none 0 0)]))], 2, [], [(0, bk4, (.cells 78 [(sS A_g n_g c_g)]))]⟩) hz (by kernel_rfl) rfl ?_
          refine WD_join (ι := Option Addr × Nat × Nat × Option Addr × Nat × Nat) (fun (A9, n10, c11, A13, n14, c15) G' => Le G2 G' ∧ Sl tStr G' A9 n10 c11 ([] ++ tk) ∧ Sl tStr G' A13 n14 c15 (g.map Prod.fst)) (fun (A9, n10, c11, A13, n14, c15) => ⟨[(58, (.agg [(sS A9 n10 c11), (sS A13 n14 c15), (sS none 0 0)])), (9, (.p 2 0)), (55, (sS A9 n10 c11)), (57, (sS A13 n14 c15)), (56, (.agg [(sS A_g n_g c_g)])), (54, (sS A_tk n_tk c_tk)), (4, (.p 1 0)), (2, (.p 0 0)), (1, (sS A_tk n_tk c_tk))], [(2, (.cells 35 [(sS none 0 0), (sS none 0 0), (sS none 0 0)])), (1, (.cells 35 [(sS none 0 0), (sS none 0 0), (sS none 0 0)]))], 3, [], [(0, bk4, (.cells 78 [(sS A_g n_g c_g)]))]⟩) 1 #[true, true, true, true, true, true, false] ?cont (fun hK17 => ?now)
          case now =>
            have hc18 := Le.refl G2
            refine WD_two 1 5 (by rfl) (by rfl) (by decide +kernel) ?_ ?_
            · skip
              refine WK_off 9 rfl ?_
              have ho19 : OwnL tStr G2 [] #[] 0 := OwnL.nil _ _
              refine WOp_appendN htb true 2 0 0 A_tk n_tk 9 1 16 (by kernel_rfl) (by kernel_rfl) rfl rfl tStr (xs := []) (ys := tk) ho19 rfl (fun _ => rfl) h_tk.row h_tk.len rfl (by decide) (by simp only [List.length_append, List.length_nil, List.length_drop, List.length_take]; omega) (by unfold big; simp only [List.length_append, List.length_nil, List.length_drop, List.length_take]; omega) (fun z20 arr21 cap22 hz23 ho24 => WD_on (Le.refl _) ?_)
              show WD _ _ _ _ _ _ _ _ _ ⟨[(55, (.ls z20 3 (([] ++ tk).length) cap22)), (56, (.agg [(sS A_g n_g c_g)])), (54, (sS A_tk n_tk c_tk)), (4, (.p 1 0)), (2, (.p 0 0)), (1, (sS A_tk n_tk c_tk))], [(3, (.lst z20 9 arr21)), (1, (.cells 35 [(sS none 0 0), (sS none 0 0), (sS none 0 0)]))], 4, [], [(0, bk4, (.cells 78 [(sS A_g n_g c_g)]))]⟩
              refine WK_freezeL 3 rfl rfl ?_
              intro bk26 G25 hle hbk26
              replace hc6 := Le.trans hc6 hle
              replace hc18 := Le.trans hc18 hle
              replace h_g := h_g.mono hle
              replace h_tk := h_tk.mono hle
              replace hz := hz.mono hle
              obtain ⟨A28, n29, c30, e31, hs27⟩ := OwnL.sl (n := ([] ++ tk).length) ho24 hle hz23 hbk26 rfl
              refine WK_env [(55, (sS A28 n29 c30)), (56, (.agg [(sS A_g n_g c_g)])), (54, (sS A_tk n_tk c_tk)), (4, (.p 1 0)), (2, (.p 0 0)), (1, (sS A_tk n_tk c_tk))] (fun ρ => ⟨rfl, (by exact e31), ⟨rfl, rfl, ⟨rfl, rfl, ⟨rfl, rfl, ⟨rfl, rfl, ⟨rfl, rfl, trivial⟩⟩⟩⟩⟩⟩) ?_
              have lhs27 := hs27.len'
              refine WD_up hle ?_
              refine WD_two 3 5 (by rfl) (by rfl) (by decide +kernel) ?_ ?_
              · skip
                refine WOp_call 70 [(.agg [(sS A_g n_g c_g)])] (by kernel_rfl) (goes_of Try.func70 rfl rfl) (fun ρ w hW => names_ok hW.has (g := g) h_g (by omega)) ?_
                intro G3 v hle hΦ
                replace hc6 := Le.trans hc6 hle
                replace hc18 := Le.trans hc18 hle
                replace h_g := h_g.mono hle
                replace h_tk := h_tk.mono hle
                replace hs27 := hs27.mono hle
                replace hz := hz.mono hle
                obtain ⟨A_r32, n_r32, c_r32, rfl, h_r32, hR33⟩ := hΦ
                have lh_r32 := h_r32.len'
                refine WD_on hle ?_
                refine WD_up hle ?_
                refine WD_takeL htb rfl (fun _ _ _ _ _ h => h) (Le.refl _) [4] (fuel := 2) (listed' := bts 7 31) (S' := ⟨[(58, (.agg [(sS A28 n29 c30), (sS A_r32 n_r32 c_r32), (sS none 0 0)])), (57, (sS A_r32 n_r32 c_r32)), (55, (sS A28 n29 c30)), (56, (.agg [(sS A_g n_g c_g)])), (54, (sS A_tk n_tk c_tk)), (4, (.p 1 0)), (2, (.p 0 0)), (1, (sS A_tk n_tk c_tk))], [(1, (.cells 35 [(sS none 0 0), (sS none 0 0), (sS none 0 0)]))], 4, [], [(0, bk4, (.cells 78 [(sS A_g n_g c_g)]))]⟩) hz (by kernel_rfl) rfl ?_
                refine WD_one 5 (by rfl) (by decide +kernel) (WOp_step htb (S' := ⟨[(9, (.p 4 0)), (58, (.agg [(sS A28 n29 c30), (sS A_r32 n_r32 c_r32), (sS none 0 0)])), (57, (sS A_r32 n_r32 c_r32)), (55, (sS A28 n29 c30)), (56, (.agg [(sS A_g n_g c_g)])), (54, (sS A_tk n_tk c_tk)), (4, (.p 1 0)), (2, (.p 0 0)), (1, (sS A_tk n_tk c_tk))], [(4, (.cells 35 [(sS none 0 0), (sS none 0 0), (sS none 0 0)])), (1, (.cells 35 [(sS none 0 0), (sS none 0 0), (sS none 0 0)]))], 5, [], [(0, bk4, (.cells 78 [(sS A_g n_g c_g)]))]⟩) (by kernel_rfl) (WD_on (Le.refl _) ?_))
                refine WK_keep [58, 9, 55, 57, 56, 54, 4, 2, 1] [4, 1] rfl rfl ?_
                refine WK_ren (T := ⟨[(58, (.agg [(sS A28 n29 c30), (sS A_r32 n_r32 c_r32), (sS none 0 0)])), (9, (.p 2 0)), (55, (sS A28 n29 c30)), (57, (sS A_r32 n_r32 c_r32)), (56, (.agg [(sS A_g n_g c_g)])), (54, (sS A_tk n_tk c_tk)), (4, (.p 1 0)), (2, (.p 0 0)), (1, (sS A_tk n_tk c_tk))], [(2, (.cells 35 [(sS none 0 0), (sS none 0 0), (sS none 0 0)])), (1, (.cells 35 [(sS none 0 0), (sS none 0 0), (sS none 0 0)]))], 3, [], [(0, bk4, (.cells 78 [(sS A_g n_g c_g)]))]⟩) [(2, 4)] rfl rfl rfl rfl rfl rfl ?_
                exact hK17 (A28, n29, c30, A_r32, n_r32, c_r32) G3 ⟨hc18, hs27, h_r32⟩
              · skip
                refine WOp_step htb (S' := ⟨[(9, (.p 4 0)), (55, (sS A28 n29 c30)), (56, (.agg [(sS A_g n_g c_g)])), (54, (sS A_tk n_tk c_tk)), (4, (.p 1 0)), (2, (.p 0 0)), (1, (sS A_tk n_tk c_tk))], [(4, (.cells 35 [(sS none 0 0), (sS none 0 0), (sS none 0 0)])), (1, (.cells 35 [(sS none 0 0), (sS none 0 0), (sS none 0 0)]))], 5, [], [(0, bk4, (.cells 78 [(sS A_g n_g c_g)]))]⟩) (by kernel_rfl) (WD_on (Le.refl _) ?_)
                refine WD_one 3 (by rfl) (by decide +kernel) (WOp_call 70 [(.agg [(sS A_g n_g c_g)])] (by kernel_rfl) (goes_of Try.func70 rfl rfl) (fun ρ w hW => names_ok hW.has (g := g) h_g (by omega)) ?_)
                intro G3 v hle hΦ
                replace hc6 := Le.trans hc6 hle
                replace hc18 := Le.trans hc18 hle
                replace h_g := h_g.mono hle
                replace h_tk := h_tk.mono hle
                replace hs27 := hs27.mono hle
                replace hz := hz.mono hle
                obtain ⟨A_r32, n_r32, c_r32, rfl, h_r32, hR33⟩ := hΦ
                have lh_r32 := h_r32.len'
                refine WD_on hle ?_
                refine WD_up hle ?_
                refine WD_takeL htb rfl (fun _ _ _ _ _ h => h) (Le.refl _) [4] (fuel := 1) (listed' := bts 7 63) (S' := ⟨[(58, (.agg [(sS A28 n29 c30), (sS A_r32 n_r32 c_r32), (sS none 0 0)])), (57, (sS A_r32 n_r32 c_r32)), (9, (.p 4 0)), (55, (sS A28 n29 c30)), (56, (.agg [(sS A_g n_g c_g)])), (54, (sS A_tk n_tk c_tk)), (4, (.p 1 0)), (2, (.p 0 0)), (1, (sS A_tk n_tk c_tk))], [(4, (.cells 35 [(sS none 0 0), (sS none 0 0), (sS none 0 0)])), (1, (.cells 35 [(sS none 0 0), (sS none 0 0), (sS none 0 0)]))], 5, [], [(0, bk4, (.cells 78 [(sS A_g n_g c_g)]))]⟩) hz (by kernel_rfl) rfl ?_
                refine WK_keep [58, 9, 55, 57, 56, 54, 4, 2, 1] [4, 1] rfl rfl ?_
                refine WK_ren (T := ⟨[(58, (.agg [(sS A28 n29 c30), (sS A_r32 n_r32 c_r32), (sS none 0 0)])), (9, (.p 2 0)), (55, (sS A28 n29 c30)), (57, (sS A_r32 n_r32 c_r32)), (56, (.agg [(sS A_g n_g c_g)])), (54, (sS A_tk n_tk c_tk)), (4, (.p 1 0)), (2, (.p 0 0)), (1, (sS A_tk n_tk c_tk))], [(2, (.cells 35 [(sS none 0 0), (sS none 0 0), (sS none 0 0)])), (1, (.cells 35 [(sS none 0 0), (sS none 0 0), (sS none 0 0)]))], 3, [], [(0, bk4, (.cells 78 [(sS A_g n_g c_g)]))]⟩) [(2, 4)] rfl rfl rfl rfl rfl rfl ?_
                exact hK17 (A28, n29, c30, A_r32, n_r32, c_r32) G3 ⟨hc18, hs27, h_r32⟩
            · skip
              refine WOp_step htb (S' := ⟨[(9, (.p 2 0)), (56, (.agg [(sS A_g n_g c_g)])), (54, (sS A_tk n_tk c_tk)), (4, (.p 1 0)), (2, (.p 0 0)), (1, (sS A_tk n_tk c_tk))], [(2, (.cells 35 [(sS none 0 0), (sS none 0 0), (sS none 0 0)])), (1, (.cells 35 [(sS none 0 0), (sS none 0 0), (sS none 0 0)]))], 3, [], [(0, bk4, (.cells 78 [(sS A_g n_g c_g)]))]⟩) (by kernel_rfl) (WD_on (Le.refl _) ?_)
              refine WK_off 9 rfl ?_
              have ho19 : OwnL tStr G2 [] #[] 0 := OwnL.nil _ _
              refine WD_one 1 (by rfl) (by decide +kernel) (WOp_appendN htb true 3 0 0 A_tk n_tk 9 1 16 (by kernel_rfl) (by kernel_rfl) rfl rfl tStr (xs := []) (ys := tk) ho19 rfl (fun _ => rfl) h_tk.row h_tk.len rfl (by decide) (by simp only [List.length_append, List.length_nil, List.length_drop, List.length_take]; omega) (by unfold big; simp only [List.length_append, List.length_nil, List.length_drop, List.length_take]; omega) (fun z20 arr21 cap22 hz23 ho24 => WD_on (Le.refl _) ?_))
              show WD _ _ _ _ _ _ _ _ _ ⟨[(55, (.ls z20 4 (([] ++ tk).length) cap22)), (9, (.p 2 0)), (56, (.agg [(sS A_g n_g c_g)])), (54, (sS A_tk n_tk c_tk)), (4, (.p 1 0)), (2, (.p 0 0)), (1, (sS A_tk n_tk c_tk))], [(4, (.lst z20 9 arr21)), (2, (.cells 35 [(sS none 0 0), (sS none 0 0), (sS none 0 0)])), (1, (.cells 35 [(sS none 0 0), (sS none 0 0), (sS none 0 0)]))], 5, [], [(0, bk4, (.cells 78 [(sS A_g n_g c_g)]))]⟩
              refine WK_freezeL 4 rfl rfl ?_
              intro bk26 G25 hle hbk26
              replace hc6 := Le.trans hc6 hle
              replace hc18 := Le.trans hc18 hle
              replace h_g := h_g.mono hle
              replace h_tk := h_tk.mono hle
              replace hz := hz.mono hle
              obtain ⟨A28, n29, c30, e31, hs27⟩ := OwnL.sl (n := ([] ++ tk).length) ho24 hle hz23 hbk26 rfl
              refine WK_env [(55, (sS A28 n29 c30)), (9, (.p 2 0)), (56, (.agg [(sS A_g n_g c_g)])), (54, (sS A_tk n_tk c_tk)), (4, (.p 1 0)), (2, (.p 0 0)), (1, (sS A_tk n_tk c_tk))] (fun ρ => ⟨rfl, (by exact e31), ⟨rfl, rfl, ⟨rfl, rfl, ⟨rfl, rfl, ⟨rfl, rfl, ⟨rfl, rfl, ⟨rfl, rfl, trivial⟩⟩⟩⟩⟩⟩⟩) ?_
              have lhs27 := hs27.len'
              refine WD_up hle ?_
              refine WD_one 3 (by rfl) (by decide +kernel) (WOp_call 70 [(.agg [(sS A_g n_g c_g)])] (by kernel_rfl) (goes_of Try.func70 rfl rfl) (fun ρ w hW => names_ok hW.has (g := g) h_g (by omega)) ?_)
              intro G3 v hle hΦ
              replace hc6 := Le.trans hc6 hle
              replace hc18 := Le.trans hc18 hle
              replace h_g := h_g.mono hle
              replace h_tk := h_tk.mono hle
              replace hs27 := hs27.mono hle
              replace hz := hz.mono hle
              obtain ⟨A_r32, n_r32, c_r32, rfl, h_r32, hR33⟩ := hΦ
              have lh_r32 := h_r32.len'
              refine WD_on hle ?_
              refine WD_up hle ?_
              refine WD_takeL htb rfl (fun _ _ _ _ _ h => h) (Le.refl _) [4] (fuel := 1) (listed' := bts 7 63) (S' := ⟨[(58, (.agg [(sS A28 n29 c30), (sS A_r32 n_r32 c_r32), (sS none 0 0)])), (57, (sS A_r32 n_r32 c_r32)), (55, (sS A28 n29 c30)), (9, (.p 2 0)), (56, (.agg [(sS A_g n_g c_g)])), (54, (sS A_tk n_tk c_tk)), (4, (.p 1 0)), (2, (.p 0 0)), (1, (sS A_tk n_tk c_tk))], [(2, (.cells 35 [(sS none 0 0), (sS none 0 0), (sS none 0 0)])), (1, (.cells 35 [(sS none 0 0), (sS none 0 0), (sS none 0 0)]))], 5, [], [(0, bk4, (.cells 78 [(sS A_g n_g c_g)]))]⟩) hz (by kernel_rfl) rfl ?_
              refine WK_keep [58, 9, 55, 57, 56, 54, 4, 2, 1] [2, 1] rfl rfl ?_
              refine WK_ren (T := ⟨[(58, (.agg [(sS A28 n29 c30), (sS A_r32 n_r32 c_r32), (sS none 0 0)])), (9, (.p 2 0)), (55, (sS A28 n29 c30)), (57, (sS A_r32 n_r32 c_r32)), (56, (.agg [(sS A_g n_g c_g)])), (54, (sS A_tk n_tk c_tk)), (4, (.p 1 0)), (2, (.p 0 0)), (1, (sS A_tk n_tk c_tk))], [(2, (.cells 35 [(sS none 0 0), (sS none 0 0), (sS none 0 0)])), (1, (.cells 35 [(sS none 0 0), (sS none 0 0), (sS none 0 0)]))], 3, [], [(0, bk4, (.cells 78 [(sS A_g n_g c_g)]))]⟩) [(2, 2)] rfl rfl rfl rfl rfl rfl ?_
              exact hK17 (A28, n29, c30, A_r32, n_r32, c_r32) G3 ⟨hc18, hs27, h_r32⟩
          rintro ⟨A9, n10, c11, A13, n14, c15⟩ G19 ⟨hle, hs12, hs16⟩
          show WK _ _ ⟨[(58, (.agg [(sS A9 n10 c11), (sS A13 n14 c15), (sS none 0 0)])), (9, (.p 2 0)), (55, (sS A9 n10 c11)), (57, (sS A13 n14 c15)), (56, (.agg [(sS A_g n_g c_g)])), (54, (sS A_tk n_tk c_tk)), (4, (.p 1 0)), (2, (.p 0 0)), (1, (sS A_tk n_tk c_tk))], [(2, (.cells 35 [(sS none 0 0), (sS none 0 0), (sS none 0 0)])), (1, (.cells 35 [(sS none 0 0), (sS none 0 0), (sS none 0 0)]))], 3, [], [(0, bk4, (.cells 78 [(sS A_g n_g c_g)]))]⟩ _
          replace hc6 := Le.trans hc6 hle
          replace h_g := h_g.mono hle
          replace h_tk := h_tk.mono hle
          replace hz := hz.mono hle
          have lhs12 := hs12.len'
          have lhs16 := hs16.len'
          refine WD_one 6 (by rfl) (by decide +kernel) (WOp_step htb (S' := ⟨[(58, (.agg [(sS A9 n10 c11), (sS A13 n14 c15), (sS none 0 0)])), (9, (.p 2 0)), (55, (sS A9 n10 c11)), (57, (sS A13 n14 c15)), (56, (.agg [(sS A_g n_g c_g)])), (54, (sS A_tk n_tk c_tk)), (4, (.p 1 0)), (2, (.p 0 0)), (1, (sS A_tk n_tk c_tk))], [(2, (.cells 35 [(sS A9 n10 c11), (sS A13 n14 c15), (sS none 0 0)])), (1, (.cells 35 [(sS none 0 0), (sS none 0 0), (sS none 0 0)]))], 3, [], [(0, bk4, (.cells 78 [(sS A_g n_g c_g)]))]⟩) (by kernel_rfl) (WD_on (Le.refl _) ?_))
          refine WD_done (by decide +kernel) ?_
          refine WK_keep [9, 4, 2, 1] [2, 1] rfl rfl ?_
          refine WQ_code ?_
          refine WC_seq ?_
          refine WC_seq (WC_region ?_)
          refine WL_execS htb 4 [62, 61, 60, 9, 4, 1] [2, 1] ⟨[(62, (iI 0)), (61, (iN n_g)), (60, (sS A_g n_g c_g)), (9, (.p 2 0)), (4, (.p 1 0)), (1, (sS A_tk n_tk c_tk))], [(2, (.cells 35 [(sS A9 n10 c11), (sS A13 n14 c15), (sS none 0 0)])), (1, (.cells 35 [(sS none 0 0), (sS none 0 0), (sS none 0 0)]))], 3, [], [(0, bk4, (.cells 78 [(sS A_g n_g c_g)]))]⟩ (by kernel_rfl) ?_
          refine WL_nil ?_
          refine WQ_code ?_
          refine WC_block ?_
          refine WK_off 63 rfl ?_
          refine WK_own [(3, (.lst true 63 (#[]))), (2, (.cells 35 [(sS A9 n10 c11), (sS A13 n14 c15), (.ls true 3 0 0)])), (1, (.cells 35 [(sS none 0 0), (sS none 0 0), (sS none 0 0)]))] (fun ρ => ⟨rfl, rfl, ⟨rfl, rfl, rfl, ⟨rfl, rfl, rfl, trivial⟩⟩⟩) ?_
          refine WK_keep [62, 61, 60, 9, 4, 1] [3, 2, 1] rfl rfl ?_
          refine WK_env [(62, (iN 0)), (61, (iN n_g)), (60, (sS A_g n_g c_g)), (9, (.p 2 0)), (4, (.p 1 0)), (1, (sS A_tk n_tk c_tk))] (fun ρ => ⟨rfl, rfl, ⟨rfl, rfl, ⟨rfl, rfl, ⟨rfl, rfl, ⟨rfl, rfl, ⟨rfl, rfl, trivial⟩⟩⟩⟩⟩⟩) ?_
          refine WC_loop (ι := Nat × List (List (List Int)) × Bool × Array Value × Nat) (fun (r, acc, z, arr, cap) G520 => Le G19 G520 ∧ (r ≤ n_g ∧ acc = (g.take r).map (fun x => x.2.map fun a => a.map (symN tk (g.map Prod.fst))) ∧ OwnL (tSlice (tSlice (tInt .i64))) G520 acc arr cap ∧ (z = true → acc = []))) (fun (r, acc, z, arr, cap) => ⟨[(62, (iN r)), (61, (iN n_g)), (60, (sS A_g n_g c_g)), (9, (.p 2 0)), (4, (.p 1 0)), (1, (sS A_tk n_tk c_tk))], [(3, (.lst z 63 arr)), (2, (.cells 35 [(sS A9 n10 c11), (sS A13 n14 c15), (.ls z 3 acc.length cap)])), (1, (.cells 35 [(sS none 0 0), (sS none 0 0), (sS none 0 0)]))], 4, [], [(0, bk4, (.cells 78 [(sS A_g n_g c_g)]))]⟩) (fun (r, acc, z, arr, cap) => n_g - r) (0, [], true, #[], 0) ⟨Le.refl _, ⟨Nat.zero_le _, rfl, OwnL.nil _ _, fun _ => rfl⟩⟩ rfl ?_
          rintro ⟨r, acc, z, arr, cap⟩ G520 ⟨hle, hF⟩
          show WC _ _ _ _ _ ⟨[(62, (iN r)), (61, (iN n_g)), (60, (sS A_g n_g c_g)), (9, (.p 2 0)), (4, (.p 1 0)), (1, (sS A_tk n_tk c_tk))], [(3, (.lst z 63 arr)), (2, (.cells 35 [(sS A9 n10 c11), (sS A13 n14 c15), (.ls z 3 acc.length cap)])), (1, (.cells 35 [(sS none 0 0), (sS none 0 0), (sS none 0 0)]))], 4, [], [(0, bk4, (.cells 78 [(sS A_g n_g c_g)]))]⟩ _
          replace hc6 := Le.trans hc6 hle
          replace h_g := h_g.mono hle
          replace h_tk := h_tk.mono hle
          replace hs12 := hs12.mono hle
          replace hs16 := hs16.mono hle
          replace hz := hz.mono hle
          have hc521 := hle
          obtain ⟨hr, hacc, ho, hz0⟩ := hF
          have hla := congrArg List.length hacc
          rw [List.length_map, List.length_take] at hla
          refine WC_seq (WC_region ?_)
          refine WL_execS htb 1 [63, 62, 61, 60, 9, 4, 1] [3, 2, 1] ⟨[(63, (bB (decide ((((r : Nat) : Int) : Int) < ((n_g : Nat) : Int))))), (62, (iN r)), (61, (iN n_g)), (60, (sS A_g n_g c_g)), (9, (.p 2 0)), (4, (.p 1 0)), (1, (sS A_tk n_tk c_tk))], [(3, (.lst z 63 arr)), (2, (.cells 35 [(sS A9 n10 c11), (sS A13 n14 c15), (.ls z 3 acc.length cap)])), (1, (.cells 35 [(sS none 0 0), (sS none 0 0), (sS none 0 0)]))], 4, [], [(0, bk4, (.cells 78 [(sS A_g n_g c_g)]))]⟩ (by kernel_rfl) ?_
          refine WL_nil ?_
          refine WQ_code ?_
          refine WC_seq ?_
          refine WC_cond (b := (decide ((((r : Nat) : Int) : Int) < ((n_g : Nat) : Int)))) rfl (fun hcr => ?_) (fun hcr => ?_)
          · replace hcr := of_decide_eq_true hcr
            refine WC_skip ?_
            refine WQ_code ?_
            refine WC_seq ?_
            refine WC_block ?_
            refine WC_seq (WC_region ?_)
            obtain ⟨q522, rfl⟩ := h_g.ptr (by omega)
            obtain ⟨⟨x525, x527⟩, _, hx523, ⟨_, _, rfl, ⟨rfl, hn526⟩, hr528⟩, at524⟩ := h_g.get r (by omega)
            obtain ⟨A530, n531, c532, rfl, hs529⟩ := Sl.of hr528
            replace hs529 : Sl (tSlice tStr) _ A530 n531 c532 x527 := hs529
            have lhs529 := hs529.len'
            replace at524 : At G520 (q522.add (r * 2)) [.string x525, .slice A530 n531 c532] := at524
            refine WL_op (WOp_idx htb q522 n_g ((r : Nat) : Int) 2 (by kernel_rfl) (by omega) (by omega) ?_)
            refine WL_op (WOp_ld htb (q522.add (r * 2)) true 2 [.string x525, .slice A530 n531 c532] (by kernel_rfl) at524 rfl (by decide) ?_)
            refine WL_execS htb 2 [11, 62, 61, 60, 9, 4, 1] [4, 3, 2, 1] ⟨[(11, (.p 4 0)), (62, (iN r)), (61, (iN n_g)), (60, (sS (some q522) n_g c_g)), (9, (.p 2 0)), (4, (.p 1 0)), (1, (sS A_tk n_tk c_tk))], [(4, (.cells 111 [(tS x525), (sS A530 n531 c532)])), (3, (.lst z 63 arr)), (2, (.cells 35 [(sS A9 n10 c11), (sS A13 n14 c15), (.ls z 3 acc.length cap)])), (1, (.cells 35 [(sS none 0 0), (sS none 0 0), (sS none 0 0)]))], 5, [], [(0, bk4, (.cells 78 [(sS (some q522) n_g c_g)]))]⟩ (by kernel_rfl) ?_
            refine WL_nil ?_
            refine WQ_code ?_
            refine WC_seq (WC_region ?_)
            refine WL_execS htb 1 [12, 11, 62, 61, 60, 9, 4, 1] [4, 3, 2, 1] ⟨[(12, (sS none 0 0)), (11, (.p 4 0)), (62, (iN r)), (61, (iN n_g)), (60, (sS (some q522) n_g c_g)), (9, (.p 2 0)), (4, (.p 1 0)), (1, (sS A_tk n_tk c_tk))], [(4, (.cells 111 [(tS x525), (sS A530 n531 c532)])), (3, (.lst z 63 arr)), (2, (.cells 35 [(sS A9 n10 c11), (sS A13 n14 c15), (.ls z 3 acc.length cap)])), (1, (.cells 35 [(sS none 0 0), (sS none 0 0), (sS none 0 0)]))], 5, [], [(0, bk4, (.cells 78 [(sS (some q522) n_g c_g)]))]⟩ (by kernel_rfl) ?_
            refine WL_nil ?_
            refine WQ_code ?_
            refine WC_seq ?_
            refine WC_seq (WC_region ?_)
            refine WL_execS htb 4 [69, 68, 67, 12, 62, 61, 60, 9, 4, 1] [3, 2, 1] ⟨[(69, (iI 0)), (68, (iN n531)), (67, (sS A530 n531 c532)), (12, (sS none 0 0)), (62, (iN r)), (61, (iN n_g)), (60, (sS (some q522) n_g c_g)), (9, (.p 2 0)), (4, (.p 1 0)), (1, (sS A_tk n_tk c_tk))], [(3, (.lst z 63 arr)), (2, (.cells 35 [(sS A9 n10 c11), (sS A13 n14 c15), (.ls z 3 acc.length cap)])), (1, (.cells 35 [(sS none 0 0), (sS none 0 0), (sS none 0 0)]))], 5, [], [(0, bk4, (.cells 78 [(sS (some q522) n_g c_g)]))]⟩ (by kernel_rfl) ?_
            refine WL_nil ?_
            refine WQ_code ?_
            refine WC_block ?_
            have hs1 : x527.length ≤ 1000 := (hg.2 _ (List.mem_of_getElem? hx523)).1
            refine WK_off 22 rfl ?_
            refine WK_env [(69, (iI 0)), (68, (iN n531)), (67, (sS A530 n531 c532)), (12, (.ls true 5 0 0)), (62, (iN r)), (61, (iN n_g)), (60, (sS (some q522) n_g c_g)), (9, (.p 2 0)), (4, (.p 1 0)), (1, (sS A_tk n_tk c_tk))] (fun ρ => ⟨rfl, rfl, ⟨rfl, rfl, ⟨rfl, rfl, ⟨rfl, rfl, ⟨rfl, rfl, ⟨rfl, rfl, ⟨rfl, rfl, ⟨rfl, rfl, ⟨rfl, rfl, ⟨rfl, rfl, trivial⟩⟩⟩⟩⟩⟩⟩⟩⟩⟩) ?_
            refine WK_keep [69, 68, 67, 12, 62, 61, 60, 9, 4, 1] [5, 3, 2, 1] rfl rfl ?_
            refine WK_env [(69, (iN 0)), (68, (iN n531)), (67, (sS A530 n531 c532)), (12, (.ls true 5 (([] : List (List Int)).length) 0)), (62, (iN r)), (61, (iN n_g)), (60, (sS (some q522) n_g c_g)), (9, (.p 2 0)), (4, (.p 1 0)), (1, (sS A_tk n_tk c_tk))] (fun ρ => ⟨rfl, rfl, ⟨rfl, rfl, ⟨rfl, rfl, ⟨rfl, rfl, ⟨rfl, rfl, ⟨rfl, rfl, ⟨rfl, rfl, ⟨rfl, rfl, ⟨rfl, rfl, ⟨rfl, rfl, trivial⟩⟩⟩⟩⟩⟩⟩⟩⟩⟩) ?_
            refine WC_loop (ι := Nat × List (List Int) × Bool × Array Value × Nat) (fun (k, acc2, z2, arr2, cap2) G533 => Le G520 G533 ∧ (k ≤ n531 ∧ acc2 = (x527.take k).map (fun a => a.map (symN tk (g.map Prod.fst))) ∧ OwnL (tSlice (tInt .i64)) G533 acc2 arr2 cap2 ∧ (z2 = true → acc2 = []))) (fun (k, acc2, z2, arr2, cap2) => ⟨[(69, (iN k)), (68, (iN n531)), (67, (sS A530 n531 c532)), (12, (.ls z2 5 acc2.length cap2)), (62, (iN r)), (61, (iN n_g)), (60, (sS (some q522) n_g c_g)), (9, (.p 2 0)), (4, (.p 1 0)), (1, (sS A_tk n_tk c_tk))], [(5, (.lst z2 22 arr2)), (3, (.lst z 63 arr)), (2, (.cells 35 [(sS A9 n10 c11), (sS A13 n14 c15), (.ls z 3 acc.length cap)])), (1, (.cells 35 [(sS none 0 0), (sS none 0 0), (sS none 0 0)]))], 6, [], [(0, bk4, (.cells 78 [(sS (some q522) n_g c_g)]))]⟩) (fun (k, acc2, z2, arr2, cap2) => n531 - k) (0, ([] : List (List Int)), true, #[], 0) ⟨Le.refl _, ⟨Nat.zero_le _, rfl, OwnL.nil _ _, fun _ => rfl⟩⟩ rfl ?_
            rintro ⟨k, acc2, z2, arr2, cap2⟩ G533 ⟨hle, hF⟩
            show WC _ _ _ _ _ ⟨[(69, (iN k)), (68, (iN n531)), (67, (sS A530 n531 c532)), (12, (.ls z2 5 acc2.length cap2)), (62, (iN r)), (61, (iN n_g)), (60, (sS (some q522) n_g c_g)), (9, (.p 2 0)), (4, (.p 1 0)), (1, (sS A_tk n_tk c_tk))], [(5, (.lst z2 22 arr2)), (3, (.lst z 63 arr)), (2, (.cells 35 [(sS A9 n10 c11), (sS A13 n14 c15), (.ls z 3 acc.length cap)])), (1, (.cells 35 [(sS none 0 0), (sS none 0 0), (sS none 0 0)]))], 6, [], [(0, bk4, (.cells 78 [(sS (some q522) n_g c_g)]))]⟩ _
            replace hc6 := Le.trans hc6 hle
            replace hc521 := Le.trans hc521 hle
            replace h_g := h_g.mono hle
            replace h_tk := h_tk.mono hle
            replace hs12 := hs12.mono hle
            replace hs16 := hs16.mono hle
            replace hs529 := hs529.mono hle
            replace hz := hz.mono hle
            replace ho := ho.mono hle
            have hc534 := hle
            obtain ⟨hk, hacc2, ho2, hz2⟩ := hF
            have hl2 := congrArg List.length hacc2
            rw [List.length_map, List.length_take] at hl2
            refine WC_seq (WC_region ?_)
            refine WL_execS htb 1 [70, 69, 68, 67, 12, 62, 61, 60, 9, 4, 1] [5, 3, 2, 1] ⟨[(70, (bB (decide ((((k : Nat) : Int) : Int) < ((n531 : Nat) : Int))))), (69, (iN k)), (68, (iN n531)), (67, (sS A530 n531 c532)), (12, (.ls z2 5 acc2.length cap2)), (62, (iN r)), (61, (iN n_g)), (60, (sS (some q522) n_g c_g)), (9, (.p 2 0)), (4, (.p 1 0)), (1, (sS A_tk n_tk c_tk))], [(5, (.lst z2 22 arr2)), (3, (.lst z 63 arr)), (2, (.cells 35 [(sS A9 n10 c11), (sS A13 n14 c15), (.ls z 3 acc.length cap)])), (1, (.cells 35 [(sS none 0 0), (sS none 0 0), (sS none 0 0)]))], 6, [], [(0, bk4, (.cells 78 [(sS (some q522) n_g c_g)]))]⟩ (by kernel_rfl) ?_
            refine WL_nil ?_
            refine WQ_code ?_
            refine WC_seq ?_
            refine WC_cond (b := (decide ((((k : Nat) : Int) : Int) < ((n531 : Nat) : Int)))) rfl (fun hck => ?_) (fun hck => ?_)
            · replace hck := of_decide_eq_true hck
              refine WC_skip ?_
              refine WQ_code ?_
              refine WC_seq ?_
              refine WC_block ?_
              refine WC_seq (WC_region ?_)
              obtain ⟨q535, rfl⟩ := hs529.ptr (by omega)
              obtain ⟨x538, _, hx536, hr539, at537⟩ := hs529.get k (by omega)
              obtain ⟨A541, n542, c543, rfl, hs540⟩ := Sl.of hr539
              replace hs540 : Sl tStr _ A541 n542 c543 x538 := hs540
              have lhs540 := hs540.len'
              replace at537 : At G533 (q535.add (k * 1)) [.slice A541 n542 c543] := at537
              refine WL_op (WOp_idx htb q535 n531 ((k : Nat) : Int) 1 (by kernel_rfl) (by omega) (by omega) ?_)
              refine WL_op (WOp_ld htb (q535.add (k * 1)) false 1 [.slice A541 n542 c543] (by kernel_rfl) at537 rfl (by decide) ?_)
              refine WL_execS htb 1 [14, 69, 68, 67, 12, 62, 61, 60, 9, 4, 1] [5, 3, 2, 1] ⟨[(14, (sS A541 n542 c543)), (69, (iN k)), (68, (iN n531)), (67, (sS (some q535) n531 c532)), (12, (.ls z2 5 acc2.length cap2)), (62, (iN r)), (61, (iN n_g)), (60, (sS (some q522) n_g c_g)), (9, (.p 2 0)), (4, (.p 1 0)), (1, (sS A_tk n_tk c_tk))], [(5, (.lst z2 22 arr2)), (3, (.lst z 63 arr)), (2, (.cells 35 [(sS A9 n10 c11), (sS A13 n14 c15), (.ls z 3 acc.length cap)])), (1, (.cells 35 [(sS none 0 0), (sS none 0 0), (sS none 0 0)]))], 6, [], [(0, bk4, (.cells 78 [(sS (some q522) n_g c_g)]))]⟩ (by kernel_rfl) ?_
              refine WL_nil ?_
              refine WQ_code ?_
              refine WC_seq (WC_region ?_)
              refine WL_execS htb 1 [15, 14, 69, 68, 67, 12, 62, 61, 60, 9, 4, 1] [5, 3, 2, 1] ⟨[(15, (sS none 0 0)), (14, (sS A541 n542 c543)), (69, (iN k)), (68, (iN n531)), (67, (sS (some q535) n531 c532)), (12, (.ls z2 5 acc2.length cap2)), (62, (iN r)), (61, (iN n_g)), (60, (sS (some q522) n_g c_g)), (9, (.p 2 0)), (4, (.p 1 0)), (1, (sS A_tk n_tk c_tk))], [(5, (.lst z2 22 arr2)), (3, (.lst z 63 arr)), (2, (.cells 35 [(sS A9 n10 c11), (sS A13 n14 c15), (.ls z 3 acc.length cap)])), (1, (.cells 35 [(sS none 0 0), (sS none 0 0), (sS none 0 0)]))], 6, [], [(0, bk4, (.cells 78 [(sS (some q522) n_g c_g)]))]⟩ (by kernel_rfl) ?_
              refine WL_nil ?_
              refine WQ_code ?_
              refine WC_seq ?_
              refine WC_seq (WC_region ?_)
              refine WL_execS htb 3 [75, 74, 73, 15, 69, 68, 67, 12, 62, 61, 60, 9, 4, 1] [5, 3, 2, 1] ⟨[(75, (iI 0)), (74, (iN n542)), (73, (sS A541 n542 c543)), (15, (sS none 0 0)), (69, (iN k)), (68, (iN n531)), (67, (sS (some q535) n531 c532)), (12, (.ls z2 5 acc2.length cap2)), (62, (iN r)), (61, (iN n_g)), (60, (sS (some q522) n_g c_g)), (9, (.p 2 0)), (4, (.p 1 0)), (1, (sS A_tk n_tk c_tk))], [(5, (.lst z2 22 arr2)), (3, (.lst z 63 arr)), (2, (.cells 35 [(sS A9 n10 c11), (sS A13 n14 c15), (.ls z 3 acc.length cap)])), (1, (.cells 35 [(sS none 0 0), (sS none 0 0), (sS none 0 0)]))], 6, [], [(0, bk4, (.cells 78 [(sS (some q522) n_g c_g)]))]⟩ (by kernel_rfl) ?_
              refine WL_nil ?_
              refine WQ_code ?_
              refine WC_block ?_
              have hs2 : x538.length ≤ 1000 := (hg.2 _ (List.mem_of_getElem? hx523)).2 _ (List.mem_of_getElem? hx536)
              refine WK_off 3 rfl ?_
              refine WK_env [(75, (iI 0)), (74, (iN n542)), (73, (sS A541 n542 c543)), (15, (.ls true 6 0 0)), (69, (iN k)), (68, (iN n531)), (67, (sS (some q535) n531 c532)), (12, (.ls z2 5 acc2.length cap2)), (62, (iN r)), (61, (iN n_g)), (60, (sS (some q522) n_g c_g)), (9, (.p 2 0)), (4, (.p 1 0)), (1, (sS A_tk n_tk c_tk))] (fun ρ => ⟨rfl, rfl, ⟨rfl, rfl, ⟨rfl, rfl, ⟨rfl, rfl, ⟨rfl, rfl, ⟨rfl, rfl, ⟨rfl, rfl, ⟨rfl, rfl, ⟨rfl, rfl, ⟨rfl, rfl, ⟨rfl, rfl, ⟨rfl, rfl, ⟨rfl, rfl, ⟨rfl, rfl, trivial⟩⟩⟩⟩⟩⟩⟩⟩⟩⟩⟩⟩⟩⟩) ?_
              refine WK_keep [75, 74, 73, 15, 69, 68, 67, 12, 62, 61, 60, 9, 4, 1] [6, 5, 3, 2, 1] rfl rfl ?_
              refine WK_env [(75, (iN 0)), (74, (iN n542)), (73, (sS A541 n542 c543)), (15, (.ls true 6 (([] : List Int).length) 0)), (69, (iN k)), (68, (iN n531)), (67, (sS (some q535) n531 c532)), (12, (.ls z2 5 acc2.length cap2)), (62, (iN r)), (61, (iN n_g)), (60, (sS (some q522) n_g c_g)), (9, (.p 2 0)), (4, (.p 1 0)), (1, (sS A_tk n_tk c_tk))] (fun ρ => ⟨rfl, rfl, ⟨rfl, rfl, ⟨rfl, rfl, ⟨rfl, rfl, ⟨rfl, rfl, ⟨rfl, rfl, ⟨rfl, rfl, ⟨rfl, rfl, ⟨rfl, rfl, ⟨rfl, rfl, ⟨rfl, rfl, ⟨rfl, rfl, ⟨rfl, rfl, ⟨rfl, rfl, trivial⟩⟩⟩⟩⟩⟩⟩⟩⟩⟩⟩⟩⟩⟩) ?_
              refine WC_loop (ι := Nat × List Int × Bool × Array Value × Nat) (fun (j, acc3, z3, arr3, cap3) G544 => Le G533 G544 ∧ (j ≤ n542 ∧ acc3 = (x538.take j).map (symN tk (g.map Prod.fst)) ∧ OwnL (tInt .i64) G544 acc3 arr3 cap3 ∧ (z3 = true → acc3 = []))) (fun (j, acc3, z3, arr3, cap3) => ⟨[(75, (iN j)), (74, (iN n542)), (73, (sS A541 n542 c543)), (15, (.ls z3 6 acc3.length cap3)), (69, (iN k)), (68, (iN n531)), (67, (sS (some q535) n531 c532)), (12, (.ls z2 5 acc2.length cap2)), (62, (iN r)), (61, (iN n_g)), (60, (sS (some q522) n_g c_g)), (9, (.p 2 0)), (4, (.p 1 0)), (1, (sS A_tk n_tk c_tk))], [(6, (.lst z3 3 arr3)), (5, (.lst z2 22 arr2)), (3, (.lst z 63 arr)), (2, (.cells 35 [(sS A9 n10 c11), (sS A13 n14 c15), (.ls z 3 acc.length cap)])), (1, (.cells 35 [(sS none 0 0), (sS none 0 0), (sS none 0 0)]))], 7, [], [(0, bk4, (.cells 78 [(sS (some q522) n_g c_g)]))]⟩) (fun (j, acc3, z3, arr3, cap3) => n542 - j) (0, ([] : List Int), true, #[], 0) ⟨Le.refl _, ⟨Nat.zero_le _, rfl, OwnL.nil _ _, fun _ => rfl⟩⟩ rfl ?_
              rintro ⟨j, acc3, z3, arr3, cap3⟩ G544 ⟨hle, hF⟩
              show WC _ _ _ _ _ ⟨[(75, (iN j)), (74, (iN n542)), (73, (sS A541 n542 c543)), (15, (.ls z3 6 acc3.length cap3)), (69, (iN k)), (68, (iN n531)), (67, (sS (some q535) n531 c532)), (12, (.ls z2 5 acc2.length cap2)), (62, (iN r)), (61, (iN n_g)), (60, (sS (some q522) n_g c_g)), (9, (.p 2 0)), (4, (.p 1 0)), (1, (sS A_tk n_tk c_tk))], [(6, (.lst z3 3 arr3)), (5, (.lst z2 22 arr2)), (3, (.lst z 63 arr)), (2, (.cells 35 [(sS A9 n10 c11), (sS A13 n14 c15), (.ls z 3 acc.length cap)])), (1, (.cells 35 [(sS none 0 0), (sS none 0 0), (sS none 0 0)]))], 7, [], [(0, bk4, (.cells 78 [(sS (some q522) n_g c_g)]))]⟩ _
              replace hc6 := Le.trans hc6 hle
              replace hc521 := Le.trans hc521 hle
              replace hc534 := Le.trans hc534 hle
              replace h_g := h_g.mono hle
              replace h_tk := h_tk.mono hle
              replace hs12 := hs12.mono hle
              replace hs16 := hs16.mono hle
              replace hs529 := hs529.mono hle
              replace hs540 := hs540.mono hle
              replace hz := hz.mono hle
              replace ho := ho.mono hle
              replace ho2 := ho2.mono hle
              have hc545 := hle
              obtain ⟨hj, hacc3, ho3, hz3⟩ := hF
              have hl3 := congrArg List.length hacc3
              rw [List.length_map, List.length_take] at hl3
              refine WC_seq (WC_region ?_)
              refine WL_execS htb 1 [76, 75, 74, 73, 15, 69, 68, 67, 12, 62, 61, 60, 9, 4, 1] [6, 5, 3, 2, 1] ⟨[(76, (bB (decide ((((j : Nat) : Int) : Int) < ((n542 : Nat) : Int))))), (75, (iN j)), (74, (iN n542)), (73, (sS A541 n542 c543)), (15, (.ls z3 6 acc3.length cap3)), (69, (iN k)), (68, (iN n531)), (67, (sS (some q535) n531 c532)), (12, (.ls z2 5 acc2.length cap2)), (62, (iN r)), (61, (iN n_g)), (60, (sS (some q522) n_g c_g)), (9, (.p 2 0)), (4, (.p 1 0)), (1, (sS A_tk n_tk c_tk))], [(6, (.lst z3 3 arr3)), (5, (.lst z2 22 arr2)), (3, (.lst z 63 arr)), (2, (.cells 35 [(sS A9 n10 c11), (sS A13 n14 c15), (.ls z 3 acc.length cap)])), (1, (.cells 35 [(sS none 0 0), (sS none 0 0), (sS none 0 0)]))], 7, [], [(0, bk4, (.cells 78 [(sS (some q522) n_g c_g)]))]⟩ (by kernel_rfl) ?_
              refine WL_nil ?_
              refine WQ_code ?_
              refine WC_seq ?_
              refine WC_cond (b := (decide ((((j : Nat) : Int) : Int) < ((n542 : Nat) : Int)))) rfl (fun hcj => ?_) (fun hcj => ?_)
              · replace hcj := of_decide_eq_true hcj
                refine WC_skip ?_
                refine WQ_code ?_
                refine WC_seq ?_
                refine WC_block ?_
                refine WC_seq (WC_region ?_)
                obtain ⟨q546, rfl⟩ := hs540.ptr (by omega)
                obtain ⟨x549, _, hx547, ⟨rfl, hn550⟩, at548⟩ := hs540.get j (by omega)
                replace at548 : At G544 (q546.add (j * 1)) [.string x549] := at548
                refine WL_op (WOp_idx htb q546 n542 ((j : Nat) : Int) 1 (by kernel_rfl) (by omega) (by omega) ?_)
                refine WL_op (WOp_ld htb (q546.add (j * 1)) false 1 [.string x549] (by kernel_rfl) at548 rfl (by decide) ?_)
                refine WL_execS htb 1 [17, 75, 74, 73, 15, 69, 68, 67, 12, 62, 61, 60, 9, 4, 1] [6, 5, 3, 2, 1] ⟨[(17, (tS x549)), (75, (iN j)), (74, (iN n542)), (73, (sS (some q546) n542 c543)), (15, (.ls z3 6 acc3.length cap3)), (69, (iN k)), (68, (iN n531)), (67, (sS (some q535) n531 c532)), (12, (.ls z2 5 acc2.length cap2)), (62, (iN r)), (61, (iN n_g)), (60, (sS (some q522) n_g c_g)), (9, (.p 2 0)), (4, (.p 1 0)), (1, (sS A_tk n_tk c_tk))], [(6, (.lst z3 3 arr3)), (5, (.lst z2 22 arr2)), (3, (.lst z 63 arr)), (2, (.cells 35 [(sS A9 n10 c11), (sS A13 n14 c15), (.ls z 3 acc.length cap)])), (1, (.cells 35 [(sS none 0 0), (sS none 0 0), (sS none 0 0)]))], 7, [], [(0, bk4, (.cells 78 [(sS (some q522) n_g c_g)]))]⟩ (by kernel_rfl) ?_
                refine WL_nil ?_
                refine WQ_code ?_
                refine WC_seq (WC_region ?_)
                refine WL_execS htb 2 [80, 79, 17, 75, 74, 73, 15, 69, 68, 67, 12, 62, 61, 60, 9, 4, 1] [6, 5, 3, 2, 1] ⟨[(80, (tS x549)), (79, (sS A_tk n_tk c_tk)), (17, (tS x549)), (75, (iN j)), (74, (iN n542)), (73, (sS (some q546) n542 c543)), (15, (.ls z3 6 acc3.length cap3)), (69, (iN k)), (68, (iN n531)), (67, (sS (some q535) n531 c532)), (12, (.ls z2 5 acc2.length cap2)), (62, (iN r)), (61, (iN n_g)), (60, (sS (some q522) n_g c_g)), (9, (.p 2 0)), (4, (.p 1 0)), (1, (sS A_tk n_tk c_tk))], [(6, (.lst z3 3 arr3)), (5, (.lst z2 22 arr2)), (3, (.lst z 63 arr)), (2, (.cells 35 [(sS A9 n10 c11), (sS A13 n14 c15), (.ls z 3 acc.length cap)])), (1, (.cells 35 [(sS none 0 0), (sS none 0 0), (sS none 0 0)]))], 7, [], [(0, bk4, (.cells 78 [(sS (some q522) n_g c_g)]))]⟩ (by kernel_rfl) ?_
                refine WL_op (WOp_call 71 [(sS A_tk n_tk c_tk), (tS x549)] (by kernel_rfl) (goes_of Try.func71 rfl rfl) (fun ρ w hW => place_ok hW.has (xs := tk) (x := x549) h_tk hn550) ?_)
                intro G3 v hle hΦ
                replace hc6 := Le.trans hc6 hle
                replace hc521 := Le.trans hc521 hle
                replace hc534 := Le.trans hc534 hle
                replace hc545 := Le.trans hc545 hle
                replace h_g := h_g.mono hle
                replace h_tk := h_tk.mono hle
                replace hs12 := hs12.mono hle
                replace hs16 := hs16.mono hle
                replace hs529 := hs529.mono hle
                replace hs540 := hs540.mono hle
                replace hz := hz.mono hle
                replace ho := ho.mono hle
                replace ho2 := ho2.mono hle
                replace ho3 := ho3.mono hle
                obtain ⟨r551, rfl, h_r551, hR552⟩ := hΦ
                refine WL_execS htb 1 [18, 17, 75, 74, 73, 15, 69, 68, 67, 12, 62, 61, 60, 9, 4, 1] [6, 5, 3, 2, 1] ⟨[(18, (iI r551)), (17, (tS x549)), (75, (iN j)), (74, (iN n542)), (73, (sS (some q546) n542 c543)), (15, (.ls z3 6 acc3.length cap3)), (69, (iN k)), (68, (iN n531)), (67, (sS (some q535) n531 c532)), (12, (.ls z2 5 acc2.length cap2)), (62, (iN r)), (61, (iN n_g)), (60, (sS (some q522) n_g c_g)), (9, (.p 2 0)), (4, (.p 1 0)), (1, (sS A_tk n_tk c_tk))], [(6, (.lst z3 3 arr3)), (5, (.lst z2 22 arr2)), (3, (.lst z 63 arr)), (2, (.cells 35 [(sS A9 n10 c11), (sS A13 n14 c15), (.ls z 3 acc.length cap)])), (1, (.cells 35 [(sS none 0 0), (sS none 0 0), (sS none 0 0)]))], 7, [], [(0, bk4, (.cells 78 [(sS (some q522) n_g c_g)]))]⟩ (by kernel_rfl) ?_
                refine WL_nil ?_
                refine WQ_code ?_
                refine WC_seq ?_
                refine WC_seq (WC_region ?_)
                refine WL_execS htb 2 [83, 18, 17, 75, 74, 73, 15, 69, 68, 67, 12, 62, 61, 60, 9, 4, 1] [6, 5, 3, 2, 1] ⟨[(83, (bB (decide ((r551 : Int) < 0)))), (18, (iI r551)), (17, (tS x549)), (75, (iN j)), (74, (iN n542)), (73, (sS (some q546) n542 c543)), (15, (.ls z3 6 acc3.length cap3)), (69, (iN k)), (68, (iN n531)), (67, (sS (some q535) n531 c532)), (12, (.ls z2 5 acc2.length cap2)), (62, (iN r)), (61, (iN n_g)), (60, (sS (some q522) n_g c_g)), (9, (.p 2 0)), (4, (.p 1 0)), (1, (sS A_tk n_tk c_tk))], [(6, (.lst z3 3 arr3)), (5, (.lst z2 22 arr2)), (3, (.lst z 63 arr)), (2, (.cells 35 [(sS A9 n10 c11), (sS A13 n14 c15), (.ls z 3 acc.length cap)])), (1, (.cells 35 [(sS none 0 0), (sS none 0 0), (sS none 0 0)]))], 7, [], [(0, bk4, (.cells 78 [(sS (some q522) n_g c_g)]))]⟩ (by kernel_rfl) ?_
                refine WL_nil ?_
                refine WQ_code ?_
                refine WC_cond (b := (decide ((r551 : Int) < 0))) rfl (fun hlt => ?_) (fun hlt => ?_)
                · replace hlt := of_decide_eq_true hlt
                  refine WC_region ?_
                  refine WL_execS htb 3 [86, 85, 75, 74, 73, 15, 69, 68, 67, 12, 62, 61, 60, 9, 4, 1] [6, 5, 3, 2, 1] ⟨[(86, (tS x549)), (85, (sS A13 n14 c15)), (75, (iN j)), (74, (iN n542)), (73, (sS (some q546) n542 c543)), (15, (.ls z3 6 acc3.length cap3)), (69, (iN k)), (68, (iN n531)), (67, (sS (some q535) n531 c532)), (12, (.ls z2 5 acc2.length cap2)), (62, (iN r)), (61, (iN n_g)), (60, (sS (some q522) n_g c_g)), (9, (.p 2 0)), (4, (.p 1 0)), (1, (sS A_tk n_tk c_tk))], [(6, (.lst z3 3 arr3)), (5, (.lst z2 22 arr2)), (3, (.lst z 63 arr)), (2, (.cells 35 [(sS A9 n10 c11), (sS A13 n14 c15), (.ls z 3 acc.length cap)])), (1, (.cells 35 [(sS none 0 0), (sS none 0 0), (sS none 0 0)]))], 7, [], [(0, bk4, (.cells 78 [(sS (some q522) n_g c_g)]))]⟩ (by kernel_rfl) ?_
                  refine WL_op (WOp_call 71 [(sS A13 n14 c15), (tS x549)] (by kernel_rfl) (goes_of Try.func71 rfl rfl) (fun ρ w hW => place_ok hW.has (xs := (g.map Prod.fst)) (x := x549) hs16 hn550) ?_)
                  intro G4 v hle hΦ
                  replace hc6 := Le.trans hc6 hle
                  replace hc521 := Le.trans hc521 hle
                  replace hc534 := Le.trans hc534 hle
                  replace hc545 := Le.trans hc545 hle
                  replace h_g := h_g.mono hle
                  replace h_tk := h_tk.mono hle
                  replace hs12 := hs12.mono hle
                  replace hs16 := hs16.mono hle
                  replace hs529 := hs529.mono hle
                  replace hs540 := hs540.mono hle
                  replace hz := hz.mono hle
                  replace ho := ho.mono hle
                  replace ho2 := ho2.mono hle
                  replace ho3 := ho3.mono hle
                  obtain ⟨r553, rfl, h_r553, hR554⟩ := hΦ
                  have hwk : IntKind.i64.wrap ((-1) - r553) = -1 - r553 := wrap_id (by omega)
                  refine WL_execS htb 2 [18, 75, 74, 73, 15, 69, 68, 67, 12, 62, 61, 60, 9, 4, 1] [6, 5, 3, 2, 1] ⟨[(18, (iI (IntKind.i64.wrap ((-1) - r553)))), (75, (iN j)), (74, (iN n542)), (73, (sS (some q546) n542 c543)), (15, (.ls z3 6 acc3.length cap3)), (69, (iN k)), (68, (iN n531)), (67, (sS (some q535) n531 c532)), (12, (.ls z2 5 acc2.length cap2)), (62, (iN r)), (61, (iN n_g)), (60, (sS (some q522) n_g c_g)), (9, (.p 2 0)), (4, (.p 1 0)), (1, (sS A_tk n_tk c_tk))], [(6, (.lst z3 3 arr3)), (5, (.lst z2 22 arr2)), (3, (.lst z 63 arr)), (2, (.cells 35 [(sS A9 n10 c11), (sS A13 n14 c15), (.ls z 3 acc.length cap)])), (1, (.cells 35 [(sS none 0 0), (sS none 0 0), (sS none 0 0)]))], 7, [], [(0, bk4, (.cells 78 [(sS (some q522) n_g c_g)]))]⟩ (by kernel_rfl) ?_
                  refine WL_nil ?_
                  refine WQ_code ?_
                  refine WC_region ?_
                  refine WL_execS htb 3 [91, 89, 75, 74, 73, 69, 68, 67, 12, 62, 61, 60, 9, 4, 1] [7, 6, 5, 3, 2, 1] ⟨[(91, (.s 7 1 1)), (89, (.ls z3 6 acc3.length cap3)), (75, (iN j)), (74, (iN n542)), (73, (sS (some q546) n542 c543)), (69, (iN k)), (68, (iN n531)), (67, (sS (some q535) n531 c532)), (12, (.ls z2 5 acc2.length cap2)), (62, (iN r)), (61, (iN n_g)), (60, (sS (some q522) n_g c_g)), (9, (.p 2 0)), (4, (.p 1 0)), (1, (sS A_tk n_tk c_tk))], [(7, (.cells 3 [(iI (IntKind.i64.wrap ((-1) - r553)))])), (6, (.lst z3 3 arr3)), (5, (.lst z2 22 arr2)), (3, (.lst z 63 arr)), (2, (.cells 35 [(sS A9 n10 c11), (sS A13 n14 c15), (.ls z 3 acc.length cap)])), (1, (.cells 35 [(sS none 0 0), (sS none 0 0), (sS none 0 0)]))], 8, [], [(0, bk4, (.cells 78 [(sS (some q522) n_g c_g)]))]⟩ (by kernel_rfl) ?_
                  refine WK_freezeV 7 rfl rfl rfl rfl ?_
                  intro bk556 G555 hle hbk556
                  replace hc6 := Le.trans hc6 hle
                  replace hc521 := Le.trans hc521 hle
                  replace hc534 := Le.trans hc534 hle
                  replace hc545 := Le.trans hc545 hle
                  replace h_g := h_g.mono hle
                  replace h_tk := h_tk.mono hle
                  replace hs12 := hs12.mono hle
                  replace hs16 := hs16.mono hle
                  replace hs529 := hs529.mono hle
                  replace hs540 := hs540.mono hle
                  replace hz := hz.mono hle
                  replace ho := ho.mono hle
                  replace ho2 := ho2.mono hle
                  replace ho3 := ho3.mono hle
                  show WK _ _ ⟨[(91, (sS (some ⟨bk556, 0, none⟩) 1 1)), (89, (.ls z3 6 acc3.length cap3)), (75, (iN j)), (74, (iN n542)), (73, (sS (some q546) n542 c543)), (69, (iN k)), (68, (iN n531)), (67, (sS (some q535) n531 c532)), (12, (.ls z2 5 acc2.length cap2)), (62, (iN r)), (61, (iN n_g)), (60, (sS (some q522) n_g c_g)), (9, (.p 2 0)), (4, (.p 1 0)), (1, (sS A_tk n_tk c_tk))], [(6, (.lst z3 3 arr3)), (5, (.lst z2 22 arr2)), (3, (.lst z 63 arr)), (2, (.cells 35 [(sS A9 n10 c11), (sS A13 n14 c15), (.ls z 3 acc.length cap)])), (1, (.cells 35 [(sS none 0 0), (sS none 0 0), (sS none 0 0)]))], 8, [], [(0, bk4, (.cells 78 [(sS (some q522) n_g c_g)]))]⟩ _
                  have hs557 : Sl (tInt .i64) G555 (some ⟨bk556, 0, none⟩) 1 1 [(IntKind.i64.wrap ((-1) - r553))] := Sl.lit (cs := [.int .i64 (IntKind.i64.wrap ((-1) - r553))]) (RepsL.cons' (rep_int _ (x := (IntKind.i64.wrap ((-1) - r553))) (by omega)) .nil) hbk556 rfl (by unfold big; omega)
                  have lhs557 := hs557.len'
                  refine WL_op (WOp_append htb z3 6 acc3.length cap3 (some ⟨bk556, 0, none⟩) 1 3 1 8 (by kernel_rfl) (by kernel_rfl) rfl rfl (tInt .i64) (xs := acc3) (ys := [(IntKind.i64.wrap ((-1) - r553))]) ho3 rfl hz3 hs557.row hs557.len rfl (by decide) (by first | omega | (simp only [List.length_append, List.length_nil, List.length_drop, List.length_take, List.length_cons]; omega)) (by unfold big; first | omega | (simp only [List.length_append, List.length_nil, List.length_drop, List.length_take, List.length_cons]; omega)) (fun z558 arr559 cap560 hz561 ho562 => ?_))
                  show WL _ _ _ _ _ _ ⟨[(92, (.ls z558 8 ((acc3 ++ ([(IntKind.i64.wrap ((-1) - r553))])).length) cap560)), (91, (sS (some ⟨bk556, 0, none⟩) 1 1)), (89, (.ls z3 6 acc3.length cap3)), (75, (iN j)), (74, (iN n542)), (73, (sS (some q546) n542 c543)), (69, (iN k)), (68, (iN n531)), (67, (sS (some q535) n531 c532)), (12, (.ls z2 5 acc2.length cap2)), (62, (iN r)), (61, (iN n_g)), (60, (sS (some q522) n_g c_g)), (9, (.p 2 0)), (4, (.p 1 0)), (1, (sS A_tk n_tk c_tk))], [(8, (.lst z558 3 arr559)), (5, (.lst z2 22 arr2)), (3, (.lst z 63 arr)), (2, (.cells 35 [(sS A9 n10 c11), (sS A13 n14 c15), (.ls z 3 acc.length cap)])), (1, (.cells 35 [(sS none 0 0), (sS none 0 0), (sS none 0 0)]))], 9, [], [(0, bk4, (.cells 78 [(sS (some q522) n_g c_g)]))]⟩ _
                  refine WL_execS htb 1 [15, 75, 74, 73, 69, 68, 67, 12, 62, 61, 60, 9, 4, 1] [8, 5, 3, 2, 1] ⟨[(15, (.ls z558 8 ((acc3 ++ ([(IntKind.i64.wrap ((-1) - r553))])).length) cap560)), (75, (iN j)), (74, (iN n542)), (73, (sS (some q546) n542 c543)), (69, (iN k)), (68, (iN n531)), (67, (sS (some q535) n531 c532)), (12, (.ls z2 5 acc2.length cap2)), (62, (iN r)), (61, (iN n_g)), (60, (sS (some q522) n_g c_g)), (9, (.p 2 0)), (4, (.p 1 0)), (1, (sS A_tk n_tk c_tk))], [(8, (.lst z558 3 arr559)), (5, (.lst z2 22 arr2)), (3, (.lst z 63 arr)), (2, (.cells 35 [(sS A9 n10 c11), (sS A13 n14 c15), (.ls z 3 acc.length cap)])), (1, (.cells 35 [(sS none 0 0), (sS none 0 0), (sS none 0 0)]))], 9, [], [(0, bk4, (.cells 78 [(sS (some q522) n_g c_g)]))]⟩ (by kernel_rfl) ?_
                  refine WL_nil ?_
                  refine WQ_blk ?_
                  refine WQ_code ?_
                  refine WC_region ?_
                  refine WL_execS htb 2 [75, 15, 74, 73, 69, 68, 67, 12, 62, 61, 60, 9, 4, 1] [8, 5, 3, 2, 1] ⟨[(75, (iI (IntKind.i64.wrap (((j : Nat) : Int) + 1)))), (15, (.ls z558 8 ((acc3 ++ ([(IntKind.i64.wrap ((-1) - r553))])).length) cap560)), (74, (iN n542)), (73, (sS (some q546) n542 c543)), (69, (iN k)), (68, (iN n531)), (67, (sS (some q535) n531 c532)), (12, (.ls z2 5 acc2.length cap2)), (62, (iN r)), (61, (iN n_g)), (60, (sS (some q522) n_g c_g)), (9, (.p 2 0)), (4, (.p 1 0)), (1, (sS A_tk n_tk c_tk))], [(8, (.lst z558 3 arr559)), (5, (.lst z2 22 arr2)), (3, (.lst z 63 arr)), (2, (.cells 35 [(sS A9 n10 c11), (sS A13 n14 c15), (.ls z 3 acc.length cap)])), (1, (.cells 35 [(sS none 0 0), (sS none 0 0), (sS none 0 0)]))], 9, [], [(0, bk4, (.cells 78 [(sS (some q522) n_g c_g)]))]⟩ (by kernel_rfl) ?_
                  refine WL_nil ?_
                  refine WK_env [(75, (iN (j + 1))), (15, (.ls z558 8 ((acc3 ++ ([(IntKind.i64.wrap ((-1) - r553))])).length) cap560)), (74, (iN n542)), (73, (sS (some q546) n542 c543)), (69, (iN k)), (68, (iN n531)), (67, (sS (some q535) n531 c532)), (12, (.ls z2 5 acc2.length cap2)), (62, (iN r)), (61, (iN n_g)), (60, (sS (some q522) n_g c_g)), (9, (.p 2 0)), (4, (.p 1 0)), (1, (sS A_tk n_tk c_tk))] (fun ρ => ⟨rfl, (congrArg (Value.int .i64) (by rw [wrap_id (by omega)]; first | rfl | omega)), ⟨rfl, rfl, ⟨rfl, rfl, ⟨rfl, rfl, ⟨rfl, rfl, ⟨rfl, rfl, ⟨rfl, rfl, ⟨rfl, rfl, ⟨rfl, rfl, ⟨rfl, rfl, ⟨rfl, rfl, ⟨rfl, rfl, ⟨rfl, rfl, ⟨rfl, rfl, trivial⟩⟩⟩⟩⟩⟩⟩⟩⟩⟩⟩⟩⟩⟩) ?_
                  refine WK_keep [75, 74, 73, 15, 69, 68, 67, 12, 62, 61, 60, 9, 4, 1] [8, 5, 3, 2, 1] rfl rfl ?_
                  exact WQ_nextR ((j + 1), (acc3 ++ ([(IntKind.i64.wrap ((-1) - r553))])), z558, arr559, cap560) (by show n542 - (j + 1) < n542 - j; omega) ⟨hc545, ⟨by omega, by rw [hacc3, map_step hx547, show symN tk (g.map Prod.fst) x549 = IntKind.i64.wrap ((-1) - r553) from by rw [hwk, symN_nm (by rw [← hR552]; exact hlt), ← hR554]], ho562, hz561⟩⟩ [(6, 8)] rfl rfl rfl rfl rfl rfl
                · replace hlt := of_decide_eq_false hlt
                  refine WC_skip ?_
                  refine WQ_code ?_
                  refine WC_region ?_
                  refine WL_execS htb 3 [91, 89, 75, 74, 73, 69, 68, 67, 12, 62, 61, 60, 9, 4, 1] [7, 6, 5, 3, 2, 1] ⟨[(91, (.s 7 1 1)), (89, (.ls z3 6 acc3.length cap3)), (75, (iN j)), (74, (iN n542)), (73, (sS (some q546) n542 c543)), (69, (iN k)), (68, (iN n531)), (67, (sS (some q535) n531 c532)), (12, (.ls z2 5 acc2.length cap2)), (62, (iN r)), (61, (iN n_g)), (60, (sS (some q522) n_g c_g)), (9, (.p 2 0)), (4, (.p 1 0)), (1, (sS A_tk n_tk c_tk))], [(7, (.cells 3 [(iI r551)])), (6, (.lst z3 3 arr3)), (5, (.lst z2 22 arr2)), (3, (.lst z 63 arr)), (2, (.cells 35 [(sS A9 n10 c11), (sS A13 n14 c15), (.ls z 3 acc.length cap)])), (1, (.cells 35 [(sS none 0 0), (sS none 0 0), (sS none 0 0)]))], 8, [], [(0, bk4, (.cells 78 [(sS (some q522) n_g c_g)]))]⟩ (by kernel_rfl) ?_
                  refine WK_freezeV 7 rfl rfl rfl rfl ?_
                  intro bk554 G553 hle hbk554
                  replace hc6 := Le.trans hc6 hle
                  replace hc521 := Le.trans hc521 hle
                  replace hc534 := Le.trans hc534 hle
                  replace hc545 := Le.trans hc545 hle
                  replace h_g := h_g.mono hle
                  replace h_tk := h_tk.mono hle
                  replace hs12 := hs12.mono hle
                  replace hs16 := hs16.mono hle
                  replace hs529 := hs529.mono hle
                  replace hs540 := hs540.mono hle
                  replace hz := hz.mono hle
                  replace ho := ho.mono hle
                  replace ho2 := ho2.mono hle
                  replace ho3 := ho3.mono hle
                  show WK _ _ ⟨[(91, (sS (some ⟨bk554, 0, none⟩) 1 1)), (89, (.ls z3 6 acc3.length cap3)), (75, (iN j)), (74, (iN n542)), (73, (sS (some q546) n542 c543)), (69, (iN k)), (68, (iN n531)), (67, (sS (some q535) n531 c532)), (12, (.ls z2 5 acc2.length cap2)), (62, (iN r)), (61, (iN n_g)), (60, (sS (some q522) n_g c_g)), (9, (.p 2 0)), (4, (.p 1 0)), (1, (sS A_tk n_tk c_tk))], [(6, (.lst z3 3 arr3)), (5, (.lst z2 22 arr2)), (3, (.lst z 63 arr)), (2, (.cells 35 [(sS A9 n10 c11), (sS A13 n14 c15), (.ls z 3 acc.length cap)])), (1, (.cells 35 [(sS none 0 0), (sS none 0 0), (sS none 0 0)]))], 8, [], [(0, bk4, (.cells 78 [(sS (some q522) n_g c_g)]))]⟩ _
                  have hs555 : Sl (tInt .i64) G553 (some ⟨bk554, 0, none⟩) 1 1 [r551] := Sl.lit (cs := [.int .i64 r551]) (RepsL.cons' (rep_int _ (x := r551) h_r551) .nil) hbk554 rfl (by unfold big; omega)
                  have lhs555 := hs555.len'
                  refine WL_op (WOp_append htb z3 6 acc3.length cap3 (some ⟨bk554, 0, none⟩) 1 3 1 8 (by kernel_rfl) (by kernel_rfl) rfl rfl (tInt .i64) (xs := acc3) (ys := [r551]) ho3 rfl hz3 hs555.row hs555.len rfl (by decide) (by first | omega | (simp only [List.length_append, List.length_nil, List.length_drop, List.length_take, List.length_cons]; omega)) (by unfold big; first | omega | (simp only [List.length_append, List.length_nil, List.length_drop, List.length_take, List.length_cons]; omega)) (fun z556 arr557 cap558 hz559 ho560 => ?_))
                  show WL _ _ _ _ _ _ ⟨[(92, (.ls z556 8 ((acc3 ++ ([r551])).length) cap558)), (91, (sS (some ⟨bk554, 0, none⟩) 1 1)), (89, (.ls z3 6 acc3.length cap3)), (75, (iN j)), (74, (iN n542)), (73, (sS (some q546) n542 c543)), (69, (iN k)), (68, (iN n531)), (67, (sS (some q535) n531 c532)), (12, (.ls z2 5 acc2.length cap2)), (62, (iN r)), (61, (iN n_g)), (60, (sS (some q522) n_g c_g)), (9, (.p 2 0)), (4, (.p 1 0)), (1, (sS A_tk n_tk c_tk))], [(8, (.lst z556 3 arr557)), (5, (.lst z2 22 arr2)), (3, (.lst z 63 arr)), (2, (.cells 35 [(sS A9 n10 c11), (sS A13 n14 c15), (.ls z 3 acc.length cap)])), (1, (.cells 35 [(sS none 0 0), (sS none 0 0), (sS none 0 0)]))], 9, [], [(0, bk4, (.cells 78 [(sS (some q522) n_g c_g)]))]⟩ _
                  refine WL_execS htb 1 [15, 75, 74, 73, 69, 68, 67, 12, 62, 61, 60, 9, 4, 1] [8, 5, 3, 2, 1] ⟨[(15, (.ls z556 8 ((acc3 ++ ([r551])).length) cap558)), (75, (iN j)), (74, (iN n542)), (73, (sS (some q546) n542 c543)), (69, (iN k)), (68, (iN n531)), (67, (sS (some q535) n531 c532)), (12, (.ls z2 5 acc2.length cap2)), (62, (iN r)), (61, (iN n_g)), (60, (sS (some q522) n_g c_g)), (9, (.p 2 0)), (4, (.p 1 0)), (1, (sS A_tk n_tk c_tk))], [(8, (.lst z556 3 arr557)), (5, (.lst z2 22 arr2)), (3, (.lst z 63 arr)), (2, (.cells 35 [(sS A9 n10 c11), (sS A13 n14 c15), (.ls z 3 acc.length cap)])), (1, (.cells 35 [(sS none 0 0), (sS none 0 0), (sS none 0 0)]))], 9, [], [(0, bk4, (.cells 78 [(sS (some q522) n_g c_g)]))]⟩ (by kernel_rfl) ?_
                  refine WL_nil ?_
                  refine WQ_blk ?_
                  refine WQ_code ?_
                  refine WC_region ?_
                  refine WL_execS htb 2 [75, 15, 74, 73, 69, 68, 67, 12, 62, 61, 60, 9, 4, 1] [8, 5, 3, 2, 1] ⟨[(75, (iI (IntKind.i64.wrap (((j : Nat) : Int) + 1)))), (15, (.ls z556 8 ((acc3 ++ ([r551])).length) cap558)), (74, (iN n542)), (73, (sS (some q546) n542 c543)), (69, (iN k)), (68, (iN n531)), (67, (sS (some q535) n531 c532)), (12, (.ls z2 5 acc2.length cap2)), (62, (iN r)), (61, (iN n_g)), (60, (sS (some q522) n_g c_g)), (9, (.p 2 0)), (4, (.p 1 0)), (1, (sS A_tk n_tk c_tk))], [(8, (.lst z556 3 arr557)), (5, (.lst z2 22 arr2)), (3, (.lst z 63 arr)), (2, (.cells 35 [(sS A9 n10 c11), (sS A13 n14 c15), (.ls z 3 acc.length cap)])), (1, (.cells 35 [(sS none 0 0), (sS none 0 0), (sS none 0 0)]))], 9, [], [(0, bk4, (.cells 78 [(sS (some q522) n_g c_g)]))]⟩ (by kernel_rfl) ?_
                  refine WL_nil ?_
                  refine WK_env [(75, (iN (j + 1))), (15, (.ls z556 8 ((acc3 ++ ([r551])).length) cap558)), (74, (iN n542)), (73, (sS (some q546) n542 c543)), (69, (iN k)), (68, (iN n531)), (67, (sS (some q535) n531 c532)), (12, (.ls z2 5 acc2.length cap2)), (62, (iN r)), (61, (iN n_g)), (60, (sS (some q522) n_g c_g)), (9, (.p 2 0)), (4, (.p 1 0)), (1, (sS A_tk n_tk c_tk))] (fun ρ => ⟨rfl, (congrArg (Value.int .i64) (by rw [wrap_id (by omega)]; first | rfl | omega)), ⟨rfl, rfl, ⟨rfl, rfl, ⟨rfl, rfl, ⟨rfl, rfl, ⟨rfl, rfl, ⟨rfl, rfl, ⟨rfl, rfl, ⟨rfl, rfl, ⟨rfl, rfl, ⟨rfl, rfl, ⟨rfl, rfl, ⟨rfl, rfl, ⟨rfl, rfl, trivial⟩⟩⟩⟩⟩⟩⟩⟩⟩⟩⟩⟩⟩⟩) ?_
                  refine WK_keep [75, 74, 73, 15, 69, 68, 67, 12, 62, 61, 60, 9, 4, 1] [8, 5, 3, 2, 1] rfl rfl ?_
                  exact WQ_nextR ((j + 1), (acc3 ++ ([r551])), z556, arr557, cap558) (by show n542 - (j + 1) < n542 - j; omega) ⟨hc545, ⟨by omega, by rw [hacc3, map_step hx547, show symN tk (g.map Prod.fst) x549 = r551 from by rw [symN_tk (by rw [← hR552]; omega), ← hR552]], ho560, hz559⟩⟩ [(6, 8)] rfl rfl rfl rfl rfl rfl
              · replace hcj := of_decide_eq_false hcj
                refine WC_exit ?_
                refine WQ_then_exit ?_
                refine WQ_then_exit ?_
                refine WQ_hit ?_
                refine WQ_code ?_
                refine WC_region ?_
                refine WL_execS htb 3 [96, 94, 69, 68, 67, 62, 61, 60, 9, 4, 1] [7, 6, 5, 3, 2, 1] ⟨[(96, (.s 7 1 1)), (94, (.ls z2 5 acc2.length cap2)), (69, (iN k)), (68, (iN n531)), (67, (sS (some q535) n531 c532)), (62, (iN r)), (61, (iN n_g)), (60, (sS (some q522) n_g c_g)), (9, (.p 2 0)), (4, (.p 1 0)), (1, (sS A_tk n_tk c_tk))], [(7, (.cells 22 [(.ls z3 6 acc3.length cap3)])), (6, (.lst z3 3 arr3)), (5, (.lst z2 22 arr2)), (3, (.lst z 63 arr)), (2, (.cells 35 [(sS A9 n10 c11), (sS A13 n14 c15), (.ls z 3 acc.length cap)])), (1, (.cells 35 [(sS none 0 0), (sS none 0 0), (sS none 0 0)]))], 8, [], [(0, bk4, (.cells 78 [(sS (some q522) n_g c_g)]))]⟩ (by kernel_rfl) ?_
                refine WK_freezeL 6 rfl rfl ?_
                intro bk547 G546 hle hbk547
                replace hc6 := Le.trans hc6 hle
                replace hc521 := Le.trans hc521 hle
                replace hc534 := Le.trans hc534 hle
                replace hc545 := Le.trans hc545 hle
                replace h_g := h_g.mono hle
                replace h_tk := h_tk.mono hle
                replace hs12 := hs12.mono hle
                replace hs16 := hs16.mono hle
                replace hs529 := hs529.mono hle
                replace hz := hz.mono hle
                replace ho := ho.mono hle
                replace ho2 := ho2.mono hle
                obtain ⟨A549, n550, c551, e552, hs548⟩ := OwnL.sl (n := acc3.length) ho3 hle hz3 hbk547 rfl
                refine WK_env [(96, (.s 7 1 1)), (94, (.ls z2 5 acc2.length cap2)), (69, (iN k)), (68, (iN n531)), (67, (sS (some q535) n531 c532)), (62, (iN r)), (61, (iN n_g)), (60, (sS (some q522) n_g c_g)), (9, (.p 2 0)), (4, (.p 1 0)), (1, (sS A_tk n_tk c_tk))] (fun ρ => ⟨rfl, rfl, ⟨rfl, rfl, ⟨rfl, rfl, ⟨rfl, rfl, ⟨rfl, rfl, ⟨rfl, rfl, ⟨rfl, rfl, ⟨rfl, rfl, ⟨rfl, rfl, ⟨rfl, rfl, ⟨rfl, rfl, trivial⟩⟩⟩⟩⟩⟩⟩⟩⟩⟩⟩) ?_
                refine WK_own [(7, (.cells 22 [(sS A549 n550 c551)])), (5, (.lst z2 22 arr2)), (3, (.lst z 63 arr)), (2, (.cells 35 [(sS A9 n10 c11), (sS A13 n14 c15), (.ls z 3 acc.length cap)])), (1, (.cells 35 [(sS none 0 0), (sS none 0 0), (sS none 0 0)]))] (fun ρ => ⟨rfl, rfl, (by show SV.denL ρ [(.v (nilOr z3 (.slice (some ⟨bk547, 0, none⟩) acc3.length cap3)))] = SV.denL ρ [(sS A549 n550 c551)]; simp only [SV.den, SV.denL, e552]), ⟨rfl, rfl, ⟨rfl, rfl, ⟨rfl, rfl, rfl, ⟨rfl, rfl, rfl, trivial⟩⟩⟩⟩⟩) ?_
                have lhs548 := hs548.len'
                refine WK_freezeV 7 rfl rfl rfl rfl ?_
                intro bk554 G553 hle hbk554
                replace hc6 := Le.trans hc6 hle
                replace hc521 := Le.trans hc521 hle
                replace hc534 := Le.trans hc534 hle
                replace hc545 := Le.trans hc545 hle
                replace h_g := h_g.mono hle
                replace h_tk := h_tk.mono hle
                replace hs12 := hs12.mono hle
                replace hs16 := hs16.mono hle
                replace hs529 := hs529.mono hle
                replace hs548 := hs548.mono hle
                replace hz := hz.mono hle
                replace ho := ho.mono hle
                replace ho2 := ho2.mono hle
                show WK _ _ ⟨[(96, (sS (some ⟨bk554, 0, none⟩) 1 1)), (94, (.ls z2 5 acc2.length cap2)), (69, (iN k)), (68, (iN n531)), (67, (sS (some q535) n531 c532)), (62, (iN r)), (61, (iN n_g)), (60, (sS (some q522) n_g c_g)), (9, (.p 2 0)), (4, (.p 1 0)), (1, (sS A_tk n_tk c_tk))], [(5, (.lst z2 22 arr2)), (3, (.lst z 63 arr)), (2, (.cells 35 [(sS A9 n10 c11), (sS A13 n14 c15), (.ls z 3 acc.length cap)])), (1, (.cells 35 [(sS none 0 0), (sS none 0 0), (sS none 0 0)]))], 8, [], [(0, bk4, (.cells 78 [(sS (some q522) n_g c_g)]))]⟩ _
                have hs555 : Sl (tSlice (tInt .i64)) G553 (some ⟨bk554, 0, none⟩) 1 1 [acc3] := Sl.lit (cs := [.slice A549 n550 c551]) (RepsL.cons' hs548.reps .nil) hbk554 rfl (by unfold big; omega)
                have lhs555 := hs555.len'
                refine WL_op (WOp_append htb z2 5 acc2.length cap2 (some ⟨bk554, 0, none⟩) 1 22 1 24 (by kernel_rfl) (by kernel_rfl) rfl rfl (tSlice (tInt .i64)) (xs := acc2) (ys := [acc3]) ho2 rfl hz2 hs555.row hs555.len rfl (by decide) (by first | omega | (simp only [List.length_append, List.length_nil, List.length_drop, List.length_take, List.length_cons]; omega)) (by unfold big; first | omega | (simp only [List.length_append, List.length_nil, List.length_drop, List.length_take, List.length_cons]; omega)) (fun z556 arr557 cap558 hz559 ho560 => ?_))
                show WL _ _ _ _ _ _ ⟨[(97, (.ls z556 8 ((acc2 ++ ([acc3])).length) cap558)), (96, (sS (some ⟨bk554, 0, none⟩) 1 1)), (94, (.ls z2 5 acc2.length cap2)), (69, (iN k)), (68, (iN n531)), (67, (sS (some q535) n531 c532)), (62, (iN r)), (61, (iN n_g)), (60, (sS (some q522) n_g c_g)), (9, (.p 2 0)), (4, (.p 1 0)), (1, (sS A_tk n_tk c_tk))], [(8, (.lst z556 22 arr557)), (3, (.lst z 63 arr)), (2, (.cells 35 [(sS A9 n10 c11), (sS A13 n14 c15), (.ls z 3 acc.length cap)])), (1, (.cells 35 [(sS none 0 0), (sS none 0 0), (sS none 0 0)]))], 9, [], [(0, bk4, (.cells 78 [(sS (some q522) n_g c_g)]))]⟩ _
                refine WL_execS htb 1 [12, 69, 68, 67, 62, 61, 60, 9, 4, 1] [8, 3, 2, 1] ⟨[(12, (.ls z556 8 ((acc2 ++ ([acc3])).length) cap558)), (69, (iN k)), (68, (iN n531)), (67, (sS (some q535) n531 c532)), (62, (iN r)), (61, (iN n_g)), (60, (sS (some q522) n_g c_g)), (9, (.p 2 0)), (4, (.p 1 0)), (1, (sS A_tk n_tk c_tk))], [(8, (.lst z556 22 arr557)), (3, (.lst z 63 arr)), (2, (.cells 35 [(sS A9 n10 c11), (sS A13 n14 c15), (.ls z 3 acc.length cap)])), (1, (.cells 35 [(sS none 0 0), (sS none 0 0), (sS none 0 0)]))], 9, [], [(0, bk4, (.cells 78 [(sS (some q522) n_g c_g)]))]⟩ (by kernel_rfl) ?_
                refine WL_nil ?_
                refine WQ_blk ?_
                refine WQ_code ?_
                refine WC_region ?_
                refine WL_execS htb 2 [69, 12, 68, 67, 62, 61, 60, 9, 4, 1] [8, 3, 2, 1] ⟨[(69, (iI (IntKind.i64.wrap (((k : Nat) : Int) + 1)))), (12, (.ls z556 8 ((acc2 ++ ([acc3])).length) cap558)), (68, (iN n531)), (67, (sS (some q535) n531 c532)), (62, (iN r)), (61, (iN n_g)), (60, (sS (some q522) n_g c_g)), (9, (.p 2 0)), (4, (.p 1 0)), (1, (sS A_tk n_tk c_tk))], [(8, (.lst z556 22 arr557)), (3, (.lst z 63 arr)), (2, (.cells 35 [(sS A9 n10 c11), (sS A13 n14 c15), (.ls z 3 acc.length cap)])), (1, (.cells 35 [(sS none 0 0), (sS none 0 0), (sS none 0 0)]))], 9, [], [(0, bk4, (.cells 78 [(sS (some q522) n_g c_g)]))]⟩ (by kernel_rfl) ?_
                refine WL_nil ?_
                have hta : x538.take j = x538 := List.take_of_length_le (by omega)
                rw [hta] at hacc3
                refine WK_env [(69, (iN (k + 1))), (12, (.ls z556 8 ((acc2 ++ ([acc3])).length) cap558)), (68, (iN n531)), (67, (sS (some q535) n531 c532)), (62, (iN r)), (61, (iN n_g)), (60, (sS (some q522) n_g c_g)), (9, (.p 2 0)), (4, (.p 1 0)), (1, (sS A_tk n_tk c_tk))] (fun ρ => ⟨rfl, (congrArg (Value.int .i64) (by rw [wrap_id (by omega)]; first | rfl | omega)), ⟨rfl, rfl, ⟨rfl, rfl, ⟨rfl, rfl, ⟨rfl, rfl, ⟨rfl, rfl, ⟨rfl, rfl, ⟨rfl, rfl, ⟨rfl, rfl, ⟨rfl, rfl, trivial⟩⟩⟩⟩⟩⟩⟩⟩⟩⟩) ?_
                refine WK_keep [69, 68, 67, 12, 62, 61, 60, 9, 4, 1] [8, 3, 2, 1] rfl rfl ?_
                exact WQ_nextR ((k + 1), (acc2 ++ ([acc3])), z556, arr557, cap558) (by show n531 - (k + 1) < n531 - k; omega) ⟨hc534, ⟨by omega, by rw [hacc2, hacc3, map_step hx536], ho560, hz559⟩⟩ [(5, 8)] rfl rfl rfl rfl rfl rfl
            · replace hck := of_decide_eq_false hck
              refine WC_exit ?_
              refine WQ_then_exit ?_
              refine WQ_then_exit ?_
              refine WQ_hit ?_
              refine WQ_code ?_
              refine WC_region ?_
              refine WL_execS htb 4 [102, 100, 62, 61, 60, 9, 4, 1] [6, 5, 3, 2, 1] ⟨[(102, (.s 6 1 1)), (100, (.ls z 3 acc.length cap)), (62, (iN r)), (61, (iN n_g)), (60, (sS (some q522) n_g c_g)), (9, (.p 2 0)), (4, (.p 1 0)), (1, (sS A_tk n_tk c_tk))], [(6, (.cells 63 [(.ls z2 5 acc2.length cap2)])), (5, (.lst z2 22 arr2)), (3, (.lst z 63 arr)), (2, (.cells 35 [(sS A9 n10 c11), (sS A13 n14 c15), (.ls z 3 acc.length cap)])), (1, (.cells 35 [(sS none 0 0), (sS none 0 0), (sS none 0 0)]))], 7, [], [(0, bk4, (.cells 78 [(sS (some q522) n_g c_g)]))]⟩ (by kernel_rfl) ?_
              refine WK_freezeL 5 rfl rfl ?_
              intro bk536 G535 hle hbk536
              replace hc6 := Le.trans hc6 hle
              replace hc521 := Le.trans hc521 hle
              replace hc534 := Le.trans hc534 hle
              replace h_g := h_g.mono hle
              replace h_tk := h_tk.mono hle
              replace hs12 := hs12.mono hle
              replace hs16 := hs16.mono hle
              replace hz := hz.mono hle
              replace ho := ho.mono hle
              obtain ⟨A538, n539, c540, e541, hs537⟩ := OwnL.sl (n := acc2.length) ho2 hle hz2 hbk536 rfl
              refine WK_env [(102, (.s 6 1 1)), (100, (.ls z 3 acc.length cap)), (62, (iN r)), (61, (iN n_g)), (60, (sS (some q522) n_g c_g)), (9, (.p 2 0)), (4, (.p 1 0)), (1, (sS A_tk n_tk c_tk))] (fun ρ => ⟨rfl, rfl, ⟨rfl, rfl, ⟨rfl, rfl, ⟨rfl, rfl, ⟨rfl, rfl, ⟨rfl, rfl, ⟨rfl, rfl, ⟨rfl, rfl, trivial⟩⟩⟩⟩⟩⟩⟩⟩) ?_
              refine WK_own [(6, (.cells 63 [(sS A538 n539 c540)])), (3, (.lst z 63 arr)), (2, (.cells 35 [(sS A9 n10 c11), (sS A13 n14 c15), (.ls z 3 acc.length cap)])), (1, (.cells 35 [(sS none 0 0), (sS none 0 0), (sS none 0 0)]))] (fun ρ => ⟨rfl, rfl, (by show SV.denL ρ [(.v (nilOr z2 (.slice (some ⟨bk536, 0, none⟩) acc2.length cap2)))] = SV.denL ρ [(sS A538 n539 c540)]; simp only [SV.den, SV.denL, e541]), ⟨rfl, rfl, ⟨rfl, rfl, rfl, ⟨rfl, rfl, rfl, trivial⟩⟩⟩⟩) ?_
              have lhs537 := hs537.len'
              refine WK_freezeV 6 rfl rfl rfl rfl ?_
              intro bk543 G542 hle hbk543
              replace hc6 := Le.trans hc6 hle
              replace hc521 := Le.trans hc521 hle
              replace hc534 := Le.trans hc534 hle
              replace h_g := h_g.mono hle
              replace h_tk := h_tk.mono hle
              replace hs12 := hs12.mono hle
              replace hs16 := hs16.mono hle
              replace hs537 := hs537.mono hle
              replace hz := hz.mono hle
              replace ho := ho.mono hle
              show WK _ _ ⟨[(102, (sS (some ⟨bk543, 0, none⟩) 1 1)), (100, (.ls z 3 acc.length cap)), (62, (iN r)), (61, (iN n_g)), (60, (sS (some q522) n_g c_g)), (9, (.p 2 0)), (4, (.p 1 0)), (1, (sS A_tk n_tk c_tk))], [(3, (.lst z 63 arr)), (2, (.cells 35 [(sS A9 n10 c11), (sS A13 n14 c15), (.ls z 3 acc.length cap)])), (1, (.cells 35 [(sS none 0 0), (sS none 0 0), (sS none 0 0)]))], 7, [], [(0, bk4, (.cells 78 [(sS (some q522) n_g c_g)]))]⟩ _
              have hs544 : Sl (tSlice (tSlice (tInt .i64))) G542 (some ⟨bk543, 0, none⟩) 1 1 [acc2] := Sl.lit (cs := [.slice A538 n539 c540]) (RepsL.cons' hs537.reps .nil) hbk543 rfl (by unfold big; omega)
              have lhs544 := hs544.len'
              refine WL_op (WOp_append htb z 3 acc.length cap (some ⟨bk543, 0, none⟩) 1 63 1 24 (by kernel_rfl) (by kernel_rfl) rfl rfl (tSlice (tSlice (tInt .i64))) (xs := acc) (ys := [acc2]) ho rfl hz0 hs544.row hs544.len rfl (by decide) (by first | omega | (simp only [List.length_append, List.length_nil, List.length_drop, List.length_take, List.length_cons]; omega)) (by unfold big; first | omega | (simp only [List.length_append, List.length_nil, List.length_drop, List.length_take, List.length_cons]; omega)) (fun z545 arr546 cap547 hz548 ho549 => ?_))
              show WL _ _ _ _ _ _ ⟨[(103, (.ls z545 7 ((acc ++ ([acc2])).length) cap547)), (102, (sS (some ⟨bk543, 0, none⟩) 1 1)), (100, (.ls z 3 acc.length cap)), (62, (iN r)), (61, (iN n_g)), (60, (sS (some q522) n_g c_g)), (9, (.p 2 0)), (4, (.p 1 0)), (1, (sS A_tk n_tk c_tk))], [(7, (.lst z545 63 arr546)), (2, (.cells 35 [(sS A9 n10 c11), (sS A13 n14 c15), (.ls z 3 acc.length cap)])), (1, (.cells 35 [(sS none 0 0), (sS none 0 0), (sS none 0 0)]))], 8, [], [(0, bk4, (.cells 78 [(sS (some q522) n_g c_g)]))]⟩ _
              refine WL_execS htb 2 [62, 61, 60, 9, 4, 1] [7, 2, 1] ⟨[(62, (iN r)), (61, (iN n_g)), (60, (sS (some q522) n_g c_g)), (9, (.p 2 0)), (4, (.p 1 0)), (1, (sS A_tk n_tk c_tk))], [(7, (.lst z545 63 arr546)), (2, (.cells 35 [(sS A9 n10 c11), (sS A13 n14 c15), (.ls z545 7 ((acc ++ ([acc2])).length) cap547)])), (1, (.cells 35 [(sS none 0 0), (sS none 0 0), (sS none 0 0)]))], 8, [], [(0, bk4, (.cells 78 [(sS (some q522) n_g c_g)]))]⟩ (by kernel_rfl) ?_
              refine WL_nil ?_
              refine WQ_blk ?_
              refine WQ_code ?_
              refine WC_region ?_
              refine WL_execS htb 2 [62, 61, 60, 9, 4, 1] [7, 2, 1] ⟨[(62, (iI (IntKind.i64.wrap (((r : Nat) : Int) + 1)))), (61, (iN n_g)), (60, (sS (some q522) n_g c_g)), (9, (.p 2 0)), (4, (.p 1 0)), (1, (sS A_tk n_tk c_tk))], [(7, (.lst z545 63 arr546)), (2, (.cells 35 [(sS A9 n10 c11), (sS A13 n14 c15), (.ls z545 7 ((acc ++ ([acc2])).length) cap547)])), (1, (.cells 35 [(sS none 0 0), (sS none 0 0), (sS none 0 0)]))], 8, [], [(0, bk4, (.cells 78 [(sS (some q522) n_g c_g)]))]⟩ (by kernel_rfl) ?_
              refine WL_nil ?_
              have hta : x527.take k = x527 := List.take_of_length_le (by omega)
              rw [hta] at hacc2
              refine WK_env [(62, (iN (r + 1))), (61, (iN n_g)), (60, (sS (some q522) n_g c_g)), (9, (.p 2 0)), (4, (.p 1 0)), (1, (sS A_tk n_tk c_tk))] (fun ρ => ⟨rfl, (congrArg (Value.int .i64) (by rw [wrap_id (by omega)]; first | rfl | omega)), ⟨rfl, rfl, ⟨rfl, rfl, ⟨rfl, rfl, ⟨rfl, rfl, ⟨rfl, rfl, trivial⟩⟩⟩⟩⟩⟩) ?_
              refine WK_keep [62, 61, 60, 9, 4, 1] [7, 2, 1] rfl rfl ?_
              exact WQ_nextR ((r + 1), (acc ++ ([acc2])), z545, arr546, cap547) (by show n_g - (r + 1) < n_g - r; omega) ⟨hc521, ⟨by omega, by rw [hacc, hacc2, map_step hx523], ho549, hz548⟩⟩ [(3, 7)] rfl rfl rfl rfl rfl rfl
          · replace hcr := of_decide_eq_false hcr
            refine WC_exit ?_
            refine WQ_then_exit ?_
            refine WQ_then_exit ?_
            refine WQ_hit ?_
            refine WQ_code ?_
            refine WC_seq (WC_region ?_)
            refine WL_execS htb 3 [5, 4] [3, 1] ⟨[(5, (iI 0)), (4, (.p 1 0))], [(3, (.lst z 63 arr)), (1, (.cells 35 [(sS A9 n10 c11), (sS A13 n14 c15), (.ls z 3 acc.length cap)]))], 4, [], [(0, bk4, (.cells 78 [(sS A_g n_g c_g)]))]⟩ (by kernel_rfl) ?_
            refine WL_nil ?_
            refine WQ_code ?_
            refine WC_ret ?_
            have hta : g.take r = g := List.take_of_length_le (by omega)
            rw [hta] at hacc
            refine WK_freezeL 3 rfl rfl ?_
            intro bk523 G522 hle hbk523
            replace hc6 := Le.trans hc6 hle
            replace hc521 := Le.trans hc521 hle
            replace h_g := h_g.mono hle
            replace hs12 := hs12.mono hle
            replace hs16 := hs16.mono hle
            replace hz := hz.mono hle
            obtain ⟨A525, n526, c527, e528, hs524⟩ := OwnL.sl (n := acc.length) ho hle hz0 hbk523 rfl
            refine WK_env [(5, (iI 0)), (4, (.p 1 0))] (fun ρ => ⟨rfl, rfl, ⟨rfl, rfl, trivial⟩⟩) ?_
            refine WK_own [(1, (.cells 35 [(sS A9 n10 c11), (sS A13 n14 c15), (sS A525 n526 c527)]))] (fun ρ => ⟨rfl, rfl, (by show SV.denL ρ [(sS A9 n10 c11), (sS A13 n14 c15), (.v (nilOr z (.slice (some ⟨bk523, 0, none⟩) acc.length cap)))] = SV.denL ρ [(sS A9 n10 c11), (sS A13 n14 c15), (sS A525 n526 c527)]; simp only [SV.den, SV.denL, e528]), trivial⟩) ?_
            have lhs524 := hs524.len'
            exact WQ_done htb [(.agg [(sS A9 n10 c11), (sS A13 n14 c15), (sS A525 n526 c527)]), (iI 0)] _ (.inl rfl) rfl (by kernel_rfl) (fun ρ w hW => ⟨([] ++ tk), _, _, _, (g.map Prod.fst), _, _, _, acc, _, _, _, 0, rfl, hs12, hs16, hs524, (by omega), (fun _ => ⟨rfl, rfl, hacc⟩)⟩)

end Go.Proofs.Ytbpajkjolhoflaa.Sym
