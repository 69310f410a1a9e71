/- Walks of functions that the laws of this seat reach, printed by a program of this session's. -/
import Derived.Test.YtfemkbockhpmcaaB6
set_option linter.unusedSimpArgs false
set_option linter.unusedVariables false
set_option maxHeartbeats 4000000
namespace Go.Proofs.Ytfemkbockhpmcaa.Sym
open Go Go.Proofs Go.RowKit
theorem grow_ok {w : World} {G : Heap} (hG : Has w G) {n : Nat} (hn : n ≤ 4000000000) :
    Calls Try.prog 76 #[.slice none 0 0, .int .i64 ((n : Nat) : Int)] w (RetO w G tStr 9 fun ys => ys = []) := by
 refine enter [(sS none 0 0), (iN n)] 27 Try.func76 rfl rfl rfl rfl hG ?_
 refine WC_seq (WC_region ?_)
 refine WL_execS htb 1 [0, 1] [] ⟨[(0, (sS none 0 0)), (1, (iN n))], [], 0, [], []⟩ (by kernel_rfl) ?_
 refine WL_nil ?_
 refine WQ_code ?_
 refine WC_seq ?_
 refine WC_seq (WC_region ?_)
 refine WL_execS htb 2 [6, 0, 1] [] ⟨[(6, (bB (decide ((((n : Nat) : Int) : Int) < 0)))), (0, (sS none 0 0)), (1, (iN n))], [], 0, [], []⟩ (by kernel_rfl) ?_
 refine WL_nil ?_
 refine WQ_code ?_
 refine WC_cond (b := (decide ((((n : Nat) : Int) : Int) < 0))) rfl (fun hb => ?_) (fun hb => ?_)
 ·
  replace hb := of_decide_eq_true hb
  exfalso; omega
 ·
  replace hb := of_decide_eq_false hb
  refine WC_skip ?_
  refine WQ_code ?_
  refine WC_seq ?_
  refine WC_seq (WC_region ?_)
  refine WL_execS htb 8 [1, 0] [] ⟨[(1, (iI (IntKind.i64.wrap (((n : Nat) : Int) - (IntKind.i64.wrap (((0 : Nat) : Int) - ((0 : Nat) : Int))))))), (0, (sS none 0 0))], [], 0, [], []⟩ (by kernel_rfl) ?_
  refine WL_nil ?_
  refine WQ_code ?_
  refine WC_seq (WC_region ?_)
  refine WL_execS htb 2 [16, 1, 0] [] ⟨[(16, (bB (decide (((IntKind.i64.wrap (((n : Nat) : Int) - (IntKind.i64.wrap (((0 : Nat) : Int) - ((0 : Nat) : Int))))) : Int) > 0)))), (1, (iI (IntKind.i64.wrap (((n : Nat) : Int) - (IntKind.i64.wrap (((0 : Nat) : Int) - ((0 : Nat) : Int))))))), (0, (sS none 0 0))], [], 0, [], []⟩ (by kernel_rfl) ?_
  refine WL_nil ?_
  refine WQ_code ?_
  refine WC_cond (b := (decide (((IntKind.i64.wrap (((n : Nat) : Int) - (IntKind.i64.wrap (((0 : Nat) : Int) - ((0 : Nat) : Int))))) : Int) > 0))) rfl (fun hc => ?_) (fun hc => ?_)
  ·
   replace hc := of_decide_eq_true hc
   rw [show IntKind.i64.wrap (((0 : Nat) : Int) - ((0 : Nat) : Int)) = 0 from rfl, wrap_id (by omega)] at hc
   refine WK_env [(16, (bB (decide (((IntKind.i64.wrap (((n : Nat) : Int) - (IntKind.i64.wrap (((0 : Nat) : Int) - ((0 : Nat) : Int))))) : Int) > 0)))), (1, (iN n)), (0, (sS none 0 0))] (fun ρ => ⟨rfl, rfl, ⟨rfl, (congrArg (Value.int .i64) (by rw [show IntKind.i64.wrap (((0 : Nat) : Int) - ((0 : Nat) : Int)) = 0 from rfl, wrap_id (by omega)]; omega)), ⟨rfl, rfl, trivial⟩⟩⟩) ?_
   refine WC_region ?_
   refine WL_execS htb 3 [19, 17, 1, 0] [] ⟨[(19, (iN 0)), (17, (sS none 0 0)), (1, (iN n)), (0, (sS none 0 0))], [], 0, [], []⟩ (by kernel_rfl) ?_
   refine WL_op (WOp_sl htb none 0 0 0 0 1 (by kernel_rfl) (Nat.le_refl _) (Nat.le_refl _) (A' := none) rfl ?_)
   refine WL_execS htb 1 [21, 20, 0] [] ⟨[(21, (iN n)), (20, (sS none 0 0)), (0, (sS none 0 0))], [], 0, [], []⟩ (by kernel_rfl) ?_
   refine WL_op (WOp_az htb n 9 1 16 (.string ⟨#[]⟩) (by kernel_rfl) rfl tStr ⟨#[]⟩ ⟨rfl, by decide⟩ rfl (by decide) (by omega) (by unfold big; omega) (by omega) (fun arr cap ho => ?_))
   refine WL_execS htb 2 [24, 22] [0] ⟨[(24, (iN 0)), (22, (.ls false 0 n cap))], [(0, (.lst false 9 arr))], 1, [], []⟩ (by kernel_rfl) ?_
   refine WL_op (WOp_slo htb 0 n cap 0 (by kernel_rfl) (Nat.zero_le _) ?_)
   refine WL_execS htb 1 [0] [0] ⟨[(0, (.ls false 0 0 cap))], [(0, (.lst false 9 arr))], 1, [], []⟩ (by kernel_rfl) ?_
   refine WL_nil ?_
   refine WQ_code ?_
   refine WC_seq (WC_region ?_)
   refine WL_execS htb 2 [4] [0] ⟨[(4, (.ls false 0 0 cap))], [(0, (.lst false 9 arr))], 1, [], []⟩ (by kernel_rfl) ?_
   refine WL_nil ?_
   refine WQ_code ?_
   refine WC_ret ?_
   exact WQ_doneO htb _ (.inl rfl) (z := false) (h := 0) (xs := []) rfl (by kernel_rfl) rfl rfl rfl rfl (fun h => by cases h) (by have := ho.take 0; rwa [List.take_zero] at this) rfl
  ·
   replace hc := of_decide_eq_false hc
   refine WC_skip ?_
   refine WQ_code ?_
   refine WC_seq (WC_region ?_)
   refine WL_execS htb 2 [4] [] ⟨[(4, (sS none 0 0))], [], 0, [], []⟩ (by kernel_rfl) ?_
   refine WL_nil ?_
   refine WQ_code ?_
   refine WC_ret ?_
   refine WK_off 9 rfl ?_
   refine WK_env [(4, .ls true 0 0 0)] (fun ρ => ⟨rfl, rfl, trivial⟩) ?_
   exact WQ_doneO htb _ (.inl rfl) (z := true) (h := 0) (xs := []) rfl (by kernel_rfl) rfl rfl rfl rfl (fun _ => rfl) (OwnL.nil _ _) rfl

theorem concat_ok {w : World} {G : Heap} (hG : Has w G) {xss : (List (List ByteArray))} {A_xss : Option Addr} {n_xss : Nat} {c_xss : Nat} (h_xss : Sl (tSlice tStr) G A_xss n_xss c_xss xss) (hb : xss.flatten.length ≤ 4000000000) :
    Calls Try.prog 42 #[(.slice A_xss n_xss c_xss)] w (Ret w G fun v G' => ∃ (A_ys : Option Addr) (n_ys : Nat) (c_ys : Nat), v = .slice A_ys n_ys c_ys ∧ (Sl tStr G' A_ys n_ys c_ys (xss.flatten)) ∧ (True)) := by
 have lh_xss := h_xss.len'
 refine enter [(sS A_xss n_xss c_xss)] 36 Try.func42 rfl rfl rfl rfl hG ?_
 refine WC_seq (WC_region ?_)
 refine WL_execS htb 1 [0] [] ⟨[(0, (sS A_xss n_xss c_xss))], [], 0, [], []⟩ (by kernel_rfl) ?_
 refine WL_nil ?_
 refine WQ_code ?_
 refine WC_seq (WC_region ?_)
 refine WL_execS htb 1 [3, 0] [] ⟨[(3, (iI 0)), (0, (sS A_xss n_xss c_xss))], [], 0, [], []⟩ (by kernel_rfl) ?_
 refine WL_nil ?_
 refine WQ_code ?_
 refine WC_seq ?_
 refine WC_seq (WC_region ?_)
 refine WL_execS htb 3 [11, 10, 9, 3, 0] [] ⟨[(11, (iI 0)), (10, (iN n_xss)), (9, (sS A_xss n_xss c_xss)), (3, (iI 0)), (0, (sS A_xss n_xss c_xss))], [], 0, [], []⟩ (by kernel_rfl) ?_
 refine WL_nil ?_
 refine WQ_code ?_
 refine WC_block ?_
 have hf0 := flat_take xss 0
 refine WK_keep [11, 10, 9, 3, 0] [] rfl rfl ?_
 refine WK_env [(11, (iN 0)), (10, (iN n_xss)), (9, (sS A_xss n_xss c_xss)), (3, (iN ((xss.take 0).flatten.length))), (0, (sS A_xss n_xss c_xss))] (fun ρ => ⟨rfl, rfl, ⟨rfl, rfl, ⟨rfl, rfl, ⟨rfl, rfl, ⟨rfl, rfl, trivial⟩⟩⟩⟩⟩) ?_
 refine WC_loop (ι := Nat) (fun i G1 => Le G G1 ∧ (i ≤ n_xss)) (fun i => ⟨[(11, (iN i)), (10, (iN n_xss)), (9, (sS A_xss n_xss c_xss)), (3, (iN ((xss.take i).flatten.length))), (0, (sS A_xss n_xss c_xss))], [], 0, [], []⟩) (fun i => n_xss - i) (0) ⟨Le.refl _, Nat.zero_le _⟩ rfl ?_
 rintro i G1 ⟨hle, hF⟩
 show WC _ _ _ _ _ ⟨[(11, (iN i)), (10, (iN n_xss)), (9, (sS A_xss n_xss c_xss)), (3, (iN ((xss.take i).flatten.length))), (0, (sS A_xss n_xss c_xss))], [], 0, [], []⟩ _
 replace h_xss := h_xss.mono hle
 have hc2 := hle
 have hfi := flat_take xss i
 refine WC_seq (WC_region ?_)
 refine WL_execS htb 1 [12, 11, 10, 9, 3, 0] [] ⟨[(12, (bB (decide ((((i : Nat) : Int) : Int) < ((n_xss : Nat) : Int))))), (11, (iN i)), (10, (iN n_xss)), (9, (sS A_xss n_xss c_xss)), (3, (iN ((xss.take i).flatten.length))), (0, (sS A_xss n_xss c_xss))], [], 0, [], []⟩ (by kernel_rfl) ?_
 refine WL_nil ?_
 refine WQ_code ?_
 refine WC_seq ?_
 refine WC_cond (b := (decide ((((i : Nat) : Int) : Int) < ((n_xss : Nat) : Int)))) rfl (fun hc => ?_) (fun hc => ?_)
 ·
  replace hc := of_decide_eq_true hc
  refine WC_skip ?_
  refine WQ_code ?_
  refine WC_seq ?_
  refine WC_block ?_
  refine WC_seq (WC_region ?_)
  obtain ⟨q3, rfl⟩ := h_xss.ptr (by omega)
  obtain ⟨x6, _, hx4, hr7, at5⟩ := h_xss.get i (by omega)
  obtain ⟨A9, n10, c11, rfl, hs8⟩ := Sl.of hr7
  replace hs8 : Sl tStr _ A9 n10 c11 x6 := hs8
  have lhs8 := hs8.len'
  replace at5 : At G1 (q3.add (i * 1)) [.slice A9 n10 c11] := at5
  refine WL_op (WOp_idx htb q3 n_xss ((i : Nat) : Int) 1 (by kernel_rfl) (by omega) (by omega) ?_)
  refine WL_op (WOp_ld htb (q3.add (i * 1)) false 1 [.slice A9 n10 c11] (by kernel_rfl) at5 rfl (by decide) ?_)
  refine WL_execS htb 1 [5, 11, 10, 9, 3, 0] [] ⟨[(5, (sS A9 n10 c11)), (11, (iN i)), (10, (iN n_xss)), (9, (sS (some q3) n_xss c_xss)), (3, (iN ((xss.take i).flatten.length))), (0, (sS (some q3) n_xss c_xss))], [], 0, [], []⟩ (by kernel_rfl) ?_
  refine WL_nil ?_
  refine WQ_code ?_
  refine WC_seq (WC_region ?_)
  refine WL_execS htb 5 [3, 11, 10, 9, 0] [] ⟨[(3, (iI (IntKind.i64.wrap ((((xss.take i).flatten.length : Nat) : Int) + ((n10 : Nat) : Int))))), (11, (iN i)), (10, (iN n_xss)), (9, (sS (some q3) n_xss c_xss)), (0, (sS (some q3) n_xss c_xss))], [], 0, [], []⟩ (by kernel_rfl) ?_
  refine WL_nil ?_
  refine WQ_code ?_
  refine WC_seq (WC_region ?_)
  refine WL_execS htb 2 [20, 3, 11, 10, 9, 0] [] ⟨[(20, (bB (decide (((IntKind.i64.wrap ((((xss.take i).flatten.length : Nat) : Int) + ((n10 : Nat) : Int))) : Int) < 0)))), (3, (iI (IntKind.i64.wrap ((((xss.take i).flatten.length : Nat) : Int) + ((n10 : Nat) : Int))))), (11, (iN i)), (10, (iN n_xss)), (9, (sS (some q3) n_xss c_xss)), (0, (sS (some q3) n_xss c_xss))], [], 0, [], []⟩ (by kernel_rfl) ?_
  refine WL_nil ?_
  refine WQ_code ?_
  have hfl := flat_succ hx4
  refine WC_cond (b := (decide (((IntKind.i64.wrap ((((xss.take i).flatten.length : Nat) : Int) + ((n10 : Nat) : Int))) : Int) < 0))) rfl (fun hd => ?_) (fun hd => ?_)
  ·
   replace hd := of_decide_eq_true hd
   rw [wrap_id (by omega)] at hd
   exfalso; omega
  ·
   replace hd := of_decide_eq_false hd
   refine WC_skip ?_
   refine WQ_blk ?_
   refine WQ_code ?_
   refine WC_region ?_
   refine WL_execS htb 2 [11, 3, 10, 9, 0] [] ⟨[(11, (iI (IntKind.i64.wrap (((i : Nat) : Int) + 1)))), (3, (iI (IntKind.i64.wrap ((((xss.take i).flatten.length : Nat) : Int) + ((n10 : Nat) : Int))))), (10, (iN n_xss)), (9, (sS (some q3) n_xss c_xss)), (0, (sS (some q3) n_xss c_xss))], [], 0, [], []⟩ (by kernel_rfl) ?_
   refine WL_nil ?_
   refine WK_env [(11, (iN (i + 1))), (3, (iI (IntKind.i64.wrap ((((xss.take i).flatten.length : Nat) : Int) + ((n10 : Nat) : Int))))), (10, (iN n_xss)), (9, (sS (some q3) n_xss c_xss)), (0, (sS (some q3) n_xss c_xss))] (fun ρ => ⟨rfl, (congrArg (Value.int .i64) (by rw [wrap_id (by omega)]; first | rfl | omega)), ⟨rfl, rfl, ⟨rfl, rfl, ⟨rfl, rfl, ⟨rfl, rfl, trivial⟩⟩⟩⟩⟩) ?_
   refine WK_env [(11, (iN (i + 1))), (3, (iN ((xss.take (i + 1)).flatten.length))), (10, (iN n_xss)), (9, (sS (some q3) n_xss c_xss)), (0, (sS (some q3) n_xss c_xss))] (fun ρ => ⟨rfl, rfl, ⟨rfl, (congrArg (Value.int .i64) (by rw [wrap_id (by omega)]; omega)), ⟨rfl, rfl, ⟨rfl, rfl, ⟨rfl, rfl, trivial⟩⟩⟩⟩⟩) ?_
   refine WK_keep [11, 10, 9, 3, 0] [] rfl rfl ?_
   exact WQ_next ((i + 1)) (by show n_xss - (i + 1) < n_xss - i; omega) ⟨hc2, by omega⟩ (fun ρ a w h => h)
 ·
  replace hc := of_decide_eq_false hc
  refine WC_exit ?_
  refine WQ_then_exit ?_
  refine WQ_then_exit ?_
  refine WQ_hit ?_
  refine WQ_code ?_
  refine WC_seq (WC_region ?_)
  refine WL_execS htb 1 [23, 0] [] ⟨[(23, (iN ((xss.take i).flatten.length))), (0, (sS A_xss n_xss c_xss))], [], 0, [], []⟩ (by kernel_rfl) ?_
  refine WL_op (WOp_callO 76 [(sS none 0 0), (iN ((xss.take i).flatten.length))] (by kernel_rfl) (goes_of Try.func76 rfl rfl) (by kernel_rfl) (fun ρ w hW => grow_ok hW.has (n := (xss.take i).flatten.length) (by omega)) (fun G3 z4 arr5 cap6 ys7 hle hz8 ho9 hy => ?_))
  replace hc2 := Le.trans hc2 hle
  replace h_xss := h_xss.mono hle
  subst hy
  refine WL_execS htb 1 [6, 0] [0] ⟨[(6, (.ls z4 0 (([] : List Int).length) cap6)), (0, (sS A_xss n_xss c_xss))], [(0, (.lst z4 9 arr5))], 1, [], []⟩ (by kernel_rfl) ?_
  refine WL_nil ?_
  refine WQ_code ?_
  refine WC_seq ?_
  refine WC_seq (WC_region ?_)
  refine WL_execS htb 3 [27, 26, 25, 6] [0] ⟨[(27, (iI 0)), (26, (iN n_xss)), (25, (sS A_xss n_xss c_xss)), (6, (.ls z4 0 (([] : List Int).length) cap6))], [(0, (.lst z4 9 arr5))], 1, [], []⟩ (by kernel_rfl) ?_
  refine WL_nil ?_
  refine WQ_code ?_
  refine WC_block ?_
  refine WK_keep [27, 26, 25, 6] [0] rfl rfl ?_
  refine WK_env [(27, (iN 0)), (26, (iN n_xss)), (25, (sS A_xss n_xss c_xss)), (6, (.ls z4 0 ((xss.take 0).flatten.length) cap6))] (fun ρ => ⟨rfl, rfl, ⟨rfl, rfl, ⟨rfl, rfl, ⟨rfl, rfl, trivial⟩⟩⟩⟩) ?_
  refine WC_loop (ι := Nat × Bool × Array Value × Nat) (fun (j, z, arr, cap) G10 => Le G3 G10 ∧ (j ≤ n_xss ∧ OwnL tStr G10 (xss.take j).flatten arr cap ∧ (z = true → (xss.take j).flatten = []))) (fun (j, z, arr, cap) => ⟨[(27, (iN j)), (26, (iN n_xss)), (25, (sS A_xss n_xss c_xss)), (6, (.ls z 0 ((xss.take j).flatten.length) cap))], [(0, (.lst z 9 arr))], 1, [], []⟩) (fun (j, z, arr, cap) => n_xss - j) (0, z4, arr5, cap6) ⟨Le.refl _, ⟨Nat.zero_le _, by rw [List.take_zero]; exact ho9, fun _ => by rw [List.take_zero]; rfl⟩⟩ rfl ?_
  rintro ⟨j, z, arr, cap⟩ G10 ⟨hle, hF⟩
  show WC _ _ _ _ _ ⟨[(27, (iN j)), (26, (iN n_xss)), (25, (sS A_xss n_xss c_xss)), (6, (.ls z 0 ((xss.take j).flatten.length) cap))], [(0, (.lst z 9 arr))], 1, [], []⟩ _
  replace hc2 := Le.trans hc2 hle
  replace h_xss := h_xss.mono hle
  replace ho9 := ho9.mono hle
  have hc11 := hle
  obtain ⟨hj, ho, hz⟩ := hF
  have hfj := flat_take xss j
  refine WC_seq (WC_region ?_)
  refine WL_execS htb 1 [28, 27, 26, 25, 6] [0] ⟨[(28, (bB (decide ((((j : Nat) : Int) : Int) < ((n_xss : Nat) : Int))))), (27, (iN j)), (26, (iN n_xss)), (25, (sS A_xss n_xss c_xss)), (6, (.ls z 0 ((xss.take j).flatten.length) cap))], [(0, (.lst z 9 arr))], 1, [], []⟩ (by kernel_rfl) ?_
  refine WL_nil ?_
  refine WQ_code ?_
  refine WC_seq ?_
  refine WC_cond (b := (decide ((((j : Nat) : Int) : Int) < ((n_xss : Nat) : Int)))) rfl (fun hd => ?_) (fun hd => ?_)
  ·
   replace hd := of_decide_eq_true hd
   refine WC_skip ?_
   refine WQ_code ?_
   refine WC_seq ?_
   refine WC_block ?_
   refine WC_seq (WC_region ?_)
   obtain ⟨q12, rfl⟩ := h_xss.ptr (by omega)
   obtain ⟨x15, _, hx13, hr16, at14⟩ := h_xss.get j (by omega)
   obtain ⟨A18, n19, c20, rfl, hs17⟩ := Sl.of hr16
   replace hs17 : Sl tStr _ A18 n19 c20 x15 := hs17
   have lhs17 := hs17.len'
   replace at14 : At G10 (q12.add (j * 1)) [.slice A18 n19 c20] := at14
   refine WL_op (WOp_idx htb q12 n_xss ((j : Nat) : Int) 1 (by kernel_rfl) (by omega) (by omega) ?_)
   refine WL_op (WOp_ld htb (q12.add (j * 1)) false 1 [.slice A18 n19 c20] (by kernel_rfl) at14 rfl (by decide) ?_)
   refine WL_execS htb 1 [8, 27, 26, 25, 6] [0] ⟨[(8, (sS A18 n19 c20)), (27, (iN j)), (26, (iN n_xss)), (25, (sS (some q12) n_xss c_xss)), (6, (.ls z 0 ((xss.take j).flatten.length) cap))], [(0, (.lst z 9 arr))], 1, [], []⟩ (by kernel_rfl) ?_
   refine WL_nil ?_
   refine WQ_code ?_
   refine WC_region ?_
   refine WL_execS htb 2 [32, 31, 27, 26, 25] [0] ⟨[(32, (sS A18 n19 c20)), (31, (.ls z 0 ((xss.take j).flatten.length) cap)), (27, (iN j)), (26, (iN n_xss)), (25, (sS (some q12) n_xss c_xss))], [(0, (.lst z 9 arr))], 1, [], []⟩ (by kernel_rfl) ?_
   have hfl := flat_succ hx13
   refine WL_op (WOp_append htb z 0 ((xss.take j).flatten.length) cap A18 n19 9 1 16 (by kernel_rfl) (by kernel_rfl) rfl rfl tStr (xs := (xss.take j).flatten) (ys := x15) ho rfl hz hs17.row hs17.len rfl (by decide) (by have := hs17.len'; omega) (by have := hs17.len'; unfold big; omega) (fun z21 arr22 cap23 hz24 ho25 => ?_))
   show WL _ _ _ _ _ _ ⟨[(33, (.ls z21 1 ((((xss.take j).flatten) ++ x15).length) cap23)), (32, (sS A18 n19 c20)), (31, (.ls z 0 ((xss.take j).flatten.length) cap)), (27, (iN j)), (26, (iN n_xss)), (25, (sS (some q12) n_xss c_xss))], [(1, (.lst z21 9 arr22))], 2, [], []⟩ _
   refine WL_execS htb 1 [6, 27, 26, 25] [1] ⟨[(6, (.ls z21 1 ((((xss.take j).flatten) ++ x15).length) cap23)), (27, (iN j)), (26, (iN n_xss)), (25, (sS (some q12) n_xss c_xss))], [(1, (.lst z21 9 arr22))], 2, [], []⟩ (by kernel_rfl) ?_
   refine WL_nil ?_
   refine WQ_blk ?_
   refine WQ_code ?_
   refine WC_region ?_
   refine WL_execS htb 2 [27, 6, 26, 25] [1] ⟨[(27, (iI (IntKind.i64.wrap (((j : Nat) : Int) + 1)))), (6, (.ls z21 1 ((((xss.take j).flatten) ++ x15).length) cap23)), (26, (iN n_xss)), (25, (sS (some q12) n_xss c_xss))], [(1, (.lst z21 9 arr22))], 2, [], []⟩ (by kernel_rfl) ?_
   refine WL_nil ?_
   refine WK_env [(27, (iN (j + 1))), (6, (.ls z21 1 ((((xss.take j).flatten) ++ x15).length) cap23)), (26, (iN n_xss)), (25, (sS (some q12) n_xss c_xss))] (fun ρ => ⟨rfl, (congrArg (Value.int .i64) (by rw [wrap_id (by omega)]; first | rfl | omega)), ⟨rfl, rfl, ⟨rfl, rfl, ⟨rfl, rfl, trivial⟩⟩⟩⟩) ?_
   refine WK_keep [27, 26, 25, 6] [1] rfl rfl ?_
   refine WK_env [(27, (iN (j + 1))), (26, (iN n_xss)), (25, (sS (some q12) n_xss c_xss)), (6, (.ls z21 1 ((xss.take (j + 1)).flatten.length) cap23))] (fun ρ => ⟨rfl, rfl, ⟨rfl, rfl, ⟨rfl, rfl, ⟨rfl, (congrArg (fun n => nilOr z21 (.slice (some ⟨ρ 1, 0, none⟩) n cap23)) (by rw [flat_app hx13])), trivial⟩⟩⟩⟩) ?_
   exact WQ_nextR ((j + 1), z21, arr22, cap23) (by show n_xss - (j + 1) < n_xss - j; omega) ⟨hc11, ⟨by omega, by rw [flat_app hx13]; exact ho25, fun h => by rw [flat_app hx13]; exact hz24 h⟩⟩ [(0, 1)] rfl rfl rfl rfl rfl rfl
  ·
   replace hd := of_decide_eq_false hd
   refine WC_exit ?_
   refine WQ_then_exit ?_
   refine WQ_then_exit ?_
   refine WQ_hit ?_
   refine WQ_code ?_
   refine WC_seq (WC_region ?_)
   refine WL_execS htb 2 [2] [0] ⟨[(2, (.ls z 0 ((xss.take j).flatten.length) cap))], [(0, (.lst z 9 arr))], 1, [], []⟩ (by kernel_rfl) ?_
   refine WL_nil ?_
   refine WQ_code ?_
   refine WC_ret ?_
   refine WK_freezeL 0 rfl rfl ?_
   intro bk13 G12 hle hbk13
   replace hc2 := Le.trans hc2 hle
   replace hc11 := Le.trans hc11 hle
   obtain ⟨A15, n16, c17, e18, hs14⟩ := OwnL.sl (n := (xss.take j).flatten.length) ho hle hz hbk13 rfl
   refine WK_env [(2, (sS A15 n16 c17))] (fun ρ => ⟨rfl, (by exact e18), trivial⟩) ?_
   have lhs14 := hs14.len'
   exact WQ_done htb [(sS A15 n16 c17)] _ (.inl rfl) rfl (by kernel_rfl) (fun ρ w hW => ⟨_, _, _, rfl, (by rw [(by rw [List.take_of_length_le (by omega)] : (xss.flatten) = (xss.take j).flatten)]; exact hs14), trivial⟩)

end Go.Proofs.Ytfemkbockhpmcaa.Sym
