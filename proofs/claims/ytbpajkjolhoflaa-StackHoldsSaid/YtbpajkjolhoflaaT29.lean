/- Walks of functions that the laws of this seat reach, printed by a program of this session's. -/
import Derived.Test.YtbpajkjolhoflaaT28
import Derived.Test.YtbpajkjolhoflaaSymL
import Derived.Test.YtbpajkjolhoflaaPl
import Derived.Laws.Strings
import Derived.WideShapes
set_option linter.unusedSimpArgs false
set_option linter.unusedVariables false
set_option maxHeartbeats 4000000
namespace Go.Proofs.Ytbpajkjolhoflaa.Sym
open Go Go.Proofs Go.RowKit






theorem led_ok {w : World} {G : Heap} (hG : Has w G) {g : (List (ByteArray × (List (List ByteArray))))} {A_g : Option Addr} {n_g : Nat} {c_g : Nat} (h_g : Sl (tPair tStr (tSlice (tSlice tStr))) G A_g n_g c_g g) (hg : SmallG g) :
    Calls Try.prog 85 #[(.agg #[.slice A_g n_g c_g])] w (Ret w G fun v G' => ∃ (r : (List ByteArray)) (A_r : Option Addr) (n_r : Nat) (c_r : Nat), v = .slice A_r n_r c_r ∧ (Sl tStr G' A_r n_r c_r r) ∧ (True)) := by
  have lh_g := h_g.len'
  refine enter [(.agg [(sS A_g n_g c_g)])] 66 Try.func85 rfl rfl rfl rfl hG ?_
  refine WC_seq (WC_region ?_)
  refine WL_execS htb 2 [1] [0] ⟨[(1, (.p 0 0))], [(0, (.cells 78 [(sS A_g n_g c_g)]))], 1, [], []⟩ (by kernel_rfl) ?_
  refine WL_nil ?_
  refine WQ_code ?_
  refine WC_seq ?_
  refine WC_seq (WC_region ?_)
  refine WL_execS htb 4 [14, 1] [0] ⟨[(14, (bB ((((n_g : Nat) : Int) : Int) == 0))), (1, (.p 0 0))], [(0, (.cells 78 [(sS A_g n_g c_g)]))], 1, [], []⟩ (by kernel_rfl) ?_
  refine WL_nil ?_
  refine WQ_code ?_
  refine WC_cond (b := ((((n_g : Nat) : Int) : Int) == 0)) rfl (fun hb0 => ?_) (fun hb0 => ?_)
  · replace hb0 := eq_of_beq hb0
    refine WC_seq (WC_region ?_)
    refine WL_execS htb 1 [2] [] ⟨[(2, (sS none 0 0))], [], 1, [], []⟩ (by kernel_rfl) ?_
    refine WL_nil ?_
    refine WQ_code ?_
    refine WC_ret ?_
    refine WQ_then_ret ?_
    exact WQ_done htb [(sS none 0 0)] _ (.inl rfl) rfl (by kernel_rfl) (fun ρ w hW => ⟨[], _, _, _, rfl, (Sl.none0 _ _), trivial⟩)
  · replace hb0 := ne_of_beq_false hb0
    have hg1 := hg.1
    have hal := allNames_len hg
    refine WC_skip ?_
    refine WQ_code ?_
    refine WC_seq (WC_region ?_)
    refine WL_execS htb 2 [16, 1] [0] ⟨[(16, (sS A_g n_g c_g)), (1, (.p 0 0))], [(0, (.cells 78 [(sS A_g n_g c_g)]))], 1, [], []⟩ (by kernel_rfl) ?_
    obtain ⟨q1, rfl⟩ := h_g.ptr (by omega)
    obtain ⟨⟨x4, x6⟩, _, hx2, ⟨_, _, rfl, ⟨rfl, hn5⟩, hr7⟩, at3⟩ := h_g.get 0 (by omega)
    obtain ⟨A9, n10, c11, rfl, hs8⟩ := Sl.of hr7
    replace hs8 : Sl (tSlice tStr) _ A9 n10 c11 x6 := hs8
    have lhs8 := hs8.len'
    replace at3 : At G (q1.add (0 * 2)) [.string x4, .slice A9 n10 c11] := at3
    refine WL_op (WOp_idx htb q1 n_g 0 2 (by kernel_rfl) (by omega) (by omega) ?_)
    refine WL_execS htb 1 [18, 1] [0] ⟨[(18, (.v (.pointer (some ((q1.add (0 * 2)).add 0))))), (1, (.p 0 0))], [(0, (.cells 78 [(sS (some q1) n_g c_g)]))], 1, [], []⟩ (by kernel_rfl) ?_
    refine WL_op (WOp_ld htb ((q1.add (0 * 2)).add 0) false 1 [.string x4] (by kernel_rfl) (at3.field 0 rfl) rfl (by decide) ?_)
    refine WL_execS htb 2 [3, 1] [1, 0] ⟨[(3, (.s 1 1 1)), (1, (.p 0 0))], [(1, (.cells 9 [(tS x4)])), (0, (.cells 78 [(sS (some q1) n_g c_g)]))], 2, [], []⟩ (by kernel_rfl) ?_
    refine WL_nil ?_
    refine WQ_code ?_
    refine WC_seq ?_
    refine WC_seq (WC_region ?_)
    refine WL_execS htb 1 [4, 3, 1] [1, 0] ⟨[(4, (iI 0)), (3, (.s 1 1 1)), (1, (.p 0 0))], [(1, (.cells 9 [(tS x4)])), (0, (.cells 78 [(sS (some q1) n_g c_g)]))], 2, [], []⟩ (by kernel_rfl) ?_
    refine WL_nil ?_
    refine WQ_code ?_
    refine WC_block ?_
    refine WK_lst 1 [.string x4] rfl (fun ρ => rfl) ?_
    have ho12 : OwnL tStr G [x4] (([.string x4] : List Value).toArray) 1 := OwnL.lit (cs := [.string x4]) (RepsL.cons' (rep_str _ (x := x4) hn5) .nil) (by first | decide | simp [big])
    refine WK_freeze 0 rfl rfl rfl rfl ?_
    intro bk14 G13 hle hbk14
    replace h_g := h_g.mono hle
    replace ho12 := ho12.mono hle
    have hz := FZ.cons (h := 0) hbk14 rfl (FZ.nil _)
    refine WK_keep [4, 3, 1] [1] rfl rfl ?_
    refine WK_env [(4, (iN 0)), (3, (.ls false 1 (([x4]).length) 1)), (1, (.p 0 0))] (fun ρ => ⟨rfl, rfl, ⟨rfl, rfl, ⟨rfl, rfl, trivial⟩⟩⟩) ?_
    refine WC_loop (ι := Nat × List ByteArray × Array Value × Nat) (fun (i, out, arr, cap) G15 => Le G13 G15 ∧ (i ≤ out.length ∧ OwnL tStr G15 out arr cap ∧ (out.Nodup ∧ (∀ x ∈ out, x ∈ (x4 :: allNames g))))) (fun (i, out, arr, cap) => ⟨[(4, (iN i)), (3, (.ls false 1 out.length cap)), (1, (.p 0 0))], [(1, (.lst false 9 arr))], 2, [], [(0, bk14, (.cells 78 [(sS (some q1) n_g c_g)]))]⟩) (fun (i, out, arr, cap) => (allNames g).length + 2 - i) (0, [x4], ([.string x4] : List Value).toArray, 1) ⟨Le.refl _, ⟨Nat.zero_le _, ho12, ⟨by simp, by simp⟩⟩⟩ rfl ?_
    rintro ⟨i, out, arr, cap⟩ G15 ⟨hle, hF⟩
    show WC _ _ _ _ _ ⟨[(4, (iN i)), (3, (.ls false 1 out.length cap)), (1, (.p 0 0))], [(1, (.lst false 9 arr))], 2, [], [(0, bk14, (.cells 78 [(sS (some q1) n_g c_g)]))]⟩ _
    replace h_g := h_g.mono hle
    replace hz := hz.mono hle
    replace ho12 := ho12.mono hle
    have hc16 := hle
    obtain ⟨hi, ho, hex⟩ := hF
    have hln := nodup_len hex.1 hex.2; rw [List.length_cons] at hln
    refine WC_seq ?_
    refine WC_seq (WC_region ?_)
    refine WL_execS htb 4 [24, 4, 3, 1] [1] ⟨[(24, (bB (decide ((((i : Nat) : Int) : Int) < ((out.length : Nat) : Int))))), (4, (iN i)), (3, (.ls false 1 out.length cap)), (1, (.p 0 0))], [(1, (.lst false 9 arr))], 2, [], [(0, bk14, (.cells 78 [(sS (some q1) n_g c_g)]))]⟩ (by kernel_rfl) ?_
    refine WL_nil ?_
    refine WQ_code ?_
    refine WC_cond (b := (decide ((((i : Nat) : Int) : Int) < ((out.length : Nat) : Int)))) rfl (fun hc => ?_) (fun hc => ?_)
    · replace hc := of_decide_eq_true hc
      refine WC_skip ?_
      refine WQ_code ?_
      refine WC_seq ?_
      refine WC_block ?_
      refine WC_seq (WC_region ?_)
      refine WL_execS htb 4 [30, 29, 28, 4, 3, 1] [1] ⟨[(30, (iI 0)), (29, (iN n_g)), (28, (sS (some q1) n_g c_g)), (4, (iN i)), (3, (.ls false 1 out.length cap)), (1, (.p 0 0))], [(1, (.lst false 9 arr))], 2, [], [(0, bk14, (.cells 78 [(sS (some q1) n_g c_g)]))]⟩ (by kernel_rfl) ?_
      refine WL_nil ?_
      refine WQ_code ?_
      refine WC_block ?_
      refine WK_keep [30, 29, 28, 4, 3, 1] [1] rfl rfl ?_
      refine WK_env [(30, (iN 0)), (29, (iN n_g)), (28, (sS (some q1) n_g c_g)), (4, (iN i)), (3, (.ls false 1 out.length cap)), (1, (.p 0 0))] (fun ρ => ⟨rfl, rfl, ⟨rfl, rfl, ⟨rfl, rfl, ⟨rfl, rfl, ⟨rfl, rfl, ⟨rfl, rfl, trivial⟩⟩⟩⟩⟩⟩) ?_
      refine WC_loop (ι := Nat × List ByteArray × Array Value × Nat) (fun (r, out1, arr1, cap1) G17 => Le G15 G17 ∧ (r ≤ n_g ∧ OwnL tStr G17 out1 arr1 cap1 ∧ (out1.Nodup ∧ (∀ x ∈ out1, x ∈ (x4 :: allNames g)) ∧ out.length ≤ out1.length))) (fun (r, out1, arr1, cap1) => ⟨[(30, (iN r)), (29, (iN n_g)), (28, (sS (some q1) n_g c_g)), (4, (iN i)), (3, (.ls false 1 out1.length cap1)), (1, (.p 0 0))], [(1, (.lst false 9 arr1))], 2, [], [(0, bk14, (.cells 78 [(sS (some q1) n_g c_g)]))]⟩) (fun (r, out1, arr1, cap1) => n_g - r) (0, out, arr, cap) ⟨Le.refl _, ⟨Nat.zero_le _, ho, ⟨hex.1, hex.2, Nat.le_refl _⟩⟩⟩ rfl ?_
      rintro ⟨r, out1, arr1, cap1⟩ G17 ⟨hle, hF⟩
      show WC _ _ _ _ _ ⟨[(30, (iN r)), (29, (iN n_g)), (28, (sS (some q1) n_g c_g)), (4, (iN i)), (3, (.ls false 1 out1.length cap1)), (1, (.p 0 0))], [(1, (.lst false 9 arr1))], 2, [], [(0, bk14, (.cells 78 [(sS (some q1) n_g c_g)]))]⟩ _
      replace hc16 := Le.trans hc16 hle
      replace h_g := h_g.mono hle
      replace hz := hz.mono hle
      replace ho := ho.mono hle
      have hc18 := hle
      obtain ⟨hi1, ho1, hex1⟩ := hF
      have hln1 := nodup_len hex1.1 hex1.2.1; rw [List.length_cons] at hln1
      refine WC_seq (WC_region ?_)
      refine WL_execS htb 1 [31, 30, 29, 28, 4, 3, 1] [1] ⟨[(31, (bB (decide ((((r : Nat) : Int) : Int) < ((n_g : Nat) : Int))))), (30, (iN r)), (29, (iN n_g)), (28, (sS (some q1) n_g c_g)), (4, (iN i)), (3, (.ls false 1 out1.length cap1)), (1, (.p 0 0))], [(1, (.lst false 9 arr1))], 2, [], [(0, bk14, (.cells 78 [(sS (some q1) n_g c_g)]))]⟩ (by kernel_rfl) ?_
      refine WL_nil ?_
      refine WQ_code ?_
      refine WC_seq ?_
      refine WC_cond (b := (decide ((((r : Nat) : Int) : Int) < ((n_g : Nat) : Int)))) rfl (fun hc1 => ?_) (fun hc1 => ?_)
      · replace hc1 := of_decide_eq_true hc1
        refine WC_skip ?_
        refine WQ_code ?_
        refine WC_seq ?_
        refine WC_block ?_
        refine WC_seq (WC_region ?_)
        obtain ⟨⟨x21, x23⟩, _, hx19, ⟨_, _, rfl, ⟨rfl, hn22⟩, hr24⟩, at20⟩ := h_g.get r (by omega)
        obtain ⟨A26, n27, c28, rfl, hs25⟩ := Sl.of hr24
        replace hs25 : Sl (tSlice tStr) _ A26 n27 c28 x23 := hs25
        have lhs25 := hs25.len'
        replace at20 : At G17 (q1.add (r * 2)) [.string x21, .slice A26 n27 c28] := at20
        refine WL_op (WOp_idx htb q1 n_g ((r : Nat) : Int) 2 (by kernel_rfl) (by omega) (by omega) ?_)
        refine WL_op (WOp_ld htb (q1.add (r * 2)) true 2 [.string x21, .slice A26 n27 c28] (by kernel_rfl) at20 rfl (by decide) ?_)
        refine WL_execS htb 2 [6, 30, 29, 28, 4, 3, 1] [2, 1] ⟨[(6, (.p 2 0)), (30, (iN r)), (29, (iN n_g)), (28, (sS (some q1) n_g c_g)), (4, (iN i)), (3, (.ls false 1 out1.length cap1)), (1, (.p 0 0))], [(2, (.cells 111 [(tS x21), (sS A26 n27 c28)])), (1, (.lst false 9 arr1))], 3, [], [(0, bk14, (.cells 78 [(sS (some q1) n_g c_g)]))]⟩ (by kernel_rfl) ?_
        refine WL_nil ?_
        refine WQ_code ?_
        refine WC_seq ?_
        refine WK_freeze 2 rfl rfl rfl rfl ?_
        intro bk30 G29 hle hbk30
        replace hc16 := Le.trans hc16 hle
        replace hc18 := Le.trans hc18 hle
        replace h_g := h_g.mono hle
        replace hs25 := hs25.mono hle
        replace hz := hz.mono hle
        replace ho1 := ho1.mono hle
        have hz := FZ.cons (h := 2) hbk30 rfl hz
        refine WC_seq (WC_draw mixed ?_)
        refine WD_takeL htb rfl (fun _ _ _ _ _ h => h) (Le.refl _) [0, 1, 2, 3] (fuel := 3) (listed' := bts 7 15) (S' := ⟨[(37, (iN i)), (36, (.ls false 1 out1.length cap1)), (35, (tS x21)), (34, (.p 2 0)), (6, (.p 2 0)), (30, (iN r)), (29, (iN n_g)), (28, (sS (some q1) n_g c_g)), (4, (iN i)), (3, (.ls false 1 out1.length cap1)), (1, (.p 0 0))], [(1, (.lst false 9 arr1))], 3, [], [(2, bk30, (.cells 111 [(tS x21), (sS A26 n27 c28)])), (0, bk14, (.cells 78 [(sS (some q1) n_g c_g)]))]⟩) hz (by kernel_rfl) rfl ?_
        refine WD_one 4 (by rfl) (by decide +kernel) (WOp_idxo htb 1 out1.length ((i : Nat) : Int) 1 (by kernel_rfl) (by omega) (by omega) (WD_on (Le.refl _) ?_))
        refine WD_one 5 (by rfl) (by decide +kernel) (WOp_ldo htb 1 (i * 1) false 1 [.string (out1[i]?.getD ByteArray.empty)] (by kernel_rfl) rfl (ho1.str (by omega)) rfl (by decide) (WD_on (Le.refl _) ?_))
        refine WD_takeL htb rfl (fun _ _ _ _ _ h => h) (Le.refl _) [6] (fuel := 0) (listed' := bts 7 127) (S' := ⟨[(40, (bB (!((x21 : ByteArray).toList == ((out1[i]?.getD ByteArray.empty) : ByteArray).toList)))), (39, (tS (out1[i]?.getD ByteArray.empty))), (38, (.p 1 (i * 1))), (37, (iN i)), (36, (.ls false 1 out1.length cap1)), (35, (tS x21)), (34, (.p 2 0)), (6, (.p 2 0)), (30, (iN r)), (29, (iN n_g)), (28, (sS (some q1) n_g c_g)), (4, (iN i)), (3, (.ls false 1 out1.length cap1)), (1, (.p 0 0))], [(1, (.lst false 9 arr1))], 3, [], [(2, bk30, (.cells 111 [(tS x21), (sS A26 n27 c28)])), (0, bk14, (.cells 78 [(sS (some q1) n_g c_g)]))]⟩) hz (by kernel_rfl) rfl ?_
        refine WD_done (by decide +kernel) ?_
        refine WK_keep [40, 6, 30, 29, 28, 4, 3, 1] [1] rfl rfl ?_
        refine WQ_code ?_
        refine WC_cond (b := (!((x21 : ByteArray).toList == ((out1[i]?.getD ByteArray.empty) : ByteArray).toList))) rfl (fun hne => ?_) (fun hne => ?_)
        · rw [Bool.not_eq_true'] at hne
          replace hne := ne_of_beq_false hne
          refine WC_exit ?_
          refine WQ_then_exit ?_
          refine WQ_hit ?_
          refine WQ_code ?_
          refine WC_region ?_
          refine WL_execS htb 2 [30, 29, 28, 4, 3, 1] [1] ⟨[(30, (iI (IntKind.i64.wrap (((r : Nat) : Int) + 1)))), (29, (iN n_g)), (28, (sS (some q1) n_g c_g)), (4, (iN i)), (3, (.ls false 1 out1.length cap1)), (1, (.p 0 0))], [(1, (.lst false 9 arr1))], 3, [], [(2, bk30, (.cells 111 [(tS x21), (sS A26 n27 c28)])), (0, bk14, (.cells 78 [(sS (some q1) n_g c_g)]))]⟩ (by kernel_rfl) ?_
          refine WL_nil ?_
          refine WK_env [(30, (iN (r + 1))), (29, (iN n_g)), (28, (sS (some q1) n_g c_g)), (4, (iN i)), (3, (.ls false 1 out1.length cap1)), (1, (.p 0 0))] (fun ρ => ⟨rfl, (congrArg (Value.int .i64) (by rw [wrap_id (by omega)]; first | rfl | omega)), ⟨rfl, rfl, ⟨rfl, rfl, ⟨rfl, rfl, ⟨rfl, rfl, ⟨rfl, rfl, trivial⟩⟩⟩⟩⟩⟩) ?_
          refine WK_dropfz 1 ?_
          show WK _ _ ⟨_, _, _, _, [(0, bk14, (.cells 78 [(sS (some q1) n_g c_g)]))]⟩ _
          refine WK_keep [30, 29, 28, 4, 3, 1] [1] rfl rfl ?_
          exact WQ_next ((r + 1), out1, arr1, cap1) (by show n_g - (r + 1) < n_g - r; omega) ⟨hc18, ⟨(by omega), ho1, hex1⟩⟩ (fun ρ a w h => h)
        · rw [Bool.not_eq_false'] at hne
          replace hne := eq_of_beq hne
          refine WC_skip ?_
          refine WQ_code ?_
          refine WC_seq (WC_region ?_)
          refine WL_execS htb 4 [44, 43, 42, 30, 29, 28, 4, 3, 1] [1] ⟨[(44, (iI 0)), (43, (iN n27)), (42, (sS A26 n27 c28)), (30, (iN r)), (29, (iN n_g)), (28, (sS (some q1) n_g c_g)), (4, (iN i)), (3, (.ls false 1 out1.length cap1)), (1, (.p 0 0))], [(1, (.lst false 9 arr1))], 3, [], [(2, bk30, (.cells 111 [(tS x21), (sS A26 n27 c28)])), (0, bk14, (.cells 78 [(sS (some q1) n_g c_g)]))]⟩ (by kernel_rfl) ?_
          refine WL_nil ?_
          refine WQ_code ?_
          refine WC_block ?_
          refine WK_keep [44, 43, 42, 30, 29, 28, 4, 3, 1] [1] rfl rfl ?_
          refine WK_env [(44, (iN 0)), (43, (iN n27)), (42, (sS A26 n27 c28)), (30, (iN r)), (29, (iN n_g)), (28, (sS (some q1) n_g c_g)), (4, (iN i)), (3, (.ls false 1 out1.length cap1)), (1, (.p 0 0))] (fun ρ => ⟨rfl, rfl, ⟨rfl, rfl, ⟨rfl, rfl, ⟨rfl, rfl, ⟨rfl, rfl, ⟨rfl, rfl, ⟨rfl, rfl, ⟨rfl, rfl, ⟨rfl, rfl, trivial⟩⟩⟩⟩⟩⟩⟩⟩⟩) ?_
          refine WC_loop (ι := Nat × List ByteArray × Array Value × Nat) (fun (k, out2, arr2, cap2) G31 => Le G29 G31 ∧ (k ≤ n27 ∧ OwnL tStr G31 out2 arr2 cap2 ∧ (out2.Nodup ∧ (∀ x ∈ out2, x ∈ (x4 :: allNames g)) ∧ out.length ≤ out2.length))) (fun (k, out2, arr2, cap2) => ⟨[(44, (iN k)), (43, (iN n27)), (42, (sS A26 n27 c28)), (30, (iN r)), (29, (iN n_g)), (28, (sS (some q1) n_g c_g)), (4, (iN i)), (3, (.ls false 1 out2.length cap2)), (1, (.p 0 0))], [(1, (.lst false 9 arr2))], 3, [], [(2, bk30, (.cells 111 [(tS x21), (sS A26 n27 c28)])), (0, bk14, (.cells 78 [(sS (some q1) n_g c_g)]))]⟩) (fun (k, out2, arr2, cap2) => n27 - k) (0, out1, arr1, cap1) ⟨Le.refl _, ⟨Nat.zero_le _, ho1, hex1⟩⟩ rfl ?_
          rintro ⟨k, out2, arr2, cap2⟩ G31 ⟨hle, hF⟩
          show WC _ _ _ _ _ ⟨[(44, (iN k)), (43, (iN n27)), (42, (sS A26 n27 c28)), (30, (iN r)), (29, (iN n_g)), (28, (sS (some q1) n_g c_g)), (4, (iN i)), (3, (.ls false 1 out2.length cap2)), (1, (.p 0 0))], [(1, (.lst false 9 arr2))], 3, [], [(2, bk30, (.cells 111 [(tS x21), (sS A26 n27 c28)])), (0, bk14, (.cells 78 [(sS (some q1) n_g c_g)]))]⟩ _
          replace hc16 := Le.trans hc16 hle
          replace hc18 := Le.trans hc18 hle
          replace h_g := h_g.mono hle
          replace hs25 := hs25.mono hle
          replace hz := hz.mono hle
          replace ho1 := ho1.mono hle
          have hc32 := hle
          obtain ⟨hi2, ho2, hex2⟩ := hF
          have hln2 := nodup_len hex2.1 hex2.2.1; rw [List.length_cons] at hln2
          refine WC_seq (WC_region ?_)
          refine WL_execS htb 1 [45, 44, 43, 42, 30, 29, 28, 4, 3, 1] [1] ⟨[(45, (bB (decide ((((k : Nat) : Int) : Int) < ((n27 : Nat) : Int))))), (44, (iN k)), (43, (iN n27)), (42, (sS A26 n27 c28)), (30, (iN r)), (29, (iN n_g)), (28, (sS (some q1) n_g c_g)), (4, (iN i)), (3, (.ls false 1 out2.length cap2)), (1, (.p 0 0))], [(1, (.lst false 9 arr2))], 3, [], [(2, bk30, (.cells 111 [(tS x21), (sS A26 n27 c28)])), (0, bk14, (.cells 78 [(sS (some q1) n_g c_g)]))]⟩ (by kernel_rfl) ?_
          refine WL_nil ?_
          refine WQ_code ?_
          refine WC_seq ?_
          refine WC_cond (b := (decide ((((k : Nat) : Int) : Int) < ((n27 : Nat) : Int)))) rfl (fun hc2 => ?_) (fun hc2 => ?_)
          · replace hc2 := of_decide_eq_true hc2
            refine WC_skip ?_
            refine WQ_code ?_
            refine WC_seq ?_
            refine WC_block ?_
            refine WC_seq (WC_region ?_)
            obtain ⟨q33, rfl⟩ := hs25.ptr (by omega)
            obtain ⟨x36, _, hx34, hr37, at35⟩ := hs25.get k (by omega)
            obtain ⟨A39, n40, c41, rfl, hs38⟩ := Sl.of hr37
            replace hs38 : Sl tStr _ A39 n40 c41 x36 := hs38
            have lhs38 := hs38.len'
            replace at35 : At G31 (q33.add (k * 1)) [.slice A39 n40 c41] := at35
            refine WL_op (WOp_idx htb q33 n27 ((k : Nat) : Int) 1 (by kernel_rfl) (by omega) (by omega) ?_)
            refine WL_op (WOp_ld htb (q33.add (k * 1)) false 1 [.slice A39 n40 c41] (by kernel_rfl) at35 rfl (by decide) ?_)
            refine WL_execS htb 1 [8, 44, 43, 42, 30, 29, 28, 4, 3, 1] [1] ⟨[(8, (sS A39 n40 c41)), (44, (iN k)), (43, (iN n27)), (42, (sS (some q33) n27 c28)), (30, (iN r)), (29, (iN n_g)), (28, (sS (some q1) n_g c_g)), (4, (iN i)), (3, (.ls false 1 out2.length cap2)), (1, (.p 0 0))], [(1, (.lst false 9 arr2))], 3, [], [(2, bk30, (.cells 111 [(tS x21), (sS (some q33) n27 c28)])), (0, bk14, (.cells 78 [(sS (some q1) n_g c_g)]))]⟩ (by kernel_rfl) ?_
            refine WL_nil ?_
            refine WQ_code ?_
            refine WC_seq (WC_region ?_)
            refine WL_execS htb 3 [50, 49, 48, 44, 43, 42, 30, 29, 28, 4, 3, 1] [1] ⟨[(50, (iI 0)), (49, (iN n40)), (48, (sS A39 n40 c41)), (44, (iN k)), (43, (iN n27)), (42, (sS (some q33) n27 c28)), (30, (iN r)), (29, (iN n_g)), (28, (sS (some q1) n_g c_g)), (4, (iN i)), (3, (.ls false 1 out2.length cap2)), (1, (.p 0 0))], [(1, (.lst false 9 arr2))], 3, [], [(2, bk30, (.cells 111 [(tS x21), (sS (some q33) n27 c28)])), (0, bk14, (.cells 78 [(sS (some q1) n_g c_g)]))]⟩ (by kernel_rfl) ?_
            refine WL_nil ?_
            refine WQ_code ?_
            refine WC_block ?_
            refine WK_keep [50, 49, 48, 44, 43, 42, 30, 29, 28, 4, 3, 1] [1] rfl rfl ?_
            refine WK_env [(50, (iN 0)), (49, (iN n40)), (48, (sS A39 n40 c41)), (44, (iN k)), (43, (iN n27)), (42, (sS (some q33) n27 c28)), (30, (iN r)), (29, (iN n_g)), (28, (sS (some q1) n_g c_g)), (4, (iN i)), (3, (.ls false 1 out2.length cap2)), (1, (.p 0 0))] (fun ρ => ⟨rfl, rfl, ⟨rfl, rfl, ⟨rfl, rfl, ⟨rfl, rfl, ⟨rfl, rfl, ⟨rfl, rfl, ⟨rfl, rfl, ⟨rfl, rfl, ⟨rfl, rfl, ⟨rfl, rfl, ⟨rfl, rfl, ⟨rfl, rfl, trivial⟩⟩⟩⟩⟩⟩⟩⟩⟩⟩⟩⟩) ?_
            refine WC_loop (ι := Nat × List ByteArray × Array Value × Nat) (fun (l, out3, arr3, cap3) G42 => Le G31 G42 ∧ (l ≤ n40 ∧ OwnL tStr G42 out3 arr3 cap3 ∧ (out3.Nodup ∧ (∀ x ∈ out3, x ∈ (x4 :: allNames g)) ∧ out.length ≤ out3.length))) (fun (l, out3, arr3, cap3) => ⟨[(50, (iN l)), (49, (iN n40)), (48, (sS A39 n40 c41)), (44, (iN k)), (43, (iN n27)), (42, (sS (some q33) n27 c28)), (30, (iN r)), (29, (iN n_g)), (28, (sS (some q1) n_g c_g)), (4, (iN i)), (3, (.ls false 1 out3.length cap3)), (1, (.p 0 0))], [(1, (.lst false 9 arr3))], 3, [], [(2, bk30, (.cells 111 [(tS x21), (sS (some q33) n27 c28)])), (0, bk14, (.cells 78 [(sS (some q1) n_g c_g)]))]⟩) (fun (l, out3, arr3, cap3) => n40 - l) (0, out2, arr2, cap2) ⟨Le.refl _, ⟨Nat.zero_le _, ho2, hex2⟩⟩ rfl ?_
            rintro ⟨l, out3, arr3, cap3⟩ G42 ⟨hle, hF⟩
            show WC _ _ _ _ _ ⟨[(50, (iN l)), (49, (iN n40)), (48, (sS A39 n40 c41)), (44, (iN k)), (43, (iN n27)), (42, (sS (some q33) n27 c28)), (30, (iN r)), (29, (iN n_g)), (28, (sS (some q1) n_g c_g)), (4, (iN i)), (3, (.ls false 1 out3.length cap3)), (1, (.p 0 0))], [(1, (.lst false 9 arr3))], 3, [], [(2, bk30, (.cells 111 [(tS x21), (sS (some q33) n27 c28)])), (0, bk14, (.cells 78 [(sS (some q1) n_g c_g)]))]⟩ _
            replace hc16 := Le.trans hc16 hle
            replace hc18 := Le.trans hc18 hle
            replace hc32 := Le.trans hc32 hle
            replace h_g := h_g.mono hle
            replace hs25 := hs25.mono hle
            replace hs38 := hs38.mono hle
            replace hz := hz.mono hle
            replace ho2 := ho2.mono hle
            have hc43 := hle
            obtain ⟨hi3, ho3, hex3⟩ := hF
            have hln3 := nodup_len hex3.1 hex3.2.1; rw [List.length_cons] at hln3
            refine WC_seq (WC_region ?_)
            refine WL_execS htb 1 [51, 50, 49, 48, 44, 43, 42, 30, 29, 28, 4, 3, 1] [1] ⟨[(51, (bB (decide ((((l : Nat) : Int) : Int) < ((n40 : Nat) : Int))))), (50, (iN l)), (49, (iN n40)), (48, (sS A39 n40 c41)), (44, (iN k)), (43, (iN n27)), (42, (sS (some q33) n27 c28)), (30, (iN r)), (29, (iN n_g)), (28, (sS (some q1) n_g c_g)), (4, (iN i)), (3, (.ls false 1 out3.length cap3)), (1, (.p 0 0))], [(1, (.lst false 9 arr3))], 3, [], [(2, bk30, (.cells 111 [(tS x21), (sS (some q33) n27 c28)])), (0, bk14, (.cells 78 [(sS (some q1) n_g c_g)]))]⟩ (by kernel_rfl) ?_
            refine WL_nil ?_
            refine WQ_code ?_
            refine WC_seq ?_
            refine WC_cond (b := (decide ((((l : Nat) : Int) : Int) < ((n40 : Nat) : Int)))) rfl (fun hc3 => ?_) (fun hc3 => ?_)
            · replace hc3 := of_decide_eq_true hc3
              refine WC_skip ?_
              refine WQ_code ?_
              refine WC_seq ?_
              refine WC_block ?_
              refine WC_seq (WC_region ?_)
              obtain ⟨q44, rfl⟩ := hs38.ptr (by omega)
              obtain ⟨x47, _, hx45, ⟨rfl, hn48⟩, at46⟩ := hs38.get l (by omega)
              replace at46 : At G42 (q44.add (l * 1)) [.string x47] := at46
              refine WL_op (WOp_idx htb q44 n40 ((l : Nat) : Int) 1 (by kernel_rfl) (by omega) (by omega) ?_)
              refine WL_op (WOp_ld htb (q44.add (l * 1)) false 1 [.string x47] (by kernel_rfl) at46 rfl (by decide) ?_)
              refine WL_execS htb 1 [10, 50, 49, 48, 44, 43, 42, 30, 29, 28, 4, 3, 1] [1] ⟨[(10, (tS x47)), (50, (iN l)), (49, (iN n40)), (48, (sS (some q44) n40 c41)), (44, (iN k)), (43, (iN n27)), (42, (sS (some q33) n27 c28)), (30, (iN r)), (29, (iN n_g)), (28, (sS (some q1) n_g c_g)), (4, (iN i)), (3, (.ls false 1 out3.length cap3)), (1, (.p 0 0))], [(1, (.lst false 9 arr3))], 3, [], [(2, bk30, (.cells 111 [(tS x21), (sS (some q33) n27 c28)])), (0, bk14, (.cells 78 [(sS (some q1) n_g c_g)]))]⟩ (by kernel_rfl) ?_
              refine WL_nil ?_
              refine WQ_code ?_
              refine WC_seq (WC_region ?_)
              refine WL_execS htb 2 [55, 54, 10, 50, 49, 48, 44, 43, 42, 30, 29, 28, 4, 3, 1] [1] ⟨[(55, (tS x47)), (54, (.ls false 1 out3.length cap3)), (10, (tS x47)), (50, (iN l)), (49, (iN n40)), (48, (sS (some q44) n40 c41)), (44, (iN k)), (43, (iN n27)), (42, (sS (some q33) n27 c28)), (30, (iN r)), (29, (iN n_g)), (28, (sS (some q1) n_g c_g)), (4, (iN i)), (3, (.ls false 1 out3.length cap3)), (1, (.p 0 0))], [(1, (.lst false 9 arr3))], 3, [], [(2, bk30, (.cells 111 [(tS x21), (sS (some q33) n27 c28)])), (0, bk14, (.cells 78 [(sS (some q1) n_g c_g)]))]⟩ (by kernel_rfl) ?_
              refine WL_op (WOp_callB 68 [(.ls false 1 out3.length cap3), (tS x47)] (by kernel_rfl) (goes_of Try.func68 rfl rfl) (Φ := fun v => ∃ (r49 : Bool), v = .bool r49 ∧ (r49 = hasB out3 x47)) 1 rfl (fun ρ w b G1 hW hρ hle hH hb => ?lend) (fun v51 hv => ?_))
              case lend =>
                subst hρ
                obtain ⟨A, n', c', e, hs⟩ := OwnL.sl (n := out3.length) ho3 hle (fun h => by cases h) hb rfl
                have hsl := hs.len'
                show Calls _ _ #[nilOr false (.slice (some ⟨ρ 1, 0, none⟩) out3.length cap3), .string x47] w _
                rw [e]
                exact has_ok hH (xs := out3) (x := x47) hs hn48
              obtain ⟨r49, rfl, hR50⟩ := hv
              refine WL_execS htb 1 [57, 10, 50, 49, 48, 44, 43, 42, 30, 29, 28, 4, 3, 1] [1] ⟨[(57, (bB (!r49))), (10, (tS x47)), (50, (iN l)), (49, (iN n40)), (48, (sS (some q44) n40 c41)), (44, (iN k)), (43, (iN n27)), (42, (sS (some q33) n27 c28)), (30, (iN r)), (29, (iN n_g)), (28, (sS (some q1) n_g c_g)), (4, (iN i)), (3, (.ls false 1 out3.length cap3)), (1, (.p 0 0))], [(1, (.lst false 9 arr3))], 3, [], [(2, bk30, (.cells 111 [(tS x21), (sS (some q33) n27 c28)])), (0, bk14, (.cells 78 [(sS (some q1) n_g c_g)]))]⟩ (by kernel_rfl) ?_
              refine WL_nil ?_
              refine WQ_code ?_
              refine WC_cond (b := (!r49)) rfl (fun hd => ?_) (fun hd => ?_)
              · rw [Bool.not_eq_true'] at hd
                refine WC_region ?_
                refine WL_execS htb 3 [60, 58, 50, 49, 48, 44, 43, 42, 30, 29, 28, 4, 1] [3, 1] ⟨[(60, (.s 3 1 1)), (58, (.ls false 1 out3.length cap3)), (50, (iN l)), (49, (iN n40)), (48, (sS (some q44) n40 c41)), (44, (iN k)), (43, (iN n27)), (42, (sS (some q33) n27 c28)), (30, (iN r)), (29, (iN n_g)), (28, (sS (some q1) n_g c_g)), (4, (iN i)), (1, (.p 0 0))], [(3, (.cells 9 [(tS x47)])), (1, (.lst false 9 arr3))], 4, [], [(2, bk30, (.cells 111 [(tS x21), (sS (some q33) n27 c28)])), (0, bk14, (.cells 78 [(sS (some q1) n_g c_g)]))]⟩ (by kernel_rfl) ?_
                refine WK_freezeV 3 rfl rfl rfl rfl ?_
                intro bk53 G52 hle hbk53
                replace hc16 := Le.trans hc16 hle
                replace hc18 := Le.trans hc18 hle
                replace hc32 := Le.trans hc32 hle
                replace hc43 := Le.trans hc43 hle
                replace h_g := h_g.mono hle
                replace hs25 := hs25.mono hle
                replace hs38 := hs38.mono hle
                replace hz := hz.mono hle
                replace ho3 := ho3.mono hle
                show WK _ _ ⟨[(60, (sS (some ⟨bk53, 0, none⟩) 1 1)), (58, (.ls false 1 out3.length cap3)), (50, (iN l)), (49, (iN n40)), (48, (sS (some q44) n40 c41)), (44, (iN k)), (43, (iN n27)), (42, (sS (some q33) n27 c28)), (30, (iN r)), (29, (iN n_g)), (28, (sS (some q1) n_g c_g)), (4, (iN i)), (1, (.p 0 0))], [(1, (.lst false 9 arr3))], 4, [], [(2, bk30, (.cells 111 [(tS x21), (sS (some q33) n27 c28)])), (0, bk14, (.cells 78 [(sS (some q1) n_g c_g)]))]⟩ _
                have hs54 : Sl tStr G52 (some ⟨bk53, 0, none⟩) 1 1 [x47] := Sl.lit (cs := [.string x47]) (RepsL.cons' (rep_str _ (x := x47) hn48) .nil) hbk53 rfl (by unfold big; omega)
                have lhs54 := hs54.len'
                refine WL_op (WOp_append htb false 1 out3.length cap3 (some ⟨bk53, 0, none⟩) 1 9 1 16 (by kernel_rfl) (by kernel_rfl) rfl rfl tStr (xs := out3) (ys := [x47]) ho3 rfl (fun h => by cases h) hs54.row hs54.len rfl (by decide) (by first | omega | (simp only [List.length_append, List.length_nil, List.length_drop, List.length_take, List.length_cons]; omega)) (by unfold big; first | omega | (simp only [List.length_append, List.length_nil, List.length_drop, List.length_take, List.length_cons]; omega)) (fun z55 arr56 cap57 hz58 ho59 => ?_))
                show WL _ _ _ _ _ _ ⟨[(61, (.ls z55 4 ((out3 ++ ([x47])).length) cap57)), (60, (sS (some ⟨bk53, 0, none⟩) 1 1)), (58, (.ls false 1 out3.length cap3)), (50, (iN l)), (49, (iN n40)), (48, (sS (some q44) n40 c41)), (44, (iN k)), (43, (iN n27)), (42, (sS (some q33) n27 c28)), (30, (iN r)), (29, (iN n_g)), (28, (sS (some q1) n_g c_g)), (4, (iN i)), (1, (.p 0 0))], [(4, (.lst z55 9 arr56))], 5, [], [(2, bk30, (.cells 111 [(tS x21), (sS (some q33) n27 c28)])), (0, bk14, (.cells 78 [(sS (some q1) n_g c_g)]))]⟩ _
                refine WL_execS htb 1 [3, 50, 49, 48, 44, 43, 42, 30, 29, 28, 4, 1] [4] ⟨[(3, (.ls z55 4 ((out3 ++ ([x47])).length) cap57)), (50, (iN l)), (49, (iN n40)), (48, (sS (some q44) n40 c41)), (44, (iN k)), (43, (iN n27)), (42, (sS (some q33) n27 c28)), (30, (iN r)), (29, (iN n_g)), (28, (sS (some q1) n_g c_g)), (4, (iN i)), (1, (.p 0 0))], [(4, (.lst z55 9 arr56))], 5, [], [(2, bk30, (.cells 111 [(tS x21), (sS (some q33) n27 c28)])), (0, bk14, (.cells 78 [(sS (some q1) n_g c_g)]))]⟩ (by kernel_rfl) ?_
                refine WL_nil ?_
                refine WQ_blk ?_
                refine WQ_code ?_
                refine WC_region ?_
                refine WL_execS htb 2 [50, 3, 49, 48, 44, 43, 42, 30, 29, 28, 4, 1] [4] ⟨[(50, (iI (IntKind.i64.wrap (((l : Nat) : Int) + 1)))), (3, (.ls z55 4 ((out3 ++ ([x47])).length) cap57)), (49, (iN n40)), (48, (sS (some q44) n40 c41)), (44, (iN k)), (43, (iN n27)), (42, (sS (some q33) n27 c28)), (30, (iN r)), (29, (iN n_g)), (28, (sS (some q1) n_g c_g)), (4, (iN i)), (1, (.p 0 0))], [(4, (.lst z55 9 arr56))], 5, [], [(2, bk30, (.cells 111 [(tS x21), (sS (some q33) n27 c28)])), (0, bk14, (.cells 78 [(sS (some q1) n_g c_g)]))]⟩ (by kernel_rfl) ?_
                refine WL_nil ?_
                obtain rfl : z55 = false := by (cases z55 with | false => rfl | true => (have hnil := hz58 rfl; simp at hnil))
                have hnew : x47 ∉ out3 := fun hm => by (have h5 := hR50.trans (hasB_true.2 hm); rw [h5] at hd; cases hd)
                refine WK_env [(50, (iN (l + 1))), (3, (.ls false 4 ((out3 ++ ([x47])).length) cap57)), (49, (iN n40)), (48, (sS (some q44) n40 c41)), (44, (iN k)), (43, (iN n27)), (42, (sS (some q33) n27 c28)), (30, (iN r)), (29, (iN n_g)), (28, (sS (some q1) n_g c_g)), (4, (iN i)), (1, (.p 0 0))] (fun ρ => ⟨rfl, (congrArg (Value.int .i64) (by rw [wrap_id (by omega)]; first | rfl | omega)), ⟨rfl, rfl, ⟨rfl, rfl, ⟨rfl, rfl, ⟨rfl, rfl, ⟨rfl, rfl, ⟨rfl, rfl, ⟨rfl, rfl, ⟨rfl, rfl, ⟨rfl, rfl, ⟨rfl, rfl, ⟨rfl, rfl, trivial⟩⟩⟩⟩⟩⟩⟩⟩⟩⟩⟩⟩) ?_
                refine WK_keep [50, 49, 48, 44, 43, 42, 30, 29, 28, 4, 3, 1] [4] rfl rfl ?_
                exact WQ_nextR ((l + 1), (out3 ++ ([x47])), arr56, cap57) (by show n40 - (l + 1) < n40 - l; omega) ⟨hc43, ⟨(by omega), ho59, ⟨nodup_snoc hex3.1 hnew, led_mem hex3.2.1 (mem_allNames hx19 hx34 hx45), by rw [List.length_append]; omega⟩⟩⟩ [(1, 4)] rfl rfl rfl rfl rfl rfl
              · rw [Bool.not_eq_false'] at hd
                refine WC_skip ?_
                refine WQ_blk ?_
                refine WQ_code ?_
                refine WC_region ?_
                refine WL_execS htb 2 [50, 49, 48, 44, 43, 42, 30, 29, 28, 4, 3, 1] [1] ⟨[(50, (iI (IntKind.i64.wrap (((l : Nat) : Int) + 1)))), (49, (iN n40)), (48, (sS (some q44) n40 c41)), (44, (iN k)), (43, (iN n27)), (42, (sS (some q33) n27 c28)), (30, (iN r)), (29, (iN n_g)), (28, (sS (some q1) n_g c_g)), (4, (iN i)), (3, (.ls false 1 out3.length cap3)), (1, (.p 0 0))], [(1, (.lst false 9 arr3))], 3, [], [(2, bk30, (.cells 111 [(tS x21), (sS (some q33) n27 c28)])), (0, bk14, (.cells 78 [(sS (some q1) n_g c_g)]))]⟩ (by kernel_rfl) ?_
                refine WL_nil ?_
                refine WK_env [(50, (iN (l + 1))), (49, (iN n40)), (48, (sS (some q44) n40 c41)), (44, (iN k)), (43, (iN n27)), (42, (sS (some q33) n27 c28)), (30, (iN r)), (29, (iN n_g)), (28, (sS (some q1) n_g c_g)), (4, (iN i)), (3, (.ls false 1 out3.length cap3)), (1, (.p 0 0))] (fun ρ => ⟨rfl, (congrArg (Value.int .i64) (by rw [wrap_id (by omega)]; first | rfl | omega)), ⟨rfl, rfl, ⟨rfl, rfl, ⟨rfl, rfl, ⟨rfl, rfl, ⟨rfl, rfl, ⟨rfl, rfl, ⟨rfl, rfl, ⟨rfl, rfl, ⟨rfl, rfl, ⟨rfl, rfl, ⟨rfl, rfl, trivial⟩⟩⟩⟩⟩⟩⟩⟩⟩⟩⟩⟩) ?_
                refine WK_keep [50, 49, 48, 44, 43, 42, 30, 29, 28, 4, 3, 1] [1] rfl rfl ?_
                exact WQ_next ((l + 1), out3, arr3, cap3) (by show n40 - (l + 1) < n40 - l; omega) ⟨hc43, ⟨(by omega), ho3, hex3⟩⟩ (fun ρ a w h => h)
            · replace hc3 := of_decide_eq_false hc3
              refine WC_exit ?_
              refine WQ_then_exit ?_
              refine WQ_then_exit ?_
              refine WQ_hit ?_
              refine WQ_blk ?_
              refine WQ_code ?_
              refine WC_region ?_
              refine WL_execS htb 2 [44, 43, 42, 30, 29, 28, 4, 3, 1] [1] ⟨[(44, (iI (IntKind.i64.wrap (((k : Nat) : Int) + 1)))), (43, (iN n27)), (42, (sS (some q33) n27 c28)), (30, (iN r)), (29, (iN n_g)), (28, (sS (some q1) n_g c_g)), (4, (iN i)), (3, (.ls false 1 out3.length cap3)), (1, (.p 0 0))], [(1, (.lst false 9 arr3))], 3, [], [(2, bk30, (.cells 111 [(tS x21), (sS (some q33) n27 c28)])), (0, bk14, (.cells 78 [(sS (some q1) n_g c_g)]))]⟩ (by kernel_rfl) ?_
              refine WL_nil ?_
              refine WK_env [(44, (iN (k + 1))), (43, (iN n27)), (42, (sS (some q33) n27 c28)), (30, (iN r)), (29, (iN n_g)), (28, (sS (some q1) n_g c_g)), (4, (iN i)), (3, (.ls false 1 out3.length cap3)), (1, (.p 0 0))] (fun ρ => ⟨rfl, (congrArg (Value.int .i64) (by rw [wrap_id (by omega)]; first | rfl | omega)), ⟨rfl, rfl, ⟨rfl, rfl, ⟨rfl, rfl, ⟨rfl, rfl, ⟨rfl, rfl, ⟨rfl, rfl, ⟨rfl, rfl, ⟨rfl, rfl, trivial⟩⟩⟩⟩⟩⟩⟩⟩⟩) ?_
              refine WK_keep [44, 43, 42, 30, 29, 28, 4, 3, 1] [1] rfl rfl ?_
              exact WQ_next ((k + 1), out3, arr3, cap3) (by show n27 - (k + 1) < n27 - k; omega) ⟨hc32, ⟨(by omega), ho3, hex3⟩⟩ (fun ρ a w h => h)
          · replace hc2 := of_decide_eq_false hc2
            refine WC_exit ?_
            refine WQ_then_exit ?_
            refine WQ_then_exit ?_
            refine WQ_hit ?_
            refine WQ_blk ?_
            refine WQ_code ?_
            refine WC_region ?_
            refine WL_execS htb 2 [30, 29, 28, 4, 3, 1] [1] ⟨[(30, (iI (IntKind.i64.wrap (((r : Nat) : Int) + 1)))), (29, (iN n_g)), (28, (sS (some q1) n_g c_g)), (4, (iN i)), (3, (.ls false 1 out2.length cap2)), (1, (.p 0 0))], [(1, (.lst false 9 arr2))], 3, [], [(2, bk30, (.cells 111 [(tS x21), (sS A26 n27 c28)])), (0, bk14, (.cells 78 [(sS (some q1) n_g c_g)]))]⟩ (by kernel_rfl) ?_
            refine WL_nil ?_
            refine WK_env [(30, (iN (r + 1))), (29, (iN n_g)), (28, (sS (some q1) n_g c_g)), (4, (iN i)), (3, (.ls false 1 out2.length cap2)), (1, (.p 0 0))] (fun ρ => ⟨rfl, (congrArg (Value.int .i64) (by rw [wrap_id (by omega)]; first | rfl | omega)), ⟨rfl, rfl, ⟨rfl, rfl, ⟨rfl, rfl, ⟨rfl, rfl, ⟨rfl, rfl, trivial⟩⟩⟩⟩⟩⟩) ?_
            refine WK_dropfz 1 ?_
            show WK _ _ ⟨_, _, _, _, [(0, bk14, (.cells 78 [(sS (some q1) n_g c_g)]))]⟩ _
            refine WK_keep [30, 29, 28, 4, 3, 1] [1] rfl rfl ?_
            exact WQ_next ((r + 1), out2, arr2, cap2) (by show n_g - (r + 1) < n_g - r; omega) ⟨hc18, ⟨(by omega), ho2, hex2⟩⟩ (fun ρ a w h => h)
      · replace hc1 := of_decide_eq_false hc1
        refine WC_exit ?_
        refine WQ_then_exit ?_
        refine WQ_then_exit ?_
        refine WQ_hit ?_
        refine WQ_blk ?_
        refine WQ_code ?_
        refine WC_region ?_
        refine WL_execS htb 3 [4, 3, 1] [1] ⟨[(4, (iI (IntKind.i64.wrap (((i : Nat) : Int) + 1)))), (3, (.ls false 1 out1.length cap1)), (1, (.p 0 0))], [(1, (.lst false 9 arr1))], 2, [], [(0, bk14, (.cells 78 [(sS (some q1) n_g c_g)]))]⟩ (by kernel_rfl) ?_
        refine WL_nil ?_
        refine WK_env [(4, (iN (i + 1))), (3, (.ls false 1 out1.length cap1)), (1, (.p 0 0))] (fun ρ => ⟨rfl, (congrArg (Value.int .i64) (by rw [wrap_id (by omega)]; first | rfl | omega)), ⟨rfl, rfl, ⟨rfl, rfl, trivial⟩⟩⟩) ?_
        refine WK_keep [4, 3, 1] [1] rfl rfl ?_
        exact WQ_next ((i + 1), out1, arr1, cap1) (by show (allNames g).length + 2 - (i + 1) < (allNames g).length + 2 - i; omega) ⟨hc16, ⟨(by omega), ho1, ⟨hex1.1, hex1.2.1⟩⟩⟩ (fun ρ a w h => h)
    · replace hc := of_decide_eq_false hc
      refine WC_exit ?_
      refine WQ_then_exit ?_
      refine WQ_then_exit ?_
      refine WQ_hit ?_
      refine WQ_code ?_
      refine WC_seq (WC_region ?_)
      refine WL_execS htb 2 [2] [1] ⟨[(2, (.ls false 1 out.length cap))], [(1, (.lst false 9 arr))], 2, [], [(0, bk14, (.cells 78 [(sS (some q1) n_g c_g)]))]⟩ (by kernel_rfl) ?_
      refine WL_nil ?_
      refine WQ_code ?_
      refine WC_ret ?_
      refine WK_freezeL 1 rfl rfl ?_
      intro bk18 G17 hle hbk18
      replace hc16 := Le.trans hc16 hle
      replace h_g := h_g.mono hle
      replace hz := hz.mono hle
      obtain ⟨A20, n21, c22, e23, hs19⟩ := OwnL.sl (n := out.length) ho hle (fun h => by cases h) hbk18 rfl
      refine WK_env [(2, (sS A20 n21 c22))] (fun ρ => ⟨rfl, (by exact e23), trivial⟩) ?_
      have lhs19 := hs19.len'
      exact WQ_done htb [(sS A20 n21 c22)] _ (.inl rfl) rfl (by kernel_rfl) (fun ρ w hW => ⟨out, _, _, _, rfl, hs19, trivial⟩)

end Go.Proofs.Ytbpajkjolhoflaa.Sym
