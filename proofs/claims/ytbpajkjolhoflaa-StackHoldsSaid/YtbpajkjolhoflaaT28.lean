/- Walks of functions that the laws of this seat reach, printed by a program of this session's. -/
import Derived.Test.YtbpajkjolhoflaaT27
import Derived.Test.YtbpajkjolhoflaaSymL
import Derived.Test.YtbpajkjolhoflaaPl
import Derived.Laws.Strings
import Derived.WideShapes
set_option linter.unusedSimpArgs false
set_option linter.unusedVariables false
set_option maxHeartbeats 4000000
namespace Go.Proofs.Ytbpajkjolhoflaa.Sym
open Go Go.Proofs Go.RowKit






theorem fertile_ok {w : World} {G : Heap} (hG : Has w G) {g : (List (ByteArray × (List (List ByteArray))))} {A_g : Option Addr} {n_g : Nat} {c_g : Nat} {tk : (List ByteArray)} {A_tk : Option Addr} {n_tk : Nat} {c_tk : Nat} (h_g : Sl (tPair tStr (tSlice (tSlice tStr))) G A_g n_g c_g g) (h_tk : Sl tStr G A_tk n_tk c_tk tk) (hg : SmallG g) (htk : tk.length ≤ 1000) :
    Calls Try.prog 84 #[(.agg #[.slice A_g n_g c_g]), (.slice A_tk n_tk c_tk)] w (Ret w G fun v G' => ∃ (r : (List ByteArray)) (A_r : Option Addr) (n_r : Nat) (c_r : Nat), v = .slice A_r n_r c_r ∧ (Sl tStr G' A_r n_r c_r r) ∧ (True)) := by
  have lh_g := h_g.len'
  have lh_tk := h_tk.len'
  refine enter [(.agg [(sS A_g n_g c_g)]), (sS A_tk n_tk c_tk)] 50 Try.func84 rfl rfl rfl rfl hG ?_
  refine WC_seq (WC_region ?_)
  refine WL_execS htb 2 [2, 1] [0] ⟨[(2, (.p 0 0)), (1, (sS A_tk n_tk c_tk))], [(0, (.cells 78 [(sS A_g n_g c_g)]))], 1, [], []⟩ (by kernel_rfl) ?_
  refine WL_nil ?_
  refine WQ_code ?_
  refine WC_seq (WC_region ?_)
  refine WL_execS htb 1 [10, 2] [0] ⟨[(10, (sS A_tk n_tk c_tk)), (2, (.p 0 0))], [(0, (.cells 78 [(sS A_g n_g c_g)]))], 1, [], []⟩ (by kernel_rfl) ?_
  refine WK_off 9 rfl ?_
  have ho1 : OwnL tStr G [] #[] 0 := OwnL.nil _ _
  refine WL_op (WOp_appendN htb true 1 0 0 A_tk n_tk 9 1 16 (by kernel_rfl) (by kernel_rfl) rfl rfl tStr (xs := []) (ys := tk) ho1 rfl (fun _ => rfl) h_tk.row h_tk.len rfl (by decide) (by first | omega | (simp only [List.length_append, List.length_nil, List.length_drop, List.length_take, List.length_cons]; omega)) (by unfold big; first | omega | (simp only [List.length_append, List.length_nil, List.length_drop, List.length_take, List.length_cons]; omega)) (fun z2 arr3 cap4 hz5 ho6 => ?_))
  show WL _ _ _ _ _ _ ⟨[(11, (.ls z2 2 (([] ++ tk).length) cap4)), (10, (sS A_tk n_tk c_tk)), (2, (.p 0 0))], [(2, (.lst z2 9 arr3)), (0, (.cells 78 [(sS A_g n_g c_g)]))], 3, [], []⟩ _
  refine WL_execS htb 1 [5, 2] [2, 0] ⟨[(5, (.ls z2 2 (([] ++ tk).length) cap4)), (2, (.p 0 0))], [(2, (.lst z2 9 arr3)), (0, (.cells 78 [(sS A_g n_g c_g)]))], 3, [], []⟩ (by kernel_rfl) ?_
  refine WL_nil ?_
  refine WQ_code ?_
  refine WC_seq ?_
  refine WC_seq (WC_region ?_)
  refine WL_execS htb 4 [15, 14, 5, 2] [2, 0] ⟨[(15, (iI 0)), (14, (iN n_g)), (5, (.ls z2 2 (([] ++ tk).length) cap4)), (2, (.p 0 0))], [(2, (.lst z2 9 arr3)), (0, (.cells 78 [(sS A_g n_g c_g)]))], 3, [], []⟩ (by kernel_rfl) ?_
  refine WL_nil ?_
  refine WQ_code ?_
  refine WC_block ?_
  have hg1 := hg.1
  refine WK_freeze 0 rfl rfl rfl rfl ?_
  intro bk8 G7 hle hbk8
  replace h_g := h_g.mono hle
  replace ho6 := ho6.mono hle
  have hz := FZ.cons (h := 0) hbk8 rfl (FZ.nil _)
  refine WK_keep [15, 14, 5, 2] [2] rfl rfl ?_
  refine WK_env [(15, (iN 0)), (14, (iN n_g)), (5, (.ls z2 2 (([] ++ tk).length) cap4)), (2, (.p 0 0))] (fun ρ => ⟨rfl, rfl, ⟨rfl, rfl, ⟨rfl, rfl, ⟨rfl, rfl, trivial⟩⟩⟩⟩) ?_
  refine WC_loop (ι := Nat × List ByteArray × Bool × Array Value × Nat) (fun (t, out, z, arr, cap) G9 => Le G7 G9 ∧ (t ≤ n_g ∧ out.length ≤ 1000 + t * 1000000 ∧ OwnL tStr G9 out arr cap ∧ (z = true → out = []) ∧ (True))) (fun (t, out, z, arr, cap) => ⟨[(15, (iN t)), (14, (iN n_g)), (5, (.ls z 2 out.length cap)), (2, (.p 0 0))], [(2, (.lst z 9 arr))], 3, [], [(0, bk8, (.cells 78 [(sS A_g n_g c_g)]))]⟩) (fun (t, out, z, arr, cap) => n_g - t) (0, ([] ++ tk), z2, arr3, cap4) ⟨Le.refl _, ⟨Nat.zero_le _, (by first | omega | (simp only [List.length_append, List.length_nil]; omega)), ho6, hz5, trivial⟩⟩ rfl ?_
  rintro ⟨t, out, z, arr, cap⟩ G9 ⟨hle, hF⟩
  show WC _ _ _ _ _ ⟨[(15, (iN t)), (14, (iN n_g)), (5, (.ls z 2 out.length cap)), (2, (.p 0 0))], [(2, (.lst z 9 arr))], 3, [], [(0, bk8, (.cells 78 [(sS A_g n_g c_g)]))]⟩ _
  replace h_g := h_g.mono hle
  replace hz := hz.mono hle
  replace ho6 := ho6.mono hle
  have hc10 := hle
  obtain ⟨hi, hlen, ho, hzz, hex⟩ := hF
  refine WC_seq (WC_region ?_)
  refine WL_execS htb 1 [16, 15, 14, 5, 2] [2] ⟨[(16, (bB (decide ((((t : Nat) : Int) : Int) < ((n_g : Nat) : Int))))), (15, (iN t)), (14, (iN n_g)), (5, (.ls z 2 out.length cap)), (2, (.p 0 0))], [(2, (.lst z 9 arr))], 3, [], [(0, bk8, (.cells 78 [(sS A_g n_g c_g)]))]⟩ (by kernel_rfl) ?_
  refine WL_nil ?_
  refine WQ_code ?_
  refine WC_seq ?_
  refine WC_cond (b := (decide ((((t : Nat) : Int) : Int) < ((n_g : Nat) : Int)))) rfl (fun hc => ?_) (fun hc => ?_)
  · replace hc := of_decide_eq_true hc
    refine WC_skip ?_
    refine WQ_code ?_
    refine WC_seq ?_
    refine WC_block ?_
    refine WC_seq (WC_region ?_)
    refine WL_execS htb 4 [20, 19, 18, 15, 14, 5, 2] [2] ⟨[(20, (iI 0)), (19, (iN n_g)), (18, (sS A_g n_g c_g)), (15, (iN t)), (14, (iN n_g)), (5, (.ls z 2 out.length cap)), (2, (.p 0 0))], [(2, (.lst z 9 arr))], 3, [], [(0, bk8, (.cells 78 [(sS A_g n_g c_g)]))]⟩ (by kernel_rfl) ?_
    refine WL_nil ?_
    refine WQ_code ?_
    refine WC_block ?_
    refine WK_keep [20, 19, 18, 15, 14, 5, 2] [2] rfl rfl ?_
    refine WK_env [(20, (iN 0)), (19, (iN n_g)), (18, (sS A_g n_g c_g)), (15, (iN t)), (14, (iN n_g)), (5, (.ls z 2 out.length cap)), (2, (.p 0 0))] (fun ρ => ⟨rfl, rfl, ⟨rfl, rfl, ⟨rfl, rfl, ⟨rfl, rfl, ⟨rfl, rfl, ⟨rfl, rfl, ⟨rfl, rfl, trivial⟩⟩⟩⟩⟩⟩⟩) ?_
    refine WC_loop (ι := Nat × List ByteArray × Bool × Array Value × Nat) (fun (r, out1, z1, arr1, cap1) G11 => Le G9 G11 ∧ (r ≤ n_g ∧ out1.length ≤ 1000 + t * 1000000 + r * 1000 ∧ OwnL tStr G11 out1 arr1 cap1 ∧ (z1 = true → out1 = []) ∧ (True))) (fun (r, out1, z1, arr1, cap1) => ⟨[(20, (iN r)), (19, (iN n_g)), (18, (sS A_g n_g c_g)), (15, (iN t)), (14, (iN n_g)), (5, (.ls z1 2 out1.length cap1)), (2, (.p 0 0))], [(2, (.lst z1 9 arr1))], 3, [], [(0, bk8, (.cells 78 [(sS A_g n_g c_g)]))]⟩) (fun (r, out1, z1, arr1, cap1) => n_g - r) (0, out, z, arr, cap) ⟨Le.refl _, ⟨Nat.zero_le _, (by first | omega | (simp only [List.length_append, List.length_nil]; omega)), ho, hzz, trivial⟩⟩ rfl ?_
    rintro ⟨r, out1, z1, arr1, cap1⟩ G11 ⟨hle, hF⟩
    show WC _ _ _ _ _ ⟨[(20, (iN r)), (19, (iN n_g)), (18, (sS A_g n_g c_g)), (15, (iN t)), (14, (iN n_g)), (5, (.ls z1 2 out1.length cap1)), (2, (.p 0 0))], [(2, (.lst z1 9 arr1))], 3, [], [(0, bk8, (.cells 78 [(sS A_g n_g c_g)]))]⟩ _
    replace hc10 := Le.trans hc10 hle
    replace h_g := h_g.mono hle
    replace hz := hz.mono hle
    replace ho := ho.mono hle
    have hc12 := hle
    obtain ⟨hi1, hlen1, ho1, hzz1, hex1⟩ := hF
    refine WC_seq (WC_region ?_)
    refine WL_execS htb 1 [21, 20, 19, 18, 15, 14, 5, 2] [2] ⟨[(21, (bB (decide ((((r : Nat) : Int) : Int) < ((n_g : Nat) : Int))))), (20, (iN r)), (19, (iN n_g)), (18, (sS A_g n_g c_g)), (15, (iN t)), (14, (iN n_g)), (5, (.ls z1 2 out1.length cap1)), (2, (.p 0 0))], [(2, (.lst z1 9 arr1))], 3, [], [(0, bk8, (.cells 78 [(sS A_g n_g c_g)]))]⟩ (by kernel_rfl) ?_
    refine WL_nil ?_
    refine WQ_code ?_
    refine WC_seq ?_
    refine WC_cond (b := (decide ((((r : Nat) : Int) : Int) < ((n_g : Nat) : Int)))) rfl (fun hc1 => ?_) (fun hc1 => ?_)
    · replace hc1 := of_decide_eq_true hc1
      refine WC_skip ?_
      refine WQ_code ?_
      refine WC_seq ?_
      refine WC_block ?_
      refine WC_seq (WC_region ?_)
      obtain ⟨q13, rfl⟩ := h_g.ptr (by omega)
      obtain ⟨⟨x16, x18⟩, _, hx14, ⟨_, _, rfl, ⟨rfl, hn17⟩, hr19⟩, at15⟩ := h_g.get r (by omega)
      obtain ⟨A21, n22, c23, rfl, hs20⟩ := Sl.of hr19
      replace hs20 : Sl (tSlice tStr) _ A21 n22 c23 x18 := hs20
      have lhs20 := hs20.len'
      replace at15 : At G11 (q13.add (r * 2)) [.string x16, .slice A21 n22 c23] := at15
      refine WL_op (WOp_idx htb q13 n_g ((r : Nat) : Int) 2 (by kernel_rfl) (by omega) (by omega) ?_)
      refine WL_op (WOp_ld htb (q13.add (r * 2)) true 2 [.string x16, .slice A21 n22 c23] (by kernel_rfl) at15 rfl (by decide) ?_)
      refine WL_execS htb 2 [7, 20, 19, 18, 15, 14, 5, 2] [3, 2] ⟨[(7, (.p 3 0)), (20, (iN r)), (19, (iN n_g)), (18, (sS (some q13) n_g c_g)), (15, (iN t)), (14, (iN n_g)), (5, (.ls z1 2 out1.length cap1)), (2, (.p 0 0))], [(3, (.cells 111 [(tS x16), (sS A21 n22 c23)])), (2, (.lst z1 9 arr1))], 4, [], [(0, bk8, (.cells 78 [(sS (some q13) n_g c_g)]))]⟩ (by kernel_rfl) ?_
      refine WL_nil ?_
      refine WQ_code ?_
      refine WC_seq (WC_region ?_)
      refine WL_execS htb 4 [27, 26, 25, 7, 20, 19, 18, 15, 14, 5, 2] [3, 2] ⟨[(27, (iI 0)), (26, (iN n22)), (25, (sS A21 n22 c23)), (7, (.p 3 0)), (20, (iN r)), (19, (iN n_g)), (18, (sS (some q13) n_g c_g)), (15, (iN t)), (14, (iN n_g)), (5, (.ls z1 2 out1.length cap1)), (2, (.p 0 0))], [(3, (.cells 111 [(tS x16), (sS A21 n22 c23)])), (2, (.lst z1 9 arr1))], 4, [], [(0, bk8, (.cells 78 [(sS (some q13) n_g c_g)]))]⟩ (by kernel_rfl) ?_
      refine WL_nil ?_
      refine WQ_code ?_
      refine WC_block ?_
      have hs1 : x18.length ≤ 1000 := (hg.2 _ (List.mem_of_getElem? hx14)).1
      refine WK_keep [27, 26, 25, 7, 20, 19, 18, 15, 14, 5, 2] [3, 2] rfl rfl ?_
      refine WK_env [(27, (iN 0)), (26, (iN n22)), (25, (sS A21 n22 c23)), (7, (.p 3 0)), (20, (iN r)), (19, (iN n_g)), (18, (sS (some q13) n_g c_g)), (15, (iN t)), (14, (iN n_g)), (5, (.ls z1 2 out1.length cap1)), (2, (.p 0 0))] (fun ρ => ⟨rfl, rfl, ⟨rfl, rfl, ⟨rfl, rfl, ⟨rfl, rfl, ⟨rfl, rfl, ⟨rfl, rfl, ⟨rfl, rfl, ⟨rfl, rfl, ⟨rfl, rfl, ⟨rfl, rfl, ⟨rfl, rfl, trivial⟩⟩⟩⟩⟩⟩⟩⟩⟩⟩⟩) ?_
      refine WC_loop (ι := Nat × List ByteArray × Bool × Array Value × Nat) (fun (k, out2, z2, arr2, cap2) G24 => Le G11 G24 ∧ (k ≤ n22 ∧ out2.length ≤ 1000 + t * 1000000 + r * 1000 + k ∧ OwnL tStr G24 out2 arr2 cap2 ∧ (z2 = true → out2 = []) ∧ (True))) (fun (k, out2, z2, arr2, cap2) => ⟨[(27, (iN k)), (26, (iN n22)), (25, (sS A21 n22 c23)), (7, (.p 3 0)), (20, (iN r)), (19, (iN n_g)), (18, (sS (some q13) n_g c_g)), (15, (iN t)), (14, (iN n_g)), (5, (.ls z2 2 out2.length cap2)), (2, (.p 0 0))], [(3, (.cells 111 [(tS x16), (sS A21 n22 c23)])), (2, (.lst z2 9 arr2))], 4, [], [(0, bk8, (.cells 78 [(sS (some q13) n_g c_g)]))]⟩) (fun (k, out2, z2, arr2, cap2) => n22 - k) (0, out1, z1, arr1, cap1) ⟨Le.refl _, ⟨Nat.zero_le _, (by first | omega | (simp only [List.length_append, List.length_nil]; omega)), ho1, hzz1, trivial⟩⟩ rfl ?_
      rintro ⟨k, out2, z2, arr2, cap2⟩ G24 ⟨hle, hF⟩
      show WC _ _ _ _ _ ⟨[(27, (iN k)), (26, (iN n22)), (25, (sS A21 n22 c23)), (7, (.p 3 0)), (20, (iN r)), (19, (iN n_g)), (18, (sS (some q13) n_g c_g)), (15, (iN t)), (14, (iN n_g)), (5, (.ls z2 2 out2.length cap2)), (2, (.p 0 0))], [(3, (.cells 111 [(tS x16), (sS A21 n22 c23)])), (2, (.lst z2 9 arr2))], 4, [], [(0, bk8, (.cells 78 [(sS (some q13) n_g c_g)]))]⟩ _
      replace hc10 := Le.trans hc10 hle
      replace hc12 := Le.trans hc12 hle
      replace h_g := h_g.mono hle
      replace hs20 := hs20.mono hle
      replace hz := hz.mono hle
      replace ho1 := ho1.mono hle
      have hc25 := hle
      obtain ⟨hi2, hlen2, ho2, hzz2, hex2⟩ := hF
      refine WC_seq (WC_region ?_)
      refine WL_execS htb 1 [28, 27, 26, 25, 7, 20, 19, 18, 15, 14, 5, 2] [3, 2] ⟨[(28, (bB (decide ((((k : Nat) : Int) : Int) < ((n22 : Nat) : Int))))), (27, (iN k)), (26, (iN n22)), (25, (sS A21 n22 c23)), (7, (.p 3 0)), (20, (iN r)), (19, (iN n_g)), (18, (sS (some q13) n_g c_g)), (15, (iN t)), (14, (iN n_g)), (5, (.ls z2 2 out2.length cap2)), (2, (.p 0 0))], [(3, (.cells 111 [(tS x16), (sS A21 n22 c23)])), (2, (.lst z2 9 arr2))], 4, [], [(0, bk8, (.cells 78 [(sS (some q13) n_g c_g)]))]⟩ (by kernel_rfl) ?_
      refine WL_nil ?_
      refine WQ_code ?_
      refine WC_seq ?_
      refine WC_cond (b := (decide ((((k : Nat) : Int) : Int) < ((n22 : Nat) : Int)))) rfl (fun hc2 => ?_) (fun hc2 => ?_)
      · replace hc2 := of_decide_eq_true hc2
        refine WC_skip ?_
        refine WQ_code ?_
        refine WC_seq ?_
        refine WC_block ?_
        refine WC_seq (WC_region ?_)
        obtain ⟨q26, rfl⟩ := hs20.ptr (by omega)
        obtain ⟨x29, _, hx27, hr30, at28⟩ := hs20.get k (by omega)
        obtain ⟨A32, n33, c34, rfl, hs31⟩ := Sl.of hr30
        replace hs31 : Sl tStr _ A32 n33 c34 x29 := hs31
        have lhs31 := hs31.len'
        replace at28 : At G24 (q26.add (k * 1)) [.slice A32 n33 c34] := at28
        refine WL_op (WOp_idx htb q26 n22 ((k : Nat) : Int) 1 (by kernel_rfl) (by omega) (by omega) ?_)
        refine WL_op (WOp_ld htb (q26.add (k * 1)) false 1 [.slice A32 n33 c34] (by kernel_rfl) at28 rfl (by decide) ?_)
        refine WL_execS htb 1 [9, 27, 26, 25, 7, 20, 19, 18, 15, 14, 5, 2] [3, 2] ⟨[(9, (sS A32 n33 c34)), (27, (iN k)), (26, (iN n22)), (25, (sS (some q26) n22 c23)), (7, (.p 3 0)), (20, (iN r)), (19, (iN n_g)), (18, (sS (some q13) n_g c_g)), (15, (iN t)), (14, (iN n_g)), (5, (.ls z2 2 out2.length cap2)), (2, (.p 0 0))], [(3, (.cells 111 [(tS x16), (sS (some q26) n22 c23)])), (2, (.lst z2 9 arr2))], 4, [], [(0, bk8, (.cells 78 [(sS (some q13) n_g c_g)]))]⟩ (by kernel_rfl) ?_
        refine WL_nil ?_
        refine WQ_code ?_
        refine WC_seq (WC_region ?_)
        refine WL_execS htb 2 [32, 31, 27, 26, 25, 7, 20, 19, 18, 15, 14, 5, 2] [3, 2] ⟨[(32, (.ls z2 2 out2.length cap2)), (31, (sS A32 n33 c34)), (27, (iN k)), (26, (iN n22)), (25, (sS (some q26) n22 c23)), (7, (.p 3 0)), (20, (iN r)), (19, (iN n_g)), (18, (sS (some q13) n_g c_g)), (15, (iN t)), (14, (iN n_g)), (5, (.ls z2 2 out2.length cap2)), (2, (.p 0 0))], [(3, (.cells 111 [(tS x16), (sS (some q26) n22 c23)])), (2, (.lst z2 9 arr2))], 4, [], [(0, bk8, (.cells 78 [(sS (some q13) n_g c_g)]))]⟩ (by kernel_rfl) ?_
        refine WL_op (WOp_callB 92 [(sS A32 n33 c34), (.ls z2 2 out2.length cap2)] (by kernel_rfl) (goes_of Try.func92 rfl rfl) (Φ := fun v => ∃ (r35 : Bool), v = .bool r35 ∧ (r35 = decide (∀ x ∈ x29, hasB out2 x = true))) 2 rfl (fun ρ w b G1 hW hρ hle hH hb => ?lend) (fun v37 hv => ?_))
        case lend =>
          subst hρ
          obtain ⟨A, n', c', e, hs⟩ := OwnL.sl (n := out2.length) ho2 hle hzz2 hb rfl
          have hsl := hs.len'
          show Calls _ _ #[.slice A32 n33 c34, nilOr z2 (.slice (some ⟨ρ 2, 0, none⟩) out2.length cap2)] w _
          rw [e]
          exact all_ok hH (xs := x29) (ys := out2) (hs31.mono hle) hs
        obtain ⟨r35, rfl, hR36⟩ := hv
        refine WL_execS htb 1 [34, 27, 26, 25, 7, 20, 19, 18, 15, 14, 5, 2] [3, 2] ⟨[(34, (bB r35)), (27, (iN k)), (26, (iN n22)), (25, (sS (some q26) n22 c23)), (7, (.p 3 0)), (20, (iN r)), (19, (iN n_g)), (18, (sS (some q13) n_g c_g)), (15, (iN t)), (14, (iN n_g)), (5, (.ls z2 2 out2.length cap2)), (2, (.p 0 0))], [(3, (.cells 111 [(tS x16), (sS (some q26) n22 c23)])), (2, (.lst z2 9 arr2))], 4, [], [(0, bk8, (.cells 78 [(sS (some q13) n_g c_g)]))]⟩ (by kernel_rfl) ?_
        refine WK_split 34 r35 rfl (fun hd => ?_) (fun hd => ?_)
        · skip
          refine WK_keep [34, 27, 26, 25, 7, 20, 19, 18, 15, 14, 5, 2] [3, 2] rfl rfl ?_
          refine WL_execS htb 3 [37, 35, 34, 27, 26, 25, 7, 20, 19, 18, 15, 14, 5, 2] [3, 2] ⟨[(37, (tS x16)), (35, (.ls z2 2 out2.length cap2)), (34, (bB true)), (27, (iN k)), (26, (iN n22)), (25, (sS (some q26) n22 c23)), (7, (.p 3 0)), (20, (iN r)), (19, (iN n_g)), (18, (sS (some q13) n_g c_g)), (15, (iN t)), (14, (iN n_g)), (5, (.ls z2 2 out2.length cap2)), (2, (.p 0 0))], [(3, (.cells 111 [(tS x16), (sS (some q26) n22 c23)])), (2, (.lst z2 9 arr2))], 4, [], [(0, bk8, (.cells 78 [(sS (some q13) n_g c_g)]))]⟩ (by kernel_rfl) ?_
          refine WL_op (WOp_callB 68 [(.ls z2 2 out2.length cap2), (tS x16)] (by kernel_rfl) (goes_of Try.func68 rfl rfl) (Φ := fun v => ∃ (r38 : Bool), v = .bool r38 ∧ (r38 = hasB out2 x16)) 2 rfl (fun ρ w b G1 hW hρ hle hH hb => ?lend) (fun v40 hv => ?_))
          case lend =>
            subst hρ
            obtain ⟨A, n', c', e, hs⟩ := OwnL.sl (n := out2.length) ho2 hle hzz2 hb rfl
            have hsl := hs.len'
            show Calls _ _ #[nilOr z2 (.slice (some ⟨ρ 2, 0, none⟩) out2.length cap2), .string x16] w _
            rw [e]
            exact has_ok hH (xs := out2) (x := x16) hs hn17
          obtain ⟨r38, rfl, hR39⟩ := hv
          refine WL_execS htb 2 [40, 27, 26, 25, 7, 20, 19, 18, 15, 14, 5, 2] [3, 2] ⟨[(40, (bB (!r38))), (27, (iN k)), (26, (iN n22)), (25, (sS (some q26) n22 c23)), (7, (.p 3 0)), (20, (iN r)), (19, (iN n_g)), (18, (sS (some q13) n_g c_g)), (15, (iN t)), (14, (iN n_g)), (5, (.ls z2 2 out2.length cap2)), (2, (.p 0 0))], [(3, (.cells 111 [(tS x16), (sS (some q26) n22 c23)])), (2, (.lst z2 9 arr2))], 4, [], [(0, bk8, (.cells 78 [(sS (some q13) n_g c_g)]))]⟩ (by kernel_rfl) ?_
          refine WL_nil ?_
          refine WQ_code ?_
          refine WC_cond (b := (!r38)) rfl (fun he => ?_) (fun he => ?_)
          · rw [Bool.not_eq_true'] at he
            refine WC_region ?_
            refine WL_execS htb 4 [44, 41, 27, 26, 25, 7, 20, 19, 18, 15, 14, 2] [4, 3, 2] ⟨[(44, (.s 4 1 1)), (41, (.ls z2 2 out2.length cap2)), (27, (iN k)), (26, (iN n22)), (25, (sS (some q26) n22 c23)), (7, (.p 3 0)), (20, (iN r)), (19, (iN n_g)), (18, (sS (some q13) n_g c_g)), (15, (iN t)), (14, (iN n_g)), (2, (.p 0 0))], [(4, (.cells 9 [(tS x16)])), (3, (.cells 111 [(tS x16), (sS (some q26) n22 c23)])), (2, (.lst z2 9 arr2))], 5, [], [(0, bk8, (.cells 78 [(sS (some q13) n_g c_g)]))]⟩ (by kernel_rfl) ?_
            refine WK_freezeV 4 rfl rfl rfl rfl ?_
            intro bk42 G41 hle hbk42
            replace hc10 := Le.trans hc10 hle
            replace hc12 := Le.trans hc12 hle
            replace hc25 := Le.trans hc25 hle
            replace h_g := h_g.mono hle
            replace hs20 := hs20.mono hle
            replace hz := hz.mono hle
            replace ho2 := ho2.mono hle
            show WK _ _ ⟨[(44, (sS (some ⟨bk42, 0, none⟩) 1 1)), (41, (.ls z2 2 out2.length cap2)), (27, (iN k)), (26, (iN n22)), (25, (sS (some q26) n22 c23)), (7, (.p 3 0)), (20, (iN r)), (19, (iN n_g)), (18, (sS (some q13) n_g c_g)), (15, (iN t)), (14, (iN n_g)), (2, (.p 0 0))], [(3, (.cells 111 [(tS x16), (sS (some q26) n22 c23)])), (2, (.lst z2 9 arr2))], 5, [], [(0, bk8, (.cells 78 [(sS (some q13) n_g c_g)]))]⟩ _
            have hs43 : Sl tStr G41 (some ⟨bk42, 0, none⟩) 1 1 [x16] := Sl.lit (cs := [.string x16]) (RepsL.cons' (rep_str _ (x := x16) hn17) .nil) hbk42 rfl (by unfold big; omega)
            have lhs43 := hs43.len'
            refine WL_op (WOp_append htb z2 2 out2.length cap2 (some ⟨bk42, 0, none⟩) 1 9 1 16 (by kernel_rfl) (by kernel_rfl) rfl rfl tStr (xs := out2) (ys := [x16]) ho2 rfl hzz2 hs43.row hs43.len rfl (by decide) (by first | omega | (simp only [List.length_append, List.length_nil, List.length_drop, List.length_take, List.length_cons]; omega)) (by unfold big; first | omega | (simp only [List.length_append, List.length_nil, List.length_drop, List.length_take, List.length_cons]; omega)) (fun z44 arr45 cap46 hz47 ho48 => ?_))
            show WL _ _ _ _ _ _ ⟨[(45, (.ls z44 5 ((out2 ++ ([x16])).length) cap46)), (44, (sS (some ⟨bk42, 0, none⟩) 1 1)), (41, (.ls z2 2 out2.length cap2)), (27, (iN k)), (26, (iN n22)), (25, (sS (some q26) n22 c23)), (7, (.p 3 0)), (20, (iN r)), (19, (iN n_g)), (18, (sS (some q13) n_g c_g)), (15, (iN t)), (14, (iN n_g)), (2, (.p 0 0))], [(5, (.lst z44 9 arr45)), (3, (.cells 111 [(tS x16), (sS (some q26) n22 c23)]))], 6, [], [(0, bk8, (.cells 78 [(sS (some q13) n_g c_g)]))]⟩ _
            refine WL_execS htb 1 [5, 27, 26, 25, 7, 20, 19, 18, 15, 14, 2] [5, 3] ⟨[(5, (.ls z44 5 ((out2 ++ ([x16])).length) cap46)), (27, (iN k)), (26, (iN n22)), (25, (sS (some q26) n22 c23)), (7, (.p 3 0)), (20, (iN r)), (19, (iN n_g)), (18, (sS (some q13) n_g c_g)), (15, (iN t)), (14, (iN n_g)), (2, (.p 0 0))], [(5, (.lst z44 9 arr45)), (3, (.cells 111 [(tS x16), (sS (some q26) n22 c23)]))], 6, [], [(0, bk8, (.cells 78 [(sS (some q13) n_g c_g)]))]⟩ (by kernel_rfl) ?_
            refine WL_nil ?_
            refine WQ_blk ?_
            refine WQ_code ?_
            refine WC_region ?_
            refine WL_execS htb 2 [27, 5, 26, 25, 7, 20, 19, 18, 15, 14, 2] [5, 3] ⟨[(27, (iI (IntKind.i64.wrap (((k : Nat) : Int) + 1)))), (5, (.ls z44 5 ((out2 ++ ([x16])).length) cap46)), (26, (iN n22)), (25, (sS (some q26) n22 c23)), (7, (.p 3 0)), (20, (iN r)), (19, (iN n_g)), (18, (sS (some q13) n_g c_g)), (15, (iN t)), (14, (iN n_g)), (2, (.p 0 0))], [(5, (.lst z44 9 arr45)), (3, (.cells 111 [(tS x16), (sS (some q26) n22 c23)]))], 6, [], [(0, bk8, (.cells 78 [(sS (some q13) n_g c_g)]))]⟩ (by kernel_rfl) ?_
            refine WL_nil ?_
            refine WK_env [(27, (iN (k + 1))), (5, (.ls z44 5 ((out2 ++ ([x16])).length) cap46)), (26, (iN n22)), (25, (sS (some q26) n22 c23)), (7, (.p 3 0)), (20, (iN r)), (19, (iN n_g)), (18, (sS (some q13) n_g c_g)), (15, (iN t)), (14, (iN n_g)), (2, (.p 0 0))] (fun ρ => ⟨rfl, (congrArg (Value.int .i64) (by rw [wrap_id (by omega)]; first | rfl | omega)), ⟨rfl, rfl, ⟨rfl, rfl, ⟨rfl, rfl, ⟨rfl, rfl, ⟨rfl, rfl, ⟨rfl, rfl, ⟨rfl, rfl, ⟨rfl, rfl, ⟨rfl, rfl, ⟨rfl, rfl, trivial⟩⟩⟩⟩⟩⟩⟩⟩⟩⟩⟩) ?_
            refine WK_keep [27, 26, 25, 7, 20, 19, 18, 15, 14, 5, 2] [3, 5] rfl rfl ?_
            exact WQ_nextR ((k + 1), (out2 ++ ([x16])), z44, arr45, cap46) (by show n22 - (k + 1) < n22 - k; omega) ⟨hc25, ⟨by omega, (by first | omega | (simp only [List.length_append, List.length_cons, List.length_nil]; omega)), ho48, hz47, trivial⟩⟩ [(2, 5)] rfl rfl rfl rfl rfl rfl
          · rw [Bool.not_eq_false'] at he
            refine WC_skip ?_
            refine WQ_blk ?_
            refine WQ_code ?_
            refine WC_region ?_
            refine WL_execS htb 2 [27, 26, 25, 7, 20, 19, 18, 15, 14, 5, 2] [3, 2] ⟨[(27, (iI (IntKind.i64.wrap (((k : Nat) : Int) + 1)))), (26, (iN n22)), (25, (sS (some q26) n22 c23)), (7, (.p 3 0)), (20, (iN r)), (19, (iN n_g)), (18, (sS (some q13) n_g c_g)), (15, (iN t)), (14, (iN n_g)), (5, (.ls z2 2 out2.length cap2)), (2, (.p 0 0))], [(3, (.cells 111 [(tS x16), (sS (some q26) n22 c23)])), (2, (.lst z2 9 arr2))], 4, [], [(0, bk8, (.cells 78 [(sS (some q13) n_g c_g)]))]⟩ (by kernel_rfl) ?_
            refine WL_nil ?_
            refine WK_env [(27, (iN (k + 1))), (26, (iN n22)), (25, (sS (some q26) n22 c23)), (7, (.p 3 0)), (20, (iN r)), (19, (iN n_g)), (18, (sS (some q13) n_g c_g)), (15, (iN t)), (14, (iN n_g)), (5, (.ls z2 2 out2.length cap2)), (2, (.p 0 0))] (fun ρ => ⟨rfl, (congrArg (Value.int .i64) (by rw [wrap_id (by omega)]; first | rfl | omega)), ⟨rfl, rfl, ⟨rfl, rfl, ⟨rfl, rfl, ⟨rfl, rfl, ⟨rfl, rfl, ⟨rfl, rfl, ⟨rfl, rfl, ⟨rfl, rfl, ⟨rfl, rfl, ⟨rfl, rfl, trivial⟩⟩⟩⟩⟩⟩⟩⟩⟩⟩⟩) ?_
            refine WK_keep [27, 26, 25, 7, 20, 19, 18, 15, 14, 5, 2] [3, 2] rfl rfl ?_
            exact WQ_next ((k + 1), out2, z2, arr2, cap2) (by show n22 - (k + 1) < n22 - k; omega) ⟨hc25, ⟨by omega, (by first | omega | (simp only [List.length_append, List.length_cons, List.length_nil]; omega)), ho2, hzz2, trivial⟩⟩ (fun ρ a w h => h)
        · skip
          refine WK_keep [34, 27, 26, 25, 7, 20, 19, 18, 15, 14, 5, 2] [3, 2] rfl rfl ?_
          refine WL_execS htb 6 [40, 27, 26, 25, 7, 20, 19, 18, 15, 14, 5, 2] [3, 2] ⟨[(40, (bB false)), (27, (iN k)), (26, (iN n22)), (25, (sS (some q26) n22 c23)), (7, (.p 3 0)), (20, (iN r)), (19, (iN n_g)), (18, (sS (some q13) n_g c_g)), (15, (iN t)), (14, (iN n_g)), (5, (.ls z2 2 out2.length cap2)), (2, (.p 0 0))], [(3, (.cells 111 [(tS x16), (sS (some q26) n22 c23)])), (2, (.lst z2 9 arr2))], 4, [], [(0, bk8, (.cells 78 [(sS (some q13) n_g c_g)]))]⟩ (by kernel_rfl) ?_
          refine WL_nil ?_
          refine WQ_code ?_
          refine WC_cond (b := false) rfl (fun h => by cases h) (fun _ => ?_)
          refine WC_skip ?_
          refine WQ_blk ?_
          refine WQ_code ?_
          refine WC_region ?_
          refine WL_execS htb 2 [27, 26, 25, 7, 20, 19, 18, 15, 14, 5, 2] [3, 2] ⟨[(27, (iI (IntKind.i64.wrap (((k : Nat) : Int) + 1)))), (26, (iN n22)), (25, (sS (some q26) n22 c23)), (7, (.p 3 0)), (20, (iN r)), (19, (iN n_g)), (18, (sS (some q13) n_g c_g)), (15, (iN t)), (14, (iN n_g)), (5, (.ls z2 2 out2.length cap2)), (2, (.p 0 0))], [(3, (.cells 111 [(tS x16), (sS (some q26) n22 c23)])), (2, (.lst z2 9 arr2))], 4, [], [(0, bk8, (.cells 78 [(sS (some q13) n_g c_g)]))]⟩ (by kernel_rfl) ?_
          refine WL_nil ?_
          refine WK_env [(27, (iN (k + 1))), (26, (iN n22)), (25, (sS (some q26) n22 c23)), (7, (.p 3 0)), (20, (iN r)), (19, (iN n_g)), (18, (sS (some q13) n_g c_g)), (15, (iN t)), (14, (iN n_g)), (5, (.ls z2 2 out2.length cap2)), (2, (.p 0 0))] (fun ρ => ⟨rfl, (congrArg (Value.int .i64) (by rw [wrap_id (by omega)]; first | rfl | omega)), ⟨rfl, rfl, ⟨rfl, rfl, ⟨rfl, rfl, ⟨rfl, rfl, ⟨rfl, rfl, ⟨rfl, rfl, ⟨rfl, rfl, ⟨rfl, rfl, ⟨rfl, rfl, ⟨rfl, rfl, trivial⟩⟩⟩⟩⟩⟩⟩⟩⟩⟩⟩) ?_
          refine WK_keep [27, 26, 25, 7, 20, 19, 18, 15, 14, 5, 2] [3, 2] rfl rfl ?_
          exact WQ_next ((k + 1), out2, z2, arr2, cap2) (by show n22 - (k + 1) < n22 - k; omega) ⟨hc25, ⟨by omega, (by first | omega | (simp only [List.length_append, List.length_cons, List.length_nil]; omega)), ho2, hzz2, trivial⟩⟩ (fun ρ a w h => h)
      · replace hc2 := of_decide_eq_false hc2
        refine WC_exit ?_
        refine WQ_then_exit ?_
        refine WQ_then_exit ?_
        refine WQ_hit ?_
        refine WQ_blk ?_
        refine WQ_code ?_
        refine WC_region ?_
        refine WL_execS htb 2 [20, 19, 18, 15, 14, 5, 2] [2] ⟨[(20, (iI (IntKind.i64.wrap (((r : Nat) : Int) + 1)))), (19, (iN n_g)), (18, (sS (some q13) n_g c_g)), (15, (iN t)), (14, (iN n_g)), (5, (.ls z2 2 out2.length cap2)), (2, (.p 0 0))], [(2, (.lst z2 9 arr2))], 4, [], [(0, bk8, (.cells 78 [(sS (some q13) n_g c_g)]))]⟩ (by kernel_rfl) ?_
        refine WL_nil ?_
        refine WK_env [(20, (iN (r + 1))), (19, (iN n_g)), (18, (sS (some q13) n_g c_g)), (15, (iN t)), (14, (iN n_g)), (5, (.ls z2 2 out2.length cap2)), (2, (.p 0 0))] (fun ρ => ⟨rfl, (congrArg (Value.int .i64) (by rw [wrap_id (by omega)]; first | rfl | omega)), ⟨rfl, rfl, ⟨rfl, rfl, ⟨rfl, rfl, ⟨rfl, rfl, ⟨rfl, rfl, ⟨rfl, rfl, trivial⟩⟩⟩⟩⟩⟩⟩) ?_
        refine WK_keep [20, 19, 18, 15, 14, 5, 2] [2] rfl rfl ?_
        exact WQ_next ((r + 1), out2, z2, arr2, cap2) (by show n_g - (r + 1) < n_g - r; omega) ⟨hc12, ⟨by omega, (by first | omega | (simp only [List.length_append, List.length_cons, List.length_nil]; omega)), ho2, hzz2, trivial⟩⟩ (fun ρ a w h => h)
    · replace hc1 := of_decide_eq_false hc1
      refine WC_exit ?_
      refine WQ_then_exit ?_
      refine WQ_then_exit ?_
      refine WQ_hit ?_
      refine WQ_blk ?_
      refine WQ_code ?_
      refine WC_region ?_
      refine WL_execS htb 2 [15, 14, 5, 2] [2] ⟨[(15, (iI (IntKind.i64.wrap (((t : Nat) : Int) + 1)))), (14, (iN n_g)), (5, (.ls z1 2 out1.length cap1)), (2, (.p 0 0))], [(2, (.lst z1 9 arr1))], 3, [], [(0, bk8, (.cells 78 [(sS A_g n_g c_g)]))]⟩ (by kernel_rfl) ?_
      refine WL_nil ?_
      refine WK_env [(15, (iN (t + 1))), (14, (iN n_g)), (5, (.ls z1 2 out1.length cap1)), (2, (.p 0 0))] (fun ρ => ⟨rfl, (congrArg (Value.int .i64) (by rw [wrap_id (by omega)]; first | rfl | omega)), ⟨rfl, rfl, ⟨rfl, rfl, ⟨rfl, rfl, trivial⟩⟩⟩⟩) ?_
      refine WK_keep [15, 14, 5, 2] [2] rfl rfl ?_
      exact WQ_next ((t + 1), out1, z1, arr1, cap1) (by show n_g - (t + 1) < n_g - t; omega) ⟨hc10, ⟨by omega, (by first | omega | (simp only [List.length_append, List.length_cons, List.length_nil]; omega)), ho1, hzz1, trivial⟩⟩ (fun ρ a w h => h)
  · replace hc := of_decide_eq_false hc
    refine WC_exit ?_
    refine WQ_then_exit ?_
    refine WQ_then_exit ?_
    refine WQ_hit ?_
    refine WQ_code ?_
    refine WC_seq (WC_region ?_)
    refine WL_execS htb 2 [4] [2] ⟨[(4, (.ls z 2 out.length cap))], [(2, (.lst z 9 arr))], 3, [], [(0, bk8, (.cells 78 [(sS A_g n_g c_g)]))]⟩ (by kernel_rfl) ?_
    refine WL_nil ?_
    refine WQ_code ?_
    refine WC_ret ?_
    refine WK_freezeL 2 rfl rfl ?_
    intro bk12 G11 hle hbk12
    replace hc10 := Le.trans hc10 hle
    replace h_g := h_g.mono hle
    replace hz := hz.mono hle
    obtain ⟨A14, n15, c16, e17, hs13⟩ := OwnL.sl (n := out.length) ho hle hzz hbk12 rfl
    refine WK_env [(4, (sS A14 n15 c16))] (fun ρ => ⟨rfl, (by exact e17), trivial⟩) ?_
    have lhs13 := hs13.len'
    exact WQ_done htb [(sS A14 n15 c16)] _ (.inl rfl) rfl (by kernel_rfl) (fun ρ w hW => ⟨out, _, _, _, rfl, hs13, trivial⟩)

end Go.Proofs.Ytbpajkjolhoflaa.Sym
