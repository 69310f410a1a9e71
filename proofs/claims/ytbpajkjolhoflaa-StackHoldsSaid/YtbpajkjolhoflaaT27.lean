/- Walks of functions that the laws of this seat reach, printed by a program of this session's. -/
import Derived.Test.YtbpajkjolhoflaaT26
import Derived.Test.YtbpajkjolhoflaaSymL
import Derived.Test.YtbpajkjolhoflaaPl
import Derived.Laws.Strings
import Derived.WideShapes
set_option linter.unusedSimpArgs false
set_option linter.unusedVariables false
set_option maxHeartbeats 4000000
namespace Go.Proofs.Ytbpajkjolhoflaa.Sym
open Go Go.Proofs Go.RowKit






theorem back_ok {w : World} {G : Heap} (hG : Has w G) {tk : (List ByteArray)} {A_tk : Option Addr} {n_tk : Nat} {c_tk : Nat} {nm : (List ByteArray)} {A_nm : Option Addr} {n_nm : Nat} {c_nm : Nat} {rs : (List (List (List Int)))} {A_rs : Option Addr} {n_rs : Nat} {c_rs : Nat} (h_tk : Sl tStr G A_tk n_tk c_tk tk) (h_nm : Sl tStr G A_nm n_nm c_nm nm) (h_rs : Sl (tSlice (tSlice (tInt .i64))) G A_rs n_rs c_rs rs) (hB : nm.length ≤ 1000000 ∧ ∀ ar ∈ rs, ar.length ≤ 1000000 ∧ ∀ al ∈ ar, al.length ≤ 1000000) :
    Calls Try.prog 49 #[(.agg #[.slice A_tk n_tk c_tk, .slice A_nm n_nm c_nm, .slice A_rs n_rs c_rs])] w (Ret w G fun v G' => ∃ (g : (List (ByteArray × (List (List ByteArray))))) (A_g : Option Addr) (n_g : Nat) (c_g : Nat) (e : Int), v = .tuple #[.agg #[.slice A_g n_g c_g], .int .i64 e] ∧ (Sl (tPair tStr (tSlice (tSlice tStr))) G' A_g n_g c_g g) ∧ (-9223372036854775808 ≤ e ∧ e ≤ 9223372036854775807) ∧ ((backS tk nm rs = some g ∧ e = 0) ∨ (backS tk nm rs = none ∧ g = [] ∧ e = 1))) := by
  have lh_tk := h_tk.len'
  have lh_nm := h_nm.len'
  have lh_rs := h_rs.len'
  refine enter [(.agg [(sS A_tk n_tk c_tk), (sS A_nm n_nm c_nm), (sS A_rs n_rs c_rs)])] 102 Try.func49 rfl rfl rfl rfl hG ?_
  refine WC_seq (WC_region ?_)
  refine WL_execS htb 3 [2, 1] [1, 0] ⟨[(2, (.p 1 0)), (1, (.p 0 0))], [(1, (.cells 78 [(sS none 0 0)])), (0, (.cells 35 [(sS A_tk n_tk c_tk), (sS A_nm n_nm c_nm), (sS A_rs n_rs c_rs)]))], 2, [], []⟩ (by kernel_rfl) ?_
  refine WL_nil ?_
  refine WQ_code ?_
  refine WC_seq ?_
  refine WC_seq (WC_region ?_)
  refine WL_execS htb 7 [19, 2, 1] [1, 0] ⟨[(19, (bB ((((n_nm : Nat) : Int) : Int) != ((n_rs : Nat) : Int)))), (2, (.p 1 0)), (1, (.p 0 0))], [(1, (.cells 78 [(sS none 0 0)])), (0, (.cells 35 [(sS A_tk n_tk c_tk), (sS A_nm n_nm c_nm), (sS A_rs n_rs c_rs)]))], 2, [], []⟩ (by kernel_rfl) ?_
  refine WL_nil ?_
  refine WQ_code ?_
  refine WC_cond (b := ((((n_nm : Nat) : Int) : Int) != ((n_rs : Nat) : Int))) rfl (fun hb0 => ?_) (fun hb0 => ?_)
  · replace hb0 := bne_iff_ne.1 hb0
    refine WC_seq (WC_region ?_)
    refine WL_execS htb 3 [3, 2] [1] ⟨[(3, (iI 1)), (2, (.p 1 0))], [(1, (.cells 78 [(sS none 0 0)]))], 2, [], []⟩ (by kernel_rfl) ?_
    refine WL_nil ?_
    refine WQ_code ?_
    refine WC_ret ?_
    refine WQ_then_ret ?_
    exact WQ_done htb [(.agg [(sS none 0 0)]), (iI 1)] _ (.inl rfl) rfl (by kernel_rfl) (fun ρ w hW => ⟨[], _, _, _, 1, rfl, (Sl.none0 _ _), (by omega), (.inr ⟨back_no (by omega), rfl, rfl⟩)⟩)
  · replace hb0 := (bne_eq_false_iff_eq.1) hb0
    refine WC_skip ?_
    refine WQ_code ?_
    refine WC_seq (WC_region ?_)
    refine WL_execS htb 1 [4, 2, 1] [2, 1, 0] ⟨[(4, (.p 2 0)), (2, (.p 1 0)), (1, (.p 0 0))], [(2, (.cells 78 [(sS none 0 0)])), (1, (.cells 78 [(sS none 0 0)])), (0, (.cells 35 [(sS A_tk n_tk c_tk), (sS A_nm n_nm c_nm), (sS A_rs n_rs c_rs)]))], 3, [], []⟩ (by kernel_rfl) ?_
    refine WL_nil ?_
    refine WQ_code ?_
    refine WC_seq ?_
    refine WC_seq (WC_region ?_)
    refine WL_execS htb 4 [24, 23, 22, 4, 2, 1] [2, 1, 0] ⟨[(24, (iI 0)), (23, (iN n_rs)), (22, (sS A_rs n_rs c_rs)), (4, (.p 2 0)), (2, (.p 1 0)), (1, (.p 0 0))], [(2, (.cells 78 [(sS none 0 0)])), (1, (.cells 78 [(sS none 0 0)])), (0, (.cells 35 [(sS A_tk n_tk c_tk), (sS A_nm n_nm c_nm), (sS A_rs n_rs c_rs)]))], 3, [], []⟩ (by kernel_rfl) ?_
    refine WL_nil ?_
    refine WQ_code ?_
    refine WC_block ?_
    refine WK_off 111 rfl ?_
    refine WK_own [(3, (.lst true 111 (#[]))), (2, (.cells 78 [(.ls true 3 0 0)])), (1, (.cells 78 [(sS none 0 0)])), (0, (.cells 35 [(sS A_tk n_tk c_tk), (sS A_nm n_nm c_nm), (sS A_rs n_rs c_rs)]))] (fun ρ => ⟨rfl, rfl, ⟨rfl, rfl, rfl, ⟨rfl, rfl, rfl, ⟨rfl, rfl, rfl, trivial⟩⟩⟩⟩) ?_
    refine WK_freeze 0 rfl rfl rfl rfl ?_
    intro bk2 G1 hle hbk2
    replace h_tk := h_tk.mono hle
    replace h_nm := h_nm.mono hle
    replace h_rs := h_rs.mono hle
    have hz := FZ.cons (h := 0) hbk2 rfl (FZ.nil _)
    refine WK_keep [24, 23, 22, 4, 2, 1] [3, 2, 1] rfl rfl ?_
    refine WK_env [(24, (iN 0)), (23, (iN n_rs)), (22, (sS A_rs n_rs c_rs)), (4, (.p 2 0)), (2, (.p 1 0)), (1, (.p 0 0))] (fun ρ => ⟨rfl, rfl, ⟨rfl, rfl, ⟨rfl, rfl, ⟨rfl, rfl, ⟨rfl, rfl, ⟨rfl, rfl, trivial⟩⟩⟩⟩⟩⟩) ?_
    refine WC_loop (ι := Nat × List (ByteArray × List (List ByteArray)) × Bool × Array Value × Nat) (fun (r, acc, z, arr, cap) G3 => Le G1 G3 ∧ (r ≤ n_rs ∧ mapO (fun x => (altsB tk nm x.2).map fun a => (x.1, a)) ((nm.zip rs).take r) = some acc ∧ OwnL (tPair tStr (tSlice (tSlice tStr))) G3 acc arr cap ∧ (z = true → acc = []))) (fun (r, acc, z, arr, cap) => ⟨[(24, (iN r)), (23, (iN n_rs)), (22, (sS A_rs n_rs c_rs)), (4, (.p 2 0)), (2, (.p 1 0)), (1, (.p 0 0))], [(3, (.lst z 111 arr)), (2, (.cells 78 [(.ls z 3 acc.length cap)])), (1, (.cells 78 [(sS none 0 0)]))], 4, [], [(0, bk2, (.cells 35 [(sS A_tk n_tk c_tk), (sS A_nm n_nm c_nm), (sS A_rs n_rs c_rs)]))]⟩) (fun (r, acc, z, arr, cap) => n_rs - r) (0, [], true, #[], 0) ⟨Le.refl _, ⟨Nat.zero_le _, rfl, OwnL.nil _ _, fun _ => rfl⟩⟩ rfl ?_
    rintro ⟨r, acc, z, arr, cap⟩ G3 ⟨hle, hF⟩
    show WC _ _ _ _ _ ⟨[(24, (iN r)), (23, (iN n_rs)), (22, (sS A_rs n_rs c_rs)), (4, (.p 2 0)), (2, (.p 1 0)), (1, (.p 0 0))], [(3, (.lst z 111 arr)), (2, (.cells 78 [(.ls z 3 acc.length cap)])), (1, (.cells 78 [(sS none 0 0)]))], 4, [], [(0, bk2, (.cells 35 [(sS A_tk n_tk c_tk), (sS A_nm n_nm c_nm), (sS A_rs n_rs c_rs)]))]⟩ _
    replace h_tk := h_tk.mono hle
    replace h_nm := h_nm.mono hle
    replace h_rs := h_rs.mono hle
    replace hz := hz.mono hle
    have hc4 := hle
    obtain ⟨hr, hacc, ho, hz0⟩ := hF
    refine WC_seq (WC_region ?_)
    refine WL_execS htb 1 [25, 24, 23, 22, 4, 2, 1] [3, 2, 1] ⟨[(25, (bB (decide ((((r : Nat) : Int) : Int) < ((n_rs : Nat) : Int))))), (24, (iN r)), (23, (iN n_rs)), (22, (sS A_rs n_rs c_rs)), (4, (.p 2 0)), (2, (.p 1 0)), (1, (.p 0 0))], [(3, (.lst z 111 arr)), (2, (.cells 78 [(.ls z 3 acc.length cap)])), (1, (.cells 78 [(sS none 0 0)]))], 4, [], [(0, bk2, (.cells 35 [(sS A_tk n_tk c_tk), (sS A_nm n_nm c_nm), (sS A_rs n_rs c_rs)]))]⟩ (by kernel_rfl) ?_
    refine WL_nil ?_
    refine WQ_code ?_
    refine WC_seq ?_
    refine WC_cond (b := (decide ((((r : Nat) : Int) : Int) < ((n_rs : Nat) : Int)))) rfl (fun hc => ?_) (fun hc => ?_)
    · replace hc := of_decide_eq_true hc
      refine WC_skip ?_
      refine WQ_code ?_
      refine WC_seq ?_
      refine WC_block ?_
      refine WC_seq (WC_region ?_)
      refine WL_execS htb 1 [26, 24, 23, 22, 4, 2, 1] [3, 2, 1] ⟨[(26, (iN r)), (24, (iN r)), (23, (iN n_rs)), (22, (sS A_rs n_rs c_rs)), (4, (.p 2 0)), (2, (.p 1 0)), (1, (.p 0 0))], [(3, (.lst z 111 arr)), (2, (.cells 78 [(.ls z 3 acc.length cap)])), (1, (.cells 78 [(sS none 0 0)]))], 4, [], [(0, bk2, (.cells 35 [(sS A_tk n_tk c_tk), (sS A_nm n_nm c_nm), (sS A_rs n_rs c_rs)]))]⟩ (by kernel_rfl) ?_
      obtain ⟨q5, rfl⟩ := h_rs.ptr (by omega)
      obtain ⟨x8, _, hx6, hr9, at7⟩ := h_rs.get r (by omega)
      obtain ⟨A11, n12, c13, rfl, hs10⟩ := Sl.of hr9
      replace hs10 : Sl (tSlice (tInt .i64)) _ A11 n12 c13 x8 := hs10
      have lhs10 := hs10.len'
      replace at7 : At G3 (q5.add (r * 1)) [.slice A11 n12 c13] := at7
      refine WL_op (WOp_idx htb q5 n_rs ((r : Nat) : Int) 1 (by kernel_rfl) (by omega) (by omega) ?_)
      refine WL_op (WOp_ld htb (q5.add (r * 1)) false 1 [.slice A11 n12 c13] (by kernel_rfl) at7 rfl (by decide) ?_)
      refine WL_execS htb 2 [6, 5, 24, 23, 22, 4, 2, 1] [3, 2, 1] ⟨[(6, (sS A11 n12 c13)), (5, (iN r)), (24, (iN r)), (23, (iN n_rs)), (22, (sS (some q5) n_rs c_rs)), (4, (.p 2 0)), (2, (.p 1 0)), (1, (.p 0 0))], [(3, (.lst z 111 arr)), (2, (.cells 78 [(.ls z 3 acc.length cap)])), (1, (.cells 78 [(sS none 0 0)]))], 4, [], [(0, bk2, (.cells 35 [(sS A_tk n_tk c_tk), (sS A_nm n_nm c_nm), (sS (some q5) n_rs c_rs)]))]⟩ (by kernel_rfl) ?_
      refine WL_nil ?_
      refine WQ_code ?_
      refine WC_seq (WC_region ?_)
      refine WL_execS htb 3 [31, 30, 6, 24, 23, 22, 4, 2, 1] [3, 2, 1] ⟨[(31, (iN r)), (30, (sS A_nm n_nm c_nm)), (6, (sS A11 n12 c13)), (24, (iN r)), (23, (iN n_rs)), (22, (sS (some q5) n_rs c_rs)), (4, (.p 2 0)), (2, (.p 1 0)), (1, (.p 0 0))], [(3, (.lst z 111 arr)), (2, (.cells 78 [(.ls z 3 acc.length cap)])), (1, (.cells 78 [(sS none 0 0)]))], 4, [], [(0, bk2, (.cells 35 [(sS A_tk n_tk c_tk), (sS A_nm n_nm c_nm), (sS (some q5) n_rs c_rs)]))]⟩ (by kernel_rfl) ?_
      obtain ⟨q14, rfl⟩ := h_nm.ptr (by omega)
      obtain ⟨x17, _, hx15, ⟨rfl, hn18⟩, at16⟩ := h_nm.get r (by omega)
      replace at16 : At G3 (q14.add (r * 1)) [.string x17] := at16
      refine WL_op (WOp_idx htb q14 n_nm ((r : Nat) : Int) 1 (by kernel_rfl) (by omega) (by omega) ?_)
      refine WL_op (WOp_ld htb (q14.add (r * 1)) false 1 [.string x17] (by kernel_rfl) at16 rfl (by decide) ?_)
      refine WL_execS htb 3 [7, 6, 24, 23, 22, 4, 2, 1] [4, 3, 2, 1] ⟨[(7, (.p 4 0)), (6, (sS A11 n12 c13)), (24, (iN r)), (23, (iN n_rs)), (22, (sS (some q5) n_rs c_rs)), (4, (.p 2 0)), (2, (.p 1 0)), (1, (.p 0 0))], [(4, (.cells 111 [(tS x17), (sS none 0 0)])), (3, (.lst z 111 arr)), (2, (.cells 78 [(.ls z 3 acc.length cap)])), (1, (.cells 78 [(sS none 0 0)]))], 5, [], [(0, bk2, (.cells 35 [(sS A_tk n_tk c_tk), (sS (some q14) n_nm c_nm), (sS (some q5) n_rs c_rs)]))]⟩ (by kernel_rfl) ?_
      refine WL_nil ?_
      refine WQ_code ?_
      refine WC_seq ?_
      refine WC_seq (WC_region ?_)
      refine WL_execS htb 3 [37, 36, 35, 7, 24, 23, 22, 4, 2, 1] [4, 3, 2, 1] ⟨[(37, (iI 0)), (36, (iN n12)), (35, (sS A11 n12 c13)), (7, (.p 4 0)), (24, (iN r)), (23, (iN n_rs)), (22, (sS (some q5) n_rs c_rs)), (4, (.p 2 0)), (2, (.p 1 0)), (1, (.p 0 0))], [(4, (.cells 111 [(tS x17), (sS none 0 0)])), (3, (.lst z 111 arr)), (2, (.cells 78 [(.ls z 3 acc.length cap)])), (1, (.cells 78 [(sS none 0 0)]))], 5, [], [(0, bk2, (.cells 35 [(sS A_tk n_tk c_tk), (sS (some q14) n_nm c_nm), (sS (some q5) n_rs c_rs)]))]⟩ (by kernel_rfl) ?_
      refine WL_nil ?_
      refine WQ_code ?_
      refine WC_block ?_
      have hla := mapO_len hacc
      have hla' := List.length_take (i := r) (l := nm.zip rs)
      obtain ⟨hb1, hb2⟩ := hB.2 _ (List.mem_of_getElem? hx6)
      have hzip := zip_get hx15 hx6
      refine WK_off 32 rfl ?_
      refine WK_own [(5, (.lst true 32 (#[]))), (4, (.cells 111 [(tS x17), (.ls true 5 0 0)])), (3, (.lst z 111 arr)), (2, (.cells 78 [(.ls z 3 acc.length cap)])), (1, (.cells 78 [(sS none 0 0)]))] (fun ρ => ⟨rfl, rfl, ⟨rfl, rfl, rfl, ⟨rfl, rfl, ⟨rfl, rfl, rfl, ⟨rfl, rfl, rfl, trivial⟩⟩⟩⟩⟩) ?_
      refine WK_keep [37, 36, 35, 7, 24, 23, 22, 4, 2, 1] [5, 4, 3, 2, 1] rfl rfl ?_
      refine WK_env [(37, (iN 0)), (36, (iN n12)), (35, (sS A11 n12 c13)), (7, (.p 4 0)), (24, (iN r)), (23, (iN n_rs)), (22, (sS (some q5) n_rs c_rs)), (4, (.p 2 0)), (2, (.p 1 0)), (1, (.p 0 0))] (fun ρ => ⟨rfl, rfl, ⟨rfl, rfl, ⟨rfl, rfl, ⟨rfl, rfl, ⟨rfl, rfl, ⟨rfl, rfl, ⟨rfl, rfl, ⟨rfl, rfl, ⟨rfl, rfl, ⟨rfl, rfl, trivial⟩⟩⟩⟩⟩⟩⟩⟩⟩⟩) ?_
      refine WC_loop (ι := Nat × List (List ByteArray) × Bool × Array Value × Nat) (fun (k, acc2, z2, arr2, cap2) G19 => Le G3 G19 ∧ (k ≤ n12 ∧ mapO (altB tk nm) (x8.take k) = some acc2 ∧ OwnL (tSlice tStr) G19 acc2 arr2 cap2 ∧ (z2 = true → acc2 = []))) (fun (k, acc2, z2, arr2, cap2) => ⟨[(37, (iN k)), (36, (iN n12)), (35, (sS A11 n12 c13)), (7, (.p 4 0)), (24, (iN r)), (23, (iN n_rs)), (22, (sS (some q5) n_rs c_rs)), (4, (.p 2 0)), (2, (.p 1 0)), (1, (.p 0 0))], [(5, (.lst z2 32 arr2)), (4, (.cells 111 [(tS x17), (.ls z2 5 acc2.length cap2)])), (3, (.lst z 111 arr)), (2, (.cells 78 [(.ls z 3 acc.length cap)])), (1, (.cells 78 [(sS none 0 0)]))], 6, [], [(0, bk2, (.cells 35 [(sS A_tk n_tk c_tk), (sS (some q14) n_nm c_nm), (sS (some q5) n_rs c_rs)]))]⟩) (fun (k, acc2, z2, arr2, cap2) => n12 - k) (0, [], true, #[], 0) ⟨Le.refl _, ⟨Nat.zero_le _, rfl, OwnL.nil _ _, fun _ => rfl⟩⟩ rfl ?_
      rintro ⟨k, acc2, z2, arr2, cap2⟩ G19 ⟨hle, hF⟩
      show WC _ _ _ _ _ ⟨[(37, (iN k)), (36, (iN n12)), (35, (sS A11 n12 c13)), (7, (.p 4 0)), (24, (iN r)), (23, (iN n_rs)), (22, (sS (some q5) n_rs c_rs)), (4, (.p 2 0)), (2, (.p 1 0)), (1, (.p 0 0))], [(5, (.lst z2 32 arr2)), (4, (.cells 111 [(tS x17), (.ls z2 5 acc2.length cap2)])), (3, (.lst z 111 arr)), (2, (.cells 78 [(.ls z 3 acc.length cap)])), (1, (.cells 78 [(sS none 0 0)]))], 6, [], [(0, bk2, (.cells 35 [(sS A_tk n_tk c_tk), (sS (some q14) n_nm c_nm), (sS (some q5) n_rs c_rs)]))]⟩ _
      replace hc4 := Le.trans hc4 hle
      replace h_tk := h_tk.mono hle
      replace h_nm := h_nm.mono hle
      replace h_rs := h_rs.mono hle
      replace hs10 := hs10.mono hle
      replace hz := hz.mono hle
      replace ho := ho.mono hle
      have hc20 := hle
      obtain ⟨hk, hacc2, ho2, hz2⟩ := hF
      have hl2 := mapO_len hacc2
      have hl2' := List.length_take (i := k) (l := x8)
      refine WC_seq (WC_region ?_)
      refine WL_execS htb 1 [38, 37, 36, 35, 7, 24, 23, 22, 4, 2, 1] [5, 4, 3, 2, 1] ⟨[(38, (bB (decide ((((k : Nat) : Int) : Int) < ((n12 : Nat) : Int))))), (37, (iN k)), (36, (iN n12)), (35, (sS A11 n12 c13)), (7, (.p 4 0)), (24, (iN r)), (23, (iN n_rs)), (22, (sS (some q5) n_rs c_rs)), (4, (.p 2 0)), (2, (.p 1 0)), (1, (.p 0 0))], [(5, (.lst z2 32 arr2)), (4, (.cells 111 [(tS x17), (.ls z2 5 acc2.length cap2)])), (3, (.lst z 111 arr)), (2, (.cells 78 [(.ls z 3 acc.length cap)])), (1, (.cells 78 [(sS none 0 0)]))], 6, [], [(0, bk2, (.cells 35 [(sS A_tk n_tk c_tk), (sS (some q14) n_nm c_nm), (sS (some q5) n_rs c_rs)]))]⟩ (by kernel_rfl) ?_
      refine WL_nil ?_
      refine WQ_code ?_
      refine WC_seq ?_
      refine WC_cond (b := (decide ((((k : Nat) : Int) : Int) < ((n12 : Nat) : Int)))) rfl (fun hc1 => ?_) (fun hc1 => ?_)
      · replace hc1 := of_decide_eq_true hc1
        refine WC_skip ?_
        refine WQ_code ?_
        refine WC_seq ?_
        refine WC_block ?_
        refine WC_seq (WC_region ?_)
        obtain ⟨q21, rfl⟩ := hs10.ptr (by omega)
        obtain ⟨x24, _, hx22, hr25, at23⟩ := hs10.get k (by omega)
        obtain ⟨A27, n28, c29, rfl, hs26⟩ := Sl.of hr25
        replace hs26 : Sl (tInt .i64) _ A27 n28 c29 x24 := hs26
        have lhs26 := hs26.len'
        replace at23 : At G19 (q21.add (k * 1)) [.slice A27 n28 c29] := at23
        refine WL_op (WOp_idx htb q21 n12 ((k : Nat) : Int) 1 (by kernel_rfl) (by omega) (by omega) ?_)
        refine WL_op (WOp_ld htb (q21.add (k * 1)) false 1 [.slice A27 n28 c29] (by kernel_rfl) at23 rfl (by decide) ?_)
        refine WL_execS htb 1 [9, 37, 36, 35, 7, 24, 23, 22, 4, 2, 1] [5, 4, 3, 2, 1] ⟨[(9, (sS A27 n28 c29)), (37, (iN k)), (36, (iN n12)), (35, (sS (some q21) n12 c13)), (7, (.p 4 0)), (24, (iN r)), (23, (iN n_rs)), (22, (sS (some q5) n_rs c_rs)), (4, (.p 2 0)), (2, (.p 1 0)), (1, (.p 0 0))], [(5, (.lst z2 32 arr2)), (4, (.cells 111 [(tS x17), (.ls z2 5 acc2.length cap2)])), (3, (.lst z 111 arr)), (2, (.cells 78 [(.ls z 3 acc.length cap)])), (1, (.cells 78 [(sS none 0 0)]))], 6, [], [(0, bk2, (.cells 35 [(sS A_tk n_tk c_tk), (sS (some q14) n_nm c_nm), (sS (some q5) n_rs c_rs)]))]⟩ (by kernel_rfl) ?_
        refine WL_nil ?_
        refine WQ_code ?_
        refine WC_seq (WC_region ?_)
        refine WL_execS htb 1 [10, 9, 37, 36, 35, 7, 24, 23, 22, 4, 2, 1] [5, 4, 3, 2, 1] ⟨[(10, (sS none 0 0)), (9, (sS A27 n28 c29)), (37, (iN k)), (36, (iN n12)), (35, (sS (some q21) n12 c13)), (7, (.p 4 0)), (24, (iN r)), (23, (iN n_rs)), (22, (sS (some q5) n_rs c_rs)), (4, (.p 2 0)), (2, (.p 1 0)), (1, (.p 0 0))], [(5, (.lst z2 32 arr2)), (4, (.cells 111 [(tS x17), (.ls z2 5 acc2.length cap2)])), (3, (.lst z 111 arr)), (2, (.cells 78 [(.ls z 3 acc.length cap)])), (1, (.cells 78 [(sS none 0 0)]))], 6, [], [(0, bk2, (.cells 35 [(sS A_tk n_tk c_tk), (sS (some q14) n_nm c_nm), (sS (some q5) n_rs c_rs)]))]⟩ (by kernel_rfl) ?_
        refine WL_nil ?_
        refine WQ_code ?_
        refine WC_seq ?_
        refine WC_seq (WC_region ?_)
        refine WL_execS htb 3 [43, 42, 41, 10, 37, 36, 35, 7, 24, 23, 22, 4, 2, 1] [5, 4, 3, 2, 1] ⟨[(43, (iI 0)), (42, (iN n28)), (41, (sS A27 n28 c29)), (10, (sS none 0 0)), (37, (iN k)), (36, (iN n12)), (35, (sS (some q21) n12 c13)), (7, (.p 4 0)), (24, (iN r)), (23, (iN n_rs)), (22, (sS (some q5) n_rs c_rs)), (4, (.p 2 0)), (2, (.p 1 0)), (1, (.p 0 0))], [(5, (.lst z2 32 arr2)), (4, (.cells 111 [(tS x17), (.ls z2 5 acc2.length cap2)])), (3, (.lst z 111 arr)), (2, (.cells 78 [(.ls z 3 acc.length cap)])), (1, (.cells 78 [(sS none 0 0)]))], 6, [], [(0, bk2, (.cells 35 [(sS A_tk n_tk c_tk), (sS (some q14) n_nm c_nm), (sS (some q5) n_rs c_rs)]))]⟩ (by kernel_rfl) ?_
        refine WL_nil ?_
        refine WQ_code ?_
        refine WC_block ?_
        have hb3 := hb2 _ (List.mem_of_getElem? hx22)
        refine WK_off 9 rfl ?_
        refine WK_env [(43, (iI 0)), (42, (iN n28)), (41, (sS A27 n28 c29)), (10, (.ls true 6 0 0)), (37, (iN k)), (36, (iN n12)), (35, (sS (some q21) n12 c13)), (7, (.p 4 0)), (24, (iN r)), (23, (iN n_rs)), (22, (sS (some q5) n_rs c_rs)), (4, (.p 2 0)), (2, (.p 1 0)), (1, (.p 0 0))] (fun ρ => ⟨rfl, rfl, ⟨rfl, rfl, ⟨rfl, rfl, ⟨rfl, rfl, ⟨rfl, rfl, ⟨rfl, rfl, ⟨rfl, rfl, ⟨rfl, rfl, ⟨rfl, rfl, ⟨rfl, rfl, ⟨rfl, rfl, ⟨rfl, rfl, ⟨rfl, rfl, ⟨rfl, rfl, trivial⟩⟩⟩⟩⟩⟩⟩⟩⟩⟩⟩⟩⟩⟩) ?_
        refine WK_keep [43, 42, 41, 10, 37, 36, 35, 7, 24, 23, 22, 4, 2, 1] [6, 5, 4, 3, 2, 1] rfl rfl ?_
        refine WK_env [(43, (iN 0)), (42, (iN n28)), (41, (sS A27 n28 c29)), (10, (.ls true 6 (([] : List ByteArray).length) 0)), (37, (iN k)), (36, (iN n12)), (35, (sS (some q21) n12 c13)), (7, (.p 4 0)), (24, (iN r)), (23, (iN n_rs)), (22, (sS (some q5) n_rs c_rs)), (4, (.p 2 0)), (2, (.p 1 0)), (1, (.p 0 0))] (fun ρ => ⟨rfl, rfl, ⟨rfl, rfl, ⟨rfl, rfl, ⟨rfl, rfl, ⟨rfl, rfl, ⟨rfl, rfl, ⟨rfl, rfl, ⟨rfl, rfl, ⟨rfl, rfl, ⟨rfl, rfl, ⟨rfl, rfl, ⟨rfl, rfl, ⟨rfl, rfl, ⟨rfl, rfl, trivial⟩⟩⟩⟩⟩⟩⟩⟩⟩⟩⟩⟩⟩⟩) ?_
        refine WC_loop (ι := Nat × List ByteArray × Bool × Array Value × Nat) (fun (j, acc3, z3, arr3, cap3) G30 => Le G19 G30 ∧ (j ≤ n28 ∧ mapO (symB tk nm) (x24.take j) = some acc3 ∧ OwnL tStr G30 acc3 arr3 cap3 ∧ (z3 = true → acc3 = []))) (fun (j, acc3, z3, arr3, cap3) => ⟨[(43, (iN j)), (42, (iN n28)), (41, (sS A27 n28 c29)), (10, (.ls z3 6 acc3.length cap3)), (37, (iN k)), (36, (iN n12)), (35, (sS (some q21) n12 c13)), (7, (.p 4 0)), (24, (iN r)), (23, (iN n_rs)), (22, (sS (some q5) n_rs c_rs)), (4, (.p 2 0)), (2, (.p 1 0)), (1, (.p 0 0))], [(6, (.lst z3 9 arr3)), (5, (.lst z2 32 arr2)), (4, (.cells 111 [(tS x17), (.ls z2 5 acc2.length cap2)])), (3, (.lst z 111 arr)), (2, (.cells 78 [(.ls z 3 acc.length cap)])), (1, (.cells 78 [(sS none 0 0)]))], 7, [], [(0, bk2, (.cells 35 [(sS A_tk n_tk c_tk), (sS (some q14) n_nm c_nm), (sS (some q5) n_rs c_rs)]))]⟩) (fun (j, acc3, z3, arr3, cap3) => n28 - j) (0, ([] : List ByteArray), true, #[], 0) ⟨Le.refl _, ⟨Nat.zero_le _, rfl, OwnL.nil _ _, fun _ => rfl⟩⟩ rfl ?_
        rintro ⟨j, acc3, z3, arr3, cap3⟩ G30 ⟨hle, hF⟩
        show WC _ _ _ _ _ ⟨[(43, (iN j)), (42, (iN n28)), (41, (sS A27 n28 c29)), (10, (.ls z3 6 acc3.length cap3)), (37, (iN k)), (36, (iN n12)), (35, (sS (some q21) n12 c13)), (7, (.p 4 0)), (24, (iN r)), (23, (iN n_rs)), (22, (sS (some q5) n_rs c_rs)), (4, (.p 2 0)), (2, (.p 1 0)), (1, (.p 0 0))], [(6, (.lst z3 9 arr3)), (5, (.lst z2 32 arr2)), (4, (.cells 111 [(tS x17), (.ls z2 5 acc2.length cap2)])), (3, (.lst z 111 arr)), (2, (.cells 78 [(.ls z 3 acc.length cap)])), (1, (.cells 78 [(sS none 0 0)]))], 7, [], [(0, bk2, (.cells 35 [(sS A_tk n_tk c_tk), (sS (some q14) n_nm c_nm), (sS (some q5) n_rs c_rs)]))]⟩ _
        replace hc4 := Le.trans hc4 hle
        replace hc20 := Le.trans hc20 hle
        replace h_tk := h_tk.mono hle
        replace h_nm := h_nm.mono hle
        replace h_rs := h_rs.mono hle
        replace hs10 := hs10.mono hle
        replace hs26 := hs26.mono hle
        replace hz := hz.mono hle
        replace ho := ho.mono hle
        replace ho2 := ho2.mono hle
        have hc31 := hle
        obtain ⟨hj, hacc3, ho3, hz3⟩ := hF
        have hl3 := mapO_len hacc3
        have hl3' := List.length_take (i := j) (l := x24)
        refine WC_seq (WC_region ?_)
        refine WL_execS htb 1 [44, 43, 42, 41, 10, 37, 36, 35, 7, 24, 23, 22, 4, 2, 1] [6, 5, 4, 3, 2, 1] ⟨[(44, (bB (decide ((((j : Nat) : Int) : Int) < ((n28 : Nat) : Int))))), (43, (iN j)), (42, (iN n28)), (41, (sS A27 n28 c29)), (10, (.ls z3 6 acc3.length cap3)), (37, (iN k)), (36, (iN n12)), (35, (sS (some q21) n12 c13)), (7, (.p 4 0)), (24, (iN r)), (23, (iN n_rs)), (22, (sS (some q5) n_rs c_rs)), (4, (.p 2 0)), (2, (.p 1 0)), (1, (.p 0 0))], [(6, (.lst z3 9 arr3)), (5, (.lst z2 32 arr2)), (4, (.cells 111 [(tS x17), (.ls z2 5 acc2.length cap2)])), (3, (.lst z 111 arr)), (2, (.cells 78 [(.ls z 3 acc.length cap)])), (1, (.cells 78 [(sS none 0 0)]))], 7, [], [(0, bk2, (.cells 35 [(sS A_tk n_tk c_tk), (sS (some q14) n_nm c_nm), (sS (some q5) n_rs c_rs)]))]⟩ (by kernel_rfl) ?_
        refine WL_nil ?_
        refine WQ_code ?_
        refine WC_seq ?_
        refine WC_cond (b := (decide ((((j : Nat) : Int) : Int) < ((n28 : Nat) : Int)))) rfl (fun hc2 => ?_) (fun hc2 => ?_)
        · replace hc2 := of_decide_eq_true hc2
          refine WC_skip ?_
          refine WQ_code ?_
          refine WC_seq ?_
          refine WC_block ?_
          refine WC_seq (WC_region ?_)
          obtain ⟨q32, rfl⟩ := hs26.ptr (by omega)
          obtain ⟨x35, _, hx33, ⟨rfl, hn36⟩, at34⟩ := hs26.get j (by omega)
          have bdhn36 : -9223372036854775808 ≤ x35 ∧ x35 ≤ 9223372036854775807 := bd_of hn36
          replace at34 : At G30 (q32.add (j * 1)) [.int .i64 x35] := at34
          refine WL_op (WOp_idx htb q32 n28 ((j : Nat) : Int) 1 (by kernel_rfl) (by omega) (by omega) ?_)
          refine WL_op (WOp_ld htb (q32.add (j * 1)) false 1 [.int .i64 x35] (by kernel_rfl) at34 rfl (by decide) ?_)
          refine WL_execS htb 1 [12, 43, 42, 41, 10, 37, 36, 35, 7, 24, 23, 22, 4, 2, 1] [6, 5, 4, 3, 2, 1] ⟨[(12, (iI x35)), (43, (iN j)), (42, (iN n28)), (41, (sS (some q32) n28 c29)), (10, (.ls z3 6 acc3.length cap3)), (37, (iN k)), (36, (iN n12)), (35, (sS (some q21) n12 c13)), (7, (.p 4 0)), (24, (iN r)), (23, (iN n_rs)), (22, (sS (some q5) n_rs c_rs)), (4, (.p 2 0)), (2, (.p 1 0)), (1, (.p 0 0))], [(6, (.lst z3 9 arr3)), (5, (.lst z2 32 arr2)), (4, (.cells 111 [(tS x17), (.ls z2 5 acc2.length cap2)])), (3, (.lst z 111 arr)), (2, (.cells 78 [(.ls z 3 acc.length cap)])), (1, (.cells 78 [(sS none 0 0)]))], 7, [], [(0, bk2, (.cells 35 [(sS A_tk n_tk c_tk), (sS (some q14) n_nm c_nm), (sS (some q5) n_rs c_rs)]))]⟩ (by kernel_rfl) ?_
          refine WL_nil ?_
          refine WQ_code ?_
          refine WC_block ?_
          refine WC_seq (WC_region ?_)
          refine WL_execS htb 3 [51, 12, 43, 42, 41, 10, 37, 36, 35, 7, 24, 23, 22, 4, 2, 1] [6, 5, 4, 3, 2, 1] ⟨[(51, (bB (decide ((x35 : Int) ≥ 0)))), (12, (iI x35)), (43, (iN j)), (42, (iN n28)), (41, (sS (some q32) n28 c29)), (10, (.ls z3 6 acc3.length cap3)), (37, (iN k)), (36, (iN n12)), (35, (sS (some q21) n12 c13)), (7, (.p 4 0)), (24, (iN r)), (23, (iN n_rs)), (22, (sS (some q5) n_rs c_rs)), (4, (.p 2 0)), (2, (.p 1 0)), (1, (.p 0 0))], [(6, (.lst z3 9 arr3)), (5, (.lst z2 32 arr2)), (4, (.cells 111 [(tS x17), (.ls z2 5 acc2.length cap2)])), (3, (.lst z 111 arr)), (2, (.cells 78 [(.ls z 3 acc.length cap)])), (1, (.cells 78 [(sS none 0 0)]))], 7, [], [(0, bk2, (.cells 35 [(sS A_tk n_tk c_tk), (sS (some q14) n_nm c_nm), (sS (some q5) n_rs c_rs)]))]⟩ (by kernel_rfl) ?_
          refine WK_split 51 (decide ((x35 : Int) ≥ 0)) rfl (fun hg0 => ?_) (fun hg0 => ?_)
          · replace hg0 := of_decide_eq_true hg0
            refine WK_keep [51, 12, 43, 42, 41, 10, 37, 36, 35, 7, 24, 23, 22, 4, 2, 1] [6, 5, 4, 3, 2, 1] rfl rfl ?_
            refine WL_execS htb 7 [48, 12, 43, 42, 41, 10, 37, 36, 35, 7, 24, 23, 22, 4, 2, 1] [6, 5, 4, 3, 2, 1] ⟨[(48, (bB (decide ((x35 : Int) < ((n_tk : Nat) : Int))))), (12, (iI x35)), (43, (iN j)), (42, (iN n28)), (41, (sS (some q32) n28 c29)), (10, (.ls z3 6 acc3.length cap3)), (37, (iN k)), (36, (iN n12)), (35, (sS (some q21) n12 c13)), (7, (.p 4 0)), (24, (iN r)), (23, (iN n_rs)), (22, (sS (some q5) n_rs c_rs)), (4, (.p 2 0)), (2, (.p 1 0)), (1, (.p 0 0))], [(6, (.lst z3 9 arr3)), (5, (.lst z2 32 arr2)), (4, (.cells 111 [(tS x17), (.ls z2 5 acc2.length cap2)])), (3, (.lst z 111 arr)), (2, (.cells 78 [(.ls z 3 acc.length cap)])), (1, (.cells 78 [(sS none 0 0)]))], 7, [], [(0, bk2, (.cells 35 [(sS A_tk n_tk c_tk), (sS (some q14) n_nm c_nm), (sS (some q5) n_rs c_rs)]))]⟩ (by kernel_rfl) ?_
            refine WL_nil ?_
            refine WQ_code ?_
            refine WC_cond (b := (decide ((x35 : Int) < ((n_tk : Nat) : Int)))) rfl (fun he0 => ?_) (fun he0 => ?_)
            · replace he0 := of_decide_eq_true he0
              refine WC_region ?_
              refine WL_execS htb 4 [61, 60, 58, 43, 42, 41, 37, 36, 35, 7, 24, 23, 22, 4, 2, 1] [6, 5, 4, 3, 2, 1] ⟨[(61, (iI x35)), (60, (sS A_tk n_tk c_tk)), (58, (.ls z3 6 acc3.length cap3)), (43, (iN j)), (42, (iN n28)), (41, (sS (some q32) n28 c29)), (37, (iN k)), (36, (iN n12)), (35, (sS (some q21) n12 c13)), (7, (.p 4 0)), (24, (iN r)), (23, (iN n_rs)), (22, (sS (some q5) n_rs c_rs)), (4, (.p 2 0)), (2, (.p 1 0)), (1, (.p 0 0))], [(6, (.lst z3 9 arr3)), (5, (.lst z2 32 arr2)), (4, (.cells 111 [(tS x17), (.ls z2 5 acc2.length cap2)])), (3, (.lst z 111 arr)), (2, (.cells 78 [(.ls z 3 acc.length cap)])), (1, (.cells 78 [(sS none 0 0)]))], 7, [], [(0, bk2, (.cells 35 [(sS A_tk n_tk c_tk), (sS (some q14) n_nm c_nm), (sS (some q5) n_rs c_rs)]))]⟩ (by kernel_rfl) ?_
              obtain ⟨q37, rfl⟩ := h_tk.ptr (by omega)
              obtain ⟨x40, _, hx38, ⟨rfl, hn41⟩, at39⟩ := h_tk.get ((x35 : Int).toNat) (by omega)
              replace at39 : At G30 (q37.add (((x35 : Int).toNat) * 1)) [.string x40] := at39
              refine WL_op (WOp_idx htb q37 n_tk x35 1 (by kernel_rfl) (by omega) (by omega) ?_)
              refine WL_op (WOp_ld htb (q37.add (((x35 : Int).toNat) * 1)) false 1 [.string x40] (by kernel_rfl) at39 rfl (by decide) ?_)
              refine WL_execS htb 1 [64, 58, 43, 42, 41, 37, 36, 35, 7, 24, 23, 22, 4, 2, 1] [7, 6, 5, 4, 3, 2, 1] ⟨[(64, (.s 7 1 1)), (58, (.ls z3 6 acc3.length cap3)), (43, (iN j)), (42, (iN n28)), (41, (sS (some q32) n28 c29)), (37, (iN k)), (36, (iN n12)), (35, (sS (some q21) n12 c13)), (7, (.p 4 0)), (24, (iN r)), (23, (iN n_rs)), (22, (sS (some q5) n_rs c_rs)), (4, (.p 2 0)), (2, (.p 1 0)), (1, (.p 0 0))], [(7, (.cells 9 [(tS x40)])), (6, (.lst z3 9 arr3)), (5, (.lst z2 32 arr2)), (4, (.cells 111 [(tS x17), (.ls z2 5 acc2.length cap2)])), (3, (.lst z 111 arr)), (2, (.cells 78 [(.ls z 3 acc.length cap)])), (1, (.cells 78 [(sS none 0 0)]))], 8, [], [(0, bk2, (.cells 35 [(sS (some q37) n_tk c_tk), (sS (some q14) n_nm c_nm), (sS (some q5) n_rs c_rs)]))]⟩ (by kernel_rfl) ?_
              refine WK_freezeV 7 rfl rfl rfl rfl ?_
              intro bk43 G42 hle hbk43
              replace hc4 := Le.trans hc4 hle
              replace hc20 := Le.trans hc20 hle
              replace hc31 := Le.trans hc31 hle
              replace h_tk := h_tk.mono hle
              replace h_nm := h_nm.mono hle
              replace h_rs := h_rs.mono hle
              replace hs10 := hs10.mono hle
              replace hs26 := hs26.mono hle
              replace hz := hz.mono hle
              replace ho := ho.mono hle
              replace ho2 := ho2.mono hle
              replace ho3 := ho3.mono hle
              show WK _ _ ⟨[(64, (sS (some ⟨bk43, 0, none⟩) 1 1)), (58, (.ls z3 6 acc3.length cap3)), (43, (iN j)), (42, (iN n28)), (41, (sS (some q32) n28 c29)), (37, (iN k)), (36, (iN n12)), (35, (sS (some q21) n12 c13)), (7, (.p 4 0)), (24, (iN r)), (23, (iN n_rs)), (22, (sS (some q5) n_rs c_rs)), (4, (.p 2 0)), (2, (.p 1 0)), (1, (.p 0 0))], [(6, (.lst z3 9 arr3)), (5, (.lst z2 32 arr2)), (4, (.cells 111 [(tS x17), (.ls z2 5 acc2.length cap2)])), (3, (.lst z 111 arr)), (2, (.cells 78 [(.ls z 3 acc.length cap)])), (1, (.cells 78 [(sS none 0 0)]))], 8, [], [(0, bk2, (.cells 35 [(sS (some q37) n_tk c_tk), (sS (some q14) n_nm c_nm), (sS (some q5) n_rs c_rs)]))]⟩ _
              have hs44 : Sl tStr G42 (some ⟨bk43, 0, none⟩) 1 1 [x40] := Sl.lit (cs := [.string x40]) (RepsL.cons' (rep_str _ (x := x40) hn41) .nil) hbk43 rfl (by unfold big; omega)
              have lhs44 := hs44.len'
              refine WL_op (WOp_append htb z3 6 acc3.length cap3 (some ⟨bk43, 0, none⟩) 1 9 1 16 (by kernel_rfl) (by kernel_rfl) rfl rfl tStr (xs := acc3) (ys := [x40]) ho3 rfl hz3 hs44.row hs44.len rfl (by decide) (by first | omega | (simp only [List.length_append, List.length_nil, List.length_drop, List.length_take, List.length_cons]; omega)) (by unfold big; first | omega | (simp only [List.length_append, List.length_nil, List.length_drop, List.length_take, List.length_cons]; omega)) (fun z45 arr46 cap47 hz48 ho49 => ?_))
              show WL _ _ _ _ _ _ ⟨[(65, (.ls z45 8 ((acc3 ++ ([x40])).length) cap47)), (64, (sS (some ⟨bk43, 0, none⟩) 1 1)), (58, (.ls z3 6 acc3.length cap3)), (43, (iN j)), (42, (iN n28)), (41, (sS (some q32) n28 c29)), (37, (iN k)), (36, (iN n12)), (35, (sS (some q21) n12 c13)), (7, (.p 4 0)), (24, (iN r)), (23, (iN n_rs)), (22, (sS (some q5) n_rs c_rs)), (4, (.p 2 0)), (2, (.p 1 0)), (1, (.p 0 0))], [(8, (.lst z45 9 arr46)), (5, (.lst z2 32 arr2)), (4, (.cells 111 [(tS x17), (.ls z2 5 acc2.length cap2)])), (3, (.lst z 111 arr)), (2, (.cells 78 [(.ls z 3 acc.length cap)])), (1, (.cells 78 [(sS none 0 0)]))], 9, [], [(0, bk2, (.cells 35 [(sS (some q37) n_tk c_tk), (sS (some q14) n_nm c_nm), (sS (some q5) n_rs c_rs)]))]⟩ _
              refine WL_execS htb 1 [10, 43, 42, 41, 37, 36, 35, 7, 24, 23, 22, 4, 2, 1] [8, 5, 4, 3, 2, 1] ⟨[(10, (.ls z45 8 ((acc3 ++ ([x40])).length) cap47)), (43, (iN j)), (42, (iN n28)), (41, (sS (some q32) n28 c29)), (37, (iN k)), (36, (iN n12)), (35, (sS (some q21) n12 c13)), (7, (.p 4 0)), (24, (iN r)), (23, (iN n_rs)), (22, (sS (some q5) n_rs c_rs)), (4, (.p 2 0)), (2, (.p 1 0)), (1, (.p 0 0))], [(8, (.lst z45 9 arr46)), (5, (.lst z2 32 arr2)), (4, (.cells 111 [(tS x17), (.ls z2 5 acc2.length cap2)])), (3, (.lst z 111 arr)), (2, (.cells 78 [(.ls z 3 acc.length cap)])), (1, (.cells 78 [(sS none 0 0)]))], 9, [], [(0, bk2, (.cells 35 [(sS (some q37) n_tk c_tk), (sS (some q14) n_nm c_nm), (sS (some q5) n_rs c_rs)]))]⟩ (by kernel_rfl) ?_
              refine WL_nil ?_
              refine WQ_blk ?_
              refine WQ_blk ?_
              refine WQ_code ?_
              refine WC_region ?_
              refine WL_execS htb 2 [43, 10, 42, 41, 37, 36, 35, 7, 24, 23, 22, 4, 2, 1] [8, 5, 4, 3, 2, 1] ⟨[(43, (iI (IntKind.i64.wrap (((j : Nat) : Int) + 1)))), (10, (.ls z45 8 ((acc3 ++ ([x40])).length) cap47)), (42, (iN n28)), (41, (sS (some q32) n28 c29)), (37, (iN k)), (36, (iN n12)), (35, (sS (some q21) n12 c13)), (7, (.p 4 0)), (24, (iN r)), (23, (iN n_rs)), (22, (sS (some q5) n_rs c_rs)), (4, (.p 2 0)), (2, (.p 1 0)), (1, (.p 0 0))], [(8, (.lst z45 9 arr46)), (5, (.lst z2 32 arr2)), (4, (.cells 111 [(tS x17), (.ls z2 5 acc2.length cap2)])), (3, (.lst z 111 arr)), (2, (.cells 78 [(.ls z 3 acc.length cap)])), (1, (.cells 78 [(sS none 0 0)]))], 9, [], [(0, bk2, (.cells 35 [(sS (some q37) n_tk c_tk), (sS (some q14) n_nm c_nm), (sS (some q5) n_rs c_rs)]))]⟩ (by kernel_rfl) ?_
              refine WL_nil ?_
              refine WK_env [(43, (iN (j + 1))), (10, (.ls z45 8 ((acc3 ++ ([x40])).length) cap47)), (42, (iN n28)), (41, (sS (some q32) n28 c29)), (37, (iN k)), (36, (iN n12)), (35, (sS (some q21) n12 c13)), (7, (.p 4 0)), (24, (iN r)), (23, (iN n_rs)), (22, (sS (some q5) n_rs c_rs)), (4, (.p 2 0)), (2, (.p 1 0)), (1, (.p 0 0))] (fun ρ => ⟨rfl, (congrArg (Value.int .i64) (by rw [wrap_id (by omega)]; first | rfl | omega)), ⟨rfl, rfl, ⟨rfl, rfl, ⟨rfl, rfl, ⟨rfl, rfl, ⟨rfl, rfl, ⟨rfl, rfl, ⟨rfl, rfl, ⟨rfl, rfl, ⟨rfl, rfl, ⟨rfl, rfl, ⟨rfl, rfl, ⟨rfl, rfl, ⟨rfl, rfl, trivial⟩⟩⟩⟩⟩⟩⟩⟩⟩⟩⟩⟩⟩⟩) ?_
              refine WK_keep [43, 42, 41, 10, 37, 36, 35, 7, 24, 23, 22, 4, 2, 1] [8, 5, 4, 3, 2, 1] rfl rfl ?_
              exact WQ_nextR ((j + 1), (acc3 ++ ([x40])), z45, arr46, cap47) (by show n28 - (j + 1) < n28 - j; omega) ⟨hc31, ⟨by omega, by rw [take_succ' hx33]; exact mapO_snoc hacc3 (symB_tk (by omega) hx38), ho49, hz48⟩⟩ [(6, 8)] rfl rfl rfl rfl rfl rfl
            · replace he0 := of_decide_eq_false he0
              refine WC_seq (WC_region ?_)
              refine WL_execS htb 3 [69, 12, 43, 42, 41, 10, 37, 36, 35, 7, 24, 23, 22, 4, 2, 1] [6, 5, 4, 3, 2, 1] ⟨[(69, (bB (decide ((x35 : Int) < 0)))), (12, (iI x35)), (43, (iN j)), (42, (iN n28)), (41, (sS (some q32) n28 c29)), (10, (.ls z3 6 acc3.length cap3)), (37, (iN k)), (36, (iN n12)), (35, (sS (some q21) n12 c13)), (7, (.p 4 0)), (24, (iN r)), (23, (iN n_rs)), (22, (sS (some q5) n_rs c_rs)), (4, (.p 2 0)), (2, (.p 1 0)), (1, (.p 0 0))], [(6, (.lst z3 9 arr3)), (5, (.lst z2 32 arr2)), (4, (.cells 111 [(tS x17), (.ls z2 5 acc2.length cap2)])), (3, (.lst z 111 arr)), (2, (.cells 78 [(.ls z 3 acc.length cap)])), (1, (.cells 78 [(sS none 0 0)]))], 7, [], [(0, bk2, (.cells 35 [(sS A_tk n_tk c_tk), (sS (some q14) n_nm c_nm), (sS (some q5) n_rs c_rs)]))]⟩ (by kernel_rfl) ?_
              refine WK_split 69 (decide ((x35 : Int) < 0)) rfl (fun hg => ?_) (fun hg => ?_)
              · replace hg := of_decide_eq_true hg
                refine WK_keep [69, 12, 43, 42, 41, 10, 37, 36, 35, 7, 24, 23, 22, 4, 2, 1] [6, 5, 4, 3, 2, 1] rfl rfl ?_
                refine WL_execS htb 8 [66, 12, 43, 42, 41, 10, 37, 36, 35, 7, 24, 23, 22, 4, 2, 1] [6, 5, 4, 3, 2, 1] ⟨[(66, (bB (decide (((IntKind.i64.wrap ((-1) - x35)) : Int) < ((n_nm : Nat) : Int))))), (12, (iI x35)), (43, (iN j)), (42, (iN n28)), (41, (sS (some q32) n28 c29)), (10, (.ls z3 6 acc3.length cap3)), (37, (iN k)), (36, (iN n12)), (35, (sS (some q21) n12 c13)), (7, (.p 4 0)), (24, (iN r)), (23, (iN n_rs)), (22, (sS (some q5) n_rs c_rs)), (4, (.p 2 0)), (2, (.p 1 0)), (1, (.p 0 0))], [(6, (.lst z3 9 arr3)), (5, (.lst z2 32 arr2)), (4, (.cells 111 [(tS x17), (.ls z2 5 acc2.length cap2)])), (3, (.lst z 111 arr)), (2, (.cells 78 [(.ls z 3 acc.length cap)])), (1, (.cells 78 [(sS none 0 0)]))], 7, [], [(0, bk2, (.cells 35 [(sS A_tk n_tk c_tk), (sS (some q14) n_nm c_nm), (sS (some q5) n_rs c_rs)]))]⟩ (by kernel_rfl) ?_
                refine WL_nil ?_
                refine WQ_code ?_
                have hwk : IntKind.i64.wrap ((-1) - x35) = -1 - x35 := wrap_id (by omega)
                refine WC_cond (b := (decide (((IntKind.i64.wrap ((-1) - x35)) : Int) < ((n_nm : Nat) : Int)))) rfl (fun he => ?_) (fun he => ?_)
                · replace he := of_decide_eq_true he
                  rw [hwk] at he
                  refine WC_region ?_
                  refine WL_execS htb 5 [81, 79, 77, 43, 42, 41, 37, 36, 35, 7, 24, 23, 22, 4, 2, 1] [6, 5, 4, 3, 2, 1] ⟨[(81, (iI (IntKind.i64.wrap ((-1) - x35)))), (79, (sS (some q14) n_nm c_nm)), (77, (.ls z3 6 acc3.length cap3)), (43, (iN j)), (42, (iN n28)), (41, (sS (some q32) n28 c29)), (37, (iN k)), (36, (iN n12)), (35, (sS (some q21) n12 c13)), (7, (.p 4 0)), (24, (iN r)), (23, (iN n_rs)), (22, (sS (some q5) n_rs c_rs)), (4, (.p 2 0)), (2, (.p 1 0)), (1, (.p 0 0))], [(6, (.lst z3 9 arr3)), (5, (.lst z2 32 arr2)), (4, (.cells 111 [(tS x17), (.ls z2 5 acc2.length cap2)])), (3, (.lst z 111 arr)), (2, (.cells 78 [(.ls z 3 acc.length cap)])), (1, (.cells 78 [(sS none 0 0)]))], 7, [], [(0, bk2, (.cells 35 [(sS A_tk n_tk c_tk), (sS (some q14) n_nm c_nm), (sS (some q5) n_rs c_rs)]))]⟩ (by kernel_rfl) ?_
                  obtain ⟨x39, _, hx37, ⟨rfl, hn40⟩, at38⟩ := h_nm.get (((IntKind.i64.wrap ((-1) - x35)) : Int).toNat) (by omega)
                  replace at38 : At G30 (q14.add ((((IntKind.i64.wrap ((-1) - x35)) : Int).toNat) * 1)) [.string x39] := at38
                  refine WL_op (WOp_idx htb q14 n_nm (IntKind.i64.wrap ((-1) - x35)) 1 (by kernel_rfl) (by omega) (by omega) ?_)
                  refine WL_op (WOp_ld htb (q14.add ((((IntKind.i64.wrap ((-1) - x35)) : Int).toNat) * 1)) false 1 [.string x39] (by kernel_rfl) at38 rfl (by decide) ?_)
                  refine WL_execS htb 1 [84, 77, 43, 42, 41, 37, 36, 35, 7, 24, 23, 22, 4, 2, 1] [7, 6, 5, 4, 3, 2, 1] ⟨[(84, (.s 7 1 1)), (77, (.ls z3 6 acc3.length cap3)), (43, (iN j)), (42, (iN n28)), (41, (sS (some q32) n28 c29)), (37, (iN k)), (36, (iN n12)), (35, (sS (some q21) n12 c13)), (7, (.p 4 0)), (24, (iN r)), (23, (iN n_rs)), (22, (sS (some q5) n_rs c_rs)), (4, (.p 2 0)), (2, (.p 1 0)), (1, (.p 0 0))], [(7, (.cells 9 [(tS x39)])), (6, (.lst z3 9 arr3)), (5, (.lst z2 32 arr2)), (4, (.cells 111 [(tS x17), (.ls z2 5 acc2.length cap2)])), (3, (.lst z 111 arr)), (2, (.cells 78 [(.ls z 3 acc.length cap)])), (1, (.cells 78 [(sS none 0 0)]))], 8, [], [(0, bk2, (.cells 35 [(sS A_tk n_tk c_tk), (sS (some q14) n_nm c_nm), (sS (some q5) n_rs c_rs)]))]⟩ (by kernel_rfl) ?_
                  refine WK_freezeV 7 rfl rfl rfl rfl ?_
                  intro bk42 G41 hle hbk42
                  replace hc4 := Le.trans hc4 hle
                  replace hc20 := Le.trans hc20 hle
                  replace hc31 := Le.trans hc31 hle
                  replace h_tk := h_tk.mono hle
                  replace h_nm := h_nm.mono hle
                  replace h_rs := h_rs.mono hle
                  replace hs10 := hs10.mono hle
                  replace hs26 := hs26.mono hle
                  replace hz := hz.mono hle
                  replace ho := ho.mono hle
                  replace ho2 := ho2.mono hle
                  replace ho3 := ho3.mono hle
                  show WK _ _ ⟨[(84, (sS (some ⟨bk42, 0, none⟩) 1 1)), (77, (.ls z3 6 acc3.length cap3)), (43, (iN j)), (42, (iN n28)), (41, (sS (some q32) n28 c29)), (37, (iN k)), (36, (iN n12)), (35, (sS (some q21) n12 c13)), (7, (.p 4 0)), (24, (iN r)), (23, (iN n_rs)), (22, (sS (some q5) n_rs c_rs)), (4, (.p 2 0)), (2, (.p 1 0)), (1, (.p 0 0))], [(6, (.lst z3 9 arr3)), (5, (.lst z2 32 arr2)), (4, (.cells 111 [(tS x17), (.ls z2 5 acc2.length cap2)])), (3, (.lst z 111 arr)), (2, (.cells 78 [(.ls z 3 acc.length cap)])), (1, (.cells 78 [(sS none 0 0)]))], 8, [], [(0, bk2, (.cells 35 [(sS A_tk n_tk c_tk), (sS (some q14) n_nm c_nm), (sS (some q5) n_rs c_rs)]))]⟩ _
                  have hs43 : Sl tStr G41 (some ⟨bk42, 0, none⟩) 1 1 [x39] := Sl.lit (cs := [.string x39]) (RepsL.cons' (rep_str _ (x := x39) hn40) .nil) hbk42 rfl (by unfold big; omega)
                  have lhs43 := hs43.len'
                  refine WL_op (WOp_append htb z3 6 acc3.length cap3 (some ⟨bk42, 0, none⟩) 1 9 1 16 (by kernel_rfl) (by kernel_rfl) rfl rfl tStr (xs := acc3) (ys := [x39]) ho3 rfl hz3 hs43.row hs43.len rfl (by decide) (by first | omega | (simp only [List.length_append, List.length_nil, List.length_drop, List.length_take, List.length_cons]; omega)) (by unfold big; first | omega | (simp only [List.length_append, List.length_nil, List.length_drop, List.length_take, List.length_cons]; omega)) (fun z44 arr45 cap46 hz47 ho48 => ?_))
                  show WL _ _ _ _ _ _ ⟨[(85, (.ls z44 8 ((acc3 ++ ([x39])).length) cap46)), (84, (sS (some ⟨bk42, 0, none⟩) 1 1)), (77, (.ls z3 6 acc3.length cap3)), (43, (iN j)), (42, (iN n28)), (41, (sS (some q32) n28 c29)), (37, (iN k)), (36, (iN n12)), (35, (sS (some q21) n12 c13)), (7, (.p 4 0)), (24, (iN r)), (23, (iN n_rs)), (22, (sS (some q5) n_rs c_rs)), (4, (.p 2 0)), (2, (.p 1 0)), (1, (.p 0 0))], [(8, (.lst z44 9 arr45)), (5, (.lst z2 32 arr2)), (4, (.cells 111 [(tS x17), (.ls z2 5 acc2.length cap2)])), (3, (.lst z 111 arr)), (2, (.cells 78 [(.ls z 3 acc.length cap)])), (1, (.cells 78 [(sS none 0 0)]))], 9, [], [(0, bk2, (.cells 35 [(sS A_tk n_tk c_tk), (sS (some q14) n_nm c_nm), (sS (some q5) n_rs c_rs)]))]⟩ _
                  refine WL_execS htb 1 [10, 43, 42, 41, 37, 36, 35, 7, 24, 23, 22, 4, 2, 1] [8, 5, 4, 3, 2, 1] ⟨[(10, (.ls z44 8 ((acc3 ++ ([x39])).length) cap46)), (43, (iN j)), (42, (iN n28)), (41, (sS (some q32) n28 c29)), (37, (iN k)), (36, (iN n12)), (35, (sS (some q21) n12 c13)), (7, (.p 4 0)), (24, (iN r)), (23, (iN n_rs)), (22, (sS (some q5) n_rs c_rs)), (4, (.p 2 0)), (2, (.p 1 0)), (1, (.p 0 0))], [(8, (.lst z44 9 arr45)), (5, (.lst z2 32 arr2)), (4, (.cells 111 [(tS x17), (.ls z2 5 acc2.length cap2)])), (3, (.lst z 111 arr)), (2, (.cells 78 [(.ls z 3 acc.length cap)])), (1, (.cells 78 [(sS none 0 0)]))], 9, [], [(0, bk2, (.cells 35 [(sS A_tk n_tk c_tk), (sS (some q14) n_nm c_nm), (sS (some q5) n_rs c_rs)]))]⟩ (by kernel_rfl) ?_
                  refine WL_nil ?_
                  refine WQ_blk ?_
                  refine WQ_blk ?_
                  refine WQ_code ?_
                  refine WC_region ?_
                  refine WL_execS htb 2 [43, 10, 42, 41, 37, 36, 35, 7, 24, 23, 22, 4, 2, 1] [8, 5, 4, 3, 2, 1] ⟨[(43, (iI (IntKind.i64.wrap (((j : Nat) : Int) + 1)))), (10, (.ls z44 8 ((acc3 ++ ([x39])).length) cap46)), (42, (iN n28)), (41, (sS (some q32) n28 c29)), (37, (iN k)), (36, (iN n12)), (35, (sS (some q21) n12 c13)), (7, (.p 4 0)), (24, (iN r)), (23, (iN n_rs)), (22, (sS (some q5) n_rs c_rs)), (4, (.p 2 0)), (2, (.p 1 0)), (1, (.p 0 0))], [(8, (.lst z44 9 arr45)), (5, (.lst z2 32 arr2)), (4, (.cells 111 [(tS x17), (.ls z2 5 acc2.length cap2)])), (3, (.lst z 111 arr)), (2, (.cells 78 [(.ls z 3 acc.length cap)])), (1, (.cells 78 [(sS none 0 0)]))], 9, [], [(0, bk2, (.cells 35 [(sS A_tk n_tk c_tk), (sS (some q14) n_nm c_nm), (sS (some q5) n_rs c_rs)]))]⟩ (by kernel_rfl) ?_
                  refine WL_nil ?_
                  refine WK_env [(43, (iN (j + 1))), (10, (.ls z44 8 ((acc3 ++ ([x39])).length) cap46)), (42, (iN n28)), (41, (sS (some q32) n28 c29)), (37, (iN k)), (36, (iN n12)), (35, (sS (some q21) n12 c13)), (7, (.p 4 0)), (24, (iN r)), (23, (iN n_rs)), (22, (sS (some q5) n_rs c_rs)), (4, (.p 2 0)), (2, (.p 1 0)), (1, (.p 0 0))] (fun ρ => ⟨rfl, (congrArg (Value.int .i64) (by rw [wrap_id (by omega)]; first | rfl | omega)), ⟨rfl, rfl, ⟨rfl, rfl, ⟨rfl, rfl, ⟨rfl, rfl, ⟨rfl, rfl, ⟨rfl, rfl, ⟨rfl, rfl, ⟨rfl, rfl, ⟨rfl, rfl, ⟨rfl, rfl, ⟨rfl, rfl, ⟨rfl, rfl, ⟨rfl, rfl, trivial⟩⟩⟩⟩⟩⟩⟩⟩⟩⟩⟩⟩⟩⟩) ?_
                  refine WK_keep [43, 42, 41, 10, 37, 36, 35, 7, 24, 23, 22, 4, 2, 1] [8, 5, 4, 3, 2, 1] rfl rfl ?_
                  exact WQ_nextR ((j + 1), (acc3 ++ ([x39])), z44, arr45, cap46) (by show n28 - (j + 1) < n28 - j; omega) ⟨hc31, ⟨by omega, by rw [take_succ' hx33]; exact mapO_snoc hacc3 (symB_nm (by omega) (hwk ▸ hx37)), ho48, hz47⟩⟩ [(6, 8)] rfl rfl rfl rfl rfl rfl
                · replace he := of_decide_eq_false he
                  rw [hwk] at he
                  refine WC_seq (WC_region ?_)
                  refine WL_execS htb 3 [3, 2] [1] ⟨[(3, (iI 1)), (2, (.p 1 0))], [(1, (.cells 78 [(sS none 0 0)]))], 7, [], [(0, bk2, (.cells 35 [(sS A_tk n_tk c_tk), (sS (some q14) n_nm c_nm), (sS (some q5) n_rs c_rs)]))]⟩ (by kernel_rfl) ?_
                  refine WL_nil ?_
                  refine WQ_code ?_
                  refine WC_ret ?_
                  refine WQ_blk_ret ?_
                  refine WQ_blk_ret ?_
                  refine WQ_then_ret ?_
                  refine WQ_then_ret ?_
                  refine WQ_blk_ret ?_
                  refine WQ_then_ret ?_
                  refine WQ_blk_ret ?_
                  refine WQ_then_ret ?_
                  refine WQ_then_ret ?_
                  refine WQ_blk_ret ?_
                  refine WQ_then_ret ?_
                  refine WQ_blk_ret ?_
                  refine WQ_then_ret ?_
                  refine WQ_then_ret ?_
                  refine WQ_blk_ret ?_
                  refine WQ_then_ret ?_
                  exact WQ_done htb [(.agg [(sS none 0 0)]), (iI 1)] _ (.inl rfl) rfl (by kernel_rfl) (fun ρ w hW => ⟨[], _, _, _, 1, rfl, (Sl.none0 _ _), (by omega), (.inr ⟨back_bad hzip (mapO_none (List.mem_of_getElem? hx22) (mapO_none (List.mem_of_getElem? hx33) (symB_nonm (by omega) (by omega)))), rfl, rfl⟩)⟩)
              · replace hg := of_decide_eq_false hg
                refine WK_keep [69, 12, 43, 42, 41, 10, 37, 36, 35, 7, 24, 23, 22, 4, 2, 1] [6, 5, 4, 3, 2, 1] rfl rfl ?_
                refine WL_execS htb 8 [66, 12, 43, 42, 41, 10, 37, 36, 35, 7, 24, 23, 22, 4, 2, 1] [6, 5, 4, 3, 2, 1] ⟨[(66, (bB false)), (12, (iI x35)), (43, (iN j)), (42, (iN n28)), (41, (sS (some q32) n28 c29)), (10, (.ls z3 6 acc3.length cap3)), (37, (iN k)), (36, (iN n12)), (35, (sS (some q21) n12 c13)), (7, (.p 4 0)), (24, (iN r)), (23, (iN n_rs)), (22, (sS (some q5) n_rs c_rs)), (4, (.p 2 0)), (2, (.p 1 0)), (1, (.p 0 0))], [(6, (.lst z3 9 arr3)), (5, (.lst z2 32 arr2)), (4, (.cells 111 [(tS x17), (.ls z2 5 acc2.length cap2)])), (3, (.lst z 111 arr)), (2, (.cells 78 [(.ls z 3 acc.length cap)])), (1, (.cells 78 [(sS none 0 0)]))], 7, [], [(0, bk2, (.cells 35 [(sS A_tk n_tk c_tk), (sS (some q14) n_nm c_nm), (sS (some q5) n_rs c_rs)]))]⟩ (by kernel_rfl) ?_
                refine WL_nil ?_
                refine WQ_code ?_
                refine WC_cond (b := false) rfl (fun h => by cases h) (fun _ => ?_)
                refine WC_seq (WC_region ?_)
                refine WL_execS htb 3 [3, 2] [1] ⟨[(3, (iI 1)), (2, (.p 1 0))], [(1, (.cells 78 [(sS none 0 0)]))], 7, [], [(0, bk2, (.cells 35 [(sS A_tk n_tk c_tk), (sS (some q14) n_nm c_nm), (sS (some q5) n_rs c_rs)]))]⟩ (by kernel_rfl) ?_
                refine WL_nil ?_
                refine WQ_code ?_
                refine WC_ret ?_
                refine WQ_blk_ret ?_
                refine WQ_blk_ret ?_
                refine WQ_then_ret ?_
                refine WQ_then_ret ?_
                refine WQ_blk_ret ?_
                refine WQ_then_ret ?_
                refine WQ_blk_ret ?_
                refine WQ_then_ret ?_
                refine WQ_then_ret ?_
                refine WQ_blk_ret ?_
                refine WQ_then_ret ?_
                refine WQ_blk_ret ?_
                refine WQ_then_ret ?_
                refine WQ_then_ret ?_
                refine WQ_blk_ret ?_
                refine WQ_then_ret ?_
                exact WQ_done htb [(.agg [(sS none 0 0)]), (iI 1)] _ (.inl rfl) rfl (by kernel_rfl) (fun ρ w hW => ⟨[], _, _, _, 1, rfl, (Sl.none0 _ _), (by omega), (.inr ⟨back_bad hzip (mapO_none (List.mem_of_getElem? hx22) (mapO_none (List.mem_of_getElem? hx33) (symB_notk (by omega) (by omega)))), rfl, rfl⟩)⟩)
          · replace hg0 := of_decide_eq_false hg0
            refine WK_keep [51, 12, 43, 42, 41, 10, 37, 36, 35, 7, 24, 23, 22, 4, 2, 1] [6, 5, 4, 3, 2, 1] rfl rfl ?_
            refine WL_execS htb 7 [48, 12, 43, 42, 41, 10, 37, 36, 35, 7, 24, 23, 22, 4, 2, 1] [6, 5, 4, 3, 2, 1] ⟨[(48, (bB false)), (12, (iI x35)), (43, (iN j)), (42, (iN n28)), (41, (sS (some q32) n28 c29)), (10, (.ls z3 6 acc3.length cap3)), (37, (iN k)), (36, (iN n12)), (35, (sS (some q21) n12 c13)), (7, (.p 4 0)), (24, (iN r)), (23, (iN n_rs)), (22, (sS (some q5) n_rs c_rs)), (4, (.p 2 0)), (2, (.p 1 0)), (1, (.p 0 0))], [(6, (.lst z3 9 arr3)), (5, (.lst z2 32 arr2)), (4, (.cells 111 [(tS x17), (.ls z2 5 acc2.length cap2)])), (3, (.lst z 111 arr)), (2, (.cells 78 [(.ls z 3 acc.length cap)])), (1, (.cells 78 [(sS none 0 0)]))], 7, [], [(0, bk2, (.cells 35 [(sS A_tk n_tk c_tk), (sS (some q14) n_nm c_nm), (sS (some q5) n_rs c_rs)]))]⟩ (by kernel_rfl) ?_
            refine WL_nil ?_
            refine WQ_code ?_
            refine WC_cond (b := false) rfl (fun h => by cases h) (fun _ => ?_)
            refine WC_seq (WC_region ?_)
            refine WL_execS htb 3 [69, 12, 43, 42, 41, 10, 37, 36, 35, 7, 24, 23, 22, 4, 2, 1] [6, 5, 4, 3, 2, 1] ⟨[(69, (bB (decide ((x35 : Int) < 0)))), (12, (iI x35)), (43, (iN j)), (42, (iN n28)), (41, (sS (some q32) n28 c29)), (10, (.ls z3 6 acc3.length cap3)), (37, (iN k)), (36, (iN n12)), (35, (sS (some q21) n12 c13)), (7, (.p 4 0)), (24, (iN r)), (23, (iN n_rs)), (22, (sS (some q5) n_rs c_rs)), (4, (.p 2 0)), (2, (.p 1 0)), (1, (.p 0 0))], [(6, (.lst z3 9 arr3)), (5, (.lst z2 32 arr2)), (4, (.cells 111 [(tS x17), (.ls z2 5 acc2.length cap2)])), (3, (.lst z 111 arr)), (2, (.cells 78 [(.ls z 3 acc.length cap)])), (1, (.cells 78 [(sS none 0 0)]))], 7, [], [(0, bk2, (.cells 35 [(sS A_tk n_tk c_tk), (sS (some q14) n_nm c_nm), (sS (some q5) n_rs c_rs)]))]⟩ (by kernel_rfl) ?_
            refine WK_split 69 (decide ((x35 : Int) < 0)) rfl (fun hg => ?_) (fun hg => ?_)
            · replace hg := of_decide_eq_true hg
              refine WK_keep [69, 12, 43, 42, 41, 10, 37, 36, 35, 7, 24, 23, 22, 4, 2, 1] [6, 5, 4, 3, 2, 1] rfl rfl ?_
              refine WL_execS htb 8 [66, 12, 43, 42, 41, 10, 37, 36, 35, 7, 24, 23, 22, 4, 2, 1] [6, 5, 4, 3, 2, 1] ⟨[(66, (bB (decide (((IntKind.i64.wrap ((-1) - x35)) : Int) < ((n_nm : Nat) : Int))))), (12, (iI x35)), (43, (iN j)), (42, (iN n28)), (41, (sS (some q32) n28 c29)), (10, (.ls z3 6 acc3.length cap3)), (37, (iN k)), (36, (iN n12)), (35, (sS (some q21) n12 c13)), (7, (.p 4 0)), (24, (iN r)), (23, (iN n_rs)), (22, (sS (some q5) n_rs c_rs)), (4, (.p 2 0)), (2, (.p 1 0)), (1, (.p 0 0))], [(6, (.lst z3 9 arr3)), (5, (.lst z2 32 arr2)), (4, (.cells 111 [(tS x17), (.ls z2 5 acc2.length cap2)])), (3, (.lst z 111 arr)), (2, (.cells 78 [(.ls z 3 acc.length cap)])), (1, (.cells 78 [(sS none 0 0)]))], 7, [], [(0, bk2, (.cells 35 [(sS A_tk n_tk c_tk), (sS (some q14) n_nm c_nm), (sS (some q5) n_rs c_rs)]))]⟩ (by kernel_rfl) ?_
              refine WL_nil ?_
              refine WQ_code ?_
              have hwk : IntKind.i64.wrap ((-1) - x35) = -1 - x35 := wrap_id (by omega)
              refine WC_cond (b := (decide (((IntKind.i64.wrap ((-1) - x35)) : Int) < ((n_nm : Nat) : Int)))) rfl (fun he => ?_) (fun he => ?_)
              · replace he := of_decide_eq_true he
                rw [hwk] at he
                refine WC_region ?_
                refine WL_execS htb 5 [81, 79, 77, 43, 42, 41, 37, 36, 35, 7, 24, 23, 22, 4, 2, 1] [6, 5, 4, 3, 2, 1] ⟨[(81, (iI (IntKind.i64.wrap ((-1) - x35)))), (79, (sS (some q14) n_nm c_nm)), (77, (.ls z3 6 acc3.length cap3)), (43, (iN j)), (42, (iN n28)), (41, (sS (some q32) n28 c29)), (37, (iN k)), (36, (iN n12)), (35, (sS (some q21) n12 c13)), (7, (.p 4 0)), (24, (iN r)), (23, (iN n_rs)), (22, (sS (some q5) n_rs c_rs)), (4, (.p 2 0)), (2, (.p 1 0)), (1, (.p 0 0))], [(6, (.lst z3 9 arr3)), (5, (.lst z2 32 arr2)), (4, (.cells 111 [(tS x17), (.ls z2 5 acc2.length cap2)])), (3, (.lst z 111 arr)), (2, (.cells 78 [(.ls z 3 acc.length cap)])), (1, (.cells 78 [(sS none 0 0)]))], 7, [], [(0, bk2, (.cells 35 [(sS A_tk n_tk c_tk), (sS (some q14) n_nm c_nm), (sS (some q5) n_rs c_rs)]))]⟩ (by kernel_rfl) ?_
                obtain ⟨x39, _, hx37, ⟨rfl, hn40⟩, at38⟩ := h_nm.get (((IntKind.i64.wrap ((-1) - x35)) : Int).toNat) (by omega)
                replace at38 : At G30 (q14.add ((((IntKind.i64.wrap ((-1) - x35)) : Int).toNat) * 1)) [.string x39] := at38
                refine WL_op (WOp_idx htb q14 n_nm (IntKind.i64.wrap ((-1) - x35)) 1 (by kernel_rfl) (by omega) (by omega) ?_)
                refine WL_op (WOp_ld htb (q14.add ((((IntKind.i64.wrap ((-1) - x35)) : Int).toNat) * 1)) false 1 [.string x39] (by kernel_rfl) at38 rfl (by decide) ?_)
                refine WL_execS htb 1 [84, 77, 43, 42, 41, 37, 36, 35, 7, 24, 23, 22, 4, 2, 1] [7, 6, 5, 4, 3, 2, 1] ⟨[(84, (.s 7 1 1)), (77, (.ls z3 6 acc3.length cap3)), (43, (iN j)), (42, (iN n28)), (41, (sS (some q32) n28 c29)), (37, (iN k)), (36, (iN n12)), (35, (sS (some q21) n12 c13)), (7, (.p 4 0)), (24, (iN r)), (23, (iN n_rs)), (22, (sS (some q5) n_rs c_rs)), (4, (.p 2 0)), (2, (.p 1 0)), (1, (.p 0 0))], [(7, (.cells 9 [(tS x39)])), (6, (.lst z3 9 arr3)), (5, (.lst z2 32 arr2)), (4, (.cells 111 [(tS x17), (.ls z2 5 acc2.length cap2)])), (3, (.lst z 111 arr)), (2, (.cells 78 [(.ls z 3 acc.length cap)])), (1, (.cells 78 [(sS none 0 0)]))], 8, [], [(0, bk2, (.cells 35 [(sS A_tk n_tk c_tk), (sS (some q14) n_nm c_nm), (sS (some q5) n_rs c_rs)]))]⟩ (by kernel_rfl) ?_
                refine WK_freezeV 7 rfl rfl rfl rfl ?_
                intro bk42 G41 hle hbk42
                replace hc4 := Le.trans hc4 hle
                replace hc20 := Le.trans hc20 hle
                replace hc31 := Le.trans hc31 hle
                replace h_tk := h_tk.mono hle
                replace h_nm := h_nm.mono hle
                replace h_rs := h_rs.mono hle
                replace hs10 := hs10.mono hle
                replace hs26 := hs26.mono hle
                replace hz := hz.mono hle
                replace ho := ho.mono hle
                replace ho2 := ho2.mono hle
                replace ho3 := ho3.mono hle
                show WK _ _ ⟨[(84, (sS (some ⟨bk42, 0, none⟩) 1 1)), (77, (.ls z3 6 acc3.length cap3)), (43, (iN j)), (42, (iN n28)), (41, (sS (some q32) n28 c29)), (37, (iN k)), (36, (iN n12)), (35, (sS (some q21) n12 c13)), (7, (.p 4 0)), (24, (iN r)), (23, (iN n_rs)), (22, (sS (some q5) n_rs c_rs)), (4, (.p 2 0)), (2, (.p 1 0)), (1, (.p 0 0))], [(6, (.lst z3 9 arr3)), (5, (.lst z2 32 arr2)), (4, (.cells 111 [(tS x17), (.ls z2 5 acc2.length cap2)])), (3, (.lst z 111 arr)), (2, (.cells 78 [(.ls z 3 acc.length cap)])), (1, (.cells 78 [(sS none 0 0)]))], 8, [], [(0, bk2, (.cells 35 [(sS A_tk n_tk c_tk), (sS (some q14) n_nm c_nm), (sS (some q5) n_rs c_rs)]))]⟩ _
                have hs43 : Sl tStr G41 (some ⟨bk42, 0, none⟩) 1 1 [x39] := Sl.lit (cs := [.string x39]) (RepsL.cons' (rep_str _ (x := x39) hn40) .nil) hbk42 rfl (by unfold big; omega)
                have lhs43 := hs43.len'
                refine WL_op (WOp_append htb z3 6 acc3.length cap3 (some ⟨bk42, 0, none⟩) 1 9 1 16 (by kernel_rfl) (by kernel_rfl) rfl rfl tStr (xs := acc3) (ys := [x39]) ho3 rfl hz3 hs43.row hs43.len rfl (by decide) (by first | omega | (simp only [List.length_append, List.length_nil, List.length_drop, List.length_take, List.length_cons]; omega)) (by unfold big; first | omega | (simp only [List.length_append, List.length_nil, List.length_drop, List.length_take, List.length_cons]; omega)) (fun z44 arr45 cap46 hz47 ho48 => ?_))
                show WL _ _ _ _ _ _ ⟨[(85, (.ls z44 8 ((acc3 ++ ([x39])).length) cap46)), (84, (sS (some ⟨bk42, 0, none⟩) 1 1)), (77, (.ls z3 6 acc3.length cap3)), (43, (iN j)), (42, (iN n28)), (41, (sS (some q32) n28 c29)), (37, (iN k)), (36, (iN n12)), (35, (sS (some q21) n12 c13)), (7, (.p 4 0)), (24, (iN r)), (23, (iN n_rs)), (22, (sS (some q5) n_rs c_rs)), (4, (.p 2 0)), (2, (.p 1 0)), (1, (.p 0 0))], [(8, (.lst z44 9 arr45)), (5, (.lst z2 32 arr2)), (4, (.cells 111 [(tS x17), (.ls z2 5 acc2.length cap2)])), (3, (.lst z 111 arr)), (2, (.cells 78 [(.ls z 3 acc.length cap)])), (1, (.cells 78 [(sS none 0 0)]))], 9, [], [(0, bk2, (.cells 35 [(sS A_tk n_tk c_tk), (sS (some q14) n_nm c_nm), (sS (some q5) n_rs c_rs)]))]⟩ _
                refine WL_execS htb 1 [10, 43, 42, 41, 37, 36, 35, 7, 24, 23, 22, 4, 2, 1] [8, 5, 4, 3, 2, 1] ⟨[(10, (.ls z44 8 ((acc3 ++ ([x39])).length) cap46)), (43, (iN j)), (42, (iN n28)), (41, (sS (some q32) n28 c29)), (37, (iN k)), (36, (iN n12)), (35, (sS (some q21) n12 c13)), (7, (.p 4 0)), (24, (iN r)), (23, (iN n_rs)), (22, (sS (some q5) n_rs c_rs)), (4, (.p 2 0)), (2, (.p 1 0)), (1, (.p 0 0))], [(8, (.lst z44 9 arr45)), (5, (.lst z2 32 arr2)), (4, (.cells 111 [(tS x17), (.ls z2 5 acc2.length cap2)])), (3, (.lst z 111 arr)), (2, (.cells 78 [(.ls z 3 acc.length cap)])), (1, (.cells 78 [(sS none 0 0)]))], 9, [], [(0, bk2, (.cells 35 [(sS A_tk n_tk c_tk), (sS (some q14) n_nm c_nm), (sS (some q5) n_rs c_rs)]))]⟩ (by kernel_rfl) ?_
                refine WL_nil ?_
                refine WQ_blk ?_
                refine WQ_blk ?_
                refine WQ_code ?_
                refine WC_region ?_
                refine WL_execS htb 2 [43, 10, 42, 41, 37, 36, 35, 7, 24, 23, 22, 4, 2, 1] [8, 5, 4, 3, 2, 1] ⟨[(43, (iI (IntKind.i64.wrap (((j : Nat) : Int) + 1)))), (10, (.ls z44 8 ((acc3 ++ ([x39])).length) cap46)), (42, (iN n28)), (41, (sS (some q32) n28 c29)), (37, (iN k)), (36, (iN n12)), (35, (sS (some q21) n12 c13)), (7, (.p 4 0)), (24, (iN r)), (23, (iN n_rs)), (22, (sS (some q5) n_rs c_rs)), (4, (.p 2 0)), (2, (.p 1 0)), (1, (.p 0 0))], [(8, (.lst z44 9 arr45)), (5, (.lst z2 32 arr2)), (4, (.cells 111 [(tS x17), (.ls z2 5 acc2.length cap2)])), (3, (.lst z 111 arr)), (2, (.cells 78 [(.ls z 3 acc.length cap)])), (1, (.cells 78 [(sS none 0 0)]))], 9, [], [(0, bk2, (.cells 35 [(sS A_tk n_tk c_tk), (sS (some q14) n_nm c_nm), (sS (some q5) n_rs c_rs)]))]⟩ (by kernel_rfl) ?_
                refine WL_nil ?_
                refine WK_env [(43, (iN (j + 1))), (10, (.ls z44 8 ((acc3 ++ ([x39])).length) cap46)), (42, (iN n28)), (41, (sS (some q32) n28 c29)), (37, (iN k)), (36, (iN n12)), (35, (sS (some q21) n12 c13)), (7, (.p 4 0)), (24, (iN r)), (23, (iN n_rs)), (22, (sS (some q5) n_rs c_rs)), (4, (.p 2 0)), (2, (.p 1 0)), (1, (.p 0 0))] (fun ρ => ⟨rfl, (congrArg (Value.int .i64) (by rw [wrap_id (by omega)]; first | rfl | omega)), ⟨rfl, rfl, ⟨rfl, rfl, ⟨rfl, rfl, ⟨rfl, rfl, ⟨rfl, rfl, ⟨rfl, rfl, ⟨rfl, rfl, ⟨rfl, rfl, ⟨rfl, rfl, ⟨rfl, rfl, ⟨rfl, rfl, ⟨rfl, rfl, ⟨rfl, rfl, trivial⟩⟩⟩⟩⟩⟩⟩⟩⟩⟩⟩⟩⟩⟩) ?_
                refine WK_keep [43, 42, 41, 10, 37, 36, 35, 7, 24, 23, 22, 4, 2, 1] [8, 5, 4, 3, 2, 1] rfl rfl ?_
                exact WQ_nextR ((j + 1), (acc3 ++ ([x39])), z44, arr45, cap46) (by show n28 - (j + 1) < n28 - j; omega) ⟨hc31, ⟨by omega, by rw [take_succ' hx33]; exact mapO_snoc hacc3 (symB_nm (by omega) (hwk ▸ hx37)), ho48, hz47⟩⟩ [(6, 8)] rfl rfl rfl rfl rfl rfl
              · replace he := of_decide_eq_false he
                rw [hwk] at he
                refine WC_seq (WC_region ?_)
                refine WL_execS htb 3 [3, 2] [1] ⟨[(3, (iI 1)), (2, (.p 1 0))], [(1, (.cells 78 [(sS none 0 0)]))], 7, [], [(0, bk2, (.cells 35 [(sS A_tk n_tk c_tk), (sS (some q14) n_nm c_nm), (sS (some q5) n_rs c_rs)]))]⟩ (by kernel_rfl) ?_
                refine WL_nil ?_
                refine WQ_code ?_
                refine WC_ret ?_
                refine WQ_blk_ret ?_
                refine WQ_blk_ret ?_
                refine WQ_then_ret ?_
                refine WQ_then_ret ?_
                refine WQ_blk_ret ?_
                refine WQ_then_ret ?_
                refine WQ_blk_ret ?_
                refine WQ_then_ret ?_
                refine WQ_then_ret ?_
                refine WQ_blk_ret ?_
                refine WQ_then_ret ?_
                refine WQ_blk_ret ?_
                refine WQ_then_ret ?_
                refine WQ_then_ret ?_
                refine WQ_blk_ret ?_
                refine WQ_then_ret ?_
                exact WQ_done htb [(.agg [(sS none 0 0)]), (iI 1)] _ (.inl rfl) rfl (by kernel_rfl) (fun ρ w hW => ⟨[], _, _, _, 1, rfl, (Sl.none0 _ _), (by omega), (.inr ⟨back_bad hzip (mapO_none (List.mem_of_getElem? hx22) (mapO_none (List.mem_of_getElem? hx33) (symB_nonm (by omega) (by omega)))), rfl, rfl⟩)⟩)
            · replace hg := of_decide_eq_false hg
              refine WK_keep [69, 12, 43, 42, 41, 10, 37, 36, 35, 7, 24, 23, 22, 4, 2, 1] [6, 5, 4, 3, 2, 1] rfl rfl ?_
              refine WL_execS htb 8 [66, 12, 43, 42, 41, 10, 37, 36, 35, 7, 24, 23, 22, 4, 2, 1] [6, 5, 4, 3, 2, 1] ⟨[(66, (bB false)), (12, (iI x35)), (43, (iN j)), (42, (iN n28)), (41, (sS (some q32) n28 c29)), (10, (.ls z3 6 acc3.length cap3)), (37, (iN k)), (36, (iN n12)), (35, (sS (some q21) n12 c13)), (7, (.p 4 0)), (24, (iN r)), (23, (iN n_rs)), (22, (sS (some q5) n_rs c_rs)), (4, (.p 2 0)), (2, (.p 1 0)), (1, (.p 0 0))], [(6, (.lst z3 9 arr3)), (5, (.lst z2 32 arr2)), (4, (.cells 111 [(tS x17), (.ls z2 5 acc2.length cap2)])), (3, (.lst z 111 arr)), (2, (.cells 78 [(.ls z 3 acc.length cap)])), (1, (.cells 78 [(sS none 0 0)]))], 7, [], [(0, bk2, (.cells 35 [(sS A_tk n_tk c_tk), (sS (some q14) n_nm c_nm), (sS (some q5) n_rs c_rs)]))]⟩ (by kernel_rfl) ?_
              refine WL_nil ?_
              refine WQ_code ?_
              refine WC_cond (b := false) rfl (fun h => by cases h) (fun _ => ?_)
              refine WC_seq (WC_region ?_)
              refine WL_execS htb 3 [3, 2] [1] ⟨[(3, (iI 1)), (2, (.p 1 0))], [(1, (.cells 78 [(sS none 0 0)]))], 7, [], [(0, bk2, (.cells 35 [(sS A_tk n_tk c_tk), (sS (some q14) n_nm c_nm), (sS (some q5) n_rs c_rs)]))]⟩ (by kernel_rfl) ?_
              refine WL_nil ?_
              refine WQ_code ?_
              refine WC_ret ?_
              refine WQ_blk_ret ?_
              refine WQ_blk_ret ?_
              refine WQ_then_ret ?_
              refine WQ_then_ret ?_
              refine WQ_blk_ret ?_
              refine WQ_then_ret ?_
              refine WQ_blk_ret ?_
              refine WQ_then_ret ?_
              refine WQ_then_ret ?_
              refine WQ_blk_ret ?_
              refine WQ_then_ret ?_
              refine WQ_blk_ret ?_
              refine WQ_then_ret ?_
              refine WQ_then_ret ?_
              refine WQ_blk_ret ?_
              refine WQ_then_ret ?_
              exact WQ_done htb [(.agg [(sS none 0 0)]), (iI 1)] _ (.inl rfl) rfl (by kernel_rfl) (fun ρ w hW => ⟨[], _, _, _, 1, rfl, (Sl.none0 _ _), (by omega), (.inr ⟨back_bad hzip (mapO_none (List.mem_of_getElem? hx22) (mapO_none (List.mem_of_getElem? hx33) (symB_notk (by omega) (by omega)))), rfl, rfl⟩)⟩)
        · replace hc2 := of_decide_eq_false hc2
          refine WC_exit ?_
          refine WQ_then_exit ?_
          refine WQ_then_exit ?_
          refine WQ_hit ?_
          refine WQ_code ?_
          refine WC_region ?_
          refine WL_execS htb 4 [90, 88, 37, 36, 35, 7, 24, 23, 22, 4, 2, 1] [7, 6, 5, 4, 3, 2, 1] ⟨[(90, (.s 7 1 1)), (88, (.ls z2 5 acc2.length cap2)), (37, (iN k)), (36, (iN n12)), (35, (sS (some q21) n12 c13)), (7, (.p 4 0)), (24, (iN r)), (23, (iN n_rs)), (22, (sS (some q5) n_rs c_rs)), (4, (.p 2 0)), (2, (.p 1 0)), (1, (.p 0 0))], [(7, (.cells 32 [(.ls z3 6 acc3.length cap3)])), (6, (.lst z3 9 arr3)), (5, (.lst z2 32 arr2)), (4, (.cells 111 [(tS x17), (.ls z2 5 acc2.length cap2)])), (3, (.lst z 111 arr)), (2, (.cells 78 [(.ls z 3 acc.length cap)])), (1, (.cells 78 [(sS none 0 0)]))], 8, [], [(0, bk2, (.cells 35 [(sS A_tk n_tk c_tk), (sS (some q14) n_nm c_nm), (sS (some q5) n_rs c_rs)]))]⟩ (by kernel_rfl) ?_
          refine WK_freezeL 6 rfl rfl ?_
          intro bk33 G32 hle hbk33
          replace hc4 := Le.trans hc4 hle
          replace hc20 := Le.trans hc20 hle
          replace hc31 := Le.trans hc31 hle
          replace h_tk := h_tk.mono hle
          replace h_nm := h_nm.mono hle
          replace h_rs := h_rs.mono hle
          replace hs10 := hs10.mono hle
          replace hz := hz.mono hle
          replace ho := ho.mono hle
          replace ho2 := ho2.mono hle
          obtain ⟨A35, n36, c37, e38, hs34⟩ := OwnL.sl (n := acc3.length) ho3 hle hz3 hbk33 rfl
          refine WK_env [(90, (.s 7 1 1)), (88, (.ls z2 5 acc2.length cap2)), (37, (iN k)), (36, (iN n12)), (35, (sS (some q21) n12 c13)), (7, (.p 4 0)), (24, (iN r)), (23, (iN n_rs)), (22, (sS (some q5) n_rs c_rs)), (4, (.p 2 0)), (2, (.p 1 0)), (1, (.p 0 0))] (fun ρ => ⟨rfl, rfl, ⟨rfl, rfl, ⟨rfl, rfl, ⟨rfl, rfl, ⟨rfl, rfl, ⟨rfl, rfl, ⟨rfl, rfl, ⟨rfl, rfl, ⟨rfl, rfl, ⟨rfl, rfl, ⟨rfl, rfl, ⟨rfl, rfl, trivial⟩⟩⟩⟩⟩⟩⟩⟩⟩⟩⟩⟩) ?_
          refine WK_own [(7, (.cells 32 [(sS A35 n36 c37)])), (5, (.lst z2 32 arr2)), (4, (.cells 111 [(tS x17), (.ls z2 5 acc2.length cap2)])), (3, (.lst z 111 arr)), (2, (.cells 78 [(.ls z 3 acc.length cap)])), (1, (.cells 78 [(sS none 0 0)]))] (fun ρ => ⟨rfl, rfl, (by show SV.denL ρ [(.v (nilOr z3 (.slice (some ⟨bk33, 0, none⟩) acc3.length cap3)))] = SV.denL ρ [(sS A35 n36 c37)]; simp only [SV.den, SV.denL, e38]), ⟨rfl, rfl, ⟨rfl, rfl, rfl, ⟨rfl, rfl, ⟨rfl, rfl, rfl, ⟨rfl, rfl, rfl, trivial⟩⟩⟩⟩⟩⟩) ?_
          have lhs34 := hs34.len'
          refine WK_freezeV 7 rfl rfl rfl rfl ?_
          intro bk40 G39 hle hbk40
          replace hc4 := Le.trans hc4 hle
          replace hc20 := Le.trans hc20 hle
          replace hc31 := Le.trans hc31 hle
          replace h_tk := h_tk.mono hle
          replace h_nm := h_nm.mono hle
          replace h_rs := h_rs.mono hle
          replace hs10 := hs10.mono hle
          replace hs34 := hs34.mono hle
          replace hz := hz.mono hle
          replace ho := ho.mono hle
          replace ho2 := ho2.mono hle
          show WK _ _ ⟨[(90, (sS (some ⟨bk40, 0, none⟩) 1 1)), (88, (.ls z2 5 acc2.length cap2)), (37, (iN k)), (36, (iN n12)), (35, (sS (some q21) n12 c13)), (7, (.p 4 0)), (24, (iN r)), (23, (iN n_rs)), (22, (sS (some q5) n_rs c_rs)), (4, (.p 2 0)), (2, (.p 1 0)), (1, (.p 0 0))], [(5, (.lst z2 32 arr2)), (4, (.cells 111 [(tS x17), (.ls z2 5 acc2.length cap2)])), (3, (.lst z 111 arr)), (2, (.cells 78 [(.ls z 3 acc.length cap)])), (1, (.cells 78 [(sS none 0 0)]))], 8, [], [(0, bk2, (.cells 35 [(sS A_tk n_tk c_tk), (sS (some q14) n_nm c_nm), (sS (some q5) n_rs c_rs)]))]⟩ _
          have hs41 : Sl (tSlice tStr) G39 (some ⟨bk40, 0, none⟩) 1 1 [acc3] := Sl.lit (cs := [.slice A35 n36 c37]) (RepsL.cons' hs34.reps .nil) hbk40 rfl (by unfold big; omega)
          have lhs41 := hs41.len'
          refine WL_op (WOp_append htb z2 5 acc2.length cap2 (some ⟨bk40, 0, none⟩) 1 32 1 24 (by kernel_rfl) (by kernel_rfl) rfl rfl (tSlice tStr) (xs := acc2) (ys := [acc3]) ho2 rfl hz2 hs41.row hs41.len rfl (by decide) (by first | omega | (simp only [List.length_append, List.length_nil, List.length_drop, List.length_take, List.length_cons]; omega)) (by unfold big; first | omega | (simp only [List.length_append, List.length_nil, List.length_drop, List.length_take, List.length_cons]; omega)) (fun z42 arr43 cap44 hz45 ho46 => ?_))
          show WL _ _ _ _ _ _ ⟨[(91, (.ls z42 8 ((acc2 ++ ([acc3])).length) cap44)), (90, (sS (some ⟨bk40, 0, none⟩) 1 1)), (88, (.ls z2 5 acc2.length cap2)), (37, (iN k)), (36, (iN n12)), (35, (sS (some q21) n12 c13)), (7, (.p 4 0)), (24, (iN r)), (23, (iN n_rs)), (22, (sS (some q5) n_rs c_rs)), (4, (.p 2 0)), (2, (.p 1 0)), (1, (.p 0 0))], [(8, (.lst z42 32 arr43)), (4, (.cells 111 [(tS x17), (.ls z2 5 acc2.length cap2)])), (3, (.lst z 111 arr)), (2, (.cells 78 [(.ls z 3 acc.length cap)])), (1, (.cells 78 [(sS none 0 0)]))], 9, [], [(0, bk2, (.cells 35 [(sS A_tk n_tk c_tk), (sS (some q14) n_nm c_nm), (sS (some q5) n_rs c_rs)]))]⟩ _
          refine WL_execS htb 2 [37, 36, 35, 7, 24, 23, 22, 4, 2, 1] [8, 4, 3, 2, 1] ⟨[(37, (iN k)), (36, (iN n12)), (35, (sS (some q21) n12 c13)), (7, (.p 4 0)), (24, (iN r)), (23, (iN n_rs)), (22, (sS (some q5) n_rs c_rs)), (4, (.p 2 0)), (2, (.p 1 0)), (1, (.p 0 0))], [(8, (.lst z42 32 arr43)), (4, (.cells 111 [(tS x17), (.ls z42 8 ((acc2 ++ ([acc3])).length) cap44)])), (3, (.lst z 111 arr)), (2, (.cells 78 [(.ls z 3 acc.length cap)])), (1, (.cells 78 [(sS none 0 0)]))], 9, [], [(0, bk2, (.cells 35 [(sS A_tk n_tk c_tk), (sS (some q14) n_nm c_nm), (sS (some q5) n_rs c_rs)]))]⟩ (by kernel_rfl) ?_
          refine WL_nil ?_
          refine WQ_blk ?_
          refine WQ_code ?_
          refine WC_region ?_
          refine WL_execS htb 2 [37, 36, 35, 7, 24, 23, 22, 4, 2, 1] [8, 4, 3, 2, 1] ⟨[(37, (iI (IntKind.i64.wrap (((k : Nat) : Int) + 1)))), (36, (iN n12)), (35, (sS (some q21) n12 c13)), (7, (.p 4 0)), (24, (iN r)), (23, (iN n_rs)), (22, (sS (some q5) n_rs c_rs)), (4, (.p 2 0)), (2, (.p 1 0)), (1, (.p 0 0))], [(8, (.lst z42 32 arr43)), (4, (.cells 111 [(tS x17), (.ls z42 8 ((acc2 ++ ([acc3])).length) cap44)])), (3, (.lst z 111 arr)), (2, (.cells 78 [(.ls z 3 acc.length cap)])), (1, (.cells 78 [(sS none 0 0)]))], 9, [], [(0, bk2, (.cells 35 [(sS A_tk n_tk c_tk), (sS (some q14) n_nm c_nm), (sS (some q5) n_rs c_rs)]))]⟩ (by kernel_rfl) ?_
          refine WL_nil ?_
          have hta : x24.take j = x24 := List.take_of_length_le (by omega)
          rw [hta] at hacc3
          refine WK_env [(37, (iN (k + 1))), (36, (iN n12)), (35, (sS (some q21) n12 c13)), (7, (.p 4 0)), (24, (iN r)), (23, (iN n_rs)), (22, (sS (some q5) n_rs c_rs)), (4, (.p 2 0)), (2, (.p 1 0)), (1, (.p 0 0))] (fun ρ => ⟨rfl, (congrArg (Value.int .i64) (by rw [wrap_id (by omega)]; first | rfl | omega)), ⟨rfl, rfl, ⟨rfl, rfl, ⟨rfl, rfl, ⟨rfl, rfl, ⟨rfl, rfl, ⟨rfl, rfl, ⟨rfl, rfl, ⟨rfl, rfl, ⟨rfl, rfl, trivial⟩⟩⟩⟩⟩⟩⟩⟩⟩⟩) ?_
          refine WK_keep [37, 36, 35, 7, 24, 23, 22, 4, 2, 1] [8, 4, 3, 2, 1] rfl rfl ?_
          exact WQ_nextR ((k + 1), (acc2 ++ ([acc3])), z42, arr43, cap44) (by show n12 - (k + 1) < n12 - k; omega) ⟨hc20, ⟨by omega, by rw [take_succ' hx22]; exact mapO_snoc hacc2 hacc3, ho46, hz45⟩⟩ [(5, 8)] rfl rfl rfl rfl rfl rfl
      · replace hc1 := of_decide_eq_false hc1
        refine WC_exit ?_
        refine WQ_then_exit ?_
        refine WQ_then_exit ?_
        refine WQ_hit ?_
        refine WQ_code ?_
        refine WC_region ?_
        refine WL_execS htb 4 [97, 95, 24, 23, 22, 4, 2, 1] [6, 5, 3, 2, 1] ⟨[(97, (.s 6 1 1)), (95, (.ls z 3 acc.length cap)), (24, (iN r)), (23, (iN n_rs)), (22, (sS (some q5) n_rs c_rs)), (4, (.p 2 0)), (2, (.p 1 0)), (1, (.p 0 0))], [(6, (.cells 111 [(tS x17), (.ls z2 5 acc2.length cap2)])), (5, (.lst z2 32 arr2)), (3, (.lst z 111 arr)), (2, (.cells 78 [(.ls z 3 acc.length cap)])), (1, (.cells 78 [(sS none 0 0)]))], 7, [], [(0, bk2, (.cells 35 [(sS A_tk n_tk c_tk), (sS (some q14) n_nm c_nm), (sS (some q5) n_rs c_rs)]))]⟩ (by kernel_rfl) ?_
        refine WK_freezeL 5 rfl rfl ?_
        intro bk22 G21 hle hbk22
        replace hc4 := Le.trans hc4 hle
        replace hc20 := Le.trans hc20 hle
        replace h_tk := h_tk.mono hle
        replace h_nm := h_nm.mono hle
        replace h_rs := h_rs.mono hle
        replace hz := hz.mono hle
        replace ho := ho.mono hle
        obtain ⟨A24, n25, c26, e27, hs23⟩ := OwnL.sl (n := acc2.length) ho2 hle hz2 hbk22 rfl
        refine WK_env [(97, (.s 6 1 1)), (95, (.ls z 3 acc.length cap)), (24, (iN r)), (23, (iN n_rs)), (22, (sS (some q5) n_rs c_rs)), (4, (.p 2 0)), (2, (.p 1 0)), (1, (.p 0 0))] (fun ρ => ⟨rfl, rfl, ⟨rfl, rfl, ⟨rfl, rfl, ⟨rfl, rfl, ⟨rfl, rfl, ⟨rfl, rfl, ⟨rfl, rfl, ⟨rfl, rfl, trivial⟩⟩⟩⟩⟩⟩⟩⟩) ?_
        refine WK_own [(6, (.cells 111 [(tS x17), (sS A24 n25 c26)])), (3, (.lst z 111 arr)), (2, (.cells 78 [(.ls z 3 acc.length cap)])), (1, (.cells 78 [(sS none 0 0)]))] (fun ρ => ⟨rfl, rfl, (by show SV.denL ρ [(tS x17), (.v (nilOr z2 (.slice (some ⟨bk22, 0, none⟩) acc2.length cap2)))] = SV.denL ρ [(tS x17), (sS A24 n25 c26)]; simp only [SV.den, SV.denL, e27]), ⟨rfl, rfl, ⟨rfl, rfl, rfl, ⟨rfl, rfl, rfl, trivial⟩⟩⟩⟩) ?_
        have lhs23 := hs23.len'
        refine WK_freezeV 6 rfl rfl rfl rfl ?_
        intro bk29 G28 hle hbk29
        replace hc4 := Le.trans hc4 hle
        replace hc20 := Le.trans hc20 hle
        replace h_tk := h_tk.mono hle
        replace h_nm := h_nm.mono hle
        replace h_rs := h_rs.mono hle
        replace hs23 := hs23.mono hle
        replace hz := hz.mono hle
        replace ho := ho.mono hle
        show WK _ _ ⟨[(97, (sS (some ⟨bk29, 0, none⟩) 1 1)), (95, (.ls z 3 acc.length cap)), (24, (iN r)), (23, (iN n_rs)), (22, (sS (some q5) n_rs c_rs)), (4, (.p 2 0)), (2, (.p 1 0)), (1, (.p 0 0))], [(3, (.lst z 111 arr)), (2, (.cells 78 [(.ls z 3 acc.length cap)])), (1, (.cells 78 [(sS none 0 0)]))], 7, [], [(0, bk2, (.cells 35 [(sS A_tk n_tk c_tk), (sS (some q14) n_nm c_nm), (sS (some q5) n_rs c_rs)]))]⟩ _
        have hs30 : Sl (tPair tStr (tSlice (tSlice tStr))) G28 (some ⟨bk29, 0, none⟩) 1 1 [(x17, acc2)] := Sl.lit (cs := [.string x17, .slice A24 n25 c26]) (RepsL.cons' (rep_pair (rep_str _ (x := x17) hn18) hs23.reps) .nil) hbk29 rfl (by unfold big; omega)
        have lhs30 := hs30.len'
        refine WL_op (WOp_append htb z 3 acc.length cap (some ⟨bk29, 0, none⟩) 1 111 2 40 (by kernel_rfl) (by kernel_rfl) rfl rfl (tPair tStr (tSlice (tSlice tStr))) (xs := acc) (ys := [(x17, acc2)]) ho rfl hz0 hs30.row hs30.len rfl (by decide) (by first | omega | (simp only [List.length_append, List.length_nil, List.length_drop, List.length_take, List.length_cons]; omega)) (by unfold big; first | omega | (simp only [List.length_append, List.length_nil, List.length_drop, List.length_take, List.length_cons]; omega)) (fun z31 arr32 cap33 hz34 ho35 => ?_))
        show WL _ _ _ _ _ _ ⟨[(98, (.ls z31 7 ((acc ++ ([(x17, acc2)])).length) cap33)), (97, (sS (some ⟨bk29, 0, none⟩) 1 1)), (95, (.ls z 3 acc.length cap)), (24, (iN r)), (23, (iN n_rs)), (22, (sS (some q5) n_rs c_rs)), (4, (.p 2 0)), (2, (.p 1 0)), (1, (.p 0 0))], [(7, (.lst z31 111 arr32)), (2, (.cells 78 [(.ls z 3 acc.length cap)])), (1, (.cells 78 [(sS none 0 0)]))], 8, [], [(0, bk2, (.cells 35 [(sS A_tk n_tk c_tk), (sS (some q14) n_nm c_nm), (sS (some q5) n_rs c_rs)]))]⟩ _
        refine WL_execS htb 2 [24, 23, 22, 4, 2, 1] [7, 2, 1] ⟨[(24, (iN r)), (23, (iN n_rs)), (22, (sS (some q5) n_rs c_rs)), (4, (.p 2 0)), (2, (.p 1 0)), (1, (.p 0 0))], [(7, (.lst z31 111 arr32)), (2, (.cells 78 [(.ls z31 7 ((acc ++ ([(x17, acc2)])).length) cap33)])), (1, (.cells 78 [(sS none 0 0)]))], 8, [], [(0, bk2, (.cells 35 [(sS A_tk n_tk c_tk), (sS (some q14) n_nm c_nm), (sS (some q5) n_rs c_rs)]))]⟩ (by kernel_rfl) ?_
        refine WL_nil ?_
        refine WQ_blk ?_
        refine WQ_code ?_
        refine WC_region ?_
        refine WL_execS htb 2 [24, 23, 22, 4, 2, 1] [7, 2, 1] ⟨[(24, (iI (IntKind.i64.wrap (((r : Nat) : Int) + 1)))), (23, (iN n_rs)), (22, (sS (some q5) n_rs c_rs)), (4, (.p 2 0)), (2, (.p 1 0)), (1, (.p 0 0))], [(7, (.lst z31 111 arr32)), (2, (.cells 78 [(.ls z31 7 ((acc ++ ([(x17, acc2)])).length) cap33)])), (1, (.cells 78 [(sS none 0 0)]))], 8, [], [(0, bk2, (.cells 35 [(sS A_tk n_tk c_tk), (sS (some q14) n_nm c_nm), (sS (some q5) n_rs c_rs)]))]⟩ (by kernel_rfl) ?_
        refine WL_nil ?_
        have hta : x8.take k = x8 := List.take_of_length_le (by omega)
        rw [hta] at hacc2
        refine WK_env [(24, (iN (r + 1))), (23, (iN n_rs)), (22, (sS (some q5) n_rs c_rs)), (4, (.p 2 0)), (2, (.p 1 0)), (1, (.p 0 0))] (fun ρ => ⟨rfl, (congrArg (Value.int .i64) (by rw [wrap_id (by omega)]; first | rfl | omega)), ⟨rfl, rfl, ⟨rfl, rfl, ⟨rfl, rfl, ⟨rfl, rfl, ⟨rfl, rfl, trivial⟩⟩⟩⟩⟩⟩) ?_
        refine WK_keep [24, 23, 22, 4, 2, 1] [7, 2, 1] rfl rfl ?_
        exact WQ_nextR ((r + 1), (acc ++ ([(x17, acc2)])), z31, arr32, cap33) (by show n_rs - (r + 1) < n_rs - r; omega) ⟨hc4, ⟨by omega, by rw [take_succ' hzip]; exact mapO_snoc hacc (by show (altsB tk nm _).map _ = _; rw [show altsB tk nm x8 = _ from hacc2]; rfl), ho35, hz34⟩⟩ [(3, 7)] rfl rfl rfl rfl rfl rfl
    · replace hc := of_decide_eq_false hc
      refine WC_exit ?_
      refine WQ_then_exit ?_
      refine WQ_then_exit ?_
      refine WQ_hit ?_
      refine WQ_code ?_
      refine WC_seq (WC_region ?_)
      refine WL_execS htb 3 [3, 2] [3, 1] ⟨[(3, (iI 0)), (2, (.p 1 0))], [(3, (.lst z 111 arr)), (1, (.cells 78 [(.ls z 3 acc.length cap)]))], 4, [], [(0, bk2, (.cells 35 [(sS A_tk n_tk c_tk), (sS A_nm n_nm c_nm), (sS A_rs n_rs c_rs)]))]⟩ (by kernel_rfl) ?_
      refine WL_nil ?_
      refine WQ_code ?_
      refine WC_ret ?_
      have hta : (nm.zip rs).take r = nm.zip rs := List.take_of_length_le (by rw [List.length_zip]; omega)
      rw [hta] at hacc
      refine WK_freezeL 3 rfl rfl ?_
      intro bk6 G5 hle hbk6
      replace hc4 := Le.trans hc4 hle
      replace h_tk := h_tk.mono hle
      replace h_nm := h_nm.mono hle
      replace h_rs := h_rs.mono hle
      replace hz := hz.mono hle
      obtain ⟨A8, n9, c10, e11, hs7⟩ := OwnL.sl (n := acc.length) ho hle hz0 hbk6 rfl
      refine WK_env [(3, (iI 0)), (2, (.p 1 0))] (fun ρ => ⟨rfl, rfl, ⟨rfl, rfl, trivial⟩⟩) ?_
      refine WK_own [(1, (.cells 78 [(sS A8 n9 c10)]))] (fun ρ => ⟨rfl, rfl, (by show SV.denL ρ [(.v (nilOr z (.slice (some ⟨bk6, 0, none⟩) acc.length cap)))] = SV.denL ρ [(sS A8 n9 c10)]; simp only [SV.den, SV.denL, e11]), trivial⟩) ?_
      have lhs7 := hs7.len'
      exact WQ_done htb [(.agg [(sS A8 n9 c10)]), (iI 0)] _ (.inl rfl) rfl (by kernel_rfl) (fun ρ w hW => ⟨acc, _, _, _, 0, rfl, hs7, (by omega), (.inl ⟨by rw [back_yes (by omega)]; exact hacc, rfl⟩)⟩)

end Go.Proofs.Ytbpajkjolhoflaa.Sym
