/- Walks of functions that the laws of this seat reach, printed by a program of this session's. -/
import Derived.Test.YtbpajkjolhoflaaT16
set_option linter.unusedSimpArgs false
set_option linter.unusedVariables false
set_option maxHeartbeats 4000000
namespace Go.Proofs.Ytbpajkjolhoflaa.Sym
open Go Go.Proofs Go.RowKit





theorem stackSteps_ok {w : World} {G : Heap} (hG : Has w G) {tk : (List ByteArray)} {A_tk : Option Addr} {n_tk : Nat} {c_tk : Nat} {nm : (List ByteArray)} {A_nm : Option Addr} {n_nm : Nat} {c_nm : Nat} {rs : (List (List (List Int)))} {A_rs : Option Addr} {n_rs : Nat} {c_rs : Nat} {tk2 : (List ByteArray)} {A_tk2 : Option Addr} {n_tk2 : Nat} {c_tk2 : Nat} {nm2 : (List ByteArray)} {A_nm2 : Option Addr} {n_nm2 : Nat} {c_nm2 : Nat} {rs2 : (List (List (List Int)))} {A_rs2 : Option Addr} {n_rs2 : Nat} {c_rs2 : Nat} {a : (List Int)} {A_a : Option Addr} {n_a : Nat} {c_a : Nat} {b : (List Int)} {A_b : Option Addr} {n_b : Nat} {c_b : Nat} {kd : Int} {pk : Int} (h_tk : Sl tStr G A_tk n_tk c_tk tk) (h_nm : Sl tStr G A_nm n_nm c_nm nm) (h_rs : Sl (tSlice (tSlice (tInt .i64))) G A_rs n_rs c_rs rs) (h_tk2 : Sl tStr G A_tk2 n_tk2 c_tk2 tk2) (h_nm2 : Sl tStr G A_nm2 n_nm2 c_nm2 nm2) (h_rs2 : Sl (tSlice (tSlice (tInt .i64))) G A_rs2 n_rs2 c_rs2 rs2) (h_a : Sl (tInt .i64) G A_a n_a c_a a) (h_b : Sl (tInt .i64) G A_b n_b c_b b) (h_kd : -9223372036854775808 ≤ kd ∧ kd ≤ 9223372036854775807) (h_pk : -9223372036854775808 ≤ pk ∧ pk ≤ 9223372036854775807) (hB1 : tk.length ≤ 140737488355328) (hB2 : nm.length ≤ 140737488355328) (hB3 : FitR rs) (hB4 : tk2.length ≤ 140737488355328) (hB5 : nm2.length ≤ 140737488355328) (hB6 : FitR rs2) :
    Calls Try.prog 5 #[(.agg #[.slice A_tk n_tk c_tk, .slice A_nm n_nm c_nm, .slice A_rs n_rs c_rs]), (.agg #[.slice A_tk2 n_tk2 c_tk2, .slice A_nm2 n_nm2 c_nm2, .slice A_rs2 n_rs2 c_rs2]), (.agg #[.slice A_a n_a c_a, .slice A_b n_b c_b, .int .i64 kd, .int .i64 pk])] w (Ret w G fun v G' => ∃ (ok : Bool), v = .bool ok ∧ (ok = true)) := by
  have lh_tk := h_tk.len'
  have lh_nm := h_nm.len'
  have lh_rs := h_rs.len'
  have lh_tk2 := h_tk2.len'
  have lh_nm2 := h_nm2.len'
  have lh_rs2 := h_rs2.len'
  have lh_a := h_a.len'
  have lh_b := h_b.len'
  refine enter [(.agg [(.v (.slice A_tk n_tk c_tk)), (.v (.slice A_nm n_nm c_nm)), (.v (.slice A_rs n_rs c_rs))]), (.agg [(.v (.slice A_tk2 n_tk2 c_tk2)), (.v (.slice A_nm2 n_nm2 c_nm2)), (.v (.slice A_rs2 n_rs2 c_rs2))]), (.agg [(.v (.slice A_a n_a c_a)), (.v (.slice A_b n_b c_b)), (.v (.int .i64 kd)), (.v (.int .i64 pk))])] 180 Try.func5 rfl rfl rfl rfl hG ?_
  refine WC_seq (WC_region ?_)
  refine WL_execS htb 4 [6, 5, 4, 3] [2, 1, 0] ⟨[(6, (.v (.bool false))), (5, (.p 2 0)), (4, (.p 1 0)), (3, (.p 0 0))], [(2, (.cells 37 [(.v (.slice A_a n_a c_a)), (.v (.slice A_b n_b c_b)), (.v (.int .i64 kd)), (.v (.int .i64 pk))])), (1, (.cells 35 [(.v (.slice A_tk2 n_tk2 c_tk2)), (.v (.slice A_nm2 n_nm2 c_nm2)), (.v (.slice A_rs2 n_rs2 c_rs2))])), (0, (.cells 35 [(.v (.slice A_tk n_tk c_tk)), (.v (.slice A_nm n_nm c_nm)), (.v (.slice A_rs n_rs c_rs))]))], 3, [], []⟩ (by kernel_rfl) ?_
  refine WL_nil ?_
  refine WQ_code ?_
  refine WC_seq (WC_region ?_)
  refine WL_op (WOp_call 11 [] (by kernel_rfl) (goes_of Try.func11 rfl rfl) (fun ρ w hW => live_ok hW.has ) ?_)
  intro G1 v hle hΦ
  replace h_tk := h_tk.mono hle
  replace h_nm := h_nm.mono hle
  replace h_rs := h_rs.mono hle
  replace h_tk2 := h_tk2.mono hle
  replace h_nm2 := h_nm2.mono hle
  replace h_rs2 := h_rs2.mono hle
  replace h_a := h_a.mono hle
  replace h_b := h_b.mono hle
  obtain ⟨r1, rfl, hR2⟩ := hΦ
  replace hR2 := hR2.trans rfl
  obtain rfl := hR2
  refine WL_execS htb 1 [7, 6, 5, 4, 3] [2, 1, 0] ⟨[(7, (.v (.bool true))), (6, (.v (.bool false))), (5, (.p 2 0)), (4, (.p 1 0)), (3, (.p 0 0))], [(2, (.cells 37 [(.v (.slice A_a n_a c_a)), (.v (.slice A_b n_b c_b)), (.v (.int .i64 kd)), (.v (.int .i64 pk))])), (1, (.cells 35 [(.v (.slice A_tk2 n_tk2 c_tk2)), (.v (.slice A_nm2 n_nm2 c_nm2)), (.v (.slice A_rs2 n_rs2 c_rs2))])), (0, (.cells 35 [(.v (.slice A_tk n_tk c_tk)), (.v (.slice A_nm n_nm c_nm)), (.v (.slice A_rs n_rs c_rs))]))], 3, [], []⟩ (by kernel_rfl) ?_
  refine WL_nil ?_
  refine WQ_code ?_
  refine WC_seq ?_
  refine WC_seq (WC_region ?_)
  refine WL_execS htb 4 [23, 21, 20, 7, 6, 5, 4, 3] [2, 1, 0] ⟨[(23, (.agg [(.v (.slice A_a n_a c_a)), (.v (.slice A_b n_b c_b))])), (21, (.agg [(.v (.slice A_tk2 n_tk2 c_tk2)), (.v (.slice A_nm2 n_nm2 c_nm2)), (.v (.slice A_rs2 n_rs2 c_rs2))])), (20, (.agg [(.v (.slice A_tk n_tk c_tk)), (.v (.slice A_nm n_nm c_nm)), (.v (.slice A_rs n_rs c_rs))])), (7, (.v (.bool true))), (6, (.v (.bool false))), (5, (.p 2 0)), (4, (.p 1 0)), (3, (.p 0 0))], [(2, (.cells 37 [(.v (.slice A_a n_a c_a)), (.v (.slice A_b n_b c_b)), (.v (.int .i64 kd)), (.v (.int .i64 pk))])), (1, (.cells 35 [(.v (.slice A_tk2 n_tk2 c_tk2)), (.v (.slice A_nm2 n_nm2 c_nm2)), (.v (.slice A_rs2 n_rs2 c_rs2))])), (0, (.cells 35 [(.v (.slice A_tk n_tk c_tk)), (.v (.slice A_nm n_nm c_nm)), (.v (.slice A_rs n_rs c_rs))]))], 3, [], []⟩ (by kernel_rfl) ?_
  refine WL_op (WOp_call 16 [(.agg [(.v (.slice A_tk n_tk c_tk)), (.v (.slice A_nm n_nm c_nm)), (.v (.slice A_rs n_rs c_rs))]), (.agg [(.v (.slice A_tk2 n_tk2 c_tk2)), (.v (.slice A_nm2 n_nm2 c_nm2)), (.v (.slice A_rs2 n_rs2 c_rs2))]), (.agg [(.v (.slice A_a n_a c_a)), (.v (.slice A_b n_b c_b))])] (by kernel_rfl) (goes_of Try.func16 rfl rfl) (fun ρ w hW => big_ok hW.has (tk := tk) (nm := nm) (rs := rs) (tk2 := tk2) (nm2 := nm2) (rs2 := rs2) (a := a) (b := b) h_tk h_nm h_rs h_tk2 h_nm2 h_rs2 h_a h_b hB1 hB2 hB3 hB4 hB5 hB6) ?_)
  intro G2 v hle hΦ
  replace h_tk := h_tk.mono hle
  replace h_nm := h_nm.mono hle
  replace h_rs := h_rs.mono hle
  replace h_tk2 := h_tk2.mono hle
  replace h_nm2 := h_nm2.mono hle
  replace h_rs2 := h_rs2.mono hle
  replace h_a := h_a.mono hle
  replace h_b := h_b.mono hle
  obtain ⟨r3, rfl, hR4⟩ := hΦ
  refine WL_nil ?_
  refine WQ_code ?_
  refine WC_cond (b := r3) rfl (fun hb0 => ?_) (fun hb0 => ?_)
  · skip
    refine WC_seq (WC_region ?_)
    refine WL_execS htb 2 [6, 7, 5, 4, 3] [2, 1, 0] ⟨[(6, (.v (.bool true))), (7, (.v (.bool true))), (5, (.p 2 0)), (4, (.p 1 0)), (3, (.p 0 0))], [(2, (.cells 37 [(.v (.slice A_a n_a c_a)), (.v (.slice A_b n_b c_b)), (.v (.int .i64 kd)), (.v (.int .i64 pk))])), (1, (.cells 35 [(.v (.slice A_tk2 n_tk2 c_tk2)), (.v (.slice A_nm2 n_nm2 c_nm2)), (.v (.slice A_rs2 n_rs2 c_rs2))])), (0, (.cells 35 [(.v (.slice A_tk n_tk c_tk)), (.v (.slice A_nm n_nm c_nm)), (.v (.slice A_rs n_rs c_rs))]))], 3, [], []⟩ (by kernel_rfl) ?_
    refine WL_nil ?_
    refine WQ_code ?_
    refine WC_ret ?_
    refine WQ_then_ret ?_
    exact WQ_done htb [(.v (.bool true))] _ (.inl rfl) rfl (by kernel_rfl) (fun ρ w hW => ⟨true, rfl, rfl⟩)
  · skip
    obtain ⟨hs1, hs2, hla, hlb⟩ := hR4 hb0
    refine WC_skip ?_
    refine WQ_code ?_
    refine WC_seq (WC_region ?_)
    refine WL_execS htb 3 [28, 7, 6, 5, 4, 3] [2, 1, 0] ⟨[(28, (.v (.slice A_a n_a c_a))), (7, (.v (.bool true))), (6, (.v (.bool false))), (5, (.p 2 0)), (4, (.p 1 0)), (3, (.p 0 0))], [(2, (.cells 37 [(.v (.slice A_a n_a c_a)), (.v (.slice A_b n_b c_b)), (.v (.int .i64 kd)), (.v (.int .i64 pk))])), (1, (.cells 35 [(.v (.slice A_tk2 n_tk2 c_tk2)), (.v (.slice A_nm2 n_nm2 c_nm2)), (.v (.slice A_rs2 n_rs2 c_rs2))])), (0, (.cells 35 [(.v (.slice A_tk n_tk c_tk)), (.v (.slice A_nm n_nm c_nm)), (.v (.slice A_rs n_rs c_rs))]))], 3, [], []⟩ (by kernel_rfl) ?_
    refine WK_off 3 rfl ?_
    have ho5 : OwnL (tInt .i64) G2 [] #[] 0 := OwnL.nil _ _
    refine WL_op (WOp_appendN htb true 3 0 0 A_a n_a 3 1 8 (by kernel_rfl) (by kernel_rfl) rfl rfl (tInt .i64) (xs := []) (ys := a) ho5 rfl (fun _ => rfl) h_a.row h_a.len rfl (by decide) (by first | omega | (simp only [List.length_append, List.length_nil, List.length_drop, List.length_take, List.length_cons]; omega)) (by unfold big; first | omega | (simp only [List.length_append, List.length_nil, List.length_drop, List.length_take, List.length_cons]; omega)) (fun z6 arr7 cap8 hz9 ho10 => ?_))
    show WL _ _ _ _ _ _ ⟨[(29, (.ls z6 4 (([] ++ a).length) cap8)), (28, (.v (.slice A_a n_a c_a))), (7, (.v (.bool true))), (6, (.v (.bool false))), (5, (.p 2 0)), (4, (.p 1 0)), (3, (.p 0 0))], [(4, (.lst z6 3 arr7)), (2, (.cells 37 [(.v (.slice A_a n_a c_a)), (.v (.slice A_b n_b c_b)), (.v (.int .i64 kd)), (.v (.int .i64 pk))])), (1, (.cells 35 [(.v (.slice A_tk2 n_tk2 c_tk2)), (.v (.slice A_nm2 n_nm2 c_nm2)), (.v (.slice A_rs2 n_rs2 c_rs2))])), (0, (.cells 35 [(.v (.slice A_tk n_tk c_tk)), (.v (.slice A_nm n_nm c_nm)), (.v (.slice A_rs n_rs c_rs))]))], 5, [], []⟩ _
    refine WL_execS htb 1 [8, 7, 6, 5, 4, 3] [4, 2, 1, 0] ⟨[(8, (.ls z6 4 (([] ++ a).length) cap8)), (7, (.v (.bool true))), (6, (.v (.bool false))), (5, (.p 2 0)), (4, (.p 1 0)), (3, (.p 0 0))], [(4, (.lst z6 3 arr7)), (2, (.cells 37 [(.v (.slice A_a n_a c_a)), (.v (.slice A_b n_b c_b)), (.v (.int .i64 kd)), (.v (.int .i64 pk))])), (1, (.cells 35 [(.v (.slice A_tk2 n_tk2 c_tk2)), (.v (.slice A_nm2 n_nm2 c_nm2)), (.v (.slice A_rs2 n_rs2 c_rs2))])), (0, (.cells 35 [(.v (.slice A_tk n_tk c_tk)), (.v (.slice A_nm n_nm c_nm)), (.v (.slice A_rs n_rs c_rs))]))], 5, [], []⟩ (by kernel_rfl) ?_
    refine WL_nil ?_
    refine WQ_code ?_
    refine WC_seq (WC_region ?_)
    refine WL_execS htb 3 [32, 8, 7, 6, 5, 4, 3] [4, 2, 1, 0] ⟨[(32, (.v (.slice A_b n_b c_b))), (8, (.ls z6 4 (([] ++ a).length) cap8)), (7, (.v (.bool true))), (6, (.v (.bool false))), (5, (.p 2 0)), (4, (.p 1 0)), (3, (.p 0 0))], [(4, (.lst z6 3 arr7)), (2, (.cells 37 [(.v (.slice A_a n_a c_a)), (.v (.slice A_b n_b c_b)), (.v (.int .i64 kd)), (.v (.int .i64 pk))])), (1, (.cells 35 [(.v (.slice A_tk2 n_tk2 c_tk2)), (.v (.slice A_nm2 n_nm2 c_nm2)), (.v (.slice A_rs2 n_rs2 c_rs2))])), (0, (.cells 35 [(.v (.slice A_tk n_tk c_tk)), (.v (.slice A_nm n_nm c_nm)), (.v (.slice A_rs n_rs c_rs))]))], 5, [], []⟩ (by kernel_rfl) ?_
    refine WK_off 3 rfl ?_
    have ho11 : OwnL (tInt .i64) G2 [] #[] 0 := OwnL.nil _ _
    refine WL_op (WOp_appendN htb true 5 0 0 A_b n_b 3 1 8 (by kernel_rfl) (by kernel_rfl) rfl rfl (tInt .i64) (xs := []) (ys := b) ho11 rfl (fun _ => rfl) h_b.row h_b.len rfl (by decide) (by first | omega | (simp only [List.length_append, List.length_nil, List.length_drop, List.length_take, List.length_cons]; omega)) (by unfold big; first | omega | (simp only [List.length_append, List.length_nil, List.length_drop, List.length_take, List.length_cons]; omega)) (fun z12 arr13 cap14 hz15 ho16 => ?_))
    show WL _ _ _ _ _ _ ⟨[(33, (.ls z12 6 (([] ++ b).length) cap14)), (32, (.v (.slice A_b n_b c_b))), (8, (.ls z6 4 (([] ++ a).length) cap8)), (7, (.v (.bool true))), (6, (.v (.bool false))), (5, (.p 2 0)), (4, (.p 1 0)), (3, (.p 0 0))], [(6, (.lst z12 3 arr13)), (4, (.lst z6 3 arr7)), (2, (.cells 37 [(.v (.slice A_a n_a c_a)), (.v (.slice A_b n_b c_b)), (.v (.int .i64 kd)), (.v (.int .i64 pk))])), (1, (.cells 35 [(.v (.slice A_tk2 n_tk2 c_tk2)), (.v (.slice A_nm2 n_nm2 c_nm2)), (.v (.slice A_rs2 n_rs2 c_rs2))])), (0, (.cells 35 [(.v (.slice A_tk n_tk c_tk)), (.v (.slice A_nm n_nm c_nm)), (.v (.slice A_rs n_rs c_rs))]))], 7, [], []⟩ _
    refine WL_execS htb 1 [9, 8, 7, 6, 5, 4, 3] [6, 4, 2, 1, 0] ⟨[(9, (.ls z12 6 (([] ++ b).length) cap14)), (8, (.ls z6 4 (([] ++ a).length) cap8)), (7, (.v (.bool true))), (6, (.v (.bool false))), (5, (.p 2 0)), (4, (.p 1 0)), (3, (.p 0 0))], [(6, (.lst z12 3 arr13)), (4, (.lst z6 3 arr7)), (2, (.cells 37 [(.v (.slice A_a n_a c_a)), (.v (.slice A_b n_b c_b)), (.v (.int .i64 kd)), (.v (.int .i64 pk))])), (1, (.cells 35 [(.v (.slice A_tk2 n_tk2 c_tk2)), (.v (.slice A_nm2 n_nm2 c_nm2)), (.v (.slice A_rs2 n_rs2 c_rs2))])), (0, (.cells 35 [(.v (.slice A_tk n_tk c_tk)), (.v (.slice A_nm n_nm c_nm)), (.v (.slice A_rs n_rs c_rs))]))], 7, [], []⟩ (by kernel_rfl) ?_
    refine WL_nil ?_
    refine WQ_code ?_
    refine WC_seq (WC_region ?_)
    refine WL_execS htb 2 [36, 9, 8, 7, 6, 5, 4, 3] [6, 4, 2, 1, 0] ⟨[(36, (.agg [(.v (.slice A_a n_a c_a)), (.v (.slice A_b n_b c_b))])), (9, (.ls z12 6 (([] ++ b).length) cap14)), (8, (.ls z6 4 (([] ++ a).length) cap8)), (7, (.v (.bool true))), (6, (.v (.bool false))), (5, (.p 2 0)), (4, (.p 1 0)), (3, (.p 0 0))], [(6, (.lst z12 3 arr13)), (4, (.lst z6 3 arr7)), (2, (.cells 37 [(.v (.slice A_a n_a c_a)), (.v (.slice A_b n_b c_b)), (.v (.int .i64 kd)), (.v (.int .i64 pk))])), (1, (.cells 35 [(.v (.slice A_tk2 n_tk2 c_tk2)), (.v (.slice A_nm2 n_nm2 c_nm2)), (.v (.slice A_rs2 n_rs2 c_rs2))])), (0, (.cells 35 [(.v (.slice A_tk n_tk c_tk)), (.v (.slice A_nm n_nm c_nm)), (.v (.slice A_rs n_rs c_rs))]))], 7, [], []⟩ (by kernel_rfl) ?_
    refine WL_op (WOp_call 13 [(.agg [(.v (.slice A_a n_a c_a)), (.v (.slice A_b n_b c_b))])] (by kernel_rfl) (goes_of Try.func13 rfl rfl) (fun ρ w hW => drop_ok hW.has (a := a) (b := b) h_a h_b (by omega) (by omega)) ?_)
    intro G3 v hle hΦ
    replace h_tk := h_tk.mono hle
    replace h_nm := h_nm.mono hle
    replace h_rs := h_rs.mono hle
    replace h_tk2 := h_tk2.mono hle
    replace h_nm2 := h_nm2.mono hle
    replace h_rs2 := h_rs2.mono hle
    replace h_a := h_a.mono hle
    replace h_b := h_b.mono hle
    replace ho10 := ho10.mono hle
    replace ho16 := ho16.mono hle
    obtain ⟨r17, A_r17, n_r17, c_r17, r18, A_r18, n_r18, c_r18, r19, rfl, h_r17, h_r18, hR20⟩ := hΦ
    have lh_r17 := h_r17.len'
    have lh_r18 := h_r18.len'
    refine WL_execS htb 6 [11, 10, 9, 8, 7, 6, 5, 4, 3] [7, 6, 4, 2, 1, 0] ⟨[(11, (.v (.bool r19))), (10, (.p 7 0)), (9, (.ls z12 6 (([] ++ b).length) cap14)), (8, (.ls z6 4 (([] ++ a).length) cap8)), (7, (.v (.bool true))), (6, (.v (.bool false))), (5, (.p 2 0)), (4, (.p 1 0)), (3, (.p 0 0))], [(7, (.cells 24 [(.v (.slice A_r17 n_r17 c_r17)), (.v (.slice A_r18 n_r18 c_r18))])), (6, (.lst z12 3 arr13)), (4, (.lst z6 3 arr7)), (2, (.cells 37 [(.v (.slice A_a n_a c_a)), (.v (.slice A_b n_b c_b)), (.v (.int .i64 kd)), (.v (.int .i64 pk))])), (1, (.cells 35 [(.v (.slice A_tk2 n_tk2 c_tk2)), (.v (.slice A_nm2 n_nm2 c_nm2)), (.v (.slice A_rs2 n_rs2 c_rs2))])), (0, (.cells 35 [(.v (.slice A_tk n_tk c_tk)), (.v (.slice A_nm n_nm c_nm)), (.v (.slice A_rs n_rs c_rs))]))], 8, [], []⟩ (by kernel_rfl) ?_
    refine WL_nil ?_
    refine WQ_code ?_
    refine WC_seq (WC_region ?_)
    refine WL_execS htb 2 [42, 11, 10, 9, 8, 7, 6, 5, 4, 3] [7, 6, 4, 2, 1, 0] ⟨[(42, (.agg [(.v (.slice A_a n_a c_a)), (.v (.slice A_b n_b c_b))])), (11, (.v (.bool r19))), (10, (.p 7 0)), (9, (.ls z12 6 (([] ++ b).length) cap14)), (8, (.ls z6 4 (([] ++ a).length) cap8)), (7, (.v (.bool true))), (6, (.v (.bool false))), (5, (.p 2 0)), (4, (.p 1 0)), (3, (.p 0 0))], [(7, (.cells 24 [(.v (.slice A_r17 n_r17 c_r17)), (.v (.slice A_r18 n_r18 c_r18))])), (6, (.lst z12 3 arr13)), (4, (.lst z6 3 arr7)), (2, (.cells 37 [(.v (.slice A_a n_a c_a)), (.v (.slice A_b n_b c_b)), (.v (.int .i64 kd)), (.v (.int .i64 pk))])), (1, (.cells 35 [(.v (.slice A_tk2 n_tk2 c_tk2)), (.v (.slice A_nm2 n_nm2 c_nm2)), (.v (.slice A_rs2 n_rs2 c_rs2))])), (0, (.cells 35 [(.v (.slice A_tk n_tk c_tk)), (.v (.slice A_nm n_nm c_nm)), (.v (.slice A_rs n_rs c_rs))]))], 8, [], []⟩ (by kernel_rfl) ?_
    refine WL_op (WOp_call 17 [(.agg [(.v (.slice A_a n_a c_a)), (.v (.slice A_b n_b c_b))])] (by kernel_rfl) (goes_of Try.func17 rfl rfl) (fun ρ w hW => rdrop_ok hW.has (a := a) (b := b) h_a h_b) ?_)
    intro G4 v hle hΦ
    replace h_tk := h_tk.mono hle
    replace h_nm := h_nm.mono hle
    replace h_rs := h_rs.mono hle
    replace h_tk2 := h_tk2.mono hle
    replace h_nm2 := h_nm2.mono hle
    replace h_rs2 := h_rs2.mono hle
    replace h_a := h_a.mono hle
    replace h_b := h_b.mono hle
    replace h_r17 := h_r17.mono hle
    replace h_r18 := h_r18.mono hle
    replace ho10 := ho10.mono hle
    replace ho16 := ho16.mono hle
    obtain ⟨r21, A_r21, n_r21, c_r21, r22, A_r22, n_r22, c_r22, r23, rfl, h_r21, h_r22, hR24⟩ := hΦ
    have lh_r21 := h_r21.len'
    have lh_r22 := h_r22.len'
    have hp25 := hR24.trans hR20.symm
    simp only [Prod.mk.injEq] at hp25
    refine WL_execS htb 6 [13, 12, 11, 10, 9, 8, 7, 6, 5, 4, 3] [8, 7, 6, 4, 2, 1, 0] ⟨[(13, (.v (.bool r23))), (12, (.p 8 0)), (11, (.v (.bool r19))), (10, (.p 7 0)), (9, (.ls z12 6 (([] ++ b).length) cap14)), (8, (.ls z6 4 (([] ++ a).length) cap8)), (7, (.v (.bool true))), (6, (.v (.bool false))), (5, (.p 2 0)), (4, (.p 1 0)), (3, (.p 0 0))], [(8, (.cells 24 [(.v (.slice A_r21 n_r21 c_r21)), (.v (.slice A_r22 n_r22 c_r22))])), (7, (.cells 24 [(.v (.slice A_r17 n_r17 c_r17)), (.v (.slice A_r18 n_r18 c_r18))])), (6, (.lst z12 3 arr13)), (4, (.lst z6 3 arr7)), (2, (.cells 37 [(.v (.slice A_a n_a c_a)), (.v (.slice A_b n_b c_b)), (.v (.int .i64 kd)), (.v (.int .i64 pk))])), (1, (.cells 35 [(.v (.slice A_tk2 n_tk2 c_tk2)), (.v (.slice A_nm2 n_nm2 c_nm2)), (.v (.slice A_rs2 n_rs2 c_rs2))])), (0, (.cells 35 [(.v (.slice A_tk n_tk c_tk)), (.v (.slice A_nm n_nm c_nm)), (.v (.slice A_rs n_rs c_rs))]))], 9, [], []⟩ (by kernel_rfl) ?_
    refine WL_nil ?_
    refine WQ_code ?_
    refine WC_seq (WC_region ?_)
    refine WL_execS htb 2 [47, 46, 13, 12, 11, 10, 9, 8, 7, 6, 5, 4, 3] [8, 7, 6, 4, 2, 1, 0] ⟨[(47, (.agg [(.v (.slice A_r21 n_r21 c_r21)), (.v (.slice A_r22 n_r22 c_r22))])), (46, (.agg [(.v (.slice A_r17 n_r17 c_r17)), (.v (.slice A_r18 n_r18 c_r18))])), (13, (.v (.bool r23))), (12, (.p 8 0)), (11, (.v (.bool r19))), (10, (.p 7 0)), (9, (.ls z12 6 (([] ++ b).length) cap14)), (8, (.ls z6 4 (([] ++ a).length) cap8)), (7, (.v (.bool true))), (6, (.v (.bool false))), (5, (.p 2 0)), (4, (.p 1 0)), (3, (.p 0 0))], [(8, (.cells 24 [(.v (.slice A_r21 n_r21 c_r21)), (.v (.slice A_r22 n_r22 c_r22))])), (7, (.cells 24 [(.v (.slice A_r17 n_r17 c_r17)), (.v (.slice A_r18 n_r18 c_r18))])), (6, (.lst z12 3 arr13)), (4, (.lst z6 3 arr7)), (2, (.cells 37 [(.v (.slice A_a n_a c_a)), (.v (.slice A_b n_b c_b)), (.v (.int .i64 kd)), (.v (.int .i64 pk))])), (1, (.cells 35 [(.v (.slice A_tk2 n_tk2 c_tk2)), (.v (.slice A_nm2 n_nm2 c_nm2)), (.v (.slice A_rs2 n_rs2 c_rs2))])), (0, (.cells 35 [(.v (.slice A_tk n_tk c_tk)), (.v (.slice A_nm n_nm c_nm)), (.v (.slice A_rs n_rs c_rs))]))], 9, [], []⟩ (by kernel_rfl) ?_
    refine WL_op (WOp_call 14 [(.agg [(.v (.slice A_r17 n_r17 c_r17)), (.v (.slice A_r18 n_r18 c_r18))]), (.agg [(.v (.slice A_r21 n_r21 c_r21)), (.v (.slice A_r22 n_r22 c_r22))])] (by kernel_rfl) (goes_of Try.func14 rfl rfl) (fun ρ w hW => rsame_ok hW.has (a1 := r17) (a2 := r18) (b1 := r21) (b2 := r22) h_r17 h_r18 h_r21 h_r22) ?_)
    intro G5 v hle hΦ
    replace h_tk := h_tk.mono hle
    replace h_nm := h_nm.mono hle
    replace h_rs := h_rs.mono hle
    replace h_tk2 := h_tk2.mono hle
    replace h_nm2 := h_nm2.mono hle
    replace h_rs2 := h_rs2.mono hle
    replace h_a := h_a.mono hle
    replace h_b := h_b.mono hle
    replace h_r17 := h_r17.mono hle
    replace h_r18 := h_r18.mono hle
    replace h_r21 := h_r21.mono hle
    replace h_r22 := h_r22.mono hle
    replace ho10 := ho10.mono hle
    replace ho16 := ho16.mono hle
    obtain ⟨r26, rfl, hR27⟩ := hΦ
    replace hR27 := hR27.trans (show _ = true by simp [hp25])
    obtain rfl := hR27
    refine WL_execS htb 6 [14, 13, 12, 11, 10, 9, 8, 7, 6, 5, 4, 3] [8, 7, 6, 4, 2, 1, 0] ⟨[(14, (.v (.bool (r19 == r23)))), (13, (.v (.bool r23))), (12, (.p 8 0)), (11, (.v (.bool r19))), (10, (.p 7 0)), (9, (.ls z12 6 (([] ++ b).length) cap14)), (8, (.ls z6 4 (([] ++ a).length) cap8)), (7, (.v (.bool true))), (6, (.v (.bool false))), (5, (.p 2 0)), (4, (.p 1 0)), (3, (.p 0 0))], [(8, (.cells 24 [(.v (.slice A_r21 n_r21 c_r21)), (.v (.slice A_r22 n_r22 c_r22))])), (7, (.cells 24 [(.v (.slice A_r17 n_r17 c_r17)), (.v (.slice A_r18 n_r18 c_r18))])), (6, (.lst z12 3 arr13)), (4, (.lst z6 3 arr7)), (2, (.cells 37 [(.v (.slice A_a n_a c_a)), (.v (.slice A_b n_b c_b)), (.v (.int .i64 kd)), (.v (.int .i64 pk))])), (1, (.cells 35 [(.v (.slice A_tk2 n_tk2 c_tk2)), (.v (.slice A_nm2 n_nm2 c_nm2)), (.v (.slice A_rs2 n_rs2 c_rs2))])), (0, (.cells 35 [(.v (.slice A_tk n_tk c_tk)), (.v (.slice A_nm n_nm c_nm)), (.v (.slice A_rs n_rs c_rs))]))], 9, [], []⟩ (by kernel_rfl) ?_
    refine WL_nil ?_
    refine WQ_code ?_
    refine WC_seq (WC_region ?_)
    refine WL_execS htb 3 [57, 55, 14, 13, 12, 11, 10, 9, 8, 7, 6, 5, 4, 3] [8, 7, 6, 4, 2, 1, 0] ⟨[(57, (.agg [(.v (.slice A_a n_a c_a)), (.v (.slice A_b n_b c_b))])), (55, (.agg [(.v (.slice A_tk n_tk c_tk)), (.v (.slice A_nm n_nm c_nm)), (.v (.slice A_rs n_rs c_rs))])), (14, (.v (.bool (r19 == r23)))), (13, (.v (.bool r23))), (12, (.p 8 0)), (11, (.v (.bool r19))), (10, (.p 7 0)), (9, (.ls z12 6 (([] ++ b).length) cap14)), (8, (.ls z6 4 (([] ++ a).length) cap8)), (7, (.v (.bool true))), (6, (.v (.bool false))), (5, (.p 2 0)), (4, (.p 1 0)), (3, (.p 0 0))], [(8, (.cells 24 [(.v (.slice A_r21 n_r21 c_r21)), (.v (.slice A_r22 n_r22 c_r22))])), (7, (.cells 24 [(.v (.slice A_r17 n_r17 c_r17)), (.v (.slice A_r18 n_r18 c_r18))])), (6, (.lst z12 3 arr13)), (4, (.lst z6 3 arr7)), (2, (.cells 37 [(.v (.slice A_a n_a c_a)), (.v (.slice A_b n_b c_b)), (.v (.int .i64 kd)), (.v (.int .i64 pk))])), (1, (.cells 35 [(.v (.slice A_tk2 n_tk2 c_tk2)), (.v (.slice A_nm2 n_nm2 c_nm2)), (.v (.slice A_rs2 n_rs2 c_rs2))])), (0, (.cells 35 [(.v (.slice A_tk n_tk c_tk)), (.v (.slice A_nm n_nm c_nm)), (.v (.slice A_rs n_rs c_rs))]))], 9, [], []⟩ (by kernel_rfl) ?_
    refine WL_op (WOp_call 18 [(.agg [(.v (.slice A_tk n_tk c_tk)), (.v (.slice A_nm n_nm c_nm)), (.v (.slice A_rs n_rs c_rs))]), (.agg [(.v (.slice A_a n_a c_a)), (.v (.slice A_b n_b c_b))])] (by kernel_rfl) (goes_of Try.func18 rfl rfl) (fun ρ w hW => old_ok hW.has (tk := tk) (nm := nm) (rs := rs) (a := a) (b := b) h_tk h_nm h_rs h_a h_b hs1 (by omega) (by omega)) ?_)
    intro G6 v hle hΦ
    replace h_tk := h_tk.mono hle
    replace h_nm := h_nm.mono hle
    replace h_rs := h_rs.mono hle
    replace h_tk2 := h_tk2.mono hle
    replace h_nm2 := h_nm2.mono hle
    replace h_rs2 := h_rs2.mono hle
    replace h_a := h_a.mono hle
    replace h_b := h_b.mono hle
    replace h_r17 := h_r17.mono hle
    replace h_r18 := h_r18.mono hle
    replace h_r21 := h_r21.mono hle
    replace h_r22 := h_r22.mono hle
    replace ho10 := ho10.mono hle
    replace ho16 := ho16.mono hle
    obtain ⟨r28, A_r28, n_r28, c_r28, r29, rfl, h_r28, hR30⟩ := hΦ
    have lh_r28 := h_r28.len'
    refine WL_execS htb 5 [11, 15, 14, 13, 12, 10, 9, 8, 7, 6, 5, 4, 3] [8, 7, 6, 4, 2, 1, 0] ⟨[(11, (.v (.bool r29))), (15, (.v (.slice A_r28 n_r28 c_r28))), (14, (.v (.bool (r19 == r23)))), (13, (.v (.bool r23))), (12, (.p 8 0)), (10, (.p 7 0)), (9, (.ls z12 6 (([] ++ b).length) cap14)), (8, (.ls z6 4 (([] ++ a).length) cap8)), (7, (.v (.bool true))), (6, (.v (.bool false))), (5, (.p 2 0)), (4, (.p 1 0)), (3, (.p 0 0))], [(8, (.cells 24 [(.v (.slice A_r21 n_r21 c_r21)), (.v (.slice A_r22 n_r22 c_r22))])), (7, (.cells 24 [(.v (.slice A_r17 n_r17 c_r17)), (.v (.slice A_r18 n_r18 c_r18))])), (6, (.lst z12 3 arr13)), (4, (.lst z6 3 arr7)), (2, (.cells 37 [(.v (.slice A_a n_a c_a)), (.v (.slice A_b n_b c_b)), (.v (.int .i64 kd)), (.v (.int .i64 pk))])), (1, (.cells 35 [(.v (.slice A_tk2 n_tk2 c_tk2)), (.v (.slice A_nm2 n_nm2 c_nm2)), (.v (.slice A_rs2 n_rs2 c_rs2))])), (0, (.cells 35 [(.v (.slice A_tk n_tk c_tk)), (.v (.slice A_nm n_nm c_nm)), (.v (.slice A_rs n_rs c_rs))]))], 9, [], []⟩ (by kernel_rfl) ?_
    refine WL_nil ?_
    refine WQ_code ?_
    refine WC_seq (WC_region ?_)
    refine WL_execS htb 3 [64, 62, 11, 15, 14, 13, 12, 10, 9, 8, 7, 6, 5, 4, 3] [8, 7, 6, 4, 2, 1, 0] ⟨[(64, (.agg [(.v (.slice A_a n_a c_a)), (.v (.slice A_b n_b c_b))])), (62, (.agg [(.v (.slice A_tk n_tk c_tk)), (.v (.slice A_nm n_nm c_nm)), (.v (.slice A_rs n_rs c_rs))])), (11, (.v (.bool r29))), (15, (.v (.slice A_r28 n_r28 c_r28))), (14, (.v (.bool (r19 == r23)))), (13, (.v (.bool r23))), (12, (.p 8 0)), (10, (.p 7 0)), (9, (.ls z12 6 (([] ++ b).length) cap14)), (8, (.ls z6 4 (([] ++ a).length) cap8)), (7, (.v (.bool true))), (6, (.v (.bool false))), (5, (.p 2 0)), (4, (.p 1 0)), (3, (.p 0 0))], [(8, (.cells 24 [(.v (.slice A_r21 n_r21 c_r21)), (.v (.slice A_r22 n_r22 c_r22))])), (7, (.cells 24 [(.v (.slice A_r17 n_r17 c_r17)), (.v (.slice A_r18 n_r18 c_r18))])), (6, (.lst z12 3 arr13)), (4, (.lst z6 3 arr7)), (2, (.cells 37 [(.v (.slice A_a n_a c_a)), (.v (.slice A_b n_b c_b)), (.v (.int .i64 kd)), (.v (.int .i64 pk))])), (1, (.cells 35 [(.v (.slice A_tk2 n_tk2 c_tk2)), (.v (.slice A_nm2 n_nm2 c_nm2)), (.v (.slice A_rs2 n_rs2 c_rs2))])), (0, (.cells 35 [(.v (.slice A_tk n_tk c_tk)), (.v (.slice A_nm n_nm c_nm)), (.v (.slice A_rs n_rs c_rs))]))], 9, [], []⟩ (by kernel_rfl) ?_
    refine WL_op (WOp_call 19 [(.agg [(.v (.slice A_tk n_tk c_tk)), (.v (.slice A_nm n_nm c_nm)), (.v (.slice A_rs n_rs c_rs))]), (.agg [(.v (.slice A_a n_a c_a)), (.v (.slice A_b n_b c_b))])] (by kernel_rfl) (goes_of Try.func19 rfl rfl) (fun ρ w hW => rold_ok hW.has (tk := tk) (nm := nm) (rs := rs) (a := a) (b := b) h_tk h_nm h_rs h_a h_b hs1 (by omega) (by omega)) ?_)
    intro G7 v hle hΦ
    replace h_tk := h_tk.mono hle
    replace h_nm := h_nm.mono hle
    replace h_rs := h_rs.mono hle
    replace h_tk2 := h_tk2.mono hle
    replace h_nm2 := h_nm2.mono hle
    replace h_rs2 := h_rs2.mono hle
    replace h_a := h_a.mono hle
    replace h_b := h_b.mono hle
    replace h_r17 := h_r17.mono hle
    replace h_r18 := h_r18.mono hle
    replace h_r21 := h_r21.mono hle
    replace h_r22 := h_r22.mono hle
    replace h_r28 := h_r28.mono hle
    replace ho10 := ho10.mono hle
    replace ho16 := ho16.mono hle
    obtain ⟨r31, A_r31, n_r31, c_r31, r32, rfl, h_r31, hR33⟩ := hΦ
    have lh_r31 := h_r31.len'
    have hp34 := hR33.trans hR30.symm
    simp only [Prod.mk.injEq] at hp34
    refine WL_execS htb 5 [13, 16, 11, 15, 14, 12, 10, 9, 8, 7, 6, 5, 4, 3] [8, 7, 6, 4, 2, 1, 0] ⟨[(13, (.v (.bool r32))), (16, (.v (.slice A_r31 n_r31 c_r31))), (11, (.v (.bool r29))), (15, (.v (.slice A_r28 n_r28 c_r28))), (14, (.v (.bool (r19 == r23)))), (12, (.p 8 0)), (10, (.p 7 0)), (9, (.ls z12 6 (([] ++ b).length) cap14)), (8, (.ls z6 4 (([] ++ a).length) cap8)), (7, (.v (.bool true))), (6, (.v (.bool false))), (5, (.p 2 0)), (4, (.p 1 0)), (3, (.p 0 0))], [(8, (.cells 24 [(.v (.slice A_r21 n_r21 c_r21)), (.v (.slice A_r22 n_r22 c_r22))])), (7, (.cells 24 [(.v (.slice A_r17 n_r17 c_r17)), (.v (.slice A_r18 n_r18 c_r18))])), (6, (.lst z12 3 arr13)), (4, (.lst z6 3 arr7)), (2, (.cells 37 [(.v (.slice A_a n_a c_a)), (.v (.slice A_b n_b c_b)), (.v (.int .i64 kd)), (.v (.int .i64 pk))])), (1, (.cells 35 [(.v (.slice A_tk2 n_tk2 c_tk2)), (.v (.slice A_nm2 n_nm2 c_nm2)), (.v (.slice A_rs2 n_rs2 c_rs2))])), (0, (.cells 35 [(.v (.slice A_tk n_tk c_tk)), (.v (.slice A_nm n_nm c_nm)), (.v (.slice A_rs n_rs c_rs))]))], 9, [], []⟩ (by kernel_rfl) ?_
    refine WL_nil ?_
    refine WQ_code ?_
    refine WC_seq (WC_region ?_)
    refine WL_execS htb 2 [69, 13, 16, 11, 15, 14, 12, 10, 9, 8, 7, 6, 5, 4, 3] [8, 7, 6, 4, 2, 1, 0] ⟨[(69, (.v (.bool (r19 == r23)))), (13, (.v (.bool r32))), (16, (.v (.slice A_r31 n_r31 c_r31))), (11, (.v (.bool r29))), (15, (.v (.slice A_r28 n_r28 c_r28))), (14, (.v (.bool (r19 == r23)))), (12, (.p 8 0)), (10, (.p 7 0)), (9, (.ls z12 6 (([] ++ b).length) cap14)), (8, (.ls z6 4 (([] ++ a).length) cap8)), (7, (.v (.bool true))), (6, (.v (.bool false))), (5, (.p 2 0)), (4, (.p 1 0)), (3, (.p 0 0))], [(8, (.cells 24 [(.v (.slice A_r21 n_r21 c_r21)), (.v (.slice A_r22 n_r22 c_r22))])), (7, (.cells 24 [(.v (.slice A_r17 n_r17 c_r17)), (.v (.slice A_r18 n_r18 c_r18))])), (6, (.lst z12 3 arr13)), (4, (.lst z6 3 arr7)), (2, (.cells 37 [(.v (.slice A_a n_a c_a)), (.v (.slice A_b n_b c_b)), (.v (.int .i64 kd)), (.v (.int .i64 pk))])), (1, (.cells 35 [(.v (.slice A_tk2 n_tk2 c_tk2)), (.v (.slice A_nm2 n_nm2 c_nm2)), (.v (.slice A_rs2 n_rs2 c_rs2))])), (0, (.cells 35 [(.v (.slice A_tk n_tk c_tk)), (.v (.slice A_nm n_nm c_nm)), (.v (.slice A_rs n_rs c_rs))]))], 9, [], []⟩ (by kernel_rfl) ?_
    refine WK_env [(69, (.v (.bool true))), (13, (.v (.bool r32))), (16, (.v (.slice A_r31 n_r31 c_r31))), (11, (.v (.bool r29))), (15, (.v (.slice A_r28 n_r28 c_r28))), (14, (.v (.bool (r19 == r23)))), (12, (.p 8 0)), (10, (.p 7 0)), (9, (.ls z12 6 (([] ++ b).length) cap14)), (8, (.ls z6 4 (([] ++ a).length) cap8)), (7, (.v (.bool true))), (6, (.v (.bool false))), (5, (.p 2 0)), (4, (.p 1 0)), (3, (.p 0 0))] (fun ρ => ⟨rfl, (congrArg Value.bool (by simp [hp25, hp34])), ⟨rfl, rfl, ⟨rfl, rfl, ⟨rfl, rfl, ⟨rfl, rfl, ⟨rfl, rfl, ⟨rfl, rfl, ⟨rfl, rfl, ⟨rfl, rfl, ⟨rfl, rfl, ⟨rfl, rfl, ⟨rfl, rfl, ⟨rfl, rfl, ⟨rfl, rfl, ⟨rfl, rfl, trivial⟩⟩⟩⟩⟩⟩⟩⟩⟩⟩⟩⟩⟩⟩⟩) ?_
    refine WL_execS htb 2 [71, 70, 69, 13, 16, 11, 15, 14, 12, 10, 9, 8, 7, 6, 5, 4, 3] [8, 7, 6, 4, 2, 1, 0] ⟨[(71, (.v (.slice A_r31 n_r31 c_r31))), (70, (.v (.slice A_r28 n_r28 c_r28))), (69, (.v (.bool true))), (13, (.v (.bool r32))), (16, (.v (.slice A_r31 n_r31 c_r31))), (11, (.v (.bool r29))), (15, (.v (.slice A_r28 n_r28 c_r28))), (14, (.v (.bool (r19 == r23)))), (12, (.p 8 0)), (10, (.p 7 0)), (9, (.ls z12 6 (([] ++ b).length) cap14)), (8, (.ls z6 4 (([] ++ a).length) cap8)), (7, (.v (.bool true))), (6, (.v (.bool false))), (5, (.p 2 0)), (4, (.p 1 0)), (3, (.p 0 0))], [(8, (.cells 24 [(.v (.slice A_r21 n_r21 c_r21)), (.v (.slice A_r22 n_r22 c_r22))])), (7, (.cells 24 [(.v (.slice A_r17 n_r17 c_r17)), (.v (.slice A_r18 n_r18 c_r18))])), (6, (.lst z12 3 arr13)), (4, (.lst z6 3 arr7)), (2, (.cells 37 [(.v (.slice A_a n_a c_a)), (.v (.slice A_b n_b c_b)), (.v (.int .i64 kd)), (.v (.int .i64 pk))])), (1, (.cells 35 [(.v (.slice A_tk2 n_tk2 c_tk2)), (.v (.slice A_nm2 n_nm2 c_nm2)), (.v (.slice A_rs2 n_rs2 c_rs2))])), (0, (.cells 35 [(.v (.slice A_tk n_tk c_tk)), (.v (.slice A_nm n_nm c_nm)), (.v (.slice A_rs n_rs c_rs))]))], 9, [], []⟩ (by kernel_rfl) ?_
    refine WL_op (WOp_call 20 [(.v (.slice A_r28 n_r28 c_r28)), (.v (.slice A_r31 n_r31 c_r31))] (by kernel_rfl) (goes_of Try.func20 rfl rfl) (fun ρ w hW => sameAll_ok hW.has (xs := r28) (ys := r31) h_r28 h_r31) ?_)
    intro G8 v hle hΦ
    replace h_tk := h_tk.mono hle
    replace h_nm := h_nm.mono hle
    replace h_rs := h_rs.mono hle
    replace h_tk2 := h_tk2.mono hle
    replace h_nm2 := h_nm2.mono hle
    replace h_rs2 := h_rs2.mono hle
    replace h_a := h_a.mono hle
    replace h_b := h_b.mono hle
    replace h_r17 := h_r17.mono hle
    replace h_r18 := h_r18.mono hle
    replace h_r21 := h_r21.mono hle
    replace h_r22 := h_r22.mono hle
    replace h_r28 := h_r28.mono hle
    replace h_r31 := h_r31.mono hle
    replace ho10 := ho10.mono hle
    replace ho16 := ho16.mono hle
    obtain ⟨r35, rfl, hR36⟩ := hΦ
    replace hR36 := hR36.trans (show _ = true by simp [hp34])
    obtain rfl := hR36
    refine WL_execS htb 7 [14, 13, 16, 11, 15, 12, 10, 9, 8, 7, 6, 5, 4, 3] [8, 7, 6, 4, 2, 1, 0] ⟨[(14, (.v (.bool (r29 == r32)))), (13, (.v (.bool r32))), (16, (.v (.slice A_r31 n_r31 c_r31))), (11, (.v (.bool r29))), (15, (.v (.slice A_r28 n_r28 c_r28))), (12, (.p 8 0)), (10, (.p 7 0)), (9, (.ls z12 6 (([] ++ b).length) cap14)), (8, (.ls z6 4 (([] ++ a).length) cap8)), (7, (.v (.bool true))), (6, (.v (.bool false))), (5, (.p 2 0)), (4, (.p 1 0)), (3, (.p 0 0))], [(8, (.cells 24 [(.v (.slice A_r21 n_r21 c_r21)), (.v (.slice A_r22 n_r22 c_r22))])), (7, (.cells 24 [(.v (.slice A_r17 n_r17 c_r17)), (.v (.slice A_r18 n_r18 c_r18))])), (6, (.lst z12 3 arr13)), (4, (.lst z6 3 arr7)), (2, (.cells 37 [(.v (.slice A_a n_a c_a)), (.v (.slice A_b n_b c_b)), (.v (.int .i64 kd)), (.v (.int .i64 pk))])), (1, (.cells 35 [(.v (.slice A_tk2 n_tk2 c_tk2)), (.v (.slice A_nm2 n_nm2 c_nm2)), (.v (.slice A_rs2 n_rs2 c_rs2))])), (0, (.cells 35 [(.v (.slice A_tk n_tk c_tk)), (.v (.slice A_nm n_nm c_nm)), (.v (.slice A_rs n_rs c_rs))]))], 9, [], []⟩ (by kernel_rfl) ?_
    refine WL_nil ?_
    refine WQ_code ?_
    refine WC_seq (WC_region ?_)
    refine WL_execS htb 5 [84, 82, 80, 14, 13, 16, 11, 15, 12, 10, 9, 8, 7, 6, 5, 4, 3] [8, 7, 6, 4, 2, 1, 0] ⟨[(84, (.v (.int .i64 pk))), (82, (.agg [(.v (.slice A_a n_a c_a)), (.v (.slice A_b n_b c_b))])), (80, (.agg [(.v (.slice A_tk2 n_tk2 c_tk2)), (.v (.slice A_nm2 n_nm2 c_nm2)), (.v (.slice A_rs2 n_rs2 c_rs2))])), (14, (.v (.bool (r29 == r32)))), (13, (.v (.bool r32))), (16, (.v (.slice A_r31 n_r31 c_r31))), (11, (.v (.bool r29))), (15, (.v (.slice A_r28 n_r28 c_r28))), (12, (.p 8 0)), (10, (.p 7 0)), (9, (.ls z12 6 (([] ++ b).length) cap14)), (8, (.ls z6 4 (([] ++ a).length) cap8)), (7, (.v (.bool true))), (6, (.v (.bool false))), (5, (.p 2 0)), (4, (.p 1 0)), (3, (.p 0 0))], [(8, (.cells 24 [(.v (.slice A_r21 n_r21 c_r21)), (.v (.slice A_r22 n_r22 c_r22))])), (7, (.cells 24 [(.v (.slice A_r17 n_r17 c_r17)), (.v (.slice A_r18 n_r18 c_r18))])), (6, (.lst z12 3 arr13)), (4, (.lst z6 3 arr7)), (2, (.cells 37 [(.v (.slice A_a n_a c_a)), (.v (.slice A_b n_b c_b)), (.v (.int .i64 kd)), (.v (.int .i64 pk))])), (1, (.cells 35 [(.v (.slice A_tk2 n_tk2 c_tk2)), (.v (.slice A_nm2 n_nm2 c_nm2)), (.v (.slice A_rs2 n_rs2 c_rs2))])), (0, (.cells 35 [(.v (.slice A_tk n_tk c_tk)), (.v (.slice A_nm n_nm c_nm)), (.v (.slice A_rs n_rs c_rs))]))], 9, [], []⟩ (by kernel_rfl) ?_
    refine WL_op (WOp_call 21 [(.agg [(.v (.slice A_tk2 n_tk2 c_tk2)), (.v (.slice A_nm2 n_nm2 c_nm2)), (.v (.slice A_rs2 n_rs2 c_rs2))]), (.agg [(.v (.slice A_a n_a c_a)), (.v (.slice A_b n_b c_b))]), (.v (.int .i64 pk))] (by kernel_rfl) (goes_of Try.func21 rfl rfl) (fun ρ w hW => new_ok hW.has (tk := tk2) (nm := nm2) (rs := rs2) (a := a) (b := b) (k := pk) h_tk2 h_nm2 h_rs2 h_a h_b h_pk hs2 (by omega) (by omega)) ?_)
    intro G9 v hle hΦ
    replace h_tk := h_tk.mono hle
    replace h_nm := h_nm.mono hle
    replace h_rs := h_rs.mono hle
    replace h_tk2 := h_tk2.mono hle
    replace h_nm2 := h_nm2.mono hle
    replace h_rs2 := h_rs2.mono hle
    replace h_a := h_a.mono hle
    replace h_b := h_b.mono hle
    replace h_r17 := h_r17.mono hle
    replace h_r18 := h_r18.mono hle
    replace h_r21 := h_r21.mono hle
    replace h_r22 := h_r22.mono hle
    replace h_r28 := h_r28.mono hle
    replace h_r31 := h_r31.mono hle
    replace ho10 := ho10.mono hle
    replace ho16 := ho16.mono hle
    obtain ⟨r37, A_r37, n_r37, c_r37, r38, A_r38, n_r38, c_r38, r39, rfl, h_r37, h_r38, hR40⟩ := hΦ
    have lh_r37 := h_r37.len'
    have lh_r38 := h_r38.len'
    refine WL_execS htb 5 [11, 14, 13, 16, 15, 12, 10, 9, 8, 7, 6, 5, 4, 3] [8, 7, 6, 4, 2, 1, 0] ⟨[(11, (.v (.bool r39))), (14, (.v (.bool (r29 == r32)))), (13, (.v (.bool r32))), (16, (.v (.slice A_r31 n_r31 c_r31))), (15, (.v (.slice A_r28 n_r28 c_r28))), (12, (.p 8 0)), (10, (.p 7 0)), (9, (.ls z12 6 (([] ++ b).length) cap14)), (8, (.ls z6 4 (([] ++ a).length) cap8)), (7, (.v (.bool true))), (6, (.v (.bool false))), (5, (.p 2 0)), (4, (.p 1 0)), (3, (.p 0 0))], [(8, (.cells 24 [(.v (.slice A_r21 n_r21 c_r21)), (.v (.slice A_r22 n_r22 c_r22))])), (7, (.cells 24 [(.v (.slice A_r37 n_r37 c_r37)), (.v (.slice A_r38 n_r38 c_r38))])), (6, (.lst z12 3 arr13)), (4, (.lst z6 3 arr7)), (2, (.cells 37 [(.v (.slice A_a n_a c_a)), (.v (.slice A_b n_b c_b)), (.v (.int .i64 kd)), (.v (.int .i64 pk))])), (1, (.cells 35 [(.v (.slice A_tk2 n_tk2 c_tk2)), (.v (.slice A_nm2 n_nm2 c_nm2)), (.v (.slice A_rs2 n_rs2 c_rs2))])), (0, (.cells 35 [(.v (.slice A_tk n_tk c_tk)), (.v (.slice A_nm n_nm c_nm)), (.v (.slice A_rs n_rs c_rs))]))], 9, [], []⟩ (by kernel_rfl) ?_
    refine WL_nil ?_
    refine WQ_code ?_
    refine WC_seq (WC_region ?_)
    refine WL_execS htb 5 [93, 91, 89, 11, 14, 13, 16, 15, 12, 10, 9, 8, 7, 6, 5, 4, 3] [8, 7, 6, 4, 2, 1, 0] ⟨[(93, (.v (.int .i64 pk))), (91, (.agg [(.v (.slice A_a n_a c_a)), (.v (.slice A_b n_b c_b))])), (89, (.agg [(.v (.slice A_tk2 n_tk2 c_tk2)), (.v (.slice A_nm2 n_nm2 c_nm2)), (.v (.slice A_rs2 n_rs2 c_rs2))])), (11, (.v (.bool r39))), (14, (.v (.bool (r29 == r32)))), (13, (.v (.bool r32))), (16, (.v (.slice A_r31 n_r31 c_r31))), (15, (.v (.slice A_r28 n_r28 c_r28))), (12, (.p 8 0)), (10, (.p 7 0)), (9, (.ls z12 6 (([] ++ b).length) cap14)), (8, (.ls z6 4 (([] ++ a).length) cap8)), (7, (.v (.bool true))), (6, (.v (.bool false))), (5, (.p 2 0)), (4, (.p 1 0)), (3, (.p 0 0))], [(8, (.cells 24 [(.v (.slice A_r21 n_r21 c_r21)), (.v (.slice A_r22 n_r22 c_r22))])), (7, (.cells 24 [(.v (.slice A_r37 n_r37 c_r37)), (.v (.slice A_r38 n_r38 c_r38))])), (6, (.lst z12 3 arr13)), (4, (.lst z6 3 arr7)), (2, (.cells 37 [(.v (.slice A_a n_a c_a)), (.v (.slice A_b n_b c_b)), (.v (.int .i64 kd)), (.v (.int .i64 pk))])), (1, (.cells 35 [(.v (.slice A_tk2 n_tk2 c_tk2)), (.v (.slice A_nm2 n_nm2 c_nm2)), (.v (.slice A_rs2 n_rs2 c_rs2))])), (0, (.cells 35 [(.v (.slice A_tk n_tk c_tk)), (.v (.slice A_nm n_nm c_nm)), (.v (.slice A_rs n_rs c_rs))]))], 9, [], []⟩ (by kernel_rfl) ?_
    refine WL_op (WOp_call 22 [(.agg [(.v (.slice A_tk2 n_tk2 c_tk2)), (.v (.slice A_nm2 n_nm2 c_nm2)), (.v (.slice A_rs2 n_rs2 c_rs2))]), (.agg [(.v (.slice A_a n_a c_a)), (.v (.slice A_b n_b c_b))]), (.v (.int .i64 pk))] (by kernel_rfl) (goes_of Try.func22 rfl rfl) (fun ρ w hW => rnew_ok hW.has (tk := tk2) (nm := nm2) (rs := rs2) (a := a) (b := b) (k := pk) h_tk2 h_nm2 h_rs2 h_a h_b h_pk hs2 (by omega) (by omega)) ?_)
    intro G10 v hle hΦ
    replace h_tk := h_tk.mono hle
    replace h_nm := h_nm.mono hle
    replace h_rs := h_rs.mono hle
    replace h_tk2 := h_tk2.mono hle
    replace h_nm2 := h_nm2.mono hle
    replace h_rs2 := h_rs2.mono hle
    replace h_a := h_a.mono hle
    replace h_b := h_b.mono hle
    replace h_r17 := h_r17.mono hle
    replace h_r18 := h_r18.mono hle
    replace h_r21 := h_r21.mono hle
    replace h_r22 := h_r22.mono hle
    replace h_r28 := h_r28.mono hle
    replace h_r31 := h_r31.mono hle
    replace h_r37 := h_r37.mono hle
    replace h_r38 := h_r38.mono hle
    replace ho10 := ho10.mono hle
    replace ho16 := ho16.mono hle
    obtain ⟨r41, A_r41, n_r41, c_r41, r42, A_r42, n_r42, c_r42, r43, rfl, h_r41, h_r42, hR44⟩ := hΦ
    have lh_r41 := h_r41.len'
    have lh_r42 := h_r42.len'
    have hp45 := hR44.trans hR40.symm
    simp only [Prod.mk.injEq] at hp45
    refine WL_execS htb 5 [13, 11, 14, 16, 15, 12, 10, 9, 8, 7, 6, 5, 4, 3] [8, 7, 6, 4, 2, 1, 0] ⟨[(13, (.v (.bool r43))), (11, (.v (.bool r39))), (14, (.v (.bool (r29 == r32)))), (16, (.v (.slice A_r31 n_r31 c_r31))), (15, (.v (.slice A_r28 n_r28 c_r28))), (12, (.p 8 0)), (10, (.p 7 0)), (9, (.ls z12 6 (([] ++ b).length) cap14)), (8, (.ls z6 4 (([] ++ a).length) cap8)), (7, (.v (.bool true))), (6, (.v (.bool false))), (5, (.p 2 0)), (4, (.p 1 0)), (3, (.p 0 0))], [(8, (.cells 24 [(.v (.slice A_r41 n_r41 c_r41)), (.v (.slice A_r42 n_r42 c_r42))])), (7, (.cells 24 [(.v (.slice A_r37 n_r37 c_r37)), (.v (.slice A_r38 n_r38 c_r38))])), (6, (.lst z12 3 arr13)), (4, (.lst z6 3 arr7)), (2, (.cells 37 [(.v (.slice A_a n_a c_a)), (.v (.slice A_b n_b c_b)), (.v (.int .i64 kd)), (.v (.int .i64 pk))])), (1, (.cells 35 [(.v (.slice A_tk2 n_tk2 c_tk2)), (.v (.slice A_nm2 n_nm2 c_nm2)), (.v (.slice A_rs2 n_rs2 c_rs2))])), (0, (.cells 35 [(.v (.slice A_tk n_tk c_tk)), (.v (.slice A_nm n_nm c_nm)), (.v (.slice A_rs n_rs c_rs))]))], 9, [], []⟩ (by kernel_rfl) ?_
    refine WL_nil ?_
    refine WQ_code ?_
    refine WC_seq (WC_region ?_)
    refine WL_execS htb 2 [98, 13, 11, 14, 16, 15, 12, 10, 9, 8, 7, 6, 5, 4, 3] [8, 7, 6, 4, 2, 1, 0] ⟨[(98, (.v (.bool (r29 == r32)))), (13, (.v (.bool r43))), (11, (.v (.bool r39))), (14, (.v (.bool (r29 == r32)))), (16, (.v (.slice A_r31 n_r31 c_r31))), (15, (.v (.slice A_r28 n_r28 c_r28))), (12, (.p 8 0)), (10, (.p 7 0)), (9, (.ls z12 6 (([] ++ b).length) cap14)), (8, (.ls z6 4 (([] ++ a).length) cap8)), (7, (.v (.bool true))), (6, (.v (.bool false))), (5, (.p 2 0)), (4, (.p 1 0)), (3, (.p 0 0))], [(8, (.cells 24 [(.v (.slice A_r41 n_r41 c_r41)), (.v (.slice A_r42 n_r42 c_r42))])), (7, (.cells 24 [(.v (.slice A_r37 n_r37 c_r37)), (.v (.slice A_r38 n_r38 c_r38))])), (6, (.lst z12 3 arr13)), (4, (.lst z6 3 arr7)), (2, (.cells 37 [(.v (.slice A_a n_a c_a)), (.v (.slice A_b n_b c_b)), (.v (.int .i64 kd)), (.v (.int .i64 pk))])), (1, (.cells 35 [(.v (.slice A_tk2 n_tk2 c_tk2)), (.v (.slice A_nm2 n_nm2 c_nm2)), (.v (.slice A_rs2 n_rs2 c_rs2))])), (0, (.cells 35 [(.v (.slice A_tk n_tk c_tk)), (.v (.slice A_nm n_nm c_nm)), (.v (.slice A_rs n_rs c_rs))]))], 9, [], []⟩ (by kernel_rfl) ?_
    refine WK_env [(98, (.v (.bool true))), (13, (.v (.bool r43))), (11, (.v (.bool r39))), (14, (.v (.bool (r29 == r32)))), (16, (.v (.slice A_r31 n_r31 c_r31))), (15, (.v (.slice A_r28 n_r28 c_r28))), (12, (.p 8 0)), (10, (.p 7 0)), (9, (.ls z12 6 (([] ++ b).length) cap14)), (8, (.ls z6 4 (([] ++ a).length) cap8)), (7, (.v (.bool true))), (6, (.v (.bool false))), (5, (.p 2 0)), (4, (.p 1 0)), (3, (.p 0 0))] (fun ρ => ⟨rfl, (congrArg Value.bool (by simp [hp25, hp34, hp45])), ⟨rfl, rfl, ⟨rfl, rfl, ⟨rfl, rfl, ⟨rfl, rfl, ⟨rfl, rfl, ⟨rfl, rfl, ⟨rfl, rfl, ⟨rfl, rfl, ⟨rfl, rfl, ⟨rfl, rfl, ⟨rfl, rfl, ⟨rfl, rfl, ⟨rfl, rfl, ⟨rfl, rfl, trivial⟩⟩⟩⟩⟩⟩⟩⟩⟩⟩⟩⟩⟩⟩⟩) ?_
    refine WL_execS htb 2 [100, 99, 98, 13, 11, 14, 16, 15, 12, 10, 9, 8, 7, 6, 5, 4, 3] [8, 7, 6, 4, 2, 1, 0] ⟨[(100, (.agg [(.v (.slice A_r41 n_r41 c_r41)), (.v (.slice A_r42 n_r42 c_r42))])), (99, (.agg [(.v (.slice A_r37 n_r37 c_r37)), (.v (.slice A_r38 n_r38 c_r38))])), (98, (.v (.bool true))), (13, (.v (.bool r43))), (11, (.v (.bool r39))), (14, (.v (.bool (r29 == r32)))), (16, (.v (.slice A_r31 n_r31 c_r31))), (15, (.v (.slice A_r28 n_r28 c_r28))), (12, (.p 8 0)), (10, (.p 7 0)), (9, (.ls z12 6 (([] ++ b).length) cap14)), (8, (.ls z6 4 (([] ++ a).length) cap8)), (7, (.v (.bool true))), (6, (.v (.bool false))), (5, (.p 2 0)), (4, (.p 1 0)), (3, (.p 0 0))], [(8, (.cells 24 [(.v (.slice A_r41 n_r41 c_r41)), (.v (.slice A_r42 n_r42 c_r42))])), (7, (.cells 24 [(.v (.slice A_r37 n_r37 c_r37)), (.v (.slice A_r38 n_r38 c_r38))])), (6, (.lst z12 3 arr13)), (4, (.lst z6 3 arr7)), (2, (.cells 37 [(.v (.slice A_a n_a c_a)), (.v (.slice A_b n_b c_b)), (.v (.int .i64 kd)), (.v (.int .i64 pk))])), (1, (.cells 35 [(.v (.slice A_tk2 n_tk2 c_tk2)), (.v (.slice A_nm2 n_nm2 c_nm2)), (.v (.slice A_rs2 n_rs2 c_rs2))])), (0, (.cells 35 [(.v (.slice A_tk n_tk c_tk)), (.v (.slice A_nm n_nm c_nm)), (.v (.slice A_rs n_rs c_rs))]))], 9, [], []⟩ (by kernel_rfl) ?_
    refine WL_op (WOp_call 14 [(.agg [(.v (.slice A_r37 n_r37 c_r37)), (.v (.slice A_r38 n_r38 c_r38))]), (.agg [(.v (.slice A_r41 n_r41 c_r41)), (.v (.slice A_r42 n_r42 c_r42))])] (by kernel_rfl) (goes_of Try.func14 rfl rfl) (fun ρ w hW => rsame_ok hW.has (a1 := r37) (a2 := r38) (b1 := r41) (b2 := r42) h_r37 h_r38 h_r41 h_r42) ?_)
    intro G11 v hle hΦ
    replace h_tk := h_tk.mono hle
    replace h_nm := h_nm.mono hle
    replace h_rs := h_rs.mono hle
    replace h_tk2 := h_tk2.mono hle
    replace h_nm2 := h_nm2.mono hle
    replace h_rs2 := h_rs2.mono hle
    replace h_a := h_a.mono hle
    replace h_b := h_b.mono hle
    replace h_r17 := h_r17.mono hle
    replace h_r18 := h_r18.mono hle
    replace h_r21 := h_r21.mono hle
    replace h_r22 := h_r22.mono hle
    replace h_r28 := h_r28.mono hle
    replace h_r31 := h_r31.mono hle
    replace h_r37 := h_r37.mono hle
    replace h_r38 := h_r38.mono hle
    replace h_r41 := h_r41.mono hle
    replace h_r42 := h_r42.mono hle
    replace ho10 := ho10.mono hle
    replace ho16 := ho16.mono hle
    obtain ⟨r46, rfl, hR47⟩ := hΦ
    replace hR47 := hR47.trans (show _ = true by simp [hp45])
    obtain rfl := hR47
    refine WL_execS htb 7 [14, 13, 11, 16, 15, 12, 10, 9, 8, 7, 6, 5, 4, 3] [8, 7, 6, 4, 2, 1, 0] ⟨[(14, (.v (.bool (r39 == r43)))), (13, (.v (.bool r43))), (11, (.v (.bool r39))), (16, (.v (.slice A_r31 n_r31 c_r31))), (15, (.v (.slice A_r28 n_r28 c_r28))), (12, (.p 8 0)), (10, (.p 7 0)), (9, (.ls z12 6 (([] ++ b).length) cap14)), (8, (.ls z6 4 (([] ++ a).length) cap8)), (7, (.v (.bool true))), (6, (.v (.bool false))), (5, (.p 2 0)), (4, (.p 1 0)), (3, (.p 0 0))], [(8, (.cells 24 [(.v (.slice A_r41 n_r41 c_r41)), (.v (.slice A_r42 n_r42 c_r42))])), (7, (.cells 24 [(.v (.slice A_r37 n_r37 c_r37)), (.v (.slice A_r38 n_r38 c_r38))])), (6, (.lst z12 3 arr13)), (4, (.lst z6 3 arr7)), (2, (.cells 37 [(.v (.slice A_a n_a c_a)), (.v (.slice A_b n_b c_b)), (.v (.int .i64 kd)), (.v (.int .i64 pk))])), (1, (.cells 35 [(.v (.slice A_tk2 n_tk2 c_tk2)), (.v (.slice A_nm2 n_nm2 c_nm2)), (.v (.slice A_rs2 n_rs2 c_rs2))])), (0, (.cells 35 [(.v (.slice A_tk n_tk c_tk)), (.v (.slice A_nm n_nm c_nm)), (.v (.slice A_rs n_rs c_rs))]))], 9, [], []⟩ (by kernel_rfl) ?_
    refine WL_nil ?_
    refine WQ_code ?_
    refine WC_seq (WC_region ?_)
    refine WL_execS htb 2 [110, 14, 13, 11, 16, 15, 12, 10, 9, 8, 7, 6, 5, 4, 3] [8, 7, 6, 4, 2, 1, 0] ⟨[(110, (.agg [(.v (.slice A_a n_a c_a)), (.v (.slice A_b n_b c_b))])), (14, (.v (.bool (r39 == r43)))), (13, (.v (.bool r43))), (11, (.v (.bool r39))), (16, (.v (.slice A_r31 n_r31 c_r31))), (15, (.v (.slice A_r28 n_r28 c_r28))), (12, (.p 8 0)), (10, (.p 7 0)), (9, (.ls z12 6 (([] ++ b).length) cap14)), (8, (.ls z6 4 (([] ++ a).length) cap8)), (7, (.v (.bool true))), (6, (.v (.bool false))), (5, (.p 2 0)), (4, (.p 1 0)), (3, (.p 0 0))], [(8, (.cells 24 [(.v (.slice A_r41 n_r41 c_r41)), (.v (.slice A_r42 n_r42 c_r42))])), (7, (.cells 24 [(.v (.slice A_r37 n_r37 c_r37)), (.v (.slice A_r38 n_r38 c_r38))])), (6, (.lst z12 3 arr13)), (4, (.lst z6 3 arr7)), (2, (.cells 37 [(.v (.slice A_a n_a c_a)), (.v (.slice A_b n_b c_b)), (.v (.int .i64 kd)), (.v (.int .i64 pk))])), (1, (.cells 35 [(.v (.slice A_tk2 n_tk2 c_tk2)), (.v (.slice A_nm2 n_nm2 c_nm2)), (.v (.slice A_rs2 n_rs2 c_rs2))])), (0, (.cells 35 [(.v (.slice A_tk n_tk c_tk)), (.v (.slice A_nm n_nm c_nm)), (.v (.slice A_rs n_rs c_rs))]))], 9, [], []⟩ (by kernel_rfl) ?_
    refine WL_op (WOp_call 12 [(.agg [(.v (.slice A_a n_a c_a)), (.v (.slice A_b n_b c_b))])] (by kernel_rfl) (goes_of Try.func12 rfl rfl) (fun ρ w hW => split_ok hW.has (a := a) (b := b) h_a h_b (by omega) (by omega)) ?_)
    intro G12 v hle hΦ
    replace h_tk := h_tk.mono hle
    replace h_nm := h_nm.mono hle
    replace h_rs := h_rs.mono hle
    replace h_tk2 := h_tk2.mono hle
    replace h_nm2 := h_nm2.mono hle
    replace h_rs2 := h_rs2.mono hle
    replace h_a := h_a.mono hle
    replace h_b := h_b.mono hle
    replace h_r17 := h_r17.mono hle
    replace h_r18 := h_r18.mono hle
    replace h_r21 := h_r21.mono hle
    replace h_r22 := h_r22.mono hle
    replace h_r28 := h_r28.mono hle
    replace h_r31 := h_r31.mono hle
    replace h_r37 := h_r37.mono hle
    replace h_r38 := h_r38.mono hle
    replace h_r41 := h_r41.mono hle
    replace h_r42 := h_r42.mono hle
    replace ho10 := ho10.mono hle
    replace ho16 := ho16.mono hle
    obtain ⟨r48, A_r48, n_r48, c_r48, r49, A_r49, n_r49, c_r49, r50, A_r50, n_r50, c_r50, r51, A_r51, n_r51, c_r51, r52, rfl, h_r48, h_r49, h_r50, h_r51, hR53⟩ := hΦ
    have lh_r48 := h_r48.len'
    have lh_r49 := h_r49.len'
    have lh_r50 := h_r50.len'
    have lh_r51 := h_r51.len'
    refine WL_execS htb 8 [11, 17, 14, 13, 16, 15, 12, 10, 9, 8, 7, 6, 5, 4, 3] [9, 8, 7, 6, 4, 2, 1, 0] ⟨[(11, (.v (.bool r52))), (17, (.p 9 0)), (14, (.v (.bool (r39 == r43)))), (13, (.v (.bool r43))), (16, (.v (.slice A_r31 n_r31 c_r31))), (15, (.v (.slice A_r28 n_r28 c_r28))), (12, (.p 8 0)), (10, (.p 7 0)), (9, (.ls z12 6 (([] ++ b).length) cap14)), (8, (.ls z6 4 (([] ++ a).length) cap8)), (7, (.v (.bool true))), (6, (.v (.bool false))), (5, (.p 2 0)), (4, (.p 1 0)), (3, (.p 0 0))], [(9, (.cells 24 [(.v (.slice A_r50 n_r50 c_r50)), (.v (.slice A_r51 n_r51 c_r51))])), (8, (.cells 24 [(.v (.slice A_r41 n_r41 c_r41)), (.v (.slice A_r42 n_r42 c_r42))])), (7, (.cells 24 [(.v (.slice A_r48 n_r48 c_r48)), (.v (.slice A_r49 n_r49 c_r49))])), (6, (.lst z12 3 arr13)), (4, (.lst z6 3 arr7)), (2, (.cells 37 [(.v (.slice A_a n_a c_a)), (.v (.slice A_b n_b c_b)), (.v (.int .i64 kd)), (.v (.int .i64 pk))])), (1, (.cells 35 [(.v (.slice A_tk2 n_tk2 c_tk2)), (.v (.slice A_nm2 n_nm2 c_nm2)), (.v (.slice A_rs2 n_rs2 c_rs2))])), (0, (.cells 35 [(.v (.slice A_tk n_tk c_tk)), (.v (.slice A_nm n_nm c_nm)), (.v (.slice A_rs n_rs c_rs))]))], 10, [], []⟩ (by kernel_rfl) ?_
    refine WL_nil ?_
    refine WQ_code ?_
    refine WC_seq (WC_region ?_)
    refine WL_execS htb 2 [117, 11, 17, 14, 13, 16, 15, 12, 10, 9, 8, 7, 6, 5, 4, 3] [9, 8, 7, 6, 4, 2, 1, 0] ⟨[(117, (.agg [(.v (.slice A_a n_a c_a)), (.v (.slice A_b n_b c_b))])), (11, (.v (.bool r52))), (17, (.p 9 0)), (14, (.v (.bool (r39 == r43)))), (13, (.v (.bool r43))), (16, (.v (.slice A_r31 n_r31 c_r31))), (15, (.v (.slice A_r28 n_r28 c_r28))), (12, (.p 8 0)), (10, (.p 7 0)), (9, (.ls z12 6 (([] ++ b).length) cap14)), (8, (.ls z6 4 (([] ++ a).length) cap8)), (7, (.v (.bool true))), (6, (.v (.bool false))), (5, (.p 2 0)), (4, (.p 1 0)), (3, (.p 0 0))], [(9, (.cells 24 [(.v (.slice A_r50 n_r50 c_r50)), (.v (.slice A_r51 n_r51 c_r51))])), (8, (.cells 24 [(.v (.slice A_r41 n_r41 c_r41)), (.v (.slice A_r42 n_r42 c_r42))])), (7, (.cells 24 [(.v (.slice A_r48 n_r48 c_r48)), (.v (.slice A_r49 n_r49 c_r49))])), (6, (.lst z12 3 arr13)), (4, (.lst z6 3 arr7)), (2, (.cells 37 [(.v (.slice A_a n_a c_a)), (.v (.slice A_b n_b c_b)), (.v (.int .i64 kd)), (.v (.int .i64 pk))])), (1, (.cells 35 [(.v (.slice A_tk2 n_tk2 c_tk2)), (.v (.slice A_nm2 n_nm2 c_nm2)), (.v (.slice A_rs2 n_rs2 c_rs2))])), (0, (.cells 35 [(.v (.slice A_tk n_tk c_tk)), (.v (.slice A_nm n_nm c_nm)), (.v (.slice A_rs n_rs c_rs))]))], 10, [], []⟩ (by kernel_rfl) ?_
    refine WL_op (WOp_call 23 [(.agg [(.v (.slice A_a n_a c_a)), (.v (.slice A_b n_b c_b))])] (by kernel_rfl) (goes_of Try.func23 rfl rfl) (fun ρ w hW => rsplit_ok hW.has (a := a) (b := b) h_a h_b) ?_)
    intro G13 v hle hΦ
    replace h_tk := h_tk.mono hle
    replace h_nm := h_nm.mono hle
    replace h_rs := h_rs.mono hle
    replace h_tk2 := h_tk2.mono hle
    replace h_nm2 := h_nm2.mono hle
    replace h_rs2 := h_rs2.mono hle
    replace h_a := h_a.mono hle
    replace h_b := h_b.mono hle
    replace h_r17 := h_r17.mono hle
    replace h_r18 := h_r18.mono hle
    replace h_r21 := h_r21.mono hle
    replace h_r22 := h_r22.mono hle
    replace h_r28 := h_r28.mono hle
    replace h_r31 := h_r31.mono hle
    replace h_r37 := h_r37.mono hle
    replace h_r38 := h_r38.mono hle
    replace h_r41 := h_r41.mono hle
    replace h_r42 := h_r42.mono hle
    replace h_r48 := h_r48.mono hle
    replace h_r49 := h_r49.mono hle
    replace h_r50 := h_r50.mono hle
    replace h_r51 := h_r51.mono hle
    replace ho10 := ho10.mono hle
    replace ho16 := ho16.mono hle
    obtain ⟨r54, A_r54, n_r54, c_r54, r55, A_r55, n_r55, c_r55, r56, A_r56, n_r56, c_r56, r57, A_r57, n_r57, c_r57, r58, rfl, h_r54, h_r55, h_r56, h_r57, hR59⟩ := hΦ
    have lh_r54 := h_r54.len'
    have lh_r55 := h_r55.len'
    have lh_r56 := h_r56.len'
    have lh_r57 := h_r57.len'
    have hp60 := hR59.trans hR53.symm
    simp only [Prod.mk.injEq] at hp60
    refine WL_execS htb 8 [13, 18, 11, 17, 14, 16, 15, 12, 10, 9, 8, 7, 6, 5, 4, 3] [10, 9, 8, 7, 6, 4, 2, 1, 0] ⟨[(13, (.v (.bool r58))), (18, (.p 10 0)), (11, (.v (.bool r52))), (17, (.p 9 0)), (14, (.v (.bool (r39 == r43)))), (16, (.v (.slice A_r31 n_r31 c_r31))), (15, (.v (.slice A_r28 n_r28 c_r28))), (12, (.p 8 0)), (10, (.p 7 0)), (9, (.ls z12 6 (([] ++ b).length) cap14)), (8, (.ls z6 4 (([] ++ a).length) cap8)), (7, (.v (.bool true))), (6, (.v (.bool false))), (5, (.p 2 0)), (4, (.p 1 0)), (3, (.p 0 0))], [(10, (.cells 24 [(.v (.slice A_r56 n_r56 c_r56)), (.v (.slice A_r57 n_r57 c_r57))])), (9, (.cells 24 [(.v (.slice A_r50 n_r50 c_r50)), (.v (.slice A_r51 n_r51 c_r51))])), (8, (.cells 24 [(.v (.slice A_r54 n_r54 c_r54)), (.v (.slice A_r55 n_r55 c_r55))])), (7, (.cells 24 [(.v (.slice A_r48 n_r48 c_r48)), (.v (.slice A_r49 n_r49 c_r49))])), (6, (.lst z12 3 arr13)), (4, (.lst z6 3 arr7)), (2, (.cells 37 [(.v (.slice A_a n_a c_a)), (.v (.slice A_b n_b c_b)), (.v (.int .i64 kd)), (.v (.int .i64 pk))])), (1, (.cells 35 [(.v (.slice A_tk2 n_tk2 c_tk2)), (.v (.slice A_nm2 n_nm2 c_nm2)), (.v (.slice A_rs2 n_rs2 c_rs2))])), (0, (.cells 35 [(.v (.slice A_tk n_tk c_tk)), (.v (.slice A_nm n_nm c_nm)), (.v (.slice A_rs n_rs c_rs))]))], 11, [], []⟩ (by kernel_rfl) ?_
    refine WL_nil ?_
    refine WQ_code ?_
    refine WC_seq (WC_region ?_)
    refine WL_execS htb 2 [123, 13, 18, 11, 17, 14, 16, 15, 12, 10, 9, 8, 7, 6, 5, 4, 3] [10, 9, 8, 7, 6, 4, 2, 1, 0] ⟨[(123, (.v (.bool (r39 == r43)))), (13, (.v (.bool r58))), (18, (.p 10 0)), (11, (.v (.bool r52))), (17, (.p 9 0)), (14, (.v (.bool (r39 == r43)))), (16, (.v (.slice A_r31 n_r31 c_r31))), (15, (.v (.slice A_r28 n_r28 c_r28))), (12, (.p 8 0)), (10, (.p 7 0)), (9, (.ls z12 6 (([] ++ b).length) cap14)), (8, (.ls z6 4 (([] ++ a).length) cap8)), (7, (.v (.bool true))), (6, (.v (.bool false))), (5, (.p 2 0)), (4, (.p 1 0)), (3, (.p 0 0))], [(10, (.cells 24 [(.v (.slice A_r56 n_r56 c_r56)), (.v (.slice A_r57 n_r57 c_r57))])), (9, (.cells 24 [(.v (.slice A_r50 n_r50 c_r50)), (.v (.slice A_r51 n_r51 c_r51))])), (8, (.cells 24 [(.v (.slice A_r54 n_r54 c_r54)), (.v (.slice A_r55 n_r55 c_r55))])), (7, (.cells 24 [(.v (.slice A_r48 n_r48 c_r48)), (.v (.slice A_r49 n_r49 c_r49))])), (6, (.lst z12 3 arr13)), (4, (.lst z6 3 arr7)), (2, (.cells 37 [(.v (.slice A_a n_a c_a)), (.v (.slice A_b n_b c_b)), (.v (.int .i64 kd)), (.v (.int .i64 pk))])), (1, (.cells 35 [(.v (.slice A_tk2 n_tk2 c_tk2)), (.v (.slice A_nm2 n_nm2 c_nm2)), (.v (.slice A_rs2 n_rs2 c_rs2))])), (0, (.cells 35 [(.v (.slice A_tk n_tk c_tk)), (.v (.slice A_nm n_nm c_nm)), (.v (.slice A_rs n_rs c_rs))]))], 11, [], []⟩ (by kernel_rfl) ?_
    refine WK_env [(123, (.v (.bool true))), (13, (.v (.bool r58))), (18, (.p 10 0)), (11, (.v (.bool r52))), (17, (.p 9 0)), (14, (.v (.bool (r39 == r43)))), (16, (.v (.slice A_r31 n_r31 c_r31))), (15, (.v (.slice A_r28 n_r28 c_r28))), (12, (.p 8 0)), (10, (.p 7 0)), (9, (.ls z12 6 (([] ++ b).length) cap14)), (8, (.ls z6 4 (([] ++ a).length) cap8)), (7, (.v (.bool true))), (6, (.v (.bool false))), (5, (.p 2 0)), (4, (.p 1 0)), (3, (.p 0 0))] (fun ρ => ⟨rfl, (congrArg Value.bool (by simp [hp25, hp34, hp45, hp60])), ⟨rfl, rfl, ⟨rfl, rfl, ⟨rfl, rfl, ⟨rfl, rfl, ⟨rfl, rfl, ⟨rfl, rfl, ⟨rfl, rfl, ⟨rfl, rfl, ⟨rfl, rfl, ⟨rfl, rfl, ⟨rfl, rfl, ⟨rfl, rfl, ⟨rfl, rfl, ⟨rfl, rfl, ⟨rfl, rfl, ⟨rfl, rfl, trivial⟩⟩⟩⟩⟩⟩⟩⟩⟩⟩⟩⟩⟩⟩⟩⟩⟩) ?_
    refine WL_execS htb 2 [125, 124, 123, 13, 18, 11, 17, 14, 16, 15, 9, 8, 7, 6, 5, 4, 3] [10, 9, 6, 4, 2, 1, 0] ⟨[(125, (.agg [(.v (.slice A_r54 n_r54 c_r54)), (.v (.slice A_r55 n_r55 c_r55))])), (124, (.agg [(.v (.slice A_r48 n_r48 c_r48)), (.v (.slice A_r49 n_r49 c_r49))])), (123, (.v (.bool true))), (13, (.v (.bool r58))), (18, (.p 10 0)), (11, (.v (.bool r52))), (17, (.p 9 0)), (14, (.v (.bool (r39 == r43)))), (16, (.v (.slice A_r31 n_r31 c_r31))), (15, (.v (.slice A_r28 n_r28 c_r28))), (9, (.ls z12 6 (([] ++ b).length) cap14)), (8, (.ls z6 4 (([] ++ a).length) cap8)), (7, (.v (.bool true))), (6, (.v (.bool false))), (5, (.p 2 0)), (4, (.p 1 0)), (3, (.p 0 0))], [(10, (.cells 24 [(.v (.slice A_r56 n_r56 c_r56)), (.v (.slice A_r57 n_r57 c_r57))])), (9, (.cells 24 [(.v (.slice A_r50 n_r50 c_r50)), (.v (.slice A_r51 n_r51 c_r51))])), (6, (.lst z12 3 arr13)), (4, (.lst z6 3 arr7)), (2, (.cells 37 [(.v (.slice A_a n_a c_a)), (.v (.slice A_b n_b c_b)), (.v (.int .i64 kd)), (.v (.int .i64 pk))])), (1, (.cells 35 [(.v (.slice A_tk2 n_tk2 c_tk2)), (.v (.slice A_nm2 n_nm2 c_nm2)), (.v (.slice A_rs2 n_rs2 c_rs2))])), (0, (.cells 35 [(.v (.slice A_tk n_tk c_tk)), (.v (.slice A_nm n_nm c_nm)), (.v (.slice A_rs n_rs c_rs))]))], 11, [], []⟩ (by kernel_rfl) ?_
    refine WL_op (WOp_call 14 [(.agg [(.v (.slice A_r48 n_r48 c_r48)), (.v (.slice A_r49 n_r49 c_r49))]), (.agg [(.v (.slice A_r54 n_r54 c_r54)), (.v (.slice A_r55 n_r55 c_r55))])] (by kernel_rfl) (goes_of Try.func14 rfl rfl) (fun ρ w hW => rsame_ok hW.has (a1 := r48) (a2 := r49) (b1 := r54) (b2 := r55) h_r48 h_r49 h_r54 h_r55) ?_)
    intro G14 v hle hΦ
    replace h_tk := h_tk.mono hle
    replace h_nm := h_nm.mono hle
    replace h_rs := h_rs.mono hle
    replace h_tk2 := h_tk2.mono hle
    replace h_nm2 := h_nm2.mono hle
    replace h_rs2 := h_rs2.mono hle
    replace h_a := h_a.mono hle
    replace h_b := h_b.mono hle
    replace h_r17 := h_r17.mono hle
    replace h_r18 := h_r18.mono hle
    replace h_r21 := h_r21.mono hle
    replace h_r22 := h_r22.mono hle
    replace h_r28 := h_r28.mono hle
    replace h_r31 := h_r31.mono hle
    replace h_r37 := h_r37.mono hle
    replace h_r38 := h_r38.mono hle
    replace h_r41 := h_r41.mono hle
    replace h_r42 := h_r42.mono hle
    replace h_r48 := h_r48.mono hle
    replace h_r49 := h_r49.mono hle
    replace h_r50 := h_r50.mono hle
    replace h_r51 := h_r51.mono hle
    replace h_r54 := h_r54.mono hle
    replace h_r55 := h_r55.mono hle
    replace h_r56 := h_r56.mono hle
    replace h_r57 := h_r57.mono hle
    replace ho10 := ho10.mono hle
    replace ho16 := ho16.mono hle
    obtain ⟨r61, rfl, hR62⟩ := hΦ
    replace hR62 := hR62.trans (show _ = true by simp [hp60])
    obtain rfl := hR62
    refine WL_execS htb 4 [130, 129, 128, 13, 11, 14, 16, 15, 9, 8, 7, 6, 5, 4, 3] [6, 4, 2, 1, 0] ⟨[(130, (.agg [(.v (.slice A_r56 n_r56 c_r56)), (.v (.slice A_r57 n_r57 c_r57))])), (129, (.agg [(.v (.slice A_r50 n_r50 c_r50)), (.v (.slice A_r51 n_r51 c_r51))])), (128, (.v (.bool true))), (13, (.v (.bool r58))), (11, (.v (.bool r52))), (14, (.v (.bool (r39 == r43)))), (16, (.v (.slice A_r31 n_r31 c_r31))), (15, (.v (.slice A_r28 n_r28 c_r28))), (9, (.ls z12 6 (([] ++ b).length) cap14)), (8, (.ls z6 4 (([] ++ a).length) cap8)), (7, (.v (.bool true))), (6, (.v (.bool false))), (5, (.p 2 0)), (4, (.p 1 0)), (3, (.p 0 0))], [(6, (.lst z12 3 arr13)), (4, (.lst z6 3 arr7)), (2, (.cells 37 [(.v (.slice A_a n_a c_a)), (.v (.slice A_b n_b c_b)), (.v (.int .i64 kd)), (.v (.int .i64 pk))])), (1, (.cells 35 [(.v (.slice A_tk2 n_tk2 c_tk2)), (.v (.slice A_nm2 n_nm2 c_nm2)), (.v (.slice A_rs2 n_rs2 c_rs2))])), (0, (.cells 35 [(.v (.slice A_tk n_tk c_tk)), (.v (.slice A_nm n_nm c_nm)), (.v (.slice A_rs n_rs c_rs))]))], 11, [], []⟩ (by kernel_rfl) ?_
    refine WL_op (WOp_call 14 [(.agg [(.v (.slice A_r50 n_r50 c_r50)), (.v (.slice A_r51 n_r51 c_r51))]), (.agg [(.v (.slice A_r56 n_r56 c_r56)), (.v (.slice A_r57 n_r57 c_r57))])] (by kernel_rfl) (goes_of Try.func14 rfl rfl) (fun ρ w hW => rsame_ok hW.has (a1 := r50) (a2 := r51) (b1 := r56) (b2 := r57) h_r50 h_r51 h_r56 h_r57) ?_)
    intro G15 v hle hΦ
    replace h_tk := h_tk.mono hle
    replace h_nm := h_nm.mono hle
    replace h_rs := h_rs.mono hle
    replace h_tk2 := h_tk2.mono hle
    replace h_nm2 := h_nm2.mono hle
    replace h_rs2 := h_rs2.mono hle
    replace h_a := h_a.mono hle
    replace h_b := h_b.mono hle
    replace h_r17 := h_r17.mono hle
    replace h_r18 := h_r18.mono hle
    replace h_r21 := h_r21.mono hle
    replace h_r22 := h_r22.mono hle
    replace h_r28 := h_r28.mono hle
    replace h_r31 := h_r31.mono hle
    replace h_r37 := h_r37.mono hle
    replace h_r38 := h_r38.mono hle
    replace h_r41 := h_r41.mono hle
    replace h_r42 := h_r42.mono hle
    replace h_r48 := h_r48.mono hle
    replace h_r49 := h_r49.mono hle
    replace h_r50 := h_r50.mono hle
    replace h_r51 := h_r51.mono hle
    replace h_r54 := h_r54.mono hle
    replace h_r55 := h_r55.mono hle
    replace h_r56 := h_r56.mono hle
    replace h_r57 := h_r57.mono hle
    replace ho10 := ho10.mono hle
    replace ho16 := ho16.mono hle
    obtain ⟨r63, rfl, hR64⟩ := hΦ
    replace hR64 := hR64.trans (show _ = true by simp [hp60])
    obtain rfl := hR64
    refine WL_execS htb 7 [14, 13, 11, 16, 15, 9, 8, 7, 6, 5, 4, 3] [6, 4, 2, 1, 0] ⟨[(14, (.v (.bool (r52 == r58)))), (13, (.v (.bool r58))), (11, (.v (.bool r52))), (16, (.v (.slice A_r31 n_r31 c_r31))), (15, (.v (.slice A_r28 n_r28 c_r28))), (9, (.ls z12 6 (([] ++ b).length) cap14)), (8, (.ls z6 4 (([] ++ a).length) cap8)), (7, (.v (.bool true))), (6, (.v (.bool false))), (5, (.p 2 0)), (4, (.p 1 0)), (3, (.p 0 0))], [(6, (.lst z12 3 arr13)), (4, (.lst z6 3 arr7)), (2, (.cells 37 [(.v (.slice A_a n_a c_a)), (.v (.slice A_b n_b c_b)), (.v (.int .i64 kd)), (.v (.int .i64 pk))])), (1, (.cells 35 [(.v (.slice A_tk2 n_tk2 c_tk2)), (.v (.slice A_nm2 n_nm2 c_nm2)), (.v (.slice A_rs2 n_rs2 c_rs2))])), (0, (.cells 35 [(.v (.slice A_tk n_tk c_tk)), (.v (.slice A_nm n_nm c_nm)), (.v (.slice A_rs n_rs c_rs))]))], 11, [], []⟩ (by kernel_rfl) ?_
    refine WL_nil ?_
    refine WQ_code ?_
    refine WC_seq (WC_region ?_)
    refine WL_execS htb 3 [141, 140, 139, 14, 13, 11, 16, 15, 9, 8, 7, 6, 5, 4, 3] [6, 4, 2, 1, 0] ⟨[(141, (.agg [(.v (.slice A_a n_a c_a)), (.v (.slice A_b n_b c_b)), (.v (.int .i64 kd)), (.v (.int .i64 pk))])), (140, (.agg [(.v (.slice A_tk2 n_tk2 c_tk2)), (.v (.slice A_nm2 n_nm2 c_nm2)), (.v (.slice A_rs2 n_rs2 c_rs2))])), (139, (.agg [(.v (.slice A_tk n_tk c_tk)), (.v (.slice A_nm n_nm c_nm)), (.v (.slice A_rs n_rs c_rs))])), (14, (.v (.bool (r52 == r58)))), (13, (.v (.bool r58))), (11, (.v (.bool r52))), (16, (.v (.slice A_r31 n_r31 c_r31))), (15, (.v (.slice A_r28 n_r28 c_r28))), (9, (.ls z12 6 (([] ++ b).length) cap14)), (8, (.ls z6 4 (([] ++ a).length) cap8)), (7, (.v (.bool true))), (6, (.v (.bool false))), (5, (.p 2 0)), (4, (.p 1 0)), (3, (.p 0 0))], [(6, (.lst z12 3 arr13)), (4, (.lst z6 3 arr7)), (2, (.cells 37 [(.v (.slice A_a n_a c_a)), (.v (.slice A_b n_b c_b)), (.v (.int .i64 kd)), (.v (.int .i64 pk))])), (1, (.cells 35 [(.v (.slice A_tk2 n_tk2 c_tk2)), (.v (.slice A_nm2 n_nm2 c_nm2)), (.v (.slice A_rs2 n_rs2 c_rs2))])), (0, (.cells 35 [(.v (.slice A_tk n_tk c_tk)), (.v (.slice A_nm n_nm c_nm)), (.v (.slice A_rs n_rs c_rs))]))], 11, [], []⟩ (by kernel_rfl) ?_
    refine WL_op (WOp_call 24 [(.agg [(.v (.slice A_tk n_tk c_tk)), (.v (.slice A_nm n_nm c_nm)), (.v (.slice A_rs n_rs c_rs))]), (.agg [(.v (.slice A_tk2 n_tk2 c_tk2)), (.v (.slice A_nm2 n_nm2 c_nm2)), (.v (.slice A_rs2 n_rs2 c_rs2))]), (.agg [(.v (.slice A_a n_a c_a)), (.v (.slice A_b n_b c_b)), (.v (.int .i64 kd)), (.v (.int .i64 pk))])] (by kernel_rfl) (goes_of Try.func24 rfl rfl) (fun ρ w hW => next_ok hW.has (tk := tk) (nm := nm) (rs := rs) (tk2 := tk2) (nm2 := nm2) (rs2 := rs2) (a := a) (b := b) (kd := kd) (pk := pk) h_tk h_nm h_rs h_tk2 h_nm2 h_rs2 h_a h_b h_kd h_pk hs1 hs2 (by omega) (by omega)) ?_)
    intro G16 v hle hΦ
    replace h_tk := h_tk.mono hle
    replace h_nm := h_nm.mono hle
    replace h_rs := h_rs.mono hle
    replace h_tk2 := h_tk2.mono hle
    replace h_nm2 := h_nm2.mono hle
    replace h_rs2 := h_rs2.mono hle
    replace h_a := h_a.mono hle
    replace h_b := h_b.mono hle
    replace h_r17 := h_r17.mono hle
    replace h_r18 := h_r18.mono hle
    replace h_r21 := h_r21.mono hle
    replace h_r22 := h_r22.mono hle
    replace h_r28 := h_r28.mono hle
    replace h_r31 := h_r31.mono hle
    replace h_r37 := h_r37.mono hle
    replace h_r38 := h_r38.mono hle
    replace h_r41 := h_r41.mono hle
    replace h_r42 := h_r42.mono hle
    replace h_r48 := h_r48.mono hle
    replace h_r49 := h_r49.mono hle
    replace h_r50 := h_r50.mono hle
    replace h_r51 := h_r51.mono hle
    replace h_r54 := h_r54.mono hle
    replace h_r55 := h_r55.mono hle
    replace h_r56 := h_r56.mono hle
    replace h_r57 := h_r57.mono hle
    replace ho10 := ho10.mono hle
    replace ho16 := ho16.mono hle
    obtain ⟨r65, A_r65, n_r65, c_r65, r66, rfl, h_r65, hR67⟩ := hΦ
    have lh_r65 := h_r65.len'
    refine WL_execS htb 5 [11, 15, 14, 13, 16, 9, 8, 7, 6, 5, 4, 3] [6, 4, 2, 1, 0] ⟨[(11, (.v (.bool r66))), (15, (.v (.slice A_r65 n_r65 c_r65))), (14, (.v (.bool (r52 == r58)))), (13, (.v (.bool r58))), (16, (.v (.slice A_r31 n_r31 c_r31))), (9, (.ls z12 6 (([] ++ b).length) cap14)), (8, (.ls z6 4 (([] ++ a).length) cap8)), (7, (.v (.bool true))), (6, (.v (.bool false))), (5, (.p 2 0)), (4, (.p 1 0)), (3, (.p 0 0))], [(6, (.lst z12 3 arr13)), (4, (.lst z6 3 arr7)), (2, (.cells 37 [(.v (.slice A_a n_a c_a)), (.v (.slice A_b n_b c_b)), (.v (.int .i64 kd)), (.v (.int .i64 pk))])), (1, (.cells 35 [(.v (.slice A_tk2 n_tk2 c_tk2)), (.v (.slice A_nm2 n_nm2 c_nm2)), (.v (.slice A_rs2 n_rs2 c_rs2))])), (0, (.cells 35 [(.v (.slice A_tk n_tk c_tk)), (.v (.slice A_nm n_nm c_nm)), (.v (.slice A_rs n_rs c_rs))]))], 11, [], []⟩ (by kernel_rfl) ?_
    refine WL_nil ?_
    refine WQ_code ?_
    refine WC_seq (WC_region ?_)
    refine WL_execS htb 3 [148, 147, 146, 11, 15, 14, 13, 16, 9, 8, 7, 6, 5] [6, 4, 2] ⟨[(148, (.agg [(.v (.slice A_a n_a c_a)), (.v (.slice A_b n_b c_b)), (.v (.int .i64 kd)), (.v (.int .i64 pk))])), (147, (.agg [(.v (.slice A_tk2 n_tk2 c_tk2)), (.v (.slice A_nm2 n_nm2 c_nm2)), (.v (.slice A_rs2 n_rs2 c_rs2))])), (146, (.agg [(.v (.slice A_tk n_tk c_tk)), (.v (.slice A_nm n_nm c_nm)), (.v (.slice A_rs n_rs c_rs))])), (11, (.v (.bool r66))), (15, (.v (.slice A_r65 n_r65 c_r65))), (14, (.v (.bool (r52 == r58)))), (13, (.v (.bool r58))), (16, (.v (.slice A_r31 n_r31 c_r31))), (9, (.ls z12 6 (([] ++ b).length) cap14)), (8, (.ls z6 4 (([] ++ a).length) cap8)), (7, (.v (.bool true))), (6, (.v (.bool false))), (5, (.p 2 0))], [(6, (.lst z12 3 arr13)), (4, (.lst z6 3 arr7)), (2, (.cells 37 [(.v (.slice A_a n_a c_a)), (.v (.slice A_b n_b c_b)), (.v (.int .i64 kd)), (.v (.int .i64 pk))]))], 11, [], []⟩ (by kernel_rfl) ?_
    refine WL_op (WOp_call 25 [(.agg [(.v (.slice A_tk n_tk c_tk)), (.v (.slice A_nm n_nm c_nm)), (.v (.slice A_rs n_rs c_rs))]), (.agg [(.v (.slice A_tk2 n_tk2 c_tk2)), (.v (.slice A_nm2 n_nm2 c_nm2)), (.v (.slice A_rs2 n_rs2 c_rs2))]), (.agg [(.v (.slice A_a n_a c_a)), (.v (.slice A_b n_b c_b)), (.v (.int .i64 kd)), (.v (.int .i64 pk))])] (by kernel_rfl) (goes_of Try.func25 rfl rfl) (fun ρ w hW => rnext_ok hW.has (tk := tk) (nm := nm) (rs := rs) (tk2 := tk2) (nm2 := nm2) (rs2 := rs2) (a := a) (b := b) (kd := kd) (pk := pk) h_tk h_nm h_rs h_tk2 h_nm2 h_rs2 h_a h_b h_kd h_pk hs1 hs2 (by omega) (by omega)) ?_)
    intro G17 v hle hΦ
    replace h_tk := h_tk.mono hle
    replace h_nm := h_nm.mono hle
    replace h_rs := h_rs.mono hle
    replace h_tk2 := h_tk2.mono hle
    replace h_nm2 := h_nm2.mono hle
    replace h_rs2 := h_rs2.mono hle
    replace h_a := h_a.mono hle
    replace h_b := h_b.mono hle
    replace h_r17 := h_r17.mono hle
    replace h_r18 := h_r18.mono hle
    replace h_r21 := h_r21.mono hle
    replace h_r22 := h_r22.mono hle
    replace h_r28 := h_r28.mono hle
    replace h_r31 := h_r31.mono hle
    replace h_r37 := h_r37.mono hle
    replace h_r38 := h_r38.mono hle
    replace h_r41 := h_r41.mono hle
    replace h_r42 := h_r42.mono hle
    replace h_r48 := h_r48.mono hle
    replace h_r49 := h_r49.mono hle
    replace h_r50 := h_r50.mono hle
    replace h_r51 := h_r51.mono hle
    replace h_r54 := h_r54.mono hle
    replace h_r55 := h_r55.mono hle
    replace h_r56 := h_r56.mono hle
    replace h_r57 := h_r57.mono hle
    replace h_r65 := h_r65.mono hle
    replace ho10 := ho10.mono hle
    replace ho16 := ho16.mono hle
    obtain ⟨r68, A_r68, n_r68, c_r68, r69, rfl, h_r68, hR70⟩ := hΦ
    have lh_r68 := h_r68.len'
    have hp71 := hR70.trans hR67.symm
    simp only [Prod.mk.injEq] at hp71
    refine WL_execS htb 5 [13, 16, 11, 15, 14, 9, 8, 7, 6, 5] [6, 4, 2] ⟨[(13, (.v (.bool r69))), (16, (.v (.slice A_r68 n_r68 c_r68))), (11, (.v (.bool r66))), (15, (.v (.slice A_r65 n_r65 c_r65))), (14, (.v (.bool (r52 == r58)))), (9, (.ls z12 6 (([] ++ b).length) cap14)), (8, (.ls z6 4 (([] ++ a).length) cap8)), (7, (.v (.bool true))), (6, (.v (.bool false))), (5, (.p 2 0))], [(6, (.lst z12 3 arr13)), (4, (.lst z6 3 arr7)), (2, (.cells 37 [(.v (.slice A_a n_a c_a)), (.v (.slice A_b n_b c_b)), (.v (.int .i64 kd)), (.v (.int .i64 pk))]))], 11, [], []⟩ (by kernel_rfl) ?_
    refine WL_nil ?_
    refine WQ_code ?_
    refine WC_seq (WC_region ?_)
    refine WL_execS htb 5 [156, 13, 16, 11, 15, 9, 8, 6, 5] [6, 4, 2] ⟨[(156, (.v (.bool (r52 == r58)))), (13, (.v (.bool r69))), (16, (.v (.slice A_r68 n_r68 c_r68))), (11, (.v (.bool r66))), (15, (.v (.slice A_r65 n_r65 c_r65))), (9, (.ls z12 6 (([] ++ b).length) cap14)), (8, (.ls z6 4 (([] ++ a).length) cap8)), (6, (.v (.bool false))), (5, (.p 2 0))], [(6, (.lst z12 3 arr13)), (4, (.lst z6 3 arr7)), (2, (.cells 37 [(.v (.slice A_a n_a c_a)), (.v (.slice A_b n_b c_b)), (.v (.int .i64 kd)), (.v (.int .i64 pk))]))], 11, [], []⟩ (by kernel_rfl) ?_
    refine WK_env [(156, (.v (.bool true))), (13, (.v (.bool r69))), (16, (.v (.slice A_r68 n_r68 c_r68))), (11, (.v (.bool r66))), (15, (.v (.slice A_r65 n_r65 c_r65))), (9, (.ls z12 6 (([] ++ b).length) cap14)), (8, (.ls z6 4 (([] ++ a).length) cap8)), (6, (.v (.bool false))), (5, (.p 2 0))] (fun ρ => ⟨rfl, (congrArg Value.bool (by simp [hp25, hp34, hp45, hp60, hp71])), ⟨rfl, rfl, ⟨rfl, rfl, ⟨rfl, rfl, ⟨rfl, rfl, ⟨rfl, rfl, ⟨rfl, rfl, ⟨rfl, rfl, ⟨rfl, rfl, trivial⟩⟩⟩⟩⟩⟩⟩⟩⟩) ?_
    refine WL_execS htb 2 [158, 157, 156, 13, 11, 9, 8, 6, 5] [6, 4, 2] ⟨[(158, (.v (.slice A_r68 n_r68 c_r68))), (157, (.v (.slice A_r65 n_r65 c_r65))), (156, (.v (.bool true))), (13, (.v (.bool r69))), (11, (.v (.bool r66))), (9, (.ls z12 6 (([] ++ b).length) cap14)), (8, (.ls z6 4 (([] ++ a).length) cap8)), (6, (.v (.bool false))), (5, (.p 2 0))], [(6, (.lst z12 3 arr13)), (4, (.lst z6 3 arr7)), (2, (.cells 37 [(.v (.slice A_a n_a c_a)), (.v (.slice A_b n_b c_b)), (.v (.int .i64 kd)), (.v (.int .i64 pk))]))], 11, [], []⟩ (by kernel_rfl) ?_
    refine WL_op (WOp_call 20 [(.v (.slice A_r65 n_r65 c_r65)), (.v (.slice A_r68 n_r68 c_r68))] (by kernel_rfl) (goes_of Try.func20 rfl rfl) (fun ρ w hW => sameAll_ok hW.has (xs := r65) (ys := r68) h_r65 h_r68) ?_)
    intro G18 v hle hΦ
    replace h_tk := h_tk.mono hle
    replace h_nm := h_nm.mono hle
    replace h_rs := h_rs.mono hle
    replace h_tk2 := h_tk2.mono hle
    replace h_nm2 := h_nm2.mono hle
    replace h_rs2 := h_rs2.mono hle
    replace h_a := h_a.mono hle
    replace h_b := h_b.mono hle
    replace h_r17 := h_r17.mono hle
    replace h_r18 := h_r18.mono hle
    replace h_r21 := h_r21.mono hle
    replace h_r22 := h_r22.mono hle
    replace h_r28 := h_r28.mono hle
    replace h_r31 := h_r31.mono hle
    replace h_r37 := h_r37.mono hle
    replace h_r38 := h_r38.mono hle
    replace h_r41 := h_r41.mono hle
    replace h_r42 := h_r42.mono hle
    replace h_r48 := h_r48.mono hle
    replace h_r49 := h_r49.mono hle
    replace h_r50 := h_r50.mono hle
    replace h_r51 := h_r51.mono hle
    replace h_r54 := h_r54.mono hle
    replace h_r55 := h_r55.mono hle
    replace h_r56 := h_r56.mono hle
    replace h_r57 := h_r57.mono hle
    replace h_r65 := h_r65.mono hle
    replace h_r68 := h_r68.mono hle
    replace ho10 := ho10.mono hle
    replace ho16 := ho16.mono hle
    obtain ⟨r72, rfl, hR73⟩ := hΦ
    replace hR73 := hR73.trans (show _ = true by simp [hp71])
    obtain rfl := hR73
    refine WL_execS htb 7 [166, 9, 8, 6, 5] [6, 4, 2] ⟨[(166, (.v (.bool (r66 == r69)))), (9, (.ls z12 6 (([] ++ b).length) cap14)), (8, (.ls z6 4 (([] ++ a).length) cap8)), (6, (.v (.bool false))), (5, (.p 2 0))], [(6, (.lst z12 3 arr13)), (4, (.lst z6 3 arr7)), (2, (.cells 37 [(.v (.slice A_a n_a c_a)), (.v (.slice A_b n_b c_b)), (.v (.int .i64 kd)), (.v (.int .i64 pk))]))], 11, [], []⟩ (by kernel_rfl) ?_
    refine WK_env [(166, (.v (.bool true))), (9, (.ls z12 6 (([] ++ b).length) cap14)), (8, (.ls z6 4 (([] ++ a).length) cap8)), (6, (.v (.bool false))), (5, (.p 2 0))] (fun ρ => ⟨rfl, (congrArg Value.bool (by simp [hp25, hp34, hp45, hp60, hp71])), ⟨rfl, rfl, ⟨rfl, rfl, ⟨rfl, rfl, ⟨rfl, rfl, trivial⟩⟩⟩⟩⟩) ?_
    refine WL_execS htb 4 [170, 167, 166, 9, 6, 5] [6, 4, 2] ⟨[(170, (.v (.slice A_a n_a c_a))), (167, (.ls z6 4 (([] ++ a).length) cap8)), (166, (.v (.bool true))), (9, (.ls z12 6 (([] ++ b).length) cap14)), (6, (.v (.bool false))), (5, (.p 2 0))], [(6, (.lst z12 3 arr13)), (4, (.lst z6 3 arr7)), (2, (.cells 37 [(.v (.slice A_a n_a c_a)), (.v (.slice A_b n_b c_b)), (.v (.int .i64 kd)), (.v (.int .i64 pk))]))], 11, [], []⟩ (by kernel_rfl) ?_
    refine WK_freezeL 4 rfl rfl ?_
    intro bk75 G74 hle hbk75
    replace h_tk := h_tk.mono hle
    replace h_nm := h_nm.mono hle
    replace h_rs := h_rs.mono hle
    replace h_tk2 := h_tk2.mono hle
    replace h_nm2 := h_nm2.mono hle
    replace h_rs2 := h_rs2.mono hle
    replace h_a := h_a.mono hle
    replace h_b := h_b.mono hle
    replace h_r17 := h_r17.mono hle
    replace h_r18 := h_r18.mono hle
    replace h_r21 := h_r21.mono hle
    replace h_r22 := h_r22.mono hle
    replace h_r28 := h_r28.mono hle
    replace h_r31 := h_r31.mono hle
    replace h_r37 := h_r37.mono hle
    replace h_r38 := h_r38.mono hle
    replace h_r41 := h_r41.mono hle
    replace h_r42 := h_r42.mono hle
    replace h_r48 := h_r48.mono hle
    replace h_r49 := h_r49.mono hle
    replace h_r50 := h_r50.mono hle
    replace h_r51 := h_r51.mono hle
    replace h_r54 := h_r54.mono hle
    replace h_r55 := h_r55.mono hle
    replace h_r56 := h_r56.mono hle
    replace h_r57 := h_r57.mono hle
    replace h_r65 := h_r65.mono hle
    replace h_r68 := h_r68.mono hle
    replace ho16 := ho16.mono hle
    obtain ⟨A77, n78, c79, e80, hs76⟩ := OwnL.sl (n := ([] ++ a).length) ho10 hle hz9 hbk75 rfl
    refine WK_env [(170, (.v (.slice A_a n_a c_a))), (167, (.v (.slice A77 n78 c79))), (166, (.v (.bool true))), (9, (.ls z12 6 (([] ++ b).length) cap14)), (6, (.v (.bool false))), (5, (.p 2 0))] (fun ρ => ⟨rfl, rfl, ⟨rfl, e80, ⟨rfl, rfl, ⟨rfl, rfl, ⟨rfl, rfl, ⟨rfl, rfl, trivial⟩⟩⟩⟩⟩⟩) ?_
    have lhs76 := hs76.len'
    refine WL_op (WOp_call 26 [(.v (.slice A77 n78 c79)), (.v (.slice A_a n_a c_a))] (by kernel_rfl) (goes_of Try.func26 rfl rfl) (fun ρ w hW => sameInts_ok hW.has (xs := ([] ++ a)) (ys := a) hs76 h_a) ?_)
    intro G19 v hle hΦ
    replace h_tk := h_tk.mono hle
    replace h_nm := h_nm.mono hle
    replace h_rs := h_rs.mono hle
    replace h_tk2 := h_tk2.mono hle
    replace h_nm2 := h_nm2.mono hle
    replace h_rs2 := h_rs2.mono hle
    replace h_a := h_a.mono hle
    replace h_b := h_b.mono hle
    replace h_r17 := h_r17.mono hle
    replace h_r18 := h_r18.mono hle
    replace h_r21 := h_r21.mono hle
    replace h_r22 := h_r22.mono hle
    replace h_r28 := h_r28.mono hle
    replace h_r31 := h_r31.mono hle
    replace h_r37 := h_r37.mono hle
    replace h_r38 := h_r38.mono hle
    replace h_r41 := h_r41.mono hle
    replace h_r42 := h_r42.mono hle
    replace h_r48 := h_r48.mono hle
    replace h_r49 := h_r49.mono hle
    replace h_r50 := h_r50.mono hle
    replace h_r51 := h_r51.mono hle
    replace h_r54 := h_r54.mono hle
    replace h_r55 := h_r55.mono hle
    replace h_r56 := h_r56.mono hle
    replace h_r57 := h_r57.mono hle
    replace h_r65 := h_r65.mono hle
    replace h_r68 := h_r68.mono hle
    replace hs76 := hs76.mono hle
    replace ho16 := ho16.mono hle
    obtain ⟨r81, rfl, hR82⟩ := hΦ
    replace hR82 := hR82.trans (show _ = true by simp)
    obtain rfl := hR82
    refine WL_execS htb 6 [177, 174, 173, 6] [6] ⟨[(177, (.v (.slice A_b n_b c_b))), (174, (.ls z12 6 (([] ++ b).length) cap14)), (173, (.v (.bool true))), (6, (.v (.bool false)))], [(6, (.lst z12 3 arr13))], 11, [], []⟩ (by kernel_rfl) ?_
    refine WK_freezeL 6 rfl rfl ?_
    intro bk84 G83 hle hbk84
    replace h_tk := h_tk.mono hle
    replace h_nm := h_nm.mono hle
    replace h_rs := h_rs.mono hle
    replace h_tk2 := h_tk2.mono hle
    replace h_nm2 := h_nm2.mono hle
    replace h_rs2 := h_rs2.mono hle
    replace h_a := h_a.mono hle
    replace h_b := h_b.mono hle
    replace h_r17 := h_r17.mono hle
    replace h_r18 := h_r18.mono hle
    replace h_r21 := h_r21.mono hle
    replace h_r22 := h_r22.mono hle
    replace h_r28 := h_r28.mono hle
    replace h_r31 := h_r31.mono hle
    replace h_r37 := h_r37.mono hle
    replace h_r38 := h_r38.mono hle
    replace h_r41 := h_r41.mono hle
    replace h_r42 := h_r42.mono hle
    replace h_r48 := h_r48.mono hle
    replace h_r49 := h_r49.mono hle
    replace h_r50 := h_r50.mono hle
    replace h_r51 := h_r51.mono hle
    replace h_r54 := h_r54.mono hle
    replace h_r55 := h_r55.mono hle
    replace h_r56 := h_r56.mono hle
    replace h_r57 := h_r57.mono hle
    replace h_r65 := h_r65.mono hle
    replace h_r68 := h_r68.mono hle
    replace hs76 := hs76.mono hle
    obtain ⟨A86, n87, c88, e89, hs85⟩ := OwnL.sl (n := ([] ++ b).length) ho16 hle hz15 hbk84 rfl
    refine WK_env [(177, (.v (.slice A_b n_b c_b))), (174, (.v (.slice A86 n87 c88))), (173, (.v (.bool true))), (6, (.v (.bool false)))] (fun ρ => ⟨rfl, rfl, ⟨rfl, e89, ⟨rfl, rfl, ⟨rfl, rfl, trivial⟩⟩⟩⟩) ?_
    have lhs85 := hs85.len'
    refine WL_op (WOp_call 26 [(.v (.slice A86 n87 c88)), (.v (.slice A_b n_b c_b))] (by kernel_rfl) (goes_of Try.func26 rfl rfl) (fun ρ w hW => sameInts_ok hW.has (xs := ([] ++ b)) (ys := b) hs85 h_b) ?_)
    intro G20 v hle hΦ
    replace h_tk := h_tk.mono hle
    replace h_nm := h_nm.mono hle
    replace h_rs := h_rs.mono hle
    replace h_tk2 := h_tk2.mono hle
    replace h_nm2 := h_nm2.mono hle
    replace h_rs2 := h_rs2.mono hle
    replace h_a := h_a.mono hle
    replace h_b := h_b.mono hle
    replace h_r17 := h_r17.mono hle
    replace h_r18 := h_r18.mono hle
    replace h_r21 := h_r21.mono hle
    replace h_r22 := h_r22.mono hle
    replace h_r28 := h_r28.mono hle
    replace h_r31 := h_r31.mono hle
    replace h_r37 := h_r37.mono hle
    replace h_r38 := h_r38.mono hle
    replace h_r41 := h_r41.mono hle
    replace h_r42 := h_r42.mono hle
    replace h_r48 := h_r48.mono hle
    replace h_r49 := h_r49.mono hle
    replace h_r50 := h_r50.mono hle
    replace h_r51 := h_r51.mono hle
    replace h_r54 := h_r54.mono hle
    replace h_r55 := h_r55.mono hle
    replace h_r56 := h_r56.mono hle
    replace h_r57 := h_r57.mono hle
    replace h_r65 := h_r65.mono hle
    replace h_r68 := h_r68.mono hle
    replace hs76 := hs76.mono hle
    replace hs85 := hs85.mono hle
    obtain ⟨r90, rfl, hR91⟩ := hΦ
    replace hR91 := hR91.trans (show _ = true by simp)
    obtain rfl := hR91
    refine WL_execS htb 2 [6] [] ⟨[(6, (.v (.bool true)))], [], 11, [], []⟩ (by kernel_rfl) ?_
    refine WL_nil ?_
    refine WQ_code ?_
    refine WC_ret ?_
    exact WQ_done htb [(.v (.bool true))] _ (.inl rfl) rfl (by kernel_rfl) (fun ρ w hW => ⟨true, rfl, rfl⟩)

end Go.Proofs.Ytbpajkjolhoflaa.Sym
