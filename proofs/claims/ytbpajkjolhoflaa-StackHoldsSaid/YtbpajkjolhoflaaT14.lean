/- Walks of functions that the laws of this seat reach, printed by a program of this session's. -/
import Derived.Test.YtbpajkjolhoflaaT13
set_option linter.unusedSimpArgs false
set_option linter.unusedVariables false
set_option maxHeartbeats 4000000
namespace Go.Proofs.Ytbpajkjolhoflaa.Sym
open Go Go.Proofs Go.RowKit



def newS (rs : List (List (List Int))) (p : List Int × List Int) (k : Int) : (List Int × List Int) × Bool :=
  match altsS rs p.2 with
  | (al, true) => if k < 0 then (([], []), false) else match al[k.toNat]? with
    | some x => ((p.1, x ++ p.2.drop 1), true)
    | none => (([], []), false)
  | (_, false) => (([], []), false)
theorem newS_no0 {rs : List (List (List Int))} {a b : List Int} {k : Int} {al : List (List Int)} (h : (al, false) = altsS rs b) : newS rs (a, b) k = (([], []), false) := by
  unfold newS; simp only [← h]
theorem newS_no1 {rs : List (List (List Int))} {a b : List Int} {k : Int} (h : k < 0) : newS rs (a, b) k = (([], []), false) := by
  unfold newS
  split
  · rw [if_pos h]
  · rfl
theorem newS_no2 {rs : List (List (List Int))} {a b : List Int} {k : Int} {al : List (List Int)} (h : (al, true) = altsS rs b) (h0 : 0 ≤ k) (h1 : ((al.length : Nat) : Int) ≤ k) : newS rs (a, b) k = (([], []), false) := by
  unfold newS; simp only [← h]
  have : al[k.toNat]? = none := List.getElem?_eq_none (by omega)
  rw [if_neg (by omega), this]
theorem newS_yes {rs : List (List (List Int))} {a b : List Int} {k : Int} {al : List (List Int)} {x : List Int} (h : (al, true) = altsS rs b) (h0 : 0 ≤ k) (h1 : al[k.toNat]? = some x) : newS rs (a, b) k = ((a, x ++ b.drop 1), true) := by
  unfold newS; simp only [← h]
  rw [if_neg (by omega), h1]
theorem new_ok {w : World} {G : Heap} (hG : Has w G) {tk : (List ByteArray)} {A_tk : Option Addr} {n_tk : Nat} {c_tk : Nat} {nm : (List ByteArray)} {A_nm : Option Addr} {n_nm : Nat} {c_nm : Nat} {rs : (List (List (List Int)))} {A_rs : Option Addr} {n_rs : Nat} {c_rs : Nat} {a : (List Int)} {A_a : Option Addr} {n_a : Nat} {c_a : Nat} {b : (List Int)} {A_b : Option Addr} {n_b : Nat} {c_b : Nat} {k : Int} (h_tk : Sl tStr G A_tk n_tk c_tk tk) (h_nm : Sl tStr G A_nm n_nm c_nm nm) (h_rs : Sl (tSlice (tSlice (tInt .i64))) G A_rs n_rs c_rs rs) (h_a : Sl (tInt .i64) G A_a n_a c_a a) (h_b : Sl (tInt .i64) G A_b n_b c_b b) (h_k : -9223372036854775808 ≤ k ∧ k ≤ 9223372036854775807) (hr : SmallR rs) (hb1 : n_a ≤ 1000000000) (hb2 : n_b ≤ 1000000000) :
    Calls Try.prog 21 #[(.agg #[.slice A_tk n_tk c_tk, .slice A_nm n_nm c_nm, .slice A_rs n_rs c_rs]), (.agg #[.slice A_a n_a c_a, .slice A_b n_b c_b]), (.int .i64 k)] w (Ret w G fun v G' => ∃ (r1 : (List Int)) (A_r1 : Option Addr) (n_r1 : Nat) (c_r1 : Nat) (r2 : (List Int)) (A_r2 : Option Addr) (n_r2 : Nat) (c_r2 : Nat) (ok : Bool), v = .tuple #[.agg #[.slice A_r1 n_r1 c_r1, .slice A_r2 n_r2 c_r2], .bool ok] ∧ (Sl (tInt .i64) G' A_r1 n_r1 c_r1 r1) ∧ (Sl (tInt .i64) G' A_r2 n_r2 c_r2 r2) ∧ (((r1, r2), ok) = newS rs (a, b) k)) := by
  have lh_tk := h_tk.len'
  have lh_nm := h_nm.len'
  have lh_rs := h_rs.len'
  have lh_a := h_a.len'
  have lh_b := h_b.len'
  refine enter [(.agg [(sS A_tk n_tk c_tk), (sS A_nm n_nm c_nm), (sS A_rs n_rs c_rs)]), (.agg [(sS A_a n_a c_a), (sS A_b n_b c_b)]), (iI k)] 43 Try.func21 rfl rfl rfl rfl hG ?_
  refine WC_seq (WC_region ?_)
  refine WL_execS htb 4 [6, 4, 3, 2] [2, 1, 0] ⟨[(6, (.p 2 0)), (4, (.p 1 0)), (3, (.p 0 0)), (2, (iI k))], [(2, (.cells 24 [(sS none 0 0), (sS none 0 0)])), (1, (.cells 24 [(sS A_a n_a c_a), (sS A_b n_b c_b)])), (0, (.cells 35 [(sS A_tk n_tk c_tk), (sS A_nm n_nm c_nm), (sS A_rs n_rs c_rs)]))], 3, [], []⟩ (by kernel_rfl) ?_
  refine WL_nil ?_
  refine WQ_code ?_
  refine WC_seq (WC_region ?_)
  refine WL_execS htb 3 [13, 11, 6, 4, 2] [2, 1] ⟨[(13, (sS A_b n_b c_b)), (11, (.agg [(sS A_tk n_tk c_tk), (sS A_nm n_nm c_nm), (sS A_rs n_rs c_rs)])), (6, (.p 2 0)), (4, (.p 1 0)), (2, (iI k))], [(2, (.cells 24 [(sS none 0 0), (sS none 0 0)])), (1, (.cells 24 [(sS A_a n_a c_a), (sS A_b n_b c_b)]))], 3, [], []⟩ (by kernel_rfl) ?_
  refine WL_op (WOp_call 43 [(.agg [(sS A_tk n_tk c_tk), (sS A_nm n_nm c_nm), (sS A_rs n_rs c_rs)]), (sS A_b n_b c_b)] (by kernel_rfl) (goes_of Try.func43 rfl rfl) (fun ρ w hW => alts_ok hW.has (tk := tk) (nm := nm) (rs := rs) (xs := b) h_tk h_nm h_rs h_b) ?_)
  intro G1 v hle hΦ
  replace h_tk := h_tk.mono hle
  replace h_nm := h_nm.mono hle
  replace h_rs := h_rs.mono hle
  replace h_a := h_a.mono hle
  replace h_b := h_b.mono hle
  obtain ⟨r1, A_r1, n_r1, c_r1, r2, rfl, h_r1, hR3⟩ := hΦ
  have lh_r1 := h_r1.len'
  refine WL_execS htb 5 [9, 8, 6, 4, 2] [2, 1] ⟨[(9, (bB r2)), (8, (sS A_r1 n_r1 c_r1)), (6, (.p 2 0)), (4, (.p 1 0)), (2, (iI k))], [(2, (.cells 24 [(sS none 0 0), (sS none 0 0)])), (1, (.cells 24 [(sS A_a n_a c_a), (sS A_b n_b c_b)]))], 3, [], []⟩ (by kernel_rfl) ?_
  refine WL_nil ?_
  refine WQ_code ?_
  refine WC_seq ?_
  refine WC_seq (WC_region ?_)
  refine WL_execS htb 3 [19, 8, 6, 4, 2] [2, 1] ⟨[(19, (bB (!r2))), (8, (sS A_r1 n_r1 c_r1)), (6, (.p 2 0)), (4, (.p 1 0)), (2, (iI k))], [(2, (.cells 24 [(sS none 0 0), (sS none 0 0)])), (1, (.cells 24 [(sS A_a n_a c_a), (sS A_b n_b c_b)]))], 3, [], []⟩ (by kernel_rfl) ?_
  refine WK_split 19 (!r2) rfl (fun hc0 => ?_) (fun hc0 => ?_)
  · rw [Bool.not_eq_true'] at hc0
    refine WK_keep [19, 8, 6, 4, 2] [2, 1] rfl rfl ?_
    rw [show r2 = false by simpa using hc0] at hR3
    refine WL_execS htb 9 [28, 8, 6, 4, 2] [2, 1] ⟨[(28, (bB true)), (8, (sS A_r1 n_r1 c_r1)), (6, (.p 2 0)), (4, (.p 1 0)), (2, (iI k))], [(2, (.cells 24 [(sS none 0 0), (sS none 0 0)])), (1, (.cells 24 [(sS A_a n_a c_a), (sS A_b n_b c_b)]))], 3, [], []⟩ (by kernel_rfl) ?_
    refine WL_nil ?_
    refine WQ_code ?_
    refine WC_cond (b := true) rfl (fun _ => ?_) (fun h => by cases h)
    refine WC_seq (WC_region ?_)
    refine WL_execS htb 3 [7, 6] [2] ⟨[(7, (bB false)), (6, (.p 2 0))], [(2, (.cells 24 [(sS none 0 0), (sS none 0 0)]))], 3, [], []⟩ (by kernel_rfl) ?_
    refine WL_nil ?_
    refine WQ_code ?_
    refine WC_ret ?_
    refine WQ_then_ret ?_
    exact WQ_done htb [(.agg [(sS none 0 0), (sS none 0 0)]), (bB false)] _ (.inl rfl) rfl (by kernel_rfl) (fun ρ w hW => ⟨[], _, _, _, [], _, _, _, false, rfl, (Sl.none0 _ _), (Sl.none0 _ _), (newS_no0 hR3).symm⟩)
  · rw [Bool.not_eq_false'] at hc0
    refine WK_keep [19, 8, 6, 4, 2] [2, 1] rfl rfl ?_
    rw [show r2 = true by simpa using hc0] at hR3
    refine WL_execS htb 4 [23, 8, 6, 4, 2] [2, 1] ⟨[(23, (bB (decide ((k : Int) < 0)))), (8, (sS A_r1 n_r1 c_r1)), (6, (.p 2 0)), (4, (.p 1 0)), (2, (iI k))], [(2, (.cells 24 [(sS none 0 0), (sS none 0 0)])), (1, (.cells 24 [(sS A_a n_a c_a), (sS A_b n_b c_b)]))], 3, [], []⟩ (by kernel_rfl) ?_
    refine WK_split 23 (decide ((k : Int) < 0)) rfl (fun hc1 => ?_) (fun hc1 => ?_)
    · replace hc1 := of_decide_eq_true hc1
      refine WK_keep [23, 8, 6, 4, 2] [2, 1] rfl rfl ?_
      refine WL_execS htb 5 [28, 8, 6, 4, 2] [2, 1] ⟨[(28, (bB true)), (8, (sS A_r1 n_r1 c_r1)), (6, (.p 2 0)), (4, (.p 1 0)), (2, (iI k))], [(2, (.cells 24 [(sS none 0 0), (sS none 0 0)])), (1, (.cells 24 [(sS A_a n_a c_a), (sS A_b n_b c_b)]))], 3, [], []⟩ (by kernel_rfl) ?_
      refine WL_nil ?_
      refine WQ_code ?_
      refine WC_cond (b := true) rfl (fun _ => ?_) (fun h => by cases h)
      refine WC_seq (WC_region ?_)
      refine WL_execS htb 3 [7, 6] [2] ⟨[(7, (bB false)), (6, (.p 2 0))], [(2, (.cells 24 [(sS none 0 0), (sS none 0 0)]))], 3, [], []⟩ (by kernel_rfl) ?_
      refine WL_nil ?_
      refine WQ_code ?_
      refine WC_ret ?_
      refine WQ_then_ret ?_
      exact WQ_done htb [(.agg [(sS none 0 0), (sS none 0 0)]), (bB false)] _ (.inl rfl) rfl (by kernel_rfl) (fun ρ w hW => ⟨[], _, _, _, [], _, _, _, false, rfl, (Sl.none0 _ _), (Sl.none0 _ _), (newS_no1 hc1).symm⟩)
    · replace hc1 := of_decide_eq_false hc1
      refine WK_keep [23, 8, 6, 4, 2] [2, 1] rfl rfl ?_
      refine WL_execS htb 5 [28, 8, 6, 4, 2] [2, 1] ⟨[(28, (bB (decide ((k : Int) ≥ ((n_r1 : Nat) : Int))))), (8, (sS A_r1 n_r1 c_r1)), (6, (.p 2 0)), (4, (.p 1 0)), (2, (iI k))], [(2, (.cells 24 [(sS none 0 0), (sS none 0 0)])), (1, (.cells 24 [(sS A_a n_a c_a), (sS A_b n_b c_b)]))], 3, [], []⟩ (by kernel_rfl) ?_
      refine WL_nil ?_
      refine WQ_code ?_
      refine WC_cond (b := (decide ((k : Int) ≥ ((n_r1 : Nat) : Int)))) rfl (fun hc2 => ?_) (fun hc2 => ?_)
      · replace hc2 := of_decide_eq_true hc2
        refine WC_seq (WC_region ?_)
        refine WL_execS htb 3 [7, 6] [2] ⟨[(7, (bB false)), (6, (.p 2 0))], [(2, (.cells 24 [(sS none 0 0), (sS none 0 0)]))], 3, [], []⟩ (by kernel_rfl) ?_
        refine WL_nil ?_
        refine WQ_code ?_
        refine WC_ret ?_
        refine WQ_then_ret ?_
        exact WQ_done htb [(.agg [(sS none 0 0), (sS none 0 0)]), (bB false)] _ (.inl rfl) rfl (by kernel_rfl) (fun ρ w hW => ⟨[], _, _, _, [], _, _, _, false, rfl, (Sl.none0 _ _), (Sl.none0 _ _), (newS_no2 hR3 (by omega) (by omega)).symm⟩)
      · replace hc2 := of_decide_eq_false hc2
        have hsm := altsS_small hr hR3
        have hne := altsS_ne hR3
        refine WC_skip ?_
        refine WQ_code ?_
        refine WK_keep [8, 6, 4, 2] [2, 1] rfl rfl ?_
        refine WK_freeze 1 rfl rfl rfl rfl ?_
        intro bk5 G4 hle hbk5
        replace h_a := h_a.mono hle
        replace h_b := h_b.mono hle
        replace h_r1 := h_r1.mono hle
        have hz := FZ.cons (h := 1) hbk5 rfl (FZ.nil _)
        refine WC_seq (WC_draw mixed ?_)
        refine WD_takeL htb rfl (fun _ _ _ _ _ h => h) (Le.refl _) [0, 1, 3, 4, 7, 8] (fuel := 9) (listed' := bts 15 411) (S' := ⟨[(38, (sS A_b n_b c_b)), (37, (.p 1 1)), (34, (iI k)), (33, (sS A_r1 n_r1 c_r1)), (31, (sS A_a n_a c_a)), (30, (.p 1 0)), (8, (sS A_r1 n_r1 c_r1)), (6, (.p 2 0)), (4, (.p 1 0)), (2, (iI k))], [(2, (.cells 24 [(sS none 0 0), (sS none 0 0)]))], 3, [], [(1, bk5, (.cells 24 [(sS A_a n_a c_a), (sS A_b n_b c_b)]))]⟩) hz (by kernel_rfl) rfl ?_
        obtain ⟨q6, rfl⟩ := h_r1.ptr (by omega)
        obtain ⟨x9, _, hx7, hr10, at8⟩ := h_r1.get ((k : Int).toNat) (by omega)
        obtain ⟨A12, n13, c14, rfl, hs11⟩ := Sl.of hr10
        replace hs11 : Sl (tInt .i64) _ A12 n13 c14 x9 := hs11
        have lhs11 := hs11.len'
        replace at8 : At G4 (q6.add (((k : Int).toNat) * 1)) [.slice A12 n13 c14] := at8
        refine WD_idx htb 5 (by rfl) rfl (by decide +kernel) (fun _ _ _ _ _ h => h) (Le.refl _) q6 n_r1 k 1 (by kernel_rfl) (by omega) (by omega) ?_
        refine WD_ld htb 6 (by rfl) rfl (by decide +kernel) (fun _ _ _ _ _ h => h) (Le.refl _) (q6.add (((k : Int).toNat) * 1)) false 1 [.slice A12 n13 c14] (by kernel_rfl) at8 rfl (by decide) ?_
        obtain ⟨A15, hA16⟩ : ∃ A, sliceAddr A_b c_b 1 1 = A := ⟨_, rfl⟩
        have hs17 := h_b.from 1 (by omega) hA16
        refine WD_sl htb 9 (by rfl) rfl (by decide +kernel) (fun _ _ _ _ _ h => h) (Le.refl _) A_b n_b c_b 1 n_b 1 (by kernel_rfl) (by omega) (by omega) hA16 ?_
        have lhs17 := hs17.len'
        refine WD_join (ι := Option Addr × Nat × Nat × Option Addr × Nat × Nat) (fun (A18, n19, c20, A22, n23, c24) G' => Le G4 G' ∧ Sl (tInt .i64) G' A18 n19 c20 a ∧ Sl (tInt .i64) G' A22 n23 c24 ([x9, (b.drop 1)].flatten)) (fun (A18, n19, c20, A22, n23, c24) => ⟨[(42, (.agg [(sS A18 n19 c20), (sS A22 n23 c24)])), (32, (sS A18 n19 c20)), (41, (sS A22 n23 c24)), (39, (sS A15 (n_b - 1) (c_b - 1))), (36, (sS A12 n13 c14)), (35, (.v (.pointer (some (q6.add (((k : Int).toNat) * 1)))))), (38, (sS A_b n_b c_b)), (37, (.p 1 1)), (34, (iI k)), (33, (sS (some q6) n_r1 c_r1)), (31, (sS A_a n_a c_a)), (30, (.p 1 0)), (8, (sS (some q6) n_r1 c_r1)), (6, (.p 2 0)), (4, (.p 1 0)), (2, (iI k))], [(2, (.cells 24 [(sS none 0 0), (sS none 0 0)]))], 3, [], [(1, bk5, (.cells 24 [(sS A_a n_a c_a), (sS A_b n_b c_b)]))]⟩) 2 #[true, true, true, true, true, true, true, true, true, true, true, true, true, false, false] ?cont (fun hK26 => ?now)
        case now =>
          have hc27 := Le.refl G4
          refine WD_two 2 10 (by rfl) (by rfl) (by decide +kernel) ?_ ?_
          · skip
            refine WOp_call 45 [(sS A_a n_a c_a)] (by kernel_rfl) (goes_of Try.func45 rfl rfl) (fun ρ w hW => clone_ok hW.has (xs := a) h_a (by omega)) ?_
            intro G2 v hle hΦ
            replace hc27 := Le.trans hc27 hle
            replace h_a := h_a.mono hle
            replace h_b := h_b.mono hle
            replace h_r1 := h_r1.mono hle
            replace hs11 := hs11.mono hle
            replace at8 := at8.mono hle
            replace hs17 := hs17.mono hle
            replace hz := hz.mono hle
            obtain ⟨A_r28, n_r28, c_r28, rfl, h_r28, hR29⟩ := hΦ
            have lh_r28 := h_r28.len'
            refine WD_on hle ?_
            refine WD_up hle ?_
            refine WD_one 10 (by rfl) (by decide +kernel) (WOp_step htb (S' := ⟨[(40, (.s 3 2 2)), (32, (sS A_r28 n_r28 c_r28)), (39, (sS A15 (n_b - 1) (c_b - 1))), (36, (sS A12 n13 c14)), (35, (.v (.pointer (some (q6.add (((k : Int).toNat) * 1)))))), (38, (sS A_b n_b c_b)), (37, (.p 1 1)), (34, (iI k)), (33, (sS (some q6) n_r1 c_r1)), (31, (sS A_a n_a c_a)), (30, (.p 1 0)), (8, (sS (some q6) n_r1 c_r1)), (6, (.p 2 0)), (4, (.p 1 0)), (2, (iI k))], [(3, (.cells 22 [(sS A12 n13 c14), (sS A15 (n_b - 1) (c_b - 1))])), (2, (.cells 24 [(sS none 0 0), (sS none 0 0)]))], 4, [], [(1, bk5, (.cells 24 [(sS A_a n_a c_a), (sS A_b n_b c_b)]))]⟩) (by kernel_rfl) (WD_on (Le.refl _) ?_))
            refine WK_freezeV 3 rfl rfl rfl rfl ?_
            intro bk31 G30 hle hbk31
            replace hc27 := Le.trans hc27 hle
            replace h_a := h_a.mono hle
            replace h_b := h_b.mono hle
            replace h_r1 := h_r1.mono hle
            replace hs11 := hs11.mono hle
            replace at8 := at8.mono hle
            replace hs17 := hs17.mono hle
            replace h_r28 := h_r28.mono hle
            replace hz := hz.mono hle
            refine WD_up hle ?_
            show WK _ _ ⟨[(40, (sS (some ⟨bk31, 0, none⟩) 2 2)), (32, (sS A_r28 n_r28 c_r28)), (39, (sS A15 (n_b - 1) (c_b - 1))), (36, (sS A12 n13 c14)), (35, (.v (.pointer (some (q6.add (((k : Int).toNat) * 1)))))), (38, (sS A_b n_b c_b)), (37, (.p 1 1)), (34, (iI k)), (33, (sS (some q6) n_r1 c_r1)), (31, (sS A_a n_a c_a)), (30, (.p 1 0)), (8, (sS (some q6) n_r1 c_r1)), (6, (.p 2 0)), (4, (.p 1 0)), (2, (iI k))], [(2, (.cells 24 [(sS none 0 0), (sS none 0 0)]))], 4, [], [(1, bk5, (.cells 24 [(sS A_a n_a c_a), (sS A_b n_b c_b)]))]⟩ _
            have hs32 : Sl (tSlice (tInt .i64)) G30 (some ⟨bk31, 0, none⟩) 2 2 [x9, (b.drop 1)] := Sl.lit (cs := [.slice A12 n13 c14, .slice A15 (n_b - 1) (c_b - 1)]) (RepsL.cons' hs11.reps (RepsL.cons' hs17.reps .nil)) hbk31 rfl (by unfold big; omega)
            have lhs32 := hs32.len'
            refine WD_one 11 (by rfl) (by decide +kernel) (WOp_call 44 [(sS (some ⟨bk31, 0, none⟩) 2 2)] (by kernel_rfl) (goes_of Try.func44 rfl rfl) (fun ρ w hW => concat_ok hW.has (xss := [x9, (b.drop 1)]) hs32 (by have := hsm.2 _ (List.mem_of_getElem? hx7); simp only [List.flatten_cons, List.flatten_nil, List.length_append, List.length_drop, List.length_nil]; omega)) ?_)
            intro G3 v hle hΦ
            replace hc27 := Le.trans hc27 hle
            replace h_a := h_a.mono hle
            replace h_b := h_b.mono hle
            replace h_r1 := h_r1.mono hle
            replace hs11 := hs11.mono hle
            replace at8 := at8.mono hle
            replace hs17 := hs17.mono hle
            replace h_r28 := h_r28.mono hle
            replace hs32 := hs32.mono hle
            replace hz := hz.mono hle
            obtain ⟨A_r33, n_r33, c_r33, rfl, h_r33, hR34⟩ := hΦ
            have lh_r33 := h_r33.len'
            refine WD_on hle ?_
            refine WD_up hle ?_
            refine WD_takeL htb rfl (fun _ _ _ _ _ h => h) (Le.refl _) [12] (fuel := 2) (listed' := bts 15 8191) (S' := ⟨[(42, (.agg [(sS A_r28 n_r28 c_r28), (sS A_r33 n_r33 c_r33)])), (41, (sS A_r33 n_r33 c_r33)), (40, (sS (some ⟨bk31, 0, none⟩) 2 2)), (32, (sS A_r28 n_r28 c_r28)), (39, (sS A15 (n_b - 1) (c_b - 1))), (36, (sS A12 n13 c14)), (35, (.v (.pointer (some (q6.add (((k : Int).toNat) * 1)))))), (38, (sS A_b n_b c_b)), (37, (.p 1 1)), (34, (iI k)), (33, (sS (some q6) n_r1 c_r1)), (31, (sS A_a n_a c_a)), (30, (.p 1 0)), (8, (sS (some q6) n_r1 c_r1)), (6, (.p 2 0)), (4, (.p 1 0)), (2, (iI k))], [(2, (.cells 24 [(sS none 0 0), (sS none 0 0)]))], 4, [], [(1, bk5, (.cells 24 [(sS A_a n_a c_a), (sS A_b n_b c_b)]))]⟩) hz (by kernel_rfl) rfl ?_
            refine WK_keep [42, 32, 41, 39, 36, 35, 38, 37, 34, 33, 31, 30, 8, 6, 4, 2] [2] rfl rfl ?_
            refine WK_ren (T := ⟨[(42, (.agg [(sS A_r28 n_r28 c_r28), (sS A_r33 n_r33 c_r33)])), (32, (sS A_r28 n_r28 c_r28)), (41, (sS A_r33 n_r33 c_r33)), (39, (sS A15 (n_b - 1) (c_b - 1))), (36, (sS A12 n13 c14)), (35, (.v (.pointer (some (q6.add (((k : Int).toNat) * 1)))))), (38, (sS A_b n_b c_b)), (37, (.p 1 1)), (34, (iI k)), (33, (sS (some q6) n_r1 c_r1)), (31, (sS A_a n_a c_a)), (30, (.p 1 0)), (8, (sS (some q6) n_r1 c_r1)), (6, (.p 2 0)), (4, (.p 1 0)), (2, (iI k))], [(2, (.cells 24 [(sS none 0 0), (sS none 0 0)]))], 3, [], [(1, bk5, (.cells 24 [(sS A_a n_a c_a), (sS A_b n_b c_b)]))]⟩) [] rfl rfl rfl rfl rfl rfl ?_
            exact hK26 (A_r28, n_r28, c_r28, A_r33, n_r33, c_r33) G3 ⟨hc27, h_r28, h_r33⟩
          · skip
            refine WOp_step htb (S' := ⟨[(40, (.s 3 2 2)), (39, (sS A15 (n_b - 1) (c_b - 1))), (36, (sS A12 n13 c14)), (35, (.v (.pointer (some (q6.add (((k : Int).toNat) * 1)))))), (38, (sS A_b n_b c_b)), (37, (.p 1 1)), (34, (iI k)), (33, (sS (some q6) n_r1 c_r1)), (31, (sS A_a n_a c_a)), (30, (.p 1 0)), (8, (sS (some q6) n_r1 c_r1)), (6, (.p 2 0)), (4, (.p 1 0)), (2, (iI k))], [(3, (.cells 22 [(sS A12 n13 c14), (sS A15 (n_b - 1) (c_b - 1))])), (2, (.cells 24 [(sS none 0 0), (sS none 0 0)]))], 4, [], [(1, bk5, (.cells 24 [(sS A_a n_a c_a), (sS A_b n_b c_b)]))]⟩) (by kernel_rfl) (WD_on (Le.refl _) ?_)
            refine WK_freezeV 3 rfl rfl rfl rfl ?_
            intro bk29 G28 hle hbk29
            replace hc27 := Le.trans hc27 hle
            replace h_a := h_a.mono hle
            replace h_b := h_b.mono hle
            replace h_r1 := h_r1.mono hle
            replace hs11 := hs11.mono hle
            replace at8 := at8.mono hle
            replace hs17 := hs17.mono hle
            replace hz := hz.mono hle
            refine WD_up hle ?_
            show WK _ _ ⟨[(40, (sS (some ⟨bk29, 0, none⟩) 2 2)), (39, (sS A15 (n_b - 1) (c_b - 1))), (36, (sS A12 n13 c14)), (35, (.v (.pointer (some (q6.add (((k : Int).toNat) * 1)))))), (38, (sS A_b n_b c_b)), (37, (.p 1 1)), (34, (iI k)), (33, (sS (some q6) n_r1 c_r1)), (31, (sS A_a n_a c_a)), (30, (.p 1 0)), (8, (sS (some q6) n_r1 c_r1)), (6, (.p 2 0)), (4, (.p 1 0)), (2, (iI k))], [(2, (.cells 24 [(sS none 0 0), (sS none 0 0)]))], 4, [], [(1, bk5, (.cells 24 [(sS A_a n_a c_a), (sS A_b n_b c_b)]))]⟩ _
            have hs30 : Sl (tSlice (tInt .i64)) G28 (some ⟨bk29, 0, none⟩) 2 2 [x9, (b.drop 1)] := Sl.lit (cs := [.slice A12 n13 c14, .slice A15 (n_b - 1) (c_b - 1)]) (RepsL.cons' hs11.reps (RepsL.cons' hs17.reps .nil)) hbk29 rfl (by unfold big; omega)
            have lhs30 := hs30.len'
            refine WD_one 2 (by rfl) (by decide +kernel) (WOp_call 45 [(sS A_a n_a c_a)] (by kernel_rfl) (goes_of Try.func45 rfl rfl) (fun ρ w hW => clone_ok hW.has (xs := a) h_a (by omega)) ?_)
            intro G2 v hle hΦ
            replace hc27 := Le.trans hc27 hle
            replace h_a := h_a.mono hle
            replace h_b := h_b.mono hle
            replace h_r1 := h_r1.mono hle
            replace hs11 := hs11.mono hle
            replace at8 := at8.mono hle
            replace hs17 := hs17.mono hle
            replace hs30 := hs30.mono hle
            replace hz := hz.mono hle
            obtain ⟨A_r31, n_r31, c_r31, rfl, h_r31, hR32⟩ := hΦ
            have lh_r31 := h_r31.len'
            refine WD_on hle ?_
            refine WD_up hle ?_
            refine WD_one 11 (by rfl) (by decide +kernel) (WOp_call 44 [(sS (some ⟨bk29, 0, none⟩) 2 2)] (by kernel_rfl) (goes_of Try.func44 rfl rfl) (fun ρ w hW => concat_ok hW.has (xss := [x9, (b.drop 1)]) hs30 (by have := hsm.2 _ (List.mem_of_getElem? hx7); simp only [List.flatten_cons, List.flatten_nil, List.length_append, List.length_drop, List.length_nil]; omega)) ?_)
            intro G3 v hle hΦ
            replace hc27 := Le.trans hc27 hle
            replace h_a := h_a.mono hle
            replace h_b := h_b.mono hle
            replace h_r1 := h_r1.mono hle
            replace hs11 := hs11.mono hle
            replace at8 := at8.mono hle
            replace hs17 := hs17.mono hle
            replace hs30 := hs30.mono hle
            replace h_r31 := h_r31.mono hle
            replace hz := hz.mono hle
            obtain ⟨A_r33, n_r33, c_r33, rfl, h_r33, hR34⟩ := hΦ
            have lh_r33 := h_r33.len'
            refine WD_on hle ?_
            refine WD_up hle ?_
            refine WD_takeL htb rfl (fun _ _ _ _ _ h => h) (Le.refl _) [12] (fuel := 2) (listed' := bts 15 8191) (S' := ⟨[(42, (.agg [(sS A_r31 n_r31 c_r31), (sS A_r33 n_r33 c_r33)])), (41, (sS A_r33 n_r33 c_r33)), (32, (sS A_r31 n_r31 c_r31)), (40, (sS (some ⟨bk29, 0, none⟩) 2 2)), (39, (sS A15 (n_b - 1) (c_b - 1))), (36, (sS A12 n13 c14)), (35, (.v (.pointer (some (q6.add (((k : Int).toNat) * 1)))))), (38, (sS A_b n_b c_b)), (37, (.p 1 1)), (34, (iI k)), (33, (sS (some q6) n_r1 c_r1)), (31, (sS A_a n_a c_a)), (30, (.p 1 0)), (8, (sS (some q6) n_r1 c_r1)), (6, (.p 2 0)), (4, (.p 1 0)), (2, (iI k))], [(2, (.cells 24 [(sS none 0 0), (sS none 0 0)]))], 4, [], [(1, bk5, (.cells 24 [(sS A_a n_a c_a), (sS A_b n_b c_b)]))]⟩) hz (by kernel_rfl) rfl ?_
            refine WK_keep [42, 32, 41, 39, 36, 35, 38, 37, 34, 33, 31, 30, 8, 6, 4, 2] [2] rfl rfl ?_
            refine WK_ren (T := ⟨[(42, (.agg [(sS A_r31 n_r31 c_r31), (sS A_r33 n_r33 c_r33)])), (32, (sS A_r31 n_r31 c_r31)), (41, (sS A_r33 n_r33 c_r33)), (39, (sS A15 (n_b - 1) (c_b - 1))), (36, (sS A12 n13 c14)), (35, (.v (.pointer (some (q6.add (((k : Int).toNat) * 1)))))), (38, (sS A_b n_b c_b)), (37, (.p 1 1)), (34, (iI k)), (33, (sS (some q6) n_r1 c_r1)), (31, (sS A_a n_a c_a)), (30, (.p 1 0)), (8, (sS (some q6) n_r1 c_r1)), (6, (.p 2 0)), (4, (.p 1 0)), (2, (iI k))], [(2, (.cells 24 [(sS none 0 0), (sS none 0 0)]))], 3, [], [(1, bk5, (.cells 24 [(sS A_a n_a c_a), (sS A_b n_b c_b)]))]⟩) [] rfl rfl rfl rfl rfl rfl ?_
            exact hK26 (A_r31, n_r31, c_r31, A_r33, n_r33, c_r33) G3 ⟨hc27, h_r31, h_r33⟩
        rintro ⟨A18, n19, c20, A22, n23, c24⟩ G28 ⟨hle, hs21, hs25⟩
        show WK _ _ ⟨[(42, (.agg [(sS A18 n19 c20), (sS A22 n23 c24)])), (32, (sS A18 n19 c20)), (41, (sS A22 n23 c24)), (39, (sS A15 (n_b - 1) (c_b - 1))), (36, (sS A12 n13 c14)), (35, (.v (.pointer (some (q6.add (((k : Int).toNat) * 1)))))), (38, (sS A_b n_b c_b)), (37, (.p 1 1)), (34, (iI k)), (33, (sS (some q6) n_r1 c_r1)), (31, (sS A_a n_a c_a)), (30, (.p 1 0)), (8, (sS (some q6) n_r1 c_r1)), (6, (.p 2 0)), (4, (.p 1 0)), (2, (iI k))], [(2, (.cells 24 [(sS none 0 0), (sS none 0 0)]))], 3, [], [(1, bk5, (.cells 24 [(sS A_a n_a c_a), (sS A_b n_b c_b)]))]⟩ _
        replace h_a := h_a.mono hle
        replace h_b := h_b.mono hle
        replace h_r1 := h_r1.mono hle
        replace hs11 := hs11.mono hle
        replace at8 := at8.mono hle
        replace hs17 := hs17.mono hle
        replace hz := hz.mono hle
        have lhs21 := hs21.len'
        have lhs25 := hs25.len'
        refine WD_one 13 (by rfl) (by decide +kernel) (WOp_step htb (S' := ⟨[(42, (.agg [(sS A18 n19 c20), (sS A22 n23 c24)])), (32, (sS A18 n19 c20)), (41, (sS A22 n23 c24)), (39, (sS A15 (n_b - 1) (c_b - 1))), (36, (sS A12 n13 c14)), (35, (.v (.pointer (some (q6.add (((k : Int).toNat) * 1)))))), (38, (sS A_b n_b c_b)), (37, (.p 1 1)), (34, (iI k)), (33, (sS (some q6) n_r1 c_r1)), (31, (sS A_a n_a c_a)), (30, (.p 1 0)), (8, (sS (some q6) n_r1 c_r1)), (6, (.p 2 0)), (4, (.p 1 0)), (2, (iI k))], [(2, (.cells 24 [(sS A18 n19 c20), (sS A22 n23 c24)]))], 3, [], [(1, bk5, (.cells 24 [(sS A_a n_a c_a), (sS A_b n_b c_b)]))]⟩) (by kernel_rfl) (WD_on (Le.refl _) ?_))
        refine WD_takeL htb rfl (fun _ _ _ _ _ h => h) (Le.refl _) [14] (fuel := 0) (listed' := bts 15 32767) (S' := ⟨[(7, (bB true)), (42, (.agg [(sS A18 n19 c20), (sS A22 n23 c24)])), (32, (sS A18 n19 c20)), (41, (sS A22 n23 c24)), (39, (sS A15 (n_b - 1) (c_b - 1))), (36, (sS A12 n13 c14)), (35, (.v (.pointer (some (q6.add (((k : Int).toNat) * 1)))))), (38, (sS A_b n_b c_b)), (37, (.p 1 1)), (34, (iI k)), (33, (sS (some q6) n_r1 c_r1)), (31, (sS A_a n_a c_a)), (30, (.p 1 0)), (8, (sS (some q6) n_r1 c_r1)), (6, (.p 2 0)), (4, (.p 1 0)), (2, (iI k))], [(2, (.cells 24 [(sS A18 n19 c20), (sS A22 n23 c24)]))], 3, [], [(1, bk5, (.cells 24 [(sS A_a n_a c_a), (sS A_b n_b c_b)]))]⟩) hz (by kernel_rfl) rfl ?_
        refine WD_done (by decide +kernel) ?_
        refine WK_keep [7, 6] [2] rfl rfl ?_
        refine WQ_code ?_
        refine WC_ret ?_
        exact WQ_done htb [(.agg [(sS A18 n19 c20), (sS A22 n23 c24)]), (bB true)] _ (.inl rfl) rfl (by kernel_rfl) (fun ρ w hW => ⟨a, _, _, _, ([x9, (b.drop 1)].flatten), _, _, _, true, rfl, hs21, hs25, by rw [newS_yes hR3 (by omega) hx7]; simp⟩)

end Go.Proofs.Ytbpajkjolhoflaa.Sym
