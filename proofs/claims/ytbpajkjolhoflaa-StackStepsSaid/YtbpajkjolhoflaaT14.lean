/- Walks of functions that the laws of this seat reach, printed by a program of this session's. -/
import Derived.Test.YtbpajkjolhoflaaT13
set_option linter.unusedSimpArgs false
set_option linter.unusedVariables false
set_option maxHeartbeats 4000000
namespace Go.Proofs.Ytbpajkjolhoflaa.Sym
open Go Go.Proofs Go.RowKit



def newS (rs : List (List (List Int))) (p : List Int × List Int) (k : Int) : (List Int × List Int) × Bool :=
  match altsS rs p.2 with
  | (al, true) => if k < 0 then (([], []), false) else match al[k.toNat]? with
    | some x => ((p.1, x ++ p.2.drop 1), true)
    | none => (([], []), false)
  | (_, false) => (([], []), false)
theorem newS_no0 {rs : List (List (List Int))} {a b : List Int} {k : Int} {al : List (List Int)} (h : (al, false) = altsS rs b) : newS rs (a, b) k = (([], []), false) := by
  unfold newS; simp only [← h]
theorem newS_no1 {rs : List (List (List Int))} {a b : List Int} {k : Int} (h : k < 0) : newS rs (a, b) k = (([], []), false) := by
  unfold newS
  split
  · rw [if_pos h]
  · rfl
theorem newS_no2 {rs : List (List (List Int))} {a b : List Int} {k : Int} {al : List (List Int)} (h : (al, true) = altsS rs b) (h0 : 0 ≤ k) (h1 : ((al.length : Nat) : Int) ≤ k) : newS rs (a, b) k = (([], []), false) := by
  unfold newS; simp only [← h]
  have : al[k.toNat]? = none := List.getElem?_eq_none (by omega)
  rw [if_neg (by omega), this]
theorem newS_yes {rs : List (List (List Int))} {a b : List Int} {k : Int} {al : List (List Int)} {x : List Int} (h : (al, true) = altsS rs b) (h0 : 0 ≤ k) (h1 : al[k.toNat]? = some x) : newS rs (a, b) k = ((a, x ++ b.drop 1), true) := by
  unfold newS; simp only [← h]
  rw [if_neg (by omega), h1]
theorem new_ok {w : World} {G : Heap} (hG : Has w G) {tk : (List ByteArray)} {A_tk : Option Addr} {n_tk : Nat} {c_tk : Nat} {nm : (List ByteArray)} {A_nm : Option Addr} {n_nm : Nat} {c_nm : Nat} {rs : (List (List (List Int)))} {A_rs : Option Addr} {n_rs : Nat} {c_rs : Nat} {a : (List Int)} {A_a : Option Addr} {n_a : Nat} {c_a : Nat} {b : (List Int)} {A_b : Option Addr} {n_b : Nat} {c_b : Nat} {k : Int} (h_tk : Sl tStr G A_tk n_tk c_tk tk) (h_nm : Sl tStr G A_nm n_nm c_nm nm) (h_rs : Sl (tSlice (tSlice (tInt .i64))) G A_rs n_rs c_rs rs) (h_a : Sl (tInt .i64) G A_a n_a c_a a) (h_b : Sl (tInt .i64) G A_b n_b c_b b) (h_k : -9223372036854775808 ≤ k ∧ k ≤ 9223372036854775807) (hr : SmallR rs) (hb1 : n_a ≤ 1000000000) (hb2 : n_b ≤ 1000000000) :
    Calls Try.prog 21 #[(.agg #[.slice A_tk n_tk c_tk, .slice A_nm n_nm c_nm, .slice A_rs n_rs c_rs]), (.agg #[.slice A_a n_a c_a, .slice A_b n_b c_b]), (.int .i64 k)] w (Ret w G fun v G' => ∃ (r1 : (List Int)) (A_r1 : Option Addr) (n_r1 : Nat) (c_r1 : Nat) (r2 : (List Int)) (A_r2 : Option Addr) (n_r2 : Nat) (c_r2 : Nat) (ok : Bool), v = .tuple #[.agg #[.slice A_r1 n_r1 c_r1, .slice A_r2 n_r2 c_r2], .bool ok] ∧ (Sl (tInt .i64) G' A_r1 n_r1 c_r1 r1) ∧ (Sl (tInt .i64) G' A_r2 n_r2 c_r2 r2) ∧ (((r1, r2), ok) = newS rs (a, b) k)) := by
  have lh_tk := h_tk.len'
  have lh_nm := h_nm.len'
  have lh_rs := h_rs.len'
  have lh_a := h_a.len'
  have lh_b := h_b.len'
  refine enter [(.agg [(.v (.slice A_tk n_tk c_tk)), (.v (.slice A_nm n_nm c_nm)), (.v (.slice A_rs n_rs c_rs))]), (.agg [(.v (.slice A_a n_a c_a)), (.v (.slice A_b n_b c_b))]), (.v (.int .i64 k))] 43 Try.func21 rfl rfl rfl rfl hG ?_
  refine WC_seq (WC_region ?_)
  refine WL_execS htb 4 [7, 6, 4, 3, 2] [2, 1, 0] ⟨[(7, (.v (.bool false))), (6, (.p 2 0)), (4, (.p 1 0)), (3, (.p 0 0)), (2, (.v (.int .i64 k)))], [(2, (.cells 24 [(.v (.slice none 0 0)), (.v (.slice none 0 0))])), (1, (.cells 24 [(.v (.slice A_a n_a c_a)), (.v (.slice A_b n_b c_b))])), (0, (.cells 35 [(.v (.slice A_tk n_tk c_tk)), (.v (.slice A_nm n_nm c_nm)), (.v (.slice A_rs n_rs c_rs))]))], 3, [], []⟩ (by kernel_rfl) ?_
  refine WL_nil ?_
  refine WQ_code ?_
  refine WC_seq (WC_region ?_)
  refine WL_execS htb 3 [13, 11, 7, 6, 4, 2] [2, 1] ⟨[(13, (.v (.slice A_b n_b c_b))), (11, (.agg [(.v (.slice A_tk n_tk c_tk)), (.v (.slice A_nm n_nm c_nm)), (.v (.slice A_rs n_rs c_rs))])), (7, (.v (.bool false))), (6, (.p 2 0)), (4, (.p 1 0)), (2, (.v (.int .i64 k)))], [(2, (.cells 24 [(.v (.slice none 0 0)), (.v (.slice none 0 0))])), (1, (.cells 24 [(.v (.slice A_a n_a c_a)), (.v (.slice A_b n_b c_b))]))], 3, [], []⟩ (by kernel_rfl) ?_
  refine WL_op (WOp_call 43 [(.agg [(.v (.slice A_tk n_tk c_tk)), (.v (.slice A_nm n_nm c_nm)), (.v (.slice A_rs n_rs c_rs))]), (.v (.slice A_b n_b c_b))] (by kernel_rfl) (goes_of Try.func43 rfl rfl) (fun ρ w hW => alts_ok hW.has (tk := tk) (nm := nm) (rs := rs) (xs := b) h_tk h_nm h_rs h_b) ?_)
  intro G1 v hle hΦ
  replace h_tk := h_tk.mono hle
  replace h_nm := h_nm.mono hle
  replace h_rs := h_rs.mono hle
  replace h_a := h_a.mono hle
  replace h_b := h_b.mono hle
  obtain ⟨r1, A_r1, n_r1, c_r1, r2, rfl, h_r1, hR3⟩ := hΦ
  have lh_r1 := h_r1.len'
  refine WL_execS htb 5 [9, 8, 7, 6, 4, 2] [2, 1] ⟨[(9, (.v (.bool r2))), (8, (.v (.slice A_r1 n_r1 c_r1))), (7, (.v (.bool false))), (6, (.p 2 0)), (4, (.p 1 0)), (2, (.v (.int .i64 k)))], [(2, (.cells 24 [(.v (.slice none 0 0)), (.v (.slice none 0 0))])), (1, (.cells 24 [(.v (.slice A_a n_a c_a)), (.v (.slice A_b n_b c_b))]))], 3, [], []⟩ (by kernel_rfl) ?_
  refine WL_nil ?_
  refine WQ_code ?_
  refine WC_seq ?_
  refine WC_seq (WC_region ?_)
  refine WL_execS htb 3 [19, 8, 7, 6, 4, 2] [2, 1] ⟨[(19, (.v (.bool (!r2)))), (8, (.v (.slice A_r1 n_r1 c_r1))), (7, (.v (.bool false))), (6, (.p 2 0)), (4, (.p 1 0)), (2, (.v (.int .i64 k)))], [(2, (.cells 24 [(.v (.slice none 0 0)), (.v (.slice none 0 0))])), (1, (.cells 24 [(.v (.slice A_a n_a c_a)), (.v (.slice A_b n_b c_b))]))], 3, [], []⟩ (by kernel_rfl) ?_
  refine WK_split 19 (!r2) rfl (fun hc0 => ?_) (fun hc0 => ?_)
  · rw [Bool.not_eq_true'] at hc0
    refine WK_keep [19, 8, 7, 6, 4, 2] [2, 1] rfl rfl ?_
    rw [show r2 = false by simpa using hc0] at hR3
    refine WL_execS htb 9 [28, 8, 7, 6, 4, 2] [2, 1] ⟨[(28, (.v (.bool true))), (8, (.v (.slice A_r1 n_r1 c_r1))), (7, (.v (.bool false))), (6, (.p 2 0)), (4, (.p 1 0)), (2, (.v (.int .i64 k)))], [(2, (.cells 24 [(.v (.slice none 0 0)), (.v (.slice none 0 0))])), (1, (.cells 24 [(.v (.slice A_a n_a c_a)), (.v (.slice A_b n_b c_b))]))], 3, [], []⟩ (by kernel_rfl) ?_
    refine WL_nil ?_
    refine WQ_code ?_
    refine WC_cond (b := true) rfl (fun _ => ?_) (fun h => by cases h)
    refine WC_seq (WC_region ?_)
    refine WL_execS htb 3 [7, 8, 6, 4, 2] [2, 1] ⟨[(7, (.v (.bool false))), (8, (.v (.slice A_r1 n_r1 c_r1))), (6, (.p 2 0)), (4, (.p 1 0)), (2, (.v (.int .i64 k)))], [(2, (.cells 24 [(.v (.slice none 0 0)), (.v (.slice none 0 0))])), (1, (.cells 24 [(.v (.slice A_a n_a c_a)), (.v (.slice A_b n_b c_b))]))], 3, [], []⟩ (by kernel_rfl) ?_
    refine WL_nil ?_
    refine WQ_code ?_
    refine WC_ret ?_
    refine WQ_then_ret ?_
    exact WQ_done htb [(.agg [(.v (.slice none 0 0)), (.v (.slice none 0 0))]), (.v (.bool false))] _ (.inl rfl) rfl (by kernel_rfl) (fun ρ w hW => ⟨[], _, _, _, [], _, _, _, false, rfl, (Sl.none0 _ _), (Sl.none0 _ _), (newS_no0 hR3).symm⟩)
  · rw [Bool.not_eq_false'] at hc0
    refine WK_keep [19, 8, 7, 6, 4, 2] [2, 1] rfl rfl ?_
    rw [show r2 = true by simpa using hc0] at hR3
    refine WL_execS htb 4 [23, 8, 7, 6, 4, 2] [2, 1] ⟨[(23, (.v (.bool (decide ((k : Int) < 0))))), (8, (.v (.slice A_r1 n_r1 c_r1))), (7, (.v (.bool false))), (6, (.p 2 0)), (4, (.p 1 0)), (2, (.v (.int .i64 k)))], [(2, (.cells 24 [(.v (.slice none 0 0)), (.v (.slice none 0 0))])), (1, (.cells 24 [(.v (.slice A_a n_a c_a)), (.v (.slice A_b n_b c_b))]))], 3, [], []⟩ (by kernel_rfl) ?_
    refine WK_split 23 (decide ((k : Int) < 0)) rfl (fun hc1 => ?_) (fun hc1 => ?_)
    · replace hc1 := of_decide_eq_true hc1
      refine WK_keep [23, 8, 7, 6, 4, 2] [2, 1] rfl rfl ?_
      refine WL_execS htb 5 [28, 8, 7, 6, 4, 2] [2, 1] ⟨[(28, (.v (.bool true))), (8, (.v (.slice A_r1 n_r1 c_r1))), (7, (.v (.bool false))), (6, (.p 2 0)), (4, (.p 1 0)), (2, (.v (.int .i64 k)))], [(2, (.cells 24 [(.v (.slice none 0 0)), (.v (.slice none 0 0))])), (1, (.cells 24 [(.v (.slice A_a n_a c_a)), (.v (.slice A_b n_b c_b))]))], 3, [], []⟩ (by kernel_rfl) ?_
      refine WL_nil ?_
      refine WQ_code ?_
      refine WC_cond (b := true) rfl (fun _ => ?_) (fun h => by cases h)
      refine WC_seq (WC_region ?_)
      refine WL_execS htb 3 [7, 8, 6, 4, 2] [2, 1] ⟨[(7, (.v (.bool false))), (8, (.v (.slice A_r1 n_r1 c_r1))), (6, (.p 2 0)), (4, (.p 1 0)), (2, (.v (.int .i64 k)))], [(2, (.cells 24 [(.v (.slice none 0 0)), (.v (.slice none 0 0))])), (1, (.cells 24 [(.v (.slice A_a n_a c_a)), (.v (.slice A_b n_b c_b))]))], 3, [], []⟩ (by kernel_rfl) ?_
      refine WL_nil ?_
      refine WQ_code ?_
      refine WC_ret ?_
      refine WQ_then_ret ?_
      exact WQ_done htb [(.agg [(.v (.slice none 0 0)), (.v (.slice none 0 0))]), (.v (.bool false))] _ (.inl rfl) rfl (by kernel_rfl) (fun ρ w hW => ⟨[], _, _, _, [], _, _, _, false, rfl, (Sl.none0 _ _), (Sl.none0 _ _), (newS_no1 hc1).symm⟩)
    · replace hc1 := of_decide_eq_false hc1
      refine WK_keep [23, 8, 7, 6, 4, 2] [2, 1] rfl rfl ?_
      refine WL_execS htb 5 [28, 8, 7, 6, 4, 2] [2, 1] ⟨[(28, (.v (.bool (decide ((k : Int) ≥ ((n_r1 : Nat) : Int)))))), (8, (.v (.slice A_r1 n_r1 c_r1))), (7, (.v (.bool false))), (6, (.p 2 0)), (4, (.p 1 0)), (2, (.v (.int .i64 k)))], [(2, (.cells 24 [(.v (.slice none 0 0)), (.v (.slice none 0 0))])), (1, (.cells 24 [(.v (.slice A_a n_a c_a)), (.v (.slice A_b n_b c_b))]))], 3, [], []⟩ (by kernel_rfl) ?_
      refine WL_nil ?_
      refine WQ_code ?_
      refine WC_cond (b := (decide ((k : Int) ≥ ((n_r1 : Nat) : Int)))) rfl (fun hc2 => ?_) (fun hc2 => ?_)
      · replace hc2 := of_decide_eq_true hc2
        refine WC_seq (WC_region ?_)
        refine WL_execS htb 3 [7, 8, 6, 4, 2] [2, 1] ⟨[(7, (.v (.bool false))), (8, (.v (.slice A_r1 n_r1 c_r1))), (6, (.p 2 0)), (4, (.p 1 0)), (2, (.v (.int .i64 k)))], [(2, (.cells 24 [(.v (.slice none 0 0)), (.v (.slice none 0 0))])), (1, (.cells 24 [(.v (.slice A_a n_a c_a)), (.v (.slice A_b n_b c_b))]))], 3, [], []⟩ (by kernel_rfl) ?_
        refine WL_nil ?_
        refine WQ_code ?_
        refine WC_ret ?_
        refine WQ_then_ret ?_
        exact WQ_done htb [(.agg [(.v (.slice none 0 0)), (.v (.slice none 0 0))]), (.v (.bool false))] _ (.inl rfl) rfl (by kernel_rfl) (fun ρ w hW => ⟨[], _, _, _, [], _, _, _, false, rfl, (Sl.none0 _ _), (Sl.none0 _ _), (newS_no2 hR3 (by omega) (by omega)).symm⟩)
      · replace hc2 := of_decide_eq_false hc2
        have hsm := altsS_small hr hR3
        have hne := altsS_ne hR3
        refine WC_skip ?_
        refine WQ_code ?_
        refine WK_keep [8, 7, 6, 4, 2] [2, 1] rfl rfl ?_
        refine WK_freeze 1 rfl rfl rfl rfl ?_
        intro bk5 G4 hle hbk5
        replace h_tk := h_tk.mono hle
        replace h_nm := h_nm.mono hle
        replace h_rs := h_rs.mono hle
        replace h_a := h_a.mono hle
        replace h_b := h_b.mono hle
        replace h_r1 := h_r1.mono hle
        have hz := FZ.cons (h := 1) hbk5 rfl (FZ.nil _)
        refine WC_seq (WC_draw mixed ?_)
        refine WK_keep [8, 6, 4, 2] [2] rfl rfl ?_
        refine WD_takeL htb rfl (fun _ _ _ _ _ h => h) (Le.refl _) [0, 1, 3, 4, 7, 8] (fuel := 9) (listed' := #[true, true, false, true, true, false, false, true, true, false, false, false, false, false, false]) (S' := ⟨[(38, (.v (.slice A_b n_b c_b))), (37, (.p 1 1)), (34, (.v (.int .i64 k))), (33, (.v (.slice A_r1 n_r1 c_r1))), (31, (.v (.slice A_a n_a c_a))), (30, (.p 1 0)), (8, (.v (.slice A_r1 n_r1 c_r1))), (6, (.p 2 0)), (4, (.p 1 0)), (2, (.v (.int .i64 k)))], [(2, (.cells 24 [(.v (.slice none 0 0)), (.v (.slice none 0 0))]))], 3, [], [(1, bk5, (.cells 24 [(.v (.slice A_a n_a c_a)), (.v (.slice A_b n_b c_b))]))]⟩) hz (by kernel_rfl) rfl ?_
        obtain ⟨q6, rfl⟩ := h_r1.ptr (by omega)
        obtain ⟨x9, _, hx7, hr10, at8⟩ := h_r1.get ((k : Int).toNat) (by omega)
        obtain ⟨A12, n13, c14, rfl, hs11⟩ := Sl.of hr10
        have lhs11 := hs11.len'
        replace at8 : At G4 (q6.add (((k : Int).toNat) * 1)) [.slice A12 n13 c14] := at8
        refine WD_idx htb 5 (by rfl) rfl (by decide +kernel) (fun _ _ _ _ _ h => h) (Le.refl _) q6 n_r1 k 1 (by kernel_rfl) (by omega) (by omega) ?_
        refine WD_ld htb 6 (by rfl) rfl (by decide +kernel) (fun _ _ _ _ _ h => h) (Le.refl _) (q6.add (((k : Int).toNat) * 1)) false 1 [.slice A12 n13 c14] (by kernel_rfl) at8 rfl (by decide) ?_
        obtain ⟨A15, hA16⟩ : ∃ A, sliceAddr A_b c_b 1 1 = A := ⟨_, rfl⟩
        have hs17 := h_b.from 1 (by omega) hA16
        refine WD_sl htb 9 (by rfl) rfl (by decide +kernel) (fun _ _ _ _ _ h => h) (Le.refl _) A_b n_b c_b 1 n_b 1 (by kernel_rfl) (by omega) (by omega) hA16 ?_
        have lhs17 := hs17.len'
        refine WD_join (ι := Option Addr × Nat × Nat × Option Addr × Nat × Nat) (fun (A18, n19, c20, A22, n23, c24) G' => Le G4 G' ∧ Sl (tInt .i64) G' A18 n19 c20 a ∧ Sl (tInt .i64) G' A22 n23 c24 ([x9, (b.drop 1)].flatten)) (fun (A18, n19, c20, A22, n23, c24) => ⟨[(42, (.agg [(.v (.slice A18 n19 c20)), (.v (.slice A22 n23 c24))])), (32, (.v (.slice A18 n19 c20))), (41, (.v (.slice A22 n23 c24))), (39, (.v (.slice A15 (n_b - 1) (c_b - 1)))), (36, (.v (.slice A12 n13 c14))), (35, (.v (.pointer (some (q6.add (((k : Int).toNat) * 1)))))), (38, (.v (.slice A_b n_b c_b))), (37, (.p 1 1)), (34, (.v (.int .i64 k))), (33, (.v (.slice (some q6) n_r1 c_r1))), (31, (.v (.slice A_a n_a c_a))), (30, (.p 1 0)), (8, (.v (.slice (some q6) n_r1 c_r1))), (6, (.p 2 0)), (4, (.p 1 0)), (2, (.v (.int .i64 k)))], [(2, (.cells 24 [(.v (.slice none 0 0)), (.v (.slice none 0 0))]))], 3, [], [(1, bk5, (.cells 24 [(.v (.slice A_a n_a c_a)), (.v (.slice A_b n_b c_b))]))]⟩) 2 #[true, true, true, true, true, true, true, true, true, true, true, true, true, false, false] ?cont (fun hK26 => ?now)
        case now =>
          have hc27 := Le.refl G4
          refine WD_two 2 10 (by rfl) (by rfl) (by decide +kernel) ?_ ?_
          · skip
            refine WOp_call 45 [(.v (.slice A_a n_a c_a))] (by kernel_rfl) (goes_of Try.func45 rfl rfl) (fun ρ w hW => clone_ok hW.has (xs := a) h_a (by omega)) ?_
            intro G2 v hle hΦ
            replace hc27 := Le.trans hc27 hle
            replace h_tk := h_tk.mono hle
            replace h_nm := h_nm.mono hle
            replace h_rs := h_rs.mono hle
            replace h_a := h_a.mono hle
            replace h_b := h_b.mono hle
            replace h_r1 := h_r1.mono hle
            replace hs11 := hs11.mono hle
            replace at8 := at8.mono hle
            replace hs17 := hs17.mono hle
            replace hz := hz.mono hle
            obtain ⟨A_r28, n_r28, c_r28, rfl, h_r28, hR29⟩ := hΦ
            have lh_r28 := h_r28.len'
            refine WD_on hle ?_
            refine WD_up hle ?_
            refine WD_one 10 (by rfl) (by decide +kernel) (WOp_step htb (S' := ⟨[(40, (.s 3 2 2)), (32, (.v (.slice A_r28 n_r28 c_r28))), (39, (.v (.slice A15 (n_b - 1) (c_b - 1)))), (36, (.v (.slice A12 n13 c14))), (35, (.v (.pointer (some (q6.add (((k : Int).toNat) * 1)))))), (38, (.v (.slice A_b n_b c_b))), (37, (.p 1 1)), (34, (.v (.int .i64 k))), (33, (.v (.slice (some q6) n_r1 c_r1))), (31, (.v (.slice A_a n_a c_a))), (30, (.p 1 0)), (8, (.v (.slice (some q6) n_r1 c_r1))), (6, (.p 2 0)), (4, (.p 1 0)), (2, (.v (.int .i64 k)))], [(3, (.cells 22 [(.v (.slice A12 n13 c14)), (.v (.slice A15 (n_b - 1) (c_b - 1)))])), (2, (.cells 24 [(.v (.slice none 0 0)), (.v (.slice none 0 0))]))], 4, [], [(1, bk5, (.cells 24 [(.v (.slice A_a n_a c_a)), (.v (.slice A_b n_b c_b))]))]⟩) (by kernel_rfl) (WD_on (Le.refl _) ?_))
            refine WK_freezeV 3 rfl rfl rfl rfl ?_
            intro bk31 G30 hle hbk31
            replace hc27 := Le.trans hc27 hle
            replace h_tk := h_tk.mono hle
            replace h_nm := h_nm.mono hle
            replace h_rs := h_rs.mono hle
            replace h_a := h_a.mono hle
            replace h_b := h_b.mono hle
            replace h_r1 := h_r1.mono hle
            replace hs11 := hs11.mono hle
            replace at8 := at8.mono hle
            replace hs17 := hs17.mono hle
            replace h_r28 := h_r28.mono hle
            replace hz := hz.mono hle
            refine WD_up hle ?_
            show WK _ _ ⟨[(40, (.v (.slice (some ⟨bk31, 0, none⟩) 2 2))), (32, (.v (.slice A_r28 n_r28 c_r28))), (39, (.v (.slice A15 (n_b - 1) (c_b - 1)))), (36, (.v (.slice A12 n13 c14))), (35, (.v (.pointer (some (q6.add (((k : Int).toNat) * 1)))))), (38, (.v (.slice A_b n_b c_b))), (37, (.p 1 1)), (34, (.v (.int .i64 k))), (33, (.v (.slice (some q6) n_r1 c_r1))), (31, (.v (.slice A_a n_a c_a))), (30, (.p 1 0)), (8, (.v (.slice (some q6) n_r1 c_r1))), (6, (.p 2 0)), (4, (.p 1 0)), (2, (.v (.int .i64 k)))], [(2, (.cells 24 [(.v (.slice none 0 0)), (.v (.slice none 0 0))]))], 4, [], [(1, bk5, (.cells 24 [(.v (.slice A_a n_a c_a)), (.v (.slice A_b n_b c_b))]))]⟩ _
            have hs32 : Sl (tSlice (tInt .i64)) G30 (some ⟨bk31, 0, none⟩) 2 2 [x9, (b.drop 1)] := Sl.lit (cs := [.slice A12 n13 c14, .slice A15 (n_b - 1) (c_b - 1)]) (RepsL.cons' hs11.reps (RepsL.cons' hs17.reps .nil)) hbk31 rfl (by unfold big; omega)
            have lhs32 := hs32.len'
            refine WD_one 11 (by rfl) (by decide +kernel) (WOp_call 44 [(.v (.slice (some ⟨bk31, 0, none⟩) 2 2))] (by kernel_rfl) (goes_of Try.func44 rfl rfl) (fun ρ w hW => concat_ok hW.has (xss := [x9, (b.drop 1)]) hs32 (by have := hsm.2 _ (List.mem_of_getElem? hx7); simp only [List.flatten_cons, List.flatten_nil, List.length_append, List.length_drop, List.length_nil]; omega)) ?_)
            intro G3 v hle hΦ
            replace hc27 := Le.trans hc27 hle
            replace h_tk := h_tk.mono hle
            replace h_nm := h_nm.mono hle
            replace h_rs := h_rs.mono hle
            replace h_a := h_a.mono hle
            replace h_b := h_b.mono hle
            replace h_r1 := h_r1.mono hle
            replace hs11 := hs11.mono hle
            replace at8 := at8.mono hle
            replace hs17 := hs17.mono hle
            replace h_r28 := h_r28.mono hle
            replace hs32 := hs32.mono hle
            replace hz := hz.mono hle
            obtain ⟨A_r33, n_r33, c_r33, rfl, h_r33, hR34⟩ := hΦ
            have lh_r33 := h_r33.len'
            refine WD_on hle ?_
            refine WD_up hle ?_
            refine WD_takeL htb rfl (fun _ _ _ _ _ h => h) (Le.refl _) [12] (fuel := 2) (listed' := #[true, true, true, true, true, true, true, true, true, true, true, true, true, false, false]) (S' := ⟨[(42, (.agg [(.v (.slice A_r28 n_r28 c_r28)), (.v (.slice A_r33 n_r33 c_r33))])), (41, (.v (.slice A_r33 n_r33 c_r33))), (40, (.v (.slice (some ⟨bk31, 0, none⟩) 2 2))), (32, (.v (.slice A_r28 n_r28 c_r28))), (39, (.v (.slice A15 (n_b - 1) (c_b - 1)))), (36, (.v (.slice A12 n13 c14))), (35, (.v (.pointer (some (q6.add (((k : Int).toNat) * 1)))))), (38, (.v (.slice A_b n_b c_b))), (37, (.p 1 1)), (34, (.v (.int .i64 k))), (33, (.v (.slice (some q6) n_r1 c_r1))), (31, (.v (.slice A_a n_a c_a))), (30, (.p 1 0)), (8, (.v (.slice (some q6) n_r1 c_r1))), (6, (.p 2 0)), (4, (.p 1 0)), (2, (.v (.int .i64 k)))], [(2, (.cells 24 [(.v (.slice none 0 0)), (.v (.slice none 0 0))]))], 4, [], [(1, bk5, (.cells 24 [(.v (.slice A_a n_a c_a)), (.v (.slice A_b n_b c_b))]))]⟩) hz (by kernel_rfl) rfl ?_
            refine WK_keep [42, 32, 41, 39, 36, 35, 38, 37, 34, 33, 31, 30, 8, 6, 4, 2] [2] rfl rfl ?_
            refine WK_ren (T := ⟨[(42, (.agg [(.v (.slice A_r28 n_r28 c_r28)), (.v (.slice A_r33 n_r33 c_r33))])), (32, (.v (.slice A_r28 n_r28 c_r28))), (41, (.v (.slice A_r33 n_r33 c_r33))), (39, (.v (.slice A15 (n_b - 1) (c_b - 1)))), (36, (.v (.slice A12 n13 c14))), (35, (.v (.pointer (some (q6.add (((k : Int).toNat) * 1)))))), (38, (.v (.slice A_b n_b c_b))), (37, (.p 1 1)), (34, (.v (.int .i64 k))), (33, (.v (.slice (some q6) n_r1 c_r1))), (31, (.v (.slice A_a n_a c_a))), (30, (.p 1 0)), (8, (.v (.slice (some q6) n_r1 c_r1))), (6, (.p 2 0)), (4, (.p 1 0)), (2, (.v (.int .i64 k)))], [(2, (.cells 24 [(.v (.slice none 0 0)), (.v (.slice none 0 0))]))], 3, [], [(1, bk5, (.cells 24 [(.v (.slice A_a n_a c_a)), (.v (.slice A_b n_b c_b))]))]⟩) [] rfl rfl rfl rfl rfl rfl ?_
            exact hK26 (A_r28, n_r28, c_r28, A_r33, n_r33, c_r33) G3 ⟨hc27, h_r28, h_r33⟩
          · skip
            refine WOp_step htb (S' := ⟨[(40, (.s 3 2 2)), (39, (.v (.slice A15 (n_b - 1) (c_b - 1)))), (36, (.v (.slice A12 n13 c14))), (35, (.v (.pointer (some (q6.add (((k : Int).toNat) * 1)))))), (38, (.v (.slice A_b n_b c_b))), (37, (.p 1 1)), (34, (.v (.int .i64 k))), (33, (.v (.slice (some q6) n_r1 c_r1))), (31, (.v (.slice A_a n_a c_a))), (30, (.p 1 0)), (8, (.v (.slice (some q6) n_r1 c_r1))), (6, (.p 2 0)), (4, (.p 1 0)), (2, (.v (.int .i64 k)))], [(3, (.cells 22 [(.v (.slice A12 n13 c14)), (.v (.slice A15 (n_b - 1) (c_b - 1)))])), (2, (.cells 24 [(.v (.slice none 0 0)), (.v (.slice none 0 0))]))], 4, [], [(1, bk5, (.cells 24 [(.v (.slice A_a n_a c_a)), (.v (.slice A_b n_b c_b))]))]⟩) (by kernel_rfl) (WD_on (Le.refl _) ?_)
            refine WK_freezeV 3 rfl rfl rfl rfl ?_
            intro bk29 G28 hle hbk29
            replace hc27 := Le.trans hc27 hle
            replace h_tk := h_tk.mono hle
            replace h_nm := h_nm.mono hle
            replace h_rs := h_rs.mono hle
            replace h_a := h_a.mono hle
            replace h_b := h_b.mono hle
            replace h_r1 := h_r1.mono hle
            replace hs11 := hs11.mono hle
            replace at8 := at8.mono hle
            replace hs17 := hs17.mono hle
            replace hz := hz.mono hle
            refine WD_up hle ?_
            show WK _ _ ⟨[(40, (.v (.slice (some ⟨bk29, 0, none⟩) 2 2))), (39, (.v (.slice A15 (n_b - 1) (c_b - 1)))), (36, (.v (.slice A12 n13 c14))), (35, (.v (.pointer (some (q6.add (((k : Int).toNat) * 1)))))), (38, (.v (.slice A_b n_b c_b))), (37, (.p 1 1)), (34, (.v (.int .i64 k))), (33, (.v (.slice (some q6) n_r1 c_r1))), (31, (.v (.slice A_a n_a c_a))), (30, (.p 1 0)), (8, (.v (.slice (some q6) n_r1 c_r1))), (6, (.p 2 0)), (4, (.p 1 0)), (2, (.v (.int .i64 k)))], [(2, (.cells 24 [(.v (.slice none 0 0)), (.v (.slice none 0 0))]))], 4, [], [(1, bk5, (.cells 24 [(.v (.slice A_a n_a c_a)), (.v (.slice A_b n_b c_b))]))]⟩ _
            have hs30 : Sl (tSlice (tInt .i64)) G28 (some ⟨bk29, 0, none⟩) 2 2 [x9, (b.drop 1)] := Sl.lit (cs := [.slice A12 n13 c14, .slice A15 (n_b - 1) (c_b - 1)]) (RepsL.cons' hs11.reps (RepsL.cons' hs17.reps .nil)) hbk29 rfl (by unfold big; omega)
            have lhs30 := hs30.len'
            refine WD_one 2 (by rfl) (by decide +kernel) (WOp_call 45 [(.v (.slice A_a n_a c_a))] (by kernel_rfl) (goes_of Try.func45 rfl rfl) (fun ρ w hW => clone_ok hW.has (xs := a) h_a (by omega)) ?_)
            intro G2 v hle hΦ
            replace hc27 := Le.trans hc27 hle
            replace h_tk := h_tk.mono hle
            replace h_nm := h_nm.mono hle
            replace h_rs := h_rs.mono hle
            replace h_a := h_a.mono hle
            replace h_b := h_b.mono hle
            replace h_r1 := h_r1.mono hle
            replace hs11 := hs11.mono hle
            replace at8 := at8.mono hle
            replace hs17 := hs17.mono hle
            replace hs30 := hs30.mono hle
            replace hz := hz.mono hle
            obtain ⟨A_r31, n_r31, c_r31, rfl, h_r31, hR32⟩ := hΦ
            have lh_r31 := h_r31.len'
            refine WD_on hle ?_
            refine WD_up hle ?_
            refine WD_one 11 (by rfl) (by decide +kernel) (WOp_call 44 [(.v (.slice (some ⟨bk29, 0, none⟩) 2 2))] (by kernel_rfl) (goes_of Try.func44 rfl rfl) (fun ρ w hW => concat_ok hW.has (xss := [x9, (b.drop 1)]) hs30 (by have := hsm.2 _ (List.mem_of_getElem? hx7); simp only [List.flatten_cons, List.flatten_nil, List.length_append, List.length_drop, List.length_nil]; omega)) ?_)
            intro G3 v hle hΦ
            replace hc27 := Le.trans hc27 hle
            replace h_tk := h_tk.mono hle
            replace h_nm := h_nm.mono hle
            replace h_rs := h_rs.mono hle
            replace h_a := h_a.mono hle
            replace h_b := h_b.mono hle
            replace h_r1 := h_r1.mono hle
            replace hs11 := hs11.mono hle
            replace at8 := at8.mono hle
            replace hs17 := hs17.mono hle
            replace hs30 := hs30.mono hle
            replace h_r31 := h_r31.mono hle
            replace hz := hz.mono hle
            obtain ⟨A_r33, n_r33, c_r33, rfl, h_r33, hR34⟩ := hΦ
            have lh_r33 := h_r33.len'
            refine WD_on hle ?_
            refine WD_up hle ?_
            refine WD_takeL htb rfl (fun _ _ _ _ _ h => h) (Le.refl _) [12] (fuel := 2) (listed' := #[true, true, true, true, true, true, true, true, true, true, true, true, true, false, false]) (S' := ⟨[(42, (.agg [(.v (.slice A_r31 n_r31 c_r31)), (.v (.slice A_r33 n_r33 c_r33))])), (41, (.v (.slice A_r33 n_r33 c_r33))), (32, (.v (.slice A_r31 n_r31 c_r31))), (40, (.v (.slice (some ⟨bk29, 0, none⟩) 2 2))), (39, (.v (.slice A15 (n_b - 1) (c_b - 1)))), (36, (.v (.slice A12 n13 c14))), (35, (.v (.pointer (some (q6.add (((k : Int).toNat) * 1)))))), (38, (.v (.slice A_b n_b c_b))), (37, (.p 1 1)), (34, (.v (.int .i64 k))), (33, (.v (.slice (some q6) n_r1 c_r1))), (31, (.v (.slice A_a n_a c_a))), (30, (.p 1 0)), (8, (.v (.slice (some q6) n_r1 c_r1))), (6, (.p 2 0)), (4, (.p 1 0)), (2, (.v (.int .i64 k)))], [(2, (.cells 24 [(.v (.slice none 0 0)), (.v (.slice none 0 0))]))], 4, [], [(1, bk5, (.cells 24 [(.v (.slice A_a n_a c_a)), (.v (.slice A_b n_b c_b))]))]⟩) hz (by kernel_rfl) rfl ?_
            refine WK_keep [42, 32, 41, 39, 36, 35, 38, 37, 34, 33, 31, 30, 8, 6, 4, 2] [2] rfl rfl ?_
            refine WK_ren (T := ⟨[(42, (.agg [(.v (.slice A_r31 n_r31 c_r31)), (.v (.slice A_r33 n_r33 c_r33))])), (32, (.v (.slice A_r31 n_r31 c_r31))), (41, (.v (.slice A_r33 n_r33 c_r33))), (39, (.v (.slice A15 (n_b - 1) (c_b - 1)))), (36, (.v (.slice A12 n13 c14))), (35, (.v (.pointer (some (q6.add (((k : Int).toNat) * 1)))))), (38, (.v (.slice A_b n_b c_b))), (37, (.p 1 1)), (34, (.v (.int .i64 k))), (33, (.v (.slice (some q6) n_r1 c_r1))), (31, (.v (.slice A_a n_a c_a))), (30, (.p 1 0)), (8, (.v (.slice (some q6) n_r1 c_r1))), (6, (.p 2 0)), (4, (.p 1 0)), (2, (.v (.int .i64 k)))], [(2, (.cells 24 [(.v (.slice none 0 0)), (.v (.slice none 0 0))]))], 3, [], [(1, bk5, (.cells 24 [(.v (.slice A_a n_a c_a)), (.v (.slice A_b n_b c_b))]))]⟩) [] rfl rfl rfl rfl rfl rfl ?_
            exact hK26 (A_r31, n_r31, c_r31, A_r33, n_r33, c_r33) G3 ⟨hc27, h_r31, h_r33⟩
        rintro ⟨A18, n19, c20, A22, n23, c24⟩ G28 ⟨hle, hs21, hs25⟩
        show WK _ _ ⟨[(42, (.agg [(.v (.slice A18 n19 c20)), (.v (.slice A22 n23 c24))])), (32, (.v (.slice A18 n19 c20))), (41, (.v (.slice A22 n23 c24))), (39, (.v (.slice A15 (n_b - 1) (c_b - 1)))), (36, (.v (.slice A12 n13 c14))), (35, (.v (.pointer (some (q6.add (((k : Int).toNat) * 1)))))), (38, (.v (.slice A_b n_b c_b))), (37, (.p 1 1)), (34, (.v (.int .i64 k))), (33, (.v (.slice (some q6) n_r1 c_r1))), (31, (.v (.slice A_a n_a c_a))), (30, (.p 1 0)), (8, (.v (.slice (some q6) n_r1 c_r1))), (6, (.p 2 0)), (4, (.p 1 0)), (2, (.v (.int .i64 k)))], [(2, (.cells 24 [(.v (.slice none 0 0)), (.v (.slice none 0 0))]))], 3, [], [(1, bk5, (.cells 24 [(.v (.slice A_a n_a c_a)), (.v (.slice A_b n_b c_b))]))]⟩ _
        replace h_tk := h_tk.mono hle
        replace h_nm := h_nm.mono hle
        replace h_rs := h_rs.mono hle
        replace h_a := h_a.mono hle
        replace h_b := h_b.mono hle
        replace h_r1 := h_r1.mono hle
        replace hs11 := hs11.mono hle
        replace at8 := at8.mono hle
        replace hs17 := hs17.mono hle
        replace hz := hz.mono hle
        have lhs21 := hs21.len'
        have lhs25 := hs25.len'
        refine WD_one 13 (by rfl) (by decide +kernel) (WOp_step htb (S' := ⟨[(42, (.agg [(.v (.slice A18 n19 c20)), (.v (.slice A22 n23 c24))])), (32, (.v (.slice A18 n19 c20))), (41, (.v (.slice A22 n23 c24))), (39, (.v (.slice A15 (n_b - 1) (c_b - 1)))), (36, (.v (.slice A12 n13 c14))), (35, (.v (.pointer (some (q6.add (((k : Int).toNat) * 1)))))), (38, (.v (.slice A_b n_b c_b))), (37, (.p 1 1)), (34, (.v (.int .i64 k))), (33, (.v (.slice (some q6) n_r1 c_r1))), (31, (.v (.slice A_a n_a c_a))), (30, (.p 1 0)), (8, (.v (.slice (some q6) n_r1 c_r1))), (6, (.p 2 0)), (4, (.p 1 0)), (2, (.v (.int .i64 k)))], [(2, (.cells 24 [(.v (.slice A18 n19 c20)), (.v (.slice A22 n23 c24))]))], 3, [], [(1, bk5, (.cells 24 [(.v (.slice A_a n_a c_a)), (.v (.slice A_b n_b c_b))]))]⟩) (by kernel_rfl) (WD_on (Le.refl _) ?_))
        refine WD_takeL htb rfl (fun _ _ _ _ _ h => h) (Le.refl _) [14] (fuel := 0) (listed' := #[true, true, true, true, true, true, true, true, true, true, true, true, true, true, true]) (S' := ⟨[(7, (.v (.bool true))), (42, (.agg [(.v (.slice A18 n19 c20)), (.v (.slice A22 n23 c24))])), (32, (.v (.slice A18 n19 c20))), (41, (.v (.slice A22 n23 c24))), (39, (.v (.slice A15 (n_b - 1) (c_b - 1)))), (36, (.v (.slice A12 n13 c14))), (35, (.v (.pointer (some (q6.add (((k : Int).toNat) * 1)))))), (38, (.v (.slice A_b n_b c_b))), (37, (.p 1 1)), (34, (.v (.int .i64 k))), (33, (.v (.slice (some q6) n_r1 c_r1))), (31, (.v (.slice A_a n_a c_a))), (30, (.p 1 0)), (8, (.v (.slice (some q6) n_r1 c_r1))), (6, (.p 2 0)), (4, (.p 1 0)), (2, (.v (.int .i64 k)))], [(2, (.cells 24 [(.v (.slice A18 n19 c20)), (.v (.slice A22 n23 c24))]))], 3, [], [(1, bk5, (.cells 24 [(.v (.slice A_a n_a c_a)), (.v (.slice A_b n_b c_b))]))]⟩) hz (by kernel_rfl) rfl ?_
        refine WD_done (by decide +kernel) ?_
        refine WK_keep [7, 6] [2] rfl rfl ?_
        refine WQ_code ?_
        refine WC_ret ?_
        exact WQ_done htb [(.agg [(.v (.slice A18 n19 c20)), (.v (.slice A22 n23 c24))]), (.v (.bool true))] _ (.inl rfl) rfl (by kernel_rfl) (fun ρ w hW => ⟨a, _, _, _, ([x9, (b.drop 1)].flatten), _, _, _, true, rfl, hs21, hs25, by rw [newS_yes hR3 (by omega) hx7]; simp⟩)

theorem rnew_ok {w : World} {G : Heap} (hG : Has w G) {tk : (List ByteArray)} {A_tk : Option Addr} {n_tk : Nat} {c_tk : Nat} {nm : (List ByteArray)} {A_nm : Option Addr} {n_nm : Nat} {c_nm : Nat} {rs : (List (List (List Int)))} {A_rs : Option Addr} {n_rs : Nat} {c_rs : Nat} {a : (List Int)} {A_a : Option Addr} {n_a : Nat} {c_a : Nat} {b : (List Int)} {A_b : Option Addr} {n_b : Nat} {c_b : Nat} {k : Int} (h_tk : Sl tStr G A_tk n_tk c_tk tk) (h_nm : Sl tStr G A_nm n_nm c_nm nm) (h_rs : Sl (tSlice (tSlice (tInt .i64))) G A_rs n_rs c_rs rs) (h_a : Sl (tInt .i64) G A_a n_a c_a a) (h_b : Sl (tInt .i64) G A_b n_b c_b b) (h_k : -9223372036854775808 ≤ k ∧ k ≤ 9223372036854775807) (hr : SmallR rs) (hb1 : n_a ≤ 1000000000) (hb2 : n_b ≤ 1000000000) :
    Calls Try.prog 22 #[(.agg #[.slice A_tk n_tk c_tk, .slice A_nm n_nm c_nm, .slice A_rs n_rs c_rs]), (.agg #[.slice A_a n_a c_a, .slice A_b n_b c_b]), (.int .i64 k)] w (Ret w G fun v G' => ∃ (r1 : (List Int)) (A_r1 : Option Addr) (n_r1 : Nat) (c_r1 : Nat) (r2 : (List Int)) (A_r2 : Option Addr) (n_r2 : Nat) (c_r2 : Nat) (ok : Bool), v = .tuple #[.agg #[.slice A_r1 n_r1 c_r1, .slice A_r2 n_r2 c_r2], .bool ok] ∧ (Sl (tInt .i64) G' A_r1 n_r1 c_r1 r1) ∧ (Sl (tInt .i64) G' A_r2 n_r2 c_r2 r2) ∧ (((r1, r2), ok) = newS rs (a, b) k)) := by
  have lh_tk := h_tk.len'
  have lh_nm := h_nm.len'
  have lh_rs := h_rs.len'
  have lh_a := h_a.len'
  have lh_b := h_b.len'
  refine enter [(.agg [(.v (.slice A_tk n_tk c_tk)), (.v (.slice A_nm n_nm c_nm)), (.v (.slice A_rs n_rs c_rs))]), (.agg [(.v (.slice A_a n_a c_a)), (.v (.slice A_b n_b c_b))]), (.v (.int .i64 k))] 48 Try.func22 rfl rfl rfl rfl hG ?_
  refine WC_seq (WC_region ?_)
  refine WL_execS htb 4 [7, 6, 4, 3, 2] [2, 1, 0] ⟨[(7, (.v (.bool false))), (6, (.p 2 0)), (4, (.p 1 0)), (3, (.p 0 0)), (2, (.v (.int .i64 k)))], [(2, (.cells 24 [(.v (.slice none 0 0)), (.v (.slice none 0 0))])), (1, (.cells 24 [(.v (.slice A_a n_a c_a)), (.v (.slice A_b n_b c_b))])), (0, (.cells 35 [(.v (.slice A_tk n_tk c_tk)), (.v (.slice A_nm n_nm c_nm)), (.v (.slice A_rs n_rs c_rs))]))], 3, [], []⟩ (by kernel_rfl) ?_
  refine WL_nil ?_
  refine WQ_code ?_
  refine WC_seq (WC_region ?_)
  refine WL_execS htb 3 [13, 11, 7, 6, 4, 3, 2] [2, 1, 0] ⟨[(13, (.v (.slice A_b n_b c_b))), (11, (.agg [(.v (.slice A_tk n_tk c_tk)), (.v (.slice A_nm n_nm c_nm)), (.v (.slice A_rs n_rs c_rs))])), (7, (.v (.bool false))), (6, (.p 2 0)), (4, (.p 1 0)), (3, (.p 0 0)), (2, (.v (.int .i64 k)))], [(2, (.cells 24 [(.v (.slice none 0 0)), (.v (.slice none 0 0))])), (1, (.cells 24 [(.v (.slice A_a n_a c_a)), (.v (.slice A_b n_b c_b))])), (0, (.cells 35 [(.v (.slice A_tk n_tk c_tk)), (.v (.slice A_nm n_nm c_nm)), (.v (.slice A_rs n_rs c_rs))]))], 3, [], []⟩ (by kernel_rfl) ?_
  refine WL_op (WOp_call 46 [(.agg [(.v (.slice A_tk n_tk c_tk)), (.v (.slice A_nm n_nm c_nm)), (.v (.slice A_rs n_rs c_rs))]), (.v (.slice A_b n_b c_b))] (by kernel_rfl) (goes_of Try.func46 rfl rfl) (fun ρ w hW => rule_ok hW.has (tk := tk) (nm := nm) (rs := rs) (xs := b) h_tk h_nm h_rs h_b) ?_)
  intro G1 v hle hΦ
  replace h_tk := h_tk.mono hle
  replace h_nm := h_nm.mono hle
  replace h_rs := h_rs.mono hle
  replace h_a := h_a.mono hle
  replace h_b := h_b.mono hle
  obtain ⟨r1, r2, rfl, h_r1, hR3⟩ := hΦ
  refine WL_execS htb 5 [9, 8, 7, 6, 4, 3, 2] [2, 1, 0] ⟨[(9, (.v (.bool r2))), (8, (.v (.int .i64 r1))), (7, (.v (.bool false))), (6, (.p 2 0)), (4, (.p 1 0)), (3, (.p 0 0)), (2, (.v (.int .i64 k)))], [(2, (.cells 24 [(.v (.slice none 0 0)), (.v (.slice none 0 0))])), (1, (.cells 24 [(.v (.slice A_a n_a c_a)), (.v (.slice A_b n_b c_b))])), (0, (.cells 35 [(.v (.slice A_tk n_tk c_tk)), (.v (.slice A_nm n_nm c_nm)), (.v (.slice A_rs n_rs c_rs))]))], 3, [], []⟩ (by kernel_rfl) ?_
  refine WL_nil ?_
  refine WQ_code ?_
  refine WC_seq ?_
  refine WC_seq (WC_region ?_)
  refine WL_execS htb 3 [19, 8, 7, 6, 4, 3, 2] [2, 1, 0] ⟨[(19, (.v (.bool (!r2)))), (8, (.v (.int .i64 r1))), (7, (.v (.bool false))), (6, (.p 2 0)), (4, (.p 1 0)), (3, (.p 0 0)), (2, (.v (.int .i64 k)))], [(2, (.cells 24 [(.v (.slice none 0 0)), (.v (.slice none 0 0))])), (1, (.cells 24 [(.v (.slice A_a n_a c_a)), (.v (.slice A_b n_b c_b))])), (0, (.cells 35 [(.v (.slice A_tk n_tk c_tk)), (.v (.slice A_nm n_nm c_nm)), (.v (.slice A_rs n_rs c_rs))]))], 3, [], []⟩ (by kernel_rfl) ?_
  refine WK_split 19 (!r2) rfl (fun hc0 => ?_) (fun hc0 => ?_)
  · rw [Bool.not_eq_true'] at hc0
    refine WK_keep [19, 8, 7, 6, 4, 3, 2] [2, 1, 0] rfl rfl ?_
    rw [show r2 = false by simpa using hc0] at hR3
    refine WL_execS htb 13 [32, 8, 7, 6, 4, 3, 2] [2, 1, 0] ⟨[(32, (.v (.bool true))), (8, (.v (.int .i64 r1))), (7, (.v (.bool false))), (6, (.p 2 0)), (4, (.p 1 0)), (3, (.p 0 0)), (2, (.v (.int .i64 k)))], [(2, (.cells 24 [(.v (.slice none 0 0)), (.v (.slice none 0 0))])), (1, (.cells 24 [(.v (.slice A_a n_a c_a)), (.v (.slice A_b n_b c_b))])), (0, (.cells 35 [(.v (.slice A_tk n_tk c_tk)), (.v (.slice A_nm n_nm c_nm)), (.v (.slice A_rs n_rs c_rs))]))], 3, [], []⟩ (by kernel_rfl) ?_
    refine WL_nil ?_
    refine WQ_code ?_
    refine WC_cond (b := true) rfl (fun _ => ?_) (fun h => by cases h)
    refine WC_seq (WC_region ?_)
    refine WL_execS htb 3 [7, 8, 6, 4, 3, 2] [2, 1, 0] ⟨[(7, (.v (.bool false))), (8, (.v (.int .i64 r1))), (6, (.p 2 0)), (4, (.p 1 0)), (3, (.p 0 0)), (2, (.v (.int .i64 k)))], [(2, (.cells 24 [(.v (.slice none 0 0)), (.v (.slice none 0 0))])), (1, (.cells 24 [(.v (.slice A_a n_a c_a)), (.v (.slice A_b n_b c_b))])), (0, (.cells 35 [(.v (.slice A_tk n_tk c_tk)), (.v (.slice A_nm n_nm c_nm)), (.v (.slice A_rs n_rs c_rs))]))], 3, [], []⟩ (by kernel_rfl) ?_
    refine WL_nil ?_
    refine WQ_code ?_
    refine WC_ret ?_
    refine WQ_then_ret ?_
    exact WQ_done htb [(.agg [(.v (.slice none 0 0)), (.v (.slice none 0 0))]), (.v (.bool false))] _ (.inl rfl) rfl (by kernel_rfl) (fun ρ w hW => ⟨[], _, _, _, [], _, _, _, false, rfl, (Sl.none0 _ _), (Sl.none0 _ _), (newS_no0 (rule_alts0 hR3)).symm⟩)
  · rw [Bool.not_eq_false'] at hc0
    refine WK_keep [19, 8, 7, 6, 4, 3, 2] [2, 1, 0] rfl rfl ?_
    rw [show r2 = true by simpa using hc0] at hR3
    obtain ⟨hr0, hr1, al0, hal0⟩ := rule_alts1 hR3
    have hne := ruleS_ne hR3
    refine WL_execS htb 4 [23, 8, 7, 6, 4, 3, 2] [2, 1, 0] ⟨[(23, (.v (.bool (decide ((k : Int) < 0))))), (8, (.v (.int .i64 r1))), (7, (.v (.bool false))), (6, (.p 2 0)), (4, (.p 1 0)), (3, (.p 0 0)), (2, (.v (.int .i64 k)))], [(2, (.cells 24 [(.v (.slice none 0 0)), (.v (.slice none 0 0))])), (1, (.cells 24 [(.v (.slice A_a n_a c_a)), (.v (.slice A_b n_b c_b))])), (0, (.cells 35 [(.v (.slice A_tk n_tk c_tk)), (.v (.slice A_nm n_nm c_nm)), (.v (.slice A_rs n_rs c_rs))]))], 3, [], []⟩ (by kernel_rfl) ?_
    refine WK_split 23 (decide ((k : Int) < 0)) rfl (fun hc1 => ?_) (fun hc1 => ?_)
    · replace hc1 := of_decide_eq_true hc1
      refine WK_keep [23, 8, 7, 6, 4, 3, 2] [2, 1, 0] rfl rfl ?_
      refine WL_execS htb 9 [32, 8, 7, 6, 4, 3, 2] [2, 1, 0] ⟨[(32, (.v (.bool true))), (8, (.v (.int .i64 r1))), (7, (.v (.bool false))), (6, (.p 2 0)), (4, (.p 1 0)), (3, (.p 0 0)), (2, (.v (.int .i64 k)))], [(2, (.cells 24 [(.v (.slice none 0 0)), (.v (.slice none 0 0))])), (1, (.cells 24 [(.v (.slice A_a n_a c_a)), (.v (.slice A_b n_b c_b))])), (0, (.cells 35 [(.v (.slice A_tk n_tk c_tk)), (.v (.slice A_nm n_nm c_nm)), (.v (.slice A_rs n_rs c_rs))]))], 3, [], []⟩ (by kernel_rfl) ?_
      refine WL_nil ?_
      refine WQ_code ?_
      refine WC_cond (b := true) rfl (fun _ => ?_) (fun h => by cases h)
      refine WC_seq (WC_region ?_)
      refine WL_execS htb 3 [7, 8, 6, 4, 3, 2] [2, 1, 0] ⟨[(7, (.v (.bool false))), (8, (.v (.int .i64 r1))), (6, (.p 2 0)), (4, (.p 1 0)), (3, (.p 0 0)), (2, (.v (.int .i64 k)))], [(2, (.cells 24 [(.v (.slice none 0 0)), (.v (.slice none 0 0))])), (1, (.cells 24 [(.v (.slice A_a n_a c_a)), (.v (.slice A_b n_b c_b))])), (0, (.cells 35 [(.v (.slice A_tk n_tk c_tk)), (.v (.slice A_nm n_nm c_nm)), (.v (.slice A_rs n_rs c_rs))]))], 3, [], []⟩ (by kernel_rfl) ?_
      refine WL_nil ?_
      refine WQ_code ?_
      refine WC_ret ?_
      refine WQ_then_ret ?_
      exact WQ_done htb [(.agg [(.v (.slice none 0 0)), (.v (.slice none 0 0))]), (.v (.bool false))] _ (.inl rfl) rfl (by kernel_rfl) (fun ρ w hW => ⟨[], _, _, _, [], _, _, _, false, rfl, (Sl.none0 _ _), (Sl.none0 _ _), (newS_no1 hc1).symm⟩)
    · replace hc1 := of_decide_eq_false hc1
      refine WK_keep [23, 8, 7, 6, 4, 3, 2] [2, 1, 0] rfl rfl ?_
      refine WL_execS htb 4 [27, 26, 24, 23, 8, 7, 6, 4, 3, 2] [2, 1, 0] ⟨[(27, (.v (.int .i64 r1))), (26, (.v (.slice A_rs n_rs c_rs))), (24, (.v (.int .i64 k))), (23, (.v (.bool false))), (8, (.v (.int .i64 r1))), (7, (.v (.bool false))), (6, (.p 2 0)), (4, (.p 1 0)), (3, (.p 0 0)), (2, (.v (.int .i64 k)))], [(2, (.cells 24 [(.v (.slice none 0 0)), (.v (.slice none 0 0))])), (1, (.cells 24 [(.v (.slice A_a n_a c_a)), (.v (.slice A_b n_b c_b))])), (0, (.cells 35 [(.v (.slice A_tk n_tk c_tk)), (.v (.slice A_nm n_nm c_nm)), (.v (.slice A_rs n_rs c_rs))]))], 3, [], []⟩ (by kernel_rfl) ?_
      obtain ⟨q4, rfl⟩ := h_rs.ptr (by omega)
      obtain ⟨x7, _, hx5, hr8, at6⟩ := h_rs.get ((r1 : Int).toNat) (by omega)
      obtain ⟨A10, n11, c12, rfl, hs9⟩ := Sl.of hr8
      have lhs9 := hs9.len'
      replace at6 : At G1 (q4.add (((r1 : Int).toNat) * 1)) [.slice A10 n11 c12] := at6
      refine WL_op (WOp_idx htb q4 n_rs r1 1 (by kernel_rfl) (by omega) (by omega) ?_)
      refine WL_op (WOp_ld htb (q4.add (((r1 : Int).toNat) * 1)) false 1 [.slice A10 n11 c12] (by kernel_rfl) at6 rfl (by decide) ?_)
      refine WL_execS htb 3 [32, 8, 7, 6, 4, 3, 2] [2, 1, 0] ⟨[(32, (.v (.bool (decide ((k : Int) ≥ ((n11 : Nat) : Int)))))), (8, (.v (.int .i64 r1))), (7, (.v (.bool false))), (6, (.p 2 0)), (4, (.p 1 0)), (3, (.p 0 0)), (2, (.v (.int .i64 k)))], [(2, (.cells 24 [(.v (.slice none 0 0)), (.v (.slice none 0 0))])), (1, (.cells 24 [(.v (.slice A_a n_a c_a)), (.v (.slice A_b n_b c_b))])), (0, (.cells 35 [(.v (.slice A_tk n_tk c_tk)), (.v (.slice A_nm n_nm c_nm)), (.v (.slice (some q4) n_rs c_rs))]))], 3, [], []⟩ (by kernel_rfl) ?_
      refine WL_nil ?_
      refine WQ_code ?_
      have hraw := rule_alts2 hR3 hx5
      have hsm := altsS_small hr hraw
      refine WC_cond (b := (decide ((k : Int) ≥ ((n11 : Nat) : Int)))) rfl (fun hc2 => ?_) (fun hc2 => ?_)
      · replace hc2 := of_decide_eq_true hc2
        refine WC_seq (WC_region ?_)
        refine WL_execS htb 3 [7, 8, 6, 4, 3, 2] [2, 1, 0] ⟨[(7, (.v (.bool false))), (8, (.v (.int .i64 r1))), (6, (.p 2 0)), (4, (.p 1 0)), (3, (.p 0 0)), (2, (.v (.int .i64 k)))], [(2, (.cells 24 [(.v (.slice none 0 0)), (.v (.slice none 0 0))])), (1, (.cells 24 [(.v (.slice A_a n_a c_a)), (.v (.slice A_b n_b c_b))])), (0, (.cells 35 [(.v (.slice A_tk n_tk c_tk)), (.v (.slice A_nm n_nm c_nm)), (.v (.slice (some q4) n_rs c_rs))]))], 3, [], []⟩ (by kernel_rfl) ?_
        refine WL_nil ?_
        refine WQ_code ?_
        refine WC_ret ?_
        refine WQ_then_ret ?_
        exact WQ_done htb [(.agg [(.v (.slice none 0 0)), (.v (.slice none 0 0))]), (.v (.bool false))] _ (.inl rfl) rfl (by kernel_rfl) (fun ρ w hW => ⟨[], _, _, _, [], _, _, _, false, rfl, (Sl.none0 _ _), (Sl.none0 _ _), (newS_no2 hraw (by omega) (by omega)).symm⟩)
      · replace hc2 := of_decide_eq_false hc2
        refine WC_skip ?_
        refine WQ_code ?_
        refine WK_keep [8, 7, 6, 4, 3, 2] [2, 1, 0] rfl rfl ?_
        refine WK_freeze 1 rfl rfl rfl rfl ?_
        intro bk14 G13 hle hbk14
        replace h_tk := h_tk.mono hle
        replace h_nm := h_nm.mono hle
        replace h_rs := h_rs.mono hle
        replace h_a := h_a.mono hle
        replace h_b := h_b.mono hle
        replace hs9 := hs9.mono hle
        replace at6 := at6.mono hle
        have hz := FZ.cons (h := 1) hbk14 rfl (FZ.nil _)
        refine WK_freeze 0 rfl rfl rfl rfl ?_
        intro bk16 G15 hle hbk16
        replace h_tk := h_tk.mono hle
        replace h_nm := h_nm.mono hle
        replace h_rs := h_rs.mono hle
        replace h_a := h_a.mono hle
        replace h_b := h_b.mono hle
        replace hs9 := hs9.mono hle
        replace at6 := at6.mono hle
        replace hz := hz.mono hle
        have hz := FZ.cons (h := 0) hbk16 rfl hz
        refine WC_seq (WC_draw mixed ?_)
        refine WK_keep [8, 6, 4, 3, 2] [2] rfl rfl ?_
        refine WD_takeL htb rfl (fun _ _ _ _ _ h => h) (Le.refl _) [0, 1, 2, 3, 4, 7, 10, 11] (fuel := 8) (listed' := #[true, true, true, true, true, false, false, true, false, false, true, true, false, false, false, false]) (S' := ⟨[(45, (.v (.slice A_b n_b c_b))), (44, (.p 1 1)), (41, (.v (.int .i64 k))), (38, (.v (.int .i64 r1))), (37, (.v (.slice (some q4) n_rs c_rs))), (36, (.p 0 2)), (35, (.v (.slice A_a n_a c_a))), (34, (.p 1 0)), (8, (.v (.int .i64 r1))), (6, (.p 2 0)), (4, (.p 1 0)), (3, (.p 0 0)), (2, (.v (.int .i64 k)))], [(2, (.cells 24 [(.v (.slice none 0 0)), (.v (.slice none 0 0))]))], 3, [], [(0, bk16, (.cells 35 [(.v (.slice A_tk n_tk c_tk)), (.v (.slice A_nm n_nm c_nm)), (.v (.slice (some q4) n_rs c_rs))])), (1, bk14, (.cells 24 [(.v (.slice A_a n_a c_a)), (.v (.slice A_b n_b c_b))]))]⟩) hz (by kernel_rfl) rfl ?_
        obtain ⟨_, hr19, at18⟩ := h_rs.getk hx5
        obtain ⟨A21, n22, c23, rfl, hs20⟩ := Sl.of hr19
        have lhs20 := hs20.len'
        replace at18 : At G15 (q4.add (((r1 : Int).toNat) * 1)) [.slice A21 n22 c23] := at18
        refine WD_idx htb 5 (by rfl) rfl (by decide +kernel) (fun _ _ _ _ _ h => h) (Le.refl _) q4 n_rs r1 1 (by kernel_rfl) (by omega) (by omega) ?_
        refine WD_ld htb 6 (by rfl) rfl (by decide +kernel) (fun _ _ _ _ _ h => h) (Le.refl _) (q4.add (((r1 : Int).toNat) * 1)) false 1 [.slice A21 n22 c23] (by kernel_rfl) at18 rfl (by decide) ?_
        obtain ⟨q24, rfl⟩ := hs20.ptr (by omega)
        obtain ⟨x27, _, hx25, hr28, at26⟩ := hs20.get ((k : Int).toNat) (by omega)
        obtain ⟨A30, n31, c32, rfl, hs29⟩ := Sl.of hr28
        have lhs29 := hs29.len'
        replace at26 : At G15 (q24.add (((k : Int).toNat) * 1)) [.slice A30 n31 c32] := at26
        refine WD_idx htb 8 (by rfl) rfl (by decide +kernel) (fun _ _ _ _ _ h => h) (Le.refl _) q24 n22 k 1 (by kernel_rfl) (by omega) (by omega) ?_
        refine WD_ld htb 9 (by rfl) rfl (by decide +kernel) (fun _ _ _ _ _ h => h) (Le.refl _) (q24.add (((k : Int).toNat) * 1)) false 1 [.slice A30 n31 c32] (by kernel_rfl) at26 rfl (by decide) ?_
        refine WD_one 12 (by rfl) (by decide +kernel) (WOp_call 47 [(.v (.slice A30 n31 c32)), (.v (.slice A_b n_b c_b))] (by kernel_rfl) (goes_of Try.func47 rfl rfl) (fun ρ w hW => put_ok hW.has (xs := x27) (zs := b) hs29 h_b (by omega) (by have := hsm.2 _ (List.mem_of_getElem? hx25); omega) (by omega)) ?_)
        intro G2 v hle hΦ
        replace h_tk := h_tk.mono hle
        replace h_nm := h_nm.mono hle
        replace h_rs := h_rs.mono hle
        replace h_a := h_a.mono hle
        replace h_b := h_b.mono hle
        replace hs9 := hs9.mono hle
        replace at6 := at6.mono hle
        replace hs20 := hs20.mono hle
        replace at18 := at18.mono hle
        replace hs29 := hs29.mono hle
        replace at26 := at26.mono hle
        replace hz := hz.mono hle
        obtain ⟨A_r33, n_r33, c_r33, rfl, h_r33, hR34⟩ := hΦ
        have lh_r33 := h_r33.len'
        refine WD_on hle ?_
        refine WD_up hle ?_
        refine WD_takeL htb rfl (fun _ _ _ _ _ h => h) (Le.refl _) [13] (fuel := 2) (listed' := #[true, true, true, true, true, true, true, true, true, true, true, true, true, true, false, false]) (S' := ⟨[(47, (.agg [(.v (.slice A_a n_a c_a)), (.v (.slice A_r33 n_r33 c_r33))])), (46, (.v (.slice A_r33 n_r33 c_r33))), (43, (.v (.slice A30 n31 c32))), (42, (.v (.pointer (some (q24.add (((k : Int).toNat) * 1)))))), (40, (.v (.slice (some q24) n22 c23))), (39, (.v (.pointer (some (q4.add (((r1 : Int).toNat) * 1)))))), (45, (.v (.slice A_b n_b c_b))), (44, (.p 1 1)), (41, (.v (.int .i64 k))), (38, (.v (.int .i64 r1))), (37, (.v (.slice (some q4) n_rs c_rs))), (36, (.p 0 2)), (35, (.v (.slice A_a n_a c_a))), (34, (.p 1 0)), (8, (.v (.int .i64 r1))), (6, (.p 2 0)), (4, (.p 1 0)), (3, (.p 0 0)), (2, (.v (.int .i64 k)))], [(2, (.cells 24 [(.v (.slice none 0 0)), (.v (.slice none 0 0))]))], 3, [], [(0, bk16, (.cells 35 [(.v (.slice A_tk n_tk c_tk)), (.v (.slice A_nm n_nm c_nm)), (.v (.slice (some q4) n_rs c_rs))])), (1, bk14, (.cells 24 [(.v (.slice A_a n_a c_a)), (.v (.slice A_b n_b c_b))]))]⟩) hz (by kernel_rfl) rfl ?_
        refine WD_one 14 (by rfl) (by decide +kernel) (WOp_step htb (S' := ⟨[(47, (.agg [(.v (.slice A_a n_a c_a)), (.v (.slice A_r33 n_r33 c_r33))])), (46, (.v (.slice A_r33 n_r33 c_r33))), (43, (.v (.slice A30 n31 c32))), (42, (.v (.pointer (some (q24.add (((k : Int).toNat) * 1)))))), (40, (.v (.slice (some q24) n22 c23))), (39, (.v (.pointer (some (q4.add (((r1 : Int).toNat) * 1)))))), (45, (.v (.slice A_b n_b c_b))), (44, (.p 1 1)), (41, (.v (.int .i64 k))), (38, (.v (.int .i64 r1))), (37, (.v (.slice (some q4) n_rs c_rs))), (36, (.p 0 2)), (35, (.v (.slice A_a n_a c_a))), (34, (.p 1 0)), (8, (.v (.int .i64 r1))), (6, (.p 2 0)), (4, (.p 1 0)), (3, (.p 0 0)), (2, (.v (.int .i64 k)))], [(2, (.cells 24 [(.v (.slice A_a n_a c_a)), (.v (.slice A_r33 n_r33 c_r33))]))], 3, [], [(0, bk16, (.cells 35 [(.v (.slice A_tk n_tk c_tk)), (.v (.slice A_nm n_nm c_nm)), (.v (.slice (some q4) n_rs c_rs))])), (1, bk14, (.cells 24 [(.v (.slice A_a n_a c_a)), (.v (.slice A_b n_b c_b))]))]⟩) (by kernel_rfl) (WD_on (Le.refl _) ?_))
        refine WD_takeL htb rfl (fun _ _ _ _ _ h => h) (Le.refl _) [15] (fuel := 0) (listed' := #[true, true, true, true, true, true, true, true, true, true, true, true, true, true, true, true]) (S' := ⟨[(7, (.v (.bool true))), (47, (.agg [(.v (.slice A_a n_a c_a)), (.v (.slice A_r33 n_r33 c_r33))])), (46, (.v (.slice A_r33 n_r33 c_r33))), (43, (.v (.slice A30 n31 c32))), (42, (.v (.pointer (some (q24.add (((k : Int).toNat) * 1)))))), (40, (.v (.slice (some q24) n22 c23))), (39, (.v (.pointer (some (q4.add (((r1 : Int).toNat) * 1)))))), (45, (.v (.slice A_b n_b c_b))), (44, (.p 1 1)), (41, (.v (.int .i64 k))), (38, (.v (.int .i64 r1))), (37, (.v (.slice (some q4) n_rs c_rs))), (36, (.p 0 2)), (35, (.v (.slice A_a n_a c_a))), (34, (.p 1 0)), (8, (.v (.int .i64 r1))), (6, (.p 2 0)), (4, (.p 1 0)), (3, (.p 0 0)), (2, (.v (.int .i64 k)))], [(2, (.cells 24 [(.v (.slice A_a n_a c_a)), (.v (.slice A_r33 n_r33 c_r33))]))], 3, [], [(0, bk16, (.cells 35 [(.v (.slice A_tk n_tk c_tk)), (.v (.slice A_nm n_nm c_nm)), (.v (.slice (some q4) n_rs c_rs))])), (1, bk14, (.cells 24 [(.v (.slice A_a n_a c_a)), (.v (.slice A_b n_b c_b))]))]⟩) hz (by kernel_rfl) rfl ?_
        refine WD_done (by decide +kernel) ?_
        refine WK_keep [7, 6] [2] rfl rfl ?_
        refine WQ_code ?_
        refine WC_ret ?_
        exact WQ_done htb [(.agg [(.v (.slice A_a n_a c_a)), (.v (.slice A_r33 n_r33 c_r33))]), (.v (.bool true))] _ (.inl rfl) rfl (by kernel_rfl) (fun ρ w hW => ⟨a, _, _, _, (x27 ++ b.drop 1), _, _, _, true, rfl, h_a, h_r33, (newS_yes hraw (by omega) hx25).symm⟩)

end Go.Proofs.Ytbpajkjolhoflaa.Sym
