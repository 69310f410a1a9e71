/- Walks of functions that the laws of this seat reach, printed by a program of this session's. -/
import Derived.Test.YtbpajkjolhoflaaT7
set_option linter.unusedSimpArgs false
set_option linter.unusedVariables false
set_option maxHeartbeats 4000000
namespace Go.Proofs.Ytbpajkjolhoflaa.Sym
open Go Go.Proofs Go.RowKit




def SmallR (rs : List (List (List Int))) : Prop := ∀ ar ∈ rs, ar.length ≤ 1000000000 ∧ ∀ al ∈ ar, al.length ≤ 1000000000
def oldS (rs : List (List (List Int))) (p : List Int × List Int) : List (List Int × List Int) × Bool :=
  match altsS rs p.1 with
  | (ar, true) => (ar.map fun x => (x ++ p.1.drop 1, p.2), true)
  | (_, false) => ([], false)
theorem oldS_no {rs : List (List (List Int))} {a b : List Int} {r : List (List Int)} (h : (r, false) = altsS rs a) : oldS rs (a, b) = ([], false) := by
  unfold oldS; simp only [← h]
theorem altsS_small {rs : List (List (List Int))} {a : List Int} {r : List (List Int)} (hs : SmallR rs) (h : (r, true) = altsS rs a) : r.length ≤ 1000000000 ∧ ∀ al ∈ r, al.length ≤ 1000000000 := by
  cases a with
  | nil => simp [altsS] at h
  | cons x a =>
    simp only [altsS] at h
    split at h
    · simp at h
    · split at h
      · rename_i s hs'
        injection h with h1 h2
        subst h1
        exact hs _ (List.mem_of_getElem? hs')
      · simp at h
theorem altsS_ne {rs : List (List (List Int))} {a : List Int} {r : List (List Int)} (h : (r, true) = altsS rs a) : 0 < a.length := by
  cases a with
  | nil => simp [altsS] at h
  | cons x a => simp
theorem l_ok {α : Type} {d : Ty α} {G : Heap} {A : Option Addr} {n c : Nat} {xs : List α} (h : Sl d G A n c xs) (h1 : xs.length ≤ 1000000000) : n ≤ 1000000000 := by rw [h.len]; exact h1
theorem old_len {α β : Type} {f : α → β} {xs : List α} {i n : Nat} {z : β} : ((xs.take i).map f ++ List.replicate (n - i) z).length = min i xs.length + (n - i) := by
  simp
theorem old_step {α β : Type} {f : α → β} {xs : List α} {i n : Nat} {z : β} {x : α} (h : xs[i]? = some x) (hn : n = xs.length) :
    ((xs.take i).map f ++ List.replicate (n - i) z).set i (f x) = (xs.take (i + 1)).map f ++ List.replicate (n - (i + 1)) z := by
  obtain ⟨hi, e⟩ := List.getElem?_eq_some_iff.1 h
  have h1 : ((xs.take i).map f).length = i := by simp; omega
  rw [take_succ' h, List.map_append, List.set_append_right _ _ (by rw [h1]; exact Nat.le_refl _), h1, Nat.sub_self]
  obtain ⟨m, hm⟩ : ∃ m, n - i = m + 1 := ⟨n - i - 1, by omega⟩
  rw [hm, List.replicate_succ, List.set_cons_zero, show n - (i + 1) = m by omega]
  simp
theorem oldS_yes {rs : List (List (List Int))} {a b : List Int} {r : List (List Int)} {i n : Nat} (h : (r, true) = altsS rs a) (hi : r.length ≤ i) (hn : n ≤ i) : oldS rs (a, b) = ((r.take i).map (fun x => (x ++ a.drop 1, b)) ++ List.replicate (n - i) ([], []), true) := by
  unfold oldS; simp only [← h]
  rw [List.take_of_length_le hi, Nat.sub_eq_zero_of_le hn]; simp
theorem old_ok {w : World} {G : Heap} (hG : Has w G) {tk : (List ByteArray)} {A_tk : Option Addr} {n_tk : Nat} {c_tk : Nat} {nm : (List ByteArray)} {A_nm : Option Addr} {n_nm : Nat} {c_nm : Nat} {rs : (List (List (List Int)))} {A_rs : Option Addr} {n_rs : Nat} {c_rs : Nat} {a : (List Int)} {A_a : Option Addr} {n_a : Nat} {c_a : Nat} {b : (List Int)} {A_b : Option Addr} {n_b : Nat} {c_b : Nat} (h_tk : Sl tStr G A_tk n_tk c_tk tk) (h_nm : Sl tStr G A_nm n_nm c_nm nm) (h_rs : Sl (tSlice (tSlice (tInt .i64))) G A_rs n_rs c_rs rs) (h_a : Sl (tInt .i64) G A_a n_a c_a a) (h_b : Sl (tInt .i64) G A_b n_b c_b b) (hr : SmallR rs) (hb1 : n_a ≤ 1000000000) (hb2 : n_b ≤ 1000000000) :
    Calls Try.prog 18 #[(.agg #[.slice A_tk n_tk c_tk, .slice A_nm n_nm c_nm, .slice A_rs n_rs c_rs]), (.agg #[.slice A_a n_a c_a, .slice A_b n_b c_b])] w (Ret w G fun v G' => ∃ (r : (List ((List Int) × (List Int)))) (A_r : Option Addr) (n_r : Nat) (c_r : Nat) (ok : Bool), v = .tuple #[.slice A_r n_r c_r, .bool ok] ∧ (Sl (tPair (tSlice (tInt .i64)) (tSlice (tInt .i64))) G' A_r n_r c_r r) ∧ ((r, ok) = oldS rs (a, b))) := by
  have lh_tk := h_tk.len'
  have lh_nm := h_nm.len'
  have lh_rs := h_rs.len'
  have lh_a := h_a.len'
  have lh_b := h_b.len'
  refine enter [(.agg [(sS A_tk n_tk c_tk), (sS A_nm n_nm c_nm), (sS A_rs n_rs c_rs)]), (.agg [(sS A_a n_a c_a), (sS A_b n_b c_b)])] 45 Try.func18 rfl rfl rfl rfl hG ?_
  refine WC_seq (WC_region ?_)
  refine WL_execS htb 4 [3, 2] [1, 0] ⟨[(3, (.p 1 0)), (2, (.p 0 0))], [(1, (.cells 24 [(sS A_a n_a c_a), (sS A_b n_b c_b)])), (0, (.cells 35 [(sS A_tk n_tk c_tk), (sS A_nm n_nm c_nm), (sS A_rs n_rs c_rs)]))], 2, [], []⟩ (by kernel_rfl) ?_
  refine WL_nil ?_
  refine WQ_code ?_
  refine WC_seq (WC_region ?_)
  refine WL_execS htb 3 [14, 12, 3] [1] ⟨[(14, (sS A_a n_a c_a)), (12, (.agg [(sS A_tk n_tk c_tk), (sS A_nm n_nm c_nm), (sS A_rs n_rs c_rs)])), (3, (.p 1 0))], [(1, (.cells 24 [(sS A_a n_a c_a), (sS A_b n_b c_b)]))], 2, [], []⟩ (by kernel_rfl) ?_
  refine WL_op (WOp_call 43 [(.agg [(sS A_tk n_tk c_tk), (sS A_nm n_nm c_nm), (sS A_rs n_rs c_rs)]), (sS A_a n_a c_a)] (by kernel_rfl) (goes_of Try.func43 rfl rfl) (fun ρ w hW => alts_ok hW.has (tk := tk) (nm := nm) (rs := rs) (xs := a) h_tk h_nm h_rs h_a) ?_)
  intro G1 v hle hΦ
  replace h_tk := h_tk.mono hle
  replace h_nm := h_nm.mono hle
  replace h_rs := h_rs.mono hle
  replace h_a := h_a.mono hle
  replace h_b := h_b.mono hle
  obtain ⟨r1, A_r1, n_r1, c_r1, r2, rfl, h_r1, hR3⟩ := hΦ
  have lh_r1 := h_r1.len'
  refine WL_execS htb 5 [7, 6, 3] [1] ⟨[(7, (bB r2)), (6, (sS A_r1 n_r1 c_r1)), (3, (.p 1 0))], [(1, (.cells 24 [(sS A_a n_a c_a), (sS A_b n_b c_b)]))], 2, [], []⟩ (by kernel_rfl) ?_
  refine WL_nil ?_
  refine WQ_code ?_
  refine WC_seq ?_
  refine WC_seq (WC_region ?_)
  refine WL_execS htb 2 [19, 6, 3] [1] ⟨[(19, (bB (!r2))), (6, (sS A_r1 n_r1 c_r1)), (3, (.p 1 0))], [(1, (.cells 24 [(sS A_a n_a c_a), (sS A_b n_b c_b)]))], 2, [], []⟩ (by kernel_rfl) ?_
  refine WL_nil ?_
  refine WQ_code ?_
  refine WC_cond (b := (!r2)) rfl (fun hb => ?_) (fun hb => ?_)
  · rw [Bool.not_eq_true'] at hb
    rw [hb] at hR3
    refine WC_seq (WC_region ?_)
    refine WL_execS htb 2 [5, 4] [] ⟨[(5, (bB false)), (4, (sS none 0 0))], [], 2, [], []⟩ (by kernel_rfl) ?_
    refine WL_nil ?_
    refine WQ_code ?_
    refine WC_ret ?_
    refine WQ_then_ret ?_
    exact WQ_done htb [(sS none 0 0), (bB false)] _ (.inl rfl) rfl (by kernel_rfl) (fun ρ w hW => ⟨[], _, _, _, false, rfl, (Sl.none0 _ _), (oldS_no hR3).symm⟩)
  · rw [Bool.not_eq_false'] at hb
    rw [hb] at hR3
    have hsm := altsS_small hr hR3
    have hne := altsS_ne hR3
    refine WC_skip ?_
    refine WQ_code ?_
    refine WC_seq (WC_region ?_)
    refine WL_execS htb 2 [21, 6, 3] [1] ⟨[(21, (iN n_r1)), (6, (sS A_r1 n_r1 c_r1)), (3, (.p 1 0))], [(1, (.cells 24 [(sS A_a n_a c_a), (sS A_b n_b c_b)]))], 2, [], []⟩ (by kernel_rfl) ?_
    have hlen := l_ok h_r1 hsm.1
    refine WL_op (WOp_make htb n_r1 24 2 48 (.agg #[.slice none 0 0, .slice none 0 0]) (by kernel_rfl) (by rfl) (by rfl) (tPair (tSlice (tInt .i64)) (tSlice (tInt .i64))) ([], []) (rep_pair (Sl.none0 _ _).reps (Sl.none0 _ _).reps) rfl (by omega) (by unfold big; omega) (fun arr4 ho5 => ?_))
    show WL _ _ _ _ _ _ ⟨[(22, (.ls false 2 n_r1 n_r1)), (21, (iN n_r1)), (6, (sS A_r1 n_r1 c_r1)), (3, (.p 1 0))], [(2, (.lst false 24 arr4)), (1, (.cells 24 [(sS A_a n_a c_a), (sS A_b n_b c_b)]))], 3, [], []⟩ _
    refine WL_execS htb 1 [8, 6, 3] [2, 1] ⟨[(8, (.ls false 2 n_r1 n_r1)), (6, (sS A_r1 n_r1 c_r1)), (3, (.p 1 0))], [(2, (.lst false 24 arr4)), (1, (.cells 24 [(sS A_a n_a c_a), (sS A_b n_b c_b)]))], 3, [], []⟩ (by kernel_rfl) ?_
    refine WL_nil ?_
    refine WQ_code ?_
    refine WC_seq ?_
    refine WC_seq (WC_region ?_)
    refine WL_execS htb 3 [25, 24, 23, 8, 3] [2, 1] ⟨[(25, (iI 0)), (24, (iN n_r1)), (23, (sS A_r1 n_r1 c_r1)), (8, (.ls false 2 n_r1 n_r1)), (3, (.p 1 0))], [(2, (.lst false 24 arr4)), (1, (.cells 24 [(sS A_a n_a c_a), (sS A_b n_b c_b)]))], 3, [], []⟩ (by kernel_rfl) ?_
    refine WL_nil ?_
    refine WQ_code ?_
    refine WC_block ?_
    refine WK_freeze 1 rfl rfl rfl rfl ?_
    intro bk7 G6 hle hbk7
    replace h_a := h_a.mono hle
    replace h_b := h_b.mono hle
    replace h_r1 := h_r1.mono hle
    replace ho5 := ho5.mono hle
    have hz := FZ.cons (h := 1) hbk7 rfl (FZ.nil _)
    refine WK_keep [25, 24, 23, 8, 3] [2] rfl rfl ?_
    refine WK_env [(25, (iN 0)), (24, (iN n_r1)), (23, (sS A_r1 n_r1 c_r1)), (8, (.ls false 2 n_r1 n_r1)), (3, (.p 1 0))] (fun ρ => ⟨rfl, rfl, ⟨rfl, rfl, ⟨rfl, rfl, ⟨rfl, rfl, ⟨rfl, rfl, trivial⟩⟩⟩⟩⟩) ?_
    refine WC_loop (ι := Nat × Array Value) (fun (i, arr) G8 => Le G6 G8 ∧ (i ≤ n_r1 ∧ OwnL (tPair (tSlice (tInt .i64)) (tSlice (tInt .i64))) G8 ((r1.take i).map (fun x => (x ++ a.drop 1, b)) ++ List.replicate (n_r1 - i) ([], [])) arr n_r1)) (fun (i, arr) => ⟨[(25, (iN i)), (24, (iN n_r1)), (23, (sS A_r1 n_r1 c_r1)), (8, (.ls false 2 n_r1 n_r1)), (3, (.p 1 0))], [(2, (.lst false 24 arr))], 3, [], [(1, bk7, (.cells 24 [(sS A_a n_a c_a), (sS A_b n_b c_b)]))]⟩) (fun (i, arr) => n_r1 - i) (0, arr4) ⟨Le.refl _, ⟨Nat.zero_le _, by simpa using ho5⟩⟩ rfl ?_
    rintro ⟨i, arr⟩ G8 ⟨hle, hF⟩
    show WC _ _ _ _ _ ⟨[(25, (iN i)), (24, (iN n_r1)), (23, (sS A_r1 n_r1 c_r1)), (8, (.ls false 2 n_r1 n_r1)), (3, (.p 1 0))], [(2, (.lst false 24 arr))], 3, [], [(1, bk7, (.cells 24 [(sS A_a n_a c_a), (sS A_b n_b c_b)]))]⟩ _
    replace h_a := h_a.mono hle
    replace h_b := h_b.mono hle
    replace h_r1 := h_r1.mono hle
    replace hz := hz.mono hle
    have hc9 := hle
    obtain ⟨hi, ho⟩ := hF
    refine WC_seq (WC_region ?_)
    refine WL_execS htb 1 [26, 25, 24, 23, 8, 3] [2] ⟨[(26, (bB (decide ((((i : Nat) : Int) : Int) < ((n_r1 : Nat) : Int))))), (25, (iN i)), (24, (iN n_r1)), (23, (sS A_r1 n_r1 c_r1)), (8, (.ls false 2 n_r1 n_r1)), (3, (.p 1 0))], [(2, (.lst false 24 arr))], 3, [], [(1, bk7, (.cells 24 [(sS A_a n_a c_a), (sS A_b n_b c_b)]))]⟩ (by kernel_rfl) ?_
    refine WL_nil ?_
    refine WQ_code ?_
    refine WC_seq ?_
    refine WC_cond (b := (decide ((((i : Nat) : Int) : Int) < ((n_r1 : Nat) : Int)))) rfl (fun hc => ?_) (fun hc => ?_)
    · replace hc := of_decide_eq_true hc
      refine WC_skip ?_
      refine WQ_code ?_
      refine WC_seq ?_
      refine WC_block ?_
      refine WC_seq (WC_region ?_)
      refine WL_execS htb 1 [27, 25, 24, 23, 8, 3] [2] ⟨[(27, (iN i)), (25, (iN i)), (24, (iN n_r1)), (23, (sS A_r1 n_r1 c_r1)), (8, (.ls false 2 n_r1 n_r1)), (3, (.p 1 0))], [(2, (.lst false 24 arr))], 3, [], [(1, bk7, (.cells 24 [(sS A_a n_a c_a), (sS A_b n_b c_b)]))]⟩ (by kernel_rfl) ?_
      obtain ⟨q10, rfl⟩ := h_r1.ptr (by omega)
      obtain ⟨x13, _, hx11, hr14, at12⟩ := h_r1.get i (by omega)
      obtain ⟨A16, n17, c18, rfl, hs15⟩ := Sl.of hr14
      replace hs15 : Sl (tInt .i64) _ A16 n17 c18 x13 := hs15
      have lhs15 := hs15.len'
      replace at12 : At G8 (q10.add (i * 1)) [.slice A16 n17 c18] := at12
      refine WL_op (WOp_idx htb q10 n_r1 ((i : Nat) : Int) 1 (by kernel_rfl) (by omega) (by omega) ?_)
      refine WL_op (WOp_ld htb (q10.add (i * 1)) false 1 [.slice A16 n17 c18] (by kernel_rfl) at12 rfl (by decide) ?_)
      refine WL_execS htb 2 [10, 9, 25, 24, 23, 8, 3] [2] ⟨[(10, (sS A16 n17 c18)), (9, (iN i)), (25, (iN i)), (24, (iN n_r1)), (23, (sS (some q10) n_r1 c_r1)), (8, (.ls false 2 n_r1 n_r1)), (3, (.p 1 0))], [(2, (.lst false 24 arr))], 3, [], [(1, bk7, (.cells 24 [(sS A_a n_a c_a), (sS A_b n_b c_b)]))]⟩ (by kernel_rfl) ?_
      refine WL_nil ?_
      refine WQ_code ?_
      refine WC_draw mixed ?_
      refine WD_takeL htb rfl (fun _ _ _ _ _ h => h) (Le.refl _) [0, 1, 2, 3, 4, 8, 9] (fuel := 7) (listed' := bts 14 799) (S' := ⟨[(39, (sS A_b n_b c_b)), (38, (.p 1 1)), (34, (sS A_a n_a c_a)), (33, (.p 1 0)), (32, (sS A16 n17 c18)), (31, (iN i)), (30, (.ls false 2 n_r1 n_r1)), (10, (sS A16 n17 c18)), (9, (iN i)), (25, (iN i)), (24, (iN n_r1)), (23, (sS (some q10) n_r1 c_r1)), (8, (.ls false 2 n_r1 n_r1)), (3, (.p 1 0))], [(2, (.lst false 24 arr))], 3, [], [(1, bk7, (.cells 24 [(sS A_a n_a c_a), (sS A_b n_b c_b)]))]⟩) hz (by kernel_rfl) rfl ?_
      obtain ⟨A19, hA20⟩ : ∃ A, sliceAddr A_a c_a 1 1 = A := ⟨_, rfl⟩
      have hs21 := h_a.from 1 (by omega) hA20
      refine WD_sl htb 5 (by rfl) rfl (by decide +kernel) (fun _ _ _ _ _ h => h) (Le.refl _) A_a n_a c_a 1 n_a 1 (by kernel_rfl) (by omega) (by omega) hA20 ?_
      have lhs21 := hs21.len'
      refine WD_one 6 (by rfl) (by decide +kernel) (WOp_step htb (S' := ⟨[(36, (.s 3 2 2)), (35, (sS A19 (n_a - 1) (c_a - 1))), (39, (sS A_b n_b c_b)), (38, (.p 1 1)), (34, (sS A_a n_a c_a)), (33, (.p 1 0)), (32, (sS A16 n17 c18)), (31, (iN i)), (30, (.ls false 2 n_r1 n_r1)), (10, (sS A16 n17 c18)), (9, (iN i)), (25, (iN i)), (24, (iN n_r1)), (23, (sS (some q10) n_r1 c_r1)), (8, (.ls false 2 n_r1 n_r1)), (3, (.p 1 0))], [(3, (.cells 22 [(sS A16 n17 c18), (sS A19 (n_a - 1) (c_a - 1))])), (2, (.lst false 24 arr))], 4, [], [(1, bk7, (.cells 24 [(sS A_a n_a c_a), (sS A_b n_b c_b)]))]⟩) (by kernel_rfl) (WD_on (Le.refl _) ?_))
      refine WK_freezeV 3 rfl rfl rfl rfl ?_
      intro bk23 G22 hle hbk23
      replace hc9 := Le.trans hc9 hle
      replace h_a := h_a.mono hle
      replace h_b := h_b.mono hle
      replace h_r1 := h_r1.mono hle
      replace hs15 := hs15.mono hle
      replace hs21 := hs21.mono hle
      replace hz := hz.mono hle
      replace ho := ho.mono hle
      refine WD_up hle ?_
      show WK _ _ ⟨[(36, (sS (some ⟨bk23, 0, none⟩) 2 2)), (35, (sS A19 (n_a - 1) (c_a - 1))), (39, (sS A_b n_b c_b)), (38, (.p 1 1)), (34, (sS A_a n_a c_a)), (33, (.p 1 0)), (32, (sS A16 n17 c18)), (31, (iN i)), (30, (.ls false 2 n_r1 n_r1)), (10, (sS A16 n17 c18)), (9, (iN i)), (25, (iN i)), (24, (iN n_r1)), (23, (sS (some q10) n_r1 c_r1)), (8, (.ls false 2 n_r1 n_r1)), (3, (.p 1 0))], [(2, (.lst false 24 arr))], 4, [], [(1, bk7, (.cells 24 [(sS A_a n_a c_a), (sS A_b n_b c_b)]))]⟩ _
      have hs24 : Sl (tSlice (tInt .i64)) G22 (some ⟨bk23, 0, none⟩) 2 2 [x13, (a.drop 1)] := Sl.lit (cs := [.slice A16 n17 c18, .slice A19 (n_a - 1) (c_a - 1)]) (RepsL.cons' hs15.reps (RepsL.cons' hs21.reps .nil)) hbk23 rfl (by unfold big; omega)
      have lhs24 := hs24.len'
      refine WD_one 7 (by rfl) (by decide +kernel) (WOp_call 44 [(sS (some ⟨bk23, 0, none⟩) 2 2)] (by kernel_rfl) (goes_of Try.func44 rfl rfl) (fun ρ w hW => concat_ok hW.has (xss := [x13, (a.drop 1)]) hs24 (by have := hsm.2 _ (List.mem_of_getElem? hx11); simp only [List.flatten_cons, List.flatten_nil, List.length_append, List.length_drop, List.length_nil]; omega)) ?_)
      intro G2 v hle hΦ
      replace hc9 := Le.trans hc9 hle
      replace h_a := h_a.mono hle
      replace h_b := h_b.mono hle
      replace h_r1 := h_r1.mono hle
      replace hs15 := hs15.mono hle
      replace hs21 := hs21.mono hle
      replace hs24 := hs24.mono hle
      replace hz := hz.mono hle
      replace ho := ho.mono hle
      obtain ⟨A_r25, n_r25, c_r25, rfl, h_r25, hR26⟩ := hΦ
      have lh_r25 := h_r25.len'
      refine WD_on hle ?_
      refine WD_up hle ?_
      refine WD_one 10 (by rfl) (by decide +kernel) (WOp_call 45 [(sS A_b n_b c_b)] (by kernel_rfl) (goes_of Try.func45 rfl rfl) (fun ρ w hW => clone_ok hW.has (xs := b) h_b (by omega)) ?_)
      intro G3 v hle hΦ
      replace hc9 := Le.trans hc9 hle
      replace h_a := h_a.mono hle
      replace h_b := h_b.mono hle
      replace h_r1 := h_r1.mono hle
      replace hs15 := hs15.mono hle
      replace hs21 := hs21.mono hle
      replace hs24 := hs24.mono hle
      replace h_r25 := h_r25.mono hle
      replace hz := hz.mono hle
      replace ho := ho.mono hle
      obtain ⟨A_r27, n_r27, c_r27, rfl, h_r27, hR28⟩ := hΦ
      have lh_r27 := h_r27.len'
      refine WD_on hle ?_
      refine WD_up hle ?_
      refine WD_takeL htb rfl (fun _ _ _ _ _ h => h) (Le.refl _) [11] (fuel := 2) (listed' := bts 14 4095) (S' := ⟨[(41, (.agg [(sS A_r25 n_r25 c_r25), (sS A_r27 n_r27 c_r27)])), (40, (sS A_r27 n_r27 c_r27)), (37, (sS A_r25 n_r25 c_r25)), (36, (sS (some ⟨bk23, 0, none⟩) 2 2)), (35, (sS A19 (n_a - 1) (c_a - 1))), (39, (sS A_b n_b c_b)), (38, (.p 1 1)), (34, (sS A_a n_a c_a)), (33, (.p 1 0)), (32, (sS A16 n17 c18)), (31, (iN i)), (30, (.ls false 2 n_r1 n_r1)), (10, (sS A16 n17 c18)), (9, (iN i)), (25, (iN i)), (24, (iN n_r1)), (23, (sS (some q10) n_r1 c_r1)), (8, (.ls false 2 n_r1 n_r1)), (3, (.p 1 0))], [(2, (.lst false 24 arr))], 4, [], [(1, bk7, (.cells 24 [(sS A_a n_a c_a), (sS A_b n_b c_b)]))]⟩) hz (by kernel_rfl) rfl ?_
      refine WD_one 12 (by rfl) (by decide +kernel) (WOp_idxo htb 2 n_r1 ((i : Nat) : Int) 2 (by kernel_rfl) (by omega) (by omega) (WD_on (Le.refl _) ?_))
      obtain ⟨ho2, hfit⟩ := ho.set (i := i) (by rw [old_len]; omega) (y := ((([x13, (a.drop 1)]).flatten), b)) (vs := [.slice A_r25 n_r25 c_r25, .slice A_r27 n_r27 c_r27]) (rep_pair h_r25.reps h_r27.reps)
      refine WD_one 13 (by rfl) (by decide +kernel) (WOp_sto htb 2 (i * 2) [(sS A_r25 n_r25 c_r25), (sS A_r27 n_r27 c_r27)] ([.slice A_r25 n_r25 c_r25, .slice A_r27 n_r27 c_r27] : List Value) (by kernel_rfl) (fun ρ => rfl) rfl hfit (WD_on (Le.refl _) ?_))
      refine WD_done (by decide +kernel) ?_
      refine WK_keep [25, 24, 23, 8, 3] [2] rfl rfl ?_
      refine WQ_blk ?_
      refine WQ_code ?_
      refine WC_region ?_
      refine WL_execS htb 2 [25, 24, 23, 8, 3] [2] ⟨[(25, (iI (IntKind.i64.wrap (((i : Nat) : Int) + 1)))), (24, (iN n_r1)), (23, (sS (some q10) n_r1 c_r1)), (8, (.ls false 2 n_r1 n_r1)), (3, (.p 1 0))], [(2, (.lst false 24 ((arr.toList.take (i * 2) ++ ([.slice A_r25 n_r25 c_r25, .slice A_r27 n_r27 c_r27] : List Value) ++ arr.toList.drop ((i * 2) + 2)).toArray)))], 4, [], [(1, bk7, (.cells 24 [(sS A_a n_a c_a), (sS A_b n_b c_b)]))]⟩ (by kernel_rfl) ?_
      refine WL_nil ?_
      refine WK_env [(25, (iN (i + 1))), (24, (iN n_r1)), (23, (sS (some q10) n_r1 c_r1)), (8, (.ls false 2 n_r1 n_r1)), (3, (.p 1 0))] (fun ρ => ⟨rfl, (congrArg (Value.int .i64) (by rw [wrap_id (by omega)]; first | rfl | omega)), ⟨rfl, rfl, ⟨rfl, rfl, ⟨rfl, rfl, ⟨rfl, rfl, trivial⟩⟩⟩⟩⟩) ?_
      refine WK_keep [25, 24, 23, 8, 3] [2] rfl rfl ?_
      exact WQ_next ((i + 1), (arr.toList.take (i * 2) ++ ([.slice A_r25 n_r25 c_r25, .slice A_r27 n_r27 c_r27] : List Value) ++ arr.toList.drop ((i * 2) + 2)).toArray) (by show n_r1 - (i + 1) < n_r1 - i; omega) ⟨hc9, ⟨by omega, by have e := old_step (f := fun x => (x ++ a.drop 1, b)) (z := ([], [])) hx11 (h_r1.len); rw [show (([x13, (a.drop 1)]).flatten) = x13 ++ a.drop 1 by simp] at ho2; exact e ▸ ho2⟩⟩ (fun ρ a w h => h)
    · replace hc := of_decide_eq_false hc
      refine WC_exit ?_
      refine WQ_then_exit ?_
      refine WQ_then_exit ?_
      refine WQ_hit ?_
      refine WQ_code ?_
      refine WC_seq (WC_region ?_)
      refine WL_execS htb 3 [5, 4] [2] ⟨[(5, (bB true)), (4, (.ls false 2 n_r1 n_r1))], [(2, (.lst false 24 arr))], 3, [], [(1, bk7, (.cells 24 [(sS A_a n_a c_a), (sS A_b n_b c_b)]))]⟩ (by kernel_rfl) ?_
      refine WL_nil ?_
      refine WQ_code ?_
      refine WC_ret ?_
      refine WK_freezeL 2 rfl rfl ?_
      intro bk11 G10 hle hbk11
      replace hc9 := Le.trans hc9 hle
      replace h_a := h_a.mono hle
      replace h_b := h_b.mono hle
      replace hz := hz.mono hle
      obtain ⟨A13, n14, c15, e16, hs12⟩ := OwnL.sl (n := n_r1) ho hle (fun h => by cases h) hbk11 (by rw [old_len]; omega)
      refine WK_env [(5, (bB true)), (4, (sS A13 n14 c15))] (fun ρ => ⟨rfl, rfl, ⟨rfl, (by exact e16), trivial⟩⟩) ?_
      have lhs12 := hs12.len'
      exact WQ_done htb [(sS A13 n14 c15), (bB true)] _ (.inl rfl) rfl (by kernel_rfl) (fun ρ w hW => ⟨((r1.take i).map (fun x => (x ++ a.drop 1, b)) ++ List.replicate (n_r1 - i) ([], [])), _, _, _, true, rfl, hs12, (oldS_yes (i := i) (n := n_r1) hR3 (by omega) (by omega)).symm⟩)

end Go.Proofs.Ytbpajkjolhoflaa.Sym
