/- Walks of functions that the laws of this seat reach, printed by a program of this session's. -/
import Derived.Test.YtfemkbockhpmcaaB19
set_option linter.unusedSimpArgs false
set_option linter.unusedVariables false
set_option maxHeartbeats 4000000
namespace Go.Proofs.Ytfemkbockhpmcaa.Sym
open Go Go.Proofs Go.RowKit

theorem nodup_take {xs : List ByteArray} (h : xs.Nodup) {i : Nat} {x : ByteArray} (hx : xs[i]? = some x) : x ∉ xs.take i := fun hm => by
  obtain ⟨j, hj, e⟩ := List.mem_take_iff_getElem.1 hm
  have hi := (List.getElem?_eq_some_iff.1 hx).1
  have h3 := (List.pairwise_iff_getElem.1 h) j i (by omega) hi (by omega)
  rw [List.getElem?_eq_getElem hi] at hx; injection hx with hx
  exact h3 (e.trans hx.symm)
theorem take_mem_succ {xs : List ByteArray} {i : Nat} {x : ByteArray} {gd : ByteArray → Bool} (hx : xs[i]? = some x) (h : ∀ s, gd s = true ↔ s ∈ xs.take i) : ∀ s, (fun y => if y = x then true else gd y) s = true ↔ s ∈ xs.take (i + 1) := fun s => by
  rw [take_succ' hx, List.mem_append, List.mem_singleton, ← h s]
  by_cases e : s = x
  · simp [e]
  · simp [e]
theorem idx_first : ∀ (l : List Rule) (k : Nat) (n : ByteArray) (j : Nat) (x : Rule), l[j]? = some x → x.1 = n → ∃ y : Int, ((((l.zipIdx k).filter fun p => decide (p.1.1 = n)).map fun p => (p.2 : Int))[0]?) = some y ∧ y ≤ ((k + j : Nat) : Int)
  | [], k, n, j, x, h, _ => by simp at h
  | r :: l, k, n, j, x, h, hn => by
    rw [List.zipIdx_cons]
    by_cases e : r.1 = n
    · rw [List.filter_cons_of_pos (by simpa using e)]
      exact ⟨(k : Int), by simp, by omega⟩
    · rw [List.filter_cons_of_neg (by simpa using e)]
      cases j with
      | zero => simp at h; subst h; exact absurd hn e
      | succ j =>
        simp at h
        obtain ⟨y, h1, h2⟩ := idx_first l (k + 1) n j x h hn
        exact ⟨y, h1, by omega⟩
theorem names_nodup {g : List Rule} {tk : List ByteArray} (hfl : flawsL g tk = []) (ht : tk.Nodup) : (tk ++ g.map (fun x : Rule => x.1)).Nodup := by
  have key : ∀ (i : Nat) (x : Rule), g[i]? = some x → hasB tk x.1 = false ∧ ¬ ((idxS g x.1)[0]?.getD 0) < (i : Int) := fun i x hx => by
    have h1 := cand1_get (tk := tk) hx
    cases hb : (hasB tk x.1 || decide (((idxS g x.1)[0]?.getD 0) < (i : Int))) with
    | true =>
      exfalso
      rw [hb] at h1
      have hm : ((1 : Int), x.1) ∈ flawsL g tk := by
        unfold flawsL
        refine tellL_mem.2 ?_
        unfold flawsC
        exact List.mem_append_left _ (List.mem_append_left _ (List.mem_append_left _ (List.mem_of_getElem? h1)))
      rw [hfl] at hm; cases hm
    | false => simpa using hb
  rw [List.nodup_append]
  refine ⟨ht, List.pairwise_iff_getElem.2 fun i j hi hj hij e => ?_, fun a ha b hb e => ?_⟩
  · rw [List.length_map] at hi hj
    have hxj := List.getElem?_eq_getElem hj
    have h1 := (key j _ hxj).2
    simp only [List.getElem_map] at e
    obtain ⟨y, h2, h3⟩ := idx_first g 0 g[j].1 i g[i] (List.getElem?_eq_getElem hi) e
    have h4 : (idxS g g[j].1)[0]? = some y := h2
    rw [h4] at h1; simp at h1; omega
  · subst e
    obtain ⟨x, hx, rfl⟩ := List.mem_map.1 hb
    obtain ⟨i, hi⟩ := List.getElem?_of_mem hx
    have h1 := (key i x hi).1
    unfold hasB at h1
    rw [List.any_eq_false] at h1
    exact h1 _ ha (by simp)
theorem checkShapes_ok {w : World} {G : Heap} (hG : Has w G) {g : (List (ByteArray × (List (List ByteArray))))} {A_g : Option Addr} {n_g : Nat} {c_g : Nat} {tk : (List ByteArray)} {A_tk : Option Addr} {n_tk : Nat} {c_tk : Nat} (h_g : Sl (tPair tStr (tSlice (tSlice tStr))) G A_g n_g c_g g) (h_tk : Sl tStr G A_tk n_tk c_tk tk) :
    Calls Try.prog 4 #[(.agg #[.slice A_g n_g c_g]), (.slice A_tk n_tk c_tk)] w (Ret w G fun v G' => ∃ (b : Bool), v = .bool b ∧ (b = true)) := by
  have lh_g := h_g.len'
  have lh_tk := h_tk.len'
  refine enter [(.agg [(sS A_g n_g c_g)]), (sS A_tk n_tk c_tk)] 122 Try.func4 rfl rfl rfl rfl hG ?_
  refine WC_seq (WC_region ?_)
  refine WL_execS htb 2 [2, 1] [0] ⟨[(2, (.p 0 0)), (1, (sS A_tk n_tk c_tk))], [(0, (.cells 24 [(sS A_g n_g c_g)]))], 1, [], []⟩ (by kernel_rfl) ?_
  refine WL_nil ?_
  refine WQ_code ?_
  refine WC_seq (WC_region ?_)
  refine WL_op (WOp_call 14 [] (by kernel_rfl) (goes_of Try.func14 rfl rfl) (fun ρ w hW => live8_ok hW.has) ?_)
  intro G701 v hle hΦ
  replace h_g := h_g.mono hle
  replace h_tk := h_tk.mono hle
  subst hΦ
  refine WL_execS htb 1 [5, 2, 1] [0] ⟨[(5, (bB true)), (2, (.p 0 0)), (1, (sS A_tk n_tk c_tk))], [(0, (.cells 24 [(sS A_g n_g c_g)]))], 1, [], []⟩ (by kernel_rfl) ?_
  refine WL_nil ?_
  refine WQ_code ?_
  refine WC_seq ?_
  refine WC_seq (WC_region ?_)
  refine WL_execS htb 2 [17, 16, 5, 2, 1] [0] ⟨[(17, (sS A_tk n_tk c_tk)), (16, (.agg [(sS A_g n_g c_g)])), (5, (bB true)), (2, (.p 0 0)), (1, (sS A_tk n_tk c_tk))], [(0, (.cells 24 [(sS A_g n_g c_g)]))], 1, [], []⟩ (by kernel_rfl) ?_
  refine WL_op (WOp_call 15 [(.agg [(sS A_g n_g c_g)]), (sS A_tk n_tk c_tk)] (by kernel_rfl) (goes_of Try.func15 rfl rfl) (fun ρ w hW => big8_ok hW.has (g := g) (tk := tk) h_g h_tk) ?_)
  intro G702 v hle hΦ
  replace h_g := h_g.mono hle
  replace h_tk := h_tk.mono hle
  obtain ⟨r1, rfl, hR2⟩ := hΦ
  refine WL_nil ?_
  refine WQ_code ?_
  refine WC_cond (b := r1) rfl (fun hbig => ?_) (fun hbig => ?_)
  · skip
    refine WC_seq (WC_region ?_)
    refine WL_execS htb 2 [4] [] ⟨[(4, (bB true))], [], 1, [], []⟩ (by kernel_rfl) ?_
    refine WL_nil ?_
    refine WQ_code ?_
    refine WC_ret ?_
    refine WQ_then_ret ?_
    exact WQ_done htb [(bB true)] _ (.inl rfl) rfl (by kernel_rfl) (fun ρ w hW => ⟨true, rfl, rfl⟩)
  · skip
    refine WC_skip ?_
    refine WQ_code ?_
    refine WC_seq (WC_region ?_)
    refine WL_execS htb 2 [22, 21, 5, 2, 1] [0] ⟨[(22, (sS A_tk n_tk c_tk)), (21, (.agg [(sS A_g n_g c_g)])), (5, (bB true)), (2, (.p 0 0)), (1, (sS A_tk n_tk c_tk))], [(0, (.cells 24 [(sS A_g n_g c_g)]))], 1, [], []⟩ (by kernel_rfl) ?_
    refine WL_op (WOp_call 20 [(.agg [(sS A_g n_g c_g)]), (sS A_tk n_tk c_tk)] (by kernel_rfl) (goes_of Try.func20 rfl rfl) (fun ρ w hW => number_ok hW.has (g := g) (tk := tk) h_g h_tk) ?_)
    intro G703 v hle hΦ
    replace h_g := h_g.mono hle
    replace h_tk := h_tk.mono hle
    obtain ⟨r3, A_r3, n_r3, c_r3, r4, A_r4, n_r4, c_r4, r5, A_r5, n_r5, c_r5, r6, rfl, h_r3, h_r4, h_r5, h_r6, hR7⟩ := hΦ
    have lh_r3 := h_r3.len'
    have lh_r4 := h_r4.len'
    have lh_r5 := h_r5.len'
    refine WL_execS htb 6 [7, 6, 5, 2, 1] [1, 0] ⟨[(7, (iI r6)), (6, (.p 1 0)), (5, (bB true)), (2, (.p 0 0)), (1, (sS A_tk n_tk c_tk))], [(1, (.cells 41 [(sS A_r3 n_r3 c_r3), (sS A_r4 n_r4 c_r4), (sS A_r5 n_r5 c_r5)])), (0, (.cells 24 [(sS A_g n_g c_g)]))], 2, [], []⟩ (by kernel_rfl) ?_
    refine WL_nil ?_
    refine WQ_code ?_
    refine WC_seq ?_
    refine WC_seq (WC_region ?_)
    refine WL_execS htb 2 [27, 6, 5, 2, 1] [1, 0] ⟨[(27, (bB ((r6 : Int) != 0))), (6, (.p 1 0)), (5, (bB true)), (2, (.p 0 0)), (1, (sS A_tk n_tk c_tk))], [(1, (.cells 41 [(sS A_r3 n_r3 c_r3), (sS A_r4 n_r4 c_r4), (sS A_r5 n_r5 c_r5)])), (0, (.cells 24 [(sS A_g n_g c_g)]))], 2, [], []⟩ (by kernel_rfl) ?_
    refine WL_nil ?_
    refine WQ_code ?_
    refine WC_cond (b := ((r6 : Int) != 0)) rfl (fun he => ?_) (fun he => ?_)
    · replace he := bne_iff_ne.1 he
      refine WC_seq (WC_region ?_)
      refine WL_execS htb 2 [4] [] ⟨[(4, (bB true))], [], 2, [], []⟩ (by kernel_rfl) ?_
      refine WL_nil ?_
      refine WQ_code ?_
      refine WC_ret ?_
      refine WQ_then_ret ?_
      exact WQ_done htb [(bB true)] _ (.inl rfl) rfl (by kernel_rfl) (fun ρ w hW => ⟨true, rfl, rfl⟩)
    · replace he := (bne_eq_false_iff_eq.1) he
      rw [show r6 = 0 by simpa using he] at hR7
      obtain ⟨e1, hmay, hlong, htok, htl, hfl⟩ := num_yes hR7
      obtain ⟨e1, rfl, rfl⟩ := e1
      replace e1 := e1.symm
      subst e1
      have ln1 : (g.map (fun x : Rule => x.1)).length = g.length := List.length_map _
      have ln2 : (g.map (altsN tk g)).length = g.length := List.length_map _
      have hg60 := (short_all hlong).1
      have hnod := names_nodup hfl htok.2
      refine WC_skip ?_
      refine WQ_code ?_
      refine WC_seq (WC_region ?_)
      refine WL_execS htb 2 [8, 6, 5, 2, 1] [2, 1, 0] ⟨[(8, (.m 2)), (6, (.p 1 0)), (5, (bB true)), (2, (.p 0 0)), (1, (sS A_tk n_tk c_tk))], [(2, (.raw (.map #[] 0))), (1, (.cells 41 [(sS A_r3 n_r3 c_r3), (sS A_r4 n_r4 c_r4), (sS A_r5 n_r5 c_r5)])), (0, (.cells 24 [(sS A_g n_g c_g)]))], 3, [], []⟩ (by kernel_rfl) ?_
      refine WL_nil ?_
      refine WQ_code ?_
      refine WC_seq ?_
      refine WK_freeze 1 rfl rfl rfl rfl ?_
      intro bk9 G8 hle hbk9
      replace h_g := h_g.mono hle
      replace h_tk := h_tk.mono hle
      replace h_r3 := h_r3.mono hle
      replace h_r4 := h_r4.mono hle
      replace h_r5 := h_r5.mono hle
      have hz := FZ.cons (h := 1) hbk9 rfl (FZ.nil _)
      refine WK_freeze 0 rfl rfl rfl rfl ?_
      intro bk11 G10 hle hbk11
      replace h_g := h_g.mono hle
      replace h_tk := h_tk.mono hle
      replace h_r3 := h_r3.mono hle
      replace h_r4 := h_r4.mono hle
      replace h_r5 := h_r5.mono hle
      replace hz := hz.mono hle
      have hz := FZ.cons (h := 0) hbk11 rfl hz
      refine WC_seq (WC_draw mixed ?_)
      refine WD_takeL htb rfl (fun _ _ _ _ _ h => h) (Le.refl _) [0, 1, 3, 4, 7] (fuel := 3) (listed' := bts 8 155) (S' := ⟨[(37, (iI 0)), (34, (sS A_r4 n_r4 c_r4)), (33, (.p 1 1)), (31, (sS A_r3 n_r3 c_r3)), (30, (.p 1 0)), (8, (.m 2)), (6, (.p 1 0)), (5, (bB true)), (2, (.p 0 0)), (1, (sS A_tk n_tk c_tk))], [(2, (.raw (.map #[] 0)))], 3, [], [(0, bk11, (.cells 24 [(sS A_g n_g c_g)])), (1, bk9, (.cells 41 [(sS A_r3 n_r3 c_r3), (sS A_r4 n_r4 c_r4), (sS A_r5 n_r5 c_r5)]))]⟩) hz (by kernel_rfl) rfl ?_
      refine WK_off 9 rfl ?_
      have ho12 : OwnL tStr G10 [] #[] 0 := OwnL.nil _ _
      refine WD_one 2 (by rfl) (by decide +kernel) (WOp_appendN htb true 3 0 0 A_r3 n_r3 9 1 16 (by kernel_rfl) (by kernel_rfl) rfl rfl tStr (xs := []) (ys := tk) ho12 rfl (fun _ => rfl) h_r3.row h_r3.len rfl (by decide) (by first | omega | (simp only [List.length_append, List.length_nil, List.length_drop, List.length_take, List.length_cons]; omega)) (by unfold big; first | omega | (simp only [List.length_append, List.length_nil, List.length_drop, List.length_take, List.length_cons]; omega)) (fun z13 arr14 cap15 hz16 ho17 => WD_on (Le.refl _) ?_))
      show WD _ _ _ _ _ _ _ _ _ ⟨[(32, (.ls z13 4 (([] ++ tk).length) cap15)), (37, (iI 0)), (34, (sS A_r4 n_r4 c_r4)), (33, (.p 1 1)), (31, (sS A_r3 n_r3 c_r3)), (30, (.p 1 0)), (8, (.m 2)), (6, (.p 1 0)), (5, (bB true)), (2, (.p 0 0)), (1, (sS A_tk n_tk c_tk))], [(4, (.lst z13 9 arr14)), (2, (.raw (.map #[] 0)))], 5, [], [(0, bk11, (.cells 24 [(sS A_g n_g c_g)])), (1, bk9, (.cells 41 [(sS A_r3 n_r3 c_r3), (sS A_r4 n_r4 c_r4), (sS A_r5 n_r5 c_r5)]))]⟩
      refine WD_one 5 (by rfl) (by decide +kernel) (WOp_append htb z13 4 (([] ++ tk).length) cap15 A_r4 n_r4 9 1 16 (by kernel_rfl) (by kernel_rfl) rfl rfl tStr (xs := ([] ++ tk)) (ys := (g.map (fun x : Rule => x.1))) ho17 rfl hz16 h_r4.row h_r4.len rfl (by decide) (by first | omega | (simp only [List.length_append, List.length_nil, List.length_drop, List.length_take, List.length_cons]; omega)) (by unfold big; first | omega | (simp only [List.length_append, List.length_nil, List.length_drop, List.length_take, List.length_cons]; omega)) (fun z18 arr19 cap20 hz21 ho22 => WD_on (Le.refl _) ?_))
      show WD _ _ _ _ _ _ _ _ _ ⟨[(35, (.ls z18 5 ((([] ++ tk) ++ (g.map (fun x : Rule => x.1))).length) cap20)), (32, (.ls z13 4 (([] ++ tk).length) cap15)), (37, (iI 0)), (34, (sS A_r4 n_r4 c_r4)), (33, (.p 1 1)), (31, (sS A_r3 n_r3 c_r3)), (30, (.p 1 0)), (8, (.m 2)), (6, (.p 1 0)), (5, (bB true)), (2, (.p 0 0)), (1, (sS A_tk n_tk c_tk))], [(5, (.lst z18 9 arr19)), (2, (.raw (.map #[] 0)))], 6, [], [(0, bk11, (.cells 24 [(sS A_g n_g c_g)])), (1, bk9, (.cells 41 [(sS A_r3 n_r3 c_r3), (sS A_r4 n_r4 c_r4), (sS A_r5 n_r5 c_r5)]))]⟩
      refine WK_freezeL 5 rfl rfl ?_
      intro bk24 G23 hle hbk24
      replace h_g := h_g.mono hle
      replace h_tk := h_tk.mono hle
      replace h_r3 := h_r3.mono hle
      replace h_r4 := h_r4.mono hle
      replace h_r5 := h_r5.mono hle
      replace hz := hz.mono hle
      obtain ⟨A26, n27, c28, e29, hs25⟩ := OwnL.sl (n := (([] ++ tk) ++ (g.map (fun x : Rule => x.1))).length) ho22 hle hz21 hbk24 rfl
      refine WK_env [(35, (sS A26 n27 c28)), (32, (.ls z13 4 (([] ++ tk).length) cap15)), (37, (iI 0)), (34, (sS A_r4 n_r4 c_r4)), (33, (.p 1 1)), (31, (sS A_r3 n_r3 c_r3)), (30, (.p 1 0)), (8, (.m 2)), (6, (.p 1 0)), (5, (bB true)), (2, (.p 0 0)), (1, (sS A_tk n_tk c_tk))] (fun ρ => ⟨rfl, (by exact e29), ⟨rfl, rfl, ⟨rfl, rfl, ⟨rfl, rfl, ⟨rfl, rfl, ⟨rfl, rfl, ⟨rfl, rfl, ⟨rfl, rfl, ⟨rfl, rfl, ⟨rfl, rfl, ⟨rfl, rfl, ⟨rfl, rfl, trivial⟩⟩⟩⟩⟩⟩⟩⟩⟩⟩⟩⟩) ?_
      have lhs25 := hs25.len'
      refine WD_up hle ?_
      replace hnod : ((([] ++ tk) ++ (g.map (fun x : Rule => x.1)))).Nodup := by simpa using hnod
      refine WD_takeL htb rfl (fun _ _ _ _ _ h => h) (Le.refl _) [6] (fuel := 0) (listed' := bts 8 255) (S' := ⟨[(36, (iN n27)), (35, (sS A26 n27 c28)), (32, (.ls z13 4 (([] ++ tk).length) cap15)), (37, (iI 0)), (34, (sS A_r4 n_r4 c_r4)), (33, (.p 1 1)), (31, (sS A_r3 n_r3 c_r3)), (30, (.p 1 0)), (8, (.m 2)), (6, (.p 1 0)), (5, (bB true)), (2, (.p 0 0)), (1, (sS A_tk n_tk c_tk))], [(2, (.raw (.map #[] 0)))], 6, [], [(0, bk11, (.cells 24 [(sS A_g n_g c_g)])), (1, bk9, (.cells 41 [(sS A_r3 n_r3 c_r3), (sS A_r4 n_r4 c_r4), (sS A_r5 n_r5 c_r5)]))]⟩) hz (by kernel_rfl) rfl ?_
      refine WD_done (by decide +kernel) ?_
      refine WK_keep [36, 35, 37, 8, 6, 5, 2, 1] [2] rfl rfl ?_
      refine WQ_code ?_
      refine WC_block ?_
      have hle00 := hle
      refine WK_g0 fun hle0 => ?_
      refine WK_freezeVN 2 rfl rfl rfl rfl ?_
      intro bk31 G30 hle33 hnew32 hbk31
      show WK _ _ ⟨[(36, (iN n27)), (35, (sS A26 n27 c28)), (37, (iI 0)), (8, (.v (.map (some bk31)))), (6, (.p 1 0)), (5, (bB true)), (2, (.p 0 0)), (1, (sS A_tk n_tk c_tk))], [], 6, [], [(0, bk11, (.cells 24 [(sS A_g n_g c_g)])), (1, bk9, (.cells 41 [(sS A_r3 n_r3 c_r3), (sS A_r4 n_r4 c_r4), (sS A_r5 n_r5 c_r5)]))]⟩ _
      have hM : MapF G30 bk31 strE (goodF (fun _ => false)) := MapF.empty hbk31
      have hleb := hle33
      refine WK_keep [36, 35, 37, 8, 6, 5, 2, 1] [] rfl rfl ?_
      refine WK_env [(36, (iN n27)), (35, (sS A26 n27 c28)), (37, (iN 0)), (8, (.v (.map (some bk31)))), (6, (.p 1 0)), (5, (bB true)), (2, (.p 0 0)), (1, (sS A_tk n_tk c_tk))] (fun ρ => ⟨rfl, rfl, ⟨rfl, rfl, ⟨rfl, rfl, ⟨rfl, rfl, ⟨rfl, rfl, ⟨rfl, rfl, ⟨rfl, rfl, ⟨rfl, rfl, trivial⟩⟩⟩⟩⟩⟩⟩⟩) ?_
      refine WC_loop (ι := Nat × (ByteArray → Bool)) (fun (i, gd) G34 => i ≤ n27 ∧ Le G23 G34 ∧ MapF G34 bk31 strE (goodF gd) ∧ ∀ s, gd s = true ↔ s ∈ (([] ++ tk) ++ (g.map (fun x : Rule => x.1))).take i) (fun (i, gd) => ⟨[(36, (iN n27)), (35, (sS A26 n27 c28)), (37, (iN i)), (8, (.v (.map (some bk31)))), (6, (.p 1 0)), (5, (bB true)), (2, (.p 0 0)), (1, (sS A_tk n_tk c_tk))], [], 6, [], [(0, bk11, (.cells 24 [(sS A_g n_g c_g)])), (1, bk9, (.cells 41 [(sS A_r3 n_r3 c_r3), (sS A_r4 n_r4 c_r4), (sS A_r5 n_r5 c_r5)]))]⟩) (fun (i, gd) => n27 - i) (0, (fun _ => false)) ⟨Nat.zero_le _, hleb, hM, (fun s => by simp)⟩ rfl ?_
      rintro ⟨i, gd⟩ G34 hF
      show WC _ _ _ _ _ ⟨[(36, (iN n27)), (35, (sS A26 n27 c28)), (37, (iN i)), (8, (.v (.map (some bk31)))), (6, (.p 1 0)), (5, (bB true)), (2, (.p 0 0)), (1, (sS A_tk n_tk c_tk))], [], 6, [], [(0, bk11, (.cells 24 [(sS A_g n_g c_g)])), (1, bk9, (.cells 41 [(sS A_r3 n_r3 c_r3), (sS A_r4 n_r4 c_r4), (sS A_r5 n_r5 c_r5)]))]⟩ _
      obtain ⟨hi, hleb, hM, hgd⟩ := hF
      refine WC_seq (WC_region ?_)
      refine WL_execS htb 1 [38, 36, 35, 37, 8, 6, 5, 2, 1] [] ⟨[(38, (bB (decide ((((i : Nat) : Int) : Int) < ((n27 : Nat) : Int))))), (36, (iN n27)), (35, (sS A26 n27 c28)), (37, (iN i)), (8, (.v (.map (some bk31)))), (6, (.p 1 0)), (5, (bB true)), (2, (.p 0 0)), (1, (sS A_tk n_tk c_tk))], [], 6, [], [(0, bk11, (.cells 24 [(sS A_g n_g c_g)])), (1, bk9, (.cells 41 [(sS A_r3 n_r3 c_r3), (sS A_r4 n_r4 c_r4), (sS A_r5 n_r5 c_r5)]))]⟩ (by kernel_rfl) ?_
      refine WL_nil ?_
      refine WQ_code ?_
      refine WC_seq ?_
      refine WC_cond (b := (decide ((((i : Nat) : Int) : Int) < ((n27 : Nat) : Int)))) rfl (fun hc => ?_) (fun hc => ?_)
      · replace hc := of_decide_eq_true hc
        refine WC_skip ?_
        refine WQ_code ?_
        refine WC_seq ?_
        refine WC_block ?_
        refine WC_seq (WC_region ?_)
        obtain ⟨q35, rfl⟩ := hs25.ptr (by omega)
        obtain ⟨x38, _, hx36, ⟨rfl, hn39⟩, at37⟩ := hs25.get i (by omega)
        replace at37 : At G23 (q35.add (i * 1)) [.string x38] := at37
        refine WL_op (WOp_idx htb q35 n27 ((i : Nat) : Int) 1 (by kernel_rfl) (by omega) (by omega) ?_)
        refine WL_op (WOp_ld htb (q35.add (i * 1)) false 1 [.string x38] (by kernel_rfl) (at37.mono hleb) rfl (by decide) ?_)
        refine WL_execS htb 1 [10, 36, 35, 37, 8, 6, 5, 2, 1] [] ⟨[(10, (tS x38)), (36, (iN n27)), (35, (sS (some q35) n27 c28)), (37, (iN i)), (8, (.v (.map (some bk31)))), (6, (.p 1 0)), (5, (bB true)), (2, (.p 0 0)), (1, (sS A_tk n_tk c_tk))], [], 6, [], [(0, bk11, (.cells 24 [(sS A_g n_g c_g)])), (1, bk9, (.cells 41 [(sS A_r3 n_r3 c_r3), (sS A_r4 n_r4 c_r4), (sS A_r5 n_r5 c_r5)]))]⟩ (by kernel_rfl) ?_
        refine WL_nil ?_
        refine WQ_code ?_
        refine WC_seq ?_
        refine WC_seq (WC_region ?_)
        refine WL_execS htb 2 [42, 41, 10, 36, 35, 37, 8, 6, 5, 2, 1] [] ⟨[(42, (tS x38)), (41, (.v (.map (some bk31)))), (10, (tS x38)), (36, (iN n27)), (35, (sS (some q35) n27 c28)), (37, (iN i)), (8, (.v (.map (some bk31)))), (6, (.p 1 0)), (5, (bB true)), (2, (.p 0 0)), (1, (sS A_tk n_tk c_tk))], [], 6, [], [(0, bk11, (.cells 24 [(sS A_g n_g c_g)])), (1, bk9, (.cells 41 [(sS A_r3 n_r3 c_r3), (sS A_r4 n_r4 c_r4), (sS A_r5 n_r5 c_r5)]))]⟩ (by kernel_rfl) ?_
        refine WL_op (WOp_look htb bk31 (tS x38) false 9 (.bool false) (by kernel_rfl) (keyEnc_str (kt := 9) (by kernel_rfl)) x38 (fun ρ => rfl) hM (v := (.bool (gd x38))) (goodF_get gd x38) (is := ((goodF gd x38).isSome)) rfl ?_)
        show WL _ _ _ _ _ _ ⟨[(43, (bB (gd x38))), (42, (tS x38)), (41, (.v (.map (some bk31)))), (10, (tS x38)), (36, (iN n27)), (35, (sS (some q35) n27 c28)), (37, (iN i)), (8, (.v (.map (some bk31)))), (6, (.p 1 0)), (5, (bB true)), (2, (.p 0 0)), (1, (sS A_tk n_tk c_tk))], [], 6, [], [(0, bk11, (.cells 24 [(sS A_g n_g c_g)])), (1, bk9, (.cells 41 [(sS A_r3 n_r3 c_r3), (sS A_r4 n_r4 c_r4), (sS A_r5 n_r5 c_r5)]))]⟩ _
        refine WL_nil ?_
        refine WQ_code ?_
        refine WC_cond (b := (gd x38)) rfl (fun hd => ?_) (fun hd => ?_)
        · skip
          exact absurd ((hgd _).1 hd) (nodup_take hnod hx36)
        · skip
          refine WC_skip ?_
          refine WQ_code ?_
          refine WC_region ?_
          refine WL_execS htb 2 [45, 44, 36, 35, 37, 8, 6, 5, 2, 1] [] ⟨[(45, (tS x38)), (44, (.v (.map (some bk31)))), (36, (iN n27)), (35, (sS (some q35) n27 c28)), (37, (iN i)), (8, (.v (.map (some bk31)))), (6, (.p 1 0)), (5, (bB true)), (2, (.p 0 0)), (1, (sS A_tk n_tk c_tk))], [], 6, [], [(0, bk11, (.cells 24 [(sS A_g n_g c_g)])), (1, bk9, (.cells 41 [(sS A_r3 n_r3 c_r3), (sS A_r4 n_r4 c_r4), (sS A_r5 n_r5 c_r5)]))]⟩ (by kernel_rfl) ?_
          refine WL_op (WOp_mapG htb bk31 (tS x38) (bB true) 9 (by kernel_rfl) (keyEnc_str (kt := 9) (by kernel_rfl)) x38 (fun ρ => rfl) (.bool true) (fun ρ => rfl) hM (none_of hle0 hnew32) (hz.ne hnew32) (fun es clk hM2 => ?_))
          rw [goodF_set] at hM2
          replace hleb := Le.add' hleb hnew32 (.map es clk)
          refine WL_nil ?_
          refine WQ_blk ?_
          refine WQ_code ?_
          refine WC_region ?_
          refine WL_execS htb 2 [37, 36, 35, 8, 6, 5, 2, 1] [] ⟨[(37, (iI (IntKind.i64.wrap (((i : Nat) : Int) + 1)))), (36, (iN n27)), (35, (sS (some q35) n27 c28)), (8, (.v (.map (some bk31)))), (6, (.p 1 0)), (5, (bB true)), (2, (.p 0 0)), (1, (sS A_tk n_tk c_tk))], [], 6, [], [(0, bk11, (.cells 24 [(sS A_g n_g c_g)])), (1, bk9, (.cells 41 [(sS A_r3 n_r3 c_r3), (sS A_r4 n_r4 c_r4), (sS A_r5 n_r5 c_r5)]))]⟩ (by kernel_rfl) ?_
          refine WL_nil ?_
          refine WK_env [(37, (iN (i + 1))), (36, (iN n27)), (35, (sS (some q35) n27 c28)), (8, (.v (.map (some bk31)))), (6, (.p 1 0)), (5, (bB true)), (2, (.p 0 0)), (1, (sS A_tk n_tk c_tk))] (fun ρ => ⟨rfl, (congrArg (Value.int .i64) (by rw [wrap_id (by omega)]; first | rfl | omega)), ⟨rfl, rfl, ⟨rfl, rfl, ⟨rfl, rfl, ⟨rfl, rfl, ⟨rfl, rfl, ⟨rfl, rfl, ⟨rfl, rfl, trivial⟩⟩⟩⟩⟩⟩⟩⟩) ?_
          refine WK_keep [36, 35, 37, 8, 6, 5, 2, 1] [] rfl rfl ?_
          exact WQ_next ((i + 1), _) (by show n27 - (i + 1) < n27 - i; omega) ⟨by omega, hleb, hM2, take_mem_succ hx36 hgd⟩ (fun ρ a w h => h)
      · replace hc := of_decide_eq_false hc
        replace h_g := h_g.mono hleb
        replace h_tk := h_tk.mono hleb
        replace h_r3 := h_r3.mono hleb
        replace h_r4 := h_r4.mono hleb
        replace h_r5 := h_r5.mono hleb
        replace hs25 := hs25.mono hleb
        replace hz := hz.mono hleb
        refine WC_exit ?_
        refine WQ_then_exit ?_
        refine WQ_then_exit ?_
        refine WQ_hit ?_
        refine WQ_code ?_
        refine WC_seq ?_
        refine WC_seq (WC_region ?_)
        refine WL_execS htb 8 [54, 6, 5, 2, 1] [] ⟨[(54, (bB ((((n_r5 : Nat) : Int) : Int) != ((n_g : Nat) : Int)))), (6, (.p 1 0)), (5, (bB true)), (2, (.p 0 0)), (1, (sS A_tk n_tk c_tk))], [], 6, [], [(0, bk11, (.cells 24 [(sS A_g n_g c_g)])), (1, bk9, (.cells 41 [(sS A_r3 n_r3 c_r3), (sS A_r4 n_r4 c_r4), (sS A_r5 n_r5 c_r5)]))]⟩ (by kernel_rfl) ?_
        refine WK_split 54 ((((n_r5 : Nat) : Int) : Int) != ((n_g : Nat) : Int)) rfl (fun hs34 => ?_) (fun hs34 => ?_)
        · replace hs34 := bne_iff_ne.1 hs34
          refine WK_keep [54, 6, 5, 2, 1] [] rfl rfl ?_
          exfalso; omega
        · replace hs34 := (bne_eq_false_iff_eq.1) hs34
          refine WK_keep [54, 6, 5, 2, 1] [] rfl rfl ?_
          refine WL_execS htb 9 [63, 6, 5, 2, 1] [] ⟨[(63, (bB ((((n_r4 : Nat) : Int) : Int) != ((n_g : Nat) : Int)))), (6, (.p 1 0)), (5, (bB true)), (2, (.p 0 0)), (1, (sS A_tk n_tk c_tk))], [], 6, [], [(0, bk11, (.cells 24 [(sS A_g n_g c_g)])), (1, bk9, (.cells 41 [(sS A_r3 n_r3 c_r3), (sS A_r4 n_r4 c_r4), (sS A_r5 n_r5 c_r5)]))]⟩ (by kernel_rfl) ?_
          refine WK_split 63 ((((n_r4 : Nat) : Int) : Int) != ((n_g : Nat) : Int)) rfl (fun hs35 => ?_) (fun hs35 => ?_)
          · replace hs35 := bne_iff_ne.1 hs35
            refine WK_keep [63, 6, 5, 2, 1] [] rfl rfl ?_
            exfalso; omega
          · replace hs35 := (bne_eq_false_iff_eq.1) hs35
            refine WK_keep [63, 6, 5, 2, 1] [] rfl rfl ?_
            refine WL_execS htb 7 [70, 6, 5, 2] [] ⟨[(70, (bB ((((n_r3 : Nat) : Int) : Int) != ((n_tk : Nat) : Int)))), (6, (.p 1 0)), (5, (bB true)), (2, (.p 0 0))], [], 6, [], [(0, bk11, (.cells 24 [(sS A_g n_g c_g)])), (1, bk9, (.cells 41 [(sS A_r3 n_r3 c_r3), (sS A_r4 n_r4 c_r4), (sS A_r5 n_r5 c_r5)]))]⟩ (by kernel_rfl) ?_
            refine WL_nil ?_
            refine WQ_code ?_
            refine WC_cond (b := ((((n_r3 : Nat) : Int) : Int) != ((n_tk : Nat) : Int))) rfl (fun hs36 => ?_) (fun hs36 => ?_)
            · replace hs36 := bne_iff_ne.1 hs36
              exfalso; omega
            · replace hs36 := (bne_eq_false_iff_eq.1) hs36
              refine WC_skip ?_
              refine WQ_code ?_
              refine WC_seq ?_
              refine WC_seq (WC_region ?_)
              refine WL_execS htb 4 [74, 73, 72, 6, 5] [] ⟨[(74, (iI 0)), (73, (iN n_g)), (72, (sS A_g n_g c_g)), (6, (.p 1 0)), (5, (bB true))], [], 6, [], [(0, bk11, (.cells 24 [(sS A_g n_g c_g)])), (1, bk9, (.cells 41 [(sS A_r3 n_r3 c_r3), (sS A_r4 n_r4 c_r4), (sS A_r5 n_r5 c_r5)]))]⟩ (by kernel_rfl) ?_
              refine WL_nil ?_
              refine WQ_code ?_
              refine WC_block ?_
              refine WK_keep [74, 73, 72, 6, 5] [] rfl rfl ?_
              refine WK_env [(74, (iN 0)), (73, (iN n_g)), (72, (sS A_g n_g c_g)), (6, (.p 1 0)), (5, (bB true))] (fun ρ => ⟨rfl, rfl, ⟨rfl, rfl, ⟨rfl, rfl, ⟨rfl, rfl, ⟨rfl, rfl, trivial⟩⟩⟩⟩⟩) ?_
              refine WC_loop (ι := Nat) (fun r G38 => Le G34 G38 ∧ (r ≤ n_g)) (fun r => ⟨[(74, (iN r)), (73, (iN n_g)), (72, (sS A_g n_g c_g)), (6, (.p 1 0)), (5, (bB true))], [], 6, [], [(0, bk11, (.cells 24 [(sS A_g n_g c_g)])), (1, bk9, (.cells 41 [(sS A_r3 n_r3 c_r3), (sS A_r4 n_r4 c_r4), (sS A_r5 n_r5 c_r5)]))]⟩) (fun r => n_g - r) (0) ⟨Le.refl _, Nat.zero_le _⟩ rfl ?_
              rintro r G38 ⟨hle, hF⟩
              show WC _ _ _ _ _ ⟨[(74, (iN r)), (73, (iN n_g)), (72, (sS A_g n_g c_g)), (6, (.p 1 0)), (5, (bB true))], [], 6, [], [(0, bk11, (.cells 24 [(sS A_g n_g c_g)])), (1, bk9, (.cells 41 [(sS A_r3 n_r3 c_r3), (sS A_r4 n_r4 c_r4), (sS A_r5 n_r5 c_r5)]))]⟩ _
              replace h_g := h_g.mono hle
              replace h_r3 := h_r3.mono hle
              replace h_r4 := h_r4.mono hle
              replace h_r5 := h_r5.mono hle
              replace hz := hz.mono hle
              have hc39 := hle
              have hr := hF
              refine WC_seq (WC_region ?_)
              refine WL_execS htb 1 [75, 74, 73, 72, 6, 5] [] ⟨[(75, (bB (decide ((((r : Nat) : Int) : Int) < ((n_g : Nat) : Int))))), (74, (iN r)), (73, (iN n_g)), (72, (sS A_g n_g c_g)), (6, (.p 1 0)), (5, (bB true))], [], 6, [], [(0, bk11, (.cells 24 [(sS A_g n_g c_g)])), (1, bk9, (.cells 41 [(sS A_r3 n_r3 c_r3), (sS A_r4 n_r4 c_r4), (sS A_r5 n_r5 c_r5)]))]⟩ (by kernel_rfl) ?_
              refine WL_nil ?_
              refine WQ_code ?_
              refine WC_seq ?_
              refine WC_cond (b := (decide ((((r : Nat) : Int) : Int) < ((n_g : Nat) : Int)))) rfl (fun hc => ?_) (fun hc => ?_)
              · replace hc := of_decide_eq_true hc
                refine WC_skip ?_
                refine WQ_code ?_
                refine WC_seq ?_
                refine WC_block ?_
                refine WC_seq (WC_region ?_)
                refine WL_execS htb 1 [76, 74, 73, 72, 6, 5] [] ⟨[(76, (iN r)), (74, (iN r)), (73, (iN n_g)), (72, (sS A_g n_g c_g)), (6, (.p 1 0)), (5, (bB true))], [], 6, [], [(0, bk11, (.cells 24 [(sS A_g n_g c_g)])), (1, bk9, (.cells 41 [(sS A_r3 n_r3 c_r3), (sS A_r4 n_r4 c_r4), (sS A_r5 n_r5 c_r5)]))]⟩ (by kernel_rfl) ?_
                obtain ⟨q40, rfl⟩ := h_g.ptr (by omega)
                obtain ⟨⟨x43, x45⟩, _, hx41, ⟨_, _, rfl, ⟨rfl, hn44⟩, hr46⟩, at42⟩ := h_g.get r (by omega)
                obtain ⟨A48, n49, c50, rfl, hs47⟩ := Sl.of hr46
                replace hs47 : Sl (tSlice tStr) _ A48 n49 c50 x45 := hs47
                have lhs47 := hs47.len'
                replace at42 : At G38 (q40.add (r * 2)) [.string x43, .slice A48 n49 c50] := at42
                refine WL_op (WOp_idx htb q40 n_g ((r : Nat) : Int) 2 (by kernel_rfl) (by omega) (by omega) ?_)
                refine WL_op (WOp_ld htb (q40.add (r * 2)) true 2 [.string x43, .slice A48 n49 c50] (by kernel_rfl) at42 rfl (by decide) ?_)
                refine WL_execS htb 3 [11, 12, 74, 73, 72, 6, 5] [6] ⟨[(11, (iN r)), (12, (.p 6 0)), (74, (iN r)), (73, (iN n_g)), (72, (sS (some q40) n_g c_g)), (6, (.p 1 0)), (5, (bB true))], [(6, (.cells 34 [(tS x43), (sS A48 n49 c50)]))], 7, [], [(0, bk11, (.cells 24 [(sS (some q40) n_g c_g)])), (1, bk9, (.cells 41 [(sS A_r3 n_r3 c_r3), (sS A_r4 n_r4 c_r4), (sS A_r5 n_r5 c_r5)]))]⟩ (by kernel_rfl) ?_
                refine WL_nil ?_
                refine WQ_code ?_
                refine WC_seq ?_
                refine WK_freeze 6 rfl rfl rfl rfl ?_
                intro bk52 G51 hle hbk52
                replace hc39 := Le.trans hc39 hle
                replace h_g := h_g.mono hle
                replace h_r3 := h_r3.mono hle
                replace h_r4 := h_r4.mono hle
                replace h_r5 := h_r5.mono hle
                replace hs47 := hs47.mono hle
                replace hz := hz.mono hle
                have hz := FZ.cons (h := 6) hbk52 rfl hz
                refine WC_seq (WC_draw mixed ?_)
                refine WD_takeL htb rfl (fun _ _ _ _ _ h => h) (Le.refl _) [0, 1, 2, 6, 7, 8] (fuel := 14) (listed' := bts 20 455) (S' := ⟨[(87, (iN n49)), (86, (sS A48 n49 c50)), (85, (.p 6 1)), (81, (iN r)), (80, (sS A_r5 n_r5 c_r5)), (79, (.p 1 2)), (11, (iN r)), (12, (.p 6 0)), (74, (iN r)), (73, (iN n_g)), (72, (sS (some q40) n_g c_g)), (6, (.p 1 0)), (5, (bB true))], [], 7, [], [(6, bk52, (.cells 34 [(tS x43), (sS A48 n49 c50)])), (0, bk11, (.cells 24 [(sS (some q40) n_g c_g)])), (1, bk9, (.cells 41 [(sS A_r3 n_r3 c_r3), (sS A_r4 n_r4 c_r4), (sS A_r5 n_r5 c_r5)]))]⟩) hz (by kernel_rfl) rfl ?_
                obtain ⟨q53, rfl⟩ := h_r5.ptr (by omega)
                obtain ⟨x56, _, hx54, hr57, at55⟩ := h_r5.get r (by omega)
                obtain ⟨A59, n60, c61, rfl, hs58⟩ := Sl.of hr57
                replace hs58 : Sl (tSlice (tInt .i64)) _ A59 n60 c61 x56 := hs58
                have lhs58 := hs58.len'
                replace at55 : At G51 (q53.add (r * 1)) [.slice A59 n60 c61] := at55
                refine WD_idx htb 3 (by rfl) rfl (by decide +kernel) (fun _ _ _ _ _ h => h) (Le.refl _) q53 n_r5 ((r : Nat) : Int) 1 (by kernel_rfl) (by omega) (by omega) ?_
                refine WD_ld htb 4 (by rfl) rfl (by decide +kernel) (fun _ _ _ _ _ h => h) (Le.refl _) (q53.add (r * 1)) false 1 [.slice A59 n60 c61] (by kernel_rfl) at55 rfl (by decide) ?_
                refine WD_takeL htb rfl (fun _ _ _ _ _ h => h) (Le.refl _) [5, 9, 10] (fuel := 9) (listed' := bts 20 2047) (S' := ⟨[(89, (bB ((((n60 : Nat) : Int) : Int) != ((n49 : Nat) : Int)))), (88, (bB ((((n60 : Nat) : Int) : Int) != ((n49 : Nat) : Int)))), (84, (iN n60)), (83, (sS A59 n60 c61)), (82, (.v (.pointer (some (q53.add (r * 1)))))), (87, (iN n49)), (86, (sS A48 n49 c50)), (85, (.p 6 1)), (81, (iN r)), (80, (sS (some q53) n_r5 c_r5)), (79, (.p 1 2)), (11, (iN r)), (12, (.p 6 0)), (74, (iN r)), (73, (iN n_g)), (72, (sS (some q40) n_g c_g)), (6, (.p 1 0)), (5, (bB true))], [], 7, [], [(6, bk52, (.cells 34 [(tS x43), (sS A48 n49 c50)])), (0, bk11, (.cells 24 [(sS (some q40) n_g c_g)])), (1, bk9, (.cells 41 [(sS A_r3 n_r3 c_r3), (sS A_r4 n_r4 c_r4), (sS (some q53) n_r5 c_r5)]))]⟩) hz (by kernel_rfl) rfl ?_
                have eal : x56 = altsN tk g (x43, x45) := by (rw [List.getElem?_map, hx41] at hx54; injection hx54 with h5; exact h5.symm)
                have lal : x56.length = x45.length := by rw [eal]; exact List.length_map _
                refine WK_split 89 ((((n60 : Nat) : Int) : Int) != ((n49 : Nat) : Int)) rfl (fun hq => ?_) (fun hq => ?_)
                · replace hq := bne_iff_ne.1 hq
                  refine WK_keep [89, 88, 84, 83, 82, 87, 86, 85, 81, 80, 79, 11, 12, 74, 73, 72, 6, 5] [] rfl rfl ?_
                  exfalso; omega
                · replace hq := (bne_eq_false_iff_eq.1) hq
                  refine WK_keep [89, 88, 84, 83, 82, 87, 86, 85, 81, 80, 79, 11, 12, 74, 73, 72, 6, 5] [] rfl rfl ?_
                  refine WD_takeL htb rfl (fun _ _ _ _ _ h => h) (Le.refl _) [11, 12, 13, 16, 17] (fuel := 4) (listed' := bts 20 212991) (S' := ⟨[(96, (tS x43)), (95, (.p 6 0)), (92, (iN r)), (91, (sS A_r4 n_r4 c_r4)), (90, (.p 1 1)), (89, (bB false)), (88, (bB ((((n60 : Nat) : Int) : Int) != ((n49 : Nat) : Int)))), (84, (iN n60)), (83, (sS A59 n60 c61)), (82, (.v (.pointer (some (q53.add (r * 1)))))), (87, (iN n49)), (86, (sS A48 n49 c50)), (85, (.p 6 1)), (81, (iN r)), (80, (sS (some q53) n_r5 c_r5)), (79, (.p 1 2)), (11, (iN r)), (12, (.p 6 0)), (74, (iN r)), (73, (iN n_g)), (72, (sS (some q40) n_g c_g)), (6, (.p 1 0)), (5, (bB true))], [], 7, [], [(6, bk52, (.cells 34 [(tS x43), (sS A48 n49 c50)])), (0, bk11, (.cells 24 [(sS (some q40) n_g c_g)])), (1, bk9, (.cells 41 [(sS A_r3 n_r3 c_r3), (sS A_r4 n_r4 c_r4), (sS (some q53) n_r5 c_r5)]))]⟩) hz (by kernel_rfl) rfl ?_
                  obtain ⟨q62, rfl⟩ := h_r4.ptr (by omega)
                  obtain ⟨x65, _, hx63, ⟨rfl, hn66⟩, at64⟩ := h_r4.get r (by omega)
                  replace at64 : At G51 (q62.add (r * 1)) [.string x65] := at64
                  refine WD_idx htb 14 (by rfl) rfl (by decide +kernel) (fun _ _ _ _ _ h => h) (Le.refl _) q62 n_r4 ((r : Nat) : Int) 1 (by kernel_rfl) (by omega) (by omega) ?_
                  refine WD_ld htb 15 (by rfl) rfl (by decide +kernel) (fun _ _ _ _ _ h => h) (Le.refl _) (q62.add (r * 1)) false 1 [.string x65] (by kernel_rfl) at64 rfl (by decide) ?_
                  refine WD_takeL htb rfl (fun _ _ _ _ _ h => h) (Le.refl _) [18, 19] (fuel := 0) (listed' := bts 20 1048575) (S' := ⟨[(98, (bB (!((x65 : ByteArray).toList == (x43 : ByteArray).toList)))), (97, (bB (!((x65 : ByteArray).toList == (x43 : ByteArray).toList)))), (94, (tS x65)), (93, (.v (.pointer (some (q62.add (r * 1)))))), (96, (tS x43)), (95, (.p 6 0)), (92, (iN r)), (91, (sS (some q62) n_r4 c_r4)), (90, (.p 1 1)), (89, (bB false)), (88, (bB ((((n60 : Nat) : Int) : Int) != ((n49 : Nat) : Int)))), (84, (iN n60)), (83, (sS A59 n60 c61)), (82, (.v (.pointer (some (q53.add (r * 1)))))), (87, (iN n49)), (86, (sS A48 n49 c50)), (85, (.p 6 1)), (81, (iN r)), (80, (sS (some q53) n_r5 c_r5)), (79, (.p 1 2)), (11, (iN r)), (12, (.p 6 0)), (74, (iN r)), (73, (iN n_g)), (72, (sS (some q40) n_g c_g)), (6, (.p 1 0)), (5, (bB true))], [], 7, [], [(6, bk52, (.cells 34 [(tS x43), (sS A48 n49 c50)])), (0, bk11, (.cells 24 [(sS (some q40) n_g c_g)])), (1, bk9, (.cells 41 [(sS A_r3 n_r3 c_r3), (sS (some q62) n_r4 c_r4), (sS (some q53) n_r5 c_r5)]))]⟩) hz (by kernel_rfl) rfl ?_
                  refine WD_done (by decide +kernel) ?_
                  refine WK_keep [98, 11, 12, 74, 73, 72, 6, 5] [] rfl rfl ?_
                  refine WQ_code ?_
                  have enm : x65 = x43 := by (rw [List.getElem?_map, hx41] at hx63; injection hx63 with h5; exact h5.symm)
                  refine WC_cond (b := (!((x65 : ByteArray).toList == (x43 : ByteArray).toList))) rfl (fun hq2 => ?_) (fun hq2 => ?_)
                  · rw [Bool.not_eq_true'] at hq2
                    replace hq2 := ne_of_beq_false hq2
                    exact absurd (congrArg ByteArray.toList enm) (by simpa using hq2)
                  · rw [Bool.not_eq_false'] at hq2
                    replace hq2 := eq_of_beq hq2
                    refine WC_skip ?_
                    refine WQ_code ?_
                    refine WC_seq (WC_region ?_)
                    refine WL_execS htb 4 [102, 101, 100, 11, 74, 73, 72, 6, 5] [] ⟨[(102, (iI 0)), (101, (iN n49)), (100, (sS A48 n49 c50)), (11, (iN r)), (74, (iN r)), (73, (iN n_g)), (72, (sS (some q40) n_g c_g)), (6, (.p 1 0)), (5, (bB true))], [], 7, [], [(6, bk52, (.cells 34 [(tS x43), (sS A48 n49 c50)])), (0, bk11, (.cells 24 [(sS (some q40) n_g c_g)])), (1, bk9, (.cells 41 [(sS A_r3 n_r3 c_r3), (sS (some q62) n_r4 c_r4), (sS (some q53) n_r5 c_r5)]))]⟩ (by kernel_rfl) ?_
                    refine WL_nil ?_
                    refine WQ_code ?_
                    refine WC_block ?_
                    refine WK_keep [102, 101, 100, 11, 74, 73, 72, 6, 5] [] rfl rfl ?_
                    refine WK_env [(102, (iN 0)), (101, (iN n49)), (100, (sS A48 n49 c50)), (11, (iN r)), (74, (iN r)), (73, (iN n_g)), (72, (sS (some q40) n_g c_g)), (6, (.p 1 0)), (5, (bB true))] (fun ρ => ⟨rfl, rfl, ⟨rfl, rfl, ⟨rfl, rfl, ⟨rfl, rfl, ⟨rfl, rfl, ⟨rfl, rfl, ⟨rfl, rfl, ⟨rfl, rfl, ⟨rfl, rfl, trivial⟩⟩⟩⟩⟩⟩⟩⟩⟩) ?_
                    refine WC_loop (ι := Nat) (fun k G67 => Le G51 G67 ∧ (k ≤ n49)) (fun k => ⟨[(102, (iN k)), (101, (iN n49)), (100, (sS A48 n49 c50)), (11, (iN r)), (74, (iN r)), (73, (iN n_g)), (72, (sS (some q40) n_g c_g)), (6, (.p 1 0)), (5, (bB true))], [], 7, [], [(6, bk52, (.cells 34 [(tS x43), (sS A48 n49 c50)])), (0, bk11, (.cells 24 [(sS (some q40) n_g c_g)])), (1, bk9, (.cells 41 [(sS A_r3 n_r3 c_r3), (sS (some q62) n_r4 c_r4), (sS (some q53) n_r5 c_r5)]))]⟩) (fun k => n49 - k) (0) ⟨Le.refl _, Nat.zero_le _⟩ rfl ?_
                    rintro k G67 ⟨hle, hF⟩
                    show WC _ _ _ _ _ ⟨[(102, (iN k)), (101, (iN n49)), (100, (sS A48 n49 c50)), (11, (iN r)), (74, (iN r)), (73, (iN n_g)), (72, (sS (some q40) n_g c_g)), (6, (.p 1 0)), (5, (bB true))], [], 7, [], [(6, bk52, (.cells 34 [(tS x43), (sS A48 n49 c50)])), (0, bk11, (.cells 24 [(sS (some q40) n_g c_g)])), (1, bk9, (.cells 41 [(sS A_r3 n_r3 c_r3), (sS (some q62) n_r4 c_r4), (sS (some q53) n_r5 c_r5)]))]⟩ _
                    replace hc39 := Le.trans hc39 hle
                    replace h_g := h_g.mono hle
                    replace h_r3 := h_r3.mono hle
                    replace h_r4 := h_r4.mono hle
                    replace h_r5 := h_r5.mono hle
                    replace hs47 := hs47.mono hle
                    replace hz := hz.mono hle
                    have hc68 := hle
                    have hk := hF
                    refine WC_seq (WC_region ?_)
                    refine WL_execS htb 1 [103, 102, 101, 100, 11, 74, 73, 72, 6, 5] [] ⟨[(103, (bB (decide ((((k : Nat) : Int) : Int) < ((n49 : Nat) : Int))))), (102, (iN k)), (101, (iN n49)), (100, (sS A48 n49 c50)), (11, (iN r)), (74, (iN r)), (73, (iN n_g)), (72, (sS (some q40) n_g c_g)), (6, (.p 1 0)), (5, (bB true))], [], 7, [], [(6, bk52, (.cells 34 [(tS x43), (sS A48 n49 c50)])), (0, bk11, (.cells 24 [(sS (some q40) n_g c_g)])), (1, bk9, (.cells 41 [(sS A_r3 n_r3 c_r3), (sS (some q62) n_r4 c_r4), (sS (some q53) n_r5 c_r5)]))]⟩ (by kernel_rfl) ?_
                    refine WL_nil ?_
                    refine WQ_code ?_
                    refine WC_seq ?_
                    refine WC_cond (b := (decide ((((k : Nat) : Int) : Int) < ((n49 : Nat) : Int)))) rfl (fun hck => ?_) (fun hck => ?_)
                    · replace hck := of_decide_eq_true hck
                      refine WC_skip ?_
                      refine WQ_code ?_
                      refine WC_seq ?_
                      refine WC_block ?_
                      refine WC_seq (WC_region ?_)
                      refine WL_execS htb 1 [104, 102, 101, 100, 11, 74, 73, 72, 6, 5] [] ⟨[(104, (iN k)), (102, (iN k)), (101, (iN n49)), (100, (sS A48 n49 c50)), (11, (iN r)), (74, (iN r)), (73, (iN n_g)), (72, (sS (some q40) n_g c_g)), (6, (.p 1 0)), (5, (bB true))], [], 7, [], [(6, bk52, (.cells 34 [(tS x43), (sS A48 n49 c50)])), (0, bk11, (.cells 24 [(sS (some q40) n_g c_g)])), (1, bk9, (.cells 41 [(sS A_r3 n_r3 c_r3), (sS (some q62) n_r4 c_r4), (sS (some q53) n_r5 c_r5)]))]⟩ (by kernel_rfl) ?_
                      obtain ⟨q69, rfl⟩ := hs47.ptr (by omega)
                      obtain ⟨x72, _, hx70, hr73, at71⟩ := hs47.get k (by omega)
                      obtain ⟨A75, n76, c77, rfl, hs74⟩ := Sl.of hr73
                      replace hs74 : Sl tStr _ A75 n76 c77 x72 := hs74
                      have lhs74 := hs74.len'
                      replace at71 : At G67 (q69.add (k * 1)) [.slice A75 n76 c77] := at71
                      refine WL_op (WOp_idx htb q69 n49 ((k : Nat) : Int) 1 (by kernel_rfl) (by omega) (by omega) ?_)
                      refine WL_op (WOp_ld htb (q69.add (k * 1)) false 1 [.slice A75 n76 c77] (by kernel_rfl) at71 rfl (by decide) ?_)
                      refine WL_execS htb 2 [14, 13, 102, 101, 100, 11, 74, 73, 72, 6, 5] [] ⟨[(14, (sS A75 n76 c77)), (13, (iN k)), (102, (iN k)), (101, (iN n49)), (100, (sS (some q69) n49 c50)), (11, (iN r)), (74, (iN r)), (73, (iN n_g)), (72, (sS (some q40) n_g c_g)), (6, (.p 1 0)), (5, (bB true))], [], 7, [], [(6, bk52, (.cells 34 [(tS x43), (sS (some q69) n49 c50)])), (0, bk11, (.cells 24 [(sS (some q40) n_g c_g)])), (1, bk9, (.cells 41 [(sS A_r3 n_r3 c_r3), (sS (some q62) n_r4 c_r4), (sS (some q53) n_r5 c_r5)]))]⟩ (by kernel_rfl) ?_
                      refine WL_nil ?_
                      refine WQ_code ?_
                      refine WC_seq (WC_region ?_)
                      refine WL_execS htb 3 [109, 108, 14, 13, 102, 101, 100, 11, 74, 73, 72, 6, 5] [] ⟨[(109, (iN r)), (108, (sS (some q53) n_r5 c_r5)), (14, (sS A75 n76 c77)), (13, (iN k)), (102, (iN k)), (101, (iN n49)), (100, (sS (some q69) n49 c50)), (11, (iN r)), (74, (iN r)), (73, (iN n_g)), (72, (sS (some q40) n_g c_g)), (6, (.p 1 0)), (5, (bB true))], [], 7, [], [(6, bk52, (.cells 34 [(tS x43), (sS (some q69) n49 c50)])), (0, bk11, (.cells 24 [(sS (some q40) n_g c_g)])), (1, bk9, (.cells 41 [(sS A_r3 n_r3 c_r3), (sS (some q62) n_r4 c_r4), (sS (some q53) n_r5 c_r5)]))]⟩ (by kernel_rfl) ?_
                      obtain ⟨_, hr80, at79⟩ := h_r5.getk hx54
                      obtain ⟨A82, n83, c84, rfl, hs81⟩ := Sl.of hr80
                      replace hs81 : Sl (tSlice (tInt .i64)) _ A82 n83 c84 x56 := hs81
                      have lhs81 := hs81.len'
                      replace at79 : At G67 (q53.add (r * 1)) [.slice A82 n83 c84] := at79
                      refine WL_op (WOp_idx htb q53 n_r5 ((r : Nat) : Int) 1 (by kernel_rfl) (by omega) (by omega) ?_)
                      refine WL_op (WOp_ld htb (q53.add (r * 1)) false 1 [.slice A82 n83 c84] (by kernel_rfl) at79 rfl (by decide) ?_)
                      refine WL_execS htb 1 [112, 111, 14, 102, 101, 100, 11, 74, 73, 72, 6, 5] [] ⟨[(112, (iN k)), (111, (sS A82 n83 c84)), (14, (sS A75 n76 c77)), (102, (iN k)), (101, (iN n49)), (100, (sS (some q69) n49 c50)), (11, (iN r)), (74, (iN r)), (73, (iN n_g)), (72, (sS (some q40) n_g c_g)), (6, (.p 1 0)), (5, (bB true))], [], 7, [], [(6, bk52, (.cells 34 [(tS x43), (sS (some q69) n49 c50)])), (0, bk11, (.cells 24 [(sS (some q40) n_g c_g)])), (1, bk9, (.cells 41 [(sS A_r3 n_r3 c_r3), (sS (some q62) n_r4 c_r4), (sS (some q53) n_r5 c_r5)]))]⟩ (by kernel_rfl) ?_
                      obtain ⟨q85, rfl⟩ := hs81.ptr (by omega)
                      obtain ⟨x88, _, hx86, hr89, at87⟩ := hs81.get k (by omega)
                      obtain ⟨A91, n92, c93, rfl, hs90⟩ := Sl.of hr89
                      replace hs90 : Sl (tInt .i64) _ A91 n92 c93 x88 := hs90
                      have lhs90 := hs90.len'
                      replace at87 : At G67 (q85.add (k * 1)) [.slice A91 n92 c93] := at87
                      refine WL_op (WOp_idx htb q85 n83 ((k : Nat) : Int) 1 (by kernel_rfl) (by omega) (by omega) ?_)
                      refine WL_op (WOp_ld htb (q85.add (k * 1)) false 1 [.slice A91 n92 c93] (by kernel_rfl) at87 rfl (by decide) ?_)
                      refine WL_execS htb 4 [118, 102, 101, 100, 11, 74, 73, 72, 6, 5] [] ⟨[(118, (bB ((((n92 : Nat) : Int) : Int) != ((n76 : Nat) : Int)))), (102, (iN k)), (101, (iN n49)), (100, (sS (some q69) n49 c50)), (11, (iN r)), (74, (iN r)), (73, (iN n_g)), (72, (sS (some q40) n_g c_g)), (6, (.p 1 0)), (5, (bB true))], [], 7, [], [(6, bk52, (.cells 34 [(tS x43), (sS (some q69) n49 c50)])), (0, bk11, (.cells 24 [(sS (some q40) n_g c_g)])), (1, bk9, (.cells 41 [(sS A_r3 n_r3 c_r3), (sS (some q62) n_r4 c_r4), (sS (some q53) n_r5 c_r5)]))]⟩ (by kernel_rfl) ?_
                      refine WL_nil ?_
                      refine WQ_code ?_
                      have lal2 : x88.length = x72.length := by (rw [eal] at hx86; unfold altsN at hx86; rw [List.getElem?_map, show ((x43, x45) : Rule).2[k]? = some x72 from hx70] at hx86; injection hx86 with h5; rw [← h5]; exact List.length_map _)
                      refine WC_cond (b := ((((n92 : Nat) : Int) : Int) != ((n76 : Nat) : Int))) rfl (fun hq3 => ?_) (fun hq3 => ?_)
                      · replace hq3 := bne_iff_ne.1 hq3
                        exfalso; omega
                      · replace hq3 := (bne_eq_false_iff_eq.1) hq3
                        refine WC_skip ?_
                        refine WQ_blk ?_
                        refine WQ_code ?_
                        refine WC_region ?_
                        refine WL_execS htb 2 [102, 101, 100, 11, 74, 73, 72, 6, 5] [] ⟨[(102, (iI (IntKind.i64.wrap (((k : Nat) : Int) + 1)))), (101, (iN n49)), (100, (sS (some q69) n49 c50)), (11, (iN r)), (74, (iN r)), (73, (iN n_g)), (72, (sS (some q40) n_g c_g)), (6, (.p 1 0)), (5, (bB true))], [], 7, [], [(6, bk52, (.cells 34 [(tS x43), (sS (some q69) n49 c50)])), (0, bk11, (.cells 24 [(sS (some q40) n_g c_g)])), (1, bk9, (.cells 41 [(sS A_r3 n_r3 c_r3), (sS (some q62) n_r4 c_r4), (sS (some q53) n_r5 c_r5)]))]⟩ (by kernel_rfl) ?_
                        refine WL_nil ?_
                        refine WK_env [(102, (iN (k + 1))), (101, (iN n49)), (100, (sS (some q69) n49 c50)), (11, (iN r)), (74, (iN r)), (73, (iN n_g)), (72, (sS (some q40) n_g c_g)), (6, (.p 1 0)), (5, (bB true))] (fun ρ => ⟨rfl, (congrArg (Value.int .i64) (by rw [wrap_id (by omega)]; first | rfl | omega)), ⟨rfl, rfl, ⟨rfl, rfl, ⟨rfl, rfl, ⟨rfl, rfl, ⟨rfl, rfl, ⟨rfl, rfl, ⟨rfl, rfl, ⟨rfl, rfl, trivial⟩⟩⟩⟩⟩⟩⟩⟩⟩) ?_
                        refine WK_keep [102, 101, 100, 11, 74, 73, 72, 6, 5] [] rfl rfl ?_
                        exact WQ_next ((k + 1)) (by show n49 - (k + 1) < n49 - k; omega) ⟨hc68, (by omega)⟩ (fun ρ a w h => h)
                    · replace hck := of_decide_eq_false hck
                      refine WC_exit ?_
                      refine WQ_then_exit ?_
                      refine WQ_then_exit ?_
                      refine WQ_hit ?_
                      refine WQ_blk ?_
                      refine WQ_code ?_
                      refine WC_region ?_
                      refine WL_execS htb 2 [74, 73, 72, 6, 5] [] ⟨[(74, (iI (IntKind.i64.wrap (((r : Nat) : Int) + 1)))), (73, (iN n_g)), (72, (sS (some q40) n_g c_g)), (6, (.p 1 0)), (5, (bB true))], [], 7, [], [(6, bk52, (.cells 34 [(tS x43), (sS A48 n49 c50)])), (0, bk11, (.cells 24 [(sS (some q40) n_g c_g)])), (1, bk9, (.cells 41 [(sS A_r3 n_r3 c_r3), (sS (some q62) n_r4 c_r4), (sS (some q53) n_r5 c_r5)]))]⟩ (by kernel_rfl) ?_
                      refine WL_nil ?_
                      refine WK_env [(74, (iN (r + 1))), (73, (iN n_g)), (72, (sS (some q40) n_g c_g)), (6, (.p 1 0)), (5, (bB true))] (fun ρ => ⟨rfl, (congrArg (Value.int .i64) (by rw [wrap_id (by omega)]; first | rfl | omega)), ⟨rfl, rfl, ⟨rfl, rfl, ⟨rfl, rfl, ⟨rfl, rfl, trivial⟩⟩⟩⟩⟩) ?_
                      refine WK_dropfz 1 ?_
                      show WK _ _ ⟨_, _, _, _, [(0, bk11, (.cells 24 [(sS (some q40) n_g c_g)])), (1, bk9, (.cells 41 [(sS A_r3 n_r3 c_r3), (sS (some q62) n_r4 c_r4), (sS (some q53) n_r5 c_r5)]))]⟩ _
                      refine WK_keep [74, 73, 72, 6, 5] [] rfl rfl ?_
                      exact WQ_next ((r + 1)) (by show n_g - (r + 1) < n_g - r; omega) ⟨hc39, (by omega)⟩ (fun ρ a w h => h)
              · replace hc := of_decide_eq_false hc
                refine WC_exit ?_
                refine WQ_then_exit ?_
                refine WQ_then_exit ?_
                refine WQ_hit ?_
                refine WQ_code ?_
                refine WC_seq (WC_region ?_)
                refine WL_execS htb 2 [4] [] ⟨[(4, (bB true))], [], 6, [], [(0, bk11, (.cells 24 [(sS A_g n_g c_g)])), (1, bk9, (.cells 41 [(sS A_r3 n_r3 c_r3), (sS A_r4 n_r4 c_r4), (sS A_r5 n_r5 c_r5)]))]⟩ (by kernel_rfl) ?_
                refine WL_nil ?_
                refine WQ_code ?_
                refine WC_ret ?_
                exact WQ_done htb [(bB true)] _ (.inl rfl) rfl (by kernel_rfl) (fun ρ w hW => ⟨true, rfl, rfl⟩)

end Go.Proofs.Ytfemkbockhpmcaa.Sym
