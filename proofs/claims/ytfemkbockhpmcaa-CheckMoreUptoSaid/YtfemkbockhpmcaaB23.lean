/- Walks of functions that the laws of this seat reach, printed by a program of this session's. -/
import Derived.Test.YtfemkbockhpmcaaB22
set_option linter.unusedSimpArgs false
set_option linter.unusedVariables false
set_option maxHeartbeats 4000000
namespace Go.Proofs.Ytfemkbockhpmcaa.Sym
open Go Go.Proofs Go.RowKit

section
variable {g : List Rule} {tk : List ByteArray}
theorem big_small (h : bigN g tk ≤ 600) : g.length ≤ 600 ∧ (allNames g).length ≤ 600 ∧ tk.length ≤ 600 ∧ SmallG g := by
  unfold bigN at h
  have key : ∀ (g : List Rule), (allNames g).length ≤ (g.map bigR).sum ∧ ∀ x ∈ g, bigR x ≤ (g.map bigR).sum := by
    intro g
    induction g with
    | nil => exact ⟨by simp [allNames], fun x hx => by cases hx⟩
    | cons y g ih =>
      have e : allNames (y :: g) = y.2.flatten ++ allNames g := by unfold allNames; rw [List.flatMap_cons]
      refine ⟨?_, fun x hx => ?_⟩
      · rw [e, List.length_append, List.map_cons, List.sum_cons]
        have : y.2.flatten.length ≤ bigR y := by unfold bigR; omega
        omega
      · rw [List.map_cons, List.sum_cons]
        rcases List.mem_cons.1 hx with rfl | hx
        · omega
        · have := ih.2 x hx; omega
  obtain ⟨h1, h2⟩ := key g
  have flat : ∀ (l : List (List ByteArray)) (a : List ByteArray), a ∈ l → a.length ≤ l.flatten.length := by
    intro l
    induction l with
    | nil => intro a ha; cases ha
    | cons b l ih =>
      intro a ha
      rw [List.flatten_cons, List.length_append]
      rcases List.mem_cons.1 ha with rfl | ha
      · omega
      · have := ih a ha; omega
  refine ⟨by omega, by omega, by omega, by omega, fun x hx => ?_⟩
  have h3 : x.2.length + x.2.flatten.length ≤ (g.map bigR).sum := h2 x hx
  refine ⟨by omega, fun a ha => ?_⟩
  have h4 := flat x.2 a ha
  omega
theorem had_yes {α : Type} {l : List α} {j : Nat} {x y : α} {hd : Bool} (hy : l[j]? = some y) (h : hd = true) (hh : hd = true ↔ x ∈ l.take j) : true = true ↔ x ∈ l.take (j + 1) := by
  rw [take_succ' hy]
  exact ⟨fun _ => List.mem_append_left _ (hh.1 h), fun _ => rfl⟩
theorem had_no {l : List Flaw} {j : Nat} {x y : Flaw} {hd : Bool} (hy : l[j]? = some y) (h : hd = false) (hh : hd = true ↔ x ∈ l.take j) : decide (y = x) = true ↔ x ∈ l.take (j + 1) := by
  rw [take_succ' hy, List.mem_append, List.mem_singleton, decide_eq_true_iff]
  constructor
  · exact fun e => .inr e.symm
  · rintro (h1 | h1)
    · rw [hh.2 h1] at h; cases h
    · exact h1.symm
theorem fert_mono {more : List ByteArray} {s : ByteArray} (h : Fert g tk s) : s ∈ more ∨ Fert g (tk ++ more) s := by
  induction h with
  | mk r a h1 h2 _ ih => exact .inr (Fert.mk r a h1 h2 fun n hn hk => (ih n hn (fun h => hk (List.mem_append_left _ h))).resolve_left (fun h => hk (List.mem_append_right _ h)))
theorem mem_flawsL {f : Flaw} : f ∈ flawsL g tk ↔ (true, f) ∈ cand1 g tk ++ cand2N g tk (allNames g) ++ cand3 g tk (gdS g tk) ++ cand4 g (nrS g) := tellL_mem
theorem flaw_more {mo : ByteArray} {k : Int} {n : ByteArray} (h : (k, n) ∈ flawsL g (([] ++ tk) ++ ([mo]))) (hk : k = 2 ∨ k = 3) : (k, n) ∈ flawsL g tk := by
  rw [List.nil_append] at h
  rw [mem_flawsL] at h ⊢
  have hb : ∀ n, hasB (tk ++ [mo]) n = false → hasB tk n = false := fun n h => by
    cases e : hasB tk n with
    | false => rfl
    | true => rw [hasB_true.2 (List.mem_append_left _ (hasB_true.1 e))] at h; cases h
  rcases List.mem_append.1 h with h | h
  · rcases List.mem_append.1 h with h | h
    · rcases List.mem_append.1 h with h | h
      · exfalso
        unfold cand1 at h
        obtain ⟨p, _, hp⟩ := List.mem_map.1 h
        injection hp with _ h1; injection h1 with h1 _
        omega
      · refine List.mem_append_left _ (List.mem_append_left _ (List.mem_append_right _ ?_))
        unfold cand2N at h ⊢
        obtain ⟨m, hm, hp⟩ := List.mem_map.1 h
        refine List.mem_map.2 ⟨m, hm, ?_⟩
        injection hp with h1 h2
        rw [← h2]
        simp only [Bool.and_eq_true, Bool.not_eq_true'] at h1
        rw [hb m h1.1, h1.2]; rfl
    · refine List.mem_append_left _ (List.mem_append_right _ ?_)
      unfold cand3 at h ⊢
      obtain ⟨r, hr, hp⟩ := List.mem_map.1 h
      refine List.mem_map.2 ⟨r, hr, ?_⟩
      injection hp with h1 h2
      rw [← h2]
      simp only [Bool.and_eq_true, Bool.not_eq_true'] at h1
      have e2 := hb _ h1.2
      have e1 : gdS g tk r.1 = false := by
        cases e : gdS g tk r.1 with
        | false => rfl
        | true =>
          exfalso
          have hf : Fert g tk r.1 := (@decide_eq_true_iff _ (Classical.propDecidable _)).1 e
          rcases fert_mono (more := [mo]) hf with h3 | h3
          · have h4 := hasB_true.2 (List.mem_append_right tk h3); rw [h4] at h1; cases h1.2
          · have h4 : gdS g (tk ++ [mo]) r.1 = true := (@decide_eq_true_iff _ (Classical.propDecidable _)).2 h3
            rw [h4] at h1; cases h1.1
      rw [e1, e2]; rfl
  · exfalso
    unfold cand4 at h
    obtain ⟨r, _, hp⟩ := List.mem_map.1 h
    injection hp with _ h1; injection h1 with h1 _
    omega
theorem flat_step {al : List (List ByteArray)} {k : Nat} {a : List ByteArray} {q : ByteArray} (hy : al[k]? = some a) (h : ∀ s ∈ a, s ≠ q) (hk : ∀ s ∈ (al.take k).flatten, s ≠ q) : ∀ s ∈ (al.take (k + 1)).flatten, s ≠ q := fun s hs => by
  rw [take_succ' hy, List.flatten_append] at hs
  rcases List.mem_append.1 hs with hs | hs
  · exact hk s hs
  · exact h s (by simpa using hs)
theorem names_step {r : Nat} {nm q : ByteArray} {al : List (List ByteArray)} (hx : g[r]? = some (nm, al)) (h : ∀ s ∈ al.flatten, s ≠ q) (hk : ∀ s ∈ allNames (g.take r), s ≠ q) : ∀ s ∈ allNames (g.take (r + 1)), s ≠ q := fun s hs => by
  rw [allNames_succ hx] at hs
  rcases List.mem_append.1 hs with hs | hs
  · exact hk s hs
  · exact h s hs
theorem added_len {q : ByteArray} : (allNames (([] ++ g) ++ ([(q, [([] : List ByteArray)])]))).length = (allNames g).length := by
  unfold allNames; simp
theorem allNames_added {q : ByteArray} : allNames (g ++ [(q, [([] : List ByteArray)])]) = allNames g := by
  unfold allNames; simp
theorem flaws_len (g : List Rule) (tk : List ByteArray) : (flawsL g tk).length ≤ 3 * g.length + (allNames g).length := by
  refine Nat.le_trans (tellL_len _) ?_
  unfold flawsC
  simp only [List.length_append, cand1_len, cand2N_len, cand3_len, cand4_len]; omega
theorem tellL_cut (L : List (Bool × Flaw)) : tellL L = tellL (L.filter (·.1)) := by
  suffices h : ∀ (L : List (Bool × Flaw)) (o : List Flaw), L.foldl (fun o x => if x.1 then layS o x.2 else o) o = (L.filter (·.1)).foldl (fun o x => if x.1 then layS o x.2 else o) o from h L []
  intro L
  induction L with
  | nil => intro o; rfl
  | cons x L ih =>
    intro o
    obtain ⟨b, f⟩ := x
    cases b with
    | false => rw [List.filter_cons_of_neg (by simp), List.foldl_cons]; exact ih _
    | true => rw [List.filter_cons_of_pos (by simp), List.foldl_cons, List.foldl_cons]; exact ih _
theorem idx_added {q s : ByteArray} (h : s ≠ q) : idxS (g ++ [(q, [([] : List ByteArray)])]) s = idxS g s := by
  unfold idxS
  rw [List.zipIdx_append, List.filter_append, List.map_append]
  have : ([(q, [([] : List ByteArray)])].zipIdx (0 + g.length)).filter (fun p => decide (p.1.1 = s)) = [] := by
    rw [List.zipIdx_cons, List.filter_cons_of_neg (by simpa using Ne.symm h)]; rfl
  rw [this]; simp
theorem idx_new {q : ByteArray} (h : ∀ s ∈ g.map Prod.fst, s ≠ q) : idxS (g ++ [(q, [([] : List ByteArray)])]) q = [(g.length : Int)] := by
  unfold idxS
  rw [List.zipIdx_append, List.filter_append, List.map_append]
  have h1 : (g.zipIdx 0).filter (fun p => decide (p.1.1 = q)) = [] := by
    rw [List.filter_eq_nil_iff]
    intro p hp
    have hm : p.1 ∈ g := by
      obtain ⟨i, hi⟩ := List.getElem?_of_mem hp
      rw [List.getElem?_zipIdx] at hi
      cases e : g[i]? with
      | none => rw [e] at hi; cases hi
      | some y => rw [e] at hi; simp at hi; rw [← hi]; exact List.mem_of_getElem? e
    simpa using h p.1.1 (List.mem_map_of_mem hm)
  rw [h1, List.zipIdx_cons, List.filter_cons_of_pos (by simp)]; simp
theorem succ_added {q n : ByteArray} : succL (g ++ [(q, [([] : List ByteArray)])]) n = succL g n := by
  unfold succL; rw [List.flatMap_append]; simp
theorem led_added {q n : ByteArray} (hg : g ≠ []) : Led (g ++ [(q, [([] : List ByteArray)])]) n ↔ Led g n := by
  have h0 : (g ++ [(q, [([] : List ByteArray)])])[0]? = g[0]? := by
    cases g with
    | nil => exact absurd rfl hg
    | cons x g => rfl
  constructor
  · intro h
    induction h with
    | first r hr => exact Led.first r (by rw [← h0]; exact hr)
    | step n m _ hm ih => exact Led.step n m ih (by rw [← succ_added (q := q)]; exact hm)
  · intro h
    induction h with
    | first r hr => exact Led.first r (by rw [h0]; exact hr)
    | step n m _ hm ih => exact Led.step n m ih (by rw [succ_added]; exact hm)
theorem fert_added {q n : ByteArray} (hq : ∀ s ∈ allNames g, s ≠ q) (hn : n ≠ q) : Fert (g ++ [(q, [([] : List ByteArray)])]) tk n ↔ Fert g tk n := by
  constructor
  · intro h
    induction h with
    | mk r a h1 h2 _ ih =>
      rcases List.mem_append.1 h1 with h1 | h1
      · refine Fert.mk r a h1 h2 fun m hm hk => ih m hm hk (hq m ?_)
        unfold allNames
        rw [List.mem_flatMap]
        exact ⟨r, h1, List.mem_flatten.2 ⟨a, h2, hm⟩⟩
      · rw [List.mem_singleton.1 h1] at hn; exact absurd rfl hn
  · intro h
    clear hn
    induction h with
    | mk r a h1 h2 _ ih => exact Fert.mk r a (List.mem_append_left _ h1) h2 ih
theorem flaws_added {q : ByteArray} (hq1 : ∀ s ∈ g.map Prod.fst, s ≠ q) (hq2 : ∀ s ∈ tk, s ≠ q) (hq3 : ∀ s ∈ allNames g, s ≠ q) (hg : g ≠ []) : flawsL (([] ++ g) ++ ([(q, [([] : List ByteArray)])])) tk = ([] ++ flawsL g tk) ++ [((4 : Int), q)] := by
  rw [List.nil_append, List.nil_append]
  have hr1 : ∀ r ∈ g, r.1 ≠ q := fun r hr => hq1 r.1 (List.mem_map_of_mem hr)
  have hbq : hasB tk q = false := by
    cases e : hasB tk q with
    | false => rfl
    | true => exact absurd rfl (hq2 q (hasB_true.1 e))
  have c1 : cand1 (g ++ [(q, [([] : List ByteArray)])]) tk = cand1 g tk ++ [(false, (1, q))] := by
    unfold cand1
    rw [List.zipIdx_append, List.map_append]
    congr 1
    · refine List.map_congr_left fun p hp => ?_
      have hm : p.1 ∈ g := by
        obtain ⟨i, hi⟩ := List.getElem?_of_mem hp
        rw [List.getElem?_zipIdx] at hi
        cases e : g[i]? with
        | none => rw [e] at hi; cases hi
        | some y => rw [e] at hi; simp at hi; rw [← hi]; exact List.mem_of_getElem? e
      rw [idx_added (hr1 _ hm)]
    · rw [List.zipIdx_cons]
      simp [idx_new hq1, hbq]
  have c2 : cand2N (g ++ [(q, [([] : List ByteArray)])]) tk (allNames (g ++ [(q, [([] : List ByteArray)])])) = cand2N g tk (allNames g) := by
    rw [allNames_added]
    unfold cand2N
    exact List.map_congr_left fun n hn => by rw [idx_added (hq3 n hn)]
  have c3 : cand3 (g ++ [(q, [([] : List ByteArray)])]) tk (gdS (g ++ [(q, [([] : List ByteArray)])]) tk) = cand3 g tk (gdS g tk) ++ [(false, (3, q))] := by
    unfold cand3
    rw [List.map_append]
    congr 1
    · refine List.map_congr_left fun r hr => ?_
      have : gdS (g ++ [(q, [([] : List ByteArray)])]) tk r.1 = gdS g tk r.1 := by
        unfold gdS
        rw [Bool.eq_iff_iff, @decide_eq_true_iff _ (Classical.propDecidable _), @decide_eq_true_iff _ (Classical.propDecidable _)]
        exact fert_added hq3 (hr1 r hr)
      rw [this]
    · have : gdS (g ++ [(q, [([] : List ByteArray)])]) tk q = true := by
        unfold gdS
        rw [@decide_eq_true_iff _ (Classical.propDecidable _)]
        exact Fert.mk (q, [[]]) [] (by simp) (by simp) (fun n hn => by cases hn)
      simp [this]
  have c4 : cand4 (g ++ [(q, [([] : List ByteArray)])]) (nrS (g ++ [(q, [([] : List ByteArray)])])) = cand4 g (nrS g) ++ [(true, (4, q))] := by
    have e : nrS (g ++ [(q, [([] : List ByteArray)])]) = nrS g := by
      funext s
      unfold nrS
      rw [Bool.eq_iff_iff, @decide_eq_true_iff _ (Classical.propDecidable _), @decide_eq_true_iff _ (Classical.propDecidable _)]
      exact led_added hg
    rw [e]
    unfold cand4
    rw [List.map_append]
    congr 1
    have : nrS g q = false := by
      cases e2 : nrS g q with
      | false => rfl
      | true =>
        exfalso
        have hl : Led g q := (@decide_eq_true_iff _ (Classical.propDecidable _)).1 e2
        cases hl with
        | first r hr => exact hr1 r (List.mem_of_getElem? hr) rfl
        | step n m _ hm => exact hq3 q (succL_sub hm) rfl
    simp [this]
  have e1 : flawsL (g ++ [(q, [([] : List ByteArray)])]) tk = tellL (cand1 (g ++ [(q, [([] : List ByteArray)])]) tk ++ cand2N (g ++ [(q, [([] : List ByteArray)])]) tk (allNames (g ++ [(q, [([] : List ByteArray)])])) ++ cand3 (g ++ [(q, [([] : List ByteArray)])]) tk (gdS (g ++ [(q, [([] : List ByteArray)])]) tk) ++ cand4 (g ++ [(q, [([] : List ByteArray)])]) (nrS (g ++ [(q, [([] : List ByteArray)])]))) := rfl
  have e2 : flawsL g tk = tellL (cand1 g tk ++ cand2N g tk (allNames g) ++ cand3 g tk (gdS g tk) ++ cand4 g (nrS g)) := rfl
  have hno : ((4 : Int), q) ∉ flawsL g tk := fun h => by
    rw [mem_flawsL] at h
    rcases List.mem_append.1 h with h | h
    · rcases List.mem_append.1 h with h | h
      · rcases List.mem_append.1 h with h | h
        · unfold cand1 at h; obtain ⟨p, _, hp⟩ := List.mem_map.1 h; injection hp with _ h1; injection h1 with h1 _; omega
        · unfold cand2N at h; obtain ⟨p, _, hp⟩ := List.mem_map.1 h; injection hp with _ h1; injection h1 with h1 _; omega
      · unfold cand3 at h; obtain ⟨p, _, hp⟩ := List.mem_map.1 h; injection hp with _ h1; injection h1 with h1 _; omega
    · unfold cand4 at h
      obtain ⟨p, hp, hpp⟩ := List.mem_map.1 h
      injection hpp with _ h1; injection h1 with _ h1
      exact hr1 p hp h1
  have e3 : tellL (cand1 g tk ++ [(false, (1, q))] ++ cand2N g tk (allNames g) ++ (cand3 g tk (gdS g tk) ++ [(false, (3, q))]) ++ (cand4 g (nrS g) ++ [(true, (4, q))])) = tellL ((cand1 g tk ++ cand2N g tk (allNames g) ++ cand3 g tk (gdS g tk) ++ cand4 g (nrS g)) ++ [(true, (4, q))]) := by
    rw [tellL_cut, tellL_cut (_ ++ [(true, ((4 : Int), q))])]
    simp [List.filter_append]
  rw [e1, c1, c2, c3, c4, e3, tellL_snoc, ← e2]
  show layS (flawsL g tk) (4, q) = _
  unfold layS
  rw [if_neg (fun h => hno (lay_any.1 h))]
end
theorem namesO_ok {w : World} {G : Heap} (hG : Has w G) {g : List (ByteArray × List (List ByteArray))} {A_g : Option Addr} {n_g c_g : Nat} (h_g : Sl (tPair tStr (tSlice (tSlice tStr))) G A_g n_g c_g g) (hb : n_g ≤ 1000000000) :
    Calls Try.prog 18 #[.agg #[.slice A_g n_g c_g]] w (RetO w G tStr 9 fun ys => ys = g.map Prod.fst) := by
 have lh_g := h_g.len'
 refine enter [(.agg [(sS A_g n_g c_g)])] 20 Try.func18 rfl rfl rfl rfl hG ?_
 refine WC_seq (WC_region ?_)
 refine WL_execS htb 2 [1] [0] ⟨[(1, (.p 0 0))], [(0, (.cells 24 [(sS A_g n_g c_g)]))], 1, [], []⟩ (by kernel_rfl) ?_
 refine WL_nil ?_
 refine WQ_code ?_
 refine WC_seq (WC_region ?_)
 refine WL_execS htb 1 [3, 1] [0] ⟨[(3, (sS none 0 0)), (1, (.p 0 0))], [(0, (.cells 24 [(sS A_g n_g c_g)]))], 1, [], []⟩ (by kernel_rfl) ?_
 refine WL_nil ?_
 refine WQ_code ?_
 refine WC_seq ?_
 refine WC_seq (WC_region ?_)
 refine WL_execS htb 4 [9, 8, 7, 3] [] ⟨[(9, (iI 0)), (8, (iN n_g)), (7, (sS A_g n_g c_g)), (3, (sS none 0 0))], [], 1, [], []⟩ (by kernel_rfl) ?_
 refine WL_nil ?_
 refine WQ_code ?_
 refine WC_block ?_
 refine WK_off 9 rfl ?_
 refine WK_env [(9, (iI 0)), (8, (iN n_g)), (7, (sS A_g n_g c_g)), (3, (.ls true 1 0 0))] (fun ρ => ⟨rfl, rfl, ⟨rfl, rfl, ⟨rfl, rfl, ⟨rfl, rfl, trivial⟩⟩⟩⟩) ?_
 refine WK_keep [9, 8, 7, 3] [1] rfl rfl ?_
 refine WK_env [(9, (iN 0)), (8, (iN n_g)), (7, (sS A_g n_g c_g)), (3, (.ls true 1 0 0))] (fun ρ => ⟨rfl, rfl, ⟨rfl, rfl, ⟨rfl, rfl, ⟨rfl, rfl, trivial⟩⟩⟩⟩) ?_
 refine WC_loop (ι := Nat × Bool × Array Value × Nat) (fun (i, z, arr, cap) G1 => Le G G1 ∧ (i ≤ n_g ∧ OwnL tStr G1 ((g.take i).map Prod.fst) arr cap ∧ (z = true → ((g.take i).map Prod.fst) = []))) (fun (i, z, arr, cap) => ⟨[(9, (iN i)), (8, (iN n_g)), (7, (sS A_g n_g c_g)), (3, (.ls z 1 i cap))], [(1, (.lst z 9 arr))], 2, [], []⟩) (fun (i, z, arr, cap) => n_g - i) (0, true, #[], 0) ⟨Le.refl _, ⟨Nat.zero_le _, OwnL.nil _ _, fun _ => rfl⟩⟩ rfl ?_
 rintro ⟨i, z, arr, cap⟩ G1 ⟨hle, hF⟩
 show WC _ _ _ _ _ ⟨[(9, (iN i)), (8, (iN n_g)), (7, (sS A_g n_g c_g)), (3, (.ls z 1 i cap))], [(1, (.lst z 9 arr))], 2, [], []⟩ _
 replace h_g := h_g.mono hle
 have hc2 := hle
 obtain ⟨hi, ho, hz0⟩ := hF
 refine WC_seq (WC_region ?_)
 refine WL_execS htb 1 [10, 9, 8, 7, 3] [1] ⟨[(10, (bB (decide ((((i : Nat) : Int) : Int) < ((n_g : Nat) : Int))))), (9, (iN i)), (8, (iN n_g)), (7, (sS A_g n_g c_g)), (3, (.ls z 1 i cap))], [(1, (.lst z 9 arr))], 2, [], []⟩ (by kernel_rfl) ?_
 refine WL_nil ?_
 refine WQ_code ?_
 refine WC_seq ?_
 refine WC_cond (b := (decide ((((i : Nat) : Int) : Int) < ((n_g : Nat) : Int)))) rfl (fun hc => ?_) (fun hc => ?_)
 ·
  replace hc := of_decide_eq_true hc
  refine WC_skip ?_
  refine WQ_code ?_
  refine WC_seq ?_
  refine WC_block ?_
  refine WC_seq (WC_region ?_)
  obtain ⟨q3, rfl⟩ := h_g.ptr (by omega)
  obtain ⟨⟨x6, x8⟩, _, hx4, ⟨_, _, rfl, ⟨rfl, hn7⟩, hr9⟩, at5⟩ := h_g.get i (by omega)
  obtain ⟨A11, n12, c13, rfl, hs10⟩ := Sl.of hr9
  replace hs10 : Sl (tSlice tStr) _ A11 n12 c13 x8 := hs10
  have lhs10 := hs10.len'
  replace at5 : At G1 (q3.add (i * 2)) [.string x6, .slice A11 n12 c13] := at5
  refine WL_op (WOp_idx htb q3 n_g ((i : Nat) : Int) 2 (by kernel_rfl) (by omega) (by omega) ?_)
  refine WL_op (WOp_ld htb (q3.add (i * 2)) true 2 [.string x6, .slice A11 n12 c13] (by kernel_rfl) at5 rfl (by decide) ?_)
  refine WL_execS htb 2 [5, 9, 8, 7, 3] [2, 1] ⟨[(5, (.p 2 0)), (9, (iN i)), (8, (iN n_g)), (7, (sS (some q3) n_g c_g)), (3, (.ls z 1 i cap))], [(2, (.cells 34 [(tS x6), (sS A11 n12 c13)])), (1, (.lst z 9 arr))], 3, [], []⟩ (by kernel_rfl) ?_
  refine WL_nil ?_
  refine WQ_code ?_
  refine WC_region ?_
  refine WL_execS htb 4 [16, 13, 9, 8, 7] [3, 1] ⟨[(16, (.s 3 1 1)), (13, (.ls z 1 i cap)), (9, (iN i)), (8, (iN n_g)), (7, (sS (some q3) n_g c_g))], [(3, (.cells 9 [(tS x6)])), (1, (.lst z 9 arr))], 4, [], []⟩ (by kernel_rfl) ?_
  refine WK_freezeV 3 rfl rfl rfl rfl ?_
  intro bk15 G14 hle hbk15
  replace hc2 := Le.trans hc2 hle
  replace h_g := h_g.mono hle
  replace ho := ho.mono hle
  show WK _ _ ⟨[(16, (sS (some ⟨bk15, 0, none⟩) 1 1)), (13, (.ls z 1 i cap)), (9, (iN i)), (8, (iN n_g)), (7, (sS (some q3) n_g c_g))], [(1, (.lst z 9 arr))], 4, [], []⟩ _
  have hs16 : Sl tStr G14 (some ⟨bk15, 0, none⟩) 1 1 [x6] := Sl.lit (cs := [.string x6]) (RepsL.cons' (rep_str _ (x := x6) hn7) .nil) hbk15 rfl (by unfold big; omega)
  have lhs16 := hs16.len'
  refine WL_op (WOp_append htb z 1 i cap (some ⟨bk15, 0, none⟩) 1 9 1 16 (by kernel_rfl) (by kernel_rfl) rfl rfl tStr (xs := ((g.take i).map Prod.fst)) (ys := [x6]) ho (by rw [List.length_map, List.length_take]; omega) hz0 hs16.row hs16.len rfl (by decide) (by simp only [List.length_map, List.length_take, List.length_cons, List.length_nil]; omega) (by unfold big; simp only [List.length_map, List.length_take, List.length_cons, List.length_nil]; omega) (fun z17 arr18 cap19 hz20 ho21 => ?_))
  show WL _ _ _ _ _ _ ⟨[(17, (.ls z17 4 ((((g.take i).map Prod.fst) ++ ([x6])).length) cap19)), (16, (sS (some ⟨bk15, 0, none⟩) 1 1)), (13, (.ls z 1 i cap)), (9, (iN i)), (8, (iN n_g)), (7, (sS (some q3) n_g c_g))], [(4, (.lst z17 9 arr18))], 5, [], []⟩ _
  refine WL_execS htb 1 [3, 9, 8, 7] [4] ⟨[(3, (.ls z17 4 ((((g.take i).map Prod.fst) ++ ([x6])).length) cap19)), (9, (iN i)), (8, (iN n_g)), (7, (sS (some q3) n_g c_g))], [(4, (.lst z17 9 arr18))], 5, [], []⟩ (by kernel_rfl) ?_
  refine WL_nil ?_
  refine WQ_blk ?_
  refine WQ_code ?_
  refine WC_region ?_
  refine WL_execS htb 2 [9, 3, 8, 7] [4] ⟨[(9, (iI (IntKind.i64.wrap (((i : Nat) : Int) + 1)))), (3, (.ls z17 4 ((((g.take i).map Prod.fst) ++ ([x6])).length) cap19)), (8, (iN n_g)), (7, (sS (some q3) n_g c_g))], [(4, (.lst z17 9 arr18))], 5, [], []⟩ (by kernel_rfl) ?_
  refine WL_nil ?_
  refine WK_env [(9, (iN (i + 1))), (3, (.ls z17 4 ((((g.take i).map Prod.fst) ++ ([x6])).length) cap19)), (8, (iN n_g)), (7, (sS (some q3) n_g c_g))] (fun ρ => ⟨rfl, (congrArg (Value.int .i64) (by rw [wrap_id (by omega)]; first | rfl | omega)), ⟨rfl, rfl, ⟨rfl, rfl, ⟨rfl, rfl, trivial⟩⟩⟩⟩) ?_
  refine WK_keep [9, 8, 7, 3] [4] rfl rfl ?_
  refine WK_env [(9, (iN (i + 1))), (8, (iN n_g)), (7, (sS (some q3) n_g c_g)), (3, (.ls z17 4 (i + 1) cap19))] (fun ρ => ⟨rfl, rfl, ⟨rfl, rfl, ⟨rfl, rfl, ⟨rfl, (congrArg (fun n => nilOr z17 (.slice (some ⟨ρ 4, 0, none⟩) n cap19)) (by simp only [List.length_append, List.length_map, List.length_take, List.length_cons, List.length_nil]; omega)), trivial⟩⟩⟩⟩) ?_
  exact WQ_nextR ((i + 1), z17, arr18, cap19) (by show n_g - (i + 1) < n_g - i; omega) ⟨hc2, ⟨by omega, by rw [map_step (f := Prod.fst) hx4]; exact ho21, fun h => by rw [map_step (f := Prod.fst) hx4]; exact hz20 h⟩⟩ [(1, 4)] rfl rfl rfl rfl rfl rfl
 ·
  replace hc := of_decide_eq_false hc
  refine WC_exit ?_
  refine WQ_then_exit ?_
  refine WQ_then_exit ?_
  refine WQ_hit ?_
  refine WQ_code ?_
  refine WC_seq (WC_region ?_)
  refine WL_execS htb 2 [2] [1] ⟨[(2, (.ls z 1 i cap))], [(1, (.lst z 9 arr))], 2, [], []⟩ (by kernel_rfl) ?_
  refine WL_nil ?_
  refine WQ_code ?_
  refine WC_ret ?_
  rw [List.take_of_length_le (show g.length ≤ i by omega)] at ho hz0
  exact WQ_doneO htb _ (.inl rfl) (z := z) (h := 1) (n := i) (xs := g.map Prod.fst) rfl (by kernel_rfl) rfl rfl rfl (by rw [List.length_map]; omega) hz0 ho rfl

theorem checkMore_ok {w : World} {G : Heap} (hG : Has w G) {g : (List (ByteArray × (List (List ByteArray))))} {A_g : Option Addr} {n_g : Nat} {c_g : Nat} {tk : (List ByteArray)} {A_tk : Option Addr} {n_tk : Nat} {c_tk : Nat} {mo : ByteArray} (h_g : Sl (tPair tStr (tSlice (tSlice tStr))) G A_g n_g c_g g) (h_tk : Sl tStr G A_tk n_tk c_tk tk) (h_mo : mo.size ≤ big) (hb : bigN g tk ≤ 4000000000000000000) :
    Calls Try.prog 3 #[(.agg #[.slice A_g n_g c_g]), (.slice A_tk n_tk c_tk), (.string mo)] w (Ret w G fun v G' => ∃ (b : Bool), v = .bool b ∧ (b = true)) := by
 have lh_g := h_g.len'
 have lh_tk := h_tk.len'
 refine enter [(.agg [(sS A_g n_g c_g)]), (sS A_tk n_tk c_tk), (tS mo)] 134 Try.func3 rfl rfl rfl rfl hG ?_
 refine WC_seq (WC_region ?_)
 refine WL_execS htb 2 [3, 1, 2] [0] ⟨[(3, (.p 0 0)), (1, (sS A_tk n_tk c_tk)), (2, (tS mo))], [(0, (.cells 24 [(sS A_g n_g c_g)]))], 1, [], []⟩ (by kernel_rfl) ?_
 refine WL_nil ?_
 refine WQ_code ?_
 refine WC_seq (WC_region ?_)
 refine WL_op (WOp_call 14 [] (by kernel_rfl) (goes_of Try.func14 rfl rfl) (fun ρ w hW => live8_ok hW.has) ?_)
 intro G701 v hle hΦ
 replace h_g := h_g.mono hle
 replace h_tk := h_tk.mono hle
 subst hΦ
 refine WL_execS htb 1 [7, 3, 1, 2] [0] ⟨[(7, (bB true)), (3, (.p 0 0)), (1, (sS A_tk n_tk c_tk)), (2, (tS mo))], [(0, (.cells 24 [(sS A_g n_g c_g)]))], 1, [], []⟩ (by kernel_rfl) ?_
 refine WL_nil ?_
 refine WQ_code ?_
 refine WC_seq ?_
 refine WC_seq (WC_region ?_)
 refine WL_execS htb 2 [26, 25, 7, 3, 1, 2] [0] ⟨[(26, (sS A_tk n_tk c_tk)), (25, (.agg [(sS A_g n_g c_g)])), (7, (bB true)), (3, (.p 0 0)), (1, (sS A_tk n_tk c_tk)), (2, (tS mo))], [(0, (.cells 24 [(sS A_g n_g c_g)]))], 1, [], []⟩ (by kernel_rfl) ?_
 refine WL_op (WOp_call 15 [(.agg [(sS A_g n_g c_g)]), (sS A_tk n_tk c_tk)] (by kernel_rfl) (goes_of Try.func15 rfl rfl) (fun ρ w hW => big8_ok hW.has (g := g) (tk := tk) h_g h_tk) ?_)
 intro G702 v hle hΦ
 replace h_g := h_g.mono hle
 replace h_tk := h_tk.mono hle
 obtain ⟨r1, rfl, hR2⟩ := hΦ
 refine WL_execS htb 1 [28, 7, 3, 1, 2] [0] ⟨[(28, (bB r1)), (7, (bB true)), (3, (.p 0 0)), (1, (sS A_tk n_tk c_tk)), (2, (tS mo))], [(0, (.cells 24 [(sS A_g n_g c_g)]))], 1, [], []⟩ (by kernel_rfl) ?_
 refine WK_split 28 r1 rfl (fun hbig => ?_) (fun hbig => ?_)
 ·
  skip
  refine WK_keep [28, 7, 3, 1, 2] [0] rfl rfl ?_
  refine WL_execS htb 5 [33, 7, 3, 1, 2] [0] ⟨[(33, (bB true)), (7, (bB true)), (3, (.p 0 0)), (1, (sS A_tk n_tk c_tk)), (2, (tS mo))], [(0, (.cells 24 [(sS A_g n_g c_g)]))], 1, [], []⟩ (by kernel_rfl) ?_
  refine WL_nil ?_
  refine WQ_code ?_
  refine WC_cond (b := true) rfl (fun _ => ?_) (fun h => by cases h)
  refine WC_seq (WC_region ?_)
  refine WL_execS htb 2 [6] [] ⟨[(6, (bB true))], [], 1, [], []⟩ (by kernel_rfl) ?_
  refine WL_nil ?_
  refine WQ_code ?_
  refine WC_ret ?_
  refine WQ_then_ret ?_
  exact WQ_done htb [(bB true)] _ (.inl rfl) rfl (by kernel_rfl) (fun ρ w hW => ⟨true, rfl, rfl⟩)
 ·
  skip
  refine WK_keep [28, 7, 3, 1, 2] [0] rfl rfl ?_
  obtain ⟨hgl, hal, htl, hsg⟩ := big_small (hR2 hb (by simpa using hbig))
  refine WL_execS htb 5 [33, 7, 3, 1, 2] [0] ⟨[(33, (bB ((((n_g : Nat) : Int) : Int) == 0))), (7, (bB true)), (3, (.p 0 0)), (1, (sS A_tk n_tk c_tk)), (2, (tS mo))], [(0, (.cells 24 [(sS A_g n_g c_g)]))], 1, [], []⟩ (by kernel_rfl) ?_
  refine WL_nil ?_
  refine WQ_code ?_
  refine WC_cond (b := ((((n_g : Nat) : Int) : Int) == 0)) rfl (fun hlen => ?_) (fun hlen => ?_)
  ·
   replace hlen := eq_of_beq hlen
   refine WC_seq (WC_region ?_)
   refine WL_execS htb 2 [6] [] ⟨[(6, (bB true))], [], 1, [], []⟩ (by kernel_rfl) ?_
   refine WL_nil ?_
   refine WQ_code ?_
   refine WC_ret ?_
   refine WQ_then_ret ?_
   exact WQ_done htb [(bB true)] _ (.inl rfl) rfl (by kernel_rfl) (fun ρ w hW => ⟨true, rfl, rfl⟩)
  ·
   replace hlen := ne_of_beq_false hlen
   refine WC_skip ?_
   refine WQ_code ?_
   refine WC_seq (WC_region ?_)
   refine WL_execS htb 2 [36, 35, 7, 3, 1, 2] [0] ⟨[(36, (sS A_tk n_tk c_tk)), (35, (.agg [(sS A_g n_g c_g)])), (7, (bB true)), (3, (.p 0 0)), (1, (sS A_tk n_tk c_tk)), (2, (tS mo))], [(0, (.cells 24 [(sS A_g n_g c_g)]))], 1, [], []⟩ (by kernel_rfl) ?_
   refine WL_op (WOp_call 16 [(.agg [(sS A_g n_g c_g)]), (sS A_tk n_tk c_tk)] (by kernel_rfl) (goes_of Try.func16 rfl rfl) (fun ρ w hW => flawsP_ok hW.has (g := g) (tk := tk) h_g h_tk (by omega) (by omega) (by omega)) ?_)
   intro G703 v hle hΦ
   replace h_g := h_g.mono hle
   replace h_tk := h_tk.mono hle
   obtain ⟨Af3, nf4, cf5, gd, nr, rfl, hsf6, hgd, hnr⟩ := hΦ
   rw [flawsL_of hgd hnr] at hsf6
   clear hgd hnr
   have lhsf6 := hsf6.len'
   refine WL_execS htb 1 [8, 7, 3, 1, 2] [0] ⟨[(8, (sS Af3 nf4 cf5)), (7, (bB true)), (3, (.p 0 0)), (1, (sS A_tk n_tk c_tk)), (2, (tS mo))], [(0, (.cells 24 [(sS A_g n_g c_g)]))], 1, [], []⟩ (by kernel_rfl) ?_
   refine WL_nil ?_
   refine WQ_code ?_
   refine WK_freeze 0 rfl rfl rfl rfl ?_
   intro bk8 G7 hle hbk8
   replace h_g := h_g.mono hle
   replace h_tk := h_tk.mono hle
   replace hsf6 := hsf6.mono hle
   have hz := FZ.cons (h := 0) hbk8 rfl (FZ.nil _)
   refine WC_seq (WC_draw mixed ?_)
   refine WD_takeL htb rfl (fun _ _ _ _ _ h => h) (Le.refl _) [0, 1, 3] (fuel := 5) (listed' := bts 8 11) (S' := ⟨[(41, (tS mo)), (39, (sS A_tk n_tk c_tk)), (38, (.agg [(sS A_g n_g c_g)])), (8, (sS Af3 nf4 cf5)), (7, (bB true)), (3, (.p 0 0)), (1, (sS A_tk n_tk c_tk)), (2, (tS mo))], [], 1, [], [(0, bk8, (.cells 24 [(sS A_g n_g c_g)]))]⟩) hz (by kernel_rfl) rfl ?_
   refine WD_join (ι := Option Addr × Nat × Nat) (fun (A9, n10, c11) G' => Le G7 G' ∧ Sl tStr G' A9 n10 c11 (([] ++ tk) ++ ([mo]))) (fun (A9, n10, c11) => ⟨[(43, (sS A9 n10 c11)), (41, (tS mo)), (39, (sS A_tk n_tk c_tk)), (38, (.agg [(sS A_g n_g c_g)])), (8, (sS Af3 nf4 cf5)), (7, (bB true)), (3, (.p 0 0)), (1, (sS A_tk n_tk c_tk)), (2, (tS mo))], [], 1, [], [(0, bk8, (.cells 24 [(sS A_g n_g c_g)]))]⟩) 2 #[true, true, true, true, true, true, false, false] ?cont (fun hK13 => ?now)
   case now =>
    have hc14 := Le.refl G7
    refine WD_two 2 4 (by rfl) (by rfl) (by decide +kernel) ?_ ?_
    ·
     skip
     refine WK_off 9 rfl ?_
     have ho15 : OwnL tStr G7 [] #[] 0 := OwnL.nil _ _
     refine WOp_appendN htb true 1 0 0 A_tk n_tk 9 1 16 (by kernel_rfl) (by kernel_rfl) rfl rfl tStr (xs := []) (ys := tk) ho15 rfl (fun _ => rfl) h_tk.row h_tk.len rfl (by decide) (by first | omega | (simp only [List.length_append, List.length_nil, List.length_drop, List.length_take, List.length_cons]; omega)) (by unfold big; first | omega | (simp only [List.length_append, List.length_nil, List.length_drop, List.length_take, List.length_cons]; omega)) (fun z16 arr17 cap18 hz19 ho20 => WD_on (Le.refl _) ?_)
     show WD _ _ _ _ _ _ _ _ _ ⟨[(40, (.ls z16 2 (([] ++ tk).length) cap18)), (41, (tS mo)), (39, (sS A_tk n_tk c_tk)), (38, (.agg [(sS A_g n_g c_g)])), (8, (sS Af3 nf4 cf5)), (7, (bB true)), (3, (.p 0 0)), (1, (sS A_tk n_tk c_tk)), (2, (tS mo))], [(2, (.lst z16 9 arr17))], 3, [], [(0, bk8, (.cells 24 [(sS A_g n_g c_g)]))]⟩
     refine WD_one 4 (by rfl) (by decide +kernel) (WOp_step htb (S' := ⟨[(42, (.s 3 1 1)), (40, (.ls z16 2 (([] ++ tk).length) cap18)), (41, (tS mo)), (39, (sS A_tk n_tk c_tk)), (38, (.agg [(sS A_g n_g c_g)])), (8, (sS Af3 nf4 cf5)), (7, (bB true)), (3, (.p 0 0)), (1, (sS A_tk n_tk c_tk)), (2, (tS mo))], [(3, (.cells 9 [(tS mo)])), (2, (.lst z16 9 arr17))], 4, [], [(0, bk8, (.cells 24 [(sS A_g n_g c_g)]))]⟩) (by kernel_rfl) (WD_on (Le.refl _) ?_))
     refine WK_freezeV 3 rfl rfl rfl rfl ?_
     intro bk22 G21 hle hbk22
     replace hc14 := Le.trans hc14 hle
     replace h_g := h_g.mono hle
     replace h_tk := h_tk.mono hle
     replace hsf6 := hsf6.mono hle
     replace hz := hz.mono hle
     replace ho20 := ho20.mono hle
     refine WD_up hle ?_
     show WK _ _ ⟨[(42, (sS (some ⟨bk22, 0, none⟩) 1 1)), (40, (.ls z16 2 (([] ++ tk).length) cap18)), (41, (tS mo)), (39, (sS A_tk n_tk c_tk)), (38, (.agg [(sS A_g n_g c_g)])), (8, (sS Af3 nf4 cf5)), (7, (bB true)), (3, (.p 0 0)), (1, (sS A_tk n_tk c_tk)), (2, (tS mo))], [(2, (.lst z16 9 arr17))], 4, [], [(0, bk8, (.cells 24 [(sS A_g n_g c_g)]))]⟩ _
     have hs23 : Sl tStr G21 (some ⟨bk22, 0, none⟩) 1 1 [mo] := Sl.lit (cs := [.string mo]) (RepsL.cons' (rep_str _ (x := mo) h_mo) .nil) hbk22 rfl (by unfold big; omega)
     have lhs23 := hs23.len'
     refine WD_one 5 (by rfl) (by decide +kernel) (WOp_append htb z16 2 (([] ++ tk).length) cap18 (some ⟨bk22, 0, none⟩) 1 9 1 16 (by kernel_rfl) (by kernel_rfl) rfl rfl tStr (xs := ([] ++ tk)) (ys := [mo]) ho20 rfl hz19 hs23.row hs23.len rfl (by decide) (by simp only [List.length_append, List.length_cons, List.length_nil]; omega) (by unfold big; simp only [List.length_append, List.length_cons, List.length_nil]; omega) (fun z24 arr25 cap26 hz27 ho28 => WD_on (Le.refl _) ?_))
     show WD _ _ _ _ _ _ _ _ _ ⟨[(43, (.ls z24 4 ((([] ++ tk) ++ ([mo])).length) cap26)), (42, (sS (some ⟨bk22, 0, none⟩) 1 1)), (40, (.ls z16 2 (([] ++ tk).length) cap18)), (41, (tS mo)), (39, (sS A_tk n_tk c_tk)), (38, (.agg [(sS A_g n_g c_g)])), (8, (sS Af3 nf4 cf5)), (7, (bB true)), (3, (.p 0 0)), (1, (sS A_tk n_tk c_tk)), (2, (tS mo))], [(4, (.lst z24 9 arr25))], 5, [], [(0, bk8, (.cells 24 [(sS A_g n_g c_g)]))]⟩
     refine WK_freezeL 4 rfl rfl ?_
     intro bk30 G29 hle hbk30
     replace hc14 := Le.trans hc14 hle
     replace h_g := h_g.mono hle
     replace h_tk := h_tk.mono hle
     replace hsf6 := hsf6.mono hle
     replace hs23 := hs23.mono hle
     replace hz := hz.mono hle
     obtain ⟨A32, n33, c34, e35, hs31⟩ := OwnL.sl (n := (([] ++ tk) ++ ([mo])).length) ho28 hle hz27 hbk30 rfl
     refine WK_env [(43, (sS A32 n33 c34)), (42, (sS (some ⟨bk22, 0, none⟩) 1 1)), (40, (.ls z16 2 (([] ++ tk).length) cap18)), (41, (tS mo)), (39, (sS A_tk n_tk c_tk)), (38, (.agg [(sS A_g n_g c_g)])), (8, (sS Af3 nf4 cf5)), (7, (bB true)), (3, (.p 0 0)), (1, (sS A_tk n_tk c_tk)), (2, (tS mo))] (fun ρ => ⟨rfl, (by exact e35), ⟨rfl, rfl, ⟨rfl, rfl, ⟨rfl, rfl, ⟨rfl, rfl, ⟨rfl, rfl, ⟨rfl, rfl, ⟨rfl, rfl, ⟨rfl, rfl, ⟨rfl, rfl, ⟨rfl, rfl, trivial⟩⟩⟩⟩⟩⟩⟩⟩⟩⟩⟩) ?_
     have lhs31 := hs31.len'
     refine WD_up hle ?_
     refine WK_keep [43, 41, 39, 38, 8, 7, 3, 1, 2] [] rfl rfl ?_
     refine WK_ren (T := ⟨[(43, (sS A32 n33 c34)), (41, (tS mo)), (39, (sS A_tk n_tk c_tk)), (38, (.agg [(sS A_g n_g c_g)])), (8, (sS Af3 nf4 cf5)), (7, (bB true)), (3, (.p 0 0)), (1, (sS A_tk n_tk c_tk)), (2, (tS mo))], [], 1, [], [(0, bk8, (.cells 24 [(sS A_g n_g c_g)]))]⟩) [] rfl rfl rfl rfl rfl rfl ?_
     exact hK13 (A32, n33, c34) G29 ⟨hc14, hs31⟩
    ·
     skip
     refine WOp_step htb (S' := ⟨[(42, (.s 1 1 1)), (41, (tS mo)), (39, (sS A_tk n_tk c_tk)), (38, (.agg [(sS A_g n_g c_g)])), (8, (sS Af3 nf4 cf5)), (7, (bB true)), (3, (.p 0 0)), (1, (sS A_tk n_tk c_tk)), (2, (tS mo))], [(1, (.cells 9 [(tS mo)]))], 2, [], [(0, bk8, (.cells 24 [(sS A_g n_g c_g)]))]⟩) (by kernel_rfl) (WD_on (Le.refl _) ?_)
     refine WK_freezeV 1 rfl rfl rfl rfl ?_
     intro bk16 G15 hle hbk16
     replace hc14 := Le.trans hc14 hle
     replace h_g := h_g.mono hle
     replace h_tk := h_tk.mono hle
     replace hsf6 := hsf6.mono hle
     replace hz := hz.mono hle
     refine WD_up hle ?_
     show WK _ _ ⟨[(42, (sS (some ⟨bk16, 0, none⟩) 1 1)), (41, (tS mo)), (39, (sS A_tk n_tk c_tk)), (38, (.agg [(sS A_g n_g c_g)])), (8, (sS Af3 nf4 cf5)), (7, (bB true)), (3, (.p 0 0)), (1, (sS A_tk n_tk c_tk)), (2, (tS mo))], [], 2, [], [(0, bk8, (.cells 24 [(sS A_g n_g c_g)]))]⟩ _
     have hs17 : Sl tStr G15 (some ⟨bk16, 0, none⟩) 1 1 [mo] := Sl.lit (cs := [.string mo]) (RepsL.cons' (rep_str _ (x := mo) h_mo) .nil) hbk16 rfl (by unfold big; omega)
     have lhs17 := hs17.len'
     refine WK_off 9 rfl ?_
     have ho18 : OwnL tStr G15 [] #[] 0 := OwnL.nil _ _
     refine WD_one 2 (by rfl) (by decide +kernel) (WOp_appendN htb true 2 0 0 A_tk n_tk 9 1 16 (by kernel_rfl) (by kernel_rfl) rfl rfl tStr (xs := []) (ys := tk) ho18 rfl (fun _ => rfl) h_tk.row h_tk.len rfl (by decide) (by first | omega | (simp only [List.length_append, List.length_nil, List.length_drop, List.length_take, List.length_cons]; omega)) (by unfold big; first | omega | (simp only [List.length_append, List.length_nil, List.length_drop, List.length_take, List.length_cons]; omega)) (fun z19 arr20 cap21 hz22 ho23 => WD_on (Le.refl _) ?_))
     show WD _ _ _ _ _ _ _ _ _ ⟨[(40, (.ls z19 3 (([] ++ tk).length) cap21)), (42, (sS (some ⟨bk16, 0, none⟩) 1 1)), (41, (tS mo)), (39, (sS A_tk n_tk c_tk)), (38, (.agg [(sS A_g n_g c_g)])), (8, (sS Af3 nf4 cf5)), (7, (bB true)), (3, (.p 0 0)), (1, (sS A_tk n_tk c_tk)), (2, (tS mo))], [(3, (.lst z19 9 arr20))], 4, [], [(0, bk8, (.cells 24 [(sS A_g n_g c_g)]))]⟩
     refine WD_one 5 (by rfl) (by decide +kernel) (WOp_append htb z19 3 (([] ++ tk).length) cap21 (some ⟨bk16, 0, none⟩) 1 9 1 16 (by kernel_rfl) (by kernel_rfl) rfl rfl tStr (xs := ([] ++ tk)) (ys := [mo]) ho23 rfl hz22 hs17.row hs17.len rfl (by decide) (by simp only [List.length_append, List.length_cons, List.length_nil]; omega) (by unfold big; simp only [List.length_append, List.length_cons, List.length_nil]; omega) (fun z24 arr25 cap26 hz27 ho28 => WD_on (Le.refl _) ?_))
     show WD _ _ _ _ _ _ _ _ _ ⟨[(43, (.ls z24 4 ((([] ++ tk) ++ ([mo])).length) cap26)), (40, (.ls z19 3 (([] ++ tk).length) cap21)), (42, (sS (some ⟨bk16, 0, none⟩) 1 1)), (41, (tS mo)), (39, (sS A_tk n_tk c_tk)), (38, (.agg [(sS A_g n_g c_g)])), (8, (sS Af3 nf4 cf5)), (7, (bB true)), (3, (.p 0 0)), (1, (sS A_tk n_tk c_tk)), (2, (tS mo))], [(4, (.lst z24 9 arr25))], 5, [], [(0, bk8, (.cells 24 [(sS A_g n_g c_g)]))]⟩
     refine WK_freezeL 4 rfl rfl ?_
     intro bk30 G29 hle hbk30
     replace hc14 := Le.trans hc14 hle
     replace h_g := h_g.mono hle
     replace h_tk := h_tk.mono hle
     replace hsf6 := hsf6.mono hle
     replace hs17 := hs17.mono hle
     replace hz := hz.mono hle
     obtain ⟨A32, n33, c34, e35, hs31⟩ := OwnL.sl (n := (([] ++ tk) ++ ([mo])).length) ho28 hle hz27 hbk30 rfl
     refine WK_env [(43, (sS A32 n33 c34)), (40, (.ls z19 3 (([] ++ tk).length) cap21)), (42, (sS (some ⟨bk16, 0, none⟩) 1 1)), (41, (tS mo)), (39, (sS A_tk n_tk c_tk)), (38, (.agg [(sS A_g n_g c_g)])), (8, (sS Af3 nf4 cf5)), (7, (bB true)), (3, (.p 0 0)), (1, (sS A_tk n_tk c_tk)), (2, (tS mo))] (fun ρ => ⟨rfl, (by exact e35), ⟨rfl, rfl, ⟨rfl, rfl, ⟨rfl, rfl, ⟨rfl, rfl, ⟨rfl, rfl, ⟨rfl, rfl, ⟨rfl, rfl, ⟨rfl, rfl, ⟨rfl, rfl, ⟨rfl, rfl, trivial⟩⟩⟩⟩⟩⟩⟩⟩⟩⟩⟩) ?_
     have lhs31 := hs31.len'
     refine WD_up hle ?_
     refine WK_keep [43, 41, 39, 38, 8, 7, 3, 1, 2] [] rfl rfl ?_
     refine WK_ren (T := ⟨[(43, (sS A32 n33 c34)), (41, (tS mo)), (39, (sS A_tk n_tk c_tk)), (38, (.agg [(sS A_g n_g c_g)])), (8, (sS Af3 nf4 cf5)), (7, (bB true)), (3, (.p 0 0)), (1, (sS A_tk n_tk c_tk)), (2, (tS mo))], [], 1, [], [(0, bk8, (.cells 24 [(sS A_g n_g c_g)]))]⟩) [] rfl rfl rfl rfl rfl rfl ?_
     exact hK13 (A32, n33, c34) G29 ⟨hc14, hs31⟩
   rintro ⟨A9, n10, c11⟩ G15 ⟨hle, hs12⟩
   show WK _ _ ⟨[(43, (sS A9 n10 c11)), (41, (tS mo)), (39, (sS A_tk n_tk c_tk)), (38, (.agg [(sS A_g n_g c_g)])), (8, (sS Af3 nf4 cf5)), (7, (bB true)), (3, (.p 0 0)), (1, (sS A_tk n_tk c_tk)), (2, (tS mo))], [], 1, [], [(0, bk8, (.cells 24 [(sS A_g n_g c_g)]))]⟩ _
   replace h_g := h_g.mono hle
   replace h_tk := h_tk.mono hle
   replace hsf6 := hsf6.mono hle
   replace hz := hz.mono hle
   have lhs12 := hs12.len'
   refine WD_one 6 (by rfl) (by decide +kernel) (WOp_call 16 [(.agg [(sS A_g n_g c_g)]), (sS A9 n10 c11)] (by kernel_rfl) (goes_of Try.func16 rfl rfl) (fun ρ w hW => flawsP_ok hW.has (g := g) (tk := (([] ++ tk) ++ ([mo]))) h_g hs12 (by omega) (by omega) (by simp only [List.length_append, List.length_cons, List.length_nil]; omega)) ?_)
   intro G704 v hle hΦ
   replace h_g := h_g.mono hle
   replace h_tk := h_tk.mono hle
   replace hsf6 := hsf6.mono hle
   replace hs12 := hs12.mono hle
   replace hz := hz.mono hle
   obtain ⟨Af516, nf517, cf518, gd, nr, rfl, hsf519, hgd, hnr⟩ := hΦ
   rw [flawsL_of hgd hnr] at hsf519
   clear hgd hnr
   have lhsf519 := hsf519.len'
   refine WD_on hle ?_
   refine WD_up hle ?_
   refine WD_takeL htb rfl (fun _ _ _ _ _ h => h) (Le.refl _) [7] (fuel := 0) (listed' := bts 8 255) (S' := ⟨[(9, (sS Af516 nf517 cf518)), (44, (sS Af516 nf517 cf518)), (43, (sS A9 n10 c11)), (41, (tS mo)), (39, (sS A_tk n_tk c_tk)), (38, (.agg [(sS A_g n_g c_g)])), (8, (sS Af3 nf4 cf5)), (7, (bB true)), (3, (.p 0 0)), (1, (sS A_tk n_tk c_tk)), (2, (tS mo))], [], 1, [], [(0, bk8, (.cells 24 [(sS A_g n_g c_g)]))]⟩) hz (by kernel_rfl) rfl ?_
   refine WD_done (by decide +kernel) ?_
   refine WK_keep [9, 8, 7, 3, 1] [] rfl rfl ?_
   refine WQ_code ?_
   refine WC_seq ?_
   refine WC_seq (WC_region ?_)
   refine WL_execS htb 3 [47, 46, 45, 8, 7, 3, 1] [] ⟨[(47, (iI 0)), (46, (iN nf517)), (45, (sS Af516 nf517 cf518)), (8, (sS Af3 nf4 cf5)), (7, (bB true)), (3, (.p 0 0)), (1, (sS A_tk n_tk c_tk))], [], 1, [], [(0, bk8, (.cells 24 [(sS A_g n_g c_g)]))]⟩ (by kernel_rfl) ?_
   refine WL_nil ?_
   refine WQ_code ?_
   refine WC_block ?_
   refine WK_keep [47, 46, 45, 8, 7, 3, 1] [] rfl rfl ?_
   refine WK_env [(47, (iN 0)), (46, (iN nf517)), (45, (sS Af516 nf517 cf518)), (8, (sS Af3 nf4 cf5)), (7, (bB true)), (3, (.p 0 0)), (1, (sS A_tk n_tk c_tk))] (fun ρ => ⟨rfl, rfl, ⟨rfl, rfl, ⟨rfl, rfl, ⟨rfl, rfl, ⟨rfl, rfl, ⟨rfl, rfl, ⟨rfl, rfl, trivial⟩⟩⟩⟩⟩⟩⟩) ?_
   refine WC_loop (ι := Nat) (fun i G520 => Le G704 G520 ∧ (i ≤ nf517)) (fun i => ⟨[(47, (iN i)), (46, (iN nf517)), (45, (sS Af516 nf517 cf518)), (8, (sS Af3 nf4 cf5)), (7, (bB true)), (3, (.p 0 0)), (1, (sS A_tk n_tk c_tk))], [], 1, [], [(0, bk8, (.cells 24 [(sS A_g n_g c_g)]))]⟩) (fun i => nf517 - i) (0) ⟨Le.refl _, Nat.zero_le _⟩ rfl ?_
   rintro i G520 ⟨hle, hF⟩
   show WC _ _ _ _ _ ⟨[(47, (iN i)), (46, (iN nf517)), (45, (sS Af516 nf517 cf518)), (8, (sS Af3 nf4 cf5)), (7, (bB true)), (3, (.p 0 0)), (1, (sS A_tk n_tk c_tk))], [], 1, [], [(0, bk8, (.cells 24 [(sS A_g n_g c_g)]))]⟩ _
   replace h_g := h_g.mono hle
   replace h_tk := h_tk.mono hle
   replace hsf6 := hsf6.mono hle
   replace hsf519 := hsf519.mono hle
   replace hz := hz.mono hle
   have hc521 := hle
   have hi := hF
   refine WC_seq (WC_region ?_)
   refine WL_execS htb 1 [48, 47, 46, 45, 8, 7, 3, 1] [] ⟨[(48, (bB (decide ((((i : Nat) : Int) : Int) < ((nf517 : Nat) : Int))))), (47, (iN i)), (46, (iN nf517)), (45, (sS Af516 nf517 cf518)), (8, (sS Af3 nf4 cf5)), (7, (bB true)), (3, (.p 0 0)), (1, (sS A_tk n_tk c_tk))], [], 1, [], [(0, bk8, (.cells 24 [(sS A_g n_g c_g)]))]⟩ (by kernel_rfl) ?_
   refine WL_nil ?_
   refine WQ_code ?_
   refine WC_seq ?_
   refine WC_cond (b := (decide ((((i : Nat) : Int) : Int) < ((nf517 : Nat) : Int)))) rfl (fun hc => ?_) (fun hc => ?_)
   ·
    replace hc := of_decide_eq_true hc
    refine WC_skip ?_
    refine WQ_code ?_
    refine WC_seq ?_
    refine WC_block ?_
    refine WC_seq (WC_region ?_)
    obtain ⟨q522, rfl⟩ := hsf519.ptr (by omega)
    obtain ⟨⟨x525, x527⟩, _, hx523, ⟨_, _, rfl, ⟨rfl, hn526⟩, ⟨rfl, hn528⟩⟩, at524⟩ := hsf519.get i (by omega)
    have bdhn526 : -9223372036854775808 ≤ x525 ∧ x525 ≤ 9223372036854775807 := bd_of hn526
    replace at524 : At G520 (q522.add (i * 2)) [.int .i64 x525, .string x527] := at524
    refine WL_op (WOp_idx htb q522 nf517 ((i : Nat) : Int) 2 (by kernel_rfl) (by omega) (by omega) ?_)
    refine WL_op (WOp_ld htb (q522.add (i * 2)) true 2 [.int .i64 x525, .string x527] (by kernel_rfl) at524 rfl (by decide) ?_)
    refine WL_execS htb 2 [11, 47, 46, 45, 8, 7, 3, 1] [1] ⟨[(11, (.p 1 0)), (47, (iN i)), (46, (iN nf517)), (45, (sS (some q522) nf517 cf518)), (8, (sS Af3 nf4 cf5)), (7, (bB true)), (3, (.p 0 0)), (1, (sS A_tk n_tk c_tk))], [(1, (.cells 31 [(iI x525), (tS x527)]))], 2, [], [(0, bk8, (.cells 24 [(sS A_g n_g c_g)]))]⟩ (by kernel_rfl) ?_
    refine WL_nil ?_
    refine WQ_code ?_
    refine WC_seq ?_
    refine WC_seq (WC_region ?_)
    refine WL_execS htb 4 [54, 11, 47, 46, 45, 8, 7, 3, 1] [1] ⟨[(54, (bB ((x525 : Int) != 2))), (11, (.p 1 0)), (47, (iN i)), (46, (iN nf517)), (45, (sS (some q522) nf517 cf518)), (8, (sS Af3 nf4 cf5)), (7, (bB true)), (3, (.p 0 0)), (1, (sS A_tk n_tk c_tk))], [(1, (.cells 31 [(iI x525), (tS x527)]))], 2, [], [(0, bk8, (.cells 24 [(sS A_g n_g c_g)]))]⟩ (by kernel_rfl) ?_
    refine WK_split 54 ((x525 : Int) != 2) rfl (fun hk2 => ?_) (fun hk2 => ?_)
    ·
     replace hk2 := bne_iff_ne.1 hk2
     refine WK_keep [54, 11, 47, 46, 45, 8, 7, 3, 1] [1] rfl rfl ?_
     refine WL_execS htb 4 [58, 11, 47, 46, 45, 8, 7, 3, 1] [1] ⟨[(58, (bB ((x525 : Int) != 3))), (11, (.p 1 0)), (47, (iN i)), (46, (iN nf517)), (45, (sS (some q522) nf517 cf518)), (8, (sS Af3 nf4 cf5)), (7, (bB true)), (3, (.p 0 0)), (1, (sS A_tk n_tk c_tk))], [(1, (.cells 31 [(iI x525), (tS x527)]))], 2, [], [(0, bk8, (.cells 24 [(sS A_g n_g c_g)]))]⟩ (by kernel_rfl) ?_
     refine WL_nil ?_
     refine WQ_code ?_
     refine WC_cond (b := ((x525 : Int) != 3)) rfl (fun hk3 => ?_) (fun hk3 => ?_)
     ·
      replace hk3 := bne_iff_ne.1 hk3
      refine WC_exit ?_
      refine WQ_then_exit ?_
      refine WQ_hit ?_
      refine WQ_code ?_
      refine WC_region ?_
      refine WL_execS htb 2 [47, 46, 45, 8, 7, 3, 1] [] ⟨[(47, (iI (IntKind.i64.wrap (((i : Nat) : Int) + 1)))), (46, (iN nf517)), (45, (sS (some q522) nf517 cf518)), (8, (sS Af3 nf4 cf5)), (7, (bB true)), (3, (.p 0 0)), (1, (sS A_tk n_tk c_tk))], [], 2, [], [(0, bk8, (.cells 24 [(sS A_g n_g c_g)]))]⟩ (by kernel_rfl) ?_
      refine WL_nil ?_
      refine WK_env [(47, (iN (i + 1))), (46, (iN nf517)), (45, (sS (some q522) nf517 cf518)), (8, (sS Af3 nf4 cf5)), (7, (bB true)), (3, (.p 0 0)), (1, (sS A_tk n_tk c_tk))] (fun ρ => ⟨rfl, (congrArg (Value.int .i64) (by rw [wrap_id (by omega)]; first | rfl | omega)), ⟨rfl, rfl, ⟨rfl, rfl, ⟨rfl, rfl, ⟨rfl, rfl, ⟨rfl, rfl, ⟨rfl, rfl, trivial⟩⟩⟩⟩⟩⟩⟩) ?_
      refine WK_keep [47, 46, 45, 8, 7, 3, 1] [] rfl rfl ?_
      exact WQ_next ((i + 1)) (by show nf517 - (i + 1) < nf517 - i; omega) ⟨hc521, by omega⟩ (fun ρ a w h => h)
     ·
      replace hk3 := (bne_eq_false_iff_eq.1) hk3
      have hkk : x525 = 2 ∨ x525 = 3 := .inr (by simpa using hk3)
      refine WC_skip ?_
      refine WQ_code ?_
      refine WC_seq (WC_region ?_)
      refine WL_execS htb 1 [12, 11, 47, 46, 45, 8, 7, 3, 1] [1] ⟨[(12, (bB false)), (11, (.p 1 0)), (47, (iN i)), (46, (iN nf517)), (45, (sS (some q522) nf517 cf518)), (8, (sS Af3 nf4 cf5)), (7, (bB true)), (3, (.p 0 0)), (1, (sS A_tk n_tk c_tk))], [(1, (.cells 31 [(iI x525), (tS x527)]))], 2, [], [(0, bk8, (.cells 24 [(sS A_g n_g c_g)]))]⟩ (by kernel_rfl) ?_
      refine WL_nil ?_
      refine WQ_code ?_
      refine WC_seq ?_
      refine WC_seq (WC_region ?_)
      refine WL_execS htb 3 [61, 60, 59, 12, 11, 47, 46, 45, 8, 7, 3, 1] [1] ⟨[(61, (iI 0)), (60, (iN nf4)), (59, (sS Af3 nf4 cf5)), (12, (bB false)), (11, (.p 1 0)), (47, (iN i)), (46, (iN nf517)), (45, (sS (some q522) nf517 cf518)), (8, (sS Af3 nf4 cf5)), (7, (bB true)), (3, (.p 0 0)), (1, (sS A_tk n_tk c_tk))], [(1, (.cells 31 [(iI x525), (tS x527)]))], 2, [], [(0, bk8, (.cells 24 [(sS A_g n_g c_g)]))]⟩ (by kernel_rfl) ?_
      refine WL_nil ?_
      refine WQ_code ?_
      refine WC_block ?_
      refine WK_freeze 1 rfl rfl rfl rfl ?_
      intro bk530 G529 hle hbk530
      replace hc521 := Le.trans hc521 hle
      replace h_g := h_g.mono hle
      replace h_tk := h_tk.mono hle
      replace hsf6 := hsf6.mono hle
      replace hsf519 := hsf519.mono hle
      replace hz := hz.mono hle
      have hz := FZ.cons (h := 1) hbk530 rfl hz
      refine WK_keep [61, 60, 59, 12, 11, 47, 46, 45, 8, 7, 3, 1] [] rfl rfl ?_
      refine WK_env [(61, (iN 0)), (60, (iN nf4)), (59, (sS Af3 nf4 cf5)), (12, (bB false)), (11, (.p 1 0)), (47, (iN i)), (46, (iN nf517)), (45, (sS (some q522) nf517 cf518)), (8, (sS Af3 nf4 cf5)), (7, (bB true)), (3, (.p 0 0)), (1, (sS A_tk n_tk c_tk))] (fun ρ => ⟨rfl, rfl, ⟨rfl, rfl, ⟨rfl, rfl, ⟨rfl, rfl, ⟨rfl, rfl, ⟨rfl, rfl, ⟨rfl, rfl, ⟨rfl, rfl, ⟨rfl, rfl, ⟨rfl, rfl, ⟨rfl, rfl, ⟨rfl, rfl, trivial⟩⟩⟩⟩⟩⟩⟩⟩⟩⟩⟩⟩) ?_
      refine WC_loop (ι := Nat × Bool) (fun (j, hd) G531 => Le G529 G531 ∧ (j ≤ nf4 ∧ (hd = true ↔ (x525, x527) ∈ (flawsL g tk).take j))) (fun (j, hd) => ⟨[(61, (iN j)), (60, (iN nf4)), (59, (sS Af3 nf4 cf5)), (12, (bB hd)), (11, (.p 1 0)), (47, (iN i)), (46, (iN nf517)), (45, (sS (some q522) nf517 cf518)), (8, (sS Af3 nf4 cf5)), (7, (bB true)), (3, (.p 0 0)), (1, (sS A_tk n_tk c_tk))], [], 2, [], [(1, bk530, (.cells 31 [(iI x525), (tS x527)])), (0, bk8, (.cells 24 [(sS A_g n_g c_g)]))]⟩) (fun (j, hd) => nf4 - j) (0, false) ⟨Le.refl _, ⟨Nat.zero_le _, by simp⟩⟩ rfl ?_
      rintro ⟨j, hd⟩ G531 ⟨hle, hF⟩
      show WC _ _ _ _ _ ⟨[(61, (iN j)), (60, (iN nf4)), (59, (sS Af3 nf4 cf5)), (12, (bB hd)), (11, (.p 1 0)), (47, (iN i)), (46, (iN nf517)), (45, (sS (some q522) nf517 cf518)), (8, (sS Af3 nf4 cf5)), (7, (bB true)), (3, (.p 0 0)), (1, (sS A_tk n_tk c_tk))], [], 2, [], [(1, bk530, (.cells 31 [(iI x525), (tS x527)])), (0, bk8, (.cells 24 [(sS A_g n_g c_g)]))]⟩ _
      replace hc521 := Le.trans hc521 hle
      replace h_g := h_g.mono hle
      replace h_tk := h_tk.mono hle
      replace hsf6 := hsf6.mono hle
      replace hsf519 := hsf519.mono hle
      replace hz := hz.mono hle
      have hc532 := hle
      obtain ⟨hj, hhd⟩ := hF
      refine WC_seq (WC_region ?_)
      refine WL_execS htb 1 [62, 61, 60, 59, 12, 11, 47, 46, 45, 8, 7, 3, 1] [] ⟨[(62, (bB (decide ((((j : Nat) : Int) : Int) < ((nf4 : Nat) : Int))))), (61, (iN j)), (60, (iN nf4)), (59, (sS Af3 nf4 cf5)), (12, (bB hd)), (11, (.p 1 0)), (47, (iN i)), (46, (iN nf517)), (45, (sS (some q522) nf517 cf518)), (8, (sS Af3 nf4 cf5)), (7, (bB true)), (3, (.p 0 0)), (1, (sS A_tk n_tk c_tk))], [], 2, [], [(1, bk530, (.cells 31 [(iI x525), (tS x527)])), (0, bk8, (.cells 24 [(sS A_g n_g c_g)]))]⟩ (by kernel_rfl) ?_
      refine WL_nil ?_
      refine WQ_code ?_
      refine WC_seq ?_
      refine WC_cond (b := (decide ((((j : Nat) : Int) : Int) < ((nf4 : Nat) : Int)))) rfl (fun hcj => ?_) (fun hcj => ?_)
      ·
       replace hcj := of_decide_eq_true hcj
       refine WC_skip ?_
       refine WQ_code ?_
       refine WC_seq ?_
       refine WC_block ?_
       refine WC_seq (WC_region ?_)
       obtain ⟨q533, rfl⟩ := hsf6.ptr (by omega)
       obtain ⟨⟨x536, x538⟩, _, hx534, ⟨_, _, rfl, ⟨rfl, hn537⟩, ⟨rfl, hn539⟩⟩, at535⟩ := hsf6.get j (by omega)
       have bdhn537 : -9223372036854775808 ≤ x536 ∧ x536 ≤ 9223372036854775807 := bd_of hn537
       replace at535 : At G531 (q533.add (j * 2)) [.int .i64 x536, .string x538] := at535
       refine WL_op (WOp_idx htb q533 nf4 ((j : Nat) : Int) 2 (by kernel_rfl) (by omega) (by omega) ?_)
       refine WL_op (WOp_ld htb (q533.add (j * 2)) true 2 [.int .i64 x536, .string x538] (by kernel_rfl) at535 rfl (by decide) ?_)
       refine WL_execS htb 2 [14, 61, 60, 59, 12, 11, 47, 46, 45, 8, 7, 3, 1] [2] ⟨[(14, (.p 2 0)), (61, (iN j)), (60, (iN nf4)), (59, (sS (some q533) nf4 cf5)), (12, (bB hd)), (11, (.p 1 0)), (47, (iN i)), (46, (iN nf517)), (45, (sS (some q522) nf517 cf518)), (8, (sS (some q533) nf4 cf5)), (7, (bB true)), (3, (.p 0 0)), (1, (sS A_tk n_tk c_tk))], [(2, (.cells 31 [(iI x536), (tS x538)]))], 3, [], [(1, bk530, (.cells 31 [(iI x525), (tS x527)])), (0, bk8, (.cells 24 [(sS A_g n_g c_g)]))]⟩ (by kernel_rfl) ?_
       refine WL_nil ?_
       refine WQ_code ?_
       refine WC_region ?_
       refine WL_execS htb 2 [66, 14, 61, 60, 59, 11, 47, 46, 45, 8, 7, 3, 1] [2] ⟨[(66, (bB hd)), (14, (.p 2 0)), (61, (iN j)), (60, (iN nf4)), (59, (sS (some q533) nf4 cf5)), (11, (.p 1 0)), (47, (iN i)), (46, (iN nf517)), (45, (sS (some q522) nf517 cf518)), (8, (sS (some q533) nf4 cf5)), (7, (bB true)), (3, (.p 0 0)), (1, (sS A_tk n_tk c_tk))], [(2, (.cells 31 [(iI x536), (tS x538)]))], 3, [], [(1, bk530, (.cells 31 [(iI x525), (tS x527)])), (0, bk8, (.cells 24 [(sS A_g n_g c_g)]))]⟩ (by kernel_rfl) ?_
       refine WK_split 66 hd rfl (fun hh => ?_) (fun hh => ?_)
       ·
        skip
        refine WK_keep [66, 14, 61, 60, 59, 11, 47, 46, 45, 8, 7, 3, 1] [2] rfl rfl ?_
        refine WL_execS htb 5 [12, 61, 60, 59, 11, 47, 46, 45, 8, 7, 3, 1] [] ⟨[(12, (bB true)), (61, (iN j)), (60, (iN nf4)), (59, (sS (some q533) nf4 cf5)), (11, (.p 1 0)), (47, (iN i)), (46, (iN nf517)), (45, (sS (some q522) nf517 cf518)), (8, (sS (some q533) nf4 cf5)), (7, (bB true)), (3, (.p 0 0)), (1, (sS A_tk n_tk c_tk))], [], 3, [], [(1, bk530, (.cells 31 [(iI x525), (tS x527)])), (0, bk8, (.cells 24 [(sS A_g n_g c_g)]))]⟩ (by kernel_rfl) ?_
        refine WL_nil ?_
        refine WQ_blk ?_
        refine WQ_code ?_
        refine WC_region ?_
        refine WL_execS htb 2 [61, 12, 60, 59, 11, 47, 46, 45, 8, 7, 3, 1] [] ⟨[(61, (iI (IntKind.i64.wrap (((j : Nat) : Int) + 1)))), (12, (bB true)), (60, (iN nf4)), (59, (sS (some q533) nf4 cf5)), (11, (.p 1 0)), (47, (iN i)), (46, (iN nf517)), (45, (sS (some q522) nf517 cf518)), (8, (sS (some q533) nf4 cf5)), (7, (bB true)), (3, (.p 0 0)), (1, (sS A_tk n_tk c_tk))], [], 3, [], [(1, bk530, (.cells 31 [(iI x525), (tS x527)])), (0, bk8, (.cells 24 [(sS A_g n_g c_g)]))]⟩ (by kernel_rfl) ?_
        refine WL_nil ?_
        refine WK_env [(61, (iN (j + 1))), (12, (bB true)), (60, (iN nf4)), (59, (sS (some q533) nf4 cf5)), (11, (.p 1 0)), (47, (iN i)), (46, (iN nf517)), (45, (sS (some q522) nf517 cf518)), (8, (sS (some q533) nf4 cf5)), (7, (bB true)), (3, (.p 0 0)), (1, (sS A_tk n_tk c_tk))] (fun ρ => ⟨rfl, (congrArg (Value.int .i64) (by rw [wrap_id (by omega)]; first | rfl | omega)), ⟨rfl, rfl, ⟨rfl, rfl, ⟨rfl, rfl, ⟨rfl, rfl, ⟨rfl, rfl, ⟨rfl, rfl, ⟨rfl, rfl, ⟨rfl, rfl, ⟨rfl, rfl, ⟨rfl, rfl, ⟨rfl, rfl, trivial⟩⟩⟩⟩⟩⟩⟩⟩⟩⟩⟩⟩) ?_
        refine WK_keep [61, 60, 59, 12, 11, 47, 46, 45, 8, 7, 3, 1] [] rfl rfl ?_
        exact WQ_next ((j + 1), true) (by show nf4 - (j + 1) < nf4 - j; omega) ⟨hc532, ⟨by omega, had_yes hx534 hh hhd⟩⟩ (fun ρ a w h => h)
       ·
        skip
        refine WK_keep [66, 14, 61, 60, 59, 11, 47, 46, 45, 8, 7, 3, 1] [2] rfl rfl ?_
        refine WL_execS htb 2 [68, 67, 66, 61, 60, 59, 11, 47, 46, 45, 8, 7, 3, 1] [] ⟨[(68, (.agg [(iI x525), (tS x527)])), (67, (.agg [(iI x536), (tS x538)])), (66, (bB false)), (61, (iN j)), (60, (iN nf4)), (59, (sS (some q533) nf4 cf5)), (11, (.p 1 0)), (47, (iN i)), (46, (iN nf517)), (45, (sS (some q522) nf517 cf518)), (8, (sS (some q533) nf4 cf5)), (7, (bB true)), (3, (.p 0 0)), (1, (sS A_tk n_tk c_tk))], [], 3, [], [(1, bk530, (.cells 31 [(iI x525), (tS x527)])), (0, bk8, (.cells 24 [(sS A_g n_g c_g)]))]⟩ (by kernel_rfl) ?_
        refine WL_op (WOp_eqF 31 (.agg [(iI x536), (tS x538)]) (.agg [(iI x525), (tS x527)]) true (by kernel_rfl) isFlaw (x536, x538) (x525, x527) (fun ρ => rfl) (fun ρ => rfl) ?_)
        show WL _ _ _ _ _ _ ⟨[(69, (bB (decide ((x536, x538) = (x525, x527))))), (68, (.agg [(iI x525), (tS x527)])), (67, (.agg [(iI x536), (tS x538)])), (66, (bB false)), (61, (iN j)), (60, (iN nf4)), (59, (sS (some q533) nf4 cf5)), (11, (.p 1 0)), (47, (iN i)), (46, (iN nf517)), (45, (sS (some q522) nf517 cf518)), (8, (sS (some q533) nf4 cf5)), (7, (bB true)), (3, (.p 0 0)), (1, (sS A_tk n_tk c_tk))], [], 3, [], [(1, bk530, (.cells 31 [(iI x525), (tS x527)])), (0, bk8, (.cells 24 [(sS A_g n_g c_g)]))]⟩ _
        refine WL_execS htb 2 [12, 61, 60, 59, 11, 47, 46, 45, 8, 7, 3, 1] [] ⟨[(12, (bB (decide ((x536, x538) = (x525, x527))))), (61, (iN j)), (60, (iN nf4)), (59, (sS (some q533) nf4 cf5)), (11, (.p 1 0)), (47, (iN i)), (46, (iN nf517)), (45, (sS (some q522) nf517 cf518)), (8, (sS (some q533) nf4 cf5)), (7, (bB true)), (3, (.p 0 0)), (1, (sS A_tk n_tk c_tk))], [], 3, [], [(1, bk530, (.cells 31 [(iI x525), (tS x527)])), (0, bk8, (.cells 24 [(sS A_g n_g c_g)]))]⟩ (by kernel_rfl) ?_
        refine WL_nil ?_
        refine WQ_blk ?_
        refine WQ_code ?_
        refine WC_region ?_
        refine WL_execS htb 2 [61, 12, 60, 59, 11, 47, 46, 45, 8, 7, 3, 1] [] ⟨[(61, (iI (IntKind.i64.wrap (((j : Nat) : Int) + 1)))), (12, (bB (decide ((x536, x538) = (x525, x527))))), (60, (iN nf4)), (59, (sS (some q533) nf4 cf5)), (11, (.p 1 0)), (47, (iN i)), (46, (iN nf517)), (45, (sS (some q522) nf517 cf518)), (8, (sS (some q533) nf4 cf5)), (7, (bB true)), (3, (.p 0 0)), (1, (sS A_tk n_tk c_tk))], [], 3, [], [(1, bk530, (.cells 31 [(iI x525), (tS x527)])), (0, bk8, (.cells 24 [(sS A_g n_g c_g)]))]⟩ (by kernel_rfl) ?_
        refine WL_nil ?_
        refine WK_env [(61, (iN (j + 1))), (12, (bB (decide ((x536, x538) = (x525, x527))))), (60, (iN nf4)), (59, (sS (some q533) nf4 cf5)), (11, (.p 1 0)), (47, (iN i)), (46, (iN nf517)), (45, (sS (some q522) nf517 cf518)), (8, (sS (some q533) nf4 cf5)), (7, (bB true)), (3, (.p 0 0)), (1, (sS A_tk n_tk c_tk))] (fun ρ => ⟨rfl, (congrArg (Value.int .i64) (by rw [wrap_id (by omega)]; first | rfl | omega)), ⟨rfl, rfl, ⟨rfl, rfl, ⟨rfl, rfl, ⟨rfl, rfl, ⟨rfl, rfl, ⟨rfl, rfl, ⟨rfl, rfl, ⟨rfl, rfl, ⟨rfl, rfl, ⟨rfl, rfl, ⟨rfl, rfl, trivial⟩⟩⟩⟩⟩⟩⟩⟩⟩⟩⟩⟩) ?_
        refine WK_keep [61, 60, 59, 12, 11, 47, 46, 45, 8, 7, 3, 1] [] rfl rfl ?_
        exact WQ_next ((j + 1), (decide ((x536, x538) = (x525, x527)))) (by show nf4 - (j + 1) < nf4 - j; omega) ⟨hc532, ⟨by omega, had_no hx534 hh hhd⟩⟩ (fun ρ a w h => h)
      ·
       replace hcj := of_decide_eq_false hcj
       refine WC_exit ?_
       refine WQ_then_exit ?_
       refine WQ_then_exit ?_
       refine WQ_hit ?_
       refine WQ_code ?_
       refine WC_seq (WC_region ?_)
       refine WL_execS htb 2 [73, 47, 46, 45, 8, 7, 3, 1] [] ⟨[(73, (bB (!hd))), (47, (iN i)), (46, (iN nf517)), (45, (sS (some q522) nf517 cf518)), (8, (sS Af3 nf4 cf5)), (7, (bB true)), (3, (.p 0 0)), (1, (sS A_tk n_tk c_tk))], [], 2, [], [(1, bk530, (.cells 31 [(iI x525), (tS x527)])), (0, bk8, (.cells 24 [(sS A_g n_g c_g)]))]⟩ (by kernel_rfl) ?_
       refine WL_nil ?_
       refine WQ_code ?_
       refine WC_cond (b := (!hd)) rfl (fun hq => ?_) (fun hq => ?_)
       ·
        rw [Bool.not_eq_true'] at hq
        exact absurd (hhd.2 (by rw [List.take_of_length_le (by omega)]; exact flaw_more (List.mem_of_getElem? hx523) hkk)) (by simpa using hq)
       ·
        rw [Bool.not_eq_false'] at hq
        refine WC_skip ?_
        refine WQ_blk ?_
        refine WQ_code ?_
        refine WC_region ?_
        refine WL_execS htb 2 [47, 46, 45, 8, 7, 3, 1] [] ⟨[(47, (iI (IntKind.i64.wrap (((i : Nat) : Int) + 1)))), (46, (iN nf517)), (45, (sS (some q522) nf517 cf518)), (8, (sS Af3 nf4 cf5)), (7, (bB true)), (3, (.p 0 0)), (1, (sS A_tk n_tk c_tk))], [], 2, [], [(1, bk530, (.cells 31 [(iI x525), (tS x527)])), (0, bk8, (.cells 24 [(sS A_g n_g c_g)]))]⟩ (by kernel_rfl) ?_
        refine WL_nil ?_
        refine WK_env [(47, (iN (i + 1))), (46, (iN nf517)), (45, (sS (some q522) nf517 cf518)), (8, (sS Af3 nf4 cf5)), (7, (bB true)), (3, (.p 0 0)), (1, (sS A_tk n_tk c_tk))] (fun ρ => ⟨rfl, (congrArg (Value.int .i64) (by rw [wrap_id (by omega)]; first | rfl | omega)), ⟨rfl, rfl, ⟨rfl, rfl, ⟨rfl, rfl, ⟨rfl, rfl, ⟨rfl, rfl, ⟨rfl, rfl, trivial⟩⟩⟩⟩⟩⟩⟩) ?_
        refine WK_dropfz 1 ?_
        show WK _ _ ⟨_, _, _, _, [(0, bk8, (.cells 24 [(sS A_g n_g c_g)]))]⟩ _
        refine WK_keep [47, 46, 45, 8, 7, 3, 1] [] rfl rfl ?_
        exact WQ_next ((i + 1)) (by show nf517 - (i + 1) < nf517 - i; omega) ⟨hc521, by omega⟩ (fun ρ a w h => h)
    ·
     replace hk2 := (bne_eq_false_iff_eq.1) hk2
     refine WK_keep [54, 11, 47, 46, 45, 8, 7, 3, 1] [1] rfl rfl ?_
     have hkk : x525 = 2 ∨ x525 = 3 := .inl (by simpa using hk2)
     refine WL_execS htb 4 [58, 11, 47, 46, 45, 8, 7, 3, 1] [1] ⟨[(58, (bB false)), (11, (.p 1 0)), (47, (iN i)), (46, (iN nf517)), (45, (sS (some q522) nf517 cf518)), (8, (sS Af3 nf4 cf5)), (7, (bB true)), (3, (.p 0 0)), (1, (sS A_tk n_tk c_tk))], [(1, (.cells 31 [(iI x525), (tS x527)]))], 2, [], [(0, bk8, (.cells 24 [(sS A_g n_g c_g)]))]⟩ (by kernel_rfl) ?_
     refine WL_nil ?_
     refine WQ_code ?_
     refine WC_cond (b := false) rfl (fun h => by cases h) (fun _ => ?_)
     refine WC_skip ?_
     refine WQ_code ?_
     refine WC_seq (WC_region ?_)
     refine WL_execS htb 1 [12, 11, 47, 46, 45, 8, 7, 3, 1] [1] ⟨[(12, (bB false)), (11, (.p 1 0)), (47, (iN i)), (46, (iN nf517)), (45, (sS (some q522) nf517 cf518)), (8, (sS Af3 nf4 cf5)), (7, (bB true)), (3, (.p 0 0)), (1, (sS A_tk n_tk c_tk))], [(1, (.cells 31 [(iI x525), (tS x527)]))], 2, [], [(0, bk8, (.cells 24 [(sS A_g n_g c_g)]))]⟩ (by kernel_rfl) ?_
     refine WL_nil ?_
     refine WQ_code ?_
     refine WC_seq ?_
     refine WC_seq (WC_region ?_)
     refine WL_execS htb 3 [61, 60, 59, 12, 11, 47, 46, 45, 8, 7, 3, 1] [1] ⟨[(61, (iI 0)), (60, (iN nf4)), (59, (sS Af3 nf4 cf5)), (12, (bB false)), (11, (.p 1 0)), (47, (iN i)), (46, (iN nf517)), (45, (sS (some q522) nf517 cf518)), (8, (sS Af3 nf4 cf5)), (7, (bB true)), (3, (.p 0 0)), (1, (sS A_tk n_tk c_tk))], [(1, (.cells 31 [(iI x525), (tS x527)]))], 2, [], [(0, bk8, (.cells 24 [(sS A_g n_g c_g)]))]⟩ (by kernel_rfl) ?_
     refine WL_nil ?_
     refine WQ_code ?_
     refine WC_block ?_
     refine WK_freeze 1 rfl rfl rfl rfl ?_
     intro bk530 G529 hle hbk530
     replace hc521 := Le.trans hc521 hle
     replace h_g := h_g.mono hle
     replace h_tk := h_tk.mono hle
     replace hsf6 := hsf6.mono hle
     replace hsf519 := hsf519.mono hle
     replace hz := hz.mono hle
     have hz := FZ.cons (h := 1) hbk530 rfl hz
     refine WK_keep [61, 60, 59, 12, 11, 47, 46, 45, 8, 7, 3, 1] [] rfl rfl ?_
     refine WK_env [(61, (iN 0)), (60, (iN nf4)), (59, (sS Af3 nf4 cf5)), (12, (bB false)), (11, (.p 1 0)), (47, (iN i)), (46, (iN nf517)), (45, (sS (some q522) nf517 cf518)), (8, (sS Af3 nf4 cf5)), (7, (bB true)), (3, (.p 0 0)), (1, (sS A_tk n_tk c_tk))] (fun ρ => ⟨rfl, rfl, ⟨rfl, rfl, ⟨rfl, rfl, ⟨rfl, rfl, ⟨rfl, rfl, ⟨rfl, rfl, ⟨rfl, rfl, ⟨rfl, rfl, ⟨rfl, rfl, ⟨rfl, rfl, ⟨rfl, rfl, ⟨rfl, rfl, trivial⟩⟩⟩⟩⟩⟩⟩⟩⟩⟩⟩⟩) ?_
     refine WC_loop (ι := Nat × Bool) (fun (j, hd) G531 => Le G529 G531 ∧ (j ≤ nf4 ∧ (hd = true ↔ (x525, x527) ∈ (flawsL g tk).take j))) (fun (j, hd) => ⟨[(61, (iN j)), (60, (iN nf4)), (59, (sS Af3 nf4 cf5)), (12, (bB hd)), (11, (.p 1 0)), (47, (iN i)), (46, (iN nf517)), (45, (sS (some q522) nf517 cf518)), (8, (sS Af3 nf4 cf5)), (7, (bB true)), (3, (.p 0 0)), (1, (sS A_tk n_tk c_tk))], [], 2, [], [(1, bk530, (.cells 31 [(iI x525), (tS x527)])), (0, bk8, (.cells 24 [(sS A_g n_g c_g)]))]⟩) (fun (j, hd) => nf4 - j) (0, false) ⟨Le.refl _, ⟨Nat.zero_le _, by simp⟩⟩ rfl ?_
     rintro ⟨j, hd⟩ G531 ⟨hle, hF⟩
     show WC _ _ _ _ _ ⟨[(61, (iN j)), (60, (iN nf4)), (59, (sS Af3 nf4 cf5)), (12, (bB hd)), (11, (.p 1 0)), (47, (iN i)), (46, (iN nf517)), (45, (sS (some q522) nf517 cf518)), (8, (sS Af3 nf4 cf5)), (7, (bB true)), (3, (.p 0 0)), (1, (sS A_tk n_tk c_tk))], [], 2, [], [(1, bk530, (.cells 31 [(iI x525), (tS x527)])), (0, bk8, (.cells 24 [(sS A_g n_g c_g)]))]⟩ _
     replace hc521 := Le.trans hc521 hle
     replace h_g := h_g.mono hle
     replace h_tk := h_tk.mono hle
     replace hsf6 := hsf6.mono hle
     replace hsf519 := hsf519.mono hle
     replace hz := hz.mono hle
     have hc532 := hle
     obtain ⟨hj, hhd⟩ := hF
     refine WC_seq (WC_region ?_)
     refine WL_execS htb 1 [62, 61, 60, 59, 12, 11, 47, 46, 45, 8, 7, 3, 1] [] ⟨[(62, (bB (decide ((((j : Nat) : Int) : Int) < ((nf4 : Nat) : Int))))), (61, (iN j)), (60, (iN nf4)), (59, (sS Af3 nf4 cf5)), (12, (bB hd)), (11, (.p 1 0)), (47, (iN i)), (46, (iN nf517)), (45, (sS (some q522) nf517 cf518)), (8, (sS Af3 nf4 cf5)), (7, (bB true)), (3, (.p 0 0)), (1, (sS A_tk n_tk c_tk))], [], 2, [], [(1, bk530, (.cells 31 [(iI x525), (tS x527)])), (0, bk8, (.cells 24 [(sS A_g n_g c_g)]))]⟩ (by kernel_rfl) ?_
     refine WL_nil ?_
     refine WQ_code ?_
     refine WC_seq ?_
     refine WC_cond (b := (decide ((((j : Nat) : Int) : Int) < ((nf4 : Nat) : Int)))) rfl (fun hcj => ?_) (fun hcj => ?_)
     ·
      replace hcj := of_decide_eq_true hcj
      refine WC_skip ?_
      refine WQ_code ?_
      refine WC_seq ?_
      refine WC_block ?_
      refine WC_seq (WC_region ?_)
      obtain ⟨q533, rfl⟩ := hsf6.ptr (by omega)
      obtain ⟨⟨x536, x538⟩, _, hx534, ⟨_, _, rfl, ⟨rfl, hn537⟩, ⟨rfl, hn539⟩⟩, at535⟩ := hsf6.get j (by omega)
      have bdhn537 : -9223372036854775808 ≤ x536 ∧ x536 ≤ 9223372036854775807 := bd_of hn537
      replace at535 : At G531 (q533.add (j * 2)) [.int .i64 x536, .string x538] := at535
      refine WL_op (WOp_idx htb q533 nf4 ((j : Nat) : Int) 2 (by kernel_rfl) (by omega) (by omega) ?_)
      refine WL_op (WOp_ld htb (q533.add (j * 2)) true 2 [.int .i64 x536, .string x538] (by kernel_rfl) at535 rfl (by decide) ?_)
      refine WL_execS htb 2 [14, 61, 60, 59, 12, 11, 47, 46, 45, 8, 7, 3, 1] [2] ⟨[(14, (.p 2 0)), (61, (iN j)), (60, (iN nf4)), (59, (sS (some q533) nf4 cf5)), (12, (bB hd)), (11, (.p 1 0)), (47, (iN i)), (46, (iN nf517)), (45, (sS (some q522) nf517 cf518)), (8, (sS (some q533) nf4 cf5)), (7, (bB true)), (3, (.p 0 0)), (1, (sS A_tk n_tk c_tk))], [(2, (.cells 31 [(iI x536), (tS x538)]))], 3, [], [(1, bk530, (.cells 31 [(iI x525), (tS x527)])), (0, bk8, (.cells 24 [(sS A_g n_g c_g)]))]⟩ (by kernel_rfl) ?_
      refine WL_nil ?_
      refine WQ_code ?_
      refine WC_region ?_
      refine WL_execS htb 2 [66, 14, 61, 60, 59, 11, 47, 46, 45, 8, 7, 3, 1] [2] ⟨[(66, (bB hd)), (14, (.p 2 0)), (61, (iN j)), (60, (iN nf4)), (59, (sS (some q533) nf4 cf5)), (11, (.p 1 0)), (47, (iN i)), (46, (iN nf517)), (45, (sS (some q522) nf517 cf518)), (8, (sS (some q533) nf4 cf5)), (7, (bB true)), (3, (.p 0 0)), (1, (sS A_tk n_tk c_tk))], [(2, (.cells 31 [(iI x536), (tS x538)]))], 3, [], [(1, bk530, (.cells 31 [(iI x525), (tS x527)])), (0, bk8, (.cells 24 [(sS A_g n_g c_g)]))]⟩ (by kernel_rfl) ?_
      refine WK_split 66 hd rfl (fun hh => ?_) (fun hh => ?_)
      ·
       skip
       refine WK_keep [66, 14, 61, 60, 59, 11, 47, 46, 45, 8, 7, 3, 1] [2] rfl rfl ?_
       refine WL_execS htb 5 [12, 61, 60, 59, 11, 47, 46, 45, 8, 7, 3, 1] [] ⟨[(12, (bB true)), (61, (iN j)), (60, (iN nf4)), (59, (sS (some q533) nf4 cf5)), (11, (.p 1 0)), (47, (iN i)), (46, (iN nf517)), (45, (sS (some q522) nf517 cf518)), (8, (sS (some q533) nf4 cf5)), (7, (bB true)), (3, (.p 0 0)), (1, (sS A_tk n_tk c_tk))], [], 3, [], [(1, bk530, (.cells 31 [(iI x525), (tS x527)])), (0, bk8, (.cells 24 [(sS A_g n_g c_g)]))]⟩ (by kernel_rfl) ?_
       refine WL_nil ?_
       refine WQ_blk ?_
       refine WQ_code ?_
       refine WC_region ?_
       refine WL_execS htb 2 [61, 12, 60, 59, 11, 47, 46, 45, 8, 7, 3, 1] [] ⟨[(61, (iI (IntKind.i64.wrap (((j : Nat) : Int) + 1)))), (12, (bB true)), (60, (iN nf4)), (59, (sS (some q533) nf4 cf5)), (11, (.p 1 0)), (47, (iN i)), (46, (iN nf517)), (45, (sS (some q522) nf517 cf518)), (8, (sS (some q533) nf4 cf5)), (7, (bB true)), (3, (.p 0 0)), (1, (sS A_tk n_tk c_tk))], [], 3, [], [(1, bk530, (.cells 31 [(iI x525), (tS x527)])), (0, bk8, (.cells 24 [(sS A_g n_g c_g)]))]⟩ (by kernel_rfl) ?_
       refine WL_nil ?_
       refine WK_env [(61, (iN (j + 1))), (12, (bB true)), (60, (iN nf4)), (59, (sS (some q533) nf4 cf5)), (11, (.p 1 0)), (47, (iN i)), (46, (iN nf517)), (45, (sS (some q522) nf517 cf518)), (8, (sS (some q533) nf4 cf5)), (7, (bB true)), (3, (.p 0 0)), (1, (sS A_tk n_tk c_tk))] (fun ρ => ⟨rfl, (congrArg (Value.int .i64) (by rw [wrap_id (by omega)]; first | rfl | omega)), ⟨rfl, rfl, ⟨rfl, rfl, ⟨rfl, rfl, ⟨rfl, rfl, ⟨rfl, rfl, ⟨rfl, rfl, ⟨rfl, rfl, ⟨rfl, rfl, ⟨rfl, rfl, ⟨rfl, rfl, ⟨rfl, rfl, trivial⟩⟩⟩⟩⟩⟩⟩⟩⟩⟩⟩⟩) ?_
       refine WK_keep [61, 60, 59, 12, 11, 47, 46, 45, 8, 7, 3, 1] [] rfl rfl ?_
       exact WQ_next ((j + 1), true) (by show nf4 - (j + 1) < nf4 - j; omega) ⟨hc532, ⟨by omega, had_yes hx534 hh hhd⟩⟩ (fun ρ a w h => h)
      ·
       skip
       refine WK_keep [66, 14, 61, 60, 59, 11, 47, 46, 45, 8, 7, 3, 1] [2] rfl rfl ?_
       refine WL_execS htb 2 [68, 67, 66, 61, 60, 59, 11, 47, 46, 45, 8, 7, 3, 1] [] ⟨[(68, (.agg [(iI x525), (tS x527)])), (67, (.agg [(iI x536), (tS x538)])), (66, (bB false)), (61, (iN j)), (60, (iN nf4)), (59, (sS (some q533) nf4 cf5)), (11, (.p 1 0)), (47, (iN i)), (46, (iN nf517)), (45, (sS (some q522) nf517 cf518)), (8, (sS (some q533) nf4 cf5)), (7, (bB true)), (3, (.p 0 0)), (1, (sS A_tk n_tk c_tk))], [], 3, [], [(1, bk530, (.cells 31 [(iI x525), (tS x527)])), (0, bk8, (.cells 24 [(sS A_g n_g c_g)]))]⟩ (by kernel_rfl) ?_
       refine WL_op (WOp_eqF 31 (.agg [(iI x536), (tS x538)]) (.agg [(iI x525), (tS x527)]) true (by kernel_rfl) isFlaw (x536, x538) (x525, x527) (fun ρ => rfl) (fun ρ => rfl) ?_)
       show WL _ _ _ _ _ _ ⟨[(69, (bB (decide ((x536, x538) = (x525, x527))))), (68, (.agg [(iI x525), (tS x527)])), (67, (.agg [(iI x536), (tS x538)])), (66, (bB false)), (61, (iN j)), (60, (iN nf4)), (59, (sS (some q533) nf4 cf5)), (11, (.p 1 0)), (47, (iN i)), (46, (iN nf517)), (45, (sS (some q522) nf517 cf518)), (8, (sS (some q533) nf4 cf5)), (7, (bB true)), (3, (.p 0 0)), (1, (sS A_tk n_tk c_tk))], [], 3, [], [(1, bk530, (.cells 31 [(iI x525), (tS x527)])), (0, bk8, (.cells 24 [(sS A_g n_g c_g)]))]⟩ _
       refine WL_execS htb 2 [12, 61, 60, 59, 11, 47, 46, 45, 8, 7, 3, 1] [] ⟨[(12, (bB (decide ((x536, x538) = (x525, x527))))), (61, (iN j)), (60, (iN nf4)), (59, (sS (some q533) nf4 cf5)), (11, (.p 1 0)), (47, (iN i)), (46, (iN nf517)), (45, (sS (some q522) nf517 cf518)), (8, (sS (some q533) nf4 cf5)), (7, (bB true)), (3, (.p 0 0)), (1, (sS A_tk n_tk c_tk))], [], 3, [], [(1, bk530, (.cells 31 [(iI x525), (tS x527)])), (0, bk8, (.cells 24 [(sS A_g n_g c_g)]))]⟩ (by kernel_rfl) ?_
       refine WL_nil ?_
       refine WQ_blk ?_
       refine WQ_code ?_
       refine WC_region ?_
       refine WL_execS htb 2 [61, 12, 60, 59, 11, 47, 46, 45, 8, 7, 3, 1] [] ⟨[(61, (iI (IntKind.i64.wrap (((j : Nat) : Int) + 1)))), (12, (bB (decide ((x536, x538) = (x525, x527))))), (60, (iN nf4)), (59, (sS (some q533) nf4 cf5)), (11, (.p 1 0)), (47, (iN i)), (46, (iN nf517)), (45, (sS (some q522) nf517 cf518)), (8, (sS (some q533) nf4 cf5)), (7, (bB true)), (3, (.p 0 0)), (1, (sS A_tk n_tk c_tk))], [], 3, [], [(1, bk530, (.cells 31 [(iI x525), (tS x527)])), (0, bk8, (.cells 24 [(sS A_g n_g c_g)]))]⟩ (by kernel_rfl) ?_
       refine WL_nil ?_
       refine WK_env [(61, (iN (j + 1))), (12, (bB (decide ((x536, x538) = (x525, x527))))), (60, (iN nf4)), (59, (sS (some q533) nf4 cf5)), (11, (.p 1 0)), (47, (iN i)), (46, (iN nf517)), (45, (sS (some q522) nf517 cf518)), (8, (sS (some q533) nf4 cf5)), (7, (bB true)), (3, (.p 0 0)), (1, (sS A_tk n_tk c_tk))] (fun ρ => ⟨rfl, (congrArg (Value.int .i64) (by rw [wrap_id (by omega)]; first | rfl | omega)), ⟨rfl, rfl, ⟨rfl, rfl, ⟨rfl, rfl, ⟨rfl, rfl, ⟨rfl, rfl, ⟨rfl, rfl, ⟨rfl, rfl, ⟨rfl, rfl, ⟨rfl, rfl, ⟨rfl, rfl, ⟨rfl, rfl, trivial⟩⟩⟩⟩⟩⟩⟩⟩⟩⟩⟩⟩) ?_
       refine WK_keep [61, 60, 59, 12, 11, 47, 46, 45, 8, 7, 3, 1] [] rfl rfl ?_
       exact WQ_next ((j + 1), (decide ((x536, x538) = (x525, x527)))) (by show nf4 - (j + 1) < nf4 - j; omega) ⟨hc532, ⟨by omega, had_no hx534 hh hhd⟩⟩ (fun ρ a w h => h)
     ·
      replace hcj := of_decide_eq_false hcj
      refine WC_exit ?_
      refine WQ_then_exit ?_
      refine WQ_then_exit ?_
      refine WQ_hit ?_
      refine WQ_code ?_
      refine WC_seq (WC_region ?_)
      refine WL_execS htb 2 [73, 47, 46, 45, 8, 7, 3, 1] [] ⟨[(73, (bB (!hd))), (47, (iN i)), (46, (iN nf517)), (45, (sS (some q522) nf517 cf518)), (8, (sS Af3 nf4 cf5)), (7, (bB true)), (3, (.p 0 0)), (1, (sS A_tk n_tk c_tk))], [], 2, [], [(1, bk530, (.cells 31 [(iI x525), (tS x527)])), (0, bk8, (.cells 24 [(sS A_g n_g c_g)]))]⟩ (by kernel_rfl) ?_
      refine WL_nil ?_
      refine WQ_code ?_
      refine WC_cond (b := (!hd)) rfl (fun hq => ?_) (fun hq => ?_)
      ·
       rw [Bool.not_eq_true'] at hq
       exact absurd (hhd.2 (by rw [List.take_of_length_le (by omega)]; exact flaw_more (List.mem_of_getElem? hx523) hkk)) (by simpa using hq)
      ·
       rw [Bool.not_eq_false'] at hq
       refine WC_skip ?_
       refine WQ_blk ?_
       refine WQ_code ?_
       refine WC_region ?_
       refine WL_execS htb 2 [47, 46, 45, 8, 7, 3, 1] [] ⟨[(47, (iI (IntKind.i64.wrap (((i : Nat) : Int) + 1)))), (46, (iN nf517)), (45, (sS (some q522) nf517 cf518)), (8, (sS Af3 nf4 cf5)), (7, (bB true)), (3, (.p 0 0)), (1, (sS A_tk n_tk c_tk))], [], 2, [], [(1, bk530, (.cells 31 [(iI x525), (tS x527)])), (0, bk8, (.cells 24 [(sS A_g n_g c_g)]))]⟩ (by kernel_rfl) ?_
       refine WL_nil ?_
       refine WK_env [(47, (iN (i + 1))), (46, (iN nf517)), (45, (sS (some q522) nf517 cf518)), (8, (sS Af3 nf4 cf5)), (7, (bB true)), (3, (.p 0 0)), (1, (sS A_tk n_tk c_tk))] (fun ρ => ⟨rfl, (congrArg (Value.int .i64) (by rw [wrap_id (by omega)]; first | rfl | omega)), ⟨rfl, rfl, ⟨rfl, rfl, ⟨rfl, rfl, ⟨rfl, rfl, ⟨rfl, rfl, ⟨rfl, rfl, trivial⟩⟩⟩⟩⟩⟩⟩) ?_
       refine WK_dropfz 1 ?_
       show WK _ _ ⟨_, _, _, _, [(0, bk8, (.cells 24 [(sS A_g n_g c_g)]))]⟩ _
       refine WK_keep [47, 46, 45, 8, 7, 3, 1] [] rfl rfl ?_
       exact WQ_next ((i + 1)) (by show nf517 - (i + 1) < nf517 - i; omega) ⟨hc521, by omega⟩ (fun ρ a w h => h)
   ·
    replace hc := of_decide_eq_false hc
    have hnml : (g.map Prod.fst).length = g.length := List.length_map _
    refine WC_exit ?_
    refine WQ_then_exit ?_
    refine WQ_then_exit ?_
    refine WQ_hit ?_
    refine WQ_code ?_
    refine WC_seq (WC_region ?_)
    refine WL_execS htb 2 [76, 8, 7, 3, 1] [] ⟨[(76, (sS A_g n_g c_g)), (8, (sS Af3 nf4 cf5)), (7, (bB true)), (3, (.p 0 0)), (1, (sS A_tk n_tk c_tk))], [], 1, [], [(0, bk8, (.cells 24 [(sS A_g n_g c_g)]))]⟩ (by kernel_rfl) ?_
    refine WK_off 34 rfl ?_
    have ho522 : OwnL (tPair tStr (tSlice (tSlice tStr))) G520 [] #[] 0 := OwnL.nil _ _
    refine WL_op (WOp_appendN htb true 1 0 0 A_g n_g 34 2 40 (by kernel_rfl) (by kernel_rfl) rfl rfl (tPair tStr (tSlice (tSlice tStr))) (xs := []) (ys := g) ho522 rfl (fun _ => rfl) h_g.row h_g.len rfl (by decide) (by first | omega | (simp only [List.length_append, List.length_cons, List.length_nil]; omega)) (by unfold big; first | omega | (simp only [List.length_append, List.length_cons, List.length_nil]; omega)) (fun z523 arr524 cap525 hz526 ho527 => ?_))
    show WL _ _ _ _ _ _ ⟨[(77, (.ls z523 2 (([] ++ g).length) cap525)), (76, (sS A_g n_g c_g)), (8, (sS Af3 nf4 cf5)), (7, (bB true)), (3, (.p 0 0)), (1, (sS A_tk n_tk c_tk))], [(2, (.lst z523 34 arr524))], 3, [], [(0, bk8, (.cells 24 [(sS A_g n_g c_g)]))]⟩ _
    refine WL_execS htb 1 [78, 77, 8, 7, 3, 1] [3, 2] ⟨[(78, (.s 3 1 1)), (77, (.ls z523 2 (([] ++ g).length) cap525)), (8, (sS Af3 nf4 cf5)), (7, (bB true)), (3, (.p 0 0)), (1, (sS A_tk n_tk c_tk))], [(3, (.cells 25 [(sS none 0 0)])), (2, (.lst z523 34 arr524))], 4, [], [(0, bk8, (.cells 24 [(sS A_g n_g c_g)]))]⟩ (by kernel_rfl) ?_
    refine WK_freezeV 3 rfl rfl rfl rfl ?_
    intro bk529 G528 hle hbk529
    replace hc521 := Le.trans hc521 hle
    replace h_g := h_g.mono hle
    replace h_tk := h_tk.mono hle
    replace hsf6 := hsf6.mono hle
    replace hz := hz.mono hle
    replace ho527 := ho527.mono hle
    show WK _ _ ⟨[(78, (sS (some ⟨bk529, 0, none⟩) 1 1)), (77, (.ls z523 2 (([] ++ g).length) cap525)), (8, (sS Af3 nf4 cf5)), (7, (bB true)), (3, (.p 0 0)), (1, (sS A_tk n_tk c_tk))], [(2, (.lst z523 34 arr524))], 4, [], [(0, bk8, (.cells 24 [(sS A_g n_g c_g)]))]⟩ _
    have hs530 : Sl (tSlice tStr) G528 (some ⟨bk529, 0, none⟩) 1 1 [[]] := Sl.lit (cs := [.slice none 0 0]) (RepsL.cons' ((Sl.none0 _ _)).reps .nil) hbk529 rfl (by unfold big; omega)
    have lhs530 := hs530.len'
    refine WL_op (WOp_call 17 [(tS (⟨#[113, 117, 105, 116, 101, 95, 97, 110, 111, 116, 104, 101, 114, 95, 114, 117, 108, 101]⟩ : ByteArray)), (sS (some ⟨bk529, 0, none⟩) 1 1)] (by kernel_rfl) (goes_of Try.func17 rfl rfl) (fun ρ w hW => rule_ok hW.has (n := (⟨#[113, 117, 105, 116, 101, 95, 97, 110, 111, 116, 104, 101, 114, 95, 114, 117, 108, 101]⟩ : ByteArray)) (al := [[]]) (by decide) hs530) ?_)
    intro G705 v hle hΦ
    replace hc521 := Le.trans hc521 hle
    replace h_g := h_g.mono hle
    replace h_tk := h_tk.mono hle
    replace hsf6 := hsf6.mono hle
    replace hs530 := hs530.mono hle
    replace hz := hz.mono hle
    replace ho527 := ho527.mono hle
    obtain ⟨r531, r532, A_r532, n_r532, c_r532, rfl, h_r531, h_r532, hR533⟩ := hΦ
    have lh_r532 := h_r532.len'
    obtain ⟨rfl, rfl⟩ := hR533
    refine WL_execS htb 1 [80, 77, 8, 7, 3, 1] [4, 2] ⟨[(80, (.s 4 1 1)), (77, (.ls z523 2 (([] ++ g).length) cap525)), (8, (sS Af3 nf4 cf5)), (7, (bB true)), (3, (.p 0 0)), (1, (sS A_tk n_tk c_tk))], [(4, (.cells 34 [(tS (⟨#[113, 117, 105, 116, 101, 95, 97, 110, 111, 116, 104, 101, 114, 95, 114, 117, 108, 101]⟩ : ByteArray)), (sS A_r532 n_r532 c_r532)])), (2, (.lst z523 34 arr524))], 5, [], [(0, bk8, (.cells 24 [(sS A_g n_g c_g)]))]⟩ (by kernel_rfl) ?_
    refine WK_freezeV 4 rfl rfl rfl rfl ?_
    intro bk535 G534 hle hbk535
    replace hc521 := Le.trans hc521 hle
    replace h_g := h_g.mono hle
    replace h_tk := h_tk.mono hle
    replace hsf6 := hsf6.mono hle
    replace h_r532 := h_r532.mono hle
    replace hz := hz.mono hle
    replace ho527 := ho527.mono hle
    show WK _ _ ⟨[(80, (sS (some ⟨bk535, 0, none⟩) 1 1)), (77, (.ls z523 2 (([] ++ g).length) cap525)), (8, (sS Af3 nf4 cf5)), (7, (bB true)), (3, (.p 0 0)), (1, (sS A_tk n_tk c_tk))], [(2, (.lst z523 34 arr524))], 5, [], [(0, bk8, (.cells 24 [(sS A_g n_g c_g)]))]⟩ _
    have hs536 : Sl (tPair tStr (tSlice (tSlice tStr))) G534 (some ⟨bk535, 0, none⟩) 1 1 [((⟨#[113, 117, 105, 116, 101, 95, 97, 110, 111, 116, 104, 101, 114, 95, 114, 117, 108, 101]⟩ : ByteArray), ([([] : List ByteArray)]))] := Sl.lit (cs := [.string (⟨#[113, 117, 105, 116, 101, 95, 97, 110, 111, 116, 104, 101, 114, 95, 114, 117, 108, 101]⟩ : ByteArray), .slice A_r532 n_r532 c_r532]) (RepsL.cons' (rep_pair (rep_str _ (x := (⟨#[113, 117, 105, 116, 101, 95, 97, 110, 111, 116, 104, 101, 114, 95, 114, 117, 108, 101]⟩ : ByteArray)) (by decide)) h_r532.reps) .nil) hbk535 rfl (by unfold big; omega)
    have lhs536 := hs536.len'
    refine WL_op (WOp_append htb z523 2 (([] ++ g).length) cap525 (some ⟨bk535, 0, none⟩) 1 34 2 40 (by kernel_rfl) (by kernel_rfl) rfl rfl (tPair tStr (tSlice (tSlice tStr))) (xs := ([] ++ g)) (ys := [((⟨#[113, 117, 105, 116, 101, 95, 97, 110, 111, 116, 104, 101, 114, 95, 114, 117, 108, 101]⟩ : ByteArray), ([([] : List ByteArray)]))]) ho527 rfl hz526 hs536.row hs536.len rfl (by decide) (by first | omega | (simp only [List.length_append, List.length_cons, List.length_nil]; omega)) (by unfold big; first | omega | (simp only [List.length_append, List.length_cons, List.length_nil]; omega)) (fun z537 arr538 cap539 hz540 ho541 => ?_))
    show WL _ _ _ _ _ _ ⟨[(81, (.ls z537 5 ((([] ++ g) ++ ([((⟨#[113, 117, 105, 116, 101, 95, 97, 110, 111, 116, 104, 101, 114, 95, 114, 117, 108, 101]⟩ : ByteArray), ([([] : List ByteArray)]))])).length) cap539)), (80, (sS (some ⟨bk535, 0, none⟩) 1 1)), (77, (.ls z523 2 (([] ++ g).length) cap525)), (8, (sS Af3 nf4 cf5)), (7, (bB true)), (3, (.p 0 0)), (1, (sS A_tk n_tk c_tk))], [(5, (.lst z537 34 arr538))], 6, [], [(0, bk8, (.cells 24 [(sS A_g n_g c_g)]))]⟩ _
    refine WL_execS htb 3 [15, 8, 7, 3, 1] [6, 5] ⟨[(15, (.p 6 0)), (8, (sS Af3 nf4 cf5)), (7, (bB true)), (3, (.p 0 0)), (1, (sS A_tk n_tk c_tk))], [(6, (.cells 24 [(.ls z537 5 ((([] ++ g) ++ ([((⟨#[113, 117, 105, 116, 101, 95, 97, 110, 111, 116, 104, 101, 114, 95, 114, 117, 108, 101]⟩ : ByteArray), ([([] : List ByteArray)]))])).length) cap539)])), (5, (.lst z537 34 arr538))], 7, [], [(0, bk8, (.cells 24 [(sS A_g n_g c_g)]))]⟩ (by kernel_rfl) ?_
    refine WL_nil ?_
    refine WQ_code ?_
    refine WC_seq ?_
    refine WC_seq (WC_region ?_)
    refine WL_execS htb 1 [83, 15, 8, 7, 3, 1] [6, 5] ⟨[(83, (.agg [(sS A_g n_g c_g)])), (15, (.p 6 0)), (8, (sS Af3 nf4 cf5)), (7, (bB true)), (3, (.p 0 0)), (1, (sS A_tk n_tk c_tk))], [(6, (.cells 24 [(.ls z537 5 ((([] ++ g) ++ ([((⟨#[113, 117, 105, 116, 101, 95, 97, 110, 111, 116, 104, 101, 114, 95, 114, 117, 108, 101]⟩ : ByteArray), ([([] : List ByteArray)]))])).length) cap539)])), (5, (.lst z537 34 arr538))], 7, [], [(0, bk8, (.cells 24 [(sS A_g n_g c_g)]))]⟩ (by kernel_rfl) ?_
    refine WL_op (WOp_callO 18 [(.agg [(sS A_g n_g c_g)])] (by kernel_rfl) (goes_of Try.func18 rfl rfl) (by kernel_rfl) (fun ρ w hW => namesO_ok hW.has h_g (by omega)) (fun G542 z543 arr544 cap545 ys546 hle hz547 ho548 hy => ?_))
    replace hc521 := Le.trans hc521 hle
    replace h_g := h_g.mono hle
    replace h_tk := h_tk.mono hle
    replace hsf6 := hsf6.mono hle
    replace hz := hz.mono hle
    replace ho541 := ho541.mono hle
    subst hy
    refine WL_execS htb 1 [85, 84, 15, 8, 7, 3, 1] [7, 6, 5] ⟨[(85, (sS A_tk n_tk c_tk)), (84, (.ls z543 7 ((g.map Prod.fst).length) cap545)), (15, (.p 6 0)), (8, (sS Af3 nf4 cf5)), (7, (bB true)), (3, (.p 0 0)), (1, (sS A_tk n_tk c_tk))], [(7, (.lst z543 9 arr544)), (6, (.cells 24 [(.ls z537 5 ((([] ++ g) ++ ([((⟨#[113, 117, 105, 116, 101, 95, 97, 110, 111, 116, 104, 101, 114, 95, 114, 117, 108, 101]⟩ : ByteArray), ([([] : List ByteArray)]))])).length) cap539)])), (5, (.lst z537 34 arr538))], 8, [], [(0, bk8, (.cells 24 [(sS A_g n_g c_g)]))]⟩ (by kernel_rfl) ?_
    refine WL_op (WOp_append htb z543 7 ((g.map Prod.fst).length) cap545 A_tk n_tk 9 1 16 (by kernel_rfl) (by kernel_rfl) rfl rfl tStr (xs := (g.map Prod.fst)) (ys := tk) ho548 rfl hz547 h_tk.row h_tk.len rfl (by decide) (by first | omega | (simp only [List.length_append, List.length_cons, List.length_nil]; omega)) (by unfold big; first | omega | (simp only [List.length_append, List.length_cons, List.length_nil]; omega)) (fun z549 arr550 cap551 hz552 ho553 => ?_))
    show WL _ _ _ _ _ _ ⟨[(86, (.ls z549 8 (((g.map Prod.fst) ++ tk).length) cap551)), (85, (sS A_tk n_tk c_tk)), (84, (.ls z543 7 ((g.map Prod.fst).length) cap545)), (15, (.p 6 0)), (8, (sS Af3 nf4 cf5)), (7, (bB true)), (3, (.p 0 0)), (1, (sS A_tk n_tk c_tk))], [(8, (.lst z549 9 arr550)), (6, (.cells 24 [(.ls z537 5 ((([] ++ g) ++ ([((⟨#[113, 117, 105, 116, 101, 95, 97, 110, 111, 116, 104, 101, 114, 95, 114, 117, 108, 101]⟩ : ByteArray), ([([] : List ByteArray)]))])).length) cap539)])), (5, (.lst z537 34 arr538))], 9, [], [(0, bk8, (.cells 24 [(sS A_g n_g c_g)]))]⟩ _
    refine WK_freezeL 8 rfl rfl ?_
    intro bk555 G554 hle hbk555
    replace hc521 := Le.trans hc521 hle
    replace h_g := h_g.mono hle
    replace h_tk := h_tk.mono hle
    replace hsf6 := hsf6.mono hle
    replace hz := hz.mono hle
    replace ho541 := ho541.mono hle
    obtain ⟨A557, n558, c559, e560, hs556⟩ := OwnL.sl (n := ((g.map Prod.fst) ++ tk).length) ho553 hle hz552 hbk555 rfl
    refine WK_env [(86, (sS A557 n558 c559)), (85, (sS A_tk n_tk c_tk)), (84, (.ls z543 7 ((g.map Prod.fst).length) cap545)), (15, (.p 6 0)), (8, (sS Af3 nf4 cf5)), (7, (bB true)), (3, (.p 0 0)), (1, (sS A_tk n_tk c_tk))] (fun ρ => ⟨rfl, (by exact e560), ⟨rfl, rfl, ⟨rfl, rfl, ⟨rfl, rfl, ⟨rfl, rfl, ⟨rfl, rfl, ⟨rfl, rfl, ⟨rfl, rfl, trivial⟩⟩⟩⟩⟩⟩⟩⟩) ?_
    have lhs556 := hs556.len'
    refine WL_execS htb 2 [88, 87, 86, 15, 8, 7, 3, 1] [6, 5] ⟨[(88, (iI 0)), (87, (iN n558)), (86, (sS A557 n558 c559)), (15, (.p 6 0)), (8, (sS Af3 nf4 cf5)), (7, (bB true)), (3, (.p 0 0)), (1, (sS A_tk n_tk c_tk))], [(6, (.cells 24 [(.ls z537 5 ((([] ++ g) ++ ([((⟨#[113, 117, 105, 116, 101, 95, 97, 110, 111, 116, 104, 101, 114, 95, 114, 117, 108, 101]⟩ : ByteArray), ([([] : List ByteArray)]))])).length) cap539)])), (5, (.lst z537 34 arr538))], 9, [], [(0, bk8, (.cells 24 [(sS A_g n_g c_g)]))]⟩ (by kernel_rfl) ?_
    refine WL_nil ?_
    refine WQ_code ?_
    refine WC_block ?_
    refine WK_keep [88, 87, 86, 15, 8, 7, 3, 1] [6, 5] rfl rfl ?_
    refine WK_env [(88, (iN 0)), (87, (iN n558)), (86, (sS A557 n558 c559)), (15, (.p 6 0)), (8, (sS Af3 nf4 cf5)), (7, (bB true)), (3, (.p 0 0)), (1, (sS A_tk n_tk c_tk))] (fun ρ => ⟨rfl, rfl, ⟨rfl, rfl, ⟨rfl, rfl, ⟨rfl, rfl, ⟨rfl, rfl, ⟨rfl, rfl, ⟨rfl, rfl, ⟨rfl, rfl, trivial⟩⟩⟩⟩⟩⟩⟩⟩) ?_
    refine WC_loop (ι := Nat) (fun i G561 => Le G554 G561 ∧ (i ≤ n558 ∧ ∀ s ∈ ((g.map Prod.fst) ++ tk).take i, s ≠ (⟨#[113, 117, 105, 116, 101, 95, 97, 110, 111, 116, 104, 101, 114, 95, 114, 117, 108, 101]⟩ : ByteArray))) (fun i => ⟨[(88, (iN i)), (87, (iN n558)), (86, (sS A557 n558 c559)), (15, (.p 6 0)), (8, (sS Af3 nf4 cf5)), (7, (bB true)), (3, (.p 0 0)), (1, (sS A_tk n_tk c_tk))], [(6, (.cells 24 [(.ls z537 5 ((([] ++ g) ++ ([((⟨#[113, 117, 105, 116, 101, 95, 97, 110, 111, 116, 104, 101, 114, 95, 114, 117, 108, 101]⟩ : ByteArray), ([([] : List ByteArray)]))])).length) cap539)])), (5, (.lst z537 34 arr538))], 9, [], [(0, bk8, (.cells 24 [(sS A_g n_g c_g)]))]⟩) (fun i => n558 - i) (0) ⟨Le.refl _, ⟨Nat.zero_le _, by simp⟩⟩ rfl ?_
    rintro i G561 ⟨hle, hF⟩
    show WC _ _ _ _ _ ⟨[(88, (iN i)), (87, (iN n558)), (86, (sS A557 n558 c559)), (15, (.p 6 0)), (8, (sS Af3 nf4 cf5)), (7, (bB true)), (3, (.p 0 0)), (1, (sS A_tk n_tk c_tk))], [(6, (.cells 24 [(.ls z537 5 ((([] ++ g) ++ ([((⟨#[113, 117, 105, 116, 101, 95, 97, 110, 111, 116, 104, 101, 114, 95, 114, 117, 108, 101]⟩ : ByteArray), ([([] : List ByteArray)]))])).length) cap539)])), (5, (.lst z537 34 arr538))], 9, [], [(0, bk8, (.cells 24 [(sS A_g n_g c_g)]))]⟩ _
    replace hc521 := Le.trans hc521 hle
    replace h_g := h_g.mono hle
    replace h_tk := h_tk.mono hle
    replace hsf6 := hsf6.mono hle
    replace hs556 := hs556.mono hle
    replace hz := hz.mono hle
    replace ho541 := ho541.mono hle
    have hc562 := hle
    obtain ⟨hi, hq⟩ := hF
    refine WC_seq (WC_region ?_)
    refine WL_execS htb 1 [89, 88, 87, 86, 15, 8, 7, 3, 1] [6, 5] ⟨[(89, (bB (decide ((((i : Nat) : Int) : Int) < ((n558 : Nat) : Int))))), (88, (iN i)), (87, (iN n558)), (86, (sS A557 n558 c559)), (15, (.p 6 0)), (8, (sS Af3 nf4 cf5)), (7, (bB true)), (3, (.p 0 0)), (1, (sS A_tk n_tk c_tk))], [(6, (.cells 24 [(.ls z537 5 ((([] ++ g) ++ ([((⟨#[113, 117, 105, 116, 101, 95, 97, 110, 111, 116, 104, 101, 114, 95, 114, 117, 108, 101]⟩ : ByteArray), ([([] : List ByteArray)]))])).length) cap539)])), (5, (.lst z537 34 arr538))], 9, [], [(0, bk8, (.cells 24 [(sS A_g n_g c_g)]))]⟩ (by kernel_rfl) ?_
    refine WL_nil ?_
    refine WQ_code ?_
    refine WC_seq ?_
    refine WC_cond (b := (decide ((((i : Nat) : Int) : Int) < ((n558 : Nat) : Int)))) rfl (fun hc => ?_) (fun hc => ?_)
    ·
     replace hc := of_decide_eq_true hc
     refine WC_skip ?_
     refine WQ_code ?_
     refine WC_seq ?_
     refine WC_block ?_
     refine WC_seq (WC_region ?_)
     obtain ⟨q563, rfl⟩ := hs556.ptr (by omega)
     obtain ⟨x566, _, hx564, ⟨rfl, hn567⟩, at565⟩ := hs556.get i (by omega)
     replace at565 : At G561 (q563.add (i * 1)) [.string x566] := at565
     refine WL_op (WOp_idx htb q563 n558 ((i : Nat) : Int) 1 (by kernel_rfl) (by omega) (by omega) ?_)
     refine WL_op (WOp_ld htb (q563.add (i * 1)) false 1 [.string x566] (by kernel_rfl) at565 rfl (by decide) ?_)
     refine WL_execS htb 1 [17, 88, 87, 86, 15, 8, 7, 3, 1] [6, 5] ⟨[(17, (tS x566)), (88, (iN i)), (87, (iN n558)), (86, (sS (some q563) n558 c559)), (15, (.p 6 0)), (8, (sS Af3 nf4 cf5)), (7, (bB true)), (3, (.p 0 0)), (1, (sS A_tk n_tk c_tk))], [(6, (.cells 24 [(.ls z537 5 ((([] ++ g) ++ ([((⟨#[113, 117, 105, 116, 101, 95, 97, 110, 111, 116, 104, 101, 114, 95, 114, 117, 108, 101]⟩ : ByteArray), ([([] : List ByteArray)]))])).length) cap539)])), (5, (.lst z537 34 arr538))], 9, [], [(0, bk8, (.cells 24 [(sS A_g n_g c_g)]))]⟩ (by kernel_rfl) ?_
     refine WL_nil ?_
     refine WQ_code ?_
     refine WC_seq (WC_region ?_)
     refine WL_execS htb 2 [93, 88, 87, 86, 15, 8, 7, 3, 1] [6, 5] ⟨[(93, (bB ((x566 : ByteArray).toList == ((⟨#[113, 117, 105, 116, 101, 95, 97, 110, 111, 116, 104, 101, 114, 95, 114, 117, 108, 101]⟩ : ByteArray) : ByteArray).toList))), (88, (iN i)), (87, (iN n558)), (86, (sS (some q563) n558 c559)), (15, (.p 6 0)), (8, (sS Af3 nf4 cf5)), (7, (bB true)), (3, (.p 0 0)), (1, (sS A_tk n_tk c_tk))], [(6, (.cells 24 [(.ls z537 5 ((([] ++ g) ++ ([((⟨#[113, 117, 105, 116, 101, 95, 97, 110, 111, 116, 104, 101, 114, 95, 114, 117, 108, 101]⟩ : ByteArray), ([([] : List ByteArray)]))])).length) cap539)])), (5, (.lst z537 34 arr538))], 9, [], [(0, bk8, (.cells 24 [(sS A_g n_g c_g)]))]⟩ (by kernel_rfl) ?_
     refine WL_nil ?_
     refine WQ_code ?_
     refine WC_cond (b := ((x566 : ByteArray).toList == ((⟨#[113, 117, 105, 116, 101, 95, 97, 110, 111, 116, 104, 101, 114, 95, 114, 117, 108, 101]⟩ : ByteArray) : ByteArray).toList)) rfl (fun he => ?_) (fun he => ?_)
     ·
      replace he := eq_of_beq he
      refine WC_seq (WC_region ?_)
      refine WL_execS htb 2 [6] [] ⟨[(6, (bB true))], [], 9, [], [(0, bk8, (.cells 24 [(sS A_g n_g c_g)]))]⟩ (by kernel_rfl) ?_
      refine WL_nil ?_
      refine WQ_code ?_
      refine WC_ret ?_
      refine WQ_blk_ret ?_
      refine WQ_then_ret ?_
      refine WQ_then_ret ?_
      refine WQ_blk_ret ?_
      refine WQ_then_ret ?_
      exact WQ_done htb [(bB true)] _ (.inl rfl) rfl (by kernel_rfl) (fun ρ w hW => ⟨true, rfl, rfl⟩)
     ·
      replace he := ne_of_beq_false he
      refine WC_skip ?_
      refine WQ_blk ?_
      refine WQ_code ?_
      refine WC_region ?_
      refine WL_execS htb 2 [88, 87, 86, 15, 8, 7, 3, 1] [6, 5] ⟨[(88, (iI (IntKind.i64.wrap (((i : Nat) : Int) + 1)))), (87, (iN n558)), (86, (sS (some q563) n558 c559)), (15, (.p 6 0)), (8, (sS Af3 nf4 cf5)), (7, (bB true)), (3, (.p 0 0)), (1, (sS A_tk n_tk c_tk))], [(6, (.cells 24 [(.ls z537 5 ((([] ++ g) ++ ([((⟨#[113, 117, 105, 116, 101, 95, 97, 110, 111, 116, 104, 101, 114, 95, 114, 117, 108, 101]⟩ : ByteArray), ([([] : List ByteArray)]))])).length) cap539)])), (5, (.lst z537 34 arr538))], 9, [], [(0, bk8, (.cells 24 [(sS A_g n_g c_g)]))]⟩ (by kernel_rfl) ?_
      refine WL_nil ?_
      refine WK_env [(88, (iN (i + 1))), (87, (iN n558)), (86, (sS (some q563) n558 c559)), (15, (.p 6 0)), (8, (sS Af3 nf4 cf5)), (7, (bB true)), (3, (.p 0 0)), (1, (sS A_tk n_tk c_tk))] (fun ρ => ⟨rfl, (congrArg (Value.int .i64) (by rw [wrap_id (by omega)]; first | rfl | omega)), ⟨rfl, rfl, ⟨rfl, rfl, ⟨rfl, rfl, ⟨rfl, rfl, ⟨rfl, rfl, ⟨rfl, rfl, ⟨rfl, rfl, trivial⟩⟩⟩⟩⟩⟩⟩⟩) ?_
      refine WK_keep [88, 87, 86, 15, 8, 7, 3, 1] [6, 5] rfl rfl ?_
      exact WQ_next ((i + 1)) (by show n558 - (i + 1) < n558 - i; omega) ⟨hc562, ⟨by omega, all_step hx564 hq (fun e => he (by rw [e]))⟩⟩ (fun ρ a w h => h)
    ·
     replace hc := of_decide_eq_false hc
     rw [List.take_of_length_le (show ((g.map Prod.fst) ++ tk).length ≤ i by omega)] at hq
     have hq1 : ∀ s ∈ g.map Prod.fst, s ≠ (⟨#[113, 117, 105, 116, 101, 95, 97, 110, 111, 116, 104, 101, 114, 95, 114, 117, 108, 101]⟩ : ByteArray) := fun s hs => hq s (List.mem_append_left _ hs)
     have hq2 : ∀ s ∈ tk, s ≠ (⟨#[113, 117, 105, 116, 101, 95, 97, 110, 111, 116, 104, 101, 114, 95, 114, 117, 108, 101]⟩ : ByteArray) := fun s hs => hq s (List.mem_append_right _ hs)
     refine WC_exit ?_
     refine WQ_then_exit ?_
     refine WQ_then_exit ?_
     refine WQ_hit ?_
     refine WQ_code ?_
     refine WC_seq ?_
     refine WC_seq (WC_region ?_)
     refine WL_execS htb 4 [99, 98, 97, 15, 8, 7, 1] [6, 5] ⟨[(99, (iI 0)), (98, (iN n_g)), (97, (sS A_g n_g c_g)), (15, (.p 6 0)), (8, (sS Af3 nf4 cf5)), (7, (bB true)), (1, (sS A_tk n_tk c_tk))], [(6, (.cells 24 [(.ls z537 5 ((([] ++ g) ++ ([((⟨#[113, 117, 105, 116, 101, 95, 97, 110, 111, 116, 104, 101, 114, 95, 114, 117, 108, 101]⟩ : ByteArray), ([([] : List ByteArray)]))])).length) cap539)])), (5, (.lst z537 34 arr538))], 9, [], [(0, bk8, (.cells 24 [(sS A_g n_g c_g)]))]⟩ (by kernel_rfl) ?_
     refine WL_nil ?_
     refine WQ_code ?_
     refine WC_block ?_
     refine WK_keep [99, 98, 97, 15, 8, 7, 1] [6, 5] rfl rfl ?_
     refine WK_env [(99, (iN 0)), (98, (iN n_g)), (97, (sS A_g n_g c_g)), (15, (.p 6 0)), (8, (sS Af3 nf4 cf5)), (7, (bB true)), (1, (sS A_tk n_tk c_tk))] (fun ρ => ⟨rfl, rfl, ⟨rfl, rfl, ⟨rfl, rfl, ⟨rfl, rfl, ⟨rfl, rfl, ⟨rfl, rfl, ⟨rfl, rfl, trivial⟩⟩⟩⟩⟩⟩⟩) ?_
     refine WC_loop (ι := Nat) (fun r G563 => Le G561 G563 ∧ (r ≤ n_g ∧ ∀ s ∈ allNames (g.take r), s ≠ (⟨#[113, 117, 105, 116, 101, 95, 97, 110, 111, 116, 104, 101, 114, 95, 114, 117, 108, 101]⟩ : ByteArray))) (fun r => ⟨[(99, (iN r)), (98, (iN n_g)), (97, (sS A_g n_g c_g)), (15, (.p 6 0)), (8, (sS Af3 nf4 cf5)), (7, (bB true)), (1, (sS A_tk n_tk c_tk))], [(6, (.cells 24 [(.ls z537 5 ((([] ++ g) ++ ([((⟨#[113, 117, 105, 116, 101, 95, 97, 110, 111, 116, 104, 101, 114, 95, 114, 117, 108, 101]⟩ : ByteArray), ([([] : List ByteArray)]))])).length) cap539)])), (5, (.lst z537 34 arr538))], 9, [], [(0, bk8, (.cells 24 [(sS A_g n_g c_g)]))]⟩) (fun r => n_g - r) (0) ⟨Le.refl _, ⟨Nat.zero_le _, by simp [allNames]⟩⟩ rfl ?_
     rintro r G563 ⟨hle, hF⟩
     show WC _ _ _ _ _ ⟨[(99, (iN r)), (98, (iN n_g)), (97, (sS A_g n_g c_g)), (15, (.p 6 0)), (8, (sS Af3 nf4 cf5)), (7, (bB true)), (1, (sS A_tk n_tk c_tk))], [(6, (.cells 24 [(.ls z537 5 ((([] ++ g) ++ ([((⟨#[113, 117, 105, 116, 101, 95, 97, 110, 111, 116, 104, 101, 114, 95, 114, 117, 108, 101]⟩ : ByteArray), ([([] : List ByteArray)]))])).length) cap539)])), (5, (.lst z537 34 arr538))], 9, [], [(0, bk8, (.cells 24 [(sS A_g n_g c_g)]))]⟩ _
     replace hc521 := Le.trans hc521 hle
     replace hc562 := Le.trans hc562 hle
     replace h_g := h_g.mono hle
     replace h_tk := h_tk.mono hle
     replace hsf6 := hsf6.mono hle
     replace hz := hz.mono hle
     replace ho541 := ho541.mono hle
     have hc564 := hle
     obtain ⟨hr, hqr⟩ := hF
     refine WC_seq (WC_region ?_)
     refine WL_execS htb 1 [100, 99, 98, 97, 15, 8, 7, 1] [6, 5] ⟨[(100, (bB (decide ((((r : Nat) : Int) : Int) < ((n_g : Nat) : Int))))), (99, (iN r)), (98, (iN n_g)), (97, (sS A_g n_g c_g)), (15, (.p 6 0)), (8, (sS Af3 nf4 cf5)), (7, (bB true)), (1, (sS A_tk n_tk c_tk))], [(6, (.cells 24 [(.ls z537 5 ((([] ++ g) ++ ([((⟨#[113, 117, 105, 116, 101, 95, 97, 110, 111, 116, 104, 101, 114, 95, 114, 117, 108, 101]⟩ : ByteArray), ([([] : List ByteArray)]))])).length) cap539)])), (5, (.lst z537 34 arr538))], 9, [], [(0, bk8, (.cells 24 [(sS A_g n_g c_g)]))]⟩ (by kernel_rfl) ?_
     refine WL_nil ?_
     refine WQ_code ?_
     refine WC_seq ?_
     refine WC_cond (b := (decide ((((r : Nat) : Int) : Int) < ((n_g : Nat) : Int)))) rfl (fun hc1 => ?_) (fun hc1 => ?_)
     ·
      replace hc1 := of_decide_eq_true hc1
      refine WC_skip ?_
      refine WQ_code ?_
      refine WC_seq ?_
      refine WC_block ?_
      refine WC_seq (WC_region ?_)
      obtain ⟨q565, rfl⟩ := h_g.ptr (by omega)
      obtain ⟨⟨x568, x570⟩, _, hx566, ⟨_, _, rfl, ⟨rfl, hn569⟩, hr571⟩, at567⟩ := h_g.get r (by omega)
      obtain ⟨A573, n574, c575, rfl, hs572⟩ := Sl.of hr571
      replace hs572 : Sl (tSlice tStr) _ A573 n574 c575 x570 := hs572
      have lhs572 := hs572.len'
      replace at567 : At G563 (q565.add (r * 2)) [.string x568, .slice A573 n574 c575] := at567
      refine WL_op (WOp_idx htb q565 n_g ((r : Nat) : Int) 2 (by kernel_rfl) (by omega) (by omega) ?_)
      refine WL_op (WOp_ld htb (q565.add (r * 2)) true 2 [.string x568, .slice A573 n574 c575] (by kernel_rfl) at567 rfl (by decide) ?_)
      refine WL_execS htb 2 [19, 99, 98, 97, 15, 8, 7, 1] [9, 6, 5] ⟨[(19, (.p 9 0)), (99, (iN r)), (98, (iN n_g)), (97, (sS (some q565) n_g c_g)), (15, (.p 6 0)), (8, (sS Af3 nf4 cf5)), (7, (bB true)), (1, (sS A_tk n_tk c_tk))], [(9, (.cells 34 [(tS x568), (sS A573 n574 c575)])), (6, (.cells 24 [(.ls z537 5 ((([] ++ g) ++ ([((⟨#[113, 117, 105, 116, 101, 95, 97, 110, 111, 116, 104, 101, 114, 95, 114, 117, 108, 101]⟩ : ByteArray), ([([] : List ByteArray)]))])).length) cap539)])), (5, (.lst z537 34 arr538))], 10, [], [(0, bk8, (.cells 24 [(sS (some q565) n_g c_g)]))]⟩ (by kernel_rfl) ?_
      refine WL_nil ?_
      refine WQ_code ?_
      refine WC_seq (WC_region ?_)
      refine WL_execS htb 4 [106, 105, 104, 99, 98, 97, 15, 8, 7, 1] [6, 5] ⟨[(106, (iI 0)), (105, (iN n574)), (104, (sS A573 n574 c575)), (99, (iN r)), (98, (iN n_g)), (97, (sS (some q565) n_g c_g)), (15, (.p 6 0)), (8, (sS Af3 nf4 cf5)), (7, (bB true)), (1, (sS A_tk n_tk c_tk))], [(6, (.cells 24 [(.ls z537 5 ((([] ++ g) ++ ([((⟨#[113, 117, 105, 116, 101, 95, 97, 110, 111, 116, 104, 101, 114, 95, 114, 117, 108, 101]⟩ : ByteArray), ([([] : List ByteArray)]))])).length) cap539)])), (5, (.lst z537 34 arr538))], 10, [], [(0, bk8, (.cells 24 [(sS (some q565) n_g c_g)]))]⟩ (by kernel_rfl) ?_
      refine WL_nil ?_
      refine WQ_code ?_
      refine WC_block ?_
      refine WK_keep [106, 105, 104, 99, 98, 97, 15, 8, 7, 1] [6, 5] rfl rfl ?_
      refine WK_env [(106, (iN 0)), (105, (iN n574)), (104, (sS A573 n574 c575)), (99, (iN r)), (98, (iN n_g)), (97, (sS (some q565) n_g c_g)), (15, (.p 6 0)), (8, (sS Af3 nf4 cf5)), (7, (bB true)), (1, (sS A_tk n_tk c_tk))] (fun ρ => ⟨rfl, rfl, ⟨rfl, rfl, ⟨rfl, rfl, ⟨rfl, rfl, ⟨rfl, rfl, ⟨rfl, rfl, ⟨rfl, rfl, ⟨rfl, rfl, ⟨rfl, rfl, ⟨rfl, rfl, trivial⟩⟩⟩⟩⟩⟩⟩⟩⟩⟩) ?_
      refine WC_loop (ι := Nat) (fun k G576 => Le G563 G576 ∧ (k ≤ n574 ∧ ∀ s ∈ (x570.take k).flatten, s ≠ (⟨#[113, 117, 105, 116, 101, 95, 97, 110, 111, 116, 104, 101, 114, 95, 114, 117, 108, 101]⟩ : ByteArray))) (fun k => ⟨[(106, (iN k)), (105, (iN n574)), (104, (sS A573 n574 c575)), (99, (iN r)), (98, (iN n_g)), (97, (sS (some q565) n_g c_g)), (15, (.p 6 0)), (8, (sS Af3 nf4 cf5)), (7, (bB true)), (1, (sS A_tk n_tk c_tk))], [(6, (.cells 24 [(.ls z537 5 ((([] ++ g) ++ ([((⟨#[113, 117, 105, 116, 101, 95, 97, 110, 111, 116, 104, 101, 114, 95, 114, 117, 108, 101]⟩ : ByteArray), ([([] : List ByteArray)]))])).length) cap539)])), (5, (.lst z537 34 arr538))], 10, [], [(0, bk8, (.cells 24 [(sS (some q565) n_g c_g)]))]⟩) (fun k => n574 - k) (0) ⟨Le.refl _, ⟨Nat.zero_le _, by simp⟩⟩ rfl ?_
      rintro k G576 ⟨hle, hF⟩
      show WC _ _ _ _ _ ⟨[(106, (iN k)), (105, (iN n574)), (104, (sS A573 n574 c575)), (99, (iN r)), (98, (iN n_g)), (97, (sS (some q565) n_g c_g)), (15, (.p 6 0)), (8, (sS Af3 nf4 cf5)), (7, (bB true)), (1, (sS A_tk n_tk c_tk))], [(6, (.cells 24 [(.ls z537 5 ((([] ++ g) ++ ([((⟨#[113, 117, 105, 116, 101, 95, 97, 110, 111, 116, 104, 101, 114, 95, 114, 117, 108, 101]⟩ : ByteArray), ([([] : List ByteArray)]))])).length) cap539)])), (5, (.lst z537 34 arr538))], 10, [], [(0, bk8, (.cells 24 [(sS (some q565) n_g c_g)]))]⟩ _
      replace hc521 := Le.trans hc521 hle
      replace hc562 := Le.trans hc562 hle
      replace hc564 := Le.trans hc564 hle
      replace h_g := h_g.mono hle
      replace h_tk := h_tk.mono hle
      replace hsf6 := hsf6.mono hle
      replace hs572 := hs572.mono hle
      replace hz := hz.mono hle
      replace ho541 := ho541.mono hle
      have hc577 := hle
      obtain ⟨hk, hqk⟩ := hF
      refine WC_seq (WC_region ?_)
      refine WL_execS htb 1 [107, 106, 105, 104, 99, 98, 97, 15, 8, 7, 1] [6, 5] ⟨[(107, (bB (decide ((((k : Nat) : Int) : Int) < ((n574 : Nat) : Int))))), (106, (iN k)), (105, (iN n574)), (104, (sS A573 n574 c575)), (99, (iN r)), (98, (iN n_g)), (97, (sS (some q565) n_g c_g)), (15, (.p 6 0)), (8, (sS Af3 nf4 cf5)), (7, (bB true)), (1, (sS A_tk n_tk c_tk))], [(6, (.cells 24 [(.ls z537 5 ((([] ++ g) ++ ([((⟨#[113, 117, 105, 116, 101, 95, 97, 110, 111, 116, 104, 101, 114, 95, 114, 117, 108, 101]⟩ : ByteArray), ([([] : List ByteArray)]))])).length) cap539)])), (5, (.lst z537 34 arr538))], 10, [], [(0, bk8, (.cells 24 [(sS (some q565) n_g c_g)]))]⟩ (by kernel_rfl) ?_
      refine WL_nil ?_
      refine WQ_code ?_
      refine WC_seq ?_
      refine WC_cond (b := (decide ((((k : Nat) : Int) : Int) < ((n574 : Nat) : Int)))) rfl (fun hc2 => ?_) (fun hc2 => ?_)
      ·
       replace hc2 := of_decide_eq_true hc2
       refine WC_skip ?_
       refine WQ_code ?_
       refine WC_seq ?_
       refine WC_block ?_
       refine WC_seq (WC_region ?_)
       obtain ⟨q578, rfl⟩ := hs572.ptr (by omega)
       obtain ⟨x581, _, hx579, hr582, at580⟩ := hs572.get k (by omega)
       obtain ⟨A584, n585, c586, rfl, hs583⟩ := Sl.of hr582
       replace hs583 : Sl tStr _ A584 n585 c586 x581 := hs583
       have lhs583 := hs583.len'
       replace at580 : At G576 (q578.add (k * 1)) [.slice A584 n585 c586] := at580
       refine WL_op (WOp_idx htb q578 n574 ((k : Nat) : Int) 1 (by kernel_rfl) (by omega) (by omega) ?_)
       refine WL_op (WOp_ld htb (q578.add (k * 1)) false 1 [.slice A584 n585 c586] (by kernel_rfl) at580 rfl (by decide) ?_)
       refine WL_execS htb 1 [21, 106, 105, 104, 99, 98, 97, 15, 8, 7, 1] [6, 5] ⟨[(21, (sS A584 n585 c586)), (106, (iN k)), (105, (iN n574)), (104, (sS (some q578) n574 c575)), (99, (iN r)), (98, (iN n_g)), (97, (sS (some q565) n_g c_g)), (15, (.p 6 0)), (8, (sS Af3 nf4 cf5)), (7, (bB true)), (1, (sS A_tk n_tk c_tk))], [(6, (.cells 24 [(.ls z537 5 ((([] ++ g) ++ ([((⟨#[113, 117, 105, 116, 101, 95, 97, 110, 111, 116, 104, 101, 114, 95, 114, 117, 108, 101]⟩ : ByteArray), ([([] : List ByteArray)]))])).length) cap539)])), (5, (.lst z537 34 arr538))], 10, [], [(0, bk8, (.cells 24 [(sS (some q565) n_g c_g)]))]⟩ (by kernel_rfl) ?_
       refine WL_nil ?_
       refine WQ_code ?_
       refine WC_seq (WC_region ?_)
       refine WL_execS htb 3 [112, 111, 110, 106, 105, 104, 99, 98, 97, 15, 8, 7, 1] [6, 5] ⟨[(112, (iI 0)), (111, (iN n585)), (110, (sS A584 n585 c586)), (106, (iN k)), (105, (iN n574)), (104, (sS (some q578) n574 c575)), (99, (iN r)), (98, (iN n_g)), (97, (sS (some q565) n_g c_g)), (15, (.p 6 0)), (8, (sS Af3 nf4 cf5)), (7, (bB true)), (1, (sS A_tk n_tk c_tk))], [(6, (.cells 24 [(.ls z537 5 ((([] ++ g) ++ ([((⟨#[113, 117, 105, 116, 101, 95, 97, 110, 111, 116, 104, 101, 114, 95, 114, 117, 108, 101]⟩ : ByteArray), ([([] : List ByteArray)]))])).length) cap539)])), (5, (.lst z537 34 arr538))], 10, [], [(0, bk8, (.cells 24 [(sS (some q565) n_g c_g)]))]⟩ (by kernel_rfl) ?_
       refine WL_nil ?_
       refine WQ_code ?_
       refine WC_block ?_
       refine WK_keep [112, 111, 110, 106, 105, 104, 99, 98, 97, 15, 8, 7, 1] [6, 5] rfl rfl ?_
       refine WK_env [(112, (iN 0)), (111, (iN n585)), (110, (sS A584 n585 c586)), (106, (iN k)), (105, (iN n574)), (104, (sS (some q578) n574 c575)), (99, (iN r)), (98, (iN n_g)), (97, (sS (some q565) n_g c_g)), (15, (.p 6 0)), (8, (sS Af3 nf4 cf5)), (7, (bB true)), (1, (sS A_tk n_tk c_tk))] (fun ρ => ⟨rfl, rfl, ⟨rfl, rfl, ⟨rfl, rfl, ⟨rfl, rfl, ⟨rfl, rfl, ⟨rfl, rfl, ⟨rfl, rfl, ⟨rfl, rfl, ⟨rfl, rfl, ⟨rfl, rfl, ⟨rfl, rfl, ⟨rfl, rfl, ⟨rfl, rfl, trivial⟩⟩⟩⟩⟩⟩⟩⟩⟩⟩⟩⟩⟩) ?_
       refine WC_loop (ι := Nat) (fun l G587 => Le G576 G587 ∧ (l ≤ n585 ∧ ∀ s ∈ x581.take l, s ≠ (⟨#[113, 117, 105, 116, 101, 95, 97, 110, 111, 116, 104, 101, 114, 95, 114, 117, 108, 101]⟩ : ByteArray))) (fun l => ⟨[(112, (iN l)), (111, (iN n585)), (110, (sS A584 n585 c586)), (106, (iN k)), (105, (iN n574)), (104, (sS (some q578) n574 c575)), (99, (iN r)), (98, (iN n_g)), (97, (sS (some q565) n_g c_g)), (15, (.p 6 0)), (8, (sS Af3 nf4 cf5)), (7, (bB true)), (1, (sS A_tk n_tk c_tk))], [(6, (.cells 24 [(.ls z537 5 ((([] ++ g) ++ ([((⟨#[113, 117, 105, 116, 101, 95, 97, 110, 111, 116, 104, 101, 114, 95, 114, 117, 108, 101]⟩ : ByteArray), ([([] : List ByteArray)]))])).length) cap539)])), (5, (.lst z537 34 arr538))], 10, [], [(0, bk8, (.cells 24 [(sS (some q565) n_g c_g)]))]⟩) (fun l => n585 - l) (0) ⟨Le.refl _, ⟨Nat.zero_le _, by simp⟩⟩ rfl ?_
       rintro l G587 ⟨hle, hF⟩
       show WC _ _ _ _ _ ⟨[(112, (iN l)), (111, (iN n585)), (110, (sS A584 n585 c586)), (106, (iN k)), (105, (iN n574)), (104, (sS (some q578) n574 c575)), (99, (iN r)), (98, (iN n_g)), (97, (sS (some q565) n_g c_g)), (15, (.p 6 0)), (8, (sS Af3 nf4 cf5)), (7, (bB true)), (1, (sS A_tk n_tk c_tk))], [(6, (.cells 24 [(.ls z537 5 ((([] ++ g) ++ ([((⟨#[113, 117, 105, 116, 101, 95, 97, 110, 111, 116, 104, 101, 114, 95, 114, 117, 108, 101]⟩ : ByteArray), ([([] : List ByteArray)]))])).length) cap539)])), (5, (.lst z537 34 arr538))], 10, [], [(0, bk8, (.cells 24 [(sS (some q565) n_g c_g)]))]⟩ _
       replace hc521 := Le.trans hc521 hle
       replace hc562 := Le.trans hc562 hle
       replace hc564 := Le.trans hc564 hle
       replace hc577 := Le.trans hc577 hle
       replace h_g := h_g.mono hle
       replace h_tk := h_tk.mono hle
       replace hsf6 := hsf6.mono hle
       replace hs572 := hs572.mono hle
       replace hs583 := hs583.mono hle
       replace hz := hz.mono hle
       replace ho541 := ho541.mono hle
       have hc588 := hle
       obtain ⟨hl, hql⟩ := hF
       refine WC_seq (WC_region ?_)
       refine WL_execS htb 1 [113, 112, 111, 110, 106, 105, 104, 99, 98, 97, 15, 8, 7, 1] [6, 5] ⟨[(113, (bB (decide ((((l : Nat) : Int) : Int) < ((n585 : Nat) : Int))))), (112, (iN l)), (111, (iN n585)), (110, (sS A584 n585 c586)), (106, (iN k)), (105, (iN n574)), (104, (sS (some q578) n574 c575)), (99, (iN r)), (98, (iN n_g)), (97, (sS (some q565) n_g c_g)), (15, (.p 6 0)), (8, (sS Af3 nf4 cf5)), (7, (bB true)), (1, (sS A_tk n_tk c_tk))], [(6, (.cells 24 [(.ls z537 5 ((([] ++ g) ++ ([((⟨#[113, 117, 105, 116, 101, 95, 97, 110, 111, 116, 104, 101, 114, 95, 114, 117, 108, 101]⟩ : ByteArray), ([([] : List ByteArray)]))])).length) cap539)])), (5, (.lst z537 34 arr538))], 10, [], [(0, bk8, (.cells 24 [(sS (some q565) n_g c_g)]))]⟩ (by kernel_rfl) ?_
       refine WL_nil ?_
       refine WQ_code ?_
       refine WC_seq ?_
       refine WC_cond (b := (decide ((((l : Nat) : Int) : Int) < ((n585 : Nat) : Int)))) rfl (fun hc3 => ?_) (fun hc3 => ?_)
       ·
        replace hc3 := of_decide_eq_true hc3
        refine WC_skip ?_
        refine WQ_code ?_
        refine WC_seq ?_
        refine WC_block ?_
        refine WC_seq (WC_region ?_)
        obtain ⟨q589, rfl⟩ := hs583.ptr (by omega)
        obtain ⟨x592, _, hx590, ⟨rfl, hn593⟩, at591⟩ := hs583.get l (by omega)
        replace at591 : At G587 (q589.add (l * 1)) [.string x592] := at591
        refine WL_op (WOp_idx htb q589 n585 ((l : Nat) : Int) 1 (by kernel_rfl) (by omega) (by omega) ?_)
        refine WL_op (WOp_ld htb (q589.add (l * 1)) false 1 [.string x592] (by kernel_rfl) at591 rfl (by decide) ?_)
        refine WL_execS htb 1 [23, 112, 111, 110, 106, 105, 104, 99, 98, 97, 15, 8, 7, 1] [6, 5] ⟨[(23, (tS x592)), (112, (iN l)), (111, (iN n585)), (110, (sS (some q589) n585 c586)), (106, (iN k)), (105, (iN n574)), (104, (sS (some q578) n574 c575)), (99, (iN r)), (98, (iN n_g)), (97, (sS (some q565) n_g c_g)), (15, (.p 6 0)), (8, (sS Af3 nf4 cf5)), (7, (bB true)), (1, (sS A_tk n_tk c_tk))], [(6, (.cells 24 [(.ls z537 5 ((([] ++ g) ++ ([((⟨#[113, 117, 105, 116, 101, 95, 97, 110, 111, 116, 104, 101, 114, 95, 114, 117, 108, 101]⟩ : ByteArray), ([([] : List ByteArray)]))])).length) cap539)])), (5, (.lst z537 34 arr538))], 10, [], [(0, bk8, (.cells 24 [(sS (some q565) n_g c_g)]))]⟩ (by kernel_rfl) ?_
        refine WL_nil ?_
        refine WQ_code ?_
        refine WC_seq (WC_region ?_)
        refine WL_execS htb 2 [117, 112, 111, 110, 106, 105, 104, 99, 98, 97, 15, 8, 7, 1] [6, 5] ⟨[(117, (bB ((x592 : ByteArray).toList == ((⟨#[113, 117, 105, 116, 101, 95, 97, 110, 111, 116, 104, 101, 114, 95, 114, 117, 108, 101]⟩ : ByteArray) : ByteArray).toList))), (112, (iN l)), (111, (iN n585)), (110, (sS (some q589) n585 c586)), (106, (iN k)), (105, (iN n574)), (104, (sS (some q578) n574 c575)), (99, (iN r)), (98, (iN n_g)), (97, (sS (some q565) n_g c_g)), (15, (.p 6 0)), (8, (sS Af3 nf4 cf5)), (7, (bB true)), (1, (sS A_tk n_tk c_tk))], [(6, (.cells 24 [(.ls z537 5 ((([] ++ g) ++ ([((⟨#[113, 117, 105, 116, 101, 95, 97, 110, 111, 116, 104, 101, 114, 95, 114, 117, 108, 101]⟩ : ByteArray), ([([] : List ByteArray)]))])).length) cap539)])), (5, (.lst z537 34 arr538))], 10, [], [(0, bk8, (.cells 24 [(sS (some q565) n_g c_g)]))]⟩ (by kernel_rfl) ?_
        refine WL_nil ?_
        refine WQ_code ?_
        refine WC_cond (b := ((x592 : ByteArray).toList == ((⟨#[113, 117, 105, 116, 101, 95, 97, 110, 111, 116, 104, 101, 114, 95, 114, 117, 108, 101]⟩ : ByteArray) : ByteArray).toList)) rfl (fun he => ?_) (fun he => ?_)
        ·
         replace he := eq_of_beq he
         refine WC_seq (WC_region ?_)
         refine WL_execS htb 2 [6] [] ⟨[(6, (bB true))], [], 10, [], [(0, bk8, (.cells 24 [(sS (some q565) n_g c_g)]))]⟩ (by kernel_rfl) ?_
         refine WL_nil ?_
         refine WQ_code ?_
         refine WC_ret ?_
         refine WQ_blk_ret ?_
         refine WQ_then_ret ?_
         refine WQ_then_ret ?_
         refine WQ_blk_ret ?_
         refine WQ_blk_ret ?_
         refine WQ_then_ret ?_
         refine WQ_then_ret ?_
         refine WQ_blk_ret ?_
         refine WQ_blk_ret ?_
         refine WQ_then_ret ?_
         refine WQ_then_ret ?_
         refine WQ_blk_ret ?_
         refine WQ_then_ret ?_
         exact WQ_done htb [(bB true)] _ (.inl rfl) rfl (by kernel_rfl) (fun ρ w hW => ⟨true, rfl, rfl⟩)
        ·
         replace he := ne_of_beq_false he
         refine WC_skip ?_
         refine WQ_blk ?_
         refine WQ_code ?_
         refine WC_region ?_
         refine WL_execS htb 2 [112, 111, 110, 106, 105, 104, 99, 98, 97, 15, 8, 7, 1] [6, 5] ⟨[(112, (iI (IntKind.i64.wrap (((l : Nat) : Int) + 1)))), (111, (iN n585)), (110, (sS (some q589) n585 c586)), (106, (iN k)), (105, (iN n574)), (104, (sS (some q578) n574 c575)), (99, (iN r)), (98, (iN n_g)), (97, (sS (some q565) n_g c_g)), (15, (.p 6 0)), (8, (sS Af3 nf4 cf5)), (7, (bB true)), (1, (sS A_tk n_tk c_tk))], [(6, (.cells 24 [(.ls z537 5 ((([] ++ g) ++ ([((⟨#[113, 117, 105, 116, 101, 95, 97, 110, 111, 116, 104, 101, 114, 95, 114, 117, 108, 101]⟩ : ByteArray), ([([] : List ByteArray)]))])).length) cap539)])), (5, (.lst z537 34 arr538))], 10, [], [(0, bk8, (.cells 24 [(sS (some q565) n_g c_g)]))]⟩ (by kernel_rfl) ?_
         refine WL_nil ?_
         refine WK_env [(112, (iN (l + 1))), (111, (iN n585)), (110, (sS (some q589) n585 c586)), (106, (iN k)), (105, (iN n574)), (104, (sS (some q578) n574 c575)), (99, (iN r)), (98, (iN n_g)), (97, (sS (some q565) n_g c_g)), (15, (.p 6 0)), (8, (sS Af3 nf4 cf5)), (7, (bB true)), (1, (sS A_tk n_tk c_tk))] (fun ρ => ⟨rfl, (congrArg (Value.int .i64) (by rw [wrap_id (by omega)]; first | rfl | omega)), ⟨rfl, rfl, ⟨rfl, rfl, ⟨rfl, rfl, ⟨rfl, rfl, ⟨rfl, rfl, ⟨rfl, rfl, ⟨rfl, rfl, ⟨rfl, rfl, ⟨rfl, rfl, ⟨rfl, rfl, ⟨rfl, rfl, ⟨rfl, rfl, trivial⟩⟩⟩⟩⟩⟩⟩⟩⟩⟩⟩⟩⟩) ?_
         refine WK_keep [112, 111, 110, 106, 105, 104, 99, 98, 97, 15, 8, 7, 1] [6, 5] rfl rfl ?_
         exact WQ_next ((l + 1)) (by show n585 - (l + 1) < n585 - l; omega) ⟨hc588, ⟨by omega, all_step hx590 hql (fun e => he (by rw [e]))⟩⟩ (fun ρ a w h => h)
       ·
        replace hc3 := of_decide_eq_false hc3
        refine WC_exit ?_
        refine WQ_then_exit ?_
        refine WQ_then_exit ?_
        refine WQ_hit ?_
        refine WQ_blk ?_
        refine WQ_code ?_
        refine WC_region ?_
        refine WL_execS htb 2 [106, 105, 104, 99, 98, 97, 15, 8, 7, 1] [6, 5] ⟨[(106, (iI (IntKind.i64.wrap (((k : Nat) : Int) + 1)))), (105, (iN n574)), (104, (sS (some q578) n574 c575)), (99, (iN r)), (98, (iN n_g)), (97, (sS (some q565) n_g c_g)), (15, (.p 6 0)), (8, (sS Af3 nf4 cf5)), (7, (bB true)), (1, (sS A_tk n_tk c_tk))], [(6, (.cells 24 [(.ls z537 5 ((([] ++ g) ++ ([((⟨#[113, 117, 105, 116, 101, 95, 97, 110, 111, 116, 104, 101, 114, 95, 114, 117, 108, 101]⟩ : ByteArray), ([([] : List ByteArray)]))])).length) cap539)])), (5, (.lst z537 34 arr538))], 10, [], [(0, bk8, (.cells 24 [(sS (some q565) n_g c_g)]))]⟩ (by kernel_rfl) ?_
        refine WL_nil ?_
        refine WK_env [(106, (iN (k + 1))), (105, (iN n574)), (104, (sS (some q578) n574 c575)), (99, (iN r)), (98, (iN n_g)), (97, (sS (some q565) n_g c_g)), (15, (.p 6 0)), (8, (sS Af3 nf4 cf5)), (7, (bB true)), (1, (sS A_tk n_tk c_tk))] (fun ρ => ⟨rfl, (congrArg (Value.int .i64) (by rw [wrap_id (by omega)]; first | rfl | omega)), ⟨rfl, rfl, ⟨rfl, rfl, ⟨rfl, rfl, ⟨rfl, rfl, ⟨rfl, rfl, ⟨rfl, rfl, ⟨rfl, rfl, ⟨rfl, rfl, ⟨rfl, rfl, trivial⟩⟩⟩⟩⟩⟩⟩⟩⟩⟩) ?_
        refine WK_keep [106, 105, 104, 99, 98, 97, 15, 8, 7, 1] [6, 5] rfl rfl ?_
        exact WQ_next ((k + 1)) (by show n574 - (k + 1) < n574 - k; omega) ⟨hc577, ⟨by omega, flat_step hx579 (by rw [List.take_of_length_le (show x581.length ≤ l by omega)] at hql; exact hql) hqk⟩⟩ (fun ρ a w h => h)
      ·
       replace hc2 := of_decide_eq_false hc2
       refine WC_exit ?_
       refine WQ_then_exit ?_
       refine WQ_then_exit ?_
       refine WQ_hit ?_
       refine WQ_blk ?_
       refine WQ_code ?_
       refine WC_region ?_
       refine WL_execS htb 2 [99, 98, 97, 15, 8, 7, 1] [6, 5] ⟨[(99, (iI (IntKind.i64.wrap (((r : Nat) : Int) + 1)))), (98, (iN n_g)), (97, (sS (some q565) n_g c_g)), (15, (.p 6 0)), (8, (sS Af3 nf4 cf5)), (7, (bB true)), (1, (sS A_tk n_tk c_tk))], [(6, (.cells 24 [(.ls z537 5 ((([] ++ g) ++ ([((⟨#[113, 117, 105, 116, 101, 95, 97, 110, 111, 116, 104, 101, 114, 95, 114, 117, 108, 101]⟩ : ByteArray), ([([] : List ByteArray)]))])).length) cap539)])), (5, (.lst z537 34 arr538))], 10, [], [(0, bk8, (.cells 24 [(sS (some q565) n_g c_g)]))]⟩ (by kernel_rfl) ?_
       refine WL_nil ?_
       refine WK_env [(99, (iN (r + 1))), (98, (iN n_g)), (97, (sS (some q565) n_g c_g)), (15, (.p 6 0)), (8, (sS Af3 nf4 cf5)), (7, (bB true)), (1, (sS A_tk n_tk c_tk))] (fun ρ => ⟨rfl, (congrArg (Value.int .i64) (by rw [wrap_id (by omega)]; first | rfl | omega)), ⟨rfl, rfl, ⟨rfl, rfl, ⟨rfl, rfl, ⟨rfl, rfl, ⟨rfl, rfl, ⟨rfl, rfl, trivial⟩⟩⟩⟩⟩⟩⟩) ?_
       refine WK_keep [99, 98, 97, 15, 8, 7, 1] [6, 5] rfl rfl ?_
       exact WQ_next ((r + 1)) (by show n_g - (r + 1) < n_g - r; omega) ⟨hc564, ⟨by omega, names_step hx566 (by rw [List.take_of_length_le (show x570.length ≤ k by omega)] at hqk; exact hqk) hqr⟩⟩ (fun ρ a w h => h)
     ·
      replace hc1 := of_decide_eq_false hc1
      rw [List.take_of_length_le (show g.length ≤ r by omega)] at hqr
      have hq3 := hqr
      have hal2 := added_len (g := g) (q := (⟨#[113, 117, 105, 116, 101, 95, 97, 110, 111, 116, 104, 101, 114, 95, 114, 117, 108, 101]⟩ : ByteArray))
      have hfll := flaws_len g tk
      refine WC_exit ?_
      refine WQ_then_exit ?_
      refine WQ_then_exit ?_
      refine WQ_hit ?_
      refine WQ_code ?_
      refine WC_seq (WC_region ?_)
      refine WL_execS htb 4 [125, 124, 123, 8] [5] ⟨[(125, (sS A_tk n_tk c_tk)), (124, (.agg [(.ls z537 5 ((([] ++ g) ++ ([((⟨#[113, 117, 105, 116, 101, 95, 97, 110, 111, 116, 104, 101, 114, 95, 114, 117, 108, 101]⟩ : ByteArray), ([([] : List ByteArray)]))])).length) cap539)])), (123, (bB true)), (8, (sS Af3 nf4 cf5))], [(5, (.lst z537 34 arr538))], 9, [], [(0, bk8, (.cells 24 [(sS A_g n_g c_g)]))]⟩ (by kernel_rfl) ?_
      refine WK_freezeL 5 rfl rfl ?_
      intro bk566 G565 hle hbk566
      replace hc521 := Le.trans hc521 hle
      replace hc562 := Le.trans hc562 hle
      replace hc564 := Le.trans hc564 hle
      replace h_g := h_g.mono hle
      replace h_tk := h_tk.mono hle
      replace hsf6 := hsf6.mono hle
      replace hz := hz.mono hle
      obtain ⟨A568, n569, c570, e571, hs567⟩ := OwnL.sl (n := (([] ++ g) ++ ([((⟨#[113, 117, 105, 116, 101, 95, 97, 110, 111, 116, 104, 101, 114, 95, 114, 117, 108, 101]⟩ : ByteArray), ([([] : List ByteArray)]))])).length) ho541 hle hz540 hbk566 rfl
      refine WK_env [(125, (sS A_tk n_tk c_tk)), (124, (.agg [(sS A568 n569 c570)])), (123, (bB true)), (8, (sS Af3 nf4 cf5))] (fun ρ => ⟨rfl, rfl, ⟨rfl, (by show SV.den ρ (.agg [(.v (nilOr z537 (.slice (some ⟨bk566, 0, none⟩) ((([] ++ g) ++ ([((⟨#[113, 117, 105, 116, 101, 95, 97, 110, 111, 116, 104, 101, 114, 95, 114, 117, 108, 101]⟩ : ByteArray), ([([] : List ByteArray)]))])).length) cap539)))]) = SV.den ρ (.agg [(sS A568 n569 c570)]); simp only [SV.den, SV.denL, e571]), ⟨rfl, rfl, ⟨rfl, rfl, trivial⟩⟩⟩⟩) ?_
      have lhs567 := hs567.len'
      refine WL_op (WOp_call 16 [(.agg [(sS A568 n569 c570)]), (sS A_tk n_tk c_tk)] (by kernel_rfl) (goes_of Try.func16 rfl rfl) (fun ρ w hW => flawsP_ok hW.has (g := (([] ++ g) ++ ([((⟨#[113, 117, 105, 116, 101, 95, 97, 110, 111, 116, 104, 101, 114, 95, 114, 117, 108, 101]⟩ : ByteArray), ([([] : List ByteArray)]))]))) (tk := tk) hs567 h_tk (by simp only [List.length_append, List.length_cons, List.length_nil]; omega) (by rw [hal2]; omega) (by omega)) ?_)
      intro G706 v hle hΦ
      replace hc521 := Le.trans hc521 hle
      replace hc562 := Le.trans hc562 hle
      replace hc564 := Le.trans hc564 hle
      replace h_g := h_g.mono hle
      replace h_tk := h_tk.mono hle
      replace hsf6 := hsf6.mono hle
      replace hs567 := hs567.mono hle
      replace hz := hz.mono hle
      obtain ⟨Af572, nf573, cf574, gd, nr, rfl, hsf575, hgd, hnr⟩ := hΦ
      rw [flawsL_of hgd hnr] at hsf575
      clear hgd hnr
      have lhsf575 := hsf575.len'
      refine WL_execS htb 1 [127, 126, 123] [] ⟨[(127, (sS Af3 nf4 cf5)), (126, (sS Af572 nf573 cf574)), (123, (bB true))], [], 9, [], [(0, bk8, (.cells 24 [(sS A_g n_g c_g)]))]⟩ (by kernel_rfl) ?_
      refine WK_off 31 rfl ?_
      have ho576 : OwnL (tPair (tInt .i64) tStr) G706 [] #[] 0 := OwnL.nil _ _
      refine WL_op (WOp_appendN htb true 9 0 0 Af3 nf4 31 2 24 (by kernel_rfl) (by kernel_rfl) rfl rfl (tPair (tInt .i64) tStr) (xs := []) (ys := (flawsL g tk)) ho576 rfl (fun _ => rfl) hsf6.row hsf6.len rfl (by decide) (by first | omega | (simp only [List.length_append, List.length_cons, List.length_nil]; omega)) (by unfold big; first | omega | (simp only [List.length_append, List.length_cons, List.length_nil]; omega)) (fun z577 arr578 cap579 hz580 ho581 => ?_))
      show WL _ _ _ _ _ _ ⟨[(128, (.ls z577 10 (([] ++ (flawsL g tk)).length) cap579)), (127, (sS Af3 nf4 cf5)), (126, (sS Af572 nf573 cf574)), (123, (bB true))], [(10, (.lst z577 31 arr578))], 11, [], [(0, bk8, (.cells 24 [(sS A_g n_g c_g)]))]⟩ _
      refine WL_execS htb 2 [130, 128, 126, 123] [11, 10] ⟨[(130, (.s 11 1 1)), (128, (.ls z577 10 (([] ++ (flawsL g tk)).length) cap579)), (126, (sS Af572 nf573 cf574)), (123, (bB true))], [(11, (.cells 31 [(iI 4), (tS (⟨#[113, 117, 105, 116, 101, 95, 97, 110, 111, 116, 104, 101, 114, 95, 114, 117, 108, 101]⟩ : ByteArray))])), (10, (.lst z577 31 arr578))], 12, [], [(0, bk8, (.cells 24 [(sS A_g n_g c_g)]))]⟩ (by kernel_rfl) ?_
      refine WK_freezeV 11 rfl rfl rfl rfl ?_
      intro bk583 G582 hle hbk583
      replace hc521 := Le.trans hc521 hle
      replace hc562 := Le.trans hc562 hle
      replace hc564 := Le.trans hc564 hle
      replace h_g := h_g.mono hle
      replace hsf575 := hsf575.mono hle
      replace hz := hz.mono hle
      replace ho581 := ho581.mono hle
      show WK _ _ ⟨[(130, (sS (some ⟨bk583, 0, none⟩) 1 1)), (128, (.ls z577 10 (([] ++ (flawsL g tk)).length) cap579)), (126, (sS Af572 nf573 cf574)), (123, (bB true))], [(10, (.lst z577 31 arr578))], 12, [], [(0, bk8, (.cells 24 [(sS A_g n_g c_g)]))]⟩ _
      have hs584 : Sl (tPair (tInt .i64) tStr) G582 (some ⟨bk583, 0, none⟩) 1 1 [(4, (⟨#[113, 117, 105, 116, 101, 95, 97, 110, 111, 116, 104, 101, 114, 95, 114, 117, 108, 101]⟩ : ByteArray))] := Sl.lit (cs := [.int .i64 4, .string (⟨#[113, 117, 105, 116, 101, 95, 97, 110, 111, 116, 104, 101, 114, 95, 114, 117, 108, 101]⟩ : ByteArray)]) (RepsL.cons' (rep_pair (rep_int _ (x := 4) (by omega)) (rep_str _ (x := (⟨#[113, 117, 105, 116, 101, 95, 97, 110, 111, 116, 104, 101, 114, 95, 114, 117, 108, 101]⟩ : ByteArray)) (by decide))) .nil) hbk583 rfl (by unfold big; omega)
      have lhs584 := hs584.len'
      refine WL_op (WOp_append htb z577 10 (([] ++ (flawsL g tk)).length) cap579 (some ⟨bk583, 0, none⟩) 1 31 2 24 (by kernel_rfl) (by kernel_rfl) rfl rfl (tPair (tInt .i64) tStr) (xs := ([] ++ (flawsL g tk))) (ys := [(4, (⟨#[113, 117, 105, 116, 101, 95, 97, 110, 111, 116, 104, 101, 114, 95, 114, 117, 108, 101]⟩ : ByteArray))]) ho581 rfl hz580 hs584.row hs584.len rfl (by decide) (by first | omega | (simp only [List.length_append, List.length_cons, List.length_nil]; omega)) (by unfold big; first | omega | (simp only [List.length_append, List.length_cons, List.length_nil]; omega)) (fun z585 arr586 cap587 hz588 ho589 => ?_))
      show WL _ _ _ _ _ _ ⟨[(131, (.ls z585 12 ((([] ++ (flawsL g tk)) ++ ([(4, (⟨#[113, 117, 105, 116, 101, 95, 97, 110, 111, 116, 104, 101, 114, 95, 114, 117, 108, 101]⟩ : ByteArray))])).length) cap587)), (130, (sS (some ⟨bk583, 0, none⟩) 1 1)), (128, (.ls z577 10 (([] ++ (flawsL g tk)).length) cap579)), (126, (sS Af572 nf573 cf574)), (123, (bB true))], [(12, (.lst z585 31 arr586))], 13, [], [(0, bk8, (.cells 24 [(sS A_g n_g c_g)]))]⟩ _
      refine WK_freezeL 12 rfl rfl ?_
      intro bk591 G590 hle hbk591
      replace hc521 := Le.trans hc521 hle
      replace hc562 := Le.trans hc562 hle
      replace hc564 := Le.trans hc564 hle
      replace h_g := h_g.mono hle
      replace hsf575 := hsf575.mono hle
      replace hs584 := hs584.mono hle
      replace hz := hz.mono hle
      obtain ⟨A593, n594, c595, e596, hs592⟩ := OwnL.sl (n := (([] ++ (flawsL g tk)) ++ ([(4, (⟨#[113, 117, 105, 116, 101, 95, 97, 110, 111, 116, 104, 101, 114, 95, 114, 117, 108, 101]⟩ : ByteArray))])).length) ho589 hle hz588 hbk591 rfl
      refine WK_env [(131, (sS A593 n594 c595)), (130, (sS (some ⟨bk583, 0, none⟩) 1 1)), (128, (.ls z577 10 (([] ++ (flawsL g tk)).length) cap579)), (126, (sS Af572 nf573 cf574)), (123, (bB true))] (fun ρ => ⟨rfl, (by exact e596), ⟨rfl, rfl, ⟨rfl, rfl, ⟨rfl, rfl, ⟨rfl, rfl, trivial⟩⟩⟩⟩⟩) ?_
      have lhs592 := hs592.len'
      refine WL_op (WOp_call 19 [(sS Af572 nf573 cf574), (sS A593 n594 c595)] (by kernel_rfl) (goes_of Try.func19 rfl rfl) (fun ρ w hW => sameFlaws_ok hW.has (xs := (flawsL (([] ++ g) ++ ([((⟨#[113, 117, 105, 116, 101, 95, 97, 110, 111, 116, 104, 101, 114, 95, 114, 117, 108, 101]⟩ : ByteArray), ([([] : List ByteArray)]))])) tk)) (ys := (([] ++ (flawsL g tk)) ++ ([(4, (⟨#[113, 117, 105, 116, 101, 95, 97, 110, 111, 116, 104, 101, 114, 95, 114, 117, 108, 101]⟩ : ByteArray))]))) hsf575 hs592) ?_)
      intro G707 v hle hΦ
      replace hc521 := Le.trans hc521 hle
      replace hc562 := Le.trans hc562 hle
      replace hc564 := Le.trans hc564 hle
      replace h_g := h_g.mono hle
      replace hsf575 := hsf575.mono hle
      replace hs584 := hs584.mono hle
      replace hs592 := hs592.mono hle
      replace hz := hz.mono hle
      obtain ⟨r597, rfl, hR598⟩ := hΦ
      replace hR598 := hR598.trans (show _ = true from decide_eq_true (by rw [flaws_added hq1 hq2 hq3 (fun e => by (have h9 := congrArg List.length e; simp only [List.length_nil] at h9; omega))]))
      obtain rfl := hR598
      refine WL_execS htb 2 [6] [] ⟨[(6, (bB true))], [], 13, [], [(0, bk8, (.cells 24 [(sS A_g n_g c_g)]))]⟩ (by kernel_rfl) ?_
      refine WL_nil ?_
      refine WQ_code ?_
      refine WC_ret ?_
      exact WQ_done htb [(bB true)] _ (.inl rfl) rfl (by kernel_rfl) (fun ρ w hW => ⟨true, rfl, rfl⟩)

end Go.Proofs.Ytfemkbockhpmcaa.Sym
