/- Walks of functions that the laws of this seat reach, printed by a program of this session's. -/
import Derived.Test.YtfemkbockhpmcaaB13
import Derived.Test.YtfemkbockhpmcaaPe
set_option linter.unusedSimpArgs false
set_option linter.unusedVariables false
set_option maxHeartbeats 4000000
namespace Go.Proofs.Ytfemkbockhpmcaa.Sym
open Go Go.Proofs Go.RowKit

open Classical in
noncomputable def flawsL (g : List Rule) (tk : List ByteArray) : List Flaw := tellL (flawsC g tk (fun s => decide (Fert g tk s)) (fun s => decide (Led g s)))
theorem flawsL_of {g : List Rule} {tk : List ByteArray} {gd nr : ByteArray → Bool} (h1 : ∀ s, gd s = true ↔ Fert g tk s) (h2 : ∀ s, nr s = true ↔ Led g s) : tellL (flawsC g tk gd nr) = flawsL g tk := by
  have e1 : gd = fun s => @decide (Fert g tk s) (Classical.propDecidable _) := by funext s; rw [Bool.eq_iff_iff, h1 s]; simp
  have e2 : nr = fun s => @decide (Led g s) (Classical.propDecidable _) := by funext s; rw [Bool.eq_iff_iff, h2 s]; simp
  unfold flawsL; rw [e1, e2]
def tokV (tk : List ByteArray) (n : ByteArray) : Int := if placeB tk n < 0 then 0 else placeB tk n
def codeN (tk : List ByteArray) (g : List Rule) (n : ByteArray) : Int := if 0 ≤ placeB tk n then placeB tk n else -1 - ((idxS g n)[0]?.getD 0)
def altN (tk : List ByteArray) (g : List Rule) (a : List ByteArray) : List Int := a.map (codeN tk g)
def altsN (tk : List ByteArray) (g : List Rule) (r : Rule) : List (List Int) := r.2.map (altN tk g)
def TokP (tk : List ByteArray) : Prop := (∀ s ∈ tk, IsNameP s) ∧ tk.Nodup
open Classical in
/-- What Number answers. -/
noncomputable def numS (g : List Rule) (tk : List ByteArray) : (List ByteArray × List ByteArray × List (List (List Int))) × Int :=
  if ¬ MayP g then (([], [], []), 1) else if LongP g then (([], [], []), 2) else if ¬ TokP tk then (([], [], []), 1) else if 60 < tk.length then (([], [], []), 2) else if flawsL g tk ≠ [] then (([], [], []), 80) else ((tk, g.map (·.1), g.map (altsN tk g)), 0)
section
variable {g : List Rule} {tk : List ByteArray}
theorem num_check {e : Int} (h : (¬ MayP g → e = 1) ∧ (MayP g → LongP g → e = 2) ∧ (MayP g → ¬ LongP g → e = 0)) (he : e ≠ 0) : ((([] : List ByteArray), ([] : List ByteArray), ([] : List (List (List Int)))), e) = numS g tk := by
  unfold numS
  by_cases h1 : MayP g
  · rw [if_neg (by simpa using h1)]
    by_cases h2 : LongP g
    · rw [if_pos h2, h.2.1 h1 h2]
    · exact absurd (h.2.2 h1 h2) he
  · rw [if_pos h1, h.1 h1]
theorem num_checked {e : Int} (h : (¬ MayP g → e = 1) ∧ (MayP g → LongP g → e = 2) ∧ (MayP g → ¬ LongP g → e = 0)) (he : e = 0) : MayP g ∧ ¬ LongP g := by
  subst he
  have h1 : MayP g := Classical.byContradiction fun h1 => by have := h.1 h1; omega
  exact ⟨h1, fun h2 => by have := h.2.1 h1 h2; omega⟩
theorem num_token (h1 : MayP g) (h2 : ¬ LongP g) (h : ¬ TokP tk) : ((([] : List ByteArray), ([] : List ByteArray), ([] : List (List (List Int)))), (1 : Int)) = numS g tk := by
  unfold numS; rw [if_neg (by simpa using h1), if_neg h2, if_pos h]
theorem num_many (h1 : MayP g) (h2 : ¬ LongP g) (h3 : TokP tk) (h : 60 < tk.length) : ((([] : List ByteArray), ([] : List ByteArray), ([] : List (List (List Int)))), (2 : Int)) = numS g tk := by
  unfold numS; rw [if_neg (by simpa using h1), if_neg h2, if_neg (by simpa using h3), if_pos h]
theorem num_flaws (h1 : MayP g) (h2 : ¬ LongP g) (h3 : TokP tk) (h4 : ¬ 60 < tk.length) (h : flawsL g tk ≠ []) : ((([] : List ByteArray), ([] : List ByteArray), ([] : List (List (List Int)))), (80 : Int)) = numS g tk := by
  unfold numS; rw [if_neg (by simpa using h1), if_neg h2, if_neg (by simpa using h3), if_neg h4, if_pos h]
theorem num_ok (h1 : MayP g) (h2 : ¬ LongP g) (h3 : TokP tk) (h4 : ¬ 60 < tk.length) (h : flawsL g tk = []) : ((tk, g.map (·.1), g.map (altsN tk g)), (0 : Int)) = numS g tk := by
  unfold numS; rw [if_neg (by simpa using h1), if_neg h2, if_neg (by simpa using h3), if_neg h4, if_neg (by simpa using h)]
theorem place_spec (xs : List ByteArray) (x : ByteArray) : (∃ i : Nat, placeB xs x = (i : Int) ∧ xs[i]? = some x ∧ x ∉ xs.take i) ∨ (placeB xs x = -1 ∧ x ∉ xs) := by
  unfold placeB
  cases h : xs.findIdx? (fun y => decide (y = x)) with
  | none =>
    right
    refine ⟨rfl, fun hx => ?_⟩
    have := List.findIdx?_eq_none_iff.1 h x hx
    simp at this
  | some i =>
    left
    obtain ⟨h1, h2, h3⟩ := List.findIdx?_eq_some_iff_getElem.1 h
    refine ⟨i, rfl, by rw [List.getElem?_eq_getElem h1]; exact congrArg some (of_decide_eq_true h2), fun hx => ?_⟩
    obtain ⟨j, hj, e⟩ := List.mem_take_iff_getElem.1 hx
    have := h3 j (by omega)
    simp [e] at this
theorem place_lt {i : Nat} {x : ByteArray} (hx : tk[i]? = some x) (h : placeB tk x < (i : Int)) : ¬ tk.Nodup := fun hn => by
  rcases place_spec tk x with ⟨j, h1, h2, _⟩ | ⟨_, h2⟩
  · have hj : j < i := by omega
    have hi := (List.getElem?_eq_some_iff.1 hx).1
    have hjl := (List.getElem?_eq_some_iff.1 h2).1
    have h3 := (List.pairwise_iff_getElem.1 hn) j i hjl hi hj
    rw [List.getElem?_eq_getElem hjl] at h2; rw [List.getElem?_eq_getElem hi] at hx
    injection h2 with h2; injection hx with hx
    exact h3 (h2.trans hx.symm)
  · exact h2 (List.mem_of_getElem? hx)
theorem nodup_step {i : Nat} {x : ByteArray} (hx : tk[i]? = some x) (hn : (tk.take i).Nodup) (h : ¬ placeB tk x < (i : Int)) : (tk.take (i + 1)).Nodup := by
  rw [take_succ' hx, List.nodup_append]
  refine ⟨hn, by simp, fun a ha b hb => ?_⟩
  rw [List.mem_singleton] at hb; subst hb
  rintro rfl
  obtain ⟨j, hj, e⟩ := List.mem_take_iff_getElem.1 ha
  rcases place_spec tk a with ⟨k, h1, h2, h3⟩ | ⟨_, h2⟩
  · have hjk : j < k := by omega
    apply h3
    rw [List.mem_take_iff_getElem]
    have := (List.getElem?_eq_some_iff.1 h2).1
    exact ⟨j, by omega, e⟩
  · exact h2 (List.mem_of_mem_take ha)
theorem short_rule (h : ¬ LongP g) {x : Rule} (hx : x ∈ g) : x.2.length ≤ 30 ∧ ∀ a ∈ x.2, a.length ≤ 30 := by
  refine ⟨Nat.le_of_not_lt fun hh => h (.inl ⟨x, hx, .inl hh⟩), fun a ha => Nat.le_of_not_lt fun hh => h (.inl ⟨x, hx, .inr ⟨a, ha, hh⟩⟩)⟩
theorem short_all (h : ¬ LongP g) : g.length ≤ 100000 ∧ (allNames g).length ≤ 100000 := by
  have h60 : g.length ≤ 60 := Nat.le_of_not_lt fun hh => h (.inr hh)
  have key : ∀ (g : List Rule) (n : Nat), (∀ x ∈ g, x.2.flatten.length ≤ n) → (allNames g).length ≤ g.length * n := by
    intro g n
    induction g with
    | nil => intro _; simp [allNames]
    | cons x g ih =>
      intro hh
      have e : allNames (x :: g) = x.2.flatten ++ allNames g := by unfold allNames; rw [List.flatMap_cons]
      have h1 := hh x List.mem_cons_self
      have h2 := ih fun y hy => hh y (List.mem_cons_of_mem _ hy)
      rw [e, List.length_append, List.length_cons, Nat.add_mul]; omega
  have key2 : ∀ (l : List (List ByteArray)), (∀ a ∈ l, a.length ≤ 30) → l.flatten.length ≤ l.length * 30 := by
    intro l
    induction l with
    | nil => intro _; simp
    | cons a l ih =>
      intro hh
      have h1 := hh a List.mem_cons_self
      have h2 := ih fun y hy => hh y (List.mem_cons_of_mem _ hy)
      rw [List.flatten_cons, List.length_append, List.length_cons, Nat.add_mul]; omega
  refine ⟨by omega, ?_⟩
  have h3 := key g 900 fun x hx => by
    obtain ⟨h1, h2⟩ := short_rule h hx
    have := key2 x.2 h2
    omega
  omega
theorem tokV_bd (htk : tk.length ≤ 1000000) (n : ByteArray) : -9223372036854775808 ≤ tokV tk n ∧ tokV tk n ≤ 9223372036854775807 := by
  unfold tokV
  rcases place_spec tk n with ⟨i, h1, h2, _⟩ | ⟨h1, _⟩
  · have := (List.getElem?_eq_some_iff.1 h2).1
    rw [h1]; split <;> omega
  · rw [h1]; simp
theorem tokF_val (tk : List ByteArray) (n : ByteArray) : (tokF tk n).getD (.int .i64 0) = .int .i64 (tokV tk n) := by
  unfold tokF tokV; split <;> rfl
theorem tokF_isd (tk : List ByteArray) (n : ByteArray) : (tokF tk n).isSome = decide (0 ≤ placeB tk n) := by
  unfold tokF; split
  · rename_i h; rw [decide_eq_false (by omega)]; rfl
  · rename_i h; rw [decide_eq_true (by omega)]; rfl
theorem codeN_tok {n : ByteArray} (h : 0 ≤ placeB tk n) : codeN tk g n = tokV tk n := by
  unfold codeN tokV; rw [if_pos h, if_neg (by omega)]
theorem codeN_rule {n : ByteArray} {x y : Int} (h : ¬ 0 ≤ placeB tk n) (hx : (idxS g n)[0]? = some x) (hy : y = - x - 1) : codeN tk g n = y := by
  unfold codeN; rw [if_neg h, hx, hy]; show -1 - x = - x - 1; omega
theorem tellL_mem {L : List (Bool × Flaw)} {f : Flaw} : f ∈ tellL L ↔ (true, f) ∈ L := by
  suffices h : ∀ (L : List (Bool × Flaw)) (o : List Flaw), f ∈ L.foldl (fun o x => if x.1 then layS o x.2 else o) o ↔ f ∈ o ∨ (true, f) ∈ L by
    have := h L []; simpa [tellL] using this
  intro L
  induction L with
  | nil => intro o; simp
  | cons x L ih =>
    intro o
    obtain ⟨b, y⟩ := x
    rw [List.foldl_cons, ih]
    cases b with
    | false => simp
    | true =>
      simp only [if_true, List.mem_cons, Prod.mk.injEq, true_and]
      have : f ∈ layS o y ↔ f ∈ o ∨ f = y := by
        unfold layS
        split
        · rename_i h; have := lay_any.1 h
          constructor
          · exact .inl
          · rintro (h1 | rfl)
            · exact h1
            · exact this
        · simp
      rw [this]
      constructor
      · rintro ((h1 | h1) | h1)
        · exact .inl h1
        · exact .inr (.inl h1)
        · exact .inr (.inr h1)
      · rintro (h1 | h1 | h1)
        · exact .inl (.inl h1)
        · exact .inl (.inr h1)
        · exact .inr h1
theorem place_has {n : ByteArray} : hasB tk n = decide (0 ≤ placeB tk n) := by
  rw [Bool.eq_iff_iff, decide_eq_true_iff]
  rcases place_spec tk n with ⟨i, h1, h2, _⟩ | ⟨h1, h2⟩
  · constructor
    · intro _; omega
    · intro _; unfold hasB; simpa using List.mem_of_getElem? h2
  · constructor
    · intro h; unfold hasB at h; exact absurd (by simpa using h) h2
    · intro h; omega
theorem idx_pos (h : flawsL g tk = []) {n : ByteArray} (hn : n ∈ allNames g) (hp : ¬ 0 ≤ placeB tk n) : 0 < (idxS g n).length := by
  rcases Nat.eq_zero_or_pos (idxS g n).length with h0 | h0
  · exfalso
    have hm : ((2 : Int), n) ∈ flawsL g tk := by
      unfold flawsL
      refine tellL_mem.2 ?_
      unfold flawsC
      refine List.mem_append_left _ (List.mem_append_left _ (List.mem_append_right _ ?_))
      unfold cand2N
      refine List.mem_map.2 ⟨n, hn, ?_⟩
      have h2 : hasB tk n = false := by rw [place_has, decide_eq_false hp]
      rw [h2, h0]; rfl
    rw [h] at hm; cases hm
  · exact h0
end
theorem number_ok {w : World} {G : Heap} (hG : Has w G) {g : (List (ByteArray × (List (List ByteArray))))} {A_g : Option Addr} {n_g : Nat} {c_g : Nat} {tk : (List ByteArray)} {A_tk : Option Addr} {n_tk : Nat} {c_tk : Nat} (h_g : Sl (tPair tStr (tSlice (tSlice tStr))) G A_g n_g c_g g) (h_tk : Sl tStr G A_tk n_tk c_tk tk) :
    Calls Try.prog 20 #[(.agg #[.slice A_g n_g c_g]), (.slice A_tk n_tk c_tk)] w (Ret w G fun v G' => ∃ (t2 : (List ByteArray)) (A_t2 : Option Addr) (n_t2 : Nat) (c_t2 : Nat) (nm : (List ByteArray)) (A_nm : Option Addr) (n_nm : Nat) (c_nm : Nat) (rs : (List (List (List Int)))) (A_rs : Option Addr) (n_rs : Nat) (c_rs : Nat) (e : Int), v = .tuple #[.agg #[.slice A_t2 n_t2 c_t2, .slice A_nm n_nm c_nm, .slice A_rs n_rs c_rs], .int .i64 e] ∧ (Sl tStr G' A_t2 n_t2 c_t2 t2) ∧ (Sl tStr G' A_nm n_nm c_nm nm) ∧ (Sl (tSlice (tSlice (tInt .i64))) G' A_rs n_rs c_rs rs) ∧ (-9223372036854775808 ≤ e ∧ e ≤ 9223372036854775807) ∧ (((t2, nm, rs), e) = numS g tk)) := by
 have lh_g := h_g.len'
 have lh_tk := h_tk.len'
 refine enter [(.agg [(sS A_g n_g c_g)]), (sS A_tk n_tk c_tk)] 143 Try.func20 rfl rfl rfl rfl hG ?_
 refine WC_seq (WC_region ?_)
 refine WL_execS htb 3 [4, 2, 1] [1, 0] ⟨[(4, (.p 1 0)), (2, (.p 0 0)), (1, (sS A_tk n_tk c_tk))], [(1, (.cells 41 [(sS none 0 0), (sS none 0 0), (sS none 0 0)])), (0, (.cells 24 [(sS A_g n_g c_g)]))], 2, [], []⟩ (by kernel_rfl) ?_
 refine WL_nil ?_
 refine WQ_code ?_
 refine WC_seq ?_
 refine WC_seq (WC_region ?_)
 refine WL_execS htb 1 [20, 4, 2, 1] [1, 0] ⟨[(20, (.agg [(sS A_g n_g c_g)])), (4, (.p 1 0)), (2, (.p 0 0)), (1, (sS A_tk n_tk c_tk))], [(1, (.cells 41 [(sS none 0 0), (sS none 0 0), (sS none 0 0)])), (0, (.cells 24 [(sS A_g n_g c_g)]))], 2, [], []⟩ (by kernel_rfl) ?_
 refine WL_op (WOp_call 25 [(.agg [(sS A_g n_g c_g)])] (by kernel_rfl) (goes_of Try.func25 rfl rfl) (fun ρ w hW => checkG_ok hW.has (g := g) h_g) ?_)
 intro G701 v hle hΦ
 replace h_g := h_g.mono hle
 replace h_tk := h_tk.mono hle
 obtain ⟨r1, rfl, h_r1, hR2⟩ := hΦ
 refine WL_execS htb 1 [6, 4, 2, 1] [1, 0] ⟨[(6, (iI r1)), (4, (.p 1 0)), (2, (.p 0 0)), (1, (sS A_tk n_tk c_tk))], [(1, (.cells 41 [(sS none 0 0), (sS none 0 0), (sS none 0 0)])), (0, (.cells 24 [(sS A_g n_g c_g)]))], 2, [], []⟩ (by kernel_rfl) ?_
 refine WL_nil ?_
 refine WQ_code ?_
 refine WC_seq (WC_region ?_)
 refine WL_execS htb 2 [23, 6, 4, 2, 1] [1, 0] ⟨[(23, (bB ((r1 : Int) != 0))), (6, (iI r1)), (4, (.p 1 0)), (2, (.p 0 0)), (1, (sS A_tk n_tk c_tk))], [(1, (.cells 41 [(sS none 0 0), (sS none 0 0), (sS none 0 0)])), (0, (.cells 24 [(sS A_g n_g c_g)]))], 2, [], []⟩ (by kernel_rfl) ?_
 refine WL_nil ?_
 refine WQ_code ?_
 refine WC_cond (b := ((r1 : Int) != 0)) rfl (fun he => ?_) (fun he => ?_)
 ·
  replace he := bne_iff_ne.1 he
  refine WC_seq (WC_region ?_)
  refine WL_execS htb 4 [5, 4] [1] ⟨[(5, (iI r1)), (4, (.p 1 0))], [(1, (.cells 41 [(sS none 0 0), (sS none 0 0), (sS none 0 0)]))], 2, [], []⟩ (by kernel_rfl) ?_
  refine WL_nil ?_
  refine WQ_code ?_
  refine WC_ret ?_
  refine WQ_then_ret ?_
  exact WQ_done htb [(.agg [(sS none 0 0), (sS none 0 0), (sS none 0 0)]), (iI r1)] _ (.inl rfl) rfl (by kernel_rfl) (fun ρ w hW => ⟨[], _, _, _, [], _, _, _, [], _, _, _, r1, rfl, (Sl.none0 _ _), (Sl.none0 _ _), (Sl.none0 _ _), h_r1, num_check hR2 he⟩)
 ·
  replace he := (bne_eq_false_iff_eq.1) he
  obtain ⟨hmay, hlong⟩ := num_checked hR2 (by simpa using he)
  obtain ⟨hgl, hal⟩ := short_all hlong
  refine WC_skip ?_
  refine WQ_code ?_
  refine WC_seq ?_
  refine WC_seq (WC_region ?_)
  refine WL_execS htb 3 [28, 27, 26, 4, 2, 1] [1, 0] ⟨[(28, (iI 0)), (27, (iN n_tk)), (26, (sS A_tk n_tk c_tk)), (4, (.p 1 0)), (2, (.p 0 0)), (1, (sS A_tk n_tk c_tk))], [(1, (.cells 41 [(sS none 0 0), (sS none 0 0), (sS none 0 0)])), (0, (.cells 24 [(sS A_g n_g c_g)]))], 2, [], []⟩ (by kernel_rfl) ?_
  refine WL_nil ?_
  refine WQ_code ?_
  refine WC_block ?_
  refine WK_freeze 0 rfl rfl rfl rfl ?_
  intro bk4 G3 hle hbk4
  replace h_g := h_g.mono hle
  replace h_tk := h_tk.mono hle
  have hz := FZ.cons (h := 0) hbk4 rfl (FZ.nil _)
  refine WK_keep [28, 27, 26, 4, 2, 1] [1] rfl rfl ?_
  refine WK_env [(28, (iN 0)), (27, (iN n_tk)), (26, (sS A_tk n_tk c_tk)), (4, (.p 1 0)), (2, (.p 0 0)), (1, (sS A_tk n_tk c_tk))] (fun ρ => ⟨rfl, rfl, ⟨rfl, rfl, ⟨rfl, rfl, ⟨rfl, rfl, ⟨rfl, rfl, ⟨rfl, rfl, trivial⟩⟩⟩⟩⟩⟩) ?_
  refine WC_loop (ι := Nat) (fun i G5 => Le G3 G5 ∧ (i ≤ n_tk ∧ (∀ s ∈ tk.take i, IsNameP s) ∧ (tk.take i).Nodup)) (fun i => ⟨[(28, (iN i)), (27, (iN n_tk)), (26, (sS A_tk n_tk c_tk)), (4, (.p 1 0)), (2, (.p 0 0)), (1, (sS A_tk n_tk c_tk))], [(1, (.cells 41 [(sS none 0 0), (sS none 0 0), (sS none 0 0)]))], 2, [], [(0, bk4, (.cells 24 [(sS A_g n_g c_g)]))]⟩) (fun i => n_tk - i) (0) ⟨Le.refl _, ⟨Nat.zero_le _, by simp, by simp⟩⟩ rfl ?_
  rintro i G5 ⟨hle, hF⟩
  show WC _ _ _ _ _ ⟨[(28, (iN i)), (27, (iN n_tk)), (26, (sS A_tk n_tk c_tk)), (4, (.p 1 0)), (2, (.p 0 0)), (1, (sS A_tk n_tk c_tk))], [(1, (.cells 41 [(sS none 0 0), (sS none 0 0), (sS none 0 0)]))], 2, [], [(0, bk4, (.cells 24 [(sS A_g n_g c_g)]))]⟩ _
  replace h_g := h_g.mono hle
  replace h_tk := h_tk.mono hle
  replace hz := hz.mono hle
  have hc6 := hle
  obtain ⟨hi, hnm, hnd⟩ := hF
  refine WC_seq (WC_region ?_)
  refine WL_execS htb 1 [29, 28, 27, 26, 4, 2, 1] [1] ⟨[(29, (bB (decide ((((i : Nat) : Int) : Int) < ((n_tk : Nat) : Int))))), (28, (iN i)), (27, (iN n_tk)), (26, (sS A_tk n_tk c_tk)), (4, (.p 1 0)), (2, (.p 0 0)), (1, (sS A_tk n_tk c_tk))], [(1, (.cells 41 [(sS none 0 0), (sS none 0 0), (sS none 0 0)]))], 2, [], [(0, bk4, (.cells 24 [(sS A_g n_g c_g)]))]⟩ (by kernel_rfl) ?_
  refine WL_nil ?_
  refine WQ_code ?_
  refine WC_seq ?_
  refine WC_cond (b := (decide ((((i : Nat) : Int) : Int) < ((n_tk : Nat) : Int)))) rfl (fun hc => ?_) (fun hc => ?_)
  ·
   replace hc := of_decide_eq_true hc
   refine WC_skip ?_
   refine WQ_code ?_
   refine WC_seq ?_
   refine WC_block ?_
   refine WC_seq (WC_region ?_)
   refine WL_execS htb 1 [30, 28, 27, 26, 4, 2, 1] [1] ⟨[(30, (iN i)), (28, (iN i)), (27, (iN n_tk)), (26, (sS A_tk n_tk c_tk)), (4, (.p 1 0)), (2, (.p 0 0)), (1, (sS A_tk n_tk c_tk))], [(1, (.cells 41 [(sS none 0 0), (sS none 0 0), (sS none 0 0)]))], 2, [], [(0, bk4, (.cells 24 [(sS A_g n_g c_g)]))]⟩ (by kernel_rfl) ?_
   obtain ⟨q7, rfl⟩ := h_tk.ptr (by omega)
   obtain ⟨x10, _, hx8, ⟨rfl, hn11⟩, at9⟩ := h_tk.get i (by omega)
   replace at9 : At G5 (q7.add (i * 1)) [.string x10] := at9
   refine WL_op (WOp_idx htb q7 n_tk ((i : Nat) : Int) 1 (by kernel_rfl) (by omega) (by omega) ?_)
   refine WL_op (WOp_ld htb (q7.add (i * 1)) false 1 [.string x10] (by kernel_rfl) at9 rfl (by decide) ?_)
   refine WL_execS htb 2 [8, 7, 28, 27, 26, 4, 2, 1] [1] ⟨[(8, (tS x10)), (7, (iN i)), (28, (iN i)), (27, (iN n_tk)), (26, (sS (some q7) n_tk c_tk)), (4, (.p 1 0)), (2, (.p 0 0)), (1, (sS (some q7) n_tk c_tk))], [(1, (.cells 41 [(sS none 0 0), (sS none 0 0), (sS none 0 0)]))], 2, [], [(0, bk4, (.cells 24 [(sS A_g n_g c_g)]))]⟩ (by kernel_rfl) ?_
   refine WL_nil ?_
   refine WQ_code ?_
   refine WC_seq (WC_region ?_)
   refine WL_execS htb 1 [33, 8, 7, 28, 27, 26, 4, 2, 1] [1] ⟨[(33, (tS x10)), (8, (tS x10)), (7, (iN i)), (28, (iN i)), (27, (iN n_tk)), (26, (sS (some q7) n_tk c_tk)), (4, (.p 1 0)), (2, (.p 0 0)), (1, (sS (some q7) n_tk c_tk))], [(1, (.cells 41 [(sS none 0 0), (sS none 0 0), (sS none 0 0)]))], 2, [], [(0, bk4, (.cells 24 [(sS A_g n_g c_g)]))]⟩ (by kernel_rfl) ?_
   refine WL_op (WOp_call 45 [(tS x10)] (by kernel_rfl) (goes_of Try.func45 rfl rfl) (fun ρ w hW => isName_ok hW.has (s := x10) hn11) ?_)
   intro G702 v hle hΦ
   replace hc6 := Le.trans hc6 hle
   replace h_g := h_g.mono hle
   replace h_tk := h_tk.mono hle
   replace hz := hz.mono hle
   obtain ⟨r12, rfl, hR13⟩ := hΦ
   refine WL_execS htb 2 [36, 8, 7, 28, 27, 26, 4, 2, 1] [1] ⟨[(36, (bB (!r12))), (8, (tS x10)), (7, (iN i)), (28, (iN i)), (27, (iN n_tk)), (26, (sS (some q7) n_tk c_tk)), (4, (.p 1 0)), (2, (.p 0 0)), (1, (sS (some q7) n_tk c_tk))], [(1, (.cells 41 [(sS none 0 0), (sS none 0 0), (sS none 0 0)]))], 2, [], [(0, bk4, (.cells 24 [(sS A_g n_g c_g)]))]⟩ (by kernel_rfl) ?_
   refine WK_split 36 (!r12) rfl (fun hg => ?_) (fun hg => ?_)
   ·
    rw [Bool.not_eq_true'] at hg
    refine WK_keep [36, 8, 7, 28, 27, 26, 4, 2, 1] [1] rfl rfl ?_
    have hno : ¬ IsNameP x10 := of_decide_eq_false (hR13.symm.trans (by simpa using hg))
    refine WL_execS htb 6 [42, 28, 27, 26, 4, 2, 1] [1] ⟨[(42, (bB true)), (28, (iN i)), (27, (iN n_tk)), (26, (sS (some q7) n_tk c_tk)), (4, (.p 1 0)), (2, (.p 0 0)), (1, (sS (some q7) n_tk c_tk))], [(1, (.cells 41 [(sS none 0 0), (sS none 0 0), (sS none 0 0)]))], 2, [], [(0, bk4, (.cells 24 [(sS A_g n_g c_g)]))]⟩ (by kernel_rfl) ?_
    refine WL_nil ?_
    refine WQ_code ?_
    refine WC_cond (b := true) rfl (fun _ => ?_) (fun h => by cases h)
    refine WC_seq (WC_region ?_)
    refine WL_execS htb 3 [5, 4] [1] ⟨[(5, (iI 1)), (4, (.p 1 0))], [(1, (.cells 41 [(sS none 0 0), (sS none 0 0), (sS none 0 0)]))], 2, [], [(0, bk4, (.cells 24 [(sS A_g n_g c_g)]))]⟩ (by kernel_rfl) ?_
    refine WL_nil ?_
    refine WQ_code ?_
    refine WC_ret ?_
    refine WQ_blk_ret ?_
    refine WQ_then_ret ?_
    refine WQ_then_ret ?_
    refine WQ_blk_ret ?_
    refine WQ_then_ret ?_
    exact WQ_done htb [(.agg [(sS none 0 0), (sS none 0 0), (sS none 0 0)]), (iI 1)] _ (.inl rfl) rfl (by kernel_rfl) (fun ρ w hW => ⟨[], _, _, _, [], _, _, _, [], _, _, _, 1, rfl, (Sl.none0 _ _), (Sl.none0 _ _), (Sl.none0 _ _), (by omega), num_token hmay hlong (fun h => hno (h.1 _ (List.mem_of_getElem? hx8)))⟩)
   ·
    rw [Bool.not_eq_false'] at hg
    refine WK_keep [36, 8, 7, 28, 27, 26, 4, 2, 1] [1] rfl rfl ?_
    have hyes : IsNameP x10 := of_decide_eq_true (hR13.symm.trans (by simpa using hg))
    refine WL_execS htb 2 [38, 37, 36, 7, 28, 27, 26, 4, 2, 1] [1] ⟨[(38, (tS x10)), (37, (sS (some q7) n_tk c_tk)), (36, (bB false)), (7, (iN i)), (28, (iN i)), (27, (iN n_tk)), (26, (sS (some q7) n_tk c_tk)), (4, (.p 1 0)), (2, (.p 0 0)), (1, (sS (some q7) n_tk c_tk))], [(1, (.cells 41 [(sS none 0 0), (sS none 0 0), (sS none 0 0)]))], 2, [], [(0, bk4, (.cells 24 [(sS A_g n_g c_g)]))]⟩ (by kernel_rfl) ?_
    refine WL_op (WOp_call 46 [(sS (some q7) n_tk c_tk), (tS x10)] (by kernel_rfl) (goes_of Try.func46 rfl rfl) (fun ρ w hW => index_ok hW.has (xs := tk) (x := x10) h_tk hn11) ?_)
    intro G703 v hle hΦ
    replace hc6 := Le.trans hc6 hle
    replace h_g := h_g.mono hle
    replace h_tk := h_tk.mono hle
    replace hz := hz.mono hle
    obtain ⟨r14, rfl, h_r14, hR15⟩ := hΦ
    refine WL_execS htb 3 [42, 28, 27, 26, 4, 2, 1] [1] ⟨[(42, (bB (decide ((r14 : Int) < ((i : Nat) : Int))))), (28, (iN i)), (27, (iN n_tk)), (26, (sS (some q7) n_tk c_tk)), (4, (.p 1 0)), (2, (.p 0 0)), (1, (sS (some q7) n_tk c_tk))], [(1, (.cells 41 [(sS none 0 0), (sS none 0 0), (sS none 0 0)]))], 2, [], [(0, bk4, (.cells 24 [(sS A_g n_g c_g)]))]⟩ (by kernel_rfl) ?_
    refine WL_nil ?_
    refine WQ_code ?_
    refine WC_cond (b := (decide ((r14 : Int) < ((i : Nat) : Int)))) rfl (fun hd => ?_) (fun hd => ?_)
    ·
     replace hd := of_decide_eq_true hd
     refine WC_seq (WC_region ?_)
     refine WL_execS htb 3 [5, 4] [1] ⟨[(5, (iI 1)), (4, (.p 1 0))], [(1, (.cells 41 [(sS none 0 0), (sS none 0 0), (sS none 0 0)]))], 2, [], [(0, bk4, (.cells 24 [(sS A_g n_g c_g)]))]⟩ (by kernel_rfl) ?_
     refine WL_nil ?_
     refine WQ_code ?_
     refine WC_ret ?_
     refine WQ_blk_ret ?_
     refine WQ_then_ret ?_
     refine WQ_then_ret ?_
     refine WQ_blk_ret ?_
     refine WQ_then_ret ?_
     exact WQ_done htb [(.agg [(sS none 0 0), (sS none 0 0), (sS none 0 0)]), (iI 1)] _ (.inl rfl) rfl (by kernel_rfl) (fun ρ w hW => ⟨[], _, _, _, [], _, _, _, [], _, _, _, 1, rfl, (Sl.none0 _ _), (Sl.none0 _ _), (Sl.none0 _ _), (by omega), num_token hmay hlong (fun h => (place_lt hx8 (by rw [← hR15]; exact hd)) h.2)⟩)
    ·
     replace hd := of_decide_eq_false hd
     refine WC_skip ?_
     refine WQ_blk ?_
     refine WQ_code ?_
     refine WC_region ?_
     refine WL_execS htb 2 [28, 27, 26, 4, 2, 1] [1] ⟨[(28, (iI (IntKind.i64.wrap (((i : Nat) : Int) + 1)))), (27, (iN n_tk)), (26, (sS (some q7) n_tk c_tk)), (4, (.p 1 0)), (2, (.p 0 0)), (1, (sS (some q7) n_tk c_tk))], [(1, (.cells 41 [(sS none 0 0), (sS none 0 0), (sS none 0 0)]))], 2, [], [(0, bk4, (.cells 24 [(sS A_g n_g c_g)]))]⟩ (by kernel_rfl) ?_
     refine WL_nil ?_
     refine WK_env [(28, (iN (i + 1))), (27, (iN n_tk)), (26, (sS (some q7) n_tk c_tk)), (4, (.p 1 0)), (2, (.p 0 0)), (1, (sS (some q7) n_tk c_tk))] (fun ρ => ⟨rfl, (congrArg (Value.int .i64) (by rw [wrap_id (by omega)]; first | rfl | omega)), ⟨rfl, rfl, ⟨rfl, rfl, ⟨rfl, rfl, ⟨rfl, rfl, ⟨rfl, rfl, trivial⟩⟩⟩⟩⟩⟩) ?_
     refine WK_keep [28, 27, 26, 4, 2, 1] [1] rfl rfl ?_
     exact WQ_next ((i + 1)) (by show n_tk - (i + 1) < n_tk - i; omega) ⟨hc6, ⟨by omega, all_step hx8 hnm hyes, nodup_step hx8 hnd (by rw [← hR15]; exact hd)⟩⟩ (fun ρ a w h => h)
  ·
   replace hc := of_decide_eq_false hc
   rw [List.take_of_length_le (show tk.length ≤ i by omega)] at hnm hnd
   have htok : TokP tk := ⟨hnm, hnd⟩
   refine WC_exit ?_
   refine WQ_then_exit ?_
   refine WQ_then_exit ?_
   refine WQ_hit ?_
   refine WQ_code ?_
   refine WC_seq ?_
   refine WC_block ?_
   refine WC_seq (WC_region ?_)
   refine WL_execS htb 4 [45, 4, 2, 1] [1] ⟨[(45, (bB (decide ((((n_tk : Nat) : Int) : Int) > 60)))), (4, (.p 1 0)), (2, (.p 0 0)), (1, (sS A_tk n_tk c_tk))], [(1, (.cells 41 [(sS none 0 0), (sS none 0 0), (sS none 0 0)]))], 2, [], [(0, bk4, (.cells 24 [(sS A_g n_g c_g)]))]⟩ (by kernel_rfl) ?_
   refine WL_nil ?_
   refine WQ_code ?_
   refine WC_cond (b := (decide ((((n_tk : Nat) : Int) : Int) > 60))) rfl (fun hl => ?_) (fun hl => ?_)
   ·
    replace hl := of_decide_eq_true hl
    refine WC_seq (WC_region ?_)
    refine WL_execS htb 3 [5, 4] [1] ⟨[(5, (iI 2)), (4, (.p 1 0))], [(1, (.cells 41 [(sS none 0 0), (sS none 0 0), (sS none 0 0)]))], 2, [], [(0, bk4, (.cells 24 [(sS A_g n_g c_g)]))]⟩ (by kernel_rfl) ?_
    refine WL_nil ?_
    refine WQ_code ?_
    refine WC_ret ?_
    refine WQ_blk_ret ?_
    refine WQ_then_ret ?_
    exact WQ_done htb [(.agg [(sS none 0 0), (sS none 0 0), (sS none 0 0)]), (iI 2)] _ (.inl rfl) rfl (by kernel_rfl) (fun ρ w hW => ⟨[], _, _, _, [], _, _, _, [], _, _, _, 2, rfl, (Sl.none0 _ _), (Sl.none0 _ _), (Sl.none0 _ _), (by omega), num_many hmay hlong htok (by omega)⟩)
   ·
    replace hl := of_decide_eq_false hl
    have htk : tk.length ≤ 1000000 := by omega
    refine WC_seq (WC_region ?_)
    refine WL_execS htb 2 [52, 51, 4, 2, 1] [1] ⟨[(52, (sS A_tk n_tk c_tk)), (51, (.agg [(sS A_g n_g c_g)])), (4, (.p 1 0)), (2, (.p 0 0)), (1, (sS A_tk n_tk c_tk))], [(1, (.cells 41 [(sS none 0 0), (sS none 0 0), (sS none 0 0)]))], 2, [], [(0, bk4, (.cells 24 [(sS A_g n_g c_g)]))]⟩ (by kernel_rfl) ?_
    refine WL_op (WOp_call 16 [(.agg [(sS A_g n_g c_g)]), (sS A_tk n_tk c_tk)] (by kernel_rfl) (goes_of Try.func16 rfl rfl) (fun ρ w hW => flawsP_ok hW.has h_g h_tk hgl hal htk) ?_)
    intro G702 v hle hΦ
    replace hc6 := Le.trans hc6 hle
    replace h_g := h_g.mono hle
    replace h_tk := h_tk.mono hle
    replace hz := hz.mono hle
    obtain ⟨Af, nf, cf, gd, nr, rfl, hsf, hgd, hnr⟩ := hΦ
    rw [flawsL_of hgd hnr] at hsf
    have lhsf := hsf.len'
    refine WL_execS htb 3 [50, 4, 2, 1] [1] ⟨[(50, (bB (decide ((((nf : Nat) : Int) : Int) > 0)))), (4, (.p 1 0)), (2, (.p 0 0)), (1, (sS A_tk n_tk c_tk))], [(1, (.cells 41 [(sS none 0 0), (sS none 0 0), (sS none 0 0)]))], 2, [], [(0, bk4, (.cells 24 [(sS A_g n_g c_g)]))]⟩ (by kernel_rfl) ?_
    refine WL_nil ?_
    refine WQ_code ?_
    refine WC_cond (b := (decide ((((nf : Nat) : Int) : Int) > 0))) rfl (fun hf => ?_) (fun hf => ?_)
    ·
     replace hf := of_decide_eq_true hf
     refine WC_seq (WC_region ?_)
     refine WL_execS htb 3 [5, 4] [1] ⟨[(5, (iI 80)), (4, (.p 1 0))], [(1, (.cells 41 [(sS none 0 0), (sS none 0 0), (sS none 0 0)]))], 2, [], [(0, bk4, (.cells 24 [(sS A_g n_g c_g)]))]⟩ (by kernel_rfl) ?_
     refine WL_nil ?_
     refine WQ_code ?_
     refine WC_ret ?_
     refine WQ_blk_ret ?_
     refine WQ_then_ret ?_
     exact WQ_done htb [(.agg [(sS none 0 0), (sS none 0 0), (sS none 0 0)]), (iI 80)] _ (.inl rfl) rfl (by kernel_rfl) (fun ρ w hW => ⟨[], _, _, _, [], _, _, _, [], _, _, _, 80, rfl, (Sl.none0 _ _), (Sl.none0 _ _), (Sl.none0 _ _), (by omega), num_flaws hmay hlong htok (by omega) (fun h => by (rw [h] at lhsf; simp at lhsf; omega))⟩)
    ·
     replace hf := of_decide_eq_false hf
     have hfl : flawsL g tk = [] := List.length_eq_zero_iff.1 (by omega)
     refine WC_skip ?_
     refine WQ_blk ?_
     refine WQ_code ?_
     refine WC_seq (WC_region ?_)
     refine WL_execS htb 2 [58, 57, 4, 2, 1] [1] ⟨[(58, (sS A_tk n_tk c_tk)), (57, (.agg [(sS A_g n_g c_g)])), (4, (.p 1 0)), (2, (.p 0 0)), (1, (sS A_tk n_tk c_tk))], [(1, (.cells 41 [(sS none 0 0), (sS none 0 0), (sS none 0 0)]))], 2, [], [(0, bk4, (.cells 24 [(sS A_g n_g c_g)]))]⟩ (by kernel_rfl) ?_
     refine WL_op (WOp_call 39 [(.agg [(sS A_g n_g c_g)]), (sS A_tk n_tk c_tk)] (by kernel_rfl) (goes_of Try.func39 rfl rfl) (fun ρ w hW => open_ok hW.has h_g h_tk (by omega) (by omega)) ?_)
     intro G703 v hle hΦ
     replace hc6 := Le.trans hc6 hle
     replace h_g := h_g.mono hle
     replace h_tk := h_tk.mono hle
     replace hz := hz.mono hle
     obtain ⟨bk, Ab, nb, cb, m1, m2, rfl, hB⟩ := hΦ
     refine WL_execS htb 1 [9, 4, 2, 1] [1] ⟨[(9, (.v (.pointer (some (⟨bk, 0, none⟩ : Addr))))), (4, (.p 1 0)), (2, (.p 0 0)), (1, (sS A_tk n_tk c_tk))], [(1, (.cells 41 [(sS none 0 0), (sS none 0 0), (sS none 0 0)]))], 2, [], [(0, bk4, (.cells 24 [(sS A_g n_g c_g)]))]⟩ (by kernel_rfl) ?_
     refine WL_nil ?_
     refine WQ_code ?_
     refine WC_seq (WC_region ?_)
     refine WL_execS htb 1 [60, 9, 4, 2] [1] ⟨[(60, (sS A_tk n_tk c_tk)), (9, (.v (.pointer (some (⟨bk, 0, none⟩ : Addr))))), (4, (.p 1 0)), (2, (.p 0 0))], [(1, (.cells 41 [(sS none 0 0), (sS none 0 0), (sS none 0 0)]))], 2, [], [(0, bk4, (.cells 24 [(sS A_g n_g c_g)]))]⟩ (by kernel_rfl) ?_
     refine WL_op (WOp_call 47 [(sS A_tk n_tk c_tk)] (by kernel_rfl) (goes_of Try.func47 rfl rfl) (fun ρ w hW => clone_ok hW.has (xs := tk) h_tk (by omega)) ?_)
     intro G704 v hle hΦ
     replace hc6 := Le.trans hc6 hle
     replace h_g := h_g.mono hle
     replace h_tk := h_tk.mono hle
     replace hB := hB.mono hle
     replace hz := hz.mono hle
     obtain ⟨A_r7, n_r7, c_r7, rfl, h_r7, hR8⟩ := hΦ
     have lh_r7 := h_r7.len'
     refine WL_execS htb 3 [10, 9, 4, 2] [2, 1] ⟨[(10, (.p 2 0)), (9, (.v (.pointer (some (⟨bk, 0, none⟩ : Addr))))), (4, (.p 1 0)), (2, (.p 0 0))], [(2, (.cells 41 [(sS A_r7 n_r7 c_r7), (sS none 0 0), (sS none 0 0)])), (1, (.cells 41 [(sS none 0 0), (sS none 0 0), (sS none 0 0)]))], 3, [], [(0, bk4, (.cells 24 [(sS A_g n_g c_g)]))]⟩ (by kernel_rfl) ?_
     refine WL_nil ?_
     refine WQ_code ?_
     refine WC_seq ?_
     refine WC_seq (WC_region ?_)
     refine WL_execS htb 4 [66, 65, 64, 10, 9, 4] [2, 1] ⟨[(66, (iI 0)), (65, (iN n_g)), (64, (sS A_g n_g c_g)), (10, (.p 2 0)), (9, (.v (.pointer (some (⟨bk, 0, none⟩ : Addr))))), (4, (.p 1 0))], [(2, (.cells 41 [(sS A_r7 n_r7 c_r7), (sS none 0 0), (sS none 0 0)])), (1, (.cells 41 [(sS none 0 0), (sS none 0 0), (sS none 0 0)]))], 3, [], [(0, bk4, (.cells 24 [(sS A_g n_g c_g)]))]⟩ (by kernel_rfl) ?_
     refine WL_nil ?_
     refine WQ_code ?_
     refine WC_block ?_
     refine WK_off 9 rfl ?_
     refine WK_own [(3, (.lst true 9 (#[]))), (2, (.cells 41 [(sS A_r7 n_r7 c_r7), (.ls true 3 0 0), (sS none 0 0)])), (1, (.cells 41 [(sS none 0 0), (sS none 0 0), (sS none 0 0)]))] (fun ρ => ⟨rfl, rfl, ⟨rfl, rfl, rfl, ⟨rfl, rfl, rfl, trivial⟩⟩⟩) ?_
     refine WK_off 46 rfl ?_
     refine WK_own [(4, (.lst true 46 (#[]))), (3, (.lst true 9 (#[]))), (2, (.cells 41 [(sS A_r7 n_r7 c_r7), (.ls true 3 0 0), (.ls true 4 0 0)])), (1, (.cells 41 [(sS none 0 0), (sS none 0 0), (sS none 0 0)]))] (fun ρ => ⟨rfl, rfl, ⟨rfl, rfl, ⟨rfl, rfl, rfl, ⟨rfl, rfl, rfl, trivial⟩⟩⟩⟩) ?_
     refine WK_keep [66, 65, 64, 10, 9, 4] [4, 3, 2, 1] rfl rfl ?_
     refine WK_env [(66, (iN 0)), (65, (iN n_g)), (64, (sS A_g n_g c_g)), (10, (.p 2 0)), (9, (.v (.pointer (some (⟨bk, 0, none⟩ : Addr))))), (4, (.p 1 0))] (fun ρ => ⟨rfl, rfl, ⟨rfl, rfl, ⟨rfl, rfl, ⟨rfl, rfl, ⟨rfl, rfl, ⟨rfl, rfl, trivial⟩⟩⟩⟩⟩⟩) ?_
     refine WC_loop (ι := Nat × List ByteArray × Bool × Array Value × Nat × List (List (List Int)) × Bool × Array Value × Nat) (fun (r, accN, z, arr, cap, accA, z2, arr2, cap2) G9 => Le G704 G9 ∧ (r ≤ n_g ∧ accN = (g.take r).map (·.1) ∧ OwnL tStr G9 accN arr cap ∧ (z = true → accN = []) ∧ accA = (g.take r).map (altsN tk g) ∧ OwnL (tSlice (tSlice (tInt .i64))) G9 accA arr2 cap2 ∧ (z2 = true → accA = []))) (fun (r, accN, z, arr, cap, accA, z2, arr2, cap2) => ⟨[(66, (iN r)), (65, (iN n_g)), (64, (sS A_g n_g c_g)), (10, (.p 2 0)), (9, (.v (.pointer (some (⟨bk, 0, none⟩ : Addr))))), (4, (.p 1 0))], [(4, (.lst z2 46 arr2)), (3, (.lst z 9 arr)), (2, (.cells 41 [(sS A_r7 n_r7 c_r7), (.ls z 3 accN.length cap), (.ls z2 4 accA.length cap2)])), (1, (.cells 41 [(sS none 0 0), (sS none 0 0), (sS none 0 0)]))], 5, [], [(0, bk4, (.cells 24 [(sS A_g n_g c_g)]))]⟩) (fun (r, accN, z, arr, cap, accA, z2, arr2, cap2) => n_g - r) (0, ([] : List ByteArray), true, #[], 0, ([] : List (List (List Int))), true, #[], 0) ⟨Le.refl _, ⟨Nat.zero_le _, rfl, OwnL.nil _ _, (fun _ => rfl), rfl, OwnL.nil _ _, fun _ => rfl⟩⟩ rfl ?_
     rintro ⟨r, accN, z, arr, cap, accA, z2, arr2, cap2⟩ G9 ⟨hle, hF⟩
     show WC _ _ _ _ _ ⟨[(66, (iN r)), (65, (iN n_g)), (64, (sS A_g n_g c_g)), (10, (.p 2 0)), (9, (.v (.pointer (some (⟨bk, 0, none⟩ : Addr))))), (4, (.p 1 0))], [(4, (.lst z2 46 arr2)), (3, (.lst z 9 arr)), (2, (.cells 41 [(sS A_r7 n_r7 c_r7), (.ls z 3 accN.length cap), (.ls z2 4 accA.length cap2)])), (1, (.cells 41 [(sS none 0 0), (sS none 0 0), (sS none 0 0)]))], 5, [], [(0, bk4, (.cells 24 [(sS A_g n_g c_g)]))]⟩ _
     replace hc6 := Le.trans hc6 hle
     replace h_g := h_g.mono hle
     replace hB := hB.mono hle
     replace h_r7 := h_r7.mono hle
     replace hz := hz.mono hle
     have hc10 := hle
     obtain ⟨hr, hcN, hoN, hzN, hcA, hoA, hzA⟩ := hF
     have hlN := congrArg List.length hcN
     have hlA := congrArg List.length hcA
     rw [List.length_map, List.length_take] at hlN hlA
     refine WC_seq (WC_region ?_)
     refine WL_execS htb 1 [67, 66, 65, 64, 10, 9, 4] [4, 3, 2, 1] ⟨[(67, (bB (decide ((((r : Nat) : Int) : Int) < ((n_g : Nat) : Int))))), (66, (iN r)), (65, (iN n_g)), (64, (sS A_g n_g c_g)), (10, (.p 2 0)), (9, (.v (.pointer (some (⟨bk, 0, none⟩ : Addr))))), (4, (.p 1 0))], [(4, (.lst z2 46 arr2)), (3, (.lst z 9 arr)), (2, (.cells 41 [(sS A_r7 n_r7 c_r7), (.ls z 3 accN.length cap), (.ls z2 4 accA.length cap2)])), (1, (.cells 41 [(sS none 0 0), (sS none 0 0), (sS none 0 0)]))], 5, [], [(0, bk4, (.cells 24 [(sS A_g n_g c_g)]))]⟩ (by kernel_rfl) ?_
     refine WL_nil ?_
     refine WQ_code ?_
     refine WC_seq ?_
     refine WC_cond (b := (decide ((((r : Nat) : Int) : Int) < ((n_g : Nat) : Int)))) rfl (fun hc => ?_) (fun hc => ?_)
     ·
      replace hc := of_decide_eq_true hc
      refine WC_skip ?_
      refine WQ_code ?_
      refine WC_seq ?_
      refine WC_block ?_
      refine WC_seq (WC_region ?_)
      obtain ⟨q11, rfl⟩ := h_g.ptr (by omega)
      obtain ⟨⟨x14, x16⟩, _, hx12, ⟨_, _, rfl, ⟨rfl, hn15⟩, hr17⟩, at13⟩ := h_g.get r (by omega)
      obtain ⟨A19, n20, c21, rfl, hs18⟩ := Sl.of hr17
      replace hs18 : Sl (tSlice tStr) _ A19 n20 c21 x16 := hs18
      have lhs18 := hs18.len'
      replace at13 : At G9 (q11.add (r * 2)) [.string x14, .slice A19 n20 c21] := at13
      refine WL_op (WOp_idx htb q11 n_g ((r : Nat) : Int) 2 (by kernel_rfl) (by omega) (by omega) ?_)
      refine WL_op (WOp_ld htb (q11.add (r * 2)) true 2 [.string x14, .slice A19 n20 c21] (by kernel_rfl) at13 rfl (by decide) ?_)
      refine WL_execS htb 2 [12, 66, 65, 64, 10, 9, 4] [5, 4, 3, 2, 1] ⟨[(12, (.p 5 0)), (66, (iN r)), (65, (iN n_g)), (64, (sS (some q11) n_g c_g)), (10, (.p 2 0)), (9, (.v (.pointer (some (⟨bk, 0, none⟩ : Addr))))), (4, (.p 1 0))], [(5, (.cells 34 [(tS x14), (sS A19 n20 c21)])), (4, (.lst z2 46 arr2)), (3, (.lst z 9 arr)), (2, (.cells 41 [(sS A_r7 n_r7 c_r7), (.ls z 3 accN.length cap), (.ls z2 4 accA.length cap2)])), (1, (.cells 41 [(sS none 0 0), (sS none 0 0), (sS none 0 0)]))], 6, [], [(0, bk4, (.cells 24 [(sS (some q11) n_g c_g)]))]⟩ (by kernel_rfl) ?_
      refine WL_nil ?_
      refine WQ_code ?_
      refine WC_seq (WC_region ?_)
      refine WL_execS htb 3 [72, 12, 66, 65, 64, 10, 9, 4] [5, 4, 3, 2, 1] ⟨[(72, (iN n20)), (12, (.p 5 0)), (66, (iN r)), (65, (iN n_g)), (64, (sS (some q11) n_g c_g)), (10, (.p 2 0)), (9, (.v (.pointer (some (⟨bk, 0, none⟩ : Addr))))), (4, (.p 1 0))], [(5, (.cells 34 [(tS x14), (sS A19 n20 c21)])), (4, (.lst z2 46 arr2)), (3, (.lst z 9 arr)), (2, (.cells 41 [(sS A_r7 n_r7 c_r7), (.ls z 3 accN.length cap), (.ls z2 4 accA.length cap2)])), (1, (.cells 41 [(sS none 0 0), (sS none 0 0), (sS none 0 0)]))], 6, [], [(0, bk4, (.cells 24 [(sS (some q11) n_g c_g)]))]⟩ (by kernel_rfl) ?_
      obtain ⟨hlr1, hlr2⟩ := short_rule hlong (List.mem_of_getElem? hx12)
      replace hlr1 : x16.length ≤ 30 := hlr1
      replace hlr2 : ∀ a ∈ x16, a.length ≤ 30 := hlr2
      refine WK_freeze 5 rfl rfl rfl rfl ?_
      intro bk23 G22 hle hbk23
      replace hc6 := Le.trans hc6 hle
      replace hc10 := Le.trans hc10 hle
      replace h_g := h_g.mono hle
      replace hB := hB.mono hle
      replace h_r7 := h_r7.mono hle
      replace hs18 := hs18.mono hle
      replace hz := hz.mono hle
      replace hoN := hoN.mono hle
      replace hoA := hoA.mono hle
      have hz := FZ.cons (h := 5) hbk23 rfl hz
      refine WL_op (WOp_make htb n20 47 1 24 (.slice none 0 0) (by kernel_rfl) (by rfl) (by rfl) tNil () rfl rfl (by omega) (by unfold big; omega) (fun arr24 ho25 => ?_))
      show WL _ _ _ _ _ _ ⟨[(73, (.ls false 6 n20 n20)), (72, (iN n20)), (12, (.p 5 0)), (66, (iN r)), (65, (iN n_g)), (64, (sS (some q11) n_g c_g)), (10, (.p 2 0)), (9, (.v (.pointer (some (⟨bk, 0, none⟩ : Addr))))), (4, (.p 1 0))], [(6, (.lst false 47 arr24)), (4, (.lst z2 46 arr2)), (3, (.lst z 9 arr)), (2, (.cells 41 [(sS A_r7 n_r7 c_r7), (.ls z 3 accN.length cap), (.ls z2 4 accA.length cap2)])), (1, (.cells 41 [(sS none 0 0), (sS none 0 0), (sS none 0 0)]))], 7, [], [(5, bk23, (.cells 34 [(tS x14), (sS A19 n20 c21)])), (0, bk4, (.cells 24 [(sS (some q11) n_g c_g)]))]⟩ _
      refine WK_g0 fun hle0 => ?_
      refine WK_freezeLN 6 rfl rfl ?_
      intro bk27 G26 hle hnew28 hbk27
      have hle29 := hle
      refine WK_env [(73, (sS (some ⟨bk27, 0, none⟩) n20 n20)), (72, (iN n20)), (12, (.p 5 0)), (66, (iN r)), (65, (iN n_g)), (64, (sS (some q11) n_g c_g)), (10, (.p 2 0)), (9, (.v (.pointer (some (⟨bk, 0, none⟩ : Addr))))), (4, (.p 1 0))] (fun ρ => ⟨rfl, rfl, ⟨rfl, rfl, ⟨rfl, rfl, ⟨rfl, rfl, ⟨rfl, rfl, ⟨rfl, rfl, ⟨rfl, rfl, ⟨rfl, rfl, ⟨rfl, rfl, trivial⟩⟩⟩⟩⟩⟩⟩⟩⟩) ?_
      have hleb : Le G22 G26 := hle29
      obtain ⟨hsz, hnil⟩ := tNil_all ho25
      have hR0 := RowB.start (d := (tInt .i64)) (T := 47) (e := 3) (m := n20) hle29 hnew28 hbk27 hsz hnil
      show WL _ _ _ _ _ _ ⟨[(73, (sS (some ⟨bk27, 0, none⟩) n20 n20)), (72, (iN n20)), (12, (.p 5 0)), (66, (iN r)), (65, (iN n_g)), (64, (sS (some q11) n_g c_g)), (10, (.p 2 0)), (9, (.v (.pointer (some (⟨bk, 0, none⟩ : Addr))))), (4, (.p 1 0))], [(4, (.lst z2 46 arr2)), (3, (.lst z 9 arr)), (2, (.cells 41 [(sS A_r7 n_r7 c_r7), (.ls z 3 accN.length cap), (.ls z2 4 accA.length cap2)])), (1, (.cells 41 [(sS none 0 0), (sS none 0 0), (sS none 0 0)]))], 7, [], [(5, bk23, (.cells 34 [(tS x14), (sS A19 n20 c21)])), (0, bk4, (.cells 24 [(sS (some q11) n_g c_g)]))]⟩ _
      refine WL_execS htb 1 [13, 12, 66, 65, 64, 10, 9, 4] [4, 3, 2, 1] ⟨[(13, (sS (some ⟨bk27, 0, none⟩) n20 n20)), (12, (.p 5 0)), (66, (iN r)), (65, (iN n_g)), (64, (sS (some q11) n_g c_g)), (10, (.p 2 0)), (9, (.v (.pointer (some (⟨bk, 0, none⟩ : Addr))))), (4, (.p 1 0))], [(4, (.lst z2 46 arr2)), (3, (.lst z 9 arr)), (2, (.cells 41 [(sS A_r7 n_r7 c_r7), (.ls z 3 accN.length cap), (.ls z2 4 accA.length cap2)])), (1, (.cells 41 [(sS none 0 0), (sS none 0 0), (sS none 0 0)]))], 7, [], [(5, bk23, (.cells 34 [(tS x14), (sS A19 n20 c21)])), (0, bk4, (.cells 24 [(sS (some q11) n_g c_g)]))]⟩ (by kernel_rfl) ?_
      refine WL_nil ?_
      refine WQ_code ?_
      refine WC_seq ?_
      refine WC_seq (WC_region ?_)
      refine WL_execS htb 4 [77, 76, 75, 13, 12, 66, 65, 64, 10, 9, 4] [4, 3, 2, 1] ⟨[(77, (iI 0)), (76, (iN n20)), (75, (sS A19 n20 c21)), (13, (sS (some ⟨bk27, 0, none⟩) n20 n20)), (12, (.p 5 0)), (66, (iN r)), (65, (iN n_g)), (64, (sS (some q11) n_g c_g)), (10, (.p 2 0)), (9, (.v (.pointer (some (⟨bk, 0, none⟩ : Addr))))), (4, (.p 1 0))], [(4, (.lst z2 46 arr2)), (3, (.lst z 9 arr)), (2, (.cells 41 [(sS A_r7 n_r7 c_r7), (.ls z 3 accN.length cap), (.ls z2 4 accA.length cap2)])), (1, (.cells 41 [(sS none 0 0), (sS none 0 0), (sS none 0 0)]))], 7, [], [(5, bk23, (.cells 34 [(tS x14), (sS A19 n20 c21)])), (0, bk4, (.cells 24 [(sS (some q11) n_g c_g)]))]⟩ (by kernel_rfl) ?_
      refine WL_nil ?_
      refine WQ_code ?_
      refine WC_block ?_
      refine WK_keep [77, 76, 75, 13, 12, 66, 65, 64, 10, 9, 4] [4, 3, 2, 1] rfl rfl ?_
      refine WK_env [(77, (iN 0)), (76, (iN n20)), (75, (sS A19 n20 c21)), (13, (sS (some ⟨bk27, 0, none⟩) n20 n20)), (12, (.p 5 0)), (66, (iN r)), (65, (iN n_g)), (64, (sS (some q11) n_g c_g)), (10, (.p 2 0)), (9, (.v (.pointer (some (⟨bk, 0, none⟩ : Addr))))), (4, (.p 1 0))] (fun ρ => ⟨rfl, rfl, ⟨rfl, rfl, ⟨rfl, rfl, ⟨rfl, rfl, ⟨rfl, rfl, ⟨rfl, rfl, ⟨rfl, rfl, ⟨rfl, rfl, ⟨rfl, rfl, ⟨rfl, rfl, ⟨rfl, rfl, trivial⟩⟩⟩⟩⟩⟩⟩⟩⟩⟩⟩) ?_
      refine WC_loop (ι := Nat × Heap × (List (List Int)) × Array Value) (fun (k, Gq, val, ar0) G30 => k ≤ n20 ∧ Le G22 Gq ∧ RowB (tInt .i64) 47 3 Gq G30 bk27 n20 k val [] true 0 0 ar0 #[] ∧ val = (x16.take k).map (altN tk g)) (fun (k, Gq, val, ar0) => ⟨[(77, (iN k)), (76, (iN n20)), (75, (sS A19 n20 c21)), (13, (sS (some ⟨bk27, 0, none⟩) n20 n20)), (12, (.p 5 0)), (66, (iN r)), (65, (iN n_g)), (64, (sS (some q11) n_g c_g)), (10, (.p 2 0)), (9, (.v (.pointer (some (⟨bk, 0, none⟩ : Addr))))), (4, (.p 1 0))], [(4, (.lst z2 46 arr2)), (3, (.lst z 9 arr)), (2, (.cells 41 [(sS A_r7 n_r7 c_r7), (.ls z 3 accN.length cap), (.ls z2 4 accA.length cap2)])), (1, (.cells 41 [(sS none 0 0), (sS none 0 0), (sS none 0 0)]))], 7, [], [(5, bk23, (.cells 34 [(tS x14), (sS A19 n20 c21)])), (0, bk4, (.cells 24 [(sS (some q11) n_g c_g)]))]⟩) (fun (k, Gq, val, ar0) => n20 - k) (0, G22, [], arr24) ⟨Nat.zero_le _, Le.refl _, hR0, by simp⟩ rfl ?_
      rintro ⟨k, Gq, val, ar0⟩ G30 hF
      show WC _ _ _ _ _ ⟨[(77, (iN k)), (76, (iN n20)), (75, (sS A19 n20 c21)), (13, (sS (some ⟨bk27, 0, none⟩) n20 n20)), (12, (.p 5 0)), (66, (iN r)), (65, (iN n_g)), (64, (sS (some q11) n_g c_g)), (10, (.p 2 0)), (9, (.v (.pointer (some (⟨bk, 0, none⟩ : Addr))))), (4, (.p 1 0))], [(4, (.lst z2 46 arr2)), (3, (.lst z 9 arr)), (2, (.cells 41 [(sS A_r7 n_r7 c_r7), (.ls z 3 accN.length cap), (.ls z2 4 accA.length cap2)])), (1, (.cells 41 [(sS none 0 0), (sS none 0 0), (sS none 0 0)]))], 7, [], [(5, bk23, (.cells 34 [(tS x14), (sS A19 n20 c21)])), (0, bk4, (.cells 24 [(sS (some q11) n_g c_g)]))]⟩ _
      obtain ⟨hk, hbq, hR, hval⟩ := hF
      have hleb := Le.trans hbq hR.le
      refine WC_seq (WC_region ?_)
      refine WL_execS htb 1 [78, 77, 76, 75, 13, 12, 66, 65, 64, 10, 9, 4] [4, 3, 2, 1] ⟨[(78, (bB (decide ((((k : Nat) : Int) : Int) < ((n20 : Nat) : Int))))), (77, (iN k)), (76, (iN n20)), (75, (sS A19 n20 c21)), (13, (sS (some ⟨bk27, 0, none⟩) n20 n20)), (12, (.p 5 0)), (66, (iN r)), (65, (iN n_g)), (64, (sS (some q11) n_g c_g)), (10, (.p 2 0)), (9, (.v (.pointer (some (⟨bk, 0, none⟩ : Addr))))), (4, (.p 1 0))], [(4, (.lst z2 46 arr2)), (3, (.lst z 9 arr)), (2, (.cells 41 [(sS A_r7 n_r7 c_r7), (.ls z 3 accN.length cap), (.ls z2 4 accA.length cap2)])), (1, (.cells 41 [(sS none 0 0), (sS none 0 0), (sS none 0 0)]))], 7, [], [(5, bk23, (.cells 34 [(tS x14), (sS A19 n20 c21)])), (0, bk4, (.cells 24 [(sS (some q11) n_g c_g)]))]⟩ (by kernel_rfl) ?_
      refine WL_nil ?_
      refine WQ_code ?_
      refine WC_seq ?_
      refine WC_cond (b := (decide ((((k : Nat) : Int) : Int) < ((n20 : Nat) : Int)))) rfl (fun hck => ?_) (fun hck => ?_)
      ·
       replace hck := of_decide_eq_true hck
       refine WC_skip ?_
       refine WQ_code ?_
       refine WC_seq ?_
       refine WC_block ?_
       refine WC_seq (WC_region ?_)
       refine WL_execS htb 1 [79, 77, 76, 75, 13, 12, 66, 65, 64, 10, 9, 4] [4, 3, 2, 1] ⟨[(79, (iN k)), (77, (iN k)), (76, (iN n20)), (75, (sS A19 n20 c21)), (13, (sS (some ⟨bk27, 0, none⟩) n20 n20)), (12, (.p 5 0)), (66, (iN r)), (65, (iN n_g)), (64, (sS (some q11) n_g c_g)), (10, (.p 2 0)), (9, (.v (.pointer (some (⟨bk, 0, none⟩ : Addr))))), (4, (.p 1 0))], [(4, (.lst z2 46 arr2)), (3, (.lst z 9 arr)), (2, (.cells 41 [(sS A_r7 n_r7 c_r7), (.ls z 3 accN.length cap), (.ls z2 4 accA.length cap2)])), (1, (.cells 41 [(sS none 0 0), (sS none 0 0), (sS none 0 0)]))], 7, [], [(5, bk23, (.cells 34 [(tS x14), (sS A19 n20 c21)])), (0, bk4, (.cells 24 [(sS (some q11) n_g c_g)]))]⟩ (by kernel_rfl) ?_
       obtain ⟨q31, rfl⟩ := hs18.ptr (by omega)
       obtain ⟨x34, _, hx32, hr35, at33⟩ := hs18.get k (by omega)
       obtain ⟨A37, n38, c39, rfl, hs36⟩ := Sl.of hr35
       replace hs36 : Sl tStr _ A37 n38 c39 x34 := hs36
       have lhs36 := hs36.len'
       replace at33 : At G22 (q31.add (k * 1)) [.slice A37 n38 c39] := at33
       refine WL_op (WOp_idx htb q31 n20 ((k : Nat) : Int) 1 (by kernel_rfl) (by omega) (by omega) ?_)
       refine WL_op (WOp_ld htb (q31.add (k * 1)) false 1 [.slice A37 n38 c39] (by kernel_rfl) (at33.mono hleb) rfl (by decide) ?_)
       refine WL_execS htb 2 [15, 14, 77, 76, 75, 13, 12, 66, 65, 64, 10, 9, 4] [4, 3, 2, 1] ⟨[(15, (sS A37 n38 c39)), (14, (iN k)), (77, (iN k)), (76, (iN n20)), (75, (sS (some q31) n20 c21)), (13, (sS (some ⟨bk27, 0, none⟩) n20 n20)), (12, (.p 5 0)), (66, (iN r)), (65, (iN n_g)), (64, (sS (some q11) n_g c_g)), (10, (.p 2 0)), (9, (.v (.pointer (some (⟨bk, 0, none⟩ : Addr))))), (4, (.p 1 0))], [(4, (.lst z2 46 arr2)), (3, (.lst z 9 arr)), (2, (.cells 41 [(sS A_r7 n_r7 c_r7), (.ls z 3 accN.length cap), (.ls z2 4 accA.length cap2)])), (1, (.cells 41 [(sS none 0 0), (sS none 0 0), (sS none 0 0)]))], 7, [], [(5, bk23, (.cells 34 [(tS x14), (sS (some q31) n20 c21)])), (0, bk4, (.cells 24 [(sS (some q11) n_g c_g)]))]⟩ (by kernel_rfl) ?_
       refine WL_nil ?_
       refine WQ_code ?_
       refine WC_seq (WC_region ?_)
       refine WL_execS htb 3 [84, 83, 82, 14, 77, 76, 75, 13, 12, 66, 65, 64, 10, 9, 4] [4, 3, 2, 1] ⟨[(84, (iI 0)), (83, (iN n38)), (82, (sS A37 n38 c39)), (14, (iN k)), (77, (iN k)), (76, (iN n20)), (75, (sS (some q31) n20 c21)), (13, (sS (some ⟨bk27, 0, none⟩) n20 n20)), (12, (.p 5 0)), (66, (iN r)), (65, (iN n_g)), (64, (sS (some q11) n_g c_g)), (10, (.p 2 0)), (9, (.v (.pointer (some (⟨bk, 0, none⟩ : Addr))))), (4, (.p 1 0))], [(4, (.lst z2 46 arr2)), (3, (.lst z 9 arr)), (2, (.cells 41 [(sS A_r7 n_r7 c_r7), (.ls z 3 accN.length cap), (.ls z2 4 accA.length cap2)])), (1, (.cells 41 [(sS none 0 0), (sS none 0 0), (sS none 0 0)]))], 7, [], [(5, bk23, (.cells 34 [(tS x14), (sS (some q31) n20 c21)])), (0, bk4, (.cells 24 [(sS (some q11) n_g c_g)]))]⟩ (by kernel_rfl) ?_
       refine WL_nil ?_
       refine WQ_code ?_
       refine WC_block ?_
       refine WK_keep [84, 83, 82, 14, 77, 76, 75, 13, 12, 66, 65, 64, 10, 9, 4] [4, 3, 2, 1] rfl rfl ?_
       refine WK_env [(84, (iN 0)), (83, (iN n38)), (82, (sS A37 n38 c39)), (14, (iN k)), (77, (iN k)), (76, (iN n20)), (75, (sS (some q31) n20 c21)), (13, (sS (some ⟨bk27, 0, none⟩) n20 n20)), (12, (.p 5 0)), (66, (iN r)), (65, (iN n_g)), (64, (sS (some q11) n_g c_g)), (10, (.p 2 0)), (9, (.v (.pointer (some (⟨bk, 0, none⟩ : Addr))))), (4, (.p 1 0))] (fun ρ => ⟨rfl, rfl, ⟨rfl, rfl, ⟨rfl, rfl, ⟨rfl, rfl, ⟨rfl, rfl, ⟨rfl, rfl, ⟨rfl, rfl, ⟨rfl, rfl, ⟨rfl, rfl, ⟨rfl, rfl, ⟨rfl, rfl, ⟨rfl, rfl, ⟨rfl, rfl, ⟨rfl, rfl, ⟨rfl, rfl, trivial⟩⟩⟩⟩⟩⟩⟩⟩⟩⟩⟩⟩⟩⟩⟩) ?_
       refine WC_loop (ι := Nat × List Int × Bool × Nat × Nat × Array Value × Array Value) (fun (j, cur, zc, bl, cp, ar, br) G40 => j ≤ n38 ∧ RowB (tInt .i64) 47 3 Gq G40 bk27 n20 k val cur zc bl cp ar br ∧ cur = (x34.take j).map (codeN tk g)) (fun (j, cur, zc, bl, cp, ar, br) => ⟨[(84, (iN j)), (83, (iN n38)), (82, (sS A37 n38 c39)), (14, (iN k)), (77, (iN k)), (76, (iN n20)), (75, (sS (some q31) n20 c21)), (13, (sS (some ⟨bk27, 0, none⟩) n20 n20)), (12, (.p 5 0)), (66, (iN r)), (65, (iN n_g)), (64, (sS (some q11) n_g c_g)), (10, (.p 2 0)), (9, (.v (.pointer (some (⟨bk, 0, none⟩ : Addr))))), (4, (.p 1 0))], [(4, (.lst z2 46 arr2)), (3, (.lst z 9 arr)), (2, (.cells 41 [(sS A_r7 n_r7 c_r7), (.ls z 3 accN.length cap), (.ls z2 4 accA.length cap2)])), (1, (.cells 41 [(sS none 0 0), (sS none 0 0), (sS none 0 0)]))], 7, [], [(5, bk23, (.cells 34 [(tS x14), (sS (some q31) n20 c21)])), (0, bk4, (.cells 24 [(sS (some q11) n_g c_g)]))]⟩) (fun (j, cur, zc, bl, cp, ar, br) => n38 - j) (0, [], true, 0, 0, ar0, #[]) ⟨Nat.zero_le _, hR, by simp⟩ rfl ?_
       rintro ⟨j, cur, zc, bl, cp, ar, br⟩ G40 hF
       show WC _ _ _ _ _ ⟨[(84, (iN j)), (83, (iN n38)), (82, (sS A37 n38 c39)), (14, (iN k)), (77, (iN k)), (76, (iN n20)), (75, (sS (some q31) n20 c21)), (13, (sS (some ⟨bk27, 0, none⟩) n20 n20)), (12, (.p 5 0)), (66, (iN r)), (65, (iN n_g)), (64, (sS (some q11) n_g c_g)), (10, (.p 2 0)), (9, (.v (.pointer (some (⟨bk, 0, none⟩ : Addr))))), (4, (.p 1 0))], [(4, (.lst z2 46 arr2)), (3, (.lst z 9 arr)), (2, (.cells 41 [(sS A_r7 n_r7 c_r7), (.ls z 3 accN.length cap), (.ls z2 4 accA.length cap2)])), (1, (.cells 41 [(sS none 0 0), (sS none 0 0), (sS none 0 0)]))], 7, [], [(5, bk23, (.cells 34 [(tS x14), (sS (some q31) n20 c21)])), (0, bk4, (.cells 24 [(sS (some q11) n_g c_g)]))]⟩ _
       obtain ⟨hj, hR, hcur⟩ := hF
       have hleb := Le.trans hbq hR.le
       have hcl := congrArg List.length hcur
       rw [List.length_map, List.length_take] at hcl
       refine WC_seq (WC_region ?_)
       refine WL_execS htb 1 [85, 84, 83, 82, 14, 77, 76, 75, 13, 12, 66, 65, 64, 10, 9, 4] [4, 3, 2, 1] ⟨[(85, (bB (decide ((((j : Nat) : Int) : Int) < ((n38 : Nat) : Int))))), (84, (iN j)), (83, (iN n38)), (82, (sS A37 n38 c39)), (14, (iN k)), (77, (iN k)), (76, (iN n20)), (75, (sS (some q31) n20 c21)), (13, (sS (some ⟨bk27, 0, none⟩) n20 n20)), (12, (.p 5 0)), (66, (iN r)), (65, (iN n_g)), (64, (sS (some q11) n_g c_g)), (10, (.p 2 0)), (9, (.v (.pointer (some (⟨bk, 0, none⟩ : Addr))))), (4, (.p 1 0))], [(4, (.lst z2 46 arr2)), (3, (.lst z 9 arr)), (2, (.cells 41 [(sS A_r7 n_r7 c_r7), (.ls z 3 accN.length cap), (.ls z2 4 accA.length cap2)])), (1, (.cells 41 [(sS none 0 0), (sS none 0 0), (sS none 0 0)]))], 7, [], [(5, bk23, (.cells 34 [(tS x14), (sS (some q31) n20 c21)])), (0, bk4, (.cells 24 [(sS (some q11) n_g c_g)]))]⟩ (by kernel_rfl) ?_
       refine WL_nil ?_
       refine WQ_code ?_
       refine WC_seq ?_
       refine WC_cond (b := (decide ((((j : Nat) : Int) : Int) < ((n38 : Nat) : Int)))) rfl (fun hcj => ?_) (fun hcj => ?_)
       ·
        replace hcj := of_decide_eq_true hcj
        refine WC_skip ?_
        refine WQ_code ?_
        refine WC_seq ?_
        refine WC_block ?_
        refine WC_seq (WC_region ?_)
        obtain ⟨q41, rfl⟩ := hs36.ptr (by omega)
        obtain ⟨x44, _, hx42, ⟨rfl, hn45⟩, at43⟩ := hs36.get j (by omega)
        replace at43 : At G22 (q41.add (j * 1)) [.string x44] := at43
        refine WL_op (WOp_idx htb q41 n38 ((j : Nat) : Int) 1 (by kernel_rfl) (by omega) (by omega) ?_)
        refine WL_op (WOp_ld htb (q41.add (j * 1)) false 1 [.string x44] (by kernel_rfl) (at43.mono hleb) rfl (by decide) ?_)
        refine WL_execS htb 1 [17, 84, 83, 82, 14, 77, 76, 75, 13, 12, 66, 65, 64, 10, 9, 4] [4, 3, 2, 1] ⟨[(17, (tS x44)), (84, (iN j)), (83, (iN n38)), (82, (sS (some q41) n38 c39)), (14, (iN k)), (77, (iN k)), (76, (iN n20)), (75, (sS (some q31) n20 c21)), (13, (sS (some ⟨bk27, 0, none⟩) n20 n20)), (12, (.p 5 0)), (66, (iN r)), (65, (iN n_g)), (64, (sS (some q11) n_g c_g)), (10, (.p 2 0)), (9, (.v (.pointer (some (⟨bk, 0, none⟩ : Addr))))), (4, (.p 1 0))], [(4, (.lst z2 46 arr2)), (3, (.lst z 9 arr)), (2, (.cells 41 [(sS A_r7 n_r7 c_r7), (.ls z 3 accN.length cap), (.ls z2 4 accA.length cap2)])), (1, (.cells 41 [(sS none 0 0), (sS none 0 0), (sS none 0 0)]))], 7, [], [(5, bk23, (.cells 34 [(tS x14), (sS (some q31) n20 c21)])), (0, bk4, (.cells 24 [(sS (some q11) n_g c_g)]))]⟩ (by kernel_rfl) ?_
        refine WL_nil ?_
        refine WQ_code ?_
        refine WC_seq (WC_region ?_)
        refine WL_execS htb 3 [91, 17, 84, 83, 82, 14, 77, 76, 75, 13, 12, 66, 65, 64, 10, 9, 4] [4, 3, 2, 1] ⟨[(91, (.v (.pointer (some ((⟨bk, 0, none⟩ : Addr).add 1))))), (17, (tS x44)), (84, (iN j)), (83, (iN n38)), (82, (sS (some q41) n38 c39)), (14, (iN k)), (77, (iN k)), (76, (iN n20)), (75, (sS (some q31) n20 c21)), (13, (sS (some ⟨bk27, 0, none⟩) n20 n20)), (12, (.p 5 0)), (66, (iN r)), (65, (iN n_g)), (64, (sS (some q11) n_g c_g)), (10, (.p 2 0)), (9, (.v (.pointer (some (⟨bk, 0, none⟩ : Addr))))), (4, (.p 1 0))], [(4, (.lst z2 46 arr2)), (3, (.lst z 9 arr)), (2, (.cells 41 [(sS A_r7 n_r7 c_r7), (.ls z 3 accN.length cap), (.ls z2 4 accA.length cap2)])), (1, (.cells 41 [(sS none 0 0), (sS none 0 0), (sS none 0 0)]))], 7, [], [(5, bk23, (.cells 34 [(tS x14), (sS (some q31) n20 c21)])), (0, bk4, (.cells 24 [(sS (some q11) n_g c_g)]))]⟩ (by kernel_rfl) ?_
        refine WL_op (WOp_ld htb ((⟨bk, 0, none⟩ : Addr).add 1) false 1 [.map (some m1)] (by kernel_rfl) ((hB.at'.field 1 rfl).mono hleb) rfl (by decide) ?_)
        refine WL_execS htb 1 [93, 92, 17, 84, 83, 82, 14, 77, 76, 75, 13, 12, 66, 65, 64, 10, 9, 4] [4, 3, 2, 1] ⟨[(93, (tS x44)), (92, (.v (.map (some m1)))), (17, (tS x44)), (84, (iN j)), (83, (iN n38)), (82, (sS (some q41) n38 c39)), (14, (iN k)), (77, (iN k)), (76, (iN n20)), (75, (sS (some q31) n20 c21)), (13, (sS (some ⟨bk27, 0, none⟩) n20 n20)), (12, (.p 5 0)), (66, (iN r)), (65, (iN n_g)), (64, (sS (some q11) n_g c_g)), (10, (.p 2 0)), (9, (.v (.pointer (some (⟨bk, 0, none⟩ : Addr))))), (4, (.p 1 0))], [(4, (.lst z2 46 arr2)), (3, (.lst z 9 arr)), (2, (.cells 41 [(sS A_r7 n_r7 c_r7), (.ls z 3 accN.length cap), (.ls z2 4 accA.length cap2)])), (1, (.cells 41 [(sS none 0 0), (sS none 0 0), (sS none 0 0)]))], 7, [], [(5, bk23, (.cells 34 [(tS x14), (sS (some q31) n20 c21)])), (0, bk4, (.cells 24 [(sS (some q11) n_g c_g)]))]⟩ (by kernel_rfl) ?_
        have hlra := hlr2 _ (List.mem_of_getElem? hx32)
        refine WL_op (WOp_look htb m1 (tS x44) true 9 (.int .i64 0) (by kernel_rfl) (keyEnc_str (kt := 9) (by kernel_rfl)) x44 (fun ρ => rfl) (hB.tok.mono hleb) (v := (.int .i64 (tokV tk x44))) (tokF_val tk x44) (is := (decide (0 ≤ placeB tk x44))) (tokF_isd tk x44) ?_)
        show WL _ _ _ _ _ _ ⟨[(94, (.tup [(iI (tokV tk x44)), (bB (decide (0 ≤ placeB tk x44)))])), (93, (tS x44)), (92, (.v (.map (some m1)))), (17, (tS x44)), (84, (iN j)), (83, (iN n38)), (82, (sS (some q41) n38 c39)), (14, (iN k)), (77, (iN k)), (76, (iN n20)), (75, (sS (some q31) n20 c21)), (13, (sS (some ⟨bk27, 0, none⟩) n20 n20)), (12, (.p 5 0)), (66, (iN r)), (65, (iN n_g)), (64, (sS (some q11) n_g c_g)), (10, (.p 2 0)), (9, (.v (.pointer (some (⟨bk, 0, none⟩ : Addr))))), (4, (.p 1 0))], [(4, (.lst z2 46 arr2)), (3, (.lst z 9 arr)), (2, (.cells 41 [(sS A_r7 n_r7 c_r7), (.ls z 3 accN.length cap), (.ls z2 4 accA.length cap2)])), (1, (.cells 41 [(sS none 0 0), (sS none 0 0), (sS none 0 0)]))], 7, [], [(5, bk23, (.cells 34 [(tS x14), (sS (some q31) n20 c21)])), (0, bk4, (.cells 24 [(sS (some q11) n_g c_g)]))]⟩ _
        refine WL_execS htb 5 [19, 18, 17, 84, 83, 82, 14, 77, 76, 75, 13, 12, 66, 65, 64, 10, 9, 4] [4, 3, 2, 1] ⟨[(19, (bB (decide (0 ≤ placeB tk x44)))), (18, (iI (tokV tk x44))), (17, (tS x44)), (84, (iN j)), (83, (iN n38)), (82, (sS (some q41) n38 c39)), (14, (iN k)), (77, (iN k)), (76, (iN n20)), (75, (sS (some q31) n20 c21)), (13, (sS (some ⟨bk27, 0, none⟩) n20 n20)), (12, (.p 5 0)), (66, (iN r)), (65, (iN n_g)), (64, (sS (some q11) n_g c_g)), (10, (.p 2 0)), (9, (.v (.pointer (some (⟨bk, 0, none⟩ : Addr))))), (4, (.p 1 0))], [(4, (.lst z2 46 arr2)), (3, (.lst z 9 arr)), (2, (.cells 41 [(sS A_r7 n_r7 c_r7), (.ls z 3 accN.length cap), (.ls z2 4 accA.length cap2)])), (1, (.cells 41 [(sS none 0 0), (sS none 0 0), (sS none 0 0)]))], 7, [], [(5, bk23, (.cells 34 [(tS x14), (sS (some q31) n20 c21)])), (0, bk4, (.cells 24 [(sS (some q11) n_g c_g)]))]⟩ (by kernel_rfl) ?_
        refine WL_nil ?_
        refine WQ_code ?_
        refine WC_seq (WC_region ?_)
        refine WL_execS htb 1 [97, 18, 17, 84, 83, 82, 14, 77, 76, 75, 13, 12, 66, 65, 64, 10, 9, 4] [4, 3, 2, 1] ⟨[(97, (bB (decide (0 ≤ placeB tk x44)))), (18, (iI (tokV tk x44))), (17, (tS x44)), (84, (iN j)), (83, (iN n38)), (82, (sS (some q41) n38 c39)), (14, (iN k)), (77, (iN k)), (76, (iN n20)), (75, (sS (some q31) n20 c21)), (13, (sS (some ⟨bk27, 0, none⟩) n20 n20)), (12, (.p 5 0)), (66, (iN r)), (65, (iN n_g)), (64, (sS (some q11) n_g c_g)), (10, (.p 2 0)), (9, (.v (.pointer (some (⟨bk, 0, none⟩ : Addr))))), (4, (.p 1 0))], [(4, (.lst z2 46 arr2)), (3, (.lst z 9 arr)), (2, (.cells 41 [(sS A_r7 n_r7 c_r7), (.ls z 3 accN.length cap), (.ls z2 4 accA.length cap2)])), (1, (.cells 41 [(sS none 0 0), (sS none 0 0), (sS none 0 0)]))], 7, [], [(5, bk23, (.cells 34 [(tS x14), (sS (some q31) n20 c21)])), (0, bk4, (.cells 24 [(sS (some q11) n_g c_g)]))]⟩ (by kernel_rfl) ?_
        refine WL_nil ?_
        refine WQ_code ?_
        refine WC_cond (b := (decide (0 ≤ placeB tk x44))) rfl (fun hd => ?_) (fun hd => ?_)
        ·
         replace hd := of_decide_eq_true hd
         refine WC_region ?_
         refine WL_execS htb 4 [101, 100, 99, 98, 18, 84, 83, 82, 14, 77, 76, 75, 13, 12, 66, 65, 64, 10, 9, 4] [4, 3, 2, 1] ⟨[(101, (iN k)), (100, (sS (some ⟨bk27, 0, none⟩) n20 n20)), (99, (iN k)), (98, (sS (some ⟨bk27, 0, none⟩) n20 n20)), (18, (iI (tokV tk x44))), (84, (iN j)), (83, (iN n38)), (82, (sS (some q41) n38 c39)), (14, (iN k)), (77, (iN k)), (76, (iN n20)), (75, (sS (some q31) n20 c21)), (13, (sS (some ⟨bk27, 0, none⟩) n20 n20)), (12, (.p 5 0)), (66, (iN r)), (65, (iN n_g)), (64, (sS (some q11) n_g c_g)), (10, (.p 2 0)), (9, (.v (.pointer (some (⟨bk, 0, none⟩ : Addr))))), (4, (.p 1 0))], [(4, (.lst z2 46 arr2)), (3, (.lst z 9 arr)), (2, (.cells 41 [(sS A_r7 n_r7 c_r7), (.ls z 3 accN.length cap), (.ls z2 4 accA.length cap2)])), (1, (.cells 41 [(sS none 0 0), (sS none 0 0), (sS none 0 0)]))], 7, [], [(5, bk23, (.cells 34 [(tS x14), (sS (some q31) n20 c21)])), (0, bk4, (.cells 24 [(sS (some q11) n_g c_g)]))]⟩ (by kernel_rfl) ?_
         refine WL_op (WOp_idx htb (⟨bk27, 0, none⟩) n20 ((k : Nat) : Int) 1 (by kernel_rfl) (by omega) (by omega) ?_)
         refine WL_op (WOp_ld htb ((⟨bk27, 0, none⟩ : Addr).add (k * 1)) false 1 [(nilOr zc (.slice (some ⟨bl, 0, none⟩) cur.length cp))] (by kernel_rfl) (hR.cell' (by omega)) rfl (by decide) ?_)
         show WL _ _ _ _ _ _ ⟨[(103, (.v ((nilOr zc (.slice (some ⟨bl, 0, none⟩) cur.length cp))))), (102, (.v (.pointer (some ((⟨bk27, 0, none⟩ : Addr).add (k * 1)))))), (101, (iN k)), (100, (sS (some ⟨bk27, 0, none⟩) n20 n20)), (99, (iN k)), (98, (sS (some ⟨bk27, 0, none⟩) n20 n20)), (18, (iI (tokV tk x44))), (84, (iN j)), (83, (iN n38)), (82, (sS (some q41) n38 c39)), (14, (iN k)), (77, (iN k)), (76, (iN n20)), (75, (sS (some q31) n20 c21)), (13, (sS (some ⟨bk27, 0, none⟩) n20 n20)), (12, (.p 5 0)), (66, (iN r)), (65, (iN n_g)), (64, (sS (some q11) n_g c_g)), (10, (.p 2 0)), (9, (.v (.pointer (some (⟨bk, 0, none⟩ : Addr))))), (4, (.p 1 0))], [(4, (.lst z2 46 arr2)), (3, (.lst z 9 arr)), (2, (.cells 41 [(sS A_r7 n_r7 c_r7), (.ls z 3 accN.length cap), (.ls z2 4 accA.length cap2)])), (1, (.cells 41 [(sS none 0 0), (sS none 0 0), (sS none 0 0)]))], 7, [], [(5, bk23, (.cells 34 [(tS x14), (sS (some q31) n20 c21)])), (0, bk4, (.cells 24 [(sS (some q11) n_g c_g)]))]⟩ _
         refine WL_execS htb 2 [105, 103, 99, 98, 84, 83, 82, 14, 77, 76, 75, 13, 12, 66, 65, 64, 10, 9, 4] [7, 4, 3, 2, 1] ⟨[(105, (.s 7 1 1)), (103, (.v ((nilOr zc (.slice (some ⟨bl, 0, none⟩) cur.length cp))))), (99, (iN k)), (98, (sS (some ⟨bk27, 0, none⟩) n20 n20)), (84, (iN j)), (83, (iN n38)), (82, (sS (some q41) n38 c39)), (14, (iN k)), (77, (iN k)), (76, (iN n20)), (75, (sS (some q31) n20 c21)), (13, (sS (some ⟨bk27, 0, none⟩) n20 n20)), (12, (.p 5 0)), (66, (iN r)), (65, (iN n_g)), (64, (sS (some q11) n_g c_g)), (10, (.p 2 0)), (9, (.v (.pointer (some (⟨bk, 0, none⟩ : Addr))))), (4, (.p 1 0))], [(7, (.cells 3 [(iI (tokV tk x44))])), (4, (.lst z2 46 arr2)), (3, (.lst z 9 arr)), (2, (.cells 41 [(sS A_r7 n_r7 c_r7), (.ls z 3 accN.length cap), (.ls z2 4 accA.length cap2)])), (1, (.cells 41 [(sS none 0 0), (sS none 0 0), (sS none 0 0)]))], 8, [], [(5, bk23, (.cells 34 [(tS x14), (sS (some q31) n20 c21)])), (0, bk4, (.cells 24 [(sS (some q11) n_g c_g)]))]⟩ (by kernel_rfl) ?_
         have hzz1 := hz.mono hbq
         refine WK_freezeV 7 rfl rfl rfl rfl ?_
         intro bk47 G46 hle hbk47
         replace hleb := Le.trans hleb hle
         replace hR := hR.mono hle
         show WK _ _ ⟨[(105, (sS (some ⟨bk47, 0, none⟩) 1 1)), (103, (.v ((nilOr zc (.slice (some ⟨bl, 0, none⟩) cur.length cp))))), (99, (iN k)), (98, (sS (some ⟨bk27, 0, none⟩) n20 n20)), (84, (iN j)), (83, (iN n38)), (82, (sS (some q41) n38 c39)), (14, (iN k)), (77, (iN k)), (76, (iN n20)), (75, (sS (some q31) n20 c21)), (13, (sS (some ⟨bk27, 0, none⟩) n20 n20)), (12, (.p 5 0)), (66, (iN r)), (65, (iN n_g)), (64, (sS (some q11) n_g c_g)), (10, (.p 2 0)), (9, (.v (.pointer (some (⟨bk, 0, none⟩ : Addr))))), (4, (.p 1 0))], [(4, (.lst z2 46 arr2)), (3, (.lst z 9 arr)), (2, (.cells 41 [(sS A_r7 n_r7 c_r7), (.ls z 3 accN.length cap), (.ls z2 4 accA.length cap2)])), (1, (.cells 41 [(sS none 0 0), (sS none 0 0), (sS none 0 0)]))], 8, [], [(5, bk23, (.cells 34 [(tS x14), (sS (some q31) n20 c21)])), (0, bk4, (.cells 24 [(sS (some q11) n_g c_g)]))]⟩ _
         have hs48 : Sl (tInt .i64) G46 (some ⟨bk47, 0, none⟩) 1 1 [(tokV tk x44)] := Sl.lit (cs := [.int .i64 (tokV tk x44)]) (RepsL.cons' (rep_int _ (x := (tokV tk x44)) (tokV_bd htk x44)) .nil) hbk47 rfl (by unfold big; omega)
         have lhs48 := hs48.len'
         refine WL_op (WOp_appendG htb (nilOr zc (.slice (some ⟨bl, 0, none⟩) cur.length cp)) (some ⟨bk47, 0, none⟩) 1 3 1 8 (by kernel_rfl) zc bl cp (fun hzz => ⟨(hR.blk hzz).1, none_ofE (Le.trans hle0 hbq) (hR.blk hzz).2.1, hzz1.ne (hR.blk hzz).2.1⟩) (tInt .i64) (xs := cur) (ys := [(tokV tk x44)]) rfl (hR.own.mono hR.le) hR.nil hs48.row rfl (by simp) rfl (by decide) (by simp only [List.length_cons, List.length_nil]; omega) (by unfold big; simp only [List.length_cons, List.length_nil]; omega) (fun bl' ar' cp' hbb hoo => ?_))
         show WL _ _ _ _ _ _ ⟨[(106, (sS (some ⟨bl', 0, none⟩) ((cur ++ [(tokV tk x44)]).length) cp')), (105, (sS (some ⟨bk47, 0, none⟩) 1 1)), (103, (.v ((nilOr zc (.slice (some ⟨bl, 0, none⟩) cur.length cp))))), (99, (iN k)), (98, (sS (some ⟨bk27, 0, none⟩) n20 n20)), (84, (iN j)), (83, (iN n38)), (82, (sS (some q41) n38 c39)), (14, (iN k)), (77, (iN k)), (76, (iN n20)), (75, (sS (some q31) n20 c21)), (13, (sS (some ⟨bk27, 0, none⟩) n20 n20)), (12, (.p 5 0)), (66, (iN r)), (65, (iN n_g)), (64, (sS (some q11) n_g c_g)), (10, (.p 2 0)), (9, (.v (.pointer (some (⟨bk, 0, none⟩ : Addr))))), (4, (.p 1 0))], [(4, (.lst z2 46 arr2)), (3, (.lst z 9 arr)), (2, (.cells 41 [(sS A_r7 n_r7 c_r7), (.ls z 3 accN.length cap), (.ls z2 4 accA.length cap2)])), (1, (.cells 41 [(sS none 0 0), (sS none 0 0), (sS none 0 0)]))], 8, [], [(5, bk23, (.cells 34 [(tS x14), (sS (some q31) n20 c21)])), (0, bk4, (.cells 24 [(sS (some q11) n_g c_g)]))]⟩ _
         refine WL_op (WOp_idx htb (⟨bk27, 0, none⟩) n20 ((k : Nat) : Int) 1 (by kernel_rfl) (by omega) (by omega) ?_)
         have hR2 := hR.put (by omega) hbb hoo (fun H h => h.anyI) rfl
         refine WL_op (WOp_stoG htb ((⟨bk27, 0, none⟩ : Addr).add (k * 1)) [(sS (some ⟨bl', 0, none⟩) ((cur ++ [(tokV tk x44)]).length) cp')] [.slice (some ⟨bl', 0, none⟩) (cur ++ [(tokV tk x44)]).length cp'] (by kernel_rfl) (fun ρ => rfl) (off := k) (by simp [add_lit']) (hR.row' hbb _) (none_ofE (Le.trans hle0 hbq) hR.new0) (hzz1.ne hR.new0) (by have := hR.sz; show k + 1 ≤ ar.size; omega) ?_)
         refine WL_nil ?_
         refine WQ_blk ?_
         refine WQ_code ?_
         refine WC_region ?_
         refine WL_execS htb 2 [84, 83, 82, 14, 77, 76, 75, 13, 12, 66, 65, 64, 10, 9, 4] [4, 3, 2, 1] ⟨[(84, (iI (IntKind.i64.wrap (((j : Nat) : Int) + 1)))), (83, (iN n38)), (82, (sS (some q41) n38 c39)), (14, (iN k)), (77, (iN k)), (76, (iN n20)), (75, (sS (some q31) n20 c21)), (13, (sS (some ⟨bk27, 0, none⟩) n20 n20)), (12, (.p 5 0)), (66, (iN r)), (65, (iN n_g)), (64, (sS (some q11) n_g c_g)), (10, (.p 2 0)), (9, (.v (.pointer (some (⟨bk, 0, none⟩ : Addr))))), (4, (.p 1 0))], [(4, (.lst z2 46 arr2)), (3, (.lst z 9 arr)), (2, (.cells 41 [(sS A_r7 n_r7 c_r7), (.ls z 3 accN.length cap), (.ls z2 4 accA.length cap2)])), (1, (.cells 41 [(sS none 0 0), (sS none 0 0), (sS none 0 0)]))], 8, [], [(5, bk23, (.cells 34 [(tS x14), (sS (some q31) n20 c21)])), (0, bk4, (.cells 24 [(sS (some q11) n_g c_g)]))]⟩ (by kernel_rfl) ?_
         refine WL_nil ?_
         refine WK_env [(84, (iN (j + 1))), (83, (iN n38)), (82, (sS (some q41) n38 c39)), (14, (iN k)), (77, (iN k)), (76, (iN n20)), (75, (sS (some q31) n20 c21)), (13, (sS (some ⟨bk27, 0, none⟩) n20 n20)), (12, (.p 5 0)), (66, (iN r)), (65, (iN n_g)), (64, (sS (some q11) n_g c_g)), (10, (.p 2 0)), (9, (.v (.pointer (some (⟨bk, 0, none⟩ : Addr))))), (4, (.p 1 0))] (fun ρ => ⟨rfl, (congrArg (Value.int .i64) (by rw [wrap_id (by omega)]; first | rfl | omega)), ⟨rfl, rfl, ⟨rfl, rfl, ⟨rfl, rfl, ⟨rfl, rfl, ⟨rfl, rfl, ⟨rfl, rfl, ⟨rfl, rfl, ⟨rfl, rfl, ⟨rfl, rfl, ⟨rfl, rfl, ⟨rfl, rfl, ⟨rfl, rfl, ⟨rfl, rfl, ⟨rfl, rfl, trivial⟩⟩⟩⟩⟩⟩⟩⟩⟩⟩⟩⟩⟩⟩⟩) ?_
         refine WK_keep [84, 83, 82, 14, 77, 76, 75, 13, 12, 66, 65, 64, 10, 9, 4] [4, 3, 2, 1] rfl rfl ?_
         exact WQ_next ((j + 1), (cur ++ [tokV tk x44]), false, bl', cp', _, _) (by show n38 - (j + 1) < n38 - j; omega) ⟨by omega, hR2, (by rw [take_succ' hx42, List.map_append, ← hcur]; exact congrArg (fun y => cur ++ [y]) (codeN_tok hd).symm)⟩ (fun ρ a w h => h)
        ·
         replace hd := of_decide_eq_false hd
         refine WK_keep [17, 84, 83, 82, 14, 77, 76, 75, 13, 12, 66, 65, 64, 10, 9, 4] [4, 3, 2, 1] rfl rfl ?_
         refine WC_drawG mixed G22 ?_
         refine WD_takeL htb rfl (fun _ _ _ _ _ h => h) hleb [0, 1, 2, 3, 6, 7, 8, 10] (fuel := 11) (listed' := bts 19 1487) (S' := ⟨[(118, (tS x44)), (116, (.v (.pointer (some ((⟨bk, 0, none⟩ : Addr).add 2))))), (115, (.v (.pointer (some (⟨bk, 0, none⟩ : Addr))))), (114, (.v (.pointer (some (⟨bk, 0, none⟩ : Addr))))), (111, (iN k)), (110, (sS (some ⟨bk27, 0, none⟩) n20 n20)), (109, (iN k)), (108, (sS (some ⟨bk27, 0, none⟩) n20 n20)), (17, (tS x44)), (84, (iN j)), (83, (iN n38)), (82, (sS (some q41) n38 c39)), (14, (iN k)), (77, (iN k)), (76, (iN n20)), (75, (sS (some q31) n20 c21)), (13, (sS (some ⟨bk27, 0, none⟩) n20 n20)), (12, (.p 5 0)), (66, (iN r)), (65, (iN n_g)), (64, (sS (some q11) n_g c_g)), (10, (.p 2 0)), (9, (.v (.pointer (some (⟨bk, 0, none⟩ : Addr))))), (4, (.p 1 0))], [(4, (.lst z2 46 arr2)), (3, (.lst z 9 arr)), (2, (.cells 41 [(sS A_r7 n_r7 c_r7), (.ls z 3 accN.length cap), (.ls z2 4 accA.length cap2)])), (1, (.cells 41 [(sS none 0 0), (sS none 0 0), (sS none 0 0)]))], 7, [], [(5, bk23, (.cells 34 [(tS x14), (sS (some q31) n20 c21)])), (0, bk4, (.cells 24 [(sS (some q11) n_g c_g)]))]⟩) hz (by kernel_rfl) rfl ?_
         refine WD_ld htb 9 (by rfl) rfl (by decide +kernel) (fun _ _ _ _ _ h => h) hleb ((⟨bk, 0, none⟩ : Addr).add 2) false 1 [.map (some m2)] (by kernel_rfl) ((hB.at'.field 2 rfl).mono (Le.refl _)) rfl (by decide) ?_
         obtain ⟨fr, hfr, hrs⟩ := hB.rul
         obtain ⟨Ai, ni, ci, hvi, hsi⟩ := book_get hrs x44
         have lhsi := hsi.len'
         have hip := idx_pos hfl (mem_allNames hx12 hx32 hx42) (by simpa using hd)
         refine WD_idx htb 4 (by rfl) rfl (by decide +kernel) (fun _ _ _ _ _ h => h) hleb (⟨bk27, 0, none⟩) n20 ((k : Nat) : Int) 1 (by kernel_rfl) (by omega) (by omega) ?_
         refine WD_two 5 11 (by rfl) (by rfl) (by decide +kernel) ?_ ?_
         ·
          skip
          refine WOp_ld htb ((⟨bk27, 0, none⟩ : Addr).add (k * 1)) false 1 [(nilOr zc (.slice (some ⟨bl, 0, none⟩) cur.length cp))] (by kernel_rfl) (hR.cell' (by omega)) rfl (by decide) (WD_on hleb ?_)
          show WD _ _ _ _ _ _ _ _ _ ⟨[(113, (.v ((nilOr zc (.slice (some ⟨bl, 0, none⟩) cur.length cp))))), (112, (.v (.pointer (some ((⟨bk27, 0, none⟩ : Addr).add (k * 1)))))), (117, (.v (.map (some m2)))), (118, (tS x44)), (116, (.v (.pointer (some ((⟨bk, 0, none⟩ : Addr).add 2))))), (115, (.v (.pointer (some (⟨bk, 0, none⟩ : Addr))))), (114, (.v (.pointer (some (⟨bk, 0, none⟩ : Addr))))), (111, (iN k)), (110, (sS (some ⟨bk27, 0, none⟩) n20 n20)), (109, (iN k)), (108, (sS (some ⟨bk27, 0, none⟩) n20 n20)), (17, (tS x44)), (84, (iN j)), (83, (iN n38)), (82, (sS (some q41) n38 c39)), (14, (iN k)), (77, (iN k)), (76, (iN n20)), (75, (sS (some q31) n20 c21)), (13, (sS (some ⟨bk27, 0, none⟩) n20 n20)), (12, (.p 5 0)), (66, (iN r)), (65, (iN n_g)), (64, (sS (some q11) n_g c_g)), (10, (.p 2 0)), (9, (.v (.pointer (some (⟨bk, 0, none⟩ : Addr))))), (4, (.p 1 0))], [(4, (.lst z2 46 arr2)), (3, (.lst z 9 arr)), (2, (.cells 41 [(sS A_r7 n_r7 c_r7), (.ls z 3 accN.length cap), (.ls z2 4 accA.length cap2)])), (1, (.cells 41 [(sS none 0 0), (sS none 0 0), (sS none 0 0)]))], 7, [], [(5, bk23, (.cells 34 [(tS x14), (sS (some q31) n20 c21)])), (0, bk4, (.cells 24 [(sS (some q11) n_g c_g)]))]⟩
          refine WD_one 11 (by rfl) (by decide +kernel) (WOp_look htb m2 (tS x44) false 9 (.slice none 0 0) (by kernel_rfl) (keyEnc_str (kt := 9) (by kernel_rfl)) x44 (fun ρ => rfl) (hfr.mono hleb) (v := (.slice Ai ni ci)) hvi (is := ((fr x44).isSome)) rfl (WD_on hleb ?_))
          show WD _ _ _ _ _ _ _ _ _ ⟨[(119, (sS Ai ni ci)), (113, (.v ((nilOr zc (.slice (some ⟨bl, 0, none⟩) cur.length cp))))), (112, (.v (.pointer (some ((⟨bk27, 0, none⟩ : Addr).add (k * 1)))))), (117, (.v (.map (some m2)))), (118, (tS x44)), (116, (.v (.pointer (some ((⟨bk, 0, none⟩ : Addr).add 2))))), (115, (.v (.pointer (some (⟨bk, 0, none⟩ : Addr))))), (114, (.v (.pointer (some (⟨bk, 0, none⟩ : Addr))))), (111, (iN k)), (110, (sS (some ⟨bk27, 0, none⟩) n20 n20)), (109, (iN k)), (108, (sS (some ⟨bk27, 0, none⟩) n20 n20)), (17, (tS x44)), (84, (iN j)), (83, (iN n38)), (82, (sS (some q41) n38 c39)), (14, (iN k)), (77, (iN k)), (76, (iN n20)), (75, (sS (some q31) n20 c21)), (13, (sS (some ⟨bk27, 0, none⟩) n20 n20)), (12, (.p 5 0)), (66, (iN r)), (65, (iN n_g)), (64, (sS (some q11) n_g c_g)), (10, (.p 2 0)), (9, (.v (.pointer (some (⟨bk, 0, none⟩ : Addr))))), (4, (.p 1 0))], [(4, (.lst z2 46 arr2)), (3, (.lst z 9 arr)), (2, (.cells 41 [(sS A_r7 n_r7 c_r7), (.ls z 3 accN.length cap), (.ls z2 4 accA.length cap2)])), (1, (.cells 41 [(sS none 0 0), (sS none 0 0), (sS none 0 0)]))], 7, [], [(5, bk23, (.cells 34 [(tS x14), (sS (some q31) n20 c21)])), (0, bk4, (.cells 24 [(sS (some q11) n_g c_g)]))]⟩
          have hzz1 := hz.mono hbq
          obtain ⟨q46, rfl⟩ := hsi.ptr (by omega)
          obtain ⟨x49, _, hx47, ⟨rfl, hn50⟩, at48⟩ := hsi.get 0 (by omega)
          have bdhn50 : -9223372036854775808 ≤ x49 ∧ x49 ≤ 9223372036854775807 := bd_of hn50
          have nthn50 := notInt_i64 bdhn50
          replace at48 : At G22 (q46.add (0 * 1)) [.int .i64 x49] := at48
          refine WD_idx htb 12 (by rfl) rfl (by decide +kernel) (fun _ _ _ _ _ h => h) hleb q46 ni 0 1 (by kernel_rfl) (by omega) (by omega) ?_
          refine WD_ld htb 13 (by rfl) rfl (by decide +kernel) (fun _ _ _ _ _ h => h) hleb (q46.add (0 * 1)) false 1 [.int .i64 x49] (by kernel_rfl) (at48.mono (Le.refl _)) rfl (by decide) ?_
          refine WD_takeL htb rfl (fun _ _ _ _ _ h => h) hleb [14] (fuel := 4) (listed' := bts 19 32767) (S' := ⟨[(122, (iI (notInt .i64 x49))), (121, (iI x49)), (120, (.v (.pointer (some (q46.add (0 * 1)))))), (119, (sS (some q46) ni ci)), (113, (.v ((nilOr zc (.slice (some ⟨bl, 0, none⟩) cur.length cp))))), (112, (.v (.pointer (some ((⟨bk27, 0, none⟩ : Addr).add (k * 1)))))), (117, (.v (.map (some m2)))), (118, (tS x44)), (116, (.v (.pointer (some ((⟨bk, 0, none⟩ : Addr).add 2))))), (115, (.v (.pointer (some (⟨bk, 0, none⟩ : Addr))))), (114, (.v (.pointer (some (⟨bk, 0, none⟩ : Addr))))), (111, (iN k)), (110, (sS (some ⟨bk27, 0, none⟩) n20 n20)), (109, (iN k)), (108, (sS (some ⟨bk27, 0, none⟩) n20 n20)), (17, (tS x44)), (84, (iN j)), (83, (iN n38)), (82, (sS (some q41) n38 c39)), (14, (iN k)), (77, (iN k)), (76, (iN n20)), (75, (sS (some q31) n20 c21)), (13, (sS (some ⟨bk27, 0, none⟩) n20 n20)), (12, (.p 5 0)), (66, (iN r)), (65, (iN n_g)), (64, (sS (some q11) n_g c_g)), (10, (.p 2 0)), (9, (.v (.pointer (some (⟨bk, 0, none⟩ : Addr))))), (4, (.p 1 0))], [(4, (.lst z2 46 arr2)), (3, (.lst z 9 arr)), (2, (.cells 41 [(sS A_r7 n_r7 c_r7), (.ls z 3 accN.length cap), (.ls z2 4 accA.length cap2)])), (1, (.cells 41 [(sS none 0 0), (sS none 0 0), (sS none 0 0)]))], 7, [], [(5, bk23, (.cells 34 [(tS x14), (sS (some q31) n20 c21)])), (0, bk4, (.cells 24 [(sS (some q11) n_g c_g)]))]⟩) hz (by kernel_rfl) rfl ?_
          refine WD_one 15 (by rfl) (by decide +kernel) (WOp_step htb (S' := ⟨[(123, (.s 7 1 1)), (122, (iI (notInt .i64 x49))), (121, (iI x49)), (120, (.v (.pointer (some (q46.add (0 * 1)))))), (119, (sS (some q46) ni ci)), (113, (.v ((nilOr zc (.slice (some ⟨bl, 0, none⟩) cur.length cp))))), (112, (.v (.pointer (some ((⟨bk27, 0, none⟩ : Addr).add (k * 1)))))), (117, (.v (.map (some m2)))), (118, (tS x44)), (116, (.v (.pointer (some ((⟨bk, 0, none⟩ : Addr).add 2))))), (115, (.v (.pointer (some (⟨bk, 0, none⟩ : Addr))))), (114, (.v (.pointer (some (⟨bk, 0, none⟩ : Addr))))), (111, (iN k)), (110, (sS (some ⟨bk27, 0, none⟩) n20 n20)), (109, (iN k)), (108, (sS (some ⟨bk27, 0, none⟩) n20 n20)), (17, (tS x44)), (84, (iN j)), (83, (iN n38)), (82, (sS (some q41) n38 c39)), (14, (iN k)), (77, (iN k)), (76, (iN n20)), (75, (sS (some q31) n20 c21)), (13, (sS (some ⟨bk27, 0, none⟩) n20 n20)), (12, (.p 5 0)), (66, (iN r)), (65, (iN n_g)), (64, (sS (some q11) n_g c_g)), (10, (.p 2 0)), (9, (.v (.pointer (some (⟨bk, 0, none⟩ : Addr))))), (4, (.p 1 0))], [(7, (.cells 3 [(iI (notInt .i64 x49))])), (4, (.lst z2 46 arr2)), (3, (.lst z 9 arr)), (2, (.cells 41 [(sS A_r7 n_r7 c_r7), (.ls z 3 accN.length cap), (.ls z2 4 accA.length cap2)])), (1, (.cells 41 [(sS none 0 0), (sS none 0 0), (sS none 0 0)]))], 8, [], [(5, bk23, (.cells 34 [(tS x14), (sS (some q31) n20 c21)])), (0, bk4, (.cells 24 [(sS (some q11) n_g c_g)]))]⟩) (by kernel_rfl) (WD_on hleb ?_))
          refine WK_freezeV 7 rfl rfl rfl rfl ?_
          intro bk52 G51 hle hbk52
          replace hleb := Le.trans hleb hle
          replace hR := hR.mono hle
          show WK _ _ ⟨[(123, (sS (some ⟨bk52, 0, none⟩) 1 1)), (122, (iI (notInt .i64 x49))), (121, (iI x49)), (120, (.v (.pointer (some (q46.add (0 * 1)))))), (119, (sS (some q46) ni ci)), (113, (.v ((nilOr zc (.slice (some ⟨bl, 0, none⟩) cur.length cp))))), (112, (.v (.pointer (some ((⟨bk27, 0, none⟩ : Addr).add (k * 1)))))), (117, (.v (.map (some m2)))), (118, (tS x44)), (116, (.v (.pointer (some ((⟨bk, 0, none⟩ : Addr).add 2))))), (115, (.v (.pointer (some (⟨bk, 0, none⟩ : Addr))))), (114, (.v (.pointer (some (⟨bk, 0, none⟩ : Addr))))), (111, (iN k)), (110, (sS (some ⟨bk27, 0, none⟩) n20 n20)), (109, (iN k)), (108, (sS (some ⟨bk27, 0, none⟩) n20 n20)), (17, (tS x44)), (84, (iN j)), (83, (iN n38)), (82, (sS (some q41) n38 c39)), (14, (iN k)), (77, (iN k)), (76, (iN n20)), (75, (sS (some q31) n20 c21)), (13, (sS (some ⟨bk27, 0, none⟩) n20 n20)), (12, (.p 5 0)), (66, (iN r)), (65, (iN n_g)), (64, (sS (some q11) n_g c_g)), (10, (.p 2 0)), (9, (.v (.pointer (some (⟨bk, 0, none⟩ : Addr))))), (4, (.p 1 0))], [(4, (.lst z2 46 arr2)), (3, (.lst z 9 arr)), (2, (.cells 41 [(sS A_r7 n_r7 c_r7), (.ls z 3 accN.length cap), (.ls z2 4 accA.length cap2)])), (1, (.cells 41 [(sS none 0 0), (sS none 0 0), (sS none 0 0)]))], 8, [], [(5, bk23, (.cells 34 [(tS x14), (sS (some q31) n20 c21)])), (0, bk4, (.cells 24 [(sS (some q11) n_g c_g)]))]⟩ _
          have hs53 : Sl (tInt .i64) G51 (some ⟨bk52, 0, none⟩) 1 1 [(notInt .i64 x49)] := Sl.lit (cs := [.int .i64 (notInt .i64 x49)]) (RepsL.cons' (rep_int _ (x := (notInt .i64 x49)) (by omega)) .nil) hbk52 rfl (by unfold big; omega)
          have lhs53 := hs53.len'
          refine WD_one 16 (by rfl) (by decide +kernel) (WOp_appendG htb (nilOr zc (.slice (some ⟨bl, 0, none⟩) cur.length cp)) (some ⟨bk52, 0, none⟩) 1 3 1 8 (by kernel_rfl) zc bl cp (fun hzz => ⟨(hR.blk hzz).1, none_ofE (Le.trans hle0 hbq) (hR.blk hzz).2.1, hzz1.ne (hR.blk hzz).2.1⟩) (tInt .i64) (xs := cur) (ys := [(notInt .i64 x49)]) rfl (hR.own.mono hR.le) hR.nil hs53.row rfl (by simp) rfl (by decide) (by simp only [List.length_cons, List.length_nil]; omega) (by unfold big; simp only [List.length_cons, List.length_nil]; omega) (fun bl' ar' cp' hbb hoo => (WD_on (Le.trans hbq (hR.le' hbb _)) ?_)))
          show WD _ _ _ _ _ _ _ _ _ ⟨[(124, (sS (some ⟨bl', 0, none⟩) ((cur ++ [(notInt .i64 x49)]).length) cp')), (123, (sS (some ⟨bk52, 0, none⟩) 1 1)), (122, (iI (notInt .i64 x49))), (121, (iI x49)), (120, (.v (.pointer (some (q46.add (0 * 1)))))), (119, (sS (some q46) ni ci)), (113, (.v ((nilOr zc (.slice (some ⟨bl, 0, none⟩) cur.length cp))))), (112, (.v (.pointer (some ((⟨bk27, 0, none⟩ : Addr).add (k * 1)))))), (117, (.v (.map (some m2)))), (118, (tS x44)), (116, (.v (.pointer (some ((⟨bk, 0, none⟩ : Addr).add 2))))), (115, (.v (.pointer (some (⟨bk, 0, none⟩ : Addr))))), (114, (.v (.pointer (some (⟨bk, 0, none⟩ : Addr))))), (111, (iN k)), (110, (sS (some ⟨bk27, 0, none⟩) n20 n20)), (109, (iN k)), (108, (sS (some ⟨bk27, 0, none⟩) n20 n20)), (17, (tS x44)), (84, (iN j)), (83, (iN n38)), (82, (sS (some q41) n38 c39)), (14, (iN k)), (77, (iN k)), (76, (iN n20)), (75, (sS (some q31) n20 c21)), (13, (sS (some ⟨bk27, 0, none⟩) n20 n20)), (12, (.p 5 0)), (66, (iN r)), (65, (iN n_g)), (64, (sS (some q11) n_g c_g)), (10, (.p 2 0)), (9, (.v (.pointer (some (⟨bk, 0, none⟩ : Addr))))), (4, (.p 1 0))], [(4, (.lst z2 46 arr2)), (3, (.lst z 9 arr)), (2, (.cells 41 [(sS A_r7 n_r7 c_r7), (.ls z 3 accN.length cap), (.ls z2 4 accA.length cap2)])), (1, (.cells 41 [(sS none 0 0), (sS none 0 0), (sS none 0 0)]))], 8, [], [(5, bk23, (.cells 34 [(tS x14), (sS (some q31) n20 c21)])), (0, bk4, (.cells 24 [(sS (some q11) n_g c_g)]))]⟩
          refine WD_idx htb 17 (by rfl) rfl (by decide +kernel) (fun _ _ _ _ _ h => h) (Le.trans hbq (hR.le' hbb _)) (⟨bk27, 0, none⟩) n20 ((k : Nat) : Int) 1 (by kernel_rfl) (by omega) (by omega) ?_
          have hR2 := hR.put (by omega) hbb hoo (fun H h => h.anyI) rfl
          refine WD_one 18 (by rfl) (by decide +kernel) (WOp_stoG htb ((⟨bk27, 0, none⟩ : Addr).add (k * 1)) [(sS (some ⟨bl', 0, none⟩) ((cur ++ [(notInt .i64 x49)]).length) cp')] [.slice (some ⟨bl', 0, none⟩) (cur ++ [(notInt .i64 x49)]).length cp'] (by kernel_rfl) (fun ρ => rfl) (off := k) (by simp [add_lit']) (hR.row' hbb _) (none_ofE (Le.trans hle0 hbq) hR.new0) (hzz1.ne hR.new0) (by have := hR.sz; show k + 1 ≤ ar.size; omega) (WD_on (Le.trans hbq hR2.le) ?_))
          refine WD_done (by decide +kernel) ?_
          refine WK_keep [84, 83, 82, 14, 77, 76, 75, 13, 12, 66, 65, 64, 10, 9, 4] [4, 3, 2, 1] rfl rfl ?_
          refine WQ_blk ?_
          refine WQ_code ?_
          refine WC_region ?_
          refine WL_execS htb 2 [84, 83, 82, 14, 77, 76, 75, 13, 12, 66, 65, 64, 10, 9, 4] [4, 3, 2, 1] ⟨[(84, (iI (IntKind.i64.wrap (((j : Nat) : Int) + 1)))), (83, (iN n38)), (82, (sS (some q41) n38 c39)), (14, (iN k)), (77, (iN k)), (76, (iN n20)), (75, (sS (some q31) n20 c21)), (13, (sS (some ⟨bk27, 0, none⟩) n20 n20)), (12, (.p 5 0)), (66, (iN r)), (65, (iN n_g)), (64, (sS (some q11) n_g c_g)), (10, (.p 2 0)), (9, (.v (.pointer (some (⟨bk, 0, none⟩ : Addr))))), (4, (.p 1 0))], [(4, (.lst z2 46 arr2)), (3, (.lst z 9 arr)), (2, (.cells 41 [(sS A_r7 n_r7 c_r7), (.ls z 3 accN.length cap), (.ls z2 4 accA.length cap2)])), (1, (.cells 41 [(sS none 0 0), (sS none 0 0), (sS none 0 0)]))], 8, [], [(5, bk23, (.cells 34 [(tS x14), (sS (some q31) n20 c21)])), (0, bk4, (.cells 24 [(sS (some q11) n_g c_g)]))]⟩ (by kernel_rfl) ?_
          refine WL_nil ?_
          refine WK_env [(84, (iN (j + 1))), (83, (iN n38)), (82, (sS (some q41) n38 c39)), (14, (iN k)), (77, (iN k)), (76, (iN n20)), (75, (sS (some q31) n20 c21)), (13, (sS (some ⟨bk27, 0, none⟩) n20 n20)), (12, (.p 5 0)), (66, (iN r)), (65, (iN n_g)), (64, (sS (some q11) n_g c_g)), (10, (.p 2 0)), (9, (.v (.pointer (some (⟨bk, 0, none⟩ : Addr))))), (4, (.p 1 0))] (fun ρ => ⟨rfl, (congrArg (Value.int .i64) (by rw [wrap_id (by omega)]; first | rfl | omega)), ⟨rfl, rfl, ⟨rfl, rfl, ⟨rfl, rfl, ⟨rfl, rfl, ⟨rfl, rfl, ⟨rfl, rfl, ⟨rfl, rfl, ⟨rfl, rfl, ⟨rfl, rfl, ⟨rfl, rfl, ⟨rfl, rfl, ⟨rfl, rfl, ⟨rfl, rfl, ⟨rfl, rfl, trivial⟩⟩⟩⟩⟩⟩⟩⟩⟩⟩⟩⟩⟩⟩⟩) ?_
          refine WK_keep [84, 83, 82, 14, 77, 76, 75, 13, 12, 66, 65, 64, 10, 9, 4] [4, 3, 2, 1] rfl rfl ?_
          exact WQ_next ((j + 1), (cur ++ [notInt .i64 x49]), false, bl', cp', _, _) (by show n38 - (j + 1) < n38 - j; omega) ⟨by omega, hR2, (by rw [take_succ' hx42, List.map_append, ← hcur]; exact congrArg (fun y => cur ++ [y]) (codeN_rule hd hx47 nthn50).symm)⟩ (fun ρ a w h => h)
         ·
          skip
          refine WOp_look htb m2 (tS x44) false 9 (.slice none 0 0) (by kernel_rfl) (keyEnc_str (kt := 9) (by kernel_rfl)) x44 (fun ρ => rfl) (hfr.mono hleb) (v := (.slice Ai ni ci)) hvi (is := ((fr x44).isSome)) rfl (WD_on hleb ?_)
          show WD _ _ _ _ _ _ _ _ _ ⟨[(119, (sS Ai ni ci)), (112, (.v (.pointer (some ((⟨bk27, 0, none⟩ : Addr).add (k * 1)))))), (117, (.v (.map (some m2)))), (118, (tS x44)), (116, (.v (.pointer (some ((⟨bk, 0, none⟩ : Addr).add 2))))), (115, (.v (.pointer (some (⟨bk, 0, none⟩ : Addr))))), (114, (.v (.pointer (some (⟨bk, 0, none⟩ : Addr))))), (111, (iN k)), (110, (sS (some ⟨bk27, 0, none⟩) n20 n20)), (109, (iN k)), (108, (sS (some ⟨bk27, 0, none⟩) n20 n20)), (17, (tS x44)), (84, (iN j)), (83, (iN n38)), (82, (sS (some q41) n38 c39)), (14, (iN k)), (77, (iN k)), (76, (iN n20)), (75, (sS (some q31) n20 c21)), (13, (sS (some ⟨bk27, 0, none⟩) n20 n20)), (12, (.p 5 0)), (66, (iN r)), (65, (iN n_g)), (64, (sS (some q11) n_g c_g)), (10, (.p 2 0)), (9, (.v (.pointer (some (⟨bk, 0, none⟩ : Addr))))), (4, (.p 1 0))], [(4, (.lst z2 46 arr2)), (3, (.lst z 9 arr)), (2, (.cells 41 [(sS A_r7 n_r7 c_r7), (.ls z 3 accN.length cap), (.ls z2 4 accA.length cap2)])), (1, (.cells 41 [(sS none 0 0), (sS none 0 0), (sS none 0 0)]))], 7, [], [(5, bk23, (.cells 34 [(tS x14), (sS (some q31) n20 c21)])), (0, bk4, (.cells 24 [(sS (some q11) n_g c_g)]))]⟩
          obtain ⟨q46, rfl⟩ := hsi.ptr (by omega)
          obtain ⟨x49, _, hx47, ⟨rfl, hn50⟩, at48⟩ := hsi.get 0 (by omega)
          have bdhn50 : -9223372036854775808 ≤ x49 ∧ x49 ≤ 9223372036854775807 := bd_of hn50
          have nthn50 := notInt_i64 bdhn50
          replace at48 : At G22 (q46.add (0 * 1)) [.int .i64 x49] := at48
          refine WD_idx htb 12 (by rfl) rfl (by decide +kernel) (fun _ _ _ _ _ h => h) hleb q46 ni 0 1 (by kernel_rfl) (by omega) (by omega) ?_
          refine WD_ld htb 13 (by rfl) rfl (by decide +kernel) (fun _ _ _ _ _ h => h) hleb (q46.add (0 * 1)) false 1 [.int .i64 x49] (by kernel_rfl) (at48.mono (Le.refl _)) rfl (by decide) ?_
          refine WD_takeL htb rfl (fun _ _ _ _ _ h => h) hleb [14] (fuel := 5) (listed' := bts 19 32735) (S' := ⟨[(122, (iI (notInt .i64 x49))), (121, (iI x49)), (120, (.v (.pointer (some (q46.add (0 * 1)))))), (119, (sS (some q46) ni ci)), (112, (.v (.pointer (some ((⟨bk27, 0, none⟩ : Addr).add (k * 1)))))), (117, (.v (.map (some m2)))), (118, (tS x44)), (116, (.v (.pointer (some ((⟨bk, 0, none⟩ : Addr).add 2))))), (115, (.v (.pointer (some (⟨bk, 0, none⟩ : Addr))))), (114, (.v (.pointer (some (⟨bk, 0, none⟩ : Addr))))), (111, (iN k)), (110, (sS (some ⟨bk27, 0, none⟩) n20 n20)), (109, (iN k)), (108, (sS (some ⟨bk27, 0, none⟩) n20 n20)), (17, (tS x44)), (84, (iN j)), (83, (iN n38)), (82, (sS (some q41) n38 c39)), (14, (iN k)), (77, (iN k)), (76, (iN n20)), (75, (sS (some q31) n20 c21)), (13, (sS (some ⟨bk27, 0, none⟩) n20 n20)), (12, (.p 5 0)), (66, (iN r)), (65, (iN n_g)), (64, (sS (some q11) n_g c_g)), (10, (.p 2 0)), (9, (.v (.pointer (some (⟨bk, 0, none⟩ : Addr))))), (4, (.p 1 0))], [(4, (.lst z2 46 arr2)), (3, (.lst z 9 arr)), (2, (.cells 41 [(sS A_r7 n_r7 c_r7), (.ls z 3 accN.length cap), (.ls z2 4 accA.length cap2)])), (1, (.cells 41 [(sS none 0 0), (sS none 0 0), (sS none 0 0)]))], 7, [], [(5, bk23, (.cells 34 [(tS x14), (sS (some q31) n20 c21)])), (0, bk4, (.cells 24 [(sS (some q11) n_g c_g)]))]⟩) hz (by kernel_rfl) rfl ?_
          refine WD_two 5 15 (by rfl) (by rfl) (by decide +kernel) ?_ ?_
          ·
           skip
           refine WOp_ld htb ((⟨bk27, 0, none⟩ : Addr).add (k * 1)) false 1 [(nilOr zc (.slice (some ⟨bl, 0, none⟩) cur.length cp))] (by kernel_rfl) (hR.cell' (by omega)) rfl (by decide) (WD_on hleb ?_)
           show WD _ _ _ _ _ _ _ _ _ ⟨[(113, (.v ((nilOr zc (.slice (some ⟨bl, 0, none⟩) cur.length cp))))), (122, (iI (notInt .i64 x49))), (121, (iI x49)), (120, (.v (.pointer (some (q46.add (0 * 1)))))), (119, (sS (some q46) ni ci)), (112, (.v (.pointer (some ((⟨bk27, 0, none⟩ : Addr).add (k * 1)))))), (117, (.v (.map (some m2)))), (118, (tS x44)), (116, (.v (.pointer (some ((⟨bk, 0, none⟩ : Addr).add 2))))), (115, (.v (.pointer (some (⟨bk, 0, none⟩ : Addr))))), (114, (.v (.pointer (some (⟨bk, 0, none⟩ : Addr))))), (111, (iN k)), (110, (sS (some ⟨bk27, 0, none⟩) n20 n20)), (109, (iN k)), (108, (sS (some ⟨bk27, 0, none⟩) n20 n20)), (17, (tS x44)), (84, (iN j)), (83, (iN n38)), (82, (sS (some q41) n38 c39)), (14, (iN k)), (77, (iN k)), (76, (iN n20)), (75, (sS (some q31) n20 c21)), (13, (sS (some ⟨bk27, 0, none⟩) n20 n20)), (12, (.p 5 0)), (66, (iN r)), (65, (iN n_g)), (64, (sS (some q11) n_g c_g)), (10, (.p 2 0)), (9, (.v (.pointer (some (⟨bk, 0, none⟩ : Addr))))), (4, (.p 1 0))], [(4, (.lst z2 46 arr2)), (3, (.lst z 9 arr)), (2, (.cells 41 [(sS A_r7 n_r7 c_r7), (.ls z 3 accN.length cap), (.ls z2 4 accA.length cap2)])), (1, (.cells 41 [(sS none 0 0), (sS none 0 0), (sS none 0 0)]))], 7, [], [(5, bk23, (.cells 34 [(tS x14), (sS (some q31) n20 c21)])), (0, bk4, (.cells 24 [(sS (some q11) n_g c_g)]))]⟩
           have hzz1 := hz.mono hbq
           refine WD_one 15 (by rfl) (by decide +kernel) (WOp_step htb (S' := ⟨[(123, (.s 7 1 1)), (113, (.v ((nilOr zc (.slice (some ⟨bl, 0, none⟩) cur.length cp))))), (122, (iI (notInt .i64 x49))), (121, (iI x49)), (120, (.v (.pointer (some (q46.add (0 * 1)))))), (119, (sS (some q46) ni ci)), (112, (.v (.pointer (some ((⟨bk27, 0, none⟩ : Addr).add (k * 1)))))), (117, (.v (.map (some m2)))), (118, (tS x44)), (116, (.v (.pointer (some ((⟨bk, 0, none⟩ : Addr).add 2))))), (115, (.v (.pointer (some (⟨bk, 0, none⟩ : Addr))))), (114, (.v (.pointer (some (⟨bk, 0, none⟩ : Addr))))), (111, (iN k)), (110, (sS (some ⟨bk27, 0, none⟩) n20 n20)), (109, (iN k)), (108, (sS (some ⟨bk27, 0, none⟩) n20 n20)), (17, (tS x44)), (84, (iN j)), (83, (iN n38)), (82, (sS (some q41) n38 c39)), (14, (iN k)), (77, (iN k)), (76, (iN n20)), (75, (sS (some q31) n20 c21)), (13, (sS (some ⟨bk27, 0, none⟩) n20 n20)), (12, (.p 5 0)), (66, (iN r)), (65, (iN n_g)), (64, (sS (some q11) n_g c_g)), (10, (.p 2 0)), (9, (.v (.pointer (some (⟨bk, 0, none⟩ : Addr))))), (4, (.p 1 0))], [(7, (.cells 3 [(iI (notInt .i64 x49))])), (4, (.lst z2 46 arr2)), (3, (.lst z 9 arr)), (2, (.cells 41 [(sS A_r7 n_r7 c_r7), (.ls z 3 accN.length cap), (.ls z2 4 accA.length cap2)])), (1, (.cells 41 [(sS none 0 0), (sS none 0 0), (sS none 0 0)]))], 8, [], [(5, bk23, (.cells 34 [(tS x14), (sS (some q31) n20 c21)])), (0, bk4, (.cells 24 [(sS (some q11) n_g c_g)]))]⟩) (by kernel_rfl) (WD_on hleb ?_))
           refine WK_freezeV 7 rfl rfl rfl rfl ?_
           intro bk52 G51 hle hbk52
           replace hleb := Le.trans hleb hle
           replace hR := hR.mono hle
           show WK _ _ ⟨[(123, (sS (some ⟨bk52, 0, none⟩) 1 1)), (113, (.v ((nilOr zc (.slice (some ⟨bl, 0, none⟩) cur.length cp))))), (122, (iI (notInt .i64 x49))), (121, (iI x49)), (120, (.v (.pointer (some (q46.add (0 * 1)))))), (119, (sS (some q46) ni ci)), (112, (.v (.pointer (some ((⟨bk27, 0, none⟩ : Addr).add (k * 1)))))), (117, (.v (.map (some m2)))), (118, (tS x44)), (116, (.v (.pointer (some ((⟨bk, 0, none⟩ : Addr).add 2))))), (115, (.v (.pointer (some (⟨bk, 0, none⟩ : Addr))))), (114, (.v (.pointer (some (⟨bk, 0, none⟩ : Addr))))), (111, (iN k)), (110, (sS (some ⟨bk27, 0, none⟩) n20 n20)), (109, (iN k)), (108, (sS (some ⟨bk27, 0, none⟩) n20 n20)), (17, (tS x44)), (84, (iN j)), (83, (iN n38)), (82, (sS (some q41) n38 c39)), (14, (iN k)), (77, (iN k)), (76, (iN n20)), (75, (sS (some q31) n20 c21)), (13, (sS (some ⟨bk27, 0, none⟩) n20 n20)), (12, (.p 5 0)), (66, (iN r)), (65, (iN n_g)), (64, (sS (some q11) n_g c_g)), (10, (.p 2 0)), (9, (.v (.pointer (some (⟨bk, 0, none⟩ : Addr))))), (4, (.p 1 0))], [(4, (.lst z2 46 arr2)), (3, (.lst z 9 arr)), (2, (.cells 41 [(sS A_r7 n_r7 c_r7), (.ls z 3 accN.length cap), (.ls z2 4 accA.length cap2)])), (1, (.cells 41 [(sS none 0 0), (sS none 0 0), (sS none 0 0)]))], 8, [], [(5, bk23, (.cells 34 [(tS x14), (sS (some q31) n20 c21)])), (0, bk4, (.cells 24 [(sS (some q11) n_g c_g)]))]⟩ _
           have hs53 : Sl (tInt .i64) G51 (some ⟨bk52, 0, none⟩) 1 1 [(notInt .i64 x49)] := Sl.lit (cs := [.int .i64 (notInt .i64 x49)]) (RepsL.cons' (rep_int _ (x := (notInt .i64 x49)) (by omega)) .nil) hbk52 rfl (by unfold big; omega)
           have lhs53 := hs53.len'
           refine WD_one 16 (by rfl) (by decide +kernel) (WOp_appendG htb (nilOr zc (.slice (some ⟨bl, 0, none⟩) cur.length cp)) (some ⟨bk52, 0, none⟩) 1 3 1 8 (by kernel_rfl) zc bl cp (fun hzz => ⟨(hR.blk hzz).1, none_ofE (Le.trans hle0 hbq) (hR.blk hzz).2.1, hzz1.ne (hR.blk hzz).2.1⟩) (tInt .i64) (xs := cur) (ys := [(notInt .i64 x49)]) rfl (hR.own.mono hR.le) hR.nil hs53.row rfl (by simp) rfl (by decide) (by simp only [List.length_cons, List.length_nil]; omega) (by unfold big; simp only [List.length_cons, List.length_nil]; omega) (fun bl' ar' cp' hbb hoo => (WD_on (Le.trans hbq (hR.le' hbb _)) ?_)))
           show WD _ _ _ _ _ _ _ _ _ ⟨[(124, (sS (some ⟨bl', 0, none⟩) ((cur ++ [(notInt .i64 x49)]).length) cp')), (123, (sS (some ⟨bk52, 0, none⟩) 1 1)), (113, (.v ((nilOr zc (.slice (some ⟨bl, 0, none⟩) cur.length cp))))), (122, (iI (notInt .i64 x49))), (121, (iI x49)), (120, (.v (.pointer (some (q46.add (0 * 1)))))), (119, (sS (some q46) ni ci)), (112, (.v (.pointer (some ((⟨bk27, 0, none⟩ : Addr).add (k * 1)))))), (117, (.v (.map (some m2)))), (118, (tS x44)), (116, (.v (.pointer (some ((⟨bk, 0, none⟩ : Addr).add 2))))), (115, (.v (.pointer (some (⟨bk, 0, none⟩ : Addr))))), (114, (.v (.pointer (some (⟨bk, 0, none⟩ : Addr))))), (111, (iN k)), (110, (sS (some ⟨bk27, 0, none⟩) n20 n20)), (109, (iN k)), (108, (sS (some ⟨bk27, 0, none⟩) n20 n20)), (17, (tS x44)), (84, (iN j)), (83, (iN n38)), (82, (sS (some q41) n38 c39)), (14, (iN k)), (77, (iN k)), (76, (iN n20)), (75, (sS (some q31) n20 c21)), (13, (sS (some ⟨bk27, 0, none⟩) n20 n20)), (12, (.p 5 0)), (66, (iN r)), (65, (iN n_g)), (64, (sS (some q11) n_g c_g)), (10, (.p 2 0)), (9, (.v (.pointer (some (⟨bk, 0, none⟩ : Addr))))), (4, (.p 1 0))], [(4, (.lst z2 46 arr2)), (3, (.lst z 9 arr)), (2, (.cells 41 [(sS A_r7 n_r7 c_r7), (.ls z 3 accN.length cap), (.ls z2 4 accA.length cap2)])), (1, (.cells 41 [(sS none 0 0), (sS none 0 0), (sS none 0 0)]))], 8, [], [(5, bk23, (.cells 34 [(tS x14), (sS (some q31) n20 c21)])), (0, bk4, (.cells 24 [(sS (some q11) n_g c_g)]))]⟩
           refine WD_idx htb 17 (by rfl) rfl (by decide +kernel) (fun _ _ _ _ _ h => h) (Le.trans hbq (hR.le' hbb _)) (⟨bk27, 0, none⟩) n20 ((k : Nat) : Int) 1 (by kernel_rfl) (by omega) (by omega) ?_
           have hR2 := hR.put (by omega) hbb hoo (fun H h => h.anyI) rfl
           refine WD_one 18 (by rfl) (by decide +kernel) (WOp_stoG htb ((⟨bk27, 0, none⟩ : Addr).add (k * 1)) [(sS (some ⟨bl', 0, none⟩) ((cur ++ [(notInt .i64 x49)]).length) cp')] [.slice (some ⟨bl', 0, none⟩) (cur ++ [(notInt .i64 x49)]).length cp'] (by kernel_rfl) (fun ρ => rfl) (off := k) (by simp [add_lit']) (hR.row' hbb _) (none_ofE (Le.trans hle0 hbq) hR.new0) (hzz1.ne hR.new0) (by have := hR.sz; show k + 1 ≤ ar.size; omega) (WD_on (Le.trans hbq hR2.le) ?_))
           refine WD_done (by decide +kernel) ?_
           refine WK_keep [84, 83, 82, 14, 77, 76, 75, 13, 12, 66, 65, 64, 10, 9, 4] [4, 3, 2, 1] rfl rfl ?_
           refine WQ_blk ?_
           refine WQ_code ?_
           refine WC_region ?_
           refine WL_execS htb 2 [84, 83, 82, 14, 77, 76, 75, 13, 12, 66, 65, 64, 10, 9, 4] [4, 3, 2, 1] ⟨[(84, (iI (IntKind.i64.wrap (((j : Nat) : Int) + 1)))), (83, (iN n38)), (82, (sS (some q41) n38 c39)), (14, (iN k)), (77, (iN k)), (76, (iN n20)), (75, (sS (some q31) n20 c21)), (13, (sS (some ⟨bk27, 0, none⟩) n20 n20)), (12, (.p 5 0)), (66, (iN r)), (65, (iN n_g)), (64, (sS (some q11) n_g c_g)), (10, (.p 2 0)), (9, (.v (.pointer (some (⟨bk, 0, none⟩ : Addr))))), (4, (.p 1 0))], [(4, (.lst z2 46 arr2)), (3, (.lst z 9 arr)), (2, (.cells 41 [(sS A_r7 n_r7 c_r7), (.ls z 3 accN.length cap), (.ls z2 4 accA.length cap2)])), (1, (.cells 41 [(sS none 0 0), (sS none 0 0), (sS none 0 0)]))], 8, [], [(5, bk23, (.cells 34 [(tS x14), (sS (some q31) n20 c21)])), (0, bk4, (.cells 24 [(sS (some q11) n_g c_g)]))]⟩ (by kernel_rfl) ?_
           refine WL_nil ?_
           refine WK_env [(84, (iN (j + 1))), (83, (iN n38)), (82, (sS (some q41) n38 c39)), (14, (iN k)), (77, (iN k)), (76, (iN n20)), (75, (sS (some q31) n20 c21)), (13, (sS (some ⟨bk27, 0, none⟩) n20 n20)), (12, (.p 5 0)), (66, (iN r)), (65, (iN n_g)), (64, (sS (some q11) n_g c_g)), (10, (.p 2 0)), (9, (.v (.pointer (some (⟨bk, 0, none⟩ : Addr))))), (4, (.p 1 0))] (fun ρ => ⟨rfl, (congrArg (Value.int .i64) (by rw [wrap_id (by omega)]; first | rfl | omega)), ⟨rfl, rfl, ⟨rfl, rfl, ⟨rfl, rfl, ⟨rfl, rfl, ⟨rfl, rfl, ⟨rfl, rfl, ⟨rfl, rfl, ⟨rfl, rfl, ⟨rfl, rfl, ⟨rfl, rfl, ⟨rfl, rfl, ⟨rfl, rfl, ⟨rfl, rfl, ⟨rfl, rfl, trivial⟩⟩⟩⟩⟩⟩⟩⟩⟩⟩⟩⟩⟩⟩⟩) ?_
           refine WK_keep [84, 83, 82, 14, 77, 76, 75, 13, 12, 66, 65, 64, 10, 9, 4] [4, 3, 2, 1] rfl rfl ?_
           exact WQ_next ((j + 1), (cur ++ [notInt .i64 x49]), false, bl', cp', _, _) (by show n38 - (j + 1) < n38 - j; omega) ⟨by omega, hR2, (by rw [take_succ' hx42, List.map_append, ← hcur]; exact congrArg (fun y => cur ++ [y]) (codeN_rule hd hx47 nthn50).symm)⟩ (fun ρ a w h => h)
          ·
           skip
           refine WOp_step htb (S' := ⟨[(123, (.s 7 1 1)), (122, (iI (notInt .i64 x49))), (121, (iI x49)), (120, (.v (.pointer (some (q46.add (0 * 1)))))), (119, (sS (some q46) ni ci)), (112, (.v (.pointer (some ((⟨bk27, 0, none⟩ : Addr).add (k * 1)))))), (117, (.v (.map (some m2)))), (118, (tS x44)), (116, (.v (.pointer (some ((⟨bk, 0, none⟩ : Addr).add 2))))), (115, (.v (.pointer (some (⟨bk, 0, none⟩ : Addr))))), (114, (.v (.pointer (some (⟨bk, 0, none⟩ : Addr))))), (111, (iN k)), (110, (sS (some ⟨bk27, 0, none⟩) n20 n20)), (109, (iN k)), (108, (sS (some ⟨bk27, 0, none⟩) n20 n20)), (17, (tS x44)), (84, (iN j)), (83, (iN n38)), (82, (sS (some q41) n38 c39)), (14, (iN k)), (77, (iN k)), (76, (iN n20)), (75, (sS (some q31) n20 c21)), (13, (sS (some ⟨bk27, 0, none⟩) n20 n20)), (12, (.p 5 0)), (66, (iN r)), (65, (iN n_g)), (64, (sS (some q11) n_g c_g)), (10, (.p 2 0)), (9, (.v (.pointer (some (⟨bk, 0, none⟩ : Addr))))), (4, (.p 1 0))], [(7, (.cells 3 [(iI (notInt .i64 x49))])), (4, (.lst z2 46 arr2)), (3, (.lst z 9 arr)), (2, (.cells 41 [(sS A_r7 n_r7 c_r7), (.ls z 3 accN.length cap), (.ls z2 4 accA.length cap2)])), (1, (.cells 41 [(sS none 0 0), (sS none 0 0), (sS none 0 0)]))], 8, [], [(5, bk23, (.cells 34 [(tS x14), (sS (some q31) n20 c21)])), (0, bk4, (.cells 24 [(sS (some q11) n_g c_g)]))]⟩) (by kernel_rfl) (WD_on hleb ?_)
           refine WD_one 5 (by rfl) (by decide +kernel) (WOp_ld htb ((⟨bk27, 0, none⟩ : Addr).add (k * 1)) false 1 [(nilOr zc (.slice (some ⟨bl, 0, none⟩) cur.length cp))] (by kernel_rfl) (hR.cell' (by omega)) rfl (by decide) (WD_on hleb ?_))
           show WD _ _ _ _ _ _ _ _ _ ⟨[(113, (.v ((nilOr zc (.slice (some ⟨bl, 0, none⟩) cur.length cp))))), (123, (.s 7 1 1)), (122, (iI (notInt .i64 x49))), (121, (iI x49)), (120, (.v (.pointer (some (q46.add (0 * 1)))))), (119, (sS (some q46) ni ci)), (112, (.v (.pointer (some ((⟨bk27, 0, none⟩ : Addr).add (k * 1)))))), (117, (.v (.map (some m2)))), (118, (tS x44)), (116, (.v (.pointer (some ((⟨bk, 0, none⟩ : Addr).add 2))))), (115, (.v (.pointer (some (⟨bk, 0, none⟩ : Addr))))), (114, (.v (.pointer (some (⟨bk, 0, none⟩ : Addr))))), (111, (iN k)), (110, (sS (some ⟨bk27, 0, none⟩) n20 n20)), (109, (iN k)), (108, (sS (some ⟨bk27, 0, none⟩) n20 n20)), (17, (tS x44)), (84, (iN j)), (83, (iN n38)), (82, (sS (some q41) n38 c39)), (14, (iN k)), (77, (iN k)), (76, (iN n20)), (75, (sS (some q31) n20 c21)), (13, (sS (some ⟨bk27, 0, none⟩) n20 n20)), (12, (.p 5 0)), (66, (iN r)), (65, (iN n_g)), (64, (sS (some q11) n_g c_g)), (10, (.p 2 0)), (9, (.v (.pointer (some (⟨bk, 0, none⟩ : Addr))))), (4, (.p 1 0))], [(7, (.cells 3 [(iI (notInt .i64 x49))])), (4, (.lst z2 46 arr2)), (3, (.lst z 9 arr)), (2, (.cells 41 [(sS A_r7 n_r7 c_r7), (.ls z 3 accN.length cap), (.ls z2 4 accA.length cap2)])), (1, (.cells 41 [(sS none 0 0), (sS none 0 0), (sS none 0 0)]))], 8, [], [(5, bk23, (.cells 34 [(tS x14), (sS (some q31) n20 c21)])), (0, bk4, (.cells 24 [(sS (some q11) n_g c_g)]))]⟩
           have hzz1 := hz.mono hbq
           refine WK_freezeV 7 rfl rfl rfl rfl ?_
           intro bk52 G51 hle hbk52
           replace hleb := Le.trans hleb hle
           replace hR := hR.mono hle
           show WK _ _ ⟨[(113, (.v ((nilOr zc (.slice (some ⟨bl, 0, none⟩) cur.length cp))))), (123, (sS (some ⟨bk52, 0, none⟩) 1 1)), (122, (iI (notInt .i64 x49))), (121, (iI x49)), (120, (.v (.pointer (some (q46.add (0 * 1)))))), (119, (sS (some q46) ni ci)), (112, (.v (.pointer (some ((⟨bk27, 0, none⟩ : Addr).add (k * 1)))))), (117, (.v (.map (some m2)))), (118, (tS x44)), (116, (.v (.pointer (some ((⟨bk, 0, none⟩ : Addr).add 2))))), (115, (.v (.pointer (some (⟨bk, 0, none⟩ : Addr))))), (114, (.v (.pointer (some (⟨bk, 0, none⟩ : Addr))))), (111, (iN k)), (110, (sS (some ⟨bk27, 0, none⟩) n20 n20)), (109, (iN k)), (108, (sS (some ⟨bk27, 0, none⟩) n20 n20)), (17, (tS x44)), (84, (iN j)), (83, (iN n38)), (82, (sS (some q41) n38 c39)), (14, (iN k)), (77, (iN k)), (76, (iN n20)), (75, (sS (some q31) n20 c21)), (13, (sS (some ⟨bk27, 0, none⟩) n20 n20)), (12, (.p 5 0)), (66, (iN r)), (65, (iN n_g)), (64, (sS (some q11) n_g c_g)), (10, (.p 2 0)), (9, (.v (.pointer (some (⟨bk, 0, none⟩ : Addr))))), (4, (.p 1 0))], [(4, (.lst z2 46 arr2)), (3, (.lst z 9 arr)), (2, (.cells 41 [(sS A_r7 n_r7 c_r7), (.ls z 3 accN.length cap), (.ls z2 4 accA.length cap2)])), (1, (.cells 41 [(sS none 0 0), (sS none 0 0), (sS none 0 0)]))], 8, [], [(5, bk23, (.cells 34 [(tS x14), (sS (some q31) n20 c21)])), (0, bk4, (.cells 24 [(sS (some q11) n_g c_g)]))]⟩ _
           have hs53 : Sl (tInt .i64) G51 (some ⟨bk52, 0, none⟩) 1 1 [(notInt .i64 x49)] := Sl.lit (cs := [.int .i64 (notInt .i64 x49)]) (RepsL.cons' (rep_int _ (x := (notInt .i64 x49)) (by omega)) .nil) hbk52 rfl (by unfold big; omega)
           have lhs53 := hs53.len'
           refine WD_one 16 (by rfl) (by decide +kernel) (WOp_appendG htb (nilOr zc (.slice (some ⟨bl, 0, none⟩) cur.length cp)) (some ⟨bk52, 0, none⟩) 1 3 1 8 (by kernel_rfl) zc bl cp (fun hzz => ⟨(hR.blk hzz).1, none_ofE (Le.trans hle0 hbq) (hR.blk hzz).2.1, hzz1.ne (hR.blk hzz).2.1⟩) (tInt .i64) (xs := cur) (ys := [(notInt .i64 x49)]) rfl (hR.own.mono hR.le) hR.nil hs53.row rfl (by simp) rfl (by decide) (by simp only [List.length_cons, List.length_nil]; omega) (by unfold big; simp only [List.length_cons, List.length_nil]; omega) (fun bl' ar' cp' hbb hoo => (WD_on (Le.trans hbq (hR.le' hbb _)) ?_)))
           show WD _ _ _ _ _ _ _ _ _ ⟨[(124, (sS (some ⟨bl', 0, none⟩) ((cur ++ [(notInt .i64 x49)]).length) cp')), (113, (.v ((nilOr zc (.slice (some ⟨bl, 0, none⟩) cur.length cp))))), (123, (sS (some ⟨bk52, 0, none⟩) 1 1)), (122, (iI (notInt .i64 x49))), (121, (iI x49)), (120, (.v (.pointer (some (q46.add (0 * 1)))))), (119, (sS (some q46) ni ci)), (112, (.v (.pointer (some ((⟨bk27, 0, none⟩ : Addr).add (k * 1)))))), (117, (.v (.map (some m2)))), (118, (tS x44)), (116, (.v (.pointer (some ((⟨bk, 0, none⟩ : Addr).add 2))))), (115, (.v (.pointer (some (⟨bk, 0, none⟩ : Addr))))), (114, (.v (.pointer (some (⟨bk, 0, none⟩ : Addr))))), (111, (iN k)), (110, (sS (some ⟨bk27, 0, none⟩) n20 n20)), (109, (iN k)), (108, (sS (some ⟨bk27, 0, none⟩) n20 n20)), (17, (tS x44)), (84, (iN j)), (83, (iN n38)), (82, (sS (some q41) n38 c39)), (14, (iN k)), (77, (iN k)), (76, (iN n20)), (75, (sS (some q31) n20 c21)), (13, (sS (some ⟨bk27, 0, none⟩) n20 n20)), (12, (.p 5 0)), (66, (iN r)), (65, (iN n_g)), (64, (sS (some q11) n_g c_g)), (10, (.p 2 0)), (9, (.v (.pointer (some (⟨bk, 0, none⟩ : Addr))))), (4, (.p 1 0))], [(4, (.lst z2 46 arr2)), (3, (.lst z 9 arr)), (2, (.cells 41 [(sS A_r7 n_r7 c_r7), (.ls z 3 accN.length cap), (.ls z2 4 accA.length cap2)])), (1, (.cells 41 [(sS none 0 0), (sS none 0 0), (sS none 0 0)]))], 8, [], [(5, bk23, (.cells 34 [(tS x14), (sS (some q31) n20 c21)])), (0, bk4, (.cells 24 [(sS (some q11) n_g c_g)]))]⟩
           refine WD_idx htb 17 (by rfl) rfl (by decide +kernel) (fun _ _ _ _ _ h => h) (Le.trans hbq (hR.le' hbb _)) (⟨bk27, 0, none⟩) n20 ((k : Nat) : Int) 1 (by kernel_rfl) (by omega) (by omega) ?_
           have hR2 := hR.put (by omega) hbb hoo (fun H h => h.anyI) rfl
           refine WD_one 18 (by rfl) (by decide +kernel) (WOp_stoG htb ((⟨bk27, 0, none⟩ : Addr).add (k * 1)) [(sS (some ⟨bl', 0, none⟩) ((cur ++ [(notInt .i64 x49)]).length) cp')] [.slice (some ⟨bl', 0, none⟩) (cur ++ [(notInt .i64 x49)]).length cp'] (by kernel_rfl) (fun ρ => rfl) (off := k) (by simp [add_lit']) (hR.row' hbb _) (none_ofE (Le.trans hle0 hbq) hR.new0) (hzz1.ne hR.new0) (by have := hR.sz; show k + 1 ≤ ar.size; omega) (WD_on (Le.trans hbq hR2.le) ?_))
           refine WD_done (by decide +kernel) ?_
           refine WK_keep [84, 83, 82, 14, 77, 76, 75, 13, 12, 66, 65, 64, 10, 9, 4] [4, 3, 2, 1] rfl rfl ?_
           refine WQ_blk ?_
           refine WQ_code ?_
           refine WC_region ?_
           refine WL_execS htb 2 [84, 83, 82, 14, 77, 76, 75, 13, 12, 66, 65, 64, 10, 9, 4] [4, 3, 2, 1] ⟨[(84, (iI (IntKind.i64.wrap (((j : Nat) : Int) + 1)))), (83, (iN n38)), (82, (sS (some q41) n38 c39)), (14, (iN k)), (77, (iN k)), (76, (iN n20)), (75, (sS (some q31) n20 c21)), (13, (sS (some ⟨bk27, 0, none⟩) n20 n20)), (12, (.p 5 0)), (66, (iN r)), (65, (iN n_g)), (64, (sS (some q11) n_g c_g)), (10, (.p 2 0)), (9, (.v (.pointer (some (⟨bk, 0, none⟩ : Addr))))), (4, (.p 1 0))], [(4, (.lst z2 46 arr2)), (3, (.lst z 9 arr)), (2, (.cells 41 [(sS A_r7 n_r7 c_r7), (.ls z 3 accN.length cap), (.ls z2 4 accA.length cap2)])), (1, (.cells 41 [(sS none 0 0), (sS none 0 0), (sS none 0 0)]))], 8, [], [(5, bk23, (.cells 34 [(tS x14), (sS (some q31) n20 c21)])), (0, bk4, (.cells 24 [(sS (some q11) n_g c_g)]))]⟩ (by kernel_rfl) ?_
           refine WL_nil ?_
           refine WK_env [(84, (iN (j + 1))), (83, (iN n38)), (82, (sS (some q41) n38 c39)), (14, (iN k)), (77, (iN k)), (76, (iN n20)), (75, (sS (some q31) n20 c21)), (13, (sS (some ⟨bk27, 0, none⟩) n20 n20)), (12, (.p 5 0)), (66, (iN r)), (65, (iN n_g)), (64, (sS (some q11) n_g c_g)), (10, (.p 2 0)), (9, (.v (.pointer (some (⟨bk, 0, none⟩ : Addr))))), (4, (.p 1 0))] (fun ρ => ⟨rfl, (congrArg (Value.int .i64) (by rw [wrap_id (by omega)]; first | rfl | omega)), ⟨rfl, rfl, ⟨rfl, rfl, ⟨rfl, rfl, ⟨rfl, rfl, ⟨rfl, rfl, ⟨rfl, rfl, ⟨rfl, rfl, ⟨rfl, rfl, ⟨rfl, rfl, ⟨rfl, rfl, ⟨rfl, rfl, ⟨rfl, rfl, ⟨rfl, rfl, ⟨rfl, rfl, trivial⟩⟩⟩⟩⟩⟩⟩⟩⟩⟩⟩⟩⟩⟩⟩) ?_
           refine WK_keep [84, 83, 82, 14, 77, 76, 75, 13, 12, 66, 65, 64, 10, 9, 4] [4, 3, 2, 1] rfl rfl ?_
           exact WQ_next ((j + 1), (cur ++ [notInt .i64 x49]), false, bl', cp', _, _) (by show n38 - (j + 1) < n38 - j; omega) ⟨by omega, hR2, (by rw [take_succ' hx42, List.map_append, ← hcur]; exact congrArg (fun y => cur ++ [y]) (codeN_rule hd hx47 nthn50).symm)⟩ (fun ρ a w h => h)
       ·
        replace hcj := of_decide_eq_false hcj
        refine WC_exit ?_
        refine WQ_then_exit ?_
        refine WQ_then_exit ?_
        refine WQ_hit ?_
        refine WQ_blk ?_
        refine WQ_code ?_
        refine WC_region ?_
        refine WL_execS htb 2 [77, 76, 75, 13, 12, 66, 65, 64, 10, 9, 4] [4, 3, 2, 1] ⟨[(77, (iI (IntKind.i64.wrap (((k : Nat) : Int) + 1)))), (76, (iN n20)), (75, (sS (some q31) n20 c21)), (13, (sS (some ⟨bk27, 0, none⟩) n20 n20)), (12, (.p 5 0)), (66, (iN r)), (65, (iN n_g)), (64, (sS (some q11) n_g c_g)), (10, (.p 2 0)), (9, (.v (.pointer (some (⟨bk, 0, none⟩ : Addr))))), (4, (.p 1 0))], [(4, (.lst z2 46 arr2)), (3, (.lst z 9 arr)), (2, (.cells 41 [(sS A_r7 n_r7 c_r7), (.ls z 3 accN.length cap), (.ls z2 4 accA.length cap2)])), (1, (.cells 41 [(sS none 0 0), (sS none 0 0), (sS none 0 0)]))], 7, [], [(5, bk23, (.cells 34 [(tS x14), (sS (some q31) n20 c21)])), (0, bk4, (.cells 24 [(sS (some q11) n_g c_g)]))]⟩ (by kernel_rfl) ?_
        refine WL_nil ?_
        have hta : x34.take j = x34 := List.take_of_length_le (by omega)
        rw [hta] at hcur
        obtain ⟨Gq', hq', hR'⟩ := hR.next (by omega)
        refine WK_env [(77, (iN (k + 1))), (76, (iN n20)), (75, (sS (some q31) n20 c21)), (13, (sS (some ⟨bk27, 0, none⟩) n20 n20)), (12, (.p 5 0)), (66, (iN r)), (65, (iN n_g)), (64, (sS (some q11) n_g c_g)), (10, (.p 2 0)), (9, (.v (.pointer (some (⟨bk, 0, none⟩ : Addr))))), (4, (.p 1 0))] (fun ρ => ⟨rfl, (congrArg (Value.int .i64) (by rw [wrap_id (by omega)]; first | rfl | omega)), ⟨rfl, rfl, ⟨rfl, rfl, ⟨rfl, rfl, ⟨rfl, rfl, ⟨rfl, rfl, ⟨rfl, rfl, ⟨rfl, rfl, ⟨rfl, rfl, ⟨rfl, rfl, ⟨rfl, rfl, trivial⟩⟩⟩⟩⟩⟩⟩⟩⟩⟩⟩) ?_
        refine WK_keep [77, 76, 75, 13, 12, 66, 65, 64, 10, 9, 4] [4, 3, 2, 1] rfl rfl ?_
        exact WQ_next ((k + 1), Gq', (val ++ [cur]), ar) (by show n20 - (k + 1) < n20 - k; omega) ⟨by omega, Le.trans hbq hq', hR', (by rw [take_succ' hx32, List.map_append, ← hval, hcur]; rfl)⟩ (fun ρ a w h => h)
      ·
       replace hck := of_decide_eq_false hck
       have hta : x16.take k = x16 := List.take_of_length_le (by omega)
       rw [hta] at hval
       obtain ⟨Gf, hqf, hfG, hRow⟩ := hR.fin (by omega) (by unfold big; omega)
       replace hRow := hRow.mono hfG
       have lRow := hRow.len'
       replace h_g := h_g.mono hleb
       replace hB := hB.mono hleb
       replace h_r7 := h_r7.mono hleb
       replace hs18 := hs18.mono hleb
       replace hz := hz.mono hleb
       replace hoN := hoN.mono hleb
       replace hoA := hoA.mono hleb
       replace hc6 := Le.trans hc6 hleb
       replace hc10 := Le.trans hc10 hleb
       refine WC_exit ?_
       refine WQ_then_exit ?_
       refine WQ_then_exit ?_
       refine WQ_hit ?_
       refine WQ_code ?_
       refine WK_keep [13, 12, 66, 65, 64, 10, 9, 4] [4, 3, 2, 1] rfl rfl ?_
       refine WC_draw mixed ?_
       refine WD_takeL htb rfl (fun _ _ _ _ _ h => h) (Le.refl _) [0, 2, 3, 6, 8] (fuel := 10) (listed' := bts 15 333) (S' := ⟨[(136, (sS (some ⟨bk27, 0, none⟩) n20 n20)), (134, (.p 2 2)), (131, (tS x14)), (130, (.p 5 0)), (128, (.p 2 1)), (13, (sS (some ⟨bk27, 0, none⟩) n20 n20)), (12, (.p 5 0)), (66, (iN r)), (65, (iN n_g)), (64, (sS (some q11) n_g c_g)), (10, (.p 2 0)), (9, (.v (.pointer (some (⟨bk, 0, none⟩ : Addr))))), (4, (.p 1 0))], [(4, (.lst z2 46 arr2)), (3, (.lst z 9 arr)), (2, (.cells 41 [(sS A_r7 n_r7 c_r7), (.ls z 3 accN.length cap), (.ls z2 4 accA.length cap2)])), (1, (.cells 41 [(sS none 0 0), (sS none 0 0), (sS none 0 0)]))], 7, [], [(5, bk23, (.cells 34 [(tS x14), (sS A19 n20 c21)])), (0, bk4, (.cells 24 [(sS (some q11) n_g c_g)]))]⟩) hz (by kernel_rfl) rfl ?_
       have hcL31 := Le.refl G30
       refine WD_join (ι := Nat × Nat × Bool × Array Value × Nat) (fun (bj32, bj34, zj36, arj37, cpj38) GG => Le G30 GG ∧ Sl tStr GG (some ⟨bj32, 0, none⟩) 1 1 [x14] ∧ Sl (tSlice (tSlice (tInt .i64))) GG (some ⟨bj34, 0, none⟩) 1 1 [val] ∧ OwnL tStr GG (accN ++ ([x14])) arj37 cpj38 ∧ (zj36 = true → (accN ++ ([x14])) = [])) (fun (bj32, bj34, zj36, arj37, cpj38) => ⟨[(139, (.p 2 1)), (133, (.ls zj36 9 ((accN ++ ([x14])).length) cpj38)), (137, (sS (some ⟨bj34, 0, none⟩) 1 1)), (135, (.ls z2 4 accA.length cap2)), (132, (sS (some ⟨bj32, 0, none⟩) 1 1)), (129, (.ls z 3 accN.length cap)), (136, (sS (some ⟨bk27, 0, none⟩) n20 n20)), (134, (.p 2 2)), (131, (tS x14)), (130, (.p 5 0)), (128, (.p 2 1)), (13, (sS (some ⟨bk27, 0, none⟩) n20 n20)), (12, (.p 5 0)), (66, (iN r)), (65, (iN n_g)), (64, (sS (some q11) n_g c_g)), (10, (.p 2 0)), (9, (.v (.pointer (some (⟨bk, 0, none⟩ : Addr))))), (4, (.p 1 0))], [(9, (.lst zj36 9 arj37)), (4, (.lst z2 46 arr2)), (2, (.cells 41 [(sS A_r7 n_r7 c_r7), (.ls z 3 accN.length cap), (.ls z2 4 accA.length cap2)])), (1, (.cells 41 [(sS none 0 0), (sS none 0 0), (sS none 0 0)]))], 10, [], [(5, bk23, (.cells 34 [(tS x14), (sS A19 n20 c21)])), (0, bk4, (.cells 24 [(sS (some q11) n_g c_g)]))]⟩) 4 #[true, true, true, true, true, true, true, true, true, true, false, true, false, false, false] ?cont (fun hK41 => ?now)
       case cont =>
        rintro ⟨bj32, bj34, zj36, arj37, cpj38⟩ G42 ⟨hle, hj33, hj35, hoj39, hzj40⟩
        show WK _ _ ⟨[(139, (.p 2 1)), (133, (.ls zj36 9 ((accN ++ ([x14])).length) cpj38)), (137, (sS (some ⟨bj34, 0, none⟩) 1 1)), (135, (.ls z2 4 accA.length cap2)), (132, (sS (some ⟨bj32, 0, none⟩) 1 1)), (129, (.ls z 3 accN.length cap)), (136, (sS (some ⟨bk27, 0, none⟩) n20 n20)), (134, (.p 2 2)), (131, (tS x14)), (130, (.p 5 0)), (128, (.p 2 1)), (13, (sS (some ⟨bk27, 0, none⟩) n20 n20)), (12, (.p 5 0)), (66, (iN r)), (65, (iN n_g)), (64, (sS (some q11) n_g c_g)), (10, (.p 2 0)), (9, (.v (.pointer (some (⟨bk, 0, none⟩ : Addr))))), (4, (.p 1 0))], [(9, (.lst zj36 9 arj37)), (4, (.lst z2 46 arr2)), (2, (.cells 41 [(sS A_r7 n_r7 c_r7), (.ls z 3 accN.length cap), (.ls z2 4 accA.length cap2)])), (1, (.cells 41 [(sS none 0 0), (sS none 0 0), (sS none 0 0)]))], 10, [], [(5, bk23, (.cells 34 [(tS x14), (sS A19 n20 c21)])), (0, bk4, (.cells 24 [(sS (some q11) n_g c_g)]))]⟩ _
        replace hc6 := Le.trans hc6 hle
        replace hc10 := Le.trans hc10 hle
        replace hcL31 := Le.trans hcL31 hle
        replace h_g := h_g.mono hle
        replace hB := hB.mono hle
        replace h_r7 := h_r7.mono hle
        replace hs18 := hs18.mono hle
        replace hRow := hRow.mono hle
        replace hz := hz.mono hle
        replace hoA := hoA.mono hle
        have lhj33 := hj33.len'
        have lhj35 := hj35.len'
        refine WD_one 10 (by rfl) (by decide +kernel) (WOp_append htb z2 4 accA.length cap2 (some ⟨bj34, 0, none⟩) 1 46 1 24 (by kernel_rfl) (by kernel_rfl) rfl rfl (tSlice (tSlice (tInt .i64))) (xs := accA) (ys := [val]) hoA rfl hzA hj35.row hj35.len rfl (by decide) (by simp only [List.length_append, List.length_cons, List.length_nil]; omega) (by unfold big; simp only [List.length_append, List.length_cons, List.length_nil]; omega) (fun z93 arr94 cap95 hz96 ho97 => WD_on (Le.refl _) ?_))
        show WD _ _ _ _ _ _ _ _ _ ⟨[(138, (.ls z93 10 ((accA ++ ([val])).length) cap95)), (139, (.p 2 1)), (133, (.ls zj36 9 ((accN ++ ([x14])).length) cpj38)), (137, (sS (some ⟨bj34, 0, none⟩) 1 1)), (135, (.ls z2 4 accA.length cap2)), (132, (sS (some ⟨bj32, 0, none⟩) 1 1)), (129, (.ls z 3 accN.length cap)), (136, (sS (some ⟨bk27, 0, none⟩) n20 n20)), (134, (.p 2 2)), (131, (tS x14)), (130, (.p 5 0)), (128, (.p 2 1)), (13, (sS (some ⟨bk27, 0, none⟩) n20 n20)), (12, (.p 5 0)), (66, (iN r)), (65, (iN n_g)), (64, (sS (some q11) n_g c_g)), (10, (.p 2 0)), (9, (.v (.pointer (some (⟨bk, 0, none⟩ : Addr))))), (4, (.p 1 0))], [(10, (.lst z93 46 arr94)), (9, (.lst zj36 9 arj37)), (2, (.cells 41 [(sS A_r7 n_r7 c_r7), (.ls z 3 accN.length cap), (.ls z2 4 accA.length cap2)])), (1, (.cells 41 [(sS none 0 0), (sS none 0 0), (sS none 0 0)]))], 11, [], [(5, bk23, (.cells 34 [(tS x14), (sS A19 n20 c21)])), (0, bk4, (.cells 24 [(sS (some q11) n_g c_g)]))]⟩
        refine WD_one 12 (by rfl) (by decide +kernel) (WOp_step htb (S' := ⟨[(138, (.ls z93 10 ((accA ++ ([val])).length) cap95)), (139, (.p 2 1)), (133, (.ls zj36 9 ((accN ++ ([x14])).length) cpj38)), (137, (sS (some ⟨bj34, 0, none⟩) 1 1)), (135, (.ls z2 4 accA.length cap2)), (132, (sS (some ⟨bj32, 0, none⟩) 1 1)), (129, (.ls z 3 accN.length cap)), (136, (sS (some ⟨bk27, 0, none⟩) n20 n20)), (134, (.p 2 2)), (131, (tS x14)), (130, (.p 5 0)), (128, (.p 2 1)), (13, (sS (some ⟨bk27, 0, none⟩) n20 n20)), (12, (.p 5 0)), (66, (iN r)), (65, (iN n_g)), (64, (sS (some q11) n_g c_g)), (10, (.p 2 0)), (9, (.v (.pointer (some (⟨bk, 0, none⟩ : Addr))))), (4, (.p 1 0))], [(10, (.lst z93 46 arr94)), (9, (.lst zj36 9 arj37)), (2, (.cells 41 [(sS A_r7 n_r7 c_r7), (.ls zj36 9 ((accN ++ ([x14])).length) cpj38), (.ls z2 4 accA.length cap2)])), (1, (.cells 41 [(sS none 0 0), (sS none 0 0), (sS none 0 0)]))], 11, [], [(5, bk23, (.cells 34 [(tS x14), (sS A19 n20 c21)])), (0, bk4, (.cells 24 [(sS (some q11) n_g c_g)]))]⟩) (by kernel_rfl) (WD_on (Le.refl _) ?_))
        refine WD_takeL htb rfl (fun _ _ _ _ _ h => h) (Le.refl _) [13] (fuel := 1) (listed' := bts 15 16383) (S' := ⟨[(140, (.p 2 2)), (138, (.ls z93 10 ((accA ++ ([val])).length) cap95)), (139, (.p 2 1)), (133, (.ls zj36 9 ((accN ++ ([x14])).length) cpj38)), (137, (sS (some ⟨bj34, 0, none⟩) 1 1)), (135, (.ls z2 4 accA.length cap2)), (132, (sS (some ⟨bj32, 0, none⟩) 1 1)), (129, (.ls z 3 accN.length cap)), (136, (sS (some ⟨bk27, 0, none⟩) n20 n20)), (134, (.p 2 2)), (131, (tS x14)), (130, (.p 5 0)), (128, (.p 2 1)), (13, (sS (some ⟨bk27, 0, none⟩) n20 n20)), (12, (.p 5 0)), (66, (iN r)), (65, (iN n_g)), (64, (sS (some q11) n_g c_g)), (10, (.p 2 0)), (9, (.v (.pointer (some (⟨bk, 0, none⟩ : Addr))))), (4, (.p 1 0))], [(10, (.lst z93 46 arr94)), (9, (.lst zj36 9 arj37)), (2, (.cells 41 [(sS A_r7 n_r7 c_r7), (.ls zj36 9 ((accN ++ ([x14])).length) cpj38), (.ls z2 4 accA.length cap2)])), (1, (.cells 41 [(sS none 0 0), (sS none 0 0), (sS none 0 0)]))], 11, [], [(5, bk23, (.cells 34 [(tS x14), (sS A19 n20 c21)])), (0, bk4, (.cells 24 [(sS (some q11) n_g c_g)]))]⟩) hz (by kernel_rfl) rfl ?_
        refine WD_one 14 (by rfl) (by decide +kernel) (WOp_step htb (S' := ⟨[(140, (.p 2 2)), (138, (.ls z93 10 ((accA ++ ([val])).length) cap95)), (139, (.p 2 1)), (133, (.ls zj36 9 ((accN ++ ([x14])).length) cpj38)), (137, (sS (some ⟨bj34, 0, none⟩) 1 1)), (135, (.ls z2 4 accA.length cap2)), (132, (sS (some ⟨bj32, 0, none⟩) 1 1)), (129, (.ls z 3 accN.length cap)), (136, (sS (some ⟨bk27, 0, none⟩) n20 n20)), (134, (.p 2 2)), (131, (tS x14)), (130, (.p 5 0)), (128, (.p 2 1)), (13, (sS (some ⟨bk27, 0, none⟩) n20 n20)), (12, (.p 5 0)), (66, (iN r)), (65, (iN n_g)), (64, (sS (some q11) n_g c_g)), (10, (.p 2 0)), (9, (.v (.pointer (some (⟨bk, 0, none⟩ : Addr))))), (4, (.p 1 0))], [(10, (.lst z93 46 arr94)), (9, (.lst zj36 9 arj37)), (2, (.cells 41 [(sS A_r7 n_r7 c_r7), (.ls zj36 9 ((accN ++ ([x14])).length) cpj38), (.ls z93 10 ((accA ++ ([val])).length) cap95)])), (1, (.cells 41 [(sS none 0 0), (sS none 0 0), (sS none 0 0)]))], 11, [], [(5, bk23, (.cells 34 [(tS x14), (sS A19 n20 c21)])), (0, bk4, (.cells 24 [(sS (some q11) n_g c_g)]))]⟩) (by kernel_rfl) (WD_on (Le.refl _) ?_))
        refine WD_done (by decide +kernel) ?_
        refine WK_keep [66, 65, 64, 10, 9, 4] [10, 9, 2, 1] rfl rfl ?_
        refine WQ_blk ?_
        refine WQ_code ?_
        refine WC_region ?_
        refine WL_execS htb 2 [66, 65, 64, 10, 9, 4] [10, 9, 2, 1] ⟨[(66, (iI (IntKind.i64.wrap (((r : Nat) : Int) + 1)))), (65, (iN n_g)), (64, (sS (some q11) n_g c_g)), (10, (.p 2 0)), (9, (.v (.pointer (some (⟨bk, 0, none⟩ : Addr))))), (4, (.p 1 0))], [(10, (.lst z93 46 arr94)), (9, (.lst zj36 9 arj37)), (2, (.cells 41 [(sS A_r7 n_r7 c_r7), (.ls zj36 9 ((accN ++ ([x14])).length) cpj38), (.ls z93 10 ((accA ++ ([val])).length) cap95)])), (1, (.cells 41 [(sS none 0 0), (sS none 0 0), (sS none 0 0)]))], 11, [], [(5, bk23, (.cells 34 [(tS x14), (sS A19 n20 c21)])), (0, bk4, (.cells 24 [(sS (some q11) n_g c_g)]))]⟩ (by kernel_rfl) ?_
        refine WL_nil ?_
        refine WK_env [(66, (iN (r + 1))), (65, (iN n_g)), (64, (sS (some q11) n_g c_g)), (10, (.p 2 0)), (9, (.v (.pointer (some (⟨bk, 0, none⟩ : Addr))))), (4, (.p 1 0))] (fun ρ => ⟨rfl, (congrArg (Value.int .i64) (by rw [wrap_id (by omega)]; first | rfl | omega)), ⟨rfl, rfl, ⟨rfl, rfl, ⟨rfl, rfl, ⟨rfl, rfl, ⟨rfl, rfl, trivial⟩⟩⟩⟩⟩⟩) ?_
        refine WK_dropfz 1 ?_
        show WK _ _ ⟨_, _, _, _, [(0, bk4, (.cells 24 [(sS (some q11) n_g c_g)]))]⟩ _
        refine WK_keep [66, 65, 64, 10, 9, 4] [10, 9, 2, 1] rfl rfl ?_
        exact WQ_nextR ((r + 1), (accN ++ ([x14])), zj36, arj37, cpj38, (accA ++ ([val])), z93, arr94, cap95) (by show n_g - (r + 1) < n_g - r; omega) ⟨hc10, ⟨by omega, (by rw [take_succ' hx12, List.map_append, ← hcN]; rfl), hoj39, hzj40, (by rw [take_succ' hx12, List.map_append, ← hcA, hval]; rfl), ho97, hz96⟩⟩ [(3, 9), (4, 10)] rfl rfl rfl rfl rfl rfl
       case now =>
        refine WD_join (ι := Nat) (fun (bj148) GG => Le G30 GG ∧ Sl tStr GG (some ⟨bj148, 0, none⟩) 1 1 [x14]) (fun (bj148) => ⟨[(135, (.ls z2 4 accA.length cap2)), (132, (sS (some ⟨bj148, 0, none⟩) 1 1)), (129, (.ls z 3 accN.length cap)), (136, (sS (some ⟨bk27, 0, none⟩) n20 n20)), (134, (.p 2 2)), (131, (tS x14)), (130, (.p 5 0)), (128, (.p 2 1)), (13, (sS (some ⟨bk27, 0, none⟩) n20 n20)), (12, (.p 5 0)), (66, (iN r)), (65, (iN n_g)), (64, (sS (some q11) n_g c_g)), (10, (.p 2 0)), (9, (.v (.pointer (some (⟨bk, 0, none⟩ : Addr))))), (4, (.p 1 0))], [(4, (.lst z2 46 arr2)), (3, (.lst z 9 arr)), (2, (.cells 41 [(sS A_r7 n_r7 c_r7), (.ls z 3 accN.length cap), (.ls z2 4 accA.length cap2)])), (1, (.cells 41 [(sS none 0 0), (sS none 0 0), (sS none 0 0)]))], 8, [], [(5, bk23, (.cells 34 [(tS x14), (sS A19 n20 c21)])), (0, bk4, (.cells 24 [(sS (some q11) n_g c_g)]))]⟩) 7 #[true, true, true, true, true, false, true, true, true, false, false, false, false, false, false] ?cont (fun hK150 => ?now)
        case cont =>
         rintro bj148 G151 ⟨hle, hj149⟩
         show WK _ _ ⟨[(135, (.ls z2 4 accA.length cap2)), (132, (sS (some ⟨bj148, 0, none⟩) 1 1)), (129, (.ls z 3 accN.length cap)), (136, (sS (some ⟨bk27, 0, none⟩) n20 n20)), (134, (.p 2 2)), (131, (tS x14)), (130, (.p 5 0)), (128, (.p 2 1)), (13, (sS (some ⟨bk27, 0, none⟩) n20 n20)), (12, (.p 5 0)), (66, (iN r)), (65, (iN n_g)), (64, (sS (some q11) n_g c_g)), (10, (.p 2 0)), (9, (.v (.pointer (some (⟨bk, 0, none⟩ : Addr))))), (4, (.p 1 0))], [(4, (.lst z2 46 arr2)), (3, (.lst z 9 arr)), (2, (.cells 41 [(sS A_r7 n_r7 c_r7), (.ls z 3 accN.length cap), (.ls z2 4 accA.length cap2)])), (1, (.cells 41 [(sS none 0 0), (sS none 0 0), (sS none 0 0)]))], 8, [], [(5, bk23, (.cells 34 [(tS x14), (sS A19 n20 c21)])), (0, bk4, (.cells 24 [(sS (some q11) n_g c_g)]))]⟩ _
         replace hc6 := Le.trans hc6 hle
         replace hc10 := Le.trans hc10 hle
         replace hcL31 := Le.trans hcL31 hle
         replace h_g := h_g.mono hle
         replace hB := hB.mono hle
         replace h_r7 := h_r7.mono hle
         replace hs18 := hs18.mono hle
         replace hRow := hRow.mono hle
         replace hz := hz.mono hle
         replace hoN := hoN.mono hle
         replace hoA := hoA.mono hle
         have lhj149 := hj149.len'
         refine WD_two 5 9 (by rfl) (by rfl) (by decide +kernel) ?_ ?_
         ·
          skip
          refine WOp_append htb z 3 accN.length cap (some ⟨bj148, 0, none⟩) 1 9 1 16 (by kernel_rfl) (by kernel_rfl) rfl rfl tStr (xs := accN) (ys := [x14]) hoN rfl hzN hj149.row hj149.len rfl (by decide) (by simp only [List.length_append, List.length_cons, List.length_nil]; omega) (by unfold big; simp only [List.length_append, List.length_cons, List.length_nil]; omega) (fun z202 arr203 cap204 hz205 ho206 => WD_on (Le.refl _) ?_)
          show WD _ _ _ _ _ _ _ _ _ ⟨[(133, (.ls z202 8 ((accN ++ ([x14])).length) cap204)), (135, (.ls z2 4 accA.length cap2)), (132, (sS (some ⟨bj148, 0, none⟩) 1 1)), (129, (.ls z 3 accN.length cap)), (136, (sS (some ⟨bk27, 0, none⟩) n20 n20)), (134, (.p 2 2)), (131, (tS x14)), (130, (.p 5 0)), (128, (.p 2 1)), (13, (sS (some ⟨bk27, 0, none⟩) n20 n20)), (12, (.p 5 0)), (66, (iN r)), (65, (iN n_g)), (64, (sS (some q11) n_g c_g)), (10, (.p 2 0)), (9, (.v (.pointer (some (⟨bk, 0, none⟩ : Addr))))), (4, (.p 1 0))], [(8, (.lst z202 9 arr203)), (4, (.lst z2 46 arr2)), (2, (.cells 41 [(sS A_r7 n_r7 c_r7), (.ls z 3 accN.length cap), (.ls z2 4 accA.length cap2)])), (1, (.cells 41 [(sS none 0 0), (sS none 0 0), (sS none 0 0)]))], 9, [], [(5, bk23, (.cells 34 [(tS x14), (sS A19 n20 c21)])), (0, bk4, (.cells 24 [(sS (some q11) n_g c_g)]))]⟩
          refine WD_takeL htb rfl (fun _ _ _ _ _ h => h) (Le.refl _) [11] (fuel := 5) (listed' := bts 15 2559) (S' := ⟨[(139, (.p 2 1)), (133, (.ls z202 8 ((accN ++ ([x14])).length) cap204)), (135, (.ls z2 4 accA.length cap2)), (132, (sS (some ⟨bj148, 0, none⟩) 1 1)), (129, (.ls z 3 accN.length cap)), (136, (sS (some ⟨bk27, 0, none⟩) n20 n20)), (134, (.p 2 2)), (131, (tS x14)), (130, (.p 5 0)), (128, (.p 2 1)), (13, (sS (some ⟨bk27, 0, none⟩) n20 n20)), (12, (.p 5 0)), (66, (iN r)), (65, (iN n_g)), (64, (sS (some q11) n_g c_g)), (10, (.p 2 0)), (9, (.v (.pointer (some (⟨bk, 0, none⟩ : Addr))))), (4, (.p 1 0))], [(8, (.lst z202 9 arr203)), (4, (.lst z2 46 arr2)), (2, (.cells 41 [(sS A_r7 n_r7 c_r7), (.ls z 3 accN.length cap), (.ls z2 4 accA.length cap2)])), (1, (.cells 41 [(sS none 0 0), (sS none 0 0), (sS none 0 0)]))], 9, [], [(5, bk23, (.cells 34 [(tS x14), (sS A19 n20 c21)])), (0, bk4, (.cells 24 [(sS (some q11) n_g c_g)]))]⟩) hz (by kernel_rfl) rfl ?_
          refine WD_one 9 (by rfl) (by decide +kernel) (WOp_step htb (S' := ⟨[(137, (.s 9 1 1)), (139, (.p 2 1)), (133, (.ls z202 8 ((accN ++ ([x14])).length) cap204)), (135, (.ls z2 4 accA.length cap2)), (132, (sS (some ⟨bj148, 0, none⟩) 1 1)), (129, (.ls z 3 accN.length cap)), (136, (sS (some ⟨bk27, 0, none⟩) n20 n20)), (134, (.p 2 2)), (131, (tS x14)), (130, (.p 5 0)), (128, (.p 2 1)), (13, (sS (some ⟨bk27, 0, none⟩) n20 n20)), (12, (.p 5 0)), (66, (iN r)), (65, (iN n_g)), (64, (sS (some q11) n_g c_g)), (10, (.p 2 0)), (9, (.v (.pointer (some (⟨bk, 0, none⟩ : Addr))))), (4, (.p 1 0))], [(9, (.cells 46 [(sS (some ⟨bk27, 0, none⟩) n20 n20)])), (8, (.lst z202 9 arr203)), (4, (.lst z2 46 arr2)), (2, (.cells 41 [(sS A_r7 n_r7 c_r7), (.ls z 3 accN.length cap), (.ls z2 4 accA.length cap2)])), (1, (.cells 41 [(sS none 0 0), (sS none 0 0), (sS none 0 0)]))], 10, [], [(5, bk23, (.cells 34 [(tS x14), (sS A19 n20 c21)])), (0, bk4, (.cells 24 [(sS (some q11) n_g c_g)]))]⟩) (by kernel_rfl) (WD_on (Le.refl _) ?_))
          refine WK_freezeV 9 rfl rfl rfl rfl ?_
          intro bk208 G207 hle hbk208
          replace hc6 := Le.trans hc6 hle
          replace hc10 := Le.trans hc10 hle
          replace hcL31 := Le.trans hcL31 hle
          replace h_g := h_g.mono hle
          replace hB := hB.mono hle
          replace h_r7 := h_r7.mono hle
          replace hs18 := hs18.mono hle
          replace hRow := hRow.mono hle
          replace hj149 := hj149.mono hle
          replace hz := hz.mono hle
          replace hoA := hoA.mono hle
          replace ho206 := ho206.mono hle
          refine WD_up hle ?_
          show WK _ _ ⟨[(137, (sS (some ⟨bk208, 0, none⟩) 1 1)), (139, (.p 2 1)), (133, (.ls z202 8 ((accN ++ ([x14])).length) cap204)), (135, (.ls z2 4 accA.length cap2)), (132, (sS (some ⟨bj148, 0, none⟩) 1 1)), (129, (.ls z 3 accN.length cap)), (136, (sS (some ⟨bk27, 0, none⟩) n20 n20)), (134, (.p 2 2)), (131, (tS x14)), (130, (.p 5 0)), (128, (.p 2 1)), (13, (sS (some ⟨bk27, 0, none⟩) n20 n20)), (12, (.p 5 0)), (66, (iN r)), (65, (iN n_g)), (64, (sS (some q11) n_g c_g)), (10, (.p 2 0)), (9, (.v (.pointer (some (⟨bk, 0, none⟩ : Addr))))), (4, (.p 1 0))], [(8, (.lst z202 9 arr203)), (4, (.lst z2 46 arr2)), (2, (.cells 41 [(sS A_r7 n_r7 c_r7), (.ls z 3 accN.length cap), (.ls z2 4 accA.length cap2)])), (1, (.cells 41 [(sS none 0 0), (sS none 0 0), (sS none 0 0)]))], 10, [], [(5, bk23, (.cells 34 [(tS x14), (sS A19 n20 c21)])), (0, bk4, (.cells 24 [(sS (some q11) n_g c_g)]))]⟩ _
          have hs209 : Sl (tSlice (tSlice (tInt .i64))) G207 (some ⟨bk208, 0, none⟩) 1 1 [val] := Sl.lit (cs := [.slice (some ⟨bk27, 0, none⟩) n20 n20]) (RepsL.cons' hRow.reps .nil) hbk208 rfl (by unfold big; omega)
          have lhs209 := hs209.len'
          refine WK_keep [139, 133, 137, 135, 132, 129, 136, 134, 131, 130, 128, 13, 12, 66, 65, 64, 10, 9, 4] [8, 4, 2, 1] rfl rfl ?_
          refine WK_ren (T := ⟨[(139, (.p 2 1)), (133, (.ls z202 9 ((accN ++ ([x14])).length) cap204)), (137, (sS (some ⟨bk208, 0, none⟩) 1 1)), (135, (.ls z2 4 accA.length cap2)), (132, (sS (some ⟨bj148, 0, none⟩) 1 1)), (129, (.ls z 3 accN.length cap)), (136, (sS (some ⟨bk27, 0, none⟩) n20 n20)), (134, (.p 2 2)), (131, (tS x14)), (130, (.p 5 0)), (128, (.p 2 1)), (13, (sS (some ⟨bk27, 0, none⟩) n20 n20)), (12, (.p 5 0)), (66, (iN r)), (65, (iN n_g)), (64, (sS (some q11) n_g c_g)), (10, (.p 2 0)), (9, (.v (.pointer (some (⟨bk, 0, none⟩ : Addr))))), (4, (.p 1 0))], [(9, (.lst z202 9 arr203)), (4, (.lst z2 46 arr2)), (2, (.cells 41 [(sS A_r7 n_r7 c_r7), (.ls z 3 accN.length cap), (.ls z2 4 accA.length cap2)])), (1, (.cells 41 [(sS none 0 0), (sS none 0 0), (sS none 0 0)]))], 10, [], [(5, bk23, (.cells 34 [(tS x14), (sS A19 n20 c21)])), (0, bk4, (.cells 24 [(sS (some q11) n_g c_g)]))]⟩) [(9, 8)] rfl rfl rfl rfl rfl rfl ?_
          exact hK41 (bj148, bk208, z202, arr203, cap204) G207 ⟨hcL31, hj149, hs209, ho206, hz205⟩
         ·
          skip
          refine WOp_step htb (S' := ⟨[(137, (.s 8 1 1)), (135, (.ls z2 4 accA.length cap2)), (132, (sS (some ⟨bj148, 0, none⟩) 1 1)), (129, (.ls z 3 accN.length cap)), (136, (sS (some ⟨bk27, 0, none⟩) n20 n20)), (134, (.p 2 2)), (131, (tS x14)), (130, (.p 5 0)), (128, (.p 2 1)), (13, (sS (some ⟨bk27, 0, none⟩) n20 n20)), (12, (.p 5 0)), (66, (iN r)), (65, (iN n_g)), (64, (sS (some q11) n_g c_g)), (10, (.p 2 0)), (9, (.v (.pointer (some (⟨bk, 0, none⟩ : Addr))))), (4, (.p 1 0))], [(8, (.cells 46 [(sS (some ⟨bk27, 0, none⟩) n20 n20)])), (4, (.lst z2 46 arr2)), (3, (.lst z 9 arr)), (2, (.cells 41 [(sS A_r7 n_r7 c_r7), (.ls z 3 accN.length cap), (.ls z2 4 accA.length cap2)])), (1, (.cells 41 [(sS none 0 0), (sS none 0 0), (sS none 0 0)]))], 9, [], [(5, bk23, (.cells 34 [(tS x14), (sS A19 n20 c21)])), (0, bk4, (.cells 24 [(sS (some q11) n_g c_g)]))]⟩) (by kernel_rfl) (WD_on (Le.refl _) ?_)
          refine WK_freezeV 8 rfl rfl rfl rfl ?_
          intro bk203 G202 hle hbk203
          replace hc6 := Le.trans hc6 hle
          replace hc10 := Le.trans hc10 hle
          replace hcL31 := Le.trans hcL31 hle
          replace h_g := h_g.mono hle
          replace hB := hB.mono hle
          replace h_r7 := h_r7.mono hle
          replace hs18 := hs18.mono hle
          replace hRow := hRow.mono hle
          replace hj149 := hj149.mono hle
          replace hz := hz.mono hle
          replace hoN := hoN.mono hle
          replace hoA := hoA.mono hle
          refine WD_up hle ?_
          show WK _ _ ⟨[(137, (sS (some ⟨bk203, 0, none⟩) 1 1)), (135, (.ls z2 4 accA.length cap2)), (132, (sS (some ⟨bj148, 0, none⟩) 1 1)), (129, (.ls z 3 accN.length cap)), (136, (sS (some ⟨bk27, 0, none⟩) n20 n20)), (134, (.p 2 2)), (131, (tS x14)), (130, (.p 5 0)), (128, (.p 2 1)), (13, (sS (some ⟨bk27, 0, none⟩) n20 n20)), (12, (.p 5 0)), (66, (iN r)), (65, (iN n_g)), (64, (sS (some q11) n_g c_g)), (10, (.p 2 0)), (9, (.v (.pointer (some (⟨bk, 0, none⟩ : Addr))))), (4, (.p 1 0))], [(4, (.lst z2 46 arr2)), (3, (.lst z 9 arr)), (2, (.cells 41 [(sS A_r7 n_r7 c_r7), (.ls z 3 accN.length cap), (.ls z2 4 accA.length cap2)])), (1, (.cells 41 [(sS none 0 0), (sS none 0 0), (sS none 0 0)]))], 9, [], [(5, bk23, (.cells 34 [(tS x14), (sS A19 n20 c21)])), (0, bk4, (.cells 24 [(sS (some q11) n_g c_g)]))]⟩ _
          have hs204 : Sl (tSlice (tSlice (tInt .i64))) G202 (some ⟨bk203, 0, none⟩) 1 1 [val] := Sl.lit (cs := [.slice (some ⟨bk27, 0, none⟩) n20 n20]) (RepsL.cons' hRow.reps .nil) hbk203 rfl (by unfold big; omega)
          have lhs204 := hs204.len'
          refine WD_one 5 (by rfl) (by decide +kernel) (WOp_append htb z 3 accN.length cap (some ⟨bj148, 0, none⟩) 1 9 1 16 (by kernel_rfl) (by kernel_rfl) rfl rfl tStr (xs := accN) (ys := [x14]) hoN rfl hzN hj149.row hj149.len rfl (by decide) (by simp only [List.length_append, List.length_cons, List.length_nil]; omega) (by unfold big; simp only [List.length_append, List.length_cons, List.length_nil]; omega) (fun z205 arr206 cap207 hz208 ho209 => WD_on (Le.refl _) ?_))
          show WD _ _ _ _ _ _ _ _ _ ⟨[(133, (.ls z205 9 ((accN ++ ([x14])).length) cap207)), (137, (sS (some ⟨bk203, 0, none⟩) 1 1)), (135, (.ls z2 4 accA.length cap2)), (132, (sS (some ⟨bj148, 0, none⟩) 1 1)), (129, (.ls z 3 accN.length cap)), (136, (sS (some ⟨bk27, 0, none⟩) n20 n20)), (134, (.p 2 2)), (131, (tS x14)), (130, (.p 5 0)), (128, (.p 2 1)), (13, (sS (some ⟨bk27, 0, none⟩) n20 n20)), (12, (.p 5 0)), (66, (iN r)), (65, (iN n_g)), (64, (sS (some q11) n_g c_g)), (10, (.p 2 0)), (9, (.v (.pointer (some (⟨bk, 0, none⟩ : Addr))))), (4, (.p 1 0))], [(9, (.lst z205 9 arr206)), (4, (.lst z2 46 arr2)), (2, (.cells 41 [(sS A_r7 n_r7 c_r7), (.ls z 3 accN.length cap), (.ls z2 4 accA.length cap2)])), (1, (.cells 41 [(sS none 0 0), (sS none 0 0), (sS none 0 0)]))], 10, [], [(5, bk23, (.cells 34 [(tS x14), (sS A19 n20 c21)])), (0, bk4, (.cells 24 [(sS (some q11) n_g c_g)]))]⟩
          refine WD_takeL htb rfl (fun _ _ _ _ _ h => h) (Le.refl _) [11] (fuel := 4) (listed' := bts 15 3071) (S' := ⟨[(139, (.p 2 1)), (133, (.ls z205 9 ((accN ++ ([x14])).length) cap207)), (137, (sS (some ⟨bk203, 0, none⟩) 1 1)), (135, (.ls z2 4 accA.length cap2)), (132, (sS (some ⟨bj148, 0, none⟩) 1 1)), (129, (.ls z 3 accN.length cap)), (136, (sS (some ⟨bk27, 0, none⟩) n20 n20)), (134, (.p 2 2)), (131, (tS x14)), (130, (.p 5 0)), (128, (.p 2 1)), (13, (sS (some ⟨bk27, 0, none⟩) n20 n20)), (12, (.p 5 0)), (66, (iN r)), (65, (iN n_g)), (64, (sS (some q11) n_g c_g)), (10, (.p 2 0)), (9, (.v (.pointer (some (⟨bk, 0, none⟩ : Addr))))), (4, (.p 1 0))], [(9, (.lst z205 9 arr206)), (4, (.lst z2 46 arr2)), (2, (.cells 41 [(sS A_r7 n_r7 c_r7), (.ls z 3 accN.length cap), (.ls z2 4 accA.length cap2)])), (1, (.cells 41 [(sS none 0 0), (sS none 0 0), (sS none 0 0)]))], 10, [], [(5, bk23, (.cells 34 [(tS x14), (sS A19 n20 c21)])), (0, bk4, (.cells 24 [(sS (some q11) n_g c_g)]))]⟩) hz (by kernel_rfl) rfl ?_
          refine WK_keep [139, 133, 137, 135, 132, 129, 136, 134, 131, 130, 128, 13, 12, 66, 65, 64, 10, 9, 4] [9, 4, 2, 1] rfl rfl ?_
          exact hK41 (bj148, bk203, z205, arr206, cap207) G202 ⟨hcL31, hj149, hs204, ho209, hz208⟩
        case now =>
         refine WD_join (ι := Nat × Nat) (fun (bj252, bj254) GG => Le G30 GG ∧ Sl tStr GG (some ⟨bj252, 0, none⟩) 1 1 [x14] ∧ Sl (tSlice (tSlice (tInt .i64))) GG (some ⟨bj254, 0, none⟩) 1 1 [val]) (fun (bj252, bj254) => ⟨[(137, (sS (some ⟨bj254, 0, none⟩) 1 1)), (132, (sS (some ⟨bj252, 0, none⟩) 1 1)), (129, (.ls z 3 accN.length cap)), (136, (sS (some ⟨bk27, 0, none⟩) n20 n20)), (134, (.p 2 2)), (131, (tS x14)), (130, (.p 5 0)), (128, (.p 2 1)), (13, (sS (some ⟨bk27, 0, none⟩) n20 n20)), (12, (.p 5 0)), (66, (iN r)), (65, (iN n_g)), (64, (sS (some q11) n_g c_g)), (10, (.p 2 0)), (9, (.v (.pointer (some (⟨bk, 0, none⟩ : Addr))))), (4, (.p 1 0))], [(4, (.lst z2 46 arr2)), (3, (.lst z 9 arr)), (2, (.cells 41 [(sS A_r7 n_r7 c_r7), (.ls z 3 accN.length cap), (.ls z2 4 accA.length cap2)])), (1, (.cells 41 [(sS none 0 0), (sS none 0 0), (sS none 0 0)]))], 9, [], [(5, bk23, (.cells 34 [(tS x14), (sS A19 n20 c21)])), (0, bk4, (.cells 24 [(sS (some q11) n_g c_g)]))]⟩) 7 #[true, true, true, true, true, false, true, false, true, true, false, false, false, false, false] ?cont (fun hK256 => ?now)
         case cont =>
          rintro ⟨bj252, bj254⟩ G257 ⟨hle, hj253, hj255⟩
          show WK _ _ ⟨[(137, (sS (some ⟨bj254, 0, none⟩) 1 1)), (132, (sS (some ⟨bj252, 0, none⟩) 1 1)), (129, (.ls z 3 accN.length cap)), (136, (sS (some ⟨bk27, 0, none⟩) n20 n20)), (134, (.p 2 2)), (131, (tS x14)), (130, (.p 5 0)), (128, (.p 2 1)), (13, (sS (some ⟨bk27, 0, none⟩) n20 n20)), (12, (.p 5 0)), (66, (iN r)), (65, (iN n_g)), (64, (sS (some q11) n_g c_g)), (10, (.p 2 0)), (9, (.v (.pointer (some (⟨bk, 0, none⟩ : Addr))))), (4, (.p 1 0))], [(4, (.lst z2 46 arr2)), (3, (.lst z 9 arr)), (2, (.cells 41 [(sS A_r7 n_r7 c_r7), (.ls z 3 accN.length cap), (.ls z2 4 accA.length cap2)])), (1, (.cells 41 [(sS none 0 0), (sS none 0 0), (sS none 0 0)]))], 9, [], [(5, bk23, (.cells 34 [(tS x14), (sS A19 n20 c21)])), (0, bk4, (.cells 24 [(sS (some q11) n_g c_g)]))]⟩ _
          replace hc6 := Le.trans hc6 hle
          replace hc10 := Le.trans hc10 hle
          replace hcL31 := Le.trans hcL31 hle
          replace h_g := h_g.mono hle
          replace hB := hB.mono hle
          replace h_r7 := h_r7.mono hle
          replace hs18 := hs18.mono hle
          replace hRow := hRow.mono hle
          replace hz := hz.mono hle
          replace hoN := hoN.mono hle
          replace hoA := hoA.mono hle
          have lhj253 := hj253.len'
          have lhj255 := hj255.len'
          refine WD_two 5 7 (by rfl) (by rfl) (by decide +kernel) ?_ ?_
          ·
           skip
           refine WOp_append htb z 3 accN.length cap (some ⟨bj252, 0, none⟩) 1 9 1 16 (by kernel_rfl) (by kernel_rfl) rfl rfl tStr (xs := accN) (ys := [x14]) hoN rfl hzN hj253.row hj253.len rfl (by decide) (by simp only [List.length_append, List.length_cons, List.length_nil]; omega) (by unfold big; simp only [List.length_append, List.length_cons, List.length_nil]; omega) (fun z308 arr309 cap310 hz311 ho312 => WD_on (Le.refl _) ?_)
           show WD _ _ _ _ _ _ _ _ _ ⟨[(133, (.ls z308 9 ((accN ++ ([x14])).length) cap310)), (137, (sS (some ⟨bj254, 0, none⟩) 1 1)), (132, (sS (some ⟨bj252, 0, none⟩) 1 1)), (129, (.ls z 3 accN.length cap)), (136, (sS (some ⟨bk27, 0, none⟩) n20 n20)), (134, (.p 2 2)), (131, (tS x14)), (130, (.p 5 0)), (128, (.p 2 1)), (13, (sS (some ⟨bk27, 0, none⟩) n20 n20)), (12, (.p 5 0)), (66, (iN r)), (65, (iN n_g)), (64, (sS (some q11) n_g c_g)), (10, (.p 2 0)), (9, (.v (.pointer (some (⟨bk, 0, none⟩ : Addr))))), (4, (.p 1 0))], [(9, (.lst z308 9 arr309)), (4, (.lst z2 46 arr2)), (2, (.cells 41 [(sS A_r7 n_r7 c_r7), (.ls z 3 accN.length cap), (.ls z2 4 accA.length cap2)])), (1, (.cells 41 [(sS none 0 0), (sS none 0 0), (sS none 0 0)]))], 10, [], [(5, bk23, (.cells 34 [(tS x14), (sS A19 n20 c21)])), (0, bk4, (.cells 24 [(sS (some q11) n_g c_g)]))]⟩
           refine WD_one 7 (by rfl) (by decide +kernel) (WOp_step htb (S' := ⟨[(135, (.ls z2 4 accA.length cap2)), (133, (.ls z308 9 ((accN ++ ([x14])).length) cap310)), (137, (sS (some ⟨bj254, 0, none⟩) 1 1)), (132, (sS (some ⟨bj252, 0, none⟩) 1 1)), (129, (.ls z 3 accN.length cap)), (136, (sS (some ⟨bk27, 0, none⟩) n20 n20)), (134, (.p 2 2)), (131, (tS x14)), (130, (.p 5 0)), (128, (.p 2 1)), (13, (sS (some ⟨bk27, 0, none⟩) n20 n20)), (12, (.p 5 0)), (66, (iN r)), (65, (iN n_g)), (64, (sS (some q11) n_g c_g)), (10, (.p 2 0)), (9, (.v (.pointer (some (⟨bk, 0, none⟩ : Addr))))), (4, (.p 1 0))], [(9, (.lst z308 9 arr309)), (4, (.lst z2 46 arr2)), (2, (.cells 41 [(sS A_r7 n_r7 c_r7), (.ls z 3 accN.length cap), (.ls z2 4 accA.length cap2)])), (1, (.cells 41 [(sS none 0 0), (sS none 0 0), (sS none 0 0)]))], 10, [], [(5, bk23, (.cells 34 [(tS x14), (sS A19 n20 c21)])), (0, bk4, (.cells 24 [(sS (some q11) n_g c_g)]))]⟩) (by kernel_rfl) (WD_on (Le.refl _) ?_))
           refine WD_takeL htb rfl (fun _ _ _ _ _ h => h) (Le.refl _) [11] (fuel := 4) (listed' := bts 15 3071) (S' := ⟨[(139, (.p 2 1)), (135, (.ls z2 4 accA.length cap2)), (133, (.ls z308 9 ((accN ++ ([x14])).length) cap310)), (137, (sS (some ⟨bj254, 0, none⟩) 1 1)), (132, (sS (some ⟨bj252, 0, none⟩) 1 1)), (129, (.ls z 3 accN.length cap)), (136, (sS (some ⟨bk27, 0, none⟩) n20 n20)), (134, (.p 2 2)), (131, (tS x14)), (130, (.p 5 0)), (128, (.p 2 1)), (13, (sS (some ⟨bk27, 0, none⟩) n20 n20)), (12, (.p 5 0)), (66, (iN r)), (65, (iN n_g)), (64, (sS (some q11) n_g c_g)), (10, (.p 2 0)), (9, (.v (.pointer (some (⟨bk, 0, none⟩ : Addr))))), (4, (.p 1 0))], [(9, (.lst z308 9 arr309)), (4, (.lst z2 46 arr2)), (2, (.cells 41 [(sS A_r7 n_r7 c_r7), (.ls z 3 accN.length cap), (.ls z2 4 accA.length cap2)])), (1, (.cells 41 [(sS none 0 0), (sS none 0 0), (sS none 0 0)]))], 10, [], [(5, bk23, (.cells 34 [(tS x14), (sS A19 n20 c21)])), (0, bk4, (.cells 24 [(sS (some q11) n_g c_g)]))]⟩) hz (by kernel_rfl) rfl ?_
           refine WK_keep [139, 133, 137, 135, 132, 129, 136, 134, 131, 130, 128, 13, 12, 66, 65, 64, 10, 9, 4] [9, 4, 2, 1] rfl rfl ?_
           exact hK41 (bj252, bj254, z308, arr309, cap310) G257 ⟨hcL31, hj253, hj255, ho312, hz311⟩
          ·
           skip
           refine WOp_step htb (S' := ⟨[(135, (.ls z2 4 accA.length cap2)), (137, (sS (some ⟨bj254, 0, none⟩) 1 1)), (132, (sS (some ⟨bj252, 0, none⟩) 1 1)), (129, (.ls z 3 accN.length cap)), (136, (sS (some ⟨bk27, 0, none⟩) n20 n20)), (134, (.p 2 2)), (131, (tS x14)), (130, (.p 5 0)), (128, (.p 2 1)), (13, (sS (some ⟨bk27, 0, none⟩) n20 n20)), (12, (.p 5 0)), (66, (iN r)), (65, (iN n_g)), (64, (sS (some q11) n_g c_g)), (10, (.p 2 0)), (9, (.v (.pointer (some (⟨bk, 0, none⟩ : Addr))))), (4, (.p 1 0))], [(4, (.lst z2 46 arr2)), (3, (.lst z 9 arr)), (2, (.cells 41 [(sS A_r7 n_r7 c_r7), (.ls z 3 accN.length cap), (.ls z2 4 accA.length cap2)])), (1, (.cells 41 [(sS none 0 0), (sS none 0 0), (sS none 0 0)]))], 9, [], [(5, bk23, (.cells 34 [(tS x14), (sS A19 n20 c21)])), (0, bk4, (.cells 24 [(sS (some q11) n_g c_g)]))]⟩) (by kernel_rfl) (WD_on (Le.refl _) ?_)
           refine WD_one 5 (by rfl) (by decide +kernel) (WOp_append htb z 3 accN.length cap (some ⟨bj252, 0, none⟩) 1 9 1 16 (by kernel_rfl) (by kernel_rfl) rfl rfl tStr (xs := accN) (ys := [x14]) hoN rfl hzN hj253.row hj253.len rfl (by decide) (by simp only [List.length_append, List.length_cons, List.length_nil]; omega) (by unfold big; simp only [List.length_append, List.length_cons, List.length_nil]; omega) (fun z308 arr309 cap310 hz311 ho312 => WD_on (Le.refl _) ?_))
           show WD _ _ _ _ _ _ _ _ _ ⟨[(133, (.ls z308 9 ((accN ++ ([x14])).length) cap310)), (135, (.ls z2 4 accA.length cap2)), (137, (sS (some ⟨bj254, 0, none⟩) 1 1)), (132, (sS (some ⟨bj252, 0, none⟩) 1 1)), (129, (.ls z 3 accN.length cap)), (136, (sS (some ⟨bk27, 0, none⟩) n20 n20)), (134, (.p 2 2)), (131, (tS x14)), (130, (.p 5 0)), (128, (.p 2 1)), (13, (sS (some ⟨bk27, 0, none⟩) n20 n20)), (12, (.p 5 0)), (66, (iN r)), (65, (iN n_g)), (64, (sS (some q11) n_g c_g)), (10, (.p 2 0)), (9, (.v (.pointer (some (⟨bk, 0, none⟩ : Addr))))), (4, (.p 1 0))], [(9, (.lst z308 9 arr309)), (4, (.lst z2 46 arr2)), (2, (.cells 41 [(sS A_r7 n_r7 c_r7), (.ls z 3 accN.length cap), (.ls z2 4 accA.length cap2)])), (1, (.cells 41 [(sS none 0 0), (sS none 0 0), (sS none 0 0)]))], 10, [], [(5, bk23, (.cells 34 [(tS x14), (sS A19 n20 c21)])), (0, bk4, (.cells 24 [(sS (some q11) n_g c_g)]))]⟩
           refine WD_takeL htb rfl (fun _ _ _ _ _ h => h) (Le.refl _) [11] (fuel := 4) (listed' := bts 15 3071) (S' := ⟨[(139, (.p 2 1)), (133, (.ls z308 9 ((accN ++ ([x14])).length) cap310)), (135, (.ls z2 4 accA.length cap2)), (137, (sS (some ⟨bj254, 0, none⟩) 1 1)), (132, (sS (some ⟨bj252, 0, none⟩) 1 1)), (129, (.ls z 3 accN.length cap)), (136, (sS (some ⟨bk27, 0, none⟩) n20 n20)), (134, (.p 2 2)), (131, (tS x14)), (130, (.p 5 0)), (128, (.p 2 1)), (13, (sS (some ⟨bk27, 0, none⟩) n20 n20)), (12, (.p 5 0)), (66, (iN r)), (65, (iN n_g)), (64, (sS (some q11) n_g c_g)), (10, (.p 2 0)), (9, (.v (.pointer (some (⟨bk, 0, none⟩ : Addr))))), (4, (.p 1 0))], [(9, (.lst z308 9 arr309)), (4, (.lst z2 46 arr2)), (2, (.cells 41 [(sS A_r7 n_r7 c_r7), (.ls z 3 accN.length cap), (.ls z2 4 accA.length cap2)])), (1, (.cells 41 [(sS none 0 0), (sS none 0 0), (sS none 0 0)]))], 10, [], [(5, bk23, (.cells 34 [(tS x14), (sS A19 n20 c21)])), (0, bk4, (.cells 24 [(sS (some q11) n_g c_g)]))]⟩) hz (by kernel_rfl) rfl ?_
           refine WK_keep [139, 133, 137, 135, 132, 129, 136, 134, 131, 130, 128, 13, 12, 66, 65, 64, 10, 9, 4] [9, 4, 2, 1] rfl rfl ?_
           exact hK41 (bj252, bj254, z308, arr309, cap310) G257 ⟨hcL31, hj253, hj255, ho312, hz311⟩
         case now =>
          refine WD_join (ι := Nat) (fun (bj358) GG => Le G30 GG ∧ Sl (tSlice (tSlice (tInt .i64))) GG (some ⟨bj358, 0, none⟩) 1 1 [val]) (fun (bj358) => ⟨[(137, (sS (some ⟨bj358, 0, none⟩) 1 1)), (135, (.ls z2 4 accA.length cap2)), (129, (.ls z 3 accN.length cap)), (136, (sS (some ⟨bk27, 0, none⟩) n20 n20)), (134, (.p 2 2)), (131, (tS x14)), (130, (.p 5 0)), (128, (.p 2 1)), (13, (sS (some ⟨bk27, 0, none⟩) n20 n20)), (12, (.p 5 0)), (66, (iN r)), (65, (iN n_g)), (64, (sS (some q11) n_g c_g)), (10, (.p 2 0)), (9, (.v (.pointer (some (⟨bk, 0, none⟩ : Addr))))), (4, (.p 1 0))], [(4, (.lst z2 46 arr2)), (3, (.lst z 9 arr)), (2, (.cells 41 [(sS A_r7 n_r7 c_r7), (.ls z 3 accN.length cap), (.ls z2 4 accA.length cap2)])), (1, (.cells 41 [(sS none 0 0), (sS none 0 0), (sS none 0 0)]))], 8, [], [(5, bk23, (.cells 34 [(tS x14), (sS A19 n20 c21)])), (0, bk4, (.cells 24 [(sS (some q11) n_g c_g)]))]⟩) 7 #[true, true, true, true, false, false, true, true, true, true, false, false, false, false, false] ?cont (fun hK360 => ?now)
          case cont =>
           rintro bj358 G361 ⟨hle, hj359⟩
           show WK _ _ ⟨[(137, (sS (some ⟨bj358, 0, none⟩) 1 1)), (135, (.ls z2 4 accA.length cap2)), (129, (.ls z 3 accN.length cap)), (136, (sS (some ⟨bk27, 0, none⟩) n20 n20)), (134, (.p 2 2)), (131, (tS x14)), (130, (.p 5 0)), (128, (.p 2 1)), (13, (sS (some ⟨bk27, 0, none⟩) n20 n20)), (12, (.p 5 0)), (66, (iN r)), (65, (iN n_g)), (64, (sS (some q11) n_g c_g)), (10, (.p 2 0)), (9, (.v (.pointer (some (⟨bk, 0, none⟩ : Addr))))), (4, (.p 1 0))], [(4, (.lst z2 46 arr2)), (3, (.lst z 9 arr)), (2, (.cells 41 [(sS A_r7 n_r7 c_r7), (.ls z 3 accN.length cap), (.ls z2 4 accA.length cap2)])), (1, (.cells 41 [(sS none 0 0), (sS none 0 0), (sS none 0 0)]))], 8, [], [(5, bk23, (.cells 34 [(tS x14), (sS A19 n20 c21)])), (0, bk4, (.cells 24 [(sS (some q11) n_g c_g)]))]⟩ _
           replace hc6 := Le.trans hc6 hle
           replace hc10 := Le.trans hc10 hle
           replace hcL31 := Le.trans hcL31 hle
           replace h_g := h_g.mono hle
           replace hB := hB.mono hle
           replace h_r7 := h_r7.mono hle
           replace hs18 := hs18.mono hle
           replace hRow := hRow.mono hle
           replace hz := hz.mono hle
           replace hoN := hoN.mono hle
           replace hoA := hoA.mono hle
           have lhj359 := hj359.len'
           refine WD_one 4 (by rfl) (by decide +kernel) (WOp_step htb (S' := ⟨[(132, (.s 8 1 1)), (137, (sS (some ⟨bj358, 0, none⟩) 1 1)), (135, (.ls z2 4 accA.length cap2)), (129, (.ls z 3 accN.length cap)), (136, (sS (some ⟨bk27, 0, none⟩) n20 n20)), (134, (.p 2 2)), (131, (tS x14)), (130, (.p 5 0)), (128, (.p 2 1)), (13, (sS (some ⟨bk27, 0, none⟩) n20 n20)), (12, (.p 5 0)), (66, (iN r)), (65, (iN n_g)), (64, (sS (some q11) n_g c_g)), (10, (.p 2 0)), (9, (.v (.pointer (some (⟨bk, 0, none⟩ : Addr))))), (4, (.p 1 0))], [(8, (.cells 9 [(tS x14)])), (4, (.lst z2 46 arr2)), (3, (.lst z 9 arr)), (2, (.cells 41 [(sS A_r7 n_r7 c_r7), (.ls z 3 accN.length cap), (.ls z2 4 accA.length cap2)])), (1, (.cells 41 [(sS none 0 0), (sS none 0 0), (sS none 0 0)]))], 9, [], [(5, bk23, (.cells 34 [(tS x14), (sS A19 n20 c21)])), (0, bk4, (.cells 24 [(sS (some q11) n_g c_g)]))]⟩) (by kernel_rfl) (WD_on (Le.refl _) ?_))
           refine WK_freezeV 8 rfl rfl rfl rfl ?_
           intro bk413 G412 hle hbk413
           replace hc6 := Le.trans hc6 hle
           replace hc10 := Le.trans hc10 hle
           replace hcL31 := Le.trans hcL31 hle
           replace h_g := h_g.mono hle
           replace hB := hB.mono hle
           replace h_r7 := h_r7.mono hle
           replace hs18 := hs18.mono hle
           replace hRow := hRow.mono hle
           replace hj359 := hj359.mono hle
           replace hz := hz.mono hle
           replace hoN := hoN.mono hle
           replace hoA := hoA.mono hle
           refine WD_up hle ?_
           show WK _ _ ⟨[(132, (sS (some ⟨bk413, 0, none⟩) 1 1)), (137, (sS (some ⟨bj358, 0, none⟩) 1 1)), (135, (.ls z2 4 accA.length cap2)), (129, (.ls z 3 accN.length cap)), (136, (sS (some ⟨bk27, 0, none⟩) n20 n20)), (134, (.p 2 2)), (131, (tS x14)), (130, (.p 5 0)), (128, (.p 2 1)), (13, (sS (some ⟨bk27, 0, none⟩) n20 n20)), (12, (.p 5 0)), (66, (iN r)), (65, (iN n_g)), (64, (sS (some q11) n_g c_g)), (10, (.p 2 0)), (9, (.v (.pointer (some (⟨bk, 0, none⟩ : Addr))))), (4, (.p 1 0))], [(4, (.lst z2 46 arr2)), (3, (.lst z 9 arr)), (2, (.cells 41 [(sS A_r7 n_r7 c_r7), (.ls z 3 accN.length cap), (.ls z2 4 accA.length cap2)])), (1, (.cells 41 [(sS none 0 0), (sS none 0 0), (sS none 0 0)]))], 9, [], [(5, bk23, (.cells 34 [(tS x14), (sS A19 n20 c21)])), (0, bk4, (.cells 24 [(sS (some q11) n_g c_g)]))]⟩ _
           have hs414 : Sl tStr G412 (some ⟨bk413, 0, none⟩) 1 1 [x14] := Sl.lit (cs := [.string x14]) (RepsL.cons' (rep_str _ (x := x14) hn15) .nil) hbk413 rfl (by unfold big; omega)
           have lhs414 := hs414.len'
           refine WD_one 5 (by rfl) (by decide +kernel) (WOp_append htb z 3 accN.length cap (some ⟨bk413, 0, none⟩) 1 9 1 16 (by kernel_rfl) (by kernel_rfl) rfl rfl tStr (xs := accN) (ys := [x14]) hoN rfl hzN hs414.row hs414.len rfl (by decide) (by simp only [List.length_append, List.length_cons, List.length_nil]; omega) (by unfold big; simp only [List.length_append, List.length_cons, List.length_nil]; omega) (fun z415 arr416 cap417 hz418 ho419 => WD_on (Le.refl _) ?_))
           show WD _ _ _ _ _ _ _ _ _ ⟨[(133, (.ls z415 9 ((accN ++ ([x14])).length) cap417)), (132, (sS (some ⟨bk413, 0, none⟩) 1 1)), (137, (sS (some ⟨bj358, 0, none⟩) 1 1)), (135, (.ls z2 4 accA.length cap2)), (129, (.ls z 3 accN.length cap)), (136, (sS (some ⟨bk27, 0, none⟩) n20 n20)), (134, (.p 2 2)), (131, (tS x14)), (130, (.p 5 0)), (128, (.p 2 1)), (13, (sS (some ⟨bk27, 0, none⟩) n20 n20)), (12, (.p 5 0)), (66, (iN r)), (65, (iN n_g)), (64, (sS (some q11) n_g c_g)), (10, (.p 2 0)), (9, (.v (.pointer (some (⟨bk, 0, none⟩ : Addr))))), (4, (.p 1 0))], [(9, (.lst z415 9 arr416)), (4, (.lst z2 46 arr2)), (2, (.cells 41 [(sS A_r7 n_r7 c_r7), (.ls z 3 accN.length cap), (.ls z2 4 accA.length cap2)])), (1, (.cells 41 [(sS none 0 0), (sS none 0 0), (sS none 0 0)]))], 10, [], [(5, bk23, (.cells 34 [(tS x14), (sS A19 n20 c21)])), (0, bk4, (.cells 24 [(sS (some q11) n_g c_g)]))]⟩
           refine WD_takeL htb rfl (fun _ _ _ _ _ h => h) (Le.refl _) [11] (fuel := 4) (listed' := bts 15 3071) (S' := ⟨[(139, (.p 2 1)), (133, (.ls z415 9 ((accN ++ ([x14])).length) cap417)), (132, (sS (some ⟨bk413, 0, none⟩) 1 1)), (137, (sS (some ⟨bj358, 0, none⟩) 1 1)), (135, (.ls z2 4 accA.length cap2)), (129, (.ls z 3 accN.length cap)), (136, (sS (some ⟨bk27, 0, none⟩) n20 n20)), (134, (.p 2 2)), (131, (tS x14)), (130, (.p 5 0)), (128, (.p 2 1)), (13, (sS (some ⟨bk27, 0, none⟩) n20 n20)), (12, (.p 5 0)), (66, (iN r)), (65, (iN n_g)), (64, (sS (some q11) n_g c_g)), (10, (.p 2 0)), (9, (.v (.pointer (some (⟨bk, 0, none⟩ : Addr))))), (4, (.p 1 0))], [(9, (.lst z415 9 arr416)), (4, (.lst z2 46 arr2)), (2, (.cells 41 [(sS A_r7 n_r7 c_r7), (.ls z 3 accN.length cap), (.ls z2 4 accA.length cap2)])), (1, (.cells 41 [(sS none 0 0), (sS none 0 0), (sS none 0 0)]))], 10, [], [(5, bk23, (.cells 34 [(tS x14), (sS A19 n20 c21)])), (0, bk4, (.cells 24 [(sS (some q11) n_g c_g)]))]⟩) hz (by kernel_rfl) rfl ?_
           refine WK_keep [139, 133, 137, 135, 132, 129, 136, 134, 131, 130, 128, 13, 12, 66, 65, 64, 10, 9, 4] [9, 4, 2, 1] rfl rfl ?_
           exact hK41 (bk413, bj358, z415, arr416, cap417) G412 ⟨hcL31, hs414, hj359, ho419, hz418⟩
          case now =>
           refine WD_join (ι := Nat × Nat) (fun (bj470, bj472) GG => Le G30 GG ∧ Sl tStr GG (some ⟨bj470, 0, none⟩) 1 1 [x14] ∧ Sl (tSlice (tSlice (tInt .i64))) GG (some ⟨bj472, 0, none⟩) 1 1 [val]) (fun (bj470, bj472) => ⟨[(137, (sS (some ⟨bj472, 0, none⟩) 1 1)), (135, (.ls z2 4 accA.length cap2)), (132, (sS (some ⟨bj470, 0, none⟩) 1 1)), (136, (sS (some ⟨bk27, 0, none⟩) n20 n20)), (134, (.p 2 2)), (131, (tS x14)), (130, (.p 5 0)), (128, (.p 2 1)), (13, (sS (some ⟨bk27, 0, none⟩) n20 n20)), (12, (.p 5 0)), (66, (iN r)), (65, (iN n_g)), (64, (sS (some q11) n_g c_g)), (10, (.p 2 0)), (9, (.v (.pointer (some (⟨bk, 0, none⟩ : Addr))))), (4, (.p 1 0))], [(4, (.lst z2 46 arr2)), (3, (.lst z 9 arr)), (2, (.cells 41 [(sS A_r7 n_r7 c_r7), (.ls z 3 accN.length cap), (.ls z2 4 accA.length cap2)])), (1, (.cells 41 [(sS none 0 0), (sS none 0 0), (sS none 0 0)]))], 9, [], [(5, bk23, (.cells 34 [(tS x14), (sS A19 n20 c21)])), (0, bk4, (.cells 24 [(sS (some q11) n_g c_g)]))]⟩) 7 #[true, false, true, true, true, false, true, true, true, true, false, false, false, false, false] ?cont (fun hK474 => ?now)
           case cont =>
            rintro ⟨bj470, bj472⟩ G475 ⟨hle, hj471, hj473⟩
            show WK _ _ ⟨[(137, (sS (some ⟨bj472, 0, none⟩) 1 1)), (135, (.ls z2 4 accA.length cap2)), (132, (sS (some ⟨bj470, 0, none⟩) 1 1)), (136, (sS (some ⟨bk27, 0, none⟩) n20 n20)), (134, (.p 2 2)), (131, (tS x14)), (130, (.p 5 0)), (128, (.p 2 1)), (13, (sS (some ⟨bk27, 0, none⟩) n20 n20)), (12, (.p 5 0)), (66, (iN r)), (65, (iN n_g)), (64, (sS (some q11) n_g c_g)), (10, (.p 2 0)), (9, (.v (.pointer (some (⟨bk, 0, none⟩ : Addr))))), (4, (.p 1 0))], [(4, (.lst z2 46 arr2)), (3, (.lst z 9 arr)), (2, (.cells 41 [(sS A_r7 n_r7 c_r7), (.ls z 3 accN.length cap), (.ls z2 4 accA.length cap2)])), (1, (.cells 41 [(sS none 0 0), (sS none 0 0), (sS none 0 0)]))], 9, [], [(5, bk23, (.cells 34 [(tS x14), (sS A19 n20 c21)])), (0, bk4, (.cells 24 [(sS (some q11) n_g c_g)]))]⟩ _
            replace hc6 := Le.trans hc6 hle
            replace hc10 := Le.trans hc10 hle
            replace hcL31 := Le.trans hcL31 hle
            replace h_g := h_g.mono hle
            replace hB := hB.mono hle
            replace h_r7 := h_r7.mono hle
            replace hs18 := hs18.mono hle
            replace hRow := hRow.mono hle
            replace hz := hz.mono hle
            replace hoN := hoN.mono hle
            replace hoA := hoA.mono hle
            have lhj471 := hj471.len'
            have lhj473 := hj473.len'
            refine WD_one 1 (by rfl) (by decide +kernel) (WOp_step htb (S' := ⟨[(129, (.ls z 3 accN.length cap)), (137, (sS (some ⟨bj472, 0, none⟩) 1 1)), (135, (.ls z2 4 accA.length cap2)), (132, (sS (some ⟨bj470, 0, none⟩) 1 1)), (136, (sS (some ⟨bk27, 0, none⟩) n20 n20)), (134, (.p 2 2)), (131, (tS x14)), (130, (.p 5 0)), (128, (.p 2 1)), (13, (sS (some ⟨bk27, 0, none⟩) n20 n20)), (12, (.p 5 0)), (66, (iN r)), (65, (iN n_g)), (64, (sS (some q11) n_g c_g)), (10, (.p 2 0)), (9, (.v (.pointer (some (⟨bk, 0, none⟩ : Addr))))), (4, (.p 1 0))], [(4, (.lst z2 46 arr2)), (3, (.lst z 9 arr)), (2, (.cells 41 [(sS A_r7 n_r7 c_r7), (.ls z 3 accN.length cap), (.ls z2 4 accA.length cap2)])), (1, (.cells 41 [(sS none 0 0), (sS none 0 0), (sS none 0 0)]))], 9, [], [(5, bk23, (.cells 34 [(tS x14), (sS A19 n20 c21)])), (0, bk4, (.cells 24 [(sS (some q11) n_g c_g)]))]⟩) (by kernel_rfl) (WD_on (Le.refl _) ?_))
            refine WD_one 5 (by rfl) (by decide +kernel) (WOp_append htb z 3 accN.length cap (some ⟨bj470, 0, none⟩) 1 9 1 16 (by kernel_rfl) (by kernel_rfl) rfl rfl tStr (xs := accN) (ys := [x14]) hoN rfl hzN hj471.row hj471.len rfl (by decide) (by simp only [List.length_append, List.length_cons, List.length_nil]; omega) (by unfold big; simp only [List.length_append, List.length_cons, List.length_nil]; omega) (fun z526 arr527 cap528 hz529 ho530 => WD_on (Le.refl _) ?_))
            show WD _ _ _ _ _ _ _ _ _ ⟨[(133, (.ls z526 9 ((accN ++ ([x14])).length) cap528)), (129, (.ls z 3 accN.length cap)), (137, (sS (some ⟨bj472, 0, none⟩) 1 1)), (135, (.ls z2 4 accA.length cap2)), (132, (sS (some ⟨bj470, 0, none⟩) 1 1)), (136, (sS (some ⟨bk27, 0, none⟩) n20 n20)), (134, (.p 2 2)), (131, (tS x14)), (130, (.p 5 0)), (128, (.p 2 1)), (13, (sS (some ⟨bk27, 0, none⟩) n20 n20)), (12, (.p 5 0)), (66, (iN r)), (65, (iN n_g)), (64, (sS (some q11) n_g c_g)), (10, (.p 2 0)), (9, (.v (.pointer (some (⟨bk, 0, none⟩ : Addr))))), (4, (.p 1 0))], [(9, (.lst z526 9 arr527)), (4, (.lst z2 46 arr2)), (2, (.cells 41 [(sS A_r7 n_r7 c_r7), (.ls z 3 accN.length cap), (.ls z2 4 accA.length cap2)])), (1, (.cells 41 [(sS none 0 0), (sS none 0 0), (sS none 0 0)]))], 10, [], [(5, bk23, (.cells 34 [(tS x14), (sS A19 n20 c21)])), (0, bk4, (.cells 24 [(sS (some q11) n_g c_g)]))]⟩
            refine WD_takeL htb rfl (fun _ _ _ _ _ h => h) (Le.refl _) [11] (fuel := 4) (listed' := bts 15 3071) (S' := ⟨[(139, (.p 2 1)), (133, (.ls z526 9 ((accN ++ ([x14])).length) cap528)), (129, (.ls z 3 accN.length cap)), (137, (sS (some ⟨bj472, 0, none⟩) 1 1)), (135, (.ls z2 4 accA.length cap2)), (132, (sS (some ⟨bj470, 0, none⟩) 1 1)), (136, (sS (some ⟨bk27, 0, none⟩) n20 n20)), (134, (.p 2 2)), (131, (tS x14)), (130, (.p 5 0)), (128, (.p 2 1)), (13, (sS (some ⟨bk27, 0, none⟩) n20 n20)), (12, (.p 5 0)), (66, (iN r)), (65, (iN n_g)), (64, (sS (some q11) n_g c_g)), (10, (.p 2 0)), (9, (.v (.pointer (some (⟨bk, 0, none⟩ : Addr))))), (4, (.p 1 0))], [(9, (.lst z526 9 arr527)), (4, (.lst z2 46 arr2)), (2, (.cells 41 [(sS A_r7 n_r7 c_r7), (.ls z 3 accN.length cap), (.ls z2 4 accA.length cap2)])), (1, (.cells 41 [(sS none 0 0), (sS none 0 0), (sS none 0 0)]))], 10, [], [(5, bk23, (.cells 34 [(tS x14), (sS A19 n20 c21)])), (0, bk4, (.cells 24 [(sS (some q11) n_g c_g)]))]⟩) hz (by kernel_rfl) rfl ?_
            refine WK_keep [139, 133, 137, 135, 132, 129, 136, 134, 131, 130, 128, 13, 12, 66, 65, 64, 10, 9, 4] [9, 4, 2, 1] rfl rfl ?_
            exact hK41 (bj470, bj472, z526, arr527, cap528) G475 ⟨hcL31, hj471, hj473, ho530, hz529⟩
           case now =>
            refine WD_join (ι := Nat × Bool × Array Value × Nat) (fun (bj581, zj583, arj584, cpj585) GG => Le G30 GG ∧ Sl tStr GG (some ⟨bj581, 0, none⟩) 1 1 [x14] ∧ OwnL tStr GG (accN ++ ([x14])) arj584 cpj585 ∧ (zj583 = true → (accN ++ ([x14])) = [])) (fun (bj581, zj583, arj584, cpj585) => ⟨[(133, (.ls zj583 8 ((accN ++ ([x14])).length) cpj585)), (132, (sS (some ⟨bj581, 0, none⟩) 1 1)), (129, (.ls z 3 accN.length cap)), (136, (sS (some ⟨bk27, 0, none⟩) n20 n20)), (134, (.p 2 2)), (131, (tS x14)), (130, (.p 5 0)), (128, (.p 2 1)), (13, (sS (some ⟨bk27, 0, none⟩) n20 n20)), (12, (.p 5 0)), (66, (iN r)), (65, (iN n_g)), (64, (sS (some q11) n_g c_g)), (10, (.p 2 0)), (9, (.v (.pointer (some (⟨bk, 0, none⟩ : Addr))))), (4, (.p 1 0))], [(8, (.lst zj583 9 arj584)), (4, (.lst z2 46 arr2)), (2, (.cells 41 [(sS A_r7 n_r7 c_r7), (.ls z 3 accN.length cap), (.ls z2 4 accA.length cap2)])), (1, (.cells 41 [(sS none 0 0), (sS none 0 0), (sS none 0 0)]))], 9, [], [(5, bk23, (.cells 34 [(tS x14), (sS A19 n20 c21)])), (0, bk4, (.cells 24 [(sS (some q11) n_g c_g)]))]⟩) 7 #[true, true, true, true, true, true, true, false, true, false, false, false, false, false, false] ?cont (fun hK588 => ?now)
            case cont =>
             rintro ⟨bj581, zj583, arj584, cpj585⟩ G589 ⟨hle, hj582, hoj586, hzj587⟩
             show WK _ _ ⟨[(133, (.ls zj583 8 ((accN ++ ([x14])).length) cpj585)), (132, (sS (some ⟨bj581, 0, none⟩) 1 1)), (129, (.ls z 3 accN.length cap)), (136, (sS (some ⟨bk27, 0, none⟩) n20 n20)), (134, (.p 2 2)), (131, (tS x14)), (130, (.p 5 0)), (128, (.p 2 1)), (13, (sS (some ⟨bk27, 0, none⟩) n20 n20)), (12, (.p 5 0)), (66, (iN r)), (65, (iN n_g)), (64, (sS (some q11) n_g c_g)), (10, (.p 2 0)), (9, (.v (.pointer (some (⟨bk, 0, none⟩ : Addr))))), (4, (.p 1 0))], [(8, (.lst zj583 9 arj584)), (4, (.lst z2 46 arr2)), (2, (.cells 41 [(sS A_r7 n_r7 c_r7), (.ls z 3 accN.length cap), (.ls z2 4 accA.length cap2)])), (1, (.cells 41 [(sS none 0 0), (sS none 0 0), (sS none 0 0)]))], 9, [], [(5, bk23, (.cells 34 [(tS x14), (sS A19 n20 c21)])), (0, bk4, (.cells 24 [(sS (some q11) n_g c_g)]))]⟩ _
             replace hc6 := Le.trans hc6 hle
             replace hc10 := Le.trans hc10 hle
             replace hcL31 := Le.trans hcL31 hle
             replace h_g := h_g.mono hle
             replace hB := hB.mono hle
             replace h_r7 := h_r7.mono hle
             replace hs18 := hs18.mono hle
             replace hRow := hRow.mono hle
             replace hz := hz.mono hle
             replace hoA := hoA.mono hle
             have lhj582 := hj582.len'
             refine WD_two 7 9 (by rfl) (by rfl) (by decide +kernel) ?_ ?_
             ·
              skip
              refine WOp_step htb (S' := ⟨[(135, (.ls z2 4 accA.length cap2)), (133, (.ls zj583 8 ((accN ++ ([x14])).length) cpj585)), (132, (sS (some ⟨bj581, 0, none⟩) 1 1)), (129, (.ls z 3 accN.length cap)), (136, (sS (some ⟨bk27, 0, none⟩) n20 n20)), (134, (.p 2 2)), (131, (tS x14)), (130, (.p 5 0)), (128, (.p 2 1)), (13, (sS (some ⟨bk27, 0, none⟩) n20 n20)), (12, (.p 5 0)), (66, (iN r)), (65, (iN n_g)), (64, (sS (some q11) n_g c_g)), (10, (.p 2 0)), (9, (.v (.pointer (some (⟨bk, 0, none⟩ : Addr))))), (4, (.p 1 0))], [(8, (.lst zj583 9 arj584)), (4, (.lst z2 46 arr2)), (2, (.cells 41 [(sS A_r7 n_r7 c_r7), (.ls z 3 accN.length cap), (.ls z2 4 accA.length cap2)])), (1, (.cells 41 [(sS none 0 0), (sS none 0 0), (sS none 0 0)]))], 9, [], [(5, bk23, (.cells 34 [(tS x14), (sS A19 n20 c21)])), (0, bk4, (.cells 24 [(sS (some q11) n_g c_g)]))]⟩) (by kernel_rfl) (WD_on (Le.refl _) ?_)
              refine WD_takeL htb rfl (fun _ _ _ _ _ h => h) (Le.refl _) [11] (fuel := 5) (listed' := bts 15 2559) (S' := ⟨[(139, (.p 2 1)), (135, (.ls z2 4 accA.length cap2)), (133, (.ls zj583 8 ((accN ++ ([x14])).length) cpj585)), (132, (sS (some ⟨bj581, 0, none⟩) 1 1)), (129, (.ls z 3 accN.length cap)), (136, (sS (some ⟨bk27, 0, none⟩) n20 n20)), (134, (.p 2 2)), (131, (tS x14)), (130, (.p 5 0)), (128, (.p 2 1)), (13, (sS (some ⟨bk27, 0, none⟩) n20 n20)), (12, (.p 5 0)), (66, (iN r)), (65, (iN n_g)), (64, (sS (some q11) n_g c_g)), (10, (.p 2 0)), (9, (.v (.pointer (some (⟨bk, 0, none⟩ : Addr))))), (4, (.p 1 0))], [(8, (.lst zj583 9 arj584)), (4, (.lst z2 46 arr2)), (2, (.cells 41 [(sS A_r7 n_r7 c_r7), (.ls z 3 accN.length cap), (.ls z2 4 accA.length cap2)])), (1, (.cells 41 [(sS none 0 0), (sS none 0 0), (sS none 0 0)]))], 9, [], [(5, bk23, (.cells 34 [(tS x14), (sS A19 n20 c21)])), (0, bk4, (.cells 24 [(sS (some q11) n_g c_g)]))]⟩) hz (by kernel_rfl) rfl ?_
              refine WD_one 9 (by rfl) (by decide +kernel) (WOp_step htb (S' := ⟨[(137, (.s 9 1 1)), (139, (.p 2 1)), (135, (.ls z2 4 accA.length cap2)), (133, (.ls zj583 8 ((accN ++ ([x14])).length) cpj585)), (132, (sS (some ⟨bj581, 0, none⟩) 1 1)), (129, (.ls z 3 accN.length cap)), (136, (sS (some ⟨bk27, 0, none⟩) n20 n20)), (134, (.p 2 2)), (131, (tS x14)), (130, (.p 5 0)), (128, (.p 2 1)), (13, (sS (some ⟨bk27, 0, none⟩) n20 n20)), (12, (.p 5 0)), (66, (iN r)), (65, (iN n_g)), (64, (sS (some q11) n_g c_g)), (10, (.p 2 0)), (9, (.v (.pointer (some (⟨bk, 0, none⟩ : Addr))))), (4, (.p 1 0))], [(9, (.cells 46 [(sS (some ⟨bk27, 0, none⟩) n20 n20)])), (8, (.lst zj583 9 arj584)), (4, (.lst z2 46 arr2)), (2, (.cells 41 [(sS A_r7 n_r7 c_r7), (.ls z 3 accN.length cap), (.ls z2 4 accA.length cap2)])), (1, (.cells 41 [(sS none 0 0), (sS none 0 0), (sS none 0 0)]))], 10, [], [(5, bk23, (.cells 34 [(tS x14), (sS A19 n20 c21)])), (0, bk4, (.cells 24 [(sS (some q11) n_g c_g)]))]⟩) (by kernel_rfl) (WD_on (Le.refl _) ?_))
              refine WK_freezeV 9 rfl rfl rfl rfl ?_
              intro bk641 G640 hle hbk641
              replace hc6 := Le.trans hc6 hle
              replace hc10 := Le.trans hc10 hle
              replace hcL31 := Le.trans hcL31 hle
              replace h_g := h_g.mono hle
              replace hB := hB.mono hle
              replace h_r7 := h_r7.mono hle
              replace hs18 := hs18.mono hle
              replace hRow := hRow.mono hle
              replace hj582 := hj582.mono hle
              replace hz := hz.mono hle
              replace hoA := hoA.mono hle
              replace hoj586 := hoj586.mono hle
              refine WD_up hle ?_
              show WK _ _ ⟨[(137, (sS (some ⟨bk641, 0, none⟩) 1 1)), (139, (.p 2 1)), (135, (.ls z2 4 accA.length cap2)), (133, (.ls zj583 8 ((accN ++ ([x14])).length) cpj585)), (132, (sS (some ⟨bj581, 0, none⟩) 1 1)), (129, (.ls z 3 accN.length cap)), (136, (sS (some ⟨bk27, 0, none⟩) n20 n20)), (134, (.p 2 2)), (131, (tS x14)), (130, (.p 5 0)), (128, (.p 2 1)), (13, (sS (some ⟨bk27, 0, none⟩) n20 n20)), (12, (.p 5 0)), (66, (iN r)), (65, (iN n_g)), (64, (sS (some q11) n_g c_g)), (10, (.p 2 0)), (9, (.v (.pointer (some (⟨bk, 0, none⟩ : Addr))))), (4, (.p 1 0))], [(8, (.lst zj583 9 arj584)), (4, (.lst z2 46 arr2)), (2, (.cells 41 [(sS A_r7 n_r7 c_r7), (.ls z 3 accN.length cap), (.ls z2 4 accA.length cap2)])), (1, (.cells 41 [(sS none 0 0), (sS none 0 0), (sS none 0 0)]))], 10, [], [(5, bk23, (.cells 34 [(tS x14), (sS A19 n20 c21)])), (0, bk4, (.cells 24 [(sS (some q11) n_g c_g)]))]⟩ _
              have hs642 : Sl (tSlice (tSlice (tInt .i64))) G640 (some ⟨bk641, 0, none⟩) 1 1 [val] := Sl.lit (cs := [.slice (some ⟨bk27, 0, none⟩) n20 n20]) (RepsL.cons' hRow.reps .nil) hbk641 rfl (by unfold big; omega)
              have lhs642 := hs642.len'
              refine WK_keep [139, 133, 137, 135, 132, 129, 136, 134, 131, 130, 128, 13, 12, 66, 65, 64, 10, 9, 4] [8, 4, 2, 1] rfl rfl ?_
              refine WK_ren (T := ⟨[(139, (.p 2 1)), (133, (.ls zj583 9 ((accN ++ ([x14])).length) cpj585)), (137, (sS (some ⟨bk641, 0, none⟩) 1 1)), (135, (.ls z2 4 accA.length cap2)), (132, (sS (some ⟨bj581, 0, none⟩) 1 1)), (129, (.ls z 3 accN.length cap)), (136, (sS (some ⟨bk27, 0, none⟩) n20 n20)), (134, (.p 2 2)), (131, (tS x14)), (130, (.p 5 0)), (128, (.p 2 1)), (13, (sS (some ⟨bk27, 0, none⟩) n20 n20)), (12, (.p 5 0)), (66, (iN r)), (65, (iN n_g)), (64, (sS (some q11) n_g c_g)), (10, (.p 2 0)), (9, (.v (.pointer (some (⟨bk, 0, none⟩ : Addr))))), (4, (.p 1 0))], [(9, (.lst zj583 9 arj584)), (4, (.lst z2 46 arr2)), (2, (.cells 41 [(sS A_r7 n_r7 c_r7), (.ls z 3 accN.length cap), (.ls z2 4 accA.length cap2)])), (1, (.cells 41 [(sS none 0 0), (sS none 0 0), (sS none 0 0)]))], 10, [], [(5, bk23, (.cells 34 [(tS x14), (sS A19 n20 c21)])), (0, bk4, (.cells 24 [(sS (some q11) n_g c_g)]))]⟩) [(9, 8)] rfl rfl rfl rfl rfl rfl ?_
              exact hK41 (bj581, bk641, zj583, arj584, cpj585) G640 ⟨hcL31, hj582, hs642, hoj586, hzj587⟩
             ·
              skip
              refine WOp_step htb (S' := ⟨[(137, (.s 9 1 1)), (133, (.ls zj583 8 ((accN ++ ([x14])).length) cpj585)), (132, (sS (some ⟨bj581, 0, none⟩) 1 1)), (129, (.ls z 3 accN.length cap)), (136, (sS (some ⟨bk27, 0, none⟩) n20 n20)), (134, (.p 2 2)), (131, (tS x14)), (130, (.p 5 0)), (128, (.p 2 1)), (13, (sS (some ⟨bk27, 0, none⟩) n20 n20)), (12, (.p 5 0)), (66, (iN r)), (65, (iN n_g)), (64, (sS (some q11) n_g c_g)), (10, (.p 2 0)), (9, (.v (.pointer (some (⟨bk, 0, none⟩ : Addr))))), (4, (.p 1 0))], [(9, (.cells 46 [(sS (some ⟨bk27, 0, none⟩) n20 n20)])), (8, (.lst zj583 9 arj584)), (4, (.lst z2 46 arr2)), (2, (.cells 41 [(sS A_r7 n_r7 c_r7), (.ls z 3 accN.length cap), (.ls z2 4 accA.length cap2)])), (1, (.cells 41 [(sS none 0 0), (sS none 0 0), (sS none 0 0)]))], 10, [], [(5, bk23, (.cells 34 [(tS x14), (sS A19 n20 c21)])), (0, bk4, (.cells 24 [(sS (some q11) n_g c_g)]))]⟩) (by kernel_rfl) (WD_on (Le.refl _) ?_)
              refine WK_freezeV 9 rfl rfl rfl rfl ?_
              intro bk641 G640 hle hbk641
              replace hc6 := Le.trans hc6 hle
              replace hc10 := Le.trans hc10 hle
              replace hcL31 := Le.trans hcL31 hle
              replace h_g := h_g.mono hle
              replace hB := hB.mono hle
              replace h_r7 := h_r7.mono hle
              replace hs18 := hs18.mono hle
              replace hRow := hRow.mono hle
              replace hj582 := hj582.mono hle
              replace hz := hz.mono hle
              replace hoA := hoA.mono hle
              replace hoj586 := hoj586.mono hle
              refine WD_up hle ?_
              show WK _ _ ⟨[(137, (sS (some ⟨bk641, 0, none⟩) 1 1)), (133, (.ls zj583 8 ((accN ++ ([x14])).length) cpj585)), (132, (sS (some ⟨bj581, 0, none⟩) 1 1)), (129, (.ls z 3 accN.length cap)), (136, (sS (some ⟨bk27, 0, none⟩) n20 n20)), (134, (.p 2 2)), (131, (tS x14)), (130, (.p 5 0)), (128, (.p 2 1)), (13, (sS (some ⟨bk27, 0, none⟩) n20 n20)), (12, (.p 5 0)), (66, (iN r)), (65, (iN n_g)), (64, (sS (some q11) n_g c_g)), (10, (.p 2 0)), (9, (.v (.pointer (some (⟨bk, 0, none⟩ : Addr))))), (4, (.p 1 0))], [(8, (.lst zj583 9 arj584)), (4, (.lst z2 46 arr2)), (2, (.cells 41 [(sS A_r7 n_r7 c_r7), (.ls z 3 accN.length cap), (.ls z2 4 accA.length cap2)])), (1, (.cells 41 [(sS none 0 0), (sS none 0 0), (sS none 0 0)]))], 10, [], [(5, bk23, (.cells 34 [(tS x14), (sS A19 n20 c21)])), (0, bk4, (.cells 24 [(sS (some q11) n_g c_g)]))]⟩ _
              have hs642 : Sl (tSlice (tSlice (tInt .i64))) G640 (some ⟨bk641, 0, none⟩) 1 1 [val] := Sl.lit (cs := [.slice (some ⟨bk27, 0, none⟩) n20 n20]) (RepsL.cons' hRow.reps .nil) hbk641 rfl (by unfold big; omega)
              have lhs642 := hs642.len'
              refine WD_one 7 (by rfl) (by decide +kernel) (WOp_step htb (S' := ⟨[(135, (.ls z2 4 accA.length cap2)), (137, (sS (some ⟨bk641, 0, none⟩) 1 1)), (133, (.ls zj583 8 ((accN ++ ([x14])).length) cpj585)), (132, (sS (some ⟨bj581, 0, none⟩) 1 1)), (129, (.ls z 3 accN.length cap)), (136, (sS (some ⟨bk27, 0, none⟩) n20 n20)), (134, (.p 2 2)), (131, (tS x14)), (130, (.p 5 0)), (128, (.p 2 1)), (13, (sS (some ⟨bk27, 0, none⟩) n20 n20)), (12, (.p 5 0)), (66, (iN r)), (65, (iN n_g)), (64, (sS (some q11) n_g c_g)), (10, (.p 2 0)), (9, (.v (.pointer (some (⟨bk, 0, none⟩ : Addr))))), (4, (.p 1 0))], [(8, (.lst zj583 9 arj584)), (4, (.lst z2 46 arr2)), (2, (.cells 41 [(sS A_r7 n_r7 c_r7), (.ls z 3 accN.length cap), (.ls z2 4 accA.length cap2)])), (1, (.cells 41 [(sS none 0 0), (sS none 0 0), (sS none 0 0)]))], 10, [], [(5, bk23, (.cells 34 [(tS x14), (sS A19 n20 c21)])), (0, bk4, (.cells 24 [(sS (some q11) n_g c_g)]))]⟩) (by kernel_rfl) (WD_on (Le.refl _) ?_))
              refine WD_takeL htb rfl (fun _ _ _ _ _ h => h) (Le.refl _) [11] (fuel := 4) (listed' := bts 15 3071) (S' := ⟨[(139, (.p 2 1)), (135, (.ls z2 4 accA.length cap2)), (137, (sS (some ⟨bk641, 0, none⟩) 1 1)), (133, (.ls zj583 8 ((accN ++ ([x14])).length) cpj585)), (132, (sS (some ⟨bj581, 0, none⟩) 1 1)), (129, (.ls z 3 accN.length cap)), (136, (sS (some ⟨bk27, 0, none⟩) n20 n20)), (134, (.p 2 2)), (131, (tS x14)), (130, (.p 5 0)), (128, (.p 2 1)), (13, (sS (some ⟨bk27, 0, none⟩) n20 n20)), (12, (.p 5 0)), (66, (iN r)), (65, (iN n_g)), (64, (sS (some q11) n_g c_g)), (10, (.p 2 0)), (9, (.v (.pointer (some (⟨bk, 0, none⟩ : Addr))))), (4, (.p 1 0))], [(8, (.lst zj583 9 arj584)), (4, (.lst z2 46 arr2)), (2, (.cells 41 [(sS A_r7 n_r7 c_r7), (.ls z 3 accN.length cap), (.ls z2 4 accA.length cap2)])), (1, (.cells 41 [(sS none 0 0), (sS none 0 0), (sS none 0 0)]))], 10, [], [(5, bk23, (.cells 34 [(tS x14), (sS A19 n20 c21)])), (0, bk4, (.cells 24 [(sS (some q11) n_g c_g)]))]⟩) hz (by kernel_rfl) rfl ?_
              refine WK_keep [139, 133, 137, 135, 132, 129, 136, 134, 131, 130, 128, 13, 12, 66, 65, 64, 10, 9, 4] [8, 4, 2, 1] rfl rfl ?_
              refine WK_ren (T := ⟨[(139, (.p 2 1)), (133, (.ls zj583 9 ((accN ++ ([x14])).length) cpj585)), (137, (sS (some ⟨bk641, 0, none⟩) 1 1)), (135, (.ls z2 4 accA.length cap2)), (132, (sS (some ⟨bj581, 0, none⟩) 1 1)), (129, (.ls z 3 accN.length cap)), (136, (sS (some ⟨bk27, 0, none⟩) n20 n20)), (134, (.p 2 2)), (131, (tS x14)), (130, (.p 5 0)), (128, (.p 2 1)), (13, (sS (some ⟨bk27, 0, none⟩) n20 n20)), (12, (.p 5 0)), (66, (iN r)), (65, (iN n_g)), (64, (sS (some q11) n_g c_g)), (10, (.p 2 0)), (9, (.v (.pointer (some (⟨bk, 0, none⟩ : Addr))))), (4, (.p 1 0))], [(9, (.lst zj583 9 arj584)), (4, (.lst z2 46 arr2)), (2, (.cells 41 [(sS A_r7 n_r7 c_r7), (.ls z 3 accN.length cap), (.ls z2 4 accA.length cap2)])), (1, (.cells 41 [(sS none 0 0), (sS none 0 0), (sS none 0 0)]))], 10, [], [(5, bk23, (.cells 34 [(tS x14), (sS A19 n20 c21)])), (0, bk4, (.cells 24 [(sS (some q11) n_g c_g)]))]⟩) [(9, 8)] rfl rfl rfl rfl rfl rfl ?_
              exact hK41 (bj581, bk641, zj583, arj584, cpj585) G640 ⟨hcL31, hj582, hs642, hoj586, hzj587⟩
            case now =>
             refine WD_four 1 4 7 9 (by rfl) (by rfl) (by rfl) (by rfl) (by decide +kernel) ?_ ?_ ?_ ?_
             ·
              skip
              refine WOp_step htb (S' := ⟨[(129, (.ls z 3 accN.length cap)), (136, (sS (some ⟨bk27, 0, none⟩) n20 n20)), (134, (.p 2 2)), (131, (tS x14)), (130, (.p 5 0)), (128, (.p 2 1)), (13, (sS (some ⟨bk27, 0, none⟩) n20 n20)), (12, (.p 5 0)), (66, (iN r)), (65, (iN n_g)), (64, (sS (some q11) n_g c_g)), (10, (.p 2 0)), (9, (.v (.pointer (some (⟨bk, 0, none⟩ : Addr))))), (4, (.p 1 0))], [(4, (.lst z2 46 arr2)), (3, (.lst z 9 arr)), (2, (.cells 41 [(sS A_r7 n_r7 c_r7), (.ls z 3 accN.length cap), (.ls z2 4 accA.length cap2)])), (1, (.cells 41 [(sS none 0 0), (sS none 0 0), (sS none 0 0)]))], 7, [], [(5, bk23, (.cells 34 [(tS x14), (sS A19 n20 c21)])), (0, bk4, (.cells 24 [(sS (some q11) n_g c_g)]))]⟩) (by kernel_rfl) (WD_on (Le.refl _) ?_)
              refine WD_three 4 7 9 (by rfl) (by rfl) (by rfl) (by decide +kernel) ?_ ?_ ?_
              ·
               skip
               refine WOp_step htb (S' := ⟨[(132, (.s 7 1 1)), (129, (.ls z 3 accN.length cap)), (136, (sS (some ⟨bk27, 0, none⟩) n20 n20)), (134, (.p 2 2)), (131, (tS x14)), (130, (.p 5 0)), (128, (.p 2 1)), (13, (sS (some ⟨bk27, 0, none⟩) n20 n20)), (12, (.p 5 0)), (66, (iN r)), (65, (iN n_g)), (64, (sS (some q11) n_g c_g)), (10, (.p 2 0)), (9, (.v (.pointer (some (⟨bk, 0, none⟩ : Addr))))), (4, (.p 1 0))], [(7, (.cells 9 [(tS x14)])), (4, (.lst z2 46 arr2)), (3, (.lst z 9 arr)), (2, (.cells 41 [(sS A_r7 n_r7 c_r7), (.ls z 3 accN.length cap), (.ls z2 4 accA.length cap2)])), (1, (.cells 41 [(sS none 0 0), (sS none 0 0), (sS none 0 0)]))], 8, [], [(5, bk23, (.cells 34 [(tS x14), (sS A19 n20 c21)])), (0, bk4, (.cells 24 [(sS (some q11) n_g c_g)]))]⟩) (by kernel_rfl) (WD_on (Le.refl _) ?_)
               refine WK_freezeV 7 rfl rfl rfl rfl ?_
               intro bk691 G690 hle hbk691
               replace hc6 := Le.trans hc6 hle
               replace hc10 := Le.trans hc10 hle
               replace hcL31 := Le.trans hcL31 hle
               replace h_g := h_g.mono hle
               replace hB := hB.mono hle
               replace h_r7 := h_r7.mono hle
               replace hs18 := hs18.mono hle
               replace hRow := hRow.mono hle
               replace hz := hz.mono hle
               replace hoN := hoN.mono hle
               replace hoA := hoA.mono hle
               refine WD_up hle ?_
               show WK _ _ ⟨[(132, (sS (some ⟨bk691, 0, none⟩) 1 1)), (129, (.ls z 3 accN.length cap)), (136, (sS (some ⟨bk27, 0, none⟩) n20 n20)), (134, (.p 2 2)), (131, (tS x14)), (130, (.p 5 0)), (128, (.p 2 1)), (13, (sS (some ⟨bk27, 0, none⟩) n20 n20)), (12, (.p 5 0)), (66, (iN r)), (65, (iN n_g)), (64, (sS (some q11) n_g c_g)), (10, (.p 2 0)), (9, (.v (.pointer (some (⟨bk, 0, none⟩ : Addr))))), (4, (.p 1 0))], [(4, (.lst z2 46 arr2)), (3, (.lst z 9 arr)), (2, (.cells 41 [(sS A_r7 n_r7 c_r7), (.ls z 3 accN.length cap), (.ls z2 4 accA.length cap2)])), (1, (.cells 41 [(sS none 0 0), (sS none 0 0), (sS none 0 0)]))], 8, [], [(5, bk23, (.cells 34 [(tS x14), (sS A19 n20 c21)])), (0, bk4, (.cells 24 [(sS (some q11) n_g c_g)]))]⟩ _
               have hs692 : Sl tStr G690 (some ⟨bk691, 0, none⟩) 1 1 [x14] := Sl.lit (cs := [.string x14]) (RepsL.cons' (rep_str _ (x := x14) hn15) .nil) hbk691 rfl (by unfold big; omega)
               have lhs692 := hs692.len'
               refine WD_three 5 7 9 (by rfl) (by rfl) (by rfl) (by decide +kernel) ?_ ?_ ?_
               ·
                skip
                refine WOp_append htb z 3 accN.length cap (some ⟨bk691, 0, none⟩) 1 9 1 16 (by kernel_rfl) (by kernel_rfl) rfl rfl tStr (xs := accN) (ys := [x14]) hoN rfl hzN hs692.row hs692.len rfl (by decide) (by simp only [List.length_append, List.length_cons, List.length_nil]; omega) (by unfold big; simp only [List.length_append, List.length_cons, List.length_nil]; omega) (fun z693 arr694 cap695 hz696 ho697 => WD_on (Le.refl _) ?_)
                show WD _ _ _ _ _ _ _ _ _ ⟨[(133, (.ls z693 8 ((accN ++ ([x14])).length) cap695)), (132, (sS (some ⟨bk691, 0, none⟩) 1 1)), (129, (.ls z 3 accN.length cap)), (136, (sS (some ⟨bk27, 0, none⟩) n20 n20)), (134, (.p 2 2)), (131, (tS x14)), (130, (.p 5 0)), (128, (.p 2 1)), (13, (sS (some ⟨bk27, 0, none⟩) n20 n20)), (12, (.p 5 0)), (66, (iN r)), (65, (iN n_g)), (64, (sS (some q11) n_g c_g)), (10, (.p 2 0)), (9, (.v (.pointer (some (⟨bk, 0, none⟩ : Addr))))), (4, (.p 1 0))], [(8, (.lst z693 9 arr694)), (4, (.lst z2 46 arr2)), (2, (.cells 41 [(sS A_r7 n_r7 c_r7), (.ls z 3 accN.length cap), (.ls z2 4 accA.length cap2)])), (1, (.cells 41 [(sS none 0 0), (sS none 0 0), (sS none 0 0)]))], 9, [], [(5, bk23, (.cells 34 [(tS x14), (sS A19 n20 c21)])), (0, bk4, (.cells 24 [(sS (some q11) n_g c_g)]))]⟩
                refine WK_keep [133, 132, 129, 136, 134, 131, 130, 128, 13, 12, 66, 65, 64, 10, 9, 4] [8, 4, 2, 1] rfl rfl ?_
                exact hK588 (bk691, z693, arr694, cap695) G690 ⟨hcL31, hs692, ho697, hz696⟩
               ·
                skip
                refine WOp_step htb (S' := ⟨[(135, (.ls z2 4 accA.length cap2)), (132, (sS (some ⟨bk691, 0, none⟩) 1 1)), (129, (.ls z 3 accN.length cap)), (136, (sS (some ⟨bk27, 0, none⟩) n20 n20)), (134, (.p 2 2)), (131, (tS x14)), (130, (.p 5 0)), (128, (.p 2 1)), (13, (sS (some ⟨bk27, 0, none⟩) n20 n20)), (12, (.p 5 0)), (66, (iN r)), (65, (iN n_g)), (64, (sS (some q11) n_g c_g)), (10, (.p 2 0)), (9, (.v (.pointer (some (⟨bk, 0, none⟩ : Addr))))), (4, (.p 1 0))], [(4, (.lst z2 46 arr2)), (3, (.lst z 9 arr)), (2, (.cells 41 [(sS A_r7 n_r7 c_r7), (.ls z 3 accN.length cap), (.ls z2 4 accA.length cap2)])), (1, (.cells 41 [(sS none 0 0), (sS none 0 0), (sS none 0 0)]))], 8, [], [(5, bk23, (.cells 34 [(tS x14), (sS A19 n20 c21)])), (0, bk4, (.cells 24 [(sS (some q11) n_g c_g)]))]⟩) (by kernel_rfl) (WD_on (Le.refl _) ?_)
                refine WK_keep [135, 132, 129, 136, 134, 131, 130, 128, 13, 12, 66, 65, 64, 10, 9, 4] [4, 3, 2, 1] rfl rfl ?_
                exact hK150 (bk691) G690 ⟨hcL31, hs692⟩
               ·
                skip
                refine WOp_step htb (S' := ⟨[(137, (.s 8 1 1)), (132, (sS (some ⟨bk691, 0, none⟩) 1 1)), (129, (.ls z 3 accN.length cap)), (136, (sS (some ⟨bk27, 0, none⟩) n20 n20)), (134, (.p 2 2)), (131, (tS x14)), (130, (.p 5 0)), (128, (.p 2 1)), (13, (sS (some ⟨bk27, 0, none⟩) n20 n20)), (12, (.p 5 0)), (66, (iN r)), (65, (iN n_g)), (64, (sS (some q11) n_g c_g)), (10, (.p 2 0)), (9, (.v (.pointer (some (⟨bk, 0, none⟩ : Addr))))), (4, (.p 1 0))], [(8, (.cells 46 [(sS (some ⟨bk27, 0, none⟩) n20 n20)])), (4, (.lst z2 46 arr2)), (3, (.lst z 9 arr)), (2, (.cells 41 [(sS A_r7 n_r7 c_r7), (.ls z 3 accN.length cap), (.ls z2 4 accA.length cap2)])), (1, (.cells 41 [(sS none 0 0), (sS none 0 0), (sS none 0 0)]))], 9, [], [(5, bk23, (.cells 34 [(tS x14), (sS A19 n20 c21)])), (0, bk4, (.cells 24 [(sS (some q11) n_g c_g)]))]⟩) (by kernel_rfl) (WD_on (Le.refl _) ?_)
                refine WK_freezeV 8 rfl rfl rfl rfl ?_
                intro bk694 G693 hle hbk694
                replace hc6 := Le.trans hc6 hle
                replace hc10 := Le.trans hc10 hle
                replace hcL31 := Le.trans hcL31 hle
                replace h_g := h_g.mono hle
                replace hB := hB.mono hle
                replace h_r7 := h_r7.mono hle
                replace hs18 := hs18.mono hle
                replace hRow := hRow.mono hle
                replace hs692 := hs692.mono hle
                replace hz := hz.mono hle
                replace hoN := hoN.mono hle
                replace hoA := hoA.mono hle
                refine WD_up hle ?_
                show WK _ _ ⟨[(137, (sS (some ⟨bk694, 0, none⟩) 1 1)), (132, (sS (some ⟨bk691, 0, none⟩) 1 1)), (129, (.ls z 3 accN.length cap)), (136, (sS (some ⟨bk27, 0, none⟩) n20 n20)), (134, (.p 2 2)), (131, (tS x14)), (130, (.p 5 0)), (128, (.p 2 1)), (13, (sS (some ⟨bk27, 0, none⟩) n20 n20)), (12, (.p 5 0)), (66, (iN r)), (65, (iN n_g)), (64, (sS (some q11) n_g c_g)), (10, (.p 2 0)), (9, (.v (.pointer (some (⟨bk, 0, none⟩ : Addr))))), (4, (.p 1 0))], [(4, (.lst z2 46 arr2)), (3, (.lst z 9 arr)), (2, (.cells 41 [(sS A_r7 n_r7 c_r7), (.ls z 3 accN.length cap), (.ls z2 4 accA.length cap2)])), (1, (.cells 41 [(sS none 0 0), (sS none 0 0), (sS none 0 0)]))], 9, [], [(5, bk23, (.cells 34 [(tS x14), (sS A19 n20 c21)])), (0, bk4, (.cells 24 [(sS (some q11) n_g c_g)]))]⟩ _
                have hs695 : Sl (tSlice (tSlice (tInt .i64))) G693 (some ⟨bk694, 0, none⟩) 1 1 [val] := Sl.lit (cs := [.slice (some ⟨bk27, 0, none⟩) n20 n20]) (RepsL.cons' hRow.reps .nil) hbk694 rfl (by unfold big; omega)
                have lhs695 := hs695.len'
                refine WK_keep [137, 132, 129, 136, 134, 131, 130, 128, 13, 12, 66, 65, 64, 10, 9, 4] [4, 3, 2, 1] rfl rfl ?_
                exact hK256 (bk691, bk694) G693 ⟨hcL31, hs692, hs695⟩
              ·
               skip
               refine WOp_step htb (S' := ⟨[(135, (.ls z2 4 accA.length cap2)), (129, (.ls z 3 accN.length cap)), (136, (sS (some ⟨bk27, 0, none⟩) n20 n20)), (134, (.p 2 2)), (131, (tS x14)), (130, (.p 5 0)), (128, (.p 2 1)), (13, (sS (some ⟨bk27, 0, none⟩) n20 n20)), (12, (.p 5 0)), (66, (iN r)), (65, (iN n_g)), (64, (sS (some q11) n_g c_g)), (10, (.p 2 0)), (9, (.v (.pointer (some (⟨bk, 0, none⟩ : Addr))))), (4, (.p 1 0))], [(4, (.lst z2 46 arr2)), (3, (.lst z 9 arr)), (2, (.cells 41 [(sS A_r7 n_r7 c_r7), (.ls z 3 accN.length cap), (.ls z2 4 accA.length cap2)])), (1, (.cells 41 [(sS none 0 0), (sS none 0 0), (sS none 0 0)]))], 7, [], [(5, bk23, (.cells 34 [(tS x14), (sS A19 n20 c21)])), (0, bk4, (.cells 24 [(sS (some q11) n_g c_g)]))]⟩) (by kernel_rfl) (WD_on (Le.refl _) ?_)
               refine WD_two 4 9 (by rfl) (by rfl) (by decide +kernel) ?_ ?_
               ·
                skip
                refine WOp_step htb (S' := ⟨[(132, (.s 7 1 1)), (135, (.ls z2 4 accA.length cap2)), (129, (.ls z 3 accN.length cap)), (136, (sS (some ⟨bk27, 0, none⟩) n20 n20)), (134, (.p 2 2)), (131, (tS x14)), (130, (.p 5 0)), (128, (.p 2 1)), (13, (sS (some ⟨bk27, 0, none⟩) n20 n20)), (12, (.p 5 0)), (66, (iN r)), (65, (iN n_g)), (64, (sS (some q11) n_g c_g)), (10, (.p 2 0)), (9, (.v (.pointer (some (⟨bk, 0, none⟩ : Addr))))), (4, (.p 1 0))], [(7, (.cells 9 [(tS x14)])), (4, (.lst z2 46 arr2)), (3, (.lst z 9 arr)), (2, (.cells 41 [(sS A_r7 n_r7 c_r7), (.ls z 3 accN.length cap), (.ls z2 4 accA.length cap2)])), (1, (.cells 41 [(sS none 0 0), (sS none 0 0), (sS none 0 0)]))], 8, [], [(5, bk23, (.cells 34 [(tS x14), (sS A19 n20 c21)])), (0, bk4, (.cells 24 [(sS (some q11) n_g c_g)]))]⟩) (by kernel_rfl) (WD_on (Le.refl _) ?_)
                refine WK_freezeV 7 rfl rfl rfl rfl ?_
                intro bk691 G690 hle hbk691
                replace hc6 := Le.trans hc6 hle
                replace hc10 := Le.trans hc10 hle
                replace hcL31 := Le.trans hcL31 hle
                replace h_g := h_g.mono hle
                replace hB := hB.mono hle
                replace h_r7 := h_r7.mono hle
                replace hs18 := hs18.mono hle
                replace hRow := hRow.mono hle
                replace hz := hz.mono hle
                replace hoN := hoN.mono hle
                replace hoA := hoA.mono hle
                refine WD_up hle ?_
                show WK _ _ ⟨[(132, (sS (some ⟨bk691, 0, none⟩) 1 1)), (135, (.ls z2 4 accA.length cap2)), (129, (.ls z 3 accN.length cap)), (136, (sS (some ⟨bk27, 0, none⟩) n20 n20)), (134, (.p 2 2)), (131, (tS x14)), (130, (.p 5 0)), (128, (.p 2 1)), (13, (sS (some ⟨bk27, 0, none⟩) n20 n20)), (12, (.p 5 0)), (66, (iN r)), (65, (iN n_g)), (64, (sS (some q11) n_g c_g)), (10, (.p 2 0)), (9, (.v (.pointer (some (⟨bk, 0, none⟩ : Addr))))), (4, (.p 1 0))], [(4, (.lst z2 46 arr2)), (3, (.lst z 9 arr)), (2, (.cells 41 [(sS A_r7 n_r7 c_r7), (.ls z 3 accN.length cap), (.ls z2 4 accA.length cap2)])), (1, (.cells 41 [(sS none 0 0), (sS none 0 0), (sS none 0 0)]))], 8, [], [(5, bk23, (.cells 34 [(tS x14), (sS A19 n20 c21)])), (0, bk4, (.cells 24 [(sS (some q11) n_g c_g)]))]⟩ _
                have hs692 : Sl tStr G690 (some ⟨bk691, 0, none⟩) 1 1 [x14] := Sl.lit (cs := [.string x14]) (RepsL.cons' (rep_str _ (x := x14) hn15) .nil) hbk691 rfl (by unfold big; omega)
                have lhs692 := hs692.len'
                refine WK_keep [135, 132, 129, 136, 134, 131, 130, 128, 13, 12, 66, 65, 64, 10, 9, 4] [4, 3, 2, 1] rfl rfl ?_
                exact hK150 (bk691) G690 ⟨hcL31, hs692⟩
               ·
                skip
                refine WOp_step htb (S' := ⟨[(137, (.s 7 1 1)), (135, (.ls z2 4 accA.length cap2)), (129, (.ls z 3 accN.length cap)), (136, (sS (some ⟨bk27, 0, none⟩) n20 n20)), (134, (.p 2 2)), (131, (tS x14)), (130, (.p 5 0)), (128, (.p 2 1)), (13, (sS (some ⟨bk27, 0, none⟩) n20 n20)), (12, (.p 5 0)), (66, (iN r)), (65, (iN n_g)), (64, (sS (some q11) n_g c_g)), (10, (.p 2 0)), (9, (.v (.pointer (some (⟨bk, 0, none⟩ : Addr))))), (4, (.p 1 0))], [(7, (.cells 46 [(sS (some ⟨bk27, 0, none⟩) n20 n20)])), (4, (.lst z2 46 arr2)), (3, (.lst z 9 arr)), (2, (.cells 41 [(sS A_r7 n_r7 c_r7), (.ls z 3 accN.length cap), (.ls z2 4 accA.length cap2)])), (1, (.cells 41 [(sS none 0 0), (sS none 0 0), (sS none 0 0)]))], 8, [], [(5, bk23, (.cells 34 [(tS x14), (sS A19 n20 c21)])), (0, bk4, (.cells 24 [(sS (some q11) n_g c_g)]))]⟩) (by kernel_rfl) (WD_on (Le.refl _) ?_)
                refine WK_freezeV 7 rfl rfl rfl rfl ?_
                intro bk691 G690 hle hbk691
                replace hc6 := Le.trans hc6 hle
                replace hc10 := Le.trans hc10 hle
                replace hcL31 := Le.trans hcL31 hle
                replace h_g := h_g.mono hle
                replace hB := hB.mono hle
                replace h_r7 := h_r7.mono hle
                replace hs18 := hs18.mono hle
                replace hRow := hRow.mono hle
                replace hz := hz.mono hle
                replace hoN := hoN.mono hle
                replace hoA := hoA.mono hle
                refine WD_up hle ?_
                show WK _ _ ⟨[(137, (sS (some ⟨bk691, 0, none⟩) 1 1)), (135, (.ls z2 4 accA.length cap2)), (129, (.ls z 3 accN.length cap)), (136, (sS (some ⟨bk27, 0, none⟩) n20 n20)), (134, (.p 2 2)), (131, (tS x14)), (130, (.p 5 0)), (128, (.p 2 1)), (13, (sS (some ⟨bk27, 0, none⟩) n20 n20)), (12, (.p 5 0)), (66, (iN r)), (65, (iN n_g)), (64, (sS (some q11) n_g c_g)), (10, (.p 2 0)), (9, (.v (.pointer (some (⟨bk, 0, none⟩ : Addr))))), (4, (.p 1 0))], [(4, (.lst z2 46 arr2)), (3, (.lst z 9 arr)), (2, (.cells 41 [(sS A_r7 n_r7 c_r7), (.ls z 3 accN.length cap), (.ls z2 4 accA.length cap2)])), (1, (.cells 41 [(sS none 0 0), (sS none 0 0), (sS none 0 0)]))], 8, [], [(5, bk23, (.cells 34 [(tS x14), (sS A19 n20 c21)])), (0, bk4, (.cells 24 [(sS (some q11) n_g c_g)]))]⟩ _
                have hs692 : Sl (tSlice (tSlice (tInt .i64))) G690 (some ⟨bk691, 0, none⟩) 1 1 [val] := Sl.lit (cs := [.slice (some ⟨bk27, 0, none⟩) n20 n20]) (RepsL.cons' hRow.reps .nil) hbk691 rfl (by unfold big; omega)
                have lhs692 := hs692.len'
                refine WK_keep [137, 135, 129, 136, 134, 131, 130, 128, 13, 12, 66, 65, 64, 10, 9, 4] [4, 3, 2, 1] rfl rfl ?_
                exact hK360 (bk691) G690 ⟨hcL31, hs692⟩
              ·
               skip
               refine WOp_step htb (S' := ⟨[(137, (.s 7 1 1)), (129, (.ls z 3 accN.length cap)), (136, (sS (some ⟨bk27, 0, none⟩) n20 n20)), (134, (.p 2 2)), (131, (tS x14)), (130, (.p 5 0)), (128, (.p 2 1)), (13, (sS (some ⟨bk27, 0, none⟩) n20 n20)), (12, (.p 5 0)), (66, (iN r)), (65, (iN n_g)), (64, (sS (some q11) n_g c_g)), (10, (.p 2 0)), (9, (.v (.pointer (some (⟨bk, 0, none⟩ : Addr))))), (4, (.p 1 0))], [(7, (.cells 46 [(sS (some ⟨bk27, 0, none⟩) n20 n20)])), (4, (.lst z2 46 arr2)), (3, (.lst z 9 arr)), (2, (.cells 41 [(sS A_r7 n_r7 c_r7), (.ls z 3 accN.length cap), (.ls z2 4 accA.length cap2)])), (1, (.cells 41 [(sS none 0 0), (sS none 0 0), (sS none 0 0)]))], 8, [], [(5, bk23, (.cells 34 [(tS x14), (sS A19 n20 c21)])), (0, bk4, (.cells 24 [(sS (some q11) n_g c_g)]))]⟩) (by kernel_rfl) (WD_on (Le.refl _) ?_)
               refine WK_freezeV 7 rfl rfl rfl rfl ?_
               intro bk691 G690 hle hbk691
               replace hc6 := Le.trans hc6 hle
               replace hc10 := Le.trans hc10 hle
               replace hcL31 := Le.trans hcL31 hle
               replace h_g := h_g.mono hle
               replace hB := hB.mono hle
               replace h_r7 := h_r7.mono hle
               replace hs18 := hs18.mono hle
               replace hRow := hRow.mono hle
               replace hz := hz.mono hle
               replace hoN := hoN.mono hle
               replace hoA := hoA.mono hle
               refine WD_up hle ?_
               show WK _ _ ⟨[(137, (sS (some ⟨bk691, 0, none⟩) 1 1)), (129, (.ls z 3 accN.length cap)), (136, (sS (some ⟨bk27, 0, none⟩) n20 n20)), (134, (.p 2 2)), (131, (tS x14)), (130, (.p 5 0)), (128, (.p 2 1)), (13, (sS (some ⟨bk27, 0, none⟩) n20 n20)), (12, (.p 5 0)), (66, (iN r)), (65, (iN n_g)), (64, (sS (some q11) n_g c_g)), (10, (.p 2 0)), (9, (.v (.pointer (some (⟨bk, 0, none⟩ : Addr))))), (4, (.p 1 0))], [(4, (.lst z2 46 arr2)), (3, (.lst z 9 arr)), (2, (.cells 41 [(sS A_r7 n_r7 c_r7), (.ls z 3 accN.length cap), (.ls z2 4 accA.length cap2)])), (1, (.cells 41 [(sS none 0 0), (sS none 0 0), (sS none 0 0)]))], 8, [], [(5, bk23, (.cells 34 [(tS x14), (sS A19 n20 c21)])), (0, bk4, (.cells 24 [(sS (some q11) n_g c_g)]))]⟩ _
               have hs692 : Sl (tSlice (tSlice (tInt .i64))) G690 (some ⟨bk691, 0, none⟩) 1 1 [val] := Sl.lit (cs := [.slice (some ⟨bk27, 0, none⟩) n20 n20]) (RepsL.cons' hRow.reps .nil) hbk691 rfl (by unfold big; omega)
               have lhs692 := hs692.len'
               refine WD_two 4 7 (by rfl) (by rfl) (by decide +kernel) ?_ ?_
               ·
                skip
                refine WOp_step htb (S' := ⟨[(132, (.s 8 1 1)), (137, (sS (some ⟨bk691, 0, none⟩) 1 1)), (129, (.ls z 3 accN.length cap)), (136, (sS (some ⟨bk27, 0, none⟩) n20 n20)), (134, (.p 2 2)), (131, (tS x14)), (130, (.p 5 0)), (128, (.p 2 1)), (13, (sS (some ⟨bk27, 0, none⟩) n20 n20)), (12, (.p 5 0)), (66, (iN r)), (65, (iN n_g)), (64, (sS (some q11) n_g c_g)), (10, (.p 2 0)), (9, (.v (.pointer (some (⟨bk, 0, none⟩ : Addr))))), (4, (.p 1 0))], [(8, (.cells 9 [(tS x14)])), (4, (.lst z2 46 arr2)), (3, (.lst z 9 arr)), (2, (.cells 41 [(sS A_r7 n_r7 c_r7), (.ls z 3 accN.length cap), (.ls z2 4 accA.length cap2)])), (1, (.cells 41 [(sS none 0 0), (sS none 0 0), (sS none 0 0)]))], 9, [], [(5, bk23, (.cells 34 [(tS x14), (sS A19 n20 c21)])), (0, bk4, (.cells 24 [(sS (some q11) n_g c_g)]))]⟩) (by kernel_rfl) (WD_on (Le.refl _) ?_)
                refine WK_freezeV 8 rfl rfl rfl rfl ?_
                intro bk694 G693 hle hbk694
                replace hc6 := Le.trans hc6 hle
                replace hc10 := Le.trans hc10 hle
                replace hcL31 := Le.trans hcL31 hle
                replace h_g := h_g.mono hle
                replace hB := hB.mono hle
                replace h_r7 := h_r7.mono hle
                replace hs18 := hs18.mono hle
                replace hRow := hRow.mono hle
                replace hs692 := hs692.mono hle
                replace hz := hz.mono hle
                replace hoN := hoN.mono hle
                replace hoA := hoA.mono hle
                refine WD_up hle ?_
                show WK _ _ ⟨[(132, (sS (some ⟨bk694, 0, none⟩) 1 1)), (137, (sS (some ⟨bk691, 0, none⟩) 1 1)), (129, (.ls z 3 accN.length cap)), (136, (sS (some ⟨bk27, 0, none⟩) n20 n20)), (134, (.p 2 2)), (131, (tS x14)), (130, (.p 5 0)), (128, (.p 2 1)), (13, (sS (some ⟨bk27, 0, none⟩) n20 n20)), (12, (.p 5 0)), (66, (iN r)), (65, (iN n_g)), (64, (sS (some q11) n_g c_g)), (10, (.p 2 0)), (9, (.v (.pointer (some (⟨bk, 0, none⟩ : Addr))))), (4, (.p 1 0))], [(4, (.lst z2 46 arr2)), (3, (.lst z 9 arr)), (2, (.cells 41 [(sS A_r7 n_r7 c_r7), (.ls z 3 accN.length cap), (.ls z2 4 accA.length cap2)])), (1, (.cells 41 [(sS none 0 0), (sS none 0 0), (sS none 0 0)]))], 9, [], [(5, bk23, (.cells 34 [(tS x14), (sS A19 n20 c21)])), (0, bk4, (.cells 24 [(sS (some q11) n_g c_g)]))]⟩ _
                have hs695 : Sl tStr G693 (some ⟨bk694, 0, none⟩) 1 1 [x14] := Sl.lit (cs := [.string x14]) (RepsL.cons' (rep_str _ (x := x14) hn15) .nil) hbk694 rfl (by unfold big; omega)
                have lhs695 := hs695.len'
                refine WK_keep [137, 132, 129, 136, 134, 131, 130, 128, 13, 12, 66, 65, 64, 10, 9, 4] [4, 3, 2, 1] rfl rfl ?_
                exact hK256 (bk694, bk691) G693 ⟨hcL31, hs695, hs692⟩
               ·
                skip
                refine WOp_step htb (S' := ⟨[(135, (.ls z2 4 accA.length cap2)), (137, (sS (some ⟨bk691, 0, none⟩) 1 1)), (129, (.ls z 3 accN.length cap)), (136, (sS (some ⟨bk27, 0, none⟩) n20 n20)), (134, (.p 2 2)), (131, (tS x14)), (130, (.p 5 0)), (128, (.p 2 1)), (13, (sS (some ⟨bk27, 0, none⟩) n20 n20)), (12, (.p 5 0)), (66, (iN r)), (65, (iN n_g)), (64, (sS (some q11) n_g c_g)), (10, (.p 2 0)), (9, (.v (.pointer (some (⟨bk, 0, none⟩ : Addr))))), (4, (.p 1 0))], [(4, (.lst z2 46 arr2)), (3, (.lst z 9 arr)), (2, (.cells 41 [(sS A_r7 n_r7 c_r7), (.ls z 3 accN.length cap), (.ls z2 4 accA.length cap2)])), (1, (.cells 41 [(sS none 0 0), (sS none 0 0), (sS none 0 0)]))], 8, [], [(5, bk23, (.cells 34 [(tS x14), (sS A19 n20 c21)])), (0, bk4, (.cells 24 [(sS (some q11) n_g c_g)]))]⟩) (by kernel_rfl) (WD_on (Le.refl _) ?_)
                refine WK_keep [137, 135, 129, 136, 134, 131, 130, 128, 13, 12, 66, 65, 64, 10, 9, 4] [4, 3, 2, 1] rfl rfl ?_
                exact hK360 (bk691) G690 ⟨hcL31, hs692⟩
             ·
              skip
              refine WOp_step htb (S' := ⟨[(132, (.s 7 1 1)), (136, (sS (some ⟨bk27, 0, none⟩) n20 n20)), (134, (.p 2 2)), (131, (tS x14)), (130, (.p 5 0)), (128, (.p 2 1)), (13, (sS (some ⟨bk27, 0, none⟩) n20 n20)), (12, (.p 5 0)), (66, (iN r)), (65, (iN n_g)), (64, (sS (some q11) n_g c_g)), (10, (.p 2 0)), (9, (.v (.pointer (some (⟨bk, 0, none⟩ : Addr))))), (4, (.p 1 0))], [(7, (.cells 9 [(tS x14)])), (4, (.lst z2 46 arr2)), (3, (.lst z 9 arr)), (2, (.cells 41 [(sS A_r7 n_r7 c_r7), (.ls z 3 accN.length cap), (.ls z2 4 accA.length cap2)])), (1, (.cells 41 [(sS none 0 0), (sS none 0 0), (sS none 0 0)]))], 8, [], [(5, bk23, (.cells 34 [(tS x14), (sS A19 n20 c21)])), (0, bk4, (.cells 24 [(sS (some q11) n_g c_g)]))]⟩) (by kernel_rfl) (WD_on (Le.refl _) ?_)
              refine WK_freezeV 7 rfl rfl rfl rfl ?_
              intro bk691 G690 hle hbk691
              replace hc6 := Le.trans hc6 hle
              replace hc10 := Le.trans hc10 hle
              replace hcL31 := Le.trans hcL31 hle
              replace h_g := h_g.mono hle
              replace hB := hB.mono hle
              replace h_r7 := h_r7.mono hle
              replace hs18 := hs18.mono hle
              replace hRow := hRow.mono hle
              replace hz := hz.mono hle
              replace hoN := hoN.mono hle
              replace hoA := hoA.mono hle
              refine WD_up hle ?_
              show WK _ _ ⟨[(132, (sS (some ⟨bk691, 0, none⟩) 1 1)), (136, (sS (some ⟨bk27, 0, none⟩) n20 n20)), (134, (.p 2 2)), (131, (tS x14)), (130, (.p 5 0)), (128, (.p 2 1)), (13, (sS (some ⟨bk27, 0, none⟩) n20 n20)), (12, (.p 5 0)), (66, (iN r)), (65, (iN n_g)), (64, (sS (some q11) n_g c_g)), (10, (.p 2 0)), (9, (.v (.pointer (some (⟨bk, 0, none⟩ : Addr))))), (4, (.p 1 0))], [(4, (.lst z2 46 arr2)), (3, (.lst z 9 arr)), (2, (.cells 41 [(sS A_r7 n_r7 c_r7), (.ls z 3 accN.length cap), (.ls z2 4 accA.length cap2)])), (1, (.cells 41 [(sS none 0 0), (sS none 0 0), (sS none 0 0)]))], 8, [], [(5, bk23, (.cells 34 [(tS x14), (sS A19 n20 c21)])), (0, bk4, (.cells 24 [(sS (some q11) n_g c_g)]))]⟩ _
              have hs692 : Sl tStr G690 (some ⟨bk691, 0, none⟩) 1 1 [x14] := Sl.lit (cs := [.string x14]) (RepsL.cons' (rep_str _ (x := x14) hn15) .nil) hbk691 rfl (by unfold big; omega)
              have lhs692 := hs692.len'
              refine WD_three 1 7 9 (by rfl) (by rfl) (by rfl) (by decide +kernel) ?_ ?_ ?_
              ·
               skip
               refine WOp_step htb (S' := ⟨[(129, (.ls z 3 accN.length cap)), (132, (sS (some ⟨bk691, 0, none⟩) 1 1)), (136, (sS (some ⟨bk27, 0, none⟩) n20 n20)), (134, (.p 2 2)), (131, (tS x14)), (130, (.p 5 0)), (128, (.p 2 1)), (13, (sS (some ⟨bk27, 0, none⟩) n20 n20)), (12, (.p 5 0)), (66, (iN r)), (65, (iN n_g)), (64, (sS (some q11) n_g c_g)), (10, (.p 2 0)), (9, (.v (.pointer (some (⟨bk, 0, none⟩ : Addr))))), (4, (.p 1 0))], [(4, (.lst z2 46 arr2)), (3, (.lst z 9 arr)), (2, (.cells 41 [(sS A_r7 n_r7 c_r7), (.ls z 3 accN.length cap), (.ls z2 4 accA.length cap2)])), (1, (.cells 41 [(sS none 0 0), (sS none 0 0), (sS none 0 0)]))], 8, [], [(5, bk23, (.cells 34 [(tS x14), (sS A19 n20 c21)])), (0, bk4, (.cells 24 [(sS (some q11) n_g c_g)]))]⟩) (by kernel_rfl) (WD_on (Le.refl _) ?_)
               refine WD_three 5 7 9 (by rfl) (by rfl) (by rfl) (by decide +kernel) ?_ ?_ ?_
               ·
                skip
                refine WOp_append htb z 3 accN.length cap (some ⟨bk691, 0, none⟩) 1 9 1 16 (by kernel_rfl) (by kernel_rfl) rfl rfl tStr (xs := accN) (ys := [x14]) hoN rfl hzN hs692.row hs692.len rfl (by decide) (by simp only [List.length_append, List.length_cons, List.length_nil]; omega) (by unfold big; simp only [List.length_append, List.length_cons, List.length_nil]; omega) (fun z693 arr694 cap695 hz696 ho697 => WD_on (Le.refl _) ?_)
                show WD _ _ _ _ _ _ _ _ _ ⟨[(133, (.ls z693 8 ((accN ++ ([x14])).length) cap695)), (129, (.ls z 3 accN.length cap)), (132, (sS (some ⟨bk691, 0, none⟩) 1 1)), (136, (sS (some ⟨bk27, 0, none⟩) n20 n20)), (134, (.p 2 2)), (131, (tS x14)), (130, (.p 5 0)), (128, (.p 2 1)), (13, (sS (some ⟨bk27, 0, none⟩) n20 n20)), (12, (.p 5 0)), (66, (iN r)), (65, (iN n_g)), (64, (sS (some q11) n_g c_g)), (10, (.p 2 0)), (9, (.v (.pointer (some (⟨bk, 0, none⟩ : Addr))))), (4, (.p 1 0))], [(8, (.lst z693 9 arr694)), (4, (.lst z2 46 arr2)), (2, (.cells 41 [(sS A_r7 n_r7 c_r7), (.ls z 3 accN.length cap), (.ls z2 4 accA.length cap2)])), (1, (.cells 41 [(sS none 0 0), (sS none 0 0), (sS none 0 0)]))], 9, [], [(5, bk23, (.cells 34 [(tS x14), (sS A19 n20 c21)])), (0, bk4, (.cells 24 [(sS (some q11) n_g c_g)]))]⟩
                refine WK_keep [133, 132, 129, 136, 134, 131, 130, 128, 13, 12, 66, 65, 64, 10, 9, 4] [8, 4, 2, 1] rfl rfl ?_
                exact hK588 (bk691, z693, arr694, cap695) G690 ⟨hcL31, hs692, ho697, hz696⟩
               ·
                skip
                refine WOp_step htb (S' := ⟨[(135, (.ls z2 4 accA.length cap2)), (129, (.ls z 3 accN.length cap)), (132, (sS (some ⟨bk691, 0, none⟩) 1 1)), (136, (sS (some ⟨bk27, 0, none⟩) n20 n20)), (134, (.p 2 2)), (131, (tS x14)), (130, (.p 5 0)), (128, (.p 2 1)), (13, (sS (some ⟨bk27, 0, none⟩) n20 n20)), (12, (.p 5 0)), (66, (iN r)), (65, (iN n_g)), (64, (sS (some q11) n_g c_g)), (10, (.p 2 0)), (9, (.v (.pointer (some (⟨bk, 0, none⟩ : Addr))))), (4, (.p 1 0))], [(4, (.lst z2 46 arr2)), (3, (.lst z 9 arr)), (2, (.cells 41 [(sS A_r7 n_r7 c_r7), (.ls z 3 accN.length cap), (.ls z2 4 accA.length cap2)])), (1, (.cells 41 [(sS none 0 0), (sS none 0 0), (sS none 0 0)]))], 8, [], [(5, bk23, (.cells 34 [(tS x14), (sS A19 n20 c21)])), (0, bk4, (.cells 24 [(sS (some q11) n_g c_g)]))]⟩) (by kernel_rfl) (WD_on (Le.refl _) ?_)
                refine WK_keep [135, 132, 129, 136, 134, 131, 130, 128, 13, 12, 66, 65, 64, 10, 9, 4] [4, 3, 2, 1] rfl rfl ?_
                exact hK150 (bk691) G690 ⟨hcL31, hs692⟩
               ·
                skip
                refine WOp_step htb (S' := ⟨[(137, (.s 8 1 1)), (129, (.ls z 3 accN.length cap)), (132, (sS (some ⟨bk691, 0, none⟩) 1 1)), (136, (sS (some ⟨bk27, 0, none⟩) n20 n20)), (134, (.p 2 2)), (131, (tS x14)), (130, (.p 5 0)), (128, (.p 2 1)), (13, (sS (some ⟨bk27, 0, none⟩) n20 n20)), (12, (.p 5 0)), (66, (iN r)), (65, (iN n_g)), (64, (sS (some q11) n_g c_g)), (10, (.p 2 0)), (9, (.v (.pointer (some (⟨bk, 0, none⟩ : Addr))))), (4, (.p 1 0))], [(8, (.cells 46 [(sS (some ⟨bk27, 0, none⟩) n20 n20)])), (4, (.lst z2 46 arr2)), (3, (.lst z 9 arr)), (2, (.cells 41 [(sS A_r7 n_r7 c_r7), (.ls z 3 accN.length cap), (.ls z2 4 accA.length cap2)])), (1, (.cells 41 [(sS none 0 0), (sS none 0 0), (sS none 0 0)]))], 9, [], [(5, bk23, (.cells 34 [(tS x14), (sS A19 n20 c21)])), (0, bk4, (.cells 24 [(sS (some q11) n_g c_g)]))]⟩) (by kernel_rfl) (WD_on (Le.refl _) ?_)
                refine WK_freezeV 8 rfl rfl rfl rfl ?_
                intro bk694 G693 hle hbk694
                replace hc6 := Le.trans hc6 hle
                replace hc10 := Le.trans hc10 hle
                replace hcL31 := Le.trans hcL31 hle
                replace h_g := h_g.mono hle
                replace hB := hB.mono hle
                replace h_r7 := h_r7.mono hle
                replace hs18 := hs18.mono hle
                replace hRow := hRow.mono hle
                replace hs692 := hs692.mono hle
                replace hz := hz.mono hle
                replace hoN := hoN.mono hle
                replace hoA := hoA.mono hle
                refine WD_up hle ?_
                show WK _ _ ⟨[(137, (sS (some ⟨bk694, 0, none⟩) 1 1)), (129, (.ls z 3 accN.length cap)), (132, (sS (some ⟨bk691, 0, none⟩) 1 1)), (136, (sS (some ⟨bk27, 0, none⟩) n20 n20)), (134, (.p 2 2)), (131, (tS x14)), (130, (.p 5 0)), (128, (.p 2 1)), (13, (sS (some ⟨bk27, 0, none⟩) n20 n20)), (12, (.p 5 0)), (66, (iN r)), (65, (iN n_g)), (64, (sS (some q11) n_g c_g)), (10, (.p 2 0)), (9, (.v (.pointer (some (⟨bk, 0, none⟩ : Addr))))), (4, (.p 1 0))], [(4, (.lst z2 46 arr2)), (3, (.lst z 9 arr)), (2, (.cells 41 [(sS A_r7 n_r7 c_r7), (.ls z 3 accN.length cap), (.ls z2 4 accA.length cap2)])), (1, (.cells 41 [(sS none 0 0), (sS none 0 0), (sS none 0 0)]))], 9, [], [(5, bk23, (.cells 34 [(tS x14), (sS A19 n20 c21)])), (0, bk4, (.cells 24 [(sS (some q11) n_g c_g)]))]⟩ _
                have hs695 : Sl (tSlice (tSlice (tInt .i64))) G693 (some ⟨bk694, 0, none⟩) 1 1 [val] := Sl.lit (cs := [.slice (some ⟨bk27, 0, none⟩) n20 n20]) (RepsL.cons' hRow.reps .nil) hbk694 rfl (by unfold big; omega)
                have lhs695 := hs695.len'
                refine WK_keep [137, 132, 129, 136, 134, 131, 130, 128, 13, 12, 66, 65, 64, 10, 9, 4] [4, 3, 2, 1] rfl rfl ?_
                exact hK256 (bk691, bk694) G693 ⟨hcL31, hs692, hs695⟩
              ·
               skip
               refine WOp_step htb (S' := ⟨[(135, (.ls z2 4 accA.length cap2)), (132, (sS (some ⟨bk691, 0, none⟩) 1 1)), (136, (sS (some ⟨bk27, 0, none⟩) n20 n20)), (134, (.p 2 2)), (131, (tS x14)), (130, (.p 5 0)), (128, (.p 2 1)), (13, (sS (some ⟨bk27, 0, none⟩) n20 n20)), (12, (.p 5 0)), (66, (iN r)), (65, (iN n_g)), (64, (sS (some q11) n_g c_g)), (10, (.p 2 0)), (9, (.v (.pointer (some (⟨bk, 0, none⟩ : Addr))))), (4, (.p 1 0))], [(4, (.lst z2 46 arr2)), (3, (.lst z 9 arr)), (2, (.cells 41 [(sS A_r7 n_r7 c_r7), (.ls z 3 accN.length cap), (.ls z2 4 accA.length cap2)])), (1, (.cells 41 [(sS none 0 0), (sS none 0 0), (sS none 0 0)]))], 8, [], [(5, bk23, (.cells 34 [(tS x14), (sS A19 n20 c21)])), (0, bk4, (.cells 24 [(sS (some q11) n_g c_g)]))]⟩) (by kernel_rfl) (WD_on (Le.refl _) ?_)
               refine WD_two 1 9 (by rfl) (by rfl) (by decide +kernel) ?_ ?_
               ·
                skip
                refine WOp_step htb (S' := ⟨[(129, (.ls z 3 accN.length cap)), (135, (.ls z2 4 accA.length cap2)), (132, (sS (some ⟨bk691, 0, none⟩) 1 1)), (136, (sS (some ⟨bk27, 0, none⟩) n20 n20)), (134, (.p 2 2)), (131, (tS x14)), (130, (.p 5 0)), (128, (.p 2 1)), (13, (sS (some ⟨bk27, 0, none⟩) n20 n20)), (12, (.p 5 0)), (66, (iN r)), (65, (iN n_g)), (64, (sS (some q11) n_g c_g)), (10, (.p 2 0)), (9, (.v (.pointer (some (⟨bk, 0, none⟩ : Addr))))), (4, (.p 1 0))], [(4, (.lst z2 46 arr2)), (3, (.lst z 9 arr)), (2, (.cells 41 [(sS A_r7 n_r7 c_r7), (.ls z 3 accN.length cap), (.ls z2 4 accA.length cap2)])), (1, (.cells 41 [(sS none 0 0), (sS none 0 0), (sS none 0 0)]))], 8, [], [(5, bk23, (.cells 34 [(tS x14), (sS A19 n20 c21)])), (0, bk4, (.cells 24 [(sS (some q11) n_g c_g)]))]⟩) (by kernel_rfl) (WD_on (Le.refl _) ?_)
                refine WK_keep [135, 132, 129, 136, 134, 131, 130, 128, 13, 12, 66, 65, 64, 10, 9, 4] [4, 3, 2, 1] rfl rfl ?_
                exact hK150 (bk691) G690 ⟨hcL31, hs692⟩
               ·
                skip
                refine WOp_step htb (S' := ⟨[(137, (.s 8 1 1)), (135, (.ls z2 4 accA.length cap2)), (132, (sS (some ⟨bk691, 0, none⟩) 1 1)), (136, (sS (some ⟨bk27, 0, none⟩) n20 n20)), (134, (.p 2 2)), (131, (tS x14)), (130, (.p 5 0)), (128, (.p 2 1)), (13, (sS (some ⟨bk27, 0, none⟩) n20 n20)), (12, (.p 5 0)), (66, (iN r)), (65, (iN n_g)), (64, (sS (some q11) n_g c_g)), (10, (.p 2 0)), (9, (.v (.pointer (some (⟨bk, 0, none⟩ : Addr))))), (4, (.p 1 0))], [(8, (.cells 46 [(sS (some ⟨bk27, 0, none⟩) n20 n20)])), (4, (.lst z2 46 arr2)), (3, (.lst z 9 arr)), (2, (.cells 41 [(sS A_r7 n_r7 c_r7), (.ls z 3 accN.length cap), (.ls z2 4 accA.length cap2)])), (1, (.cells 41 [(sS none 0 0), (sS none 0 0), (sS none 0 0)]))], 9, [], [(5, bk23, (.cells 34 [(tS x14), (sS A19 n20 c21)])), (0, bk4, (.cells 24 [(sS (some q11) n_g c_g)]))]⟩) (by kernel_rfl) (WD_on (Le.refl _) ?_)
                refine WK_freezeV 8 rfl rfl rfl rfl ?_
                intro bk694 G693 hle hbk694
                replace hc6 := Le.trans hc6 hle
                replace hc10 := Le.trans hc10 hle
                replace hcL31 := Le.trans hcL31 hle
                replace h_g := h_g.mono hle
                replace hB := hB.mono hle
                replace h_r7 := h_r7.mono hle
                replace hs18 := hs18.mono hle
                replace hRow := hRow.mono hle
                replace hs692 := hs692.mono hle
                replace hz := hz.mono hle
                replace hoN := hoN.mono hle
                replace hoA := hoA.mono hle
                refine WD_up hle ?_
                show WK _ _ ⟨[(137, (sS (some ⟨bk694, 0, none⟩) 1 1)), (135, (.ls z2 4 accA.length cap2)), (132, (sS (some ⟨bk691, 0, none⟩) 1 1)), (136, (sS (some ⟨bk27, 0, none⟩) n20 n20)), (134, (.p 2 2)), (131, (tS x14)), (130, (.p 5 0)), (128, (.p 2 1)), (13, (sS (some ⟨bk27, 0, none⟩) n20 n20)), (12, (.p 5 0)), (66, (iN r)), (65, (iN n_g)), (64, (sS (some q11) n_g c_g)), (10, (.p 2 0)), (9, (.v (.pointer (some (⟨bk, 0, none⟩ : Addr))))), (4, (.p 1 0))], [(4, (.lst z2 46 arr2)), (3, (.lst z 9 arr)), (2, (.cells 41 [(sS A_r7 n_r7 c_r7), (.ls z 3 accN.length cap), (.ls z2 4 accA.length cap2)])), (1, (.cells 41 [(sS none 0 0), (sS none 0 0), (sS none 0 0)]))], 9, [], [(5, bk23, (.cells 34 [(tS x14), (sS A19 n20 c21)])), (0, bk4, (.cells 24 [(sS (some q11) n_g c_g)]))]⟩ _
                have hs695 : Sl (tSlice (tSlice (tInt .i64))) G693 (some ⟨bk694, 0, none⟩) 1 1 [val] := Sl.lit (cs := [.slice (some ⟨bk27, 0, none⟩) n20 n20]) (RepsL.cons' hRow.reps .nil) hbk694 rfl (by unfold big; omega)
                have lhs695 := hs695.len'
                refine WK_keep [137, 135, 132, 136, 134, 131, 130, 128, 13, 12, 66, 65, 64, 10, 9, 4] [4, 3, 2, 1] rfl rfl ?_
                exact hK474 (bk691, bk694) G693 ⟨hcL31, hs692, hs695⟩
              ·
               skip
               refine WOp_step htb (S' := ⟨[(137, (.s 8 1 1)), (132, (sS (some ⟨bk691, 0, none⟩) 1 1)), (136, (sS (some ⟨bk27, 0, none⟩) n20 n20)), (134, (.p 2 2)), (131, (tS x14)), (130, (.p 5 0)), (128, (.p 2 1)), (13, (sS (some ⟨bk27, 0, none⟩) n20 n20)), (12, (.p 5 0)), (66, (iN r)), (65, (iN n_g)), (64, (sS (some q11) n_g c_g)), (10, (.p 2 0)), (9, (.v (.pointer (some (⟨bk, 0, none⟩ : Addr))))), (4, (.p 1 0))], [(8, (.cells 46 [(sS (some ⟨bk27, 0, none⟩) n20 n20)])), (4, (.lst z2 46 arr2)), (3, (.lst z 9 arr)), (2, (.cells 41 [(sS A_r7 n_r7 c_r7), (.ls z 3 accN.length cap), (.ls z2 4 accA.length cap2)])), (1, (.cells 41 [(sS none 0 0), (sS none 0 0), (sS none 0 0)]))], 9, [], [(5, bk23, (.cells 34 [(tS x14), (sS A19 n20 c21)])), (0, bk4, (.cells 24 [(sS (some q11) n_g c_g)]))]⟩) (by kernel_rfl) (WD_on (Le.refl _) ?_)
               refine WK_freezeV 8 rfl rfl rfl rfl ?_
               intro bk694 G693 hle hbk694
               replace hc6 := Le.trans hc6 hle
               replace hc10 := Le.trans hc10 hle
               replace hcL31 := Le.trans hcL31 hle
               replace h_g := h_g.mono hle
               replace hB := hB.mono hle
               replace h_r7 := h_r7.mono hle
               replace hs18 := hs18.mono hle
               replace hRow := hRow.mono hle
               replace hs692 := hs692.mono hle
               replace hz := hz.mono hle
               replace hoN := hoN.mono hle
               replace hoA := hoA.mono hle
               refine WD_up hle ?_
               show WK _ _ ⟨[(137, (sS (some ⟨bk694, 0, none⟩) 1 1)), (132, (sS (some ⟨bk691, 0, none⟩) 1 1)), (136, (sS (some ⟨bk27, 0, none⟩) n20 n20)), (134, (.p 2 2)), (131, (tS x14)), (130, (.p 5 0)), (128, (.p 2 1)), (13, (sS (some ⟨bk27, 0, none⟩) n20 n20)), (12, (.p 5 0)), (66, (iN r)), (65, (iN n_g)), (64, (sS (some q11) n_g c_g)), (10, (.p 2 0)), (9, (.v (.pointer (some (⟨bk, 0, none⟩ : Addr))))), (4, (.p 1 0))], [(4, (.lst z2 46 arr2)), (3, (.lst z 9 arr)), (2, (.cells 41 [(sS A_r7 n_r7 c_r7), (.ls z 3 accN.length cap), (.ls z2 4 accA.length cap2)])), (1, (.cells 41 [(sS none 0 0), (sS none 0 0), (sS none 0 0)]))], 9, [], [(5, bk23, (.cells 34 [(tS x14), (sS A19 n20 c21)])), (0, bk4, (.cells 24 [(sS (some q11) n_g c_g)]))]⟩ _
               have hs695 : Sl (tSlice (tSlice (tInt .i64))) G693 (some ⟨bk694, 0, none⟩) 1 1 [val] := Sl.lit (cs := [.slice (some ⟨bk27, 0, none⟩) n20 n20]) (RepsL.cons' hRow.reps .nil) hbk694 rfl (by unfold big; omega)
               have lhs695 := hs695.len'
               refine WD_two 1 7 (by rfl) (by rfl) (by decide +kernel) ?_ ?_
               ·
                skip
                refine WOp_step htb (S' := ⟨[(129, (.ls z 3 accN.length cap)), (137, (sS (some ⟨bk694, 0, none⟩) 1 1)), (132, (sS (some ⟨bk691, 0, none⟩) 1 1)), (136, (sS (some ⟨bk27, 0, none⟩) n20 n20)), (134, (.p 2 2)), (131, (tS x14)), (130, (.p 5 0)), (128, (.p 2 1)), (13, (sS (some ⟨bk27, 0, none⟩) n20 n20)), (12, (.p 5 0)), (66, (iN r)), (65, (iN n_g)), (64, (sS (some q11) n_g c_g)), (10, (.p 2 0)), (9, (.v (.pointer (some (⟨bk, 0, none⟩ : Addr))))), (4, (.p 1 0))], [(4, (.lst z2 46 arr2)), (3, (.lst z 9 arr)), (2, (.cells 41 [(sS A_r7 n_r7 c_r7), (.ls z 3 accN.length cap), (.ls z2 4 accA.length cap2)])), (1, (.cells 41 [(sS none 0 0), (sS none 0 0), (sS none 0 0)]))], 9, [], [(5, bk23, (.cells 34 [(tS x14), (sS A19 n20 c21)])), (0, bk4, (.cells 24 [(sS (some q11) n_g c_g)]))]⟩) (by kernel_rfl) (WD_on (Le.refl _) ?_)
                refine WK_keep [137, 132, 129, 136, 134, 131, 130, 128, 13, 12, 66, 65, 64, 10, 9, 4] [4, 3, 2, 1] rfl rfl ?_
                exact hK256 (bk691, bk694) G693 ⟨hcL31, hs692, hs695⟩
               ·
                skip
                refine WOp_step htb (S' := ⟨[(135, (.ls z2 4 accA.length cap2)), (137, (sS (some ⟨bk694, 0, none⟩) 1 1)), (132, (sS (some ⟨bk691, 0, none⟩) 1 1)), (136, (sS (some ⟨bk27, 0, none⟩) n20 n20)), (134, (.p 2 2)), (131, (tS x14)), (130, (.p 5 0)), (128, (.p 2 1)), (13, (sS (some ⟨bk27, 0, none⟩) n20 n20)), (12, (.p 5 0)), (66, (iN r)), (65, (iN n_g)), (64, (sS (some q11) n_g c_g)), (10, (.p 2 0)), (9, (.v (.pointer (some (⟨bk, 0, none⟩ : Addr))))), (4, (.p 1 0))], [(4, (.lst z2 46 arr2)), (3, (.lst z 9 arr)), (2, (.cells 41 [(sS A_r7 n_r7 c_r7), (.ls z 3 accN.length cap), (.ls z2 4 accA.length cap2)])), (1, (.cells 41 [(sS none 0 0), (sS none 0 0), (sS none 0 0)]))], 9, [], [(5, bk23, (.cells 34 [(tS x14), (sS A19 n20 c21)])), (0, bk4, (.cells 24 [(sS (some q11) n_g c_g)]))]⟩) (by kernel_rfl) (WD_on (Le.refl _) ?_)
                refine WK_keep [137, 135, 132, 136, 134, 131, 130, 128, 13, 12, 66, 65, 64, 10, 9, 4] [4, 3, 2, 1] rfl rfl ?_
                exact hK474 (bk691, bk694) G693 ⟨hcL31, hs692, hs695⟩
             ·
              skip
              refine WOp_step htb (S' := ⟨[(135, (.ls z2 4 accA.length cap2)), (136, (sS (some ⟨bk27, 0, none⟩) n20 n20)), (134, (.p 2 2)), (131, (tS x14)), (130, (.p 5 0)), (128, (.p 2 1)), (13, (sS (some ⟨bk27, 0, none⟩) n20 n20)), (12, (.p 5 0)), (66, (iN r)), (65, (iN n_g)), (64, (sS (some q11) n_g c_g)), (10, (.p 2 0)), (9, (.v (.pointer (some (⟨bk, 0, none⟩ : Addr))))), (4, (.p 1 0))], [(4, (.lst z2 46 arr2)), (3, (.lst z 9 arr)), (2, (.cells 41 [(sS A_r7 n_r7 c_r7), (.ls z 3 accN.length cap), (.ls z2 4 accA.length cap2)])), (1, (.cells 41 [(sS none 0 0), (sS none 0 0), (sS none 0 0)]))], 7, [], [(5, bk23, (.cells 34 [(tS x14), (sS A19 n20 c21)])), (0, bk4, (.cells 24 [(sS (some q11) n_g c_g)]))]⟩) (by kernel_rfl) (WD_on (Le.refl _) ?_)
              refine WD_three 1 4 9 (by rfl) (by rfl) (by rfl) (by decide +kernel) ?_ ?_ ?_
              ·
               skip
               refine WOp_step htb (S' := ⟨[(129, (.ls z 3 accN.length cap)), (135, (.ls z2 4 accA.length cap2)), (136, (sS (some ⟨bk27, 0, none⟩) n20 n20)), (134, (.p 2 2)), (131, (tS x14)), (130, (.p 5 0)), (128, (.p 2 1)), (13, (sS (some ⟨bk27, 0, none⟩) n20 n20)), (12, (.p 5 0)), (66, (iN r)), (65, (iN n_g)), (64, (sS (some q11) n_g c_g)), (10, (.p 2 0)), (9, (.v (.pointer (some (⟨bk, 0, none⟩ : Addr))))), (4, (.p 1 0))], [(4, (.lst z2 46 arr2)), (3, (.lst z 9 arr)), (2, (.cells 41 [(sS A_r7 n_r7 c_r7), (.ls z 3 accN.length cap), (.ls z2 4 accA.length cap2)])), (1, (.cells 41 [(sS none 0 0), (sS none 0 0), (sS none 0 0)]))], 7, [], [(5, bk23, (.cells 34 [(tS x14), (sS A19 n20 c21)])), (0, bk4, (.cells 24 [(sS (some q11) n_g c_g)]))]⟩) (by kernel_rfl) (WD_on (Le.refl _) ?_)
               refine WD_two 4 9 (by rfl) (by rfl) (by decide +kernel) ?_ ?_
               ·
                skip
                refine WOp_step htb (S' := ⟨[(132, (.s 7 1 1)), (129, (.ls z 3 accN.length cap)), (135, (.ls z2 4 accA.length cap2)), (136, (sS (some ⟨bk27, 0, none⟩) n20 n20)), (134, (.p 2 2)), (131, (tS x14)), (130, (.p 5 0)), (128, (.p 2 1)), (13, (sS (some ⟨bk27, 0, none⟩) n20 n20)), (12, (.p 5 0)), (66, (iN r)), (65, (iN n_g)), (64, (sS (some q11) n_g c_g)), (10, (.p 2 0)), (9, (.v (.pointer (some (⟨bk, 0, none⟩ : Addr))))), (4, (.p 1 0))], [(7, (.cells 9 [(tS x14)])), (4, (.lst z2 46 arr2)), (3, (.lst z 9 arr)), (2, (.cells 41 [(sS A_r7 n_r7 c_r7), (.ls z 3 accN.length cap), (.ls z2 4 accA.length cap2)])), (1, (.cells 41 [(sS none 0 0), (sS none 0 0), (sS none 0 0)]))], 8, [], [(5, bk23, (.cells 34 [(tS x14), (sS A19 n20 c21)])), (0, bk4, (.cells 24 [(sS (some q11) n_g c_g)]))]⟩) (by kernel_rfl) (WD_on (Le.refl _) ?_)
                refine WK_freezeV 7 rfl rfl rfl rfl ?_
                intro bk691 G690 hle hbk691
                replace hc6 := Le.trans hc6 hle
                replace hc10 := Le.trans hc10 hle
                replace hcL31 := Le.trans hcL31 hle
                replace h_g := h_g.mono hle
                replace hB := hB.mono hle
                replace h_r7 := h_r7.mono hle
                replace hs18 := hs18.mono hle
                replace hRow := hRow.mono hle
                replace hz := hz.mono hle
                replace hoN := hoN.mono hle
                replace hoA := hoA.mono hle
                refine WD_up hle ?_
                show WK _ _ ⟨[(132, (sS (some ⟨bk691, 0, none⟩) 1 1)), (129, (.ls z 3 accN.length cap)), (135, (.ls z2 4 accA.length cap2)), (136, (sS (some ⟨bk27, 0, none⟩) n20 n20)), (134, (.p 2 2)), (131, (tS x14)), (130, (.p 5 0)), (128, (.p 2 1)), (13, (sS (some ⟨bk27, 0, none⟩) n20 n20)), (12, (.p 5 0)), (66, (iN r)), (65, (iN n_g)), (64, (sS (some q11) n_g c_g)), (10, (.p 2 0)), (9, (.v (.pointer (some (⟨bk, 0, none⟩ : Addr))))), (4, (.p 1 0))], [(4, (.lst z2 46 arr2)), (3, (.lst z 9 arr)), (2, (.cells 41 [(sS A_r7 n_r7 c_r7), (.ls z 3 accN.length cap), (.ls z2 4 accA.length cap2)])), (1, (.cells 41 [(sS none 0 0), (sS none 0 0), (sS none 0 0)]))], 8, [], [(5, bk23, (.cells 34 [(tS x14), (sS A19 n20 c21)])), (0, bk4, (.cells 24 [(sS (some q11) n_g c_g)]))]⟩ _
                have hs692 : Sl tStr G690 (some ⟨bk691, 0, none⟩) 1 1 [x14] := Sl.lit (cs := [.string x14]) (RepsL.cons' (rep_str _ (x := x14) hn15) .nil) hbk691 rfl (by unfold big; omega)
                have lhs692 := hs692.len'
                refine WK_keep [135, 132, 129, 136, 134, 131, 130, 128, 13, 12, 66, 65, 64, 10, 9, 4] [4, 3, 2, 1] rfl rfl ?_
                exact hK150 (bk691) G690 ⟨hcL31, hs692⟩
               ·
                skip
                refine WOp_step htb (S' := ⟨[(137, (.s 7 1 1)), (129, (.ls z 3 accN.length cap)), (135, (.ls z2 4 accA.length cap2)), (136, (sS (some ⟨bk27, 0, none⟩) n20 n20)), (134, (.p 2 2)), (131, (tS x14)), (130, (.p 5 0)), (128, (.p 2 1)), (13, (sS (some ⟨bk27, 0, none⟩) n20 n20)), (12, (.p 5 0)), (66, (iN r)), (65, (iN n_g)), (64, (sS (some q11) n_g c_g)), (10, (.p 2 0)), (9, (.v (.pointer (some (⟨bk, 0, none⟩ : Addr))))), (4, (.p 1 0))], [(7, (.cells 46 [(sS (some ⟨bk27, 0, none⟩) n20 n20)])), (4, (.lst z2 46 arr2)), (3, (.lst z 9 arr)), (2, (.cells 41 [(sS A_r7 n_r7 c_r7), (.ls z 3 accN.length cap), (.ls z2 4 accA.length cap2)])), (1, (.cells 41 [(sS none 0 0), (sS none 0 0), (sS none 0 0)]))], 8, [], [(5, bk23, (.cells 34 [(tS x14), (sS A19 n20 c21)])), (0, bk4, (.cells 24 [(sS (some q11) n_g c_g)]))]⟩) (by kernel_rfl) (WD_on (Le.refl _) ?_)
                refine WK_freezeV 7 rfl rfl rfl rfl ?_
                intro bk691 G690 hle hbk691
                replace hc6 := Le.trans hc6 hle
                replace hc10 := Le.trans hc10 hle
                replace hcL31 := Le.trans hcL31 hle
                replace h_g := h_g.mono hle
                replace hB := hB.mono hle
                replace h_r7 := h_r7.mono hle
                replace hs18 := hs18.mono hle
                replace hRow := hRow.mono hle
                replace hz := hz.mono hle
                replace hoN := hoN.mono hle
                replace hoA := hoA.mono hle
                refine WD_up hle ?_
                show WK _ _ ⟨[(137, (sS (some ⟨bk691, 0, none⟩) 1 1)), (129, (.ls z 3 accN.length cap)), (135, (.ls z2 4 accA.length cap2)), (136, (sS (some ⟨bk27, 0, none⟩) n20 n20)), (134, (.p 2 2)), (131, (tS x14)), (130, (.p 5 0)), (128, (.p 2 1)), (13, (sS (some ⟨bk27, 0, none⟩) n20 n20)), (12, (.p 5 0)), (66, (iN r)), (65, (iN n_g)), (64, (sS (some q11) n_g c_g)), (10, (.p 2 0)), (9, (.v (.pointer (some (⟨bk, 0, none⟩ : Addr))))), (4, (.p 1 0))], [(4, (.lst z2 46 arr2)), (3, (.lst z 9 arr)), (2, (.cells 41 [(sS A_r7 n_r7 c_r7), (.ls z 3 accN.length cap), (.ls z2 4 accA.length cap2)])), (1, (.cells 41 [(sS none 0 0), (sS none 0 0), (sS none 0 0)]))], 8, [], [(5, bk23, (.cells 34 [(tS x14), (sS A19 n20 c21)])), (0, bk4, (.cells 24 [(sS (some q11) n_g c_g)]))]⟩ _
                have hs692 : Sl (tSlice (tSlice (tInt .i64))) G690 (some ⟨bk691, 0, none⟩) 1 1 [val] := Sl.lit (cs := [.slice (some ⟨bk27, 0, none⟩) n20 n20]) (RepsL.cons' hRow.reps .nil) hbk691 rfl (by unfold big; omega)
                have lhs692 := hs692.len'
                refine WK_keep [137, 135, 129, 136, 134, 131, 130, 128, 13, 12, 66, 65, 64, 10, 9, 4] [4, 3, 2, 1] rfl rfl ?_
                exact hK360 (bk691) G690 ⟨hcL31, hs692⟩
              ·
               skip
               refine WOp_step htb (S' := ⟨[(132, (.s 7 1 1)), (135, (.ls z2 4 accA.length cap2)), (136, (sS (some ⟨bk27, 0, none⟩) n20 n20)), (134, (.p 2 2)), (131, (tS x14)), (130, (.p 5 0)), (128, (.p 2 1)), (13, (sS (some ⟨bk27, 0, none⟩) n20 n20)), (12, (.p 5 0)), (66, (iN r)), (65, (iN n_g)), (64, (sS (some q11) n_g c_g)), (10, (.p 2 0)), (9, (.v (.pointer (some (⟨bk, 0, none⟩ : Addr))))), (4, (.p 1 0))], [(7, (.cells 9 [(tS x14)])), (4, (.lst z2 46 arr2)), (3, (.lst z 9 arr)), (2, (.cells 41 [(sS A_r7 n_r7 c_r7), (.ls z 3 accN.length cap), (.ls z2 4 accA.length cap2)])), (1, (.cells 41 [(sS none 0 0), (sS none 0 0), (sS none 0 0)]))], 8, [], [(5, bk23, (.cells 34 [(tS x14), (sS A19 n20 c21)])), (0, bk4, (.cells 24 [(sS (some q11) n_g c_g)]))]⟩) (by kernel_rfl) (WD_on (Le.refl _) ?_)
               refine WK_freezeV 7 rfl rfl rfl rfl ?_
               intro bk691 G690 hle hbk691
               replace hc6 := Le.trans hc6 hle
               replace hc10 := Le.trans hc10 hle
               replace hcL31 := Le.trans hcL31 hle
               replace h_g := h_g.mono hle
               replace hB := hB.mono hle
               replace h_r7 := h_r7.mono hle
               replace hs18 := hs18.mono hle
               replace hRow := hRow.mono hle
               replace hz := hz.mono hle
               replace hoN := hoN.mono hle
               replace hoA := hoA.mono hle
               refine WD_up hle ?_
               show WK _ _ ⟨[(132, (sS (some ⟨bk691, 0, none⟩) 1 1)), (135, (.ls z2 4 accA.length cap2)), (136, (sS (some ⟨bk27, 0, none⟩) n20 n20)), (134, (.p 2 2)), (131, (tS x14)), (130, (.p 5 0)), (128, (.p 2 1)), (13, (sS (some ⟨bk27, 0, none⟩) n20 n20)), (12, (.p 5 0)), (66, (iN r)), (65, (iN n_g)), (64, (sS (some q11) n_g c_g)), (10, (.p 2 0)), (9, (.v (.pointer (some (⟨bk, 0, none⟩ : Addr))))), (4, (.p 1 0))], [(4, (.lst z2 46 arr2)), (3, (.lst z 9 arr)), (2, (.cells 41 [(sS A_r7 n_r7 c_r7), (.ls z 3 accN.length cap), (.ls z2 4 accA.length cap2)])), (1, (.cells 41 [(sS none 0 0), (sS none 0 0), (sS none 0 0)]))], 8, [], [(5, bk23, (.cells 34 [(tS x14), (sS A19 n20 c21)])), (0, bk4, (.cells 24 [(sS (some q11) n_g c_g)]))]⟩ _
               have hs692 : Sl tStr G690 (some ⟨bk691, 0, none⟩) 1 1 [x14] := Sl.lit (cs := [.string x14]) (RepsL.cons' (rep_str _ (x := x14) hn15) .nil) hbk691 rfl (by unfold big; omega)
               have lhs692 := hs692.len'
               refine WD_two 1 9 (by rfl) (by rfl) (by decide +kernel) ?_ ?_
               ·
                skip
                refine WOp_step htb (S' := ⟨[(129, (.ls z 3 accN.length cap)), (132, (sS (some ⟨bk691, 0, none⟩) 1 1)), (135, (.ls z2 4 accA.length cap2)), (136, (sS (some ⟨bk27, 0, none⟩) n20 n20)), (134, (.p 2 2)), (131, (tS x14)), (130, (.p 5 0)), (128, (.p 2 1)), (13, (sS (some ⟨bk27, 0, none⟩) n20 n20)), (12, (.p 5 0)), (66, (iN r)), (65, (iN n_g)), (64, (sS (some q11) n_g c_g)), (10, (.p 2 0)), (9, (.v (.pointer (some (⟨bk, 0, none⟩ : Addr))))), (4, (.p 1 0))], [(4, (.lst z2 46 arr2)), (3, (.lst z 9 arr)), (2, (.cells 41 [(sS A_r7 n_r7 c_r7), (.ls z 3 accN.length cap), (.ls z2 4 accA.length cap2)])), (1, (.cells 41 [(sS none 0 0), (sS none 0 0), (sS none 0 0)]))], 8, [], [(5, bk23, (.cells 34 [(tS x14), (sS A19 n20 c21)])), (0, bk4, (.cells 24 [(sS (some q11) n_g c_g)]))]⟩) (by kernel_rfl) (WD_on (Le.refl _) ?_)
                refine WK_keep [135, 132, 129, 136, 134, 131, 130, 128, 13, 12, 66, 65, 64, 10, 9, 4] [4, 3, 2, 1] rfl rfl ?_
                exact hK150 (bk691) G690 ⟨hcL31, hs692⟩
               ·
                skip
                refine WOp_step htb (S' := ⟨[(137, (.s 8 1 1)), (132, (sS (some ⟨bk691, 0, none⟩) 1 1)), (135, (.ls z2 4 accA.length cap2)), (136, (sS (some ⟨bk27, 0, none⟩) n20 n20)), (134, (.p 2 2)), (131, (tS x14)), (130, (.p 5 0)), (128, (.p 2 1)), (13, (sS (some ⟨bk27, 0, none⟩) n20 n20)), (12, (.p 5 0)), (66, (iN r)), (65, (iN n_g)), (64, (sS (some q11) n_g c_g)), (10, (.p 2 0)), (9, (.v (.pointer (some (⟨bk, 0, none⟩ : Addr))))), (4, (.p 1 0))], [(8, (.cells 46 [(sS (some ⟨bk27, 0, none⟩) n20 n20)])), (4, (.lst z2 46 arr2)), (3, (.lst z 9 arr)), (2, (.cells 41 [(sS A_r7 n_r7 c_r7), (.ls z 3 accN.length cap), (.ls z2 4 accA.length cap2)])), (1, (.cells 41 [(sS none 0 0), (sS none 0 0), (sS none 0 0)]))], 9, [], [(5, bk23, (.cells 34 [(tS x14), (sS A19 n20 c21)])), (0, bk4, (.cells 24 [(sS (some q11) n_g c_g)]))]⟩) (by kernel_rfl) (WD_on (Le.refl _) ?_)
                refine WK_freezeV 8 rfl rfl rfl rfl ?_
                intro bk694 G693 hle hbk694
                replace hc6 := Le.trans hc6 hle
                replace hc10 := Le.trans hc10 hle
                replace hcL31 := Le.trans hcL31 hle
                replace h_g := h_g.mono hle
                replace hB := hB.mono hle
                replace h_r7 := h_r7.mono hle
                replace hs18 := hs18.mono hle
                replace hRow := hRow.mono hle
                replace hs692 := hs692.mono hle
                replace hz := hz.mono hle
                replace hoN := hoN.mono hle
                replace hoA := hoA.mono hle
                refine WD_up hle ?_
                show WK _ _ ⟨[(137, (sS (some ⟨bk694, 0, none⟩) 1 1)), (132, (sS (some ⟨bk691, 0, none⟩) 1 1)), (135, (.ls z2 4 accA.length cap2)), (136, (sS (some ⟨bk27, 0, none⟩) n20 n20)), (134, (.p 2 2)), (131, (tS x14)), (130, (.p 5 0)), (128, (.p 2 1)), (13, (sS (some ⟨bk27, 0, none⟩) n20 n20)), (12, (.p 5 0)), (66, (iN r)), (65, (iN n_g)), (64, (sS (some q11) n_g c_g)), (10, (.p 2 0)), (9, (.v (.pointer (some (⟨bk, 0, none⟩ : Addr))))), (4, (.p 1 0))], [(4, (.lst z2 46 arr2)), (3, (.lst z 9 arr)), (2, (.cells 41 [(sS A_r7 n_r7 c_r7), (.ls z 3 accN.length cap), (.ls z2 4 accA.length cap2)])), (1, (.cells 41 [(sS none 0 0), (sS none 0 0), (sS none 0 0)]))], 9, [], [(5, bk23, (.cells 34 [(tS x14), (sS A19 n20 c21)])), (0, bk4, (.cells 24 [(sS (some q11) n_g c_g)]))]⟩ _
                have hs695 : Sl (tSlice (tSlice (tInt .i64))) G693 (some ⟨bk694, 0, none⟩) 1 1 [val] := Sl.lit (cs := [.slice (some ⟨bk27, 0, none⟩) n20 n20]) (RepsL.cons' hRow.reps .nil) hbk694 rfl (by unfold big; omega)
                have lhs695 := hs695.len'
                refine WK_keep [137, 135, 132, 136, 134, 131, 130, 128, 13, 12, 66, 65, 64, 10, 9, 4] [4, 3, 2, 1] rfl rfl ?_
                exact hK474 (bk691, bk694) G693 ⟨hcL31, hs692, hs695⟩
              ·
               skip
               refine WOp_step htb (S' := ⟨[(137, (.s 7 1 1)), (135, (.ls z2 4 accA.length cap2)), (136, (sS (some ⟨bk27, 0, none⟩) n20 n20)), (134, (.p 2 2)), (131, (tS x14)), (130, (.p 5 0)), (128, (.p 2 1)), (13, (sS (some ⟨bk27, 0, none⟩) n20 n20)), (12, (.p 5 0)), (66, (iN r)), (65, (iN n_g)), (64, (sS (some q11) n_g c_g)), (10, (.p 2 0)), (9, (.v (.pointer (some (⟨bk, 0, none⟩ : Addr))))), (4, (.p 1 0))], [(7, (.cells 46 [(sS (some ⟨bk27, 0, none⟩) n20 n20)])), (4, (.lst z2 46 arr2)), (3, (.lst z 9 arr)), (2, (.cells 41 [(sS A_r7 n_r7 c_r7), (.ls z 3 accN.length cap), (.ls z2 4 accA.length cap2)])), (1, (.cells 41 [(sS none 0 0), (sS none 0 0), (sS none 0 0)]))], 8, [], [(5, bk23, (.cells 34 [(tS x14), (sS A19 n20 c21)])), (0, bk4, (.cells 24 [(sS (some q11) n_g c_g)]))]⟩) (by kernel_rfl) (WD_on (Le.refl _) ?_)
               refine WK_freezeV 7 rfl rfl rfl rfl ?_
               intro bk691 G690 hle hbk691
               replace hc6 := Le.trans hc6 hle
               replace hc10 := Le.trans hc10 hle
               replace hcL31 := Le.trans hcL31 hle
               replace h_g := h_g.mono hle
               replace hB := hB.mono hle
               replace h_r7 := h_r7.mono hle
               replace hs18 := hs18.mono hle
               replace hRow := hRow.mono hle
               replace hz := hz.mono hle
               replace hoN := hoN.mono hle
               replace hoA := hoA.mono hle
               refine WD_up hle ?_
               show WK _ _ ⟨[(137, (sS (some ⟨bk691, 0, none⟩) 1 1)), (135, (.ls z2 4 accA.length cap2)), (136, (sS (some ⟨bk27, 0, none⟩) n20 n20)), (134, (.p 2 2)), (131, (tS x14)), (130, (.p 5 0)), (128, (.p 2 1)), (13, (sS (some ⟨bk27, 0, none⟩) n20 n20)), (12, (.p 5 0)), (66, (iN r)), (65, (iN n_g)), (64, (sS (some q11) n_g c_g)), (10, (.p 2 0)), (9, (.v (.pointer (some (⟨bk, 0, none⟩ : Addr))))), (4, (.p 1 0))], [(4, (.lst z2 46 arr2)), (3, (.lst z 9 arr)), (2, (.cells 41 [(sS A_r7 n_r7 c_r7), (.ls z 3 accN.length cap), (.ls z2 4 accA.length cap2)])), (1, (.cells 41 [(sS none 0 0), (sS none 0 0), (sS none 0 0)]))], 8, [], [(5, bk23, (.cells 34 [(tS x14), (sS A19 n20 c21)])), (0, bk4, (.cells 24 [(sS (some q11) n_g c_g)]))]⟩ _
               have hs692 : Sl (tSlice (tSlice (tInt .i64))) G690 (some ⟨bk691, 0, none⟩) 1 1 [val] := Sl.lit (cs := [.slice (some ⟨bk27, 0, none⟩) n20 n20]) (RepsL.cons' hRow.reps .nil) hbk691 rfl (by unfold big; omega)
               have lhs692 := hs692.len'
               refine WD_two 1 4 (by rfl) (by rfl) (by decide +kernel) ?_ ?_
               ·
                skip
                refine WOp_step htb (S' := ⟨[(129, (.ls z 3 accN.length cap)), (137, (sS (some ⟨bk691, 0, none⟩) 1 1)), (135, (.ls z2 4 accA.length cap2)), (136, (sS (some ⟨bk27, 0, none⟩) n20 n20)), (134, (.p 2 2)), (131, (tS x14)), (130, (.p 5 0)), (128, (.p 2 1)), (13, (sS (some ⟨bk27, 0, none⟩) n20 n20)), (12, (.p 5 0)), (66, (iN r)), (65, (iN n_g)), (64, (sS (some q11) n_g c_g)), (10, (.p 2 0)), (9, (.v (.pointer (some (⟨bk, 0, none⟩ : Addr))))), (4, (.p 1 0))], [(4, (.lst z2 46 arr2)), (3, (.lst z 9 arr)), (2, (.cells 41 [(sS A_r7 n_r7 c_r7), (.ls z 3 accN.length cap), (.ls z2 4 accA.length cap2)])), (1, (.cells 41 [(sS none 0 0), (sS none 0 0), (sS none 0 0)]))], 8, [], [(5, bk23, (.cells 34 [(tS x14), (sS A19 n20 c21)])), (0, bk4, (.cells 24 [(sS (some q11) n_g c_g)]))]⟩) (by kernel_rfl) (WD_on (Le.refl _) ?_)
                refine WK_keep [137, 135, 129, 136, 134, 131, 130, 128, 13, 12, 66, 65, 64, 10, 9, 4] [4, 3, 2, 1] rfl rfl ?_
                exact hK360 (bk691) G690 ⟨hcL31, hs692⟩
               ·
                skip
                refine WOp_step htb (S' := ⟨[(132, (.s 8 1 1)), (137, (sS (some ⟨bk691, 0, none⟩) 1 1)), (135, (.ls z2 4 accA.length cap2)), (136, (sS (some ⟨bk27, 0, none⟩) n20 n20)), (134, (.p 2 2)), (131, (tS x14)), (130, (.p 5 0)), (128, (.p 2 1)), (13, (sS (some ⟨bk27, 0, none⟩) n20 n20)), (12, (.p 5 0)), (66, (iN r)), (65, (iN n_g)), (64, (sS (some q11) n_g c_g)), (10, (.p 2 0)), (9, (.v (.pointer (some (⟨bk, 0, none⟩ : Addr))))), (4, (.p 1 0))], [(8, (.cells 9 [(tS x14)])), (4, (.lst z2 46 arr2)), (3, (.lst z 9 arr)), (2, (.cells 41 [(sS A_r7 n_r7 c_r7), (.ls z 3 accN.length cap), (.ls z2 4 accA.length cap2)])), (1, (.cells 41 [(sS none 0 0), (sS none 0 0), (sS none 0 0)]))], 9, [], [(5, bk23, (.cells 34 [(tS x14), (sS A19 n20 c21)])), (0, bk4, (.cells 24 [(sS (some q11) n_g c_g)]))]⟩) (by kernel_rfl) (WD_on (Le.refl _) ?_)
                refine WK_freezeV 8 rfl rfl rfl rfl ?_
                intro bk694 G693 hle hbk694
                replace hc6 := Le.trans hc6 hle
                replace hc10 := Le.trans hc10 hle
                replace hcL31 := Le.trans hcL31 hle
                replace h_g := h_g.mono hle
                replace hB := hB.mono hle
                replace h_r7 := h_r7.mono hle
                replace hs18 := hs18.mono hle
                replace hRow := hRow.mono hle
                replace hs692 := hs692.mono hle
                replace hz := hz.mono hle
                replace hoN := hoN.mono hle
                replace hoA := hoA.mono hle
                refine WD_up hle ?_
                show WK _ _ ⟨[(132, (sS (some ⟨bk694, 0, none⟩) 1 1)), (137, (sS (some ⟨bk691, 0, none⟩) 1 1)), (135, (.ls z2 4 accA.length cap2)), (136, (sS (some ⟨bk27, 0, none⟩) n20 n20)), (134, (.p 2 2)), (131, (tS x14)), (130, (.p 5 0)), (128, (.p 2 1)), (13, (sS (some ⟨bk27, 0, none⟩) n20 n20)), (12, (.p 5 0)), (66, (iN r)), (65, (iN n_g)), (64, (sS (some q11) n_g c_g)), (10, (.p 2 0)), (9, (.v (.pointer (some (⟨bk, 0, none⟩ : Addr))))), (4, (.p 1 0))], [(4, (.lst z2 46 arr2)), (3, (.lst z 9 arr)), (2, (.cells 41 [(sS A_r7 n_r7 c_r7), (.ls z 3 accN.length cap), (.ls z2 4 accA.length cap2)])), (1, (.cells 41 [(sS none 0 0), (sS none 0 0), (sS none 0 0)]))], 9, [], [(5, bk23, (.cells 34 [(tS x14), (sS A19 n20 c21)])), (0, bk4, (.cells 24 [(sS (some q11) n_g c_g)]))]⟩ _
                have hs695 : Sl tStr G693 (some ⟨bk694, 0, none⟩) 1 1 [x14] := Sl.lit (cs := [.string x14]) (RepsL.cons' (rep_str _ (x := x14) hn15) .nil) hbk694 rfl (by unfold big; omega)
                have lhs695 := hs695.len'
                refine WK_keep [137, 135, 132, 136, 134, 131, 130, 128, 13, 12, 66, 65, 64, 10, 9, 4] [4, 3, 2, 1] rfl rfl ?_
                exact hK474 (bk694, bk691) G693 ⟨hcL31, hs695, hs692⟩
             ·
              skip
              refine WOp_step htb (S' := ⟨[(137, (.s 7 1 1)), (136, (sS (some ⟨bk27, 0, none⟩) n20 n20)), (134, (.p 2 2)), (131, (tS x14)), (130, (.p 5 0)), (128, (.p 2 1)), (13, (sS (some ⟨bk27, 0, none⟩) n20 n20)), (12, (.p 5 0)), (66, (iN r)), (65, (iN n_g)), (64, (sS (some q11) n_g c_g)), (10, (.p 2 0)), (9, (.v (.pointer (some (⟨bk, 0, none⟩ : Addr))))), (4, (.p 1 0))], [(7, (.cells 46 [(sS (some ⟨bk27, 0, none⟩) n20 n20)])), (4, (.lst z2 46 arr2)), (3, (.lst z 9 arr)), (2, (.cells 41 [(sS A_r7 n_r7 c_r7), (.ls z 3 accN.length cap), (.ls z2 4 accA.length cap2)])), (1, (.cells 41 [(sS none 0 0), (sS none 0 0), (sS none 0 0)]))], 8, [], [(5, bk23, (.cells 34 [(tS x14), (sS A19 n20 c21)])), (0, bk4, (.cells 24 [(sS (some q11) n_g c_g)]))]⟩) (by kernel_rfl) (WD_on (Le.refl _) ?_)
              refine WK_freezeV 7 rfl rfl rfl rfl ?_
              intro bk691 G690 hle hbk691
              replace hc6 := Le.trans hc6 hle
              replace hc10 := Le.trans hc10 hle
              replace hcL31 := Le.trans hcL31 hle
              replace h_g := h_g.mono hle
              replace hB := hB.mono hle
              replace h_r7 := h_r7.mono hle
              replace hs18 := hs18.mono hle
              replace hRow := hRow.mono hle
              replace hz := hz.mono hle
              replace hoN := hoN.mono hle
              replace hoA := hoA.mono hle
              refine WD_up hle ?_
              show WK _ _ ⟨[(137, (sS (some ⟨bk691, 0, none⟩) 1 1)), (136, (sS (some ⟨bk27, 0, none⟩) n20 n20)), (134, (.p 2 2)), (131, (tS x14)), (130, (.p 5 0)), (128, (.p 2 1)), (13, (sS (some ⟨bk27, 0, none⟩) n20 n20)), (12, (.p 5 0)), (66, (iN r)), (65, (iN n_g)), (64, (sS (some q11) n_g c_g)), (10, (.p 2 0)), (9, (.v (.pointer (some (⟨bk, 0, none⟩ : Addr))))), (4, (.p 1 0))], [(4, (.lst z2 46 arr2)), (3, (.lst z 9 arr)), (2, (.cells 41 [(sS A_r7 n_r7 c_r7), (.ls z 3 accN.length cap), (.ls z2 4 accA.length cap2)])), (1, (.cells 41 [(sS none 0 0), (sS none 0 0), (sS none 0 0)]))], 8, [], [(5, bk23, (.cells 34 [(tS x14), (sS A19 n20 c21)])), (0, bk4, (.cells 24 [(sS (some q11) n_g c_g)]))]⟩ _
              have hs692 : Sl (tSlice (tSlice (tInt .i64))) G690 (some ⟨bk691, 0, none⟩) 1 1 [val] := Sl.lit (cs := [.slice (some ⟨bk27, 0, none⟩) n20 n20]) (RepsL.cons' hRow.reps .nil) hbk691 rfl (by unfold big; omega)
              have lhs692 := hs692.len'
              refine WD_three 1 4 7 (by rfl) (by rfl) (by rfl) (by decide +kernel) ?_ ?_ ?_
              ·
               skip
               refine WOp_step htb (S' := ⟨[(129, (.ls z 3 accN.length cap)), (137, (sS (some ⟨bk691, 0, none⟩) 1 1)), (136, (sS (some ⟨bk27, 0, none⟩) n20 n20)), (134, (.p 2 2)), (131, (tS x14)), (130, (.p 5 0)), (128, (.p 2 1)), (13, (sS (some ⟨bk27, 0, none⟩) n20 n20)), (12, (.p 5 0)), (66, (iN r)), (65, (iN n_g)), (64, (sS (some q11) n_g c_g)), (10, (.p 2 0)), (9, (.v (.pointer (some (⟨bk, 0, none⟩ : Addr))))), (4, (.p 1 0))], [(4, (.lst z2 46 arr2)), (3, (.lst z 9 arr)), (2, (.cells 41 [(sS A_r7 n_r7 c_r7), (.ls z 3 accN.length cap), (.ls z2 4 accA.length cap2)])), (1, (.cells 41 [(sS none 0 0), (sS none 0 0), (sS none 0 0)]))], 8, [], [(5, bk23, (.cells 34 [(tS x14), (sS A19 n20 c21)])), (0, bk4, (.cells 24 [(sS (some q11) n_g c_g)]))]⟩) (by kernel_rfl) (WD_on (Le.refl _) ?_)
               refine WD_two 4 7 (by rfl) (by rfl) (by decide +kernel) ?_ ?_
               ·
                skip
                refine WOp_step htb (S' := ⟨[(132, (.s 8 1 1)), (129, (.ls z 3 accN.length cap)), (137, (sS (some ⟨bk691, 0, none⟩) 1 1)), (136, (sS (some ⟨bk27, 0, none⟩) n20 n20)), (134, (.p 2 2)), (131, (tS x14)), (130, (.p 5 0)), (128, (.p 2 1)), (13, (sS (some ⟨bk27, 0, none⟩) n20 n20)), (12, (.p 5 0)), (66, (iN r)), (65, (iN n_g)), (64, (sS (some q11) n_g c_g)), (10, (.p 2 0)), (9, (.v (.pointer (some (⟨bk, 0, none⟩ : Addr))))), (4, (.p 1 0))], [(8, (.cells 9 [(tS x14)])), (4, (.lst z2 46 arr2)), (3, (.lst z 9 arr)), (2, (.cells 41 [(sS A_r7 n_r7 c_r7), (.ls z 3 accN.length cap), (.ls z2 4 accA.length cap2)])), (1, (.cells 41 [(sS none 0 0), (sS none 0 0), (sS none 0 0)]))], 9, [], [(5, bk23, (.cells 34 [(tS x14), (sS A19 n20 c21)])), (0, bk4, (.cells 24 [(sS (some q11) n_g c_g)]))]⟩) (by kernel_rfl) (WD_on (Le.refl _) ?_)
                refine WK_freezeV 8 rfl rfl rfl rfl ?_
                intro bk694 G693 hle hbk694
                replace hc6 := Le.trans hc6 hle
                replace hc10 := Le.trans hc10 hle
                replace hcL31 := Le.trans hcL31 hle
                replace h_g := h_g.mono hle
                replace hB := hB.mono hle
                replace h_r7 := h_r7.mono hle
                replace hs18 := hs18.mono hle
                replace hRow := hRow.mono hle
                replace hs692 := hs692.mono hle
                replace hz := hz.mono hle
                replace hoN := hoN.mono hle
                replace hoA := hoA.mono hle
                refine WD_up hle ?_
                show WK _ _ ⟨[(132, (sS (some ⟨bk694, 0, none⟩) 1 1)), (129, (.ls z 3 accN.length cap)), (137, (sS (some ⟨bk691, 0, none⟩) 1 1)), (136, (sS (some ⟨bk27, 0, none⟩) n20 n20)), (134, (.p 2 2)), (131, (tS x14)), (130, (.p 5 0)), (128, (.p 2 1)), (13, (sS (some ⟨bk27, 0, none⟩) n20 n20)), (12, (.p 5 0)), (66, (iN r)), (65, (iN n_g)), (64, (sS (some q11) n_g c_g)), (10, (.p 2 0)), (9, (.v (.pointer (some (⟨bk, 0, none⟩ : Addr))))), (4, (.p 1 0))], [(4, (.lst z2 46 arr2)), (3, (.lst z 9 arr)), (2, (.cells 41 [(sS A_r7 n_r7 c_r7), (.ls z 3 accN.length cap), (.ls z2 4 accA.length cap2)])), (1, (.cells 41 [(sS none 0 0), (sS none 0 0), (sS none 0 0)]))], 9, [], [(5, bk23, (.cells 34 [(tS x14), (sS A19 n20 c21)])), (0, bk4, (.cells 24 [(sS (some q11) n_g c_g)]))]⟩ _
                have hs695 : Sl tStr G693 (some ⟨bk694, 0, none⟩) 1 1 [x14] := Sl.lit (cs := [.string x14]) (RepsL.cons' (rep_str _ (x := x14) hn15) .nil) hbk694 rfl (by unfold big; omega)
                have lhs695 := hs695.len'
                refine WK_keep [137, 132, 129, 136, 134, 131, 130, 128, 13, 12, 66, 65, 64, 10, 9, 4] [4, 3, 2, 1] rfl rfl ?_
                exact hK256 (bk694, bk691) G693 ⟨hcL31, hs695, hs692⟩
               ·
                skip
                refine WOp_step htb (S' := ⟨[(135, (.ls z2 4 accA.length cap2)), (129, (.ls z 3 accN.length cap)), (137, (sS (some ⟨bk691, 0, none⟩) 1 1)), (136, (sS (some ⟨bk27, 0, none⟩) n20 n20)), (134, (.p 2 2)), (131, (tS x14)), (130, (.p 5 0)), (128, (.p 2 1)), (13, (sS (some ⟨bk27, 0, none⟩) n20 n20)), (12, (.p 5 0)), (66, (iN r)), (65, (iN n_g)), (64, (sS (some q11) n_g c_g)), (10, (.p 2 0)), (9, (.v (.pointer (some (⟨bk, 0, none⟩ : Addr))))), (4, (.p 1 0))], [(4, (.lst z2 46 arr2)), (3, (.lst z 9 arr)), (2, (.cells 41 [(sS A_r7 n_r7 c_r7), (.ls z 3 accN.length cap), (.ls z2 4 accA.length cap2)])), (1, (.cells 41 [(sS none 0 0), (sS none 0 0), (sS none 0 0)]))], 8, [], [(5, bk23, (.cells 34 [(tS x14), (sS A19 n20 c21)])), (0, bk4, (.cells 24 [(sS (some q11) n_g c_g)]))]⟩) (by kernel_rfl) (WD_on (Le.refl _) ?_)
                refine WK_keep [137, 135, 129, 136, 134, 131, 130, 128, 13, 12, 66, 65, 64, 10, 9, 4] [4, 3, 2, 1] rfl rfl ?_
                exact hK360 (bk691) G690 ⟨hcL31, hs692⟩
              ·
               skip
               refine WOp_step htb (S' := ⟨[(132, (.s 8 1 1)), (137, (sS (some ⟨bk691, 0, none⟩) 1 1)), (136, (sS (some ⟨bk27, 0, none⟩) n20 n20)), (134, (.p 2 2)), (131, (tS x14)), (130, (.p 5 0)), (128, (.p 2 1)), (13, (sS (some ⟨bk27, 0, none⟩) n20 n20)), (12, (.p 5 0)), (66, (iN r)), (65, (iN n_g)), (64, (sS (some q11) n_g c_g)), (10, (.p 2 0)), (9, (.v (.pointer (some (⟨bk, 0, none⟩ : Addr))))), (4, (.p 1 0))], [(8, (.cells 9 [(tS x14)])), (4, (.lst z2 46 arr2)), (3, (.lst z 9 arr)), (2, (.cells 41 [(sS A_r7 n_r7 c_r7), (.ls z 3 accN.length cap), (.ls z2 4 accA.length cap2)])), (1, (.cells 41 [(sS none 0 0), (sS none 0 0), (sS none 0 0)]))], 9, [], [(5, bk23, (.cells 34 [(tS x14), (sS A19 n20 c21)])), (0, bk4, (.cells 24 [(sS (some q11) n_g c_g)]))]⟩) (by kernel_rfl) (WD_on (Le.refl _) ?_)
               refine WK_freezeV 8 rfl rfl rfl rfl ?_
               intro bk694 G693 hle hbk694
               replace hc6 := Le.trans hc6 hle
               replace hc10 := Le.trans hc10 hle
               replace hcL31 := Le.trans hcL31 hle
               replace h_g := h_g.mono hle
               replace hB := hB.mono hle
               replace h_r7 := h_r7.mono hle
               replace hs18 := hs18.mono hle
               replace hRow := hRow.mono hle
               replace hs692 := hs692.mono hle
               replace hz := hz.mono hle
               replace hoN := hoN.mono hle
               replace hoA := hoA.mono hle
               refine WD_up hle ?_
               show WK _ _ ⟨[(132, (sS (some ⟨bk694, 0, none⟩) 1 1)), (137, (sS (some ⟨bk691, 0, none⟩) 1 1)), (136, (sS (some ⟨bk27, 0, none⟩) n20 n20)), (134, (.p 2 2)), (131, (tS x14)), (130, (.p 5 0)), (128, (.p 2 1)), (13, (sS (some ⟨bk27, 0, none⟩) n20 n20)), (12, (.p 5 0)), (66, (iN r)), (65, (iN n_g)), (64, (sS (some q11) n_g c_g)), (10, (.p 2 0)), (9, (.v (.pointer (some (⟨bk, 0, none⟩ : Addr))))), (4, (.p 1 0))], [(4, (.lst z2 46 arr2)), (3, (.lst z 9 arr)), (2, (.cells 41 [(sS A_r7 n_r7 c_r7), (.ls z 3 accN.length cap), (.ls z2 4 accA.length cap2)])), (1, (.cells 41 [(sS none 0 0), (sS none 0 0), (sS none 0 0)]))], 9, [], [(5, bk23, (.cells 34 [(tS x14), (sS A19 n20 c21)])), (0, bk4, (.cells 24 [(sS (some q11) n_g c_g)]))]⟩ _
               have hs695 : Sl tStr G693 (some ⟨bk694, 0, none⟩) 1 1 [x14] := Sl.lit (cs := [.string x14]) (RepsL.cons' (rep_str _ (x := x14) hn15) .nil) hbk694 rfl (by unfold big; omega)
               have lhs695 := hs695.len'
               refine WD_two 1 7 (by rfl) (by rfl) (by decide +kernel) ?_ ?_
               ·
                skip
                refine WOp_step htb (S' := ⟨[(129, (.ls z 3 accN.length cap)), (132, (sS (some ⟨bk694, 0, none⟩) 1 1)), (137, (sS (some ⟨bk691, 0, none⟩) 1 1)), (136, (sS (some ⟨bk27, 0, none⟩) n20 n20)), (134, (.p 2 2)), (131, (tS x14)), (130, (.p 5 0)), (128, (.p 2 1)), (13, (sS (some ⟨bk27, 0, none⟩) n20 n20)), (12, (.p 5 0)), (66, (iN r)), (65, (iN n_g)), (64, (sS (some q11) n_g c_g)), (10, (.p 2 0)), (9, (.v (.pointer (some (⟨bk, 0, none⟩ : Addr))))), (4, (.p 1 0))], [(4, (.lst z2 46 arr2)), (3, (.lst z 9 arr)), (2, (.cells 41 [(sS A_r7 n_r7 c_r7), (.ls z 3 accN.length cap), (.ls z2 4 accA.length cap2)])), (1, (.cells 41 [(sS none 0 0), (sS none 0 0), (sS none 0 0)]))], 9, [], [(5, bk23, (.cells 34 [(tS x14), (sS A19 n20 c21)])), (0, bk4, (.cells 24 [(sS (some q11) n_g c_g)]))]⟩) (by kernel_rfl) (WD_on (Le.refl _) ?_)
                refine WK_keep [137, 132, 129, 136, 134, 131, 130, 128, 13, 12, 66, 65, 64, 10, 9, 4] [4, 3, 2, 1] rfl rfl ?_
                exact hK256 (bk694, bk691) G693 ⟨hcL31, hs695, hs692⟩
               ·
                skip
                refine WOp_step htb (S' := ⟨[(135, (.ls z2 4 accA.length cap2)), (132, (sS (some ⟨bk694, 0, none⟩) 1 1)), (137, (sS (some ⟨bk691, 0, none⟩) 1 1)), (136, (sS (some ⟨bk27, 0, none⟩) n20 n20)), (134, (.p 2 2)), (131, (tS x14)), (130, (.p 5 0)), (128, (.p 2 1)), (13, (sS (some ⟨bk27, 0, none⟩) n20 n20)), (12, (.p 5 0)), (66, (iN r)), (65, (iN n_g)), (64, (sS (some q11) n_g c_g)), (10, (.p 2 0)), (9, (.v (.pointer (some (⟨bk, 0, none⟩ : Addr))))), (4, (.p 1 0))], [(4, (.lst z2 46 arr2)), (3, (.lst z 9 arr)), (2, (.cells 41 [(sS A_r7 n_r7 c_r7), (.ls z 3 accN.length cap), (.ls z2 4 accA.length cap2)])), (1, (.cells 41 [(sS none 0 0), (sS none 0 0), (sS none 0 0)]))], 9, [], [(5, bk23, (.cells 34 [(tS x14), (sS A19 n20 c21)])), (0, bk4, (.cells 24 [(sS (some q11) n_g c_g)]))]⟩) (by kernel_rfl) (WD_on (Le.refl _) ?_)
                refine WK_keep [137, 135, 132, 136, 134, 131, 130, 128, 13, 12, 66, 65, 64, 10, 9, 4] [4, 3, 2, 1] rfl rfl ?_
                exact hK474 (bk694, bk691) G693 ⟨hcL31, hs695, hs692⟩
              ·
               skip
               refine WOp_step htb (S' := ⟨[(135, (.ls z2 4 accA.length cap2)), (137, (sS (some ⟨bk691, 0, none⟩) 1 1)), (136, (sS (some ⟨bk27, 0, none⟩) n20 n20)), (134, (.p 2 2)), (131, (tS x14)), (130, (.p 5 0)), (128, (.p 2 1)), (13, (sS (some ⟨bk27, 0, none⟩) n20 n20)), (12, (.p 5 0)), (66, (iN r)), (65, (iN n_g)), (64, (sS (some q11) n_g c_g)), (10, (.p 2 0)), (9, (.v (.pointer (some (⟨bk, 0, none⟩ : Addr))))), (4, (.p 1 0))], [(4, (.lst z2 46 arr2)), (3, (.lst z 9 arr)), (2, (.cells 41 [(sS A_r7 n_r7 c_r7), (.ls z 3 accN.length cap), (.ls z2 4 accA.length cap2)])), (1, (.cells 41 [(sS none 0 0), (sS none 0 0), (sS none 0 0)]))], 8, [], [(5, bk23, (.cells 34 [(tS x14), (sS A19 n20 c21)])), (0, bk4, (.cells 24 [(sS (some q11) n_g c_g)]))]⟩) (by kernel_rfl) (WD_on (Le.refl _) ?_)
               refine WD_two 1 4 (by rfl) (by rfl) (by decide +kernel) ?_ ?_
               ·
                skip
                refine WOp_step htb (S' := ⟨[(129, (.ls z 3 accN.length cap)), (135, (.ls z2 4 accA.length cap2)), (137, (sS (some ⟨bk691, 0, none⟩) 1 1)), (136, (sS (some ⟨bk27, 0, none⟩) n20 n20)), (134, (.p 2 2)), (131, (tS x14)), (130, (.p 5 0)), (128, (.p 2 1)), (13, (sS (some ⟨bk27, 0, none⟩) n20 n20)), (12, (.p 5 0)), (66, (iN r)), (65, (iN n_g)), (64, (sS (some q11) n_g c_g)), (10, (.p 2 0)), (9, (.v (.pointer (some (⟨bk, 0, none⟩ : Addr))))), (4, (.p 1 0))], [(4, (.lst z2 46 arr2)), (3, (.lst z 9 arr)), (2, (.cells 41 [(sS A_r7 n_r7 c_r7), (.ls z 3 accN.length cap), (.ls z2 4 accA.length cap2)])), (1, (.cells 41 [(sS none 0 0), (sS none 0 0), (sS none 0 0)]))], 8, [], [(5, bk23, (.cells 34 [(tS x14), (sS A19 n20 c21)])), (0, bk4, (.cells 24 [(sS (some q11) n_g c_g)]))]⟩) (by kernel_rfl) (WD_on (Le.refl _) ?_)
                refine WK_keep [137, 135, 129, 136, 134, 131, 130, 128, 13, 12, 66, 65, 64, 10, 9, 4] [4, 3, 2, 1] rfl rfl ?_
                exact hK360 (bk691) G690 ⟨hcL31, hs692⟩
               ·
                skip
                refine WOp_step htb (S' := ⟨[(132, (.s 8 1 1)), (135, (.ls z2 4 accA.length cap2)), (137, (sS (some ⟨bk691, 0, none⟩) 1 1)), (136, (sS (some ⟨bk27, 0, none⟩) n20 n20)), (134, (.p 2 2)), (131, (tS x14)), (130, (.p 5 0)), (128, (.p 2 1)), (13, (sS (some ⟨bk27, 0, none⟩) n20 n20)), (12, (.p 5 0)), (66, (iN r)), (65, (iN n_g)), (64, (sS (some q11) n_g c_g)), (10, (.p 2 0)), (9, (.v (.pointer (some (⟨bk, 0, none⟩ : Addr))))), (4, (.p 1 0))], [(8, (.cells 9 [(tS x14)])), (4, (.lst z2 46 arr2)), (3, (.lst z 9 arr)), (2, (.cells 41 [(sS A_r7 n_r7 c_r7), (.ls z 3 accN.length cap), (.ls z2 4 accA.length cap2)])), (1, (.cells 41 [(sS none 0 0), (sS none 0 0), (sS none 0 0)]))], 9, [], [(5, bk23, (.cells 34 [(tS x14), (sS A19 n20 c21)])), (0, bk4, (.cells 24 [(sS (some q11) n_g c_g)]))]⟩) (by kernel_rfl) (WD_on (Le.refl _) ?_)
                refine WK_freezeV 8 rfl rfl rfl rfl ?_
                intro bk694 G693 hle hbk694
                replace hc6 := Le.trans hc6 hle
                replace hc10 := Le.trans hc10 hle
                replace hcL31 := Le.trans hcL31 hle
                replace h_g := h_g.mono hle
                replace hB := hB.mono hle
                replace h_r7 := h_r7.mono hle
                replace hs18 := hs18.mono hle
                replace hRow := hRow.mono hle
                replace hs692 := hs692.mono hle
                replace hz := hz.mono hle
                replace hoN := hoN.mono hle
                replace hoA := hoA.mono hle
                refine WD_up hle ?_
                show WK _ _ ⟨[(132, (sS (some ⟨bk694, 0, none⟩) 1 1)), (135, (.ls z2 4 accA.length cap2)), (137, (sS (some ⟨bk691, 0, none⟩) 1 1)), (136, (sS (some ⟨bk27, 0, none⟩) n20 n20)), (134, (.p 2 2)), (131, (tS x14)), (130, (.p 5 0)), (128, (.p 2 1)), (13, (sS (some ⟨bk27, 0, none⟩) n20 n20)), (12, (.p 5 0)), (66, (iN r)), (65, (iN n_g)), (64, (sS (some q11) n_g c_g)), (10, (.p 2 0)), (9, (.v (.pointer (some (⟨bk, 0, none⟩ : Addr))))), (4, (.p 1 0))], [(4, (.lst z2 46 arr2)), (3, (.lst z 9 arr)), (2, (.cells 41 [(sS A_r7 n_r7 c_r7), (.ls z 3 accN.length cap), (.ls z2 4 accA.length cap2)])), (1, (.cells 41 [(sS none 0 0), (sS none 0 0), (sS none 0 0)]))], 9, [], [(5, bk23, (.cells 34 [(tS x14), (sS A19 n20 c21)])), (0, bk4, (.cells 24 [(sS (some q11) n_g c_g)]))]⟩ _
                have hs695 : Sl tStr G693 (some ⟨bk694, 0, none⟩) 1 1 [x14] := Sl.lit (cs := [.string x14]) (RepsL.cons' (rep_str _ (x := x14) hn15) .nil) hbk694 rfl (by unfold big; omega)
                have lhs695 := hs695.len'
                refine WK_keep [137, 135, 132, 136, 134, 131, 130, 128, 13, 12, 66, 65, 64, 10, 9, 4] [4, 3, 2, 1] rfl rfl ?_
                exact hK474 (bk694, bk691) G693 ⟨hcL31, hs695, hs692⟩
     ·
      replace hc := of_decide_eq_false hc
      refine WC_exit ?_
      refine WQ_then_exit ?_
      refine WQ_then_exit ?_
      refine WQ_hit ?_
      refine WQ_code ?_
      refine WC_seq (WC_region ?_)
      refine WL_execS htb 3 [5, 4] [4, 3, 1] ⟨[(5, (iI 0)), (4, (.p 1 0))], [(4, (.lst z2 46 arr2)), (3, (.lst z 9 arr)), (1, (.cells 41 [(sS A_r7 n_r7 c_r7), (.ls z 3 accN.length cap), (.ls z2 4 accA.length cap2)]))], 5, [], [(0, bk4, (.cells 24 [(sS A_g n_g c_g)]))]⟩ (by kernel_rfl) ?_
      refine WL_nil ?_
      refine WQ_code ?_
      refine WC_ret ?_
      rw [List.take_of_length_le (show g.length ≤ r by omega)] at hcN hcA
      refine WK_freezeL 4 rfl rfl ?_
      intro bk12 G11 hle hbk12
      replace hc6 := Le.trans hc6 hle
      replace hc10 := Le.trans hc10 hle
      replace h_g := h_g.mono hle
      replace hB := hB.mono hle
      replace h_r7 := h_r7.mono hle
      replace hz := hz.mono hle
      replace hoN := hoN.mono hle
      obtain ⟨A14, n15, c16, e17, hs13⟩ := OwnL.sl (n := accA.length) hoA hle hzA hbk12 rfl
      refine WK_env [(5, (iI 0)), (4, (.p 1 0))] (fun ρ => ⟨rfl, rfl, ⟨rfl, rfl, trivial⟩⟩) ?_
      refine WK_own [(3, (.lst z 9 arr)), (1, (.cells 41 [(sS A_r7 n_r7 c_r7), (.ls z 3 accN.length cap), (sS A14 n15 c16)]))] (fun ρ => ⟨rfl, rfl, ⟨rfl, rfl, (by show SV.denL ρ [(sS A_r7 n_r7 c_r7), (.ls z 3 accN.length cap), (.v (nilOr z2 (.slice (some ⟨bk12, 0, none⟩) accA.length cap2)))] = SV.denL ρ [(sS A_r7 n_r7 c_r7), (.ls z 3 accN.length cap), (sS A14 n15 c16)]; simp only [SV.den, SV.denL, e17]), trivial⟩⟩) ?_
      have lhs13 := hs13.len'
      refine WK_freezeL 3 rfl rfl ?_
      intro bk19 G18 hle hbk19
      replace hc6 := Le.trans hc6 hle
      replace hc10 := Le.trans hc10 hle
      replace h_g := h_g.mono hle
      replace hB := hB.mono hle
      replace h_r7 := h_r7.mono hle
      replace hs13 := hs13.mono hle
      replace hz := hz.mono hle
      obtain ⟨A21, n22, c23, e24, hs20⟩ := OwnL.sl (n := accN.length) hoN hle hzN hbk19 rfl
      refine WK_env [(5, (iI 0)), (4, (.p 1 0))] (fun ρ => ⟨rfl, rfl, ⟨rfl, rfl, trivial⟩⟩) ?_
      refine WK_own [(1, (.cells 41 [(sS A_r7 n_r7 c_r7), (sS A21 n22 c23), (sS A14 n15 c16)]))] (fun ρ => ⟨rfl, rfl, (by show SV.denL ρ [(sS A_r7 n_r7 c_r7), (.v (nilOr z (.slice (some ⟨bk19, 0, none⟩) accN.length cap))), (sS A14 n15 c16)] = SV.denL ρ [(sS A_r7 n_r7 c_r7), (sS A21 n22 c23), (sS A14 n15 c16)]; simp only [SV.den, SV.denL, e24]), trivial⟩) ?_
      have lhs20 := hs20.len'
      exact WQ_done htb [(.agg [(sS A_r7 n_r7 c_r7), (sS A21 n22 c23), (sS A14 n15 c16)]), (iI 0)] _ (.inl rfl) rfl (by kernel_rfl) (fun ρ w hW => ⟨tk, _, _, _, accN, _, _, _, accA, _, _, _, 0, rfl, h_r7, hs20, hs13, (by omega), (by rw [hcN, hcA]; exact num_ok hmay hlong htok (by omega) hfl)⟩)

end Go.Proofs.Ytfemkbockhpmcaa.Sym
