/- Walks of functions that the laws of this seat reach, printed by a program of this session's. -/
import Derived.Test.YtbpajkjolhoflaaT33
import Derived.Test.YtbpajkjolhoflaaSymL
import Derived.Test.YtbpajkjolhoflaaPl
import Derived.Laws.Strings
import Derived.WideShapes
set_option linter.unusedSimpArgs false
set_option linter.unusedVariables false
set_option maxHeartbeats 4000000
namespace Go.Proofs.Ytbpajkjolhoflaa.Sym
open Go Go.Proofs Go.RowKit


theorem few50 {tk nm : List ByteArray} {rs : List (List (List Int))} (h : ((tk.length + nm.length + fewN rs : Nat) : Int) ≤ 50) : SmallC tk nm rs := by
  refine ⟨by omega, by omega, fun ar har => ?_⟩
  have h1 : fewA ar ≤ fewN rs := sum_mem (f := fewA) har
  have h2 : ar.length ≤ fewA ar := len_sum (f := fun al : List Int => 1 + al.length) (fun x => by show 1 ≤ 1 + x.length; omega) ar
  refine ⟨by omega, fun al hal => ?_⟩
  have h3 : 1 + al.length ≤ fewA ar := sum_mem (f := fun al : List Int => 1 + al.length) hal
  omega
theorem smallC_R {tk nm : List ByteArray} {rs : List (List (List Int))} (h : SmallC tk nm rs) : SmallR rs := fun ar har => by
  obtain ⟨h1, h2⟩ := h.2.2 ar har
  exact ⟨by omega, fun al hal => by have := h2 al hal; omega⟩
section
variable {rs rs2 : List (List (List Int))} {a b : List Int} {kd pk : Int} {l : List (List Int × List Int)} {to : List Int}
theorem these_t {ok : Bool} {xs : List (List Int × List Int)} (h : (l, true) = theseS ok xs) : ok = true ∧ l = xs := by
  cases ok with
  | true => injection h with h1 _; exact ⟨rfl, h1⟩
  | false => injection h with _ h2; cases h2
theorem these_f {ok : Bool} {xs : List (List Int × List Int)} (h : (l, false) = theseS ok xs) : l = [] := by
  cases ok with
  | true => injection h with _ h2; cases h2
  | false => injection h
theorem nextS_none (h : (l, false) = nextS rs rs2 (a, b) kd pk) : l = [] := by
  unfold nextS at h
  split at h
  · injection h
  · split at h
    · exact these_f h
    · split at h
      · unfold oldS at h
        split at h
        · injection h with _ h2; cases h2
        · injection h
      · split at h
        · exact these_f h
        · split at h
          · exact these_f h
          · injection h
theorem next_1 (h : (l, true) = nextS rs rs2 (a, b) kd pk) (hk : kd = 1) : a = [] ∧ b = [] ∧ l = [] := by
  rw [nextS_1 hk] at h
  injection h with h1 h2
  have h3 := of_decide_eq_true h2.symm
  exact ⟨List.length_eq_zero_iff.1 h3.1, List.length_eq_zero_iff.1 h3.2, h1⟩
theorem next_2 (h : (l, true) = nextS rs rs2 (a, b) kd pk) (hk : kd = 2) : ∃ k a1 b1, a = k :: a1 ∧ b = k :: b1 ∧ 0 ≤ k ∧ l = [(a1, b1)] := by
  rw [nextS_2 hk] at h
  obtain ⟨h1, h2⟩ := these_t h
  cases a with
  | nil => simp [dropS] at h1
  | cons x a =>
    cases b with
    | nil => simp [dropS] at h1
    | cons y b =>
      by_cases hc : x = y ∧ 0 ≤ x
      · obtain ⟨rfl, h0⟩ := hc
        refine ⟨x, a, b, rfl, rfl, h0, ?_⟩
        rw [h2]; simp [dropS, h0]
      · simp [dropS, hc] at h1
theorem alts_t {al : List (List Int)} (h : (al, true) = altsS rs a) : ∃ nt a1, a = nt :: a1 ∧ nt < 0 ∧ rs[(-1 - nt).toNat]? = some al := by
  cases a with
  | nil => simp [altsS] at h
  | cons x a =>
    simp only [altsS] at h
    split at h
    · simp at h
    · rename_i h0
      split at h
      · rename_i s hs
        injection h with h1 h2
        subst h1
        refine ⟨x, a, rfl, by omega, ?_⟩
        rw [show -1 - x = -x - 1 by omega]; exact hs
      · simp at h
theorem next_4 (h : (l, true) = nextS rs rs2 (a, b) kd pk) (hk : kd = 4) : ∃ x nt b1, b = nt :: b1 ∧ nt < 0 ∧ ∃ alts, rs2[(-1 - nt).toNat]? = some alts ∧ x ∈ alts ∧ l = [(a, x ++ b1)] := by
  rw [nextS_4 hk] at h
  obtain ⟨h1, h2⟩ := these_t h
  unfold newS at h1 h2
  split at h1
  · rename_i al hal
    split at h1
    · cases h1
    · rename_i hpk
      split at h1
      · rename_i x hx
        obtain ⟨nt, b1, hb, hnt, hr⟩ := alts_t hal.symm
        refine ⟨x, nt, b1, (show b = nt :: b1 from hb), hnt, al, hr, List.mem_of_getElem? hx, ?_⟩
        have hb' : b = nt :: b1 := hb
        subst hb'
        rw [h2]
        simp only [hal, if_neg hpk, hx, List.drop_succ_cons, List.drop_zero]
      · cases h1
  · cases h1
theorem next_5 (h : (l, true) = nextS rs rs2 (a, b) kd pk) (hk1 : kd ≠ 1) (hk2 : kd ≠ 2) (hk3 : kd ≠ 3) (hk4 : kd ≠ 4) : ∃ x y a1 b1, a = x :: a1 ∧ b = y :: b1 ∧ l = [([x], [y]), (a1, b1)] := by
  by_cases hk5 : kd = 5
  · rw [nextS_5 hk5] at h
    obtain ⟨h1, h2⟩ := these_t h
    cases a with
    | nil => simp [splitS] at h1
    | cons x a =>
      cases b with
      | nil => simp [splitS] at h1
      | cons y b => exact ⟨x, y, a, b, rfl, rfl, h2⟩
  · rw [nextS_0 hk1 hk2 hk3 hk4 hk5] at h
    injection h with _ h2; cases h2
theorem derL_nil (h : DerL rs [] to) : to = [] := by cases h; rfl
theorem derL_tok {k : Int} (hk : 0 ≤ k) (h : DerL rs (k :: a) to) : ∃ to1, to = k :: to1 ∧ DerL rs a to1 := by
  cases h with
  | tok _ _ to1 _ h1 => exact ⟨to1, rfl, h1⟩
  | rule _ _ _ _ _ _ h0 => omega
theorem derL_tok_iff {k : Int} (hk : 0 ≤ k) : DerL rs (k :: a) (k :: to) ↔ DerL rs a to := by
  constructor
  · intro h
    obtain ⟨to1, h1, h2⟩ := derL_tok hk h
    injection h1 with _ h1; subst h1; exact h2
  · exact fun h => .tok _ _ _ hk h
theorem derL_app {u v : List Int} (h1 : DerL rs a u) (h2 : DerL rs b v) : DerL rs (a ++ b) (u ++ v) := by
  induction h1 with
  | nil => exact h2
  | tok k sq to hk _ ih => exact .tok k _ _ hk ih
  | rule k sq alts alt u w hk ha hal h3 _ _ ih => rw [List.append_assoc]; exact .rule k _ alts alt _ _ hk ha hal h3 ih
theorem derL_split (h : DerL rs (a ++ b) to) : ∃ u v, to = u ++ v ∧ DerL rs a u ∧ DerL rs b v := by
  generalize hs : a ++ b = s at h
  induction h generalizing a with
  | nil => 
    obtain ⟨rfl, rfl⟩ := List.append_eq_nil_iff.1 hs
    exact ⟨[], [], rfl, .nil, .nil⟩
  | tok k sq to hk h1 ih =>
    cases a with
    | nil => exact ⟨[], k :: to, rfl, .nil, by rw [List.nil_append] at hs; rw [hs]; exact .tok k sq to hk h1⟩
    | cons x a =>
      injection hs with e1 e2
      subst e1
      obtain ⟨u, v, h2, h3, h4⟩ := ih e2
      exact ⟨x :: u, v, by rw [h2]; rfl, .tok x a u hk h3, h4⟩
  | rule k sq alts alt u w hk ha hal h1 h2 ih1 ih2 =>
    cases a with
    | nil => exact ⟨[], u ++ w, rfl, .nil, by rw [List.nil_append] at hs; rw [hs]; exact .rule k sq alts alt u w hk ha hal h1 h2⟩
    | cons x a =>
      injection hs with e1 e2
      subst e1
      obtain ⟨u', v, h3, h4, h5⟩ := ih2 e2
      exact ⟨u ++ u', v, by rw [h3, List.append_assoc], .rule x a alts alt u u' hk ha hal h1 h4, h5⟩
theorem derL_rule {nt : Int} {alts : List (List Int)} {x : List Int} (hn : nt < 0) (ha : rs[(-1 - nt).toNat]? = some alts) (hx : x ∈ alts) (h : DerL rs (x ++ b) to) : DerL rs (nt :: b) to := by
  obtain ⟨u, v, h1, h2, h3⟩ := derL_split h
  rw [h1]; exact .rule nt b alts x u v hn ha hx h2 h3
theorem derL_cut {x : Int} (h : DerL rs (x :: a) to) : ∃ i, i ≤ to.length ∧ DerL rs [x] (to.take i) ∧ DerL rs a (to.drop i) := by
  obtain ⟨u, v, h1, h2, h3⟩ := derL_split (a := [x]) (b := a) h
  refine ⟨u.length, by rw [h1]; simp, ?_, ?_⟩
  · rw [h1, List.take_left]; exact h2
  · rw [h1, List.drop_left]; exact h3
theorem next_3 (h : (l, true) = nextS rs rs2 (a, b) kd pk) (hk : kd = 3) (hd : DerL rs a to) : ∃ p ∈ l, DerL rs p.1 to := by
  rw [nextS_3 hk] at h
  unfold oldS at h
  split at h
  · rename_i ar har
    injection h with h1 _
    obtain ⟨nt, a1, ha, hnt, hr⟩ := alts_t har.symm
    simp only at ha
    subst ha
    cases hd with
    | tok _ _ _ h0 => omega
    | rule _ _ alts alt u v _ h2 h3 h4 h5 =>
      rw [h2] at hr; injection hr with hr; subst hr
      rw [h1]
      exact ⟨_, List.mem_map.2 ⟨alt, h3, rfl⟩, derL_app h4 h5⟩
  · injection h with _ h2; cases h2
end
section
variable {α : Type} {P : α → Prop} {l : List α} {i : Nat} {x : α}
theorem some_yes (h : ∃ p ∈ l.take i, P p) (hx : l[i]? = some x) : true = true ↔ ∃ p ∈ l.take (i + 1), P p := by
  obtain ⟨p, h1, h2⟩ := h
  exact ⟨fun _ => ⟨p, by rw [take_succ' hx]; exact List.mem_append_left _ h1, h2⟩, fun _ => rfl⟩
theorem some_step {r : Bool} (hx : l[i]? = some x) (h : ¬ ∃ p ∈ l.take i, P p) (hr : r = true ↔ P x) : r = true ↔ ∃ p ∈ l.take (i + 1), P p := by
  rw [hr, take_succ' hx]
  constructor
  · intro h1; exact ⟨x, by simp, h1⟩
  · rintro ⟨p, h1, h2⟩
    rcases List.mem_append.1 h1 with h1 | h1
    · exact absurd ⟨p, h1, h2⟩ h
    · rw [List.mem_singleton.1 h1] at h2; exact h2
end
section
variable {P Q : Nat → Prop} {i : Nat} {cu al r : Bool}
theorem cut_no (h : cu = true ↔ ∃ i', i' < i ∧ P i') (hn : ¬ P i) : cu = true ↔ ∃ i', i' < i + 1 ∧ P i' := by
  rw [h]
  constructor
  · rintro ⟨j, h1, h2⟩; exact ⟨j, by omega, h2⟩
  · rintro ⟨j, h1, h2⟩
    by_cases e : j = i
    · subst e; exact absurd h2 hn
    · exact ⟨j, by omega, h2⟩
theorem all_no5 (h : al = true → ∀ i', i' < i → P i' → Q i') (hn : ¬ P i) : al = true → ∀ i', i' < i + 1 → P i' → Q i' := fun ha j h1 h2 => by
  by_cases e : j = i
  · subst e; exact absurd h2 hn
  · exact h ha j (by omega) h2
theorem cut_yes (h : P i) : true = true ↔ ∃ i', i' < i + 1 ∧ P i' := ⟨fun _ => ⟨i, by omega, h⟩, fun _ => rfl⟩
theorem all_yes5 (h : ∀ i', i' < i → P i' → Q i') (hq : r = true → Q i) : r = true → ∀ i', i' < i + 1 → P i' → Q i' := fun hr j h1 h2 => by
  by_cases e : j = i
  · subst e; exact hq hr
  · exact h j (by omega) h2
end
theorem stackHolds_ok {w : World} {G : Heap} (hG : Has w G) {tk : (List ByteArray)} {A_tk : Option Addr} {n_tk : Nat} {c_tk : Nat} {nm : (List ByteArray)} {A_nm : Option Addr} {n_nm : Nat} {c_nm : Nat} {rs : (List (List (List Int)))} {A_rs : Option Addr} {n_rs : Nat} {c_rs : Nat} {tk2 : (List ByteArray)} {A_tk2 : Option Addr} {n_tk2 : Nat} {c_tk2 : Nat} {nm2 : (List ByteArray)} {A_nm2 : Option Addr} {n_nm2 : Nat} {c_nm2 : Nat} {rs2 : (List (List (List Int)))} {A_rs2 : Option Addr} {n_rs2 : Nat} {c_rs2 : Nat} {a : (List Int)} {A_a : Option Addr} {n_a : Nat} {c_a : Nat} {b : (List Int)} {A_b : Option Addr} {n_b : Nat} {c_b : Nat} {kd : Int} {pk : Int} {to : (List Int)} {A_to : Option Addr} {n_to : Nat} {c_to : Nat} (h_tk : Sl tStr G A_tk n_tk c_tk tk) (h_nm : Sl tStr G A_nm n_nm c_nm nm) (h_rs : Sl (tSlice (tSlice (tInt .i64))) G A_rs n_rs c_rs rs) (h_tk2 : Sl tStr G A_tk2 n_tk2 c_tk2 tk2) (h_nm2 : Sl tStr G A_nm2 n_nm2 c_nm2 nm2) (h_rs2 : Sl (tSlice (tSlice (tInt .i64))) G A_rs2 n_rs2 c_rs2 rs2) (h_a : Sl (tInt .i64) G A_a n_a c_a a) (h_b : Sl (tInt .i64) G A_b n_b c_b b) (h_kd : -9223372036854775808 ≤ kd ∧ kd ≤ 9223372036854775807) (h_pk : -9223372036854775808 ≤ pk ∧ pk ≤ 9223372036854775807) (h_to : Sl (tInt .i64) G A_to n_to c_to to) (hB1 : tk.length ≤ 140737488355328) (hB2 : nm.length ≤ 140737488355328) (hB3 : FitR rs) (hB4 : tk2.length ≤ 140737488355328) (hB5 : nm2.length ≤ 140737488355328) (hB6 : FitR rs2) :
    Calls Try.prog 6 #[(.agg #[.slice A_tk n_tk c_tk, .slice A_nm n_nm c_nm, .slice A_rs n_rs c_rs]), (.agg #[.slice A_tk2 n_tk2 c_tk2, .slice A_nm2 n_nm2 c_nm2, .slice A_rs2 n_rs2 c_rs2]), (.agg #[.slice A_a n_a c_a, .slice A_b n_b c_b, .int .i64 kd, .int .i64 pk]), (.slice A_to n_to c_to)] w (Ret w G fun v G' => ∃ (ok : Bool), v = .bool ok ∧ (ok = true)) := by
  have lh_tk := h_tk.len'
  have lh_nm := h_nm.len'
  have lh_rs := h_rs.len'
  have lh_tk2 := h_tk2.len'
  have lh_nm2 := h_nm2.len'
  have lh_rs2 := h_rs2.len'
  have lh_a := h_a.len'
  have lh_b := h_b.len'
  have lh_to := h_to.len'
  refine enter [(.agg [(sS A_tk n_tk c_tk), (sS A_nm n_nm c_nm), (sS A_rs n_rs c_rs)]), (.agg [(sS A_tk2 n_tk2 c_tk2), (sS A_nm2 n_nm2 c_nm2), (sS A_rs2 n_rs2 c_rs2)]), (.agg [(sS A_a n_a c_a), (sS A_b n_b c_b), (iI kd), (iI pk)]), (sS A_to n_to c_to)] 260 Try.func6 rfl rfl rfl rfl hG ?_
  refine WC_seq (WC_region ?_)
  refine WL_execS htb 4 [6, 5, 4, 3] [2, 1, 0] ⟨[(6, (.p 2 0)), (5, (.p 1 0)), (4, (.p 0 0)), (3, (sS A_to n_to c_to))], [(2, (.cells 37 [(sS A_a n_a c_a), (sS A_b n_b c_b), (iI kd), (iI pk)])), (1, (.cells 35 [(sS A_tk2 n_tk2 c_tk2), (sS A_nm2 n_nm2 c_nm2), (sS A_rs2 n_rs2 c_rs2)])), (0, (.cells 35 [(sS A_tk n_tk c_tk), (sS A_nm n_nm c_nm), (sS A_rs n_rs c_rs)]))], 3, [], []⟩ (by kernel_rfl) ?_
  refine WL_nil ?_
  refine WQ_code ?_
  refine WC_seq (WC_region ?_)
  refine WL_op (WOp_call 11 [] (by kernel_rfl) (goes_of Try.func11 rfl rfl) (fun ρ w hW => live_ok hW.has ) ?_)
  intro G1 v hle hΦ
  replace h_tk := h_tk.mono hle
  replace h_nm := h_nm.mono hle
  replace h_rs := h_rs.mono hle
  replace h_tk2 := h_tk2.mono hle
  replace h_nm2 := h_nm2.mono hle
  replace h_rs2 := h_rs2.mono hle
  replace h_a := h_a.mono hle
  replace h_b := h_b.mono hle
  replace h_to := h_to.mono hle
  obtain ⟨r1, rfl, hR2⟩ := hΦ
  replace hR2 := hR2.trans rfl
  obtain rfl := hR2
  refine WL_execS htb 1 [9, 6, 5, 4, 3] [2, 1, 0] ⟨[(9, (bB true)), (6, (.p 2 0)), (5, (.p 1 0)), (4, (.p 0 0)), (3, (sS A_to n_to c_to))], [(2, (.cells 37 [(sS A_a n_a c_a), (sS A_b n_b c_b), (iI kd), (iI pk)])), (1, (.cells 35 [(sS A_tk2 n_tk2 c_tk2), (sS A_nm2 n_nm2 c_nm2), (sS A_rs2 n_rs2 c_rs2)])), (0, (.cells 35 [(sS A_tk n_tk c_tk), (sS A_nm n_nm c_nm), (sS A_rs n_rs c_rs)]))], 3, [], []⟩ (by kernel_rfl) ?_
  refine WL_nil ?_
  refine WQ_code ?_
  refine WC_seq ?_
  refine WC_seq (WC_region ?_)
  refine WL_execS htb 1 [20, 9, 6, 5, 4, 3] [2, 1, 0] ⟨[(20, (.agg [(sS A_tk n_tk c_tk), (sS A_nm n_nm c_nm), (sS A_rs n_rs c_rs)])), (9, (bB true)), (6, (.p 2 0)), (5, (.p 1 0)), (4, (.p 0 0)), (3, (sS A_to n_to c_to))], [(2, (.cells 37 [(sS A_a n_a c_a), (sS A_b n_b c_b), (iI kd), (iI pk)])), (1, (.cells 35 [(sS A_tk2 n_tk2 c_tk2), (sS A_nm2 n_nm2 c_nm2), (sS A_rs2 n_rs2 c_rs2)])), (0, (.cells 35 [(sS A_tk n_tk c_tk), (sS A_nm n_nm c_nm), (sS A_rs n_rs c_rs)]))], 3, [], []⟩ (by kernel_rfl) ?_
  refine WL_op (WOp_call 27 [(.agg [(sS A_tk n_tk c_tk), (sS A_nm n_nm c_nm), (sS A_rs n_rs c_rs)]), (iI 50)] (by kernel_rfl) (goes_of Try.func27 rfl rfl) (fun ρ w hW => few_ok hW.has (tk := tk) (nm := nm) (rs := rs) (most := 50) h_tk h_nm h_rs (by omega) hB1 hB2 hB3 (by omega)) ?_)
  intro G2 v hle hΦ
  replace h_tk := h_tk.mono hle
  replace h_nm := h_nm.mono hle
  replace h_rs := h_rs.mono hle
  replace h_tk2 := h_tk2.mono hle
  replace h_nm2 := h_nm2.mono hle
  replace h_rs2 := h_rs2.mono hle
  replace h_a := h_a.mono hle
  replace h_b := h_b.mono hle
  replace h_to := h_to.mono hle
  obtain ⟨r3, rfl, hR4⟩ := hΦ
  refine WL_execS htb 2 [23, 9, 6, 5, 4, 3] [2, 1, 0] ⟨[(23, (bB (!r3))), (9, (bB true)), (6, (.p 2 0)), (5, (.p 1 0)), (4, (.p 0 0)), (3, (sS A_to n_to c_to))], [(2, (.cells 37 [(sS A_a n_a c_a), (sS A_b n_b c_b), (iI kd), (iI pk)])), (1, (.cells 35 [(sS A_tk2 n_tk2 c_tk2), (sS A_nm2 n_nm2 c_nm2), (sS A_rs2 n_rs2 c_rs2)])), (0, (.cells 35 [(sS A_tk n_tk c_tk), (sS A_nm n_nm c_nm), (sS A_rs n_rs c_rs)]))], 3, [], []⟩ (by kernel_rfl) ?_
  refine WK_split 23 (!r3) rfl (fun hg0 => ?_) (fun hg0 => ?_)
  · rw [Bool.not_eq_true'] at hg0
    refine WK_keep [23, 9, 6, 5, 4, 3] [2, 1, 0] rfl rfl ?_
    refine WL_execS htb 58 [81, 9, 6, 5, 4, 3] [2, 1, 0] ⟨[(81, (bB true)), (9, (bB true)), (6, (.p 2 0)), (5, (.p 1 0)), (4, (.p 0 0)), (3, (sS A_to n_to c_to))], [(2, (.cells 37 [(sS A_a n_a c_a), (sS A_b n_b c_b), (iI kd), (iI pk)])), (1, (.cells 35 [(sS A_tk2 n_tk2 c_tk2), (sS A_nm2 n_nm2 c_nm2), (sS A_rs2 n_rs2 c_rs2)])), (0, (.cells 35 [(sS A_tk n_tk c_tk), (sS A_nm n_nm c_nm), (sS A_rs n_rs c_rs)]))], 3, [], []⟩ (by kernel_rfl) ?_
    refine WL_nil ?_
    refine WQ_code ?_
    refine WC_cond (b := true) rfl (fun _ => ?_) (fun h => by cases h)
    refine WC_seq (WC_region ?_)
    refine WL_execS htb 2 [8] [] ⟨[(8, (bB true))], [], 3, [], []⟩ (by kernel_rfl) ?_
    refine WL_nil ?_
    refine WQ_code ?_
    refine WC_ret ?_
    refine WQ_then_ret ?_
    exact WQ_done htb [(bB true)] _ (.inl rfl) rfl (by kernel_rfl) (fun ρ w hW => ⟨true, rfl, rfl⟩)
  · rw [Bool.not_eq_false'] at hg0
    refine WK_keep [23, 9, 6, 5, 4, 3] [2, 1, 0] rfl rfl ?_
    have hsc1 := few50 (of_decide_eq_true (hR4.symm.trans (by simpa using hg0)))
    refine WL_execS htb 1 [24, 23, 9, 6, 5, 4, 3] [2, 1, 0] ⟨[(24, (.agg [(sS A_tk2 n_tk2 c_tk2), (sS A_nm2 n_nm2 c_nm2), (sS A_rs2 n_rs2 c_rs2)])), (23, (bB false)), (9, (bB true)), (6, (.p 2 0)), (5, (.p 1 0)), (4, (.p 0 0)), (3, (sS A_to n_to c_to))], [(2, (.cells 37 [(sS A_a n_a c_a), (sS A_b n_b c_b), (iI kd), (iI pk)])), (1, (.cells 35 [(sS A_tk2 n_tk2 c_tk2), (sS A_nm2 n_nm2 c_nm2), (sS A_rs2 n_rs2 c_rs2)])), (0, (.cells 35 [(sS A_tk n_tk c_tk), (sS A_nm n_nm c_nm), (sS A_rs n_rs c_rs)]))], 3, [], []⟩ (by kernel_rfl) ?_
    refine WL_op (WOp_call 27 [(.agg [(sS A_tk2 n_tk2 c_tk2), (sS A_nm2 n_nm2 c_nm2), (sS A_rs2 n_rs2 c_rs2)]), (iI 50)] (by kernel_rfl) (goes_of Try.func27 rfl rfl) (fun ρ w hW => few_ok hW.has (tk := tk2) (nm := nm2) (rs := rs2) (most := 50) h_tk2 h_nm2 h_rs2 (by omega) hB4 hB5 hB6 (by omega)) ?_)
    intro G3 v hle hΦ
    replace h_tk := h_tk.mono hle
    replace h_nm := h_nm.mono hle
    replace h_rs := h_rs.mono hle
    replace h_tk2 := h_tk2.mono hle
    replace h_nm2 := h_nm2.mono hle
    replace h_rs2 := h_rs2.mono hle
    replace h_a := h_a.mono hle
    replace h_b := h_b.mono hle
    replace h_to := h_to.mono hle
    obtain ⟨r5, rfl, hR6⟩ := hΦ
    refine WL_execS htb 3 [28, 9, 6, 5, 4, 3] [2, 1, 0] ⟨[(28, (bB (!r5))), (9, (bB true)), (6, (.p 2 0)), (5, (.p 1 0)), (4, (.p 0 0)), (3, (sS A_to n_to c_to))], [(2, (.cells 37 [(sS A_a n_a c_a), (sS A_b n_b c_b), (iI kd), (iI pk)])), (1, (.cells 35 [(sS A_tk2 n_tk2 c_tk2), (sS A_nm2 n_nm2 c_nm2), (sS A_rs2 n_rs2 c_rs2)])), (0, (.cells 35 [(sS A_tk n_tk c_tk), (sS A_nm n_nm c_nm), (sS A_rs n_rs c_rs)]))], 3, [], []⟩ (by kernel_rfl) ?_
    refine WK_split 28 (!r5) rfl (fun hg1 => ?_) (fun hg1 => ?_)
    · rw [Bool.not_eq_true'] at hg1
      refine WK_keep [28, 9, 6, 5, 4, 3] [2, 1, 0] rfl rfl ?_
      refine WL_execS htb 53 [81, 9, 6, 5, 4, 3] [2, 1, 0] ⟨[(81, (bB true)), (9, (bB true)), (6, (.p 2 0)), (5, (.p 1 0)), (4, (.p 0 0)), (3, (sS A_to n_to c_to))], [(2, (.cells 37 [(sS A_a n_a c_a), (sS A_b n_b c_b), (iI kd), (iI pk)])), (1, (.cells 35 [(sS A_tk2 n_tk2 c_tk2), (sS A_nm2 n_nm2 c_nm2), (sS A_rs2 n_rs2 c_rs2)])), (0, (.cells 35 [(sS A_tk n_tk c_tk), (sS A_nm n_nm c_nm), (sS A_rs n_rs c_rs)]))], 3, [], []⟩ (by kernel_rfl) ?_
      refine WL_nil ?_
      refine WQ_code ?_
      refine WC_cond (b := true) rfl (fun _ => ?_) (fun h => by cases h)
      refine WC_seq (WC_region ?_)
      refine WL_execS htb 2 [8] [] ⟨[(8, (bB true))], [], 3, [], []⟩ (by kernel_rfl) ?_
      refine WL_nil ?_
      refine WQ_code ?_
      refine WC_ret ?_
      refine WQ_then_ret ?_
      exact WQ_done htb [(bB true)] _ (.inl rfl) rfl (by kernel_rfl) (fun ρ w hW => ⟨true, rfl, rfl⟩)
    · rw [Bool.not_eq_false'] at hg1
      refine WK_keep [28, 9, 6, 5, 4, 3] [2, 1, 0] rfl rfl ?_
      have hsc2 := few50 (of_decide_eq_true (hR6.symm.trans (by simpa using hg1)))
      refine WL_execS htb 1 [29, 28, 9, 6, 5, 4, 3] [2, 1, 0] ⟨[(29, (.agg [(sS A_tk n_tk c_tk), (sS A_nm n_nm c_nm), (sS A_rs n_rs c_rs)])), (28, (bB false)), (9, (bB true)), (6, (.p 2 0)), (5, (.p 1 0)), (4, (.p 0 0)), (3, (sS A_to n_to c_to))], [(2, (.cells 37 [(sS A_a n_a c_a), (sS A_b n_b c_b), (iI kd), (iI pk)])), (1, (.cells 35 [(sS A_tk2 n_tk2 c_tk2), (sS A_nm2 n_nm2 c_nm2), (sS A_rs2 n_rs2 c_rs2)])), (0, (.cells 35 [(sS A_tk n_tk c_tk), (sS A_nm n_nm c_nm), (sS A_rs n_rs c_rs)]))], 3, [], []⟩ (by kernel_rfl) ?_
      refine WL_op (WOp_call 28 [(.agg [(sS A_tk n_tk c_tk), (sS A_nm n_nm c_nm), (sS A_rs n_rs c_rs)])] (by kernel_rfl) (goes_of Try.func28 rfl rfl) (fun ρ w hW => valid_ok hW.has (tk := tk) (nm := nm) (rs := rs) h_tk h_nm h_rs hsc1) ?_)
      intro G4 v hle hΦ
      replace h_tk := h_tk.mono hle
      replace h_nm := h_nm.mono hle
      replace h_rs := h_rs.mono hle
      replace h_tk2 := h_tk2.mono hle
      replace h_nm2 := h_nm2.mono hle
      replace h_rs2 := h_rs2.mono hle
      replace h_a := h_a.mono hle
      replace h_b := h_b.mono hle
      replace h_to := h_to.mono hle
      obtain ⟨r7, rfl, h_r7, hR8⟩ := hΦ
      refine WL_execS htb 3 [33, 9, 6, 5, 4, 3] [2, 1, 0] ⟨[(33, (bB ((r7 : Int) != 0))), (9, (bB true)), (6, (.p 2 0)), (5, (.p 1 0)), (4, (.p 0 0)), (3, (sS A_to n_to c_to))], [(2, (.cells 37 [(sS A_a n_a c_a), (sS A_b n_b c_b), (iI kd), (iI pk)])), (1, (.cells 35 [(sS A_tk2 n_tk2 c_tk2), (sS A_nm2 n_nm2 c_nm2), (sS A_rs2 n_rs2 c_rs2)])), (0, (.cells 35 [(sS A_tk n_tk c_tk), (sS A_nm n_nm c_nm), (sS A_rs n_rs c_rs)]))], 3, [], []⟩ (by kernel_rfl) ?_
      refine WK_split 33 ((r7 : Int) != 0) rfl (fun hg2 => ?_) (fun hg2 => ?_)
      · replace hg2 := bne_iff_ne.1 hg2
        refine WK_keep [33, 9, 6, 5, 4, 3] [2, 1, 0] rfl rfl ?_
        refine WL_execS htb 48 [81, 9, 6, 5, 4, 3] [2, 1, 0] ⟨[(81, (bB true)), (9, (bB true)), (6, (.p 2 0)), (5, (.p 1 0)), (4, (.p 0 0)), (3, (sS A_to n_to c_to))], [(2, (.cells 37 [(sS A_a n_a c_a), (sS A_b n_b c_b), (iI kd), (iI pk)])), (1, (.cells 35 [(sS A_tk2 n_tk2 c_tk2), (sS A_nm2 n_nm2 c_nm2), (sS A_rs2 n_rs2 c_rs2)])), (0, (.cells 35 [(sS A_tk n_tk c_tk), (sS A_nm n_nm c_nm), (sS A_rs n_rs c_rs)]))], 3, [], []⟩ (by kernel_rfl) ?_
        refine WL_nil ?_
        refine WQ_code ?_
        refine WC_cond (b := true) rfl (fun _ => ?_) (fun h => by cases h)
        refine WC_seq (WC_region ?_)
        refine WL_execS htb 2 [8] [] ⟨[(8, (bB true))], [], 3, [], []⟩ (by kernel_rfl) ?_
        refine WL_nil ?_
        refine WQ_code ?_
        refine WC_ret ?_
        refine WQ_then_ret ?_
        exact WQ_done htb [(bB true)] _ (.inl rfl) rfl (by kernel_rfl) (fun ρ w hW => ⟨true, rfl, rfl⟩)
      · replace hg2 := (bne_eq_false_iff_eq.1) hg2
        refine WK_keep [33, 9, 6, 5, 4, 3] [2, 1, 0] rfl rfl ?_
        obtain ⟨g1, hbk1⟩ := hR8 (by simpa using hg2)
        have hrl1 := (back_ok_syms hbk1).1
        have hsl1 := hsc1.2.1
        refine WL_execS htb 1 [34, 33, 9, 6, 5, 4, 3] [2, 1, 0] ⟨[(34, (.agg [(sS A_tk2 n_tk2 c_tk2), (sS A_nm2 n_nm2 c_nm2), (sS A_rs2 n_rs2 c_rs2)])), (33, (bB false)), (9, (bB true)), (6, (.p 2 0)), (5, (.p 1 0)), (4, (.p 0 0)), (3, (sS A_to n_to c_to))], [(2, (.cells 37 [(sS A_a n_a c_a), (sS A_b n_b c_b), (iI kd), (iI pk)])), (1, (.cells 35 [(sS A_tk2 n_tk2 c_tk2), (sS A_nm2 n_nm2 c_nm2), (sS A_rs2 n_rs2 c_rs2)])), (0, (.cells 35 [(sS A_tk n_tk c_tk), (sS A_nm n_nm c_nm), (sS A_rs n_rs c_rs)]))], 3, [], []⟩ (by kernel_rfl) ?_
        refine WL_op (WOp_call 28 [(.agg [(sS A_tk2 n_tk2 c_tk2), (sS A_nm2 n_nm2 c_nm2), (sS A_rs2 n_rs2 c_rs2)])] (by kernel_rfl) (goes_of Try.func28 rfl rfl) (fun ρ w hW => valid_ok hW.has (tk := tk2) (nm := nm2) (rs := rs2) h_tk2 h_nm2 h_rs2 hsc2) ?_)
        intro G5 v hle hΦ
        replace h_tk := h_tk.mono hle
        replace h_nm := h_nm.mono hle
        replace h_rs := h_rs.mono hle
        replace h_tk2 := h_tk2.mono hle
        replace h_nm2 := h_nm2.mono hle
        replace h_rs2 := h_rs2.mono hle
        replace h_a := h_a.mono hle
        replace h_b := h_b.mono hle
        replace h_to := h_to.mono hle
        obtain ⟨r9, rfl, h_r9, hR10⟩ := hΦ
        refine WL_execS htb 3 [38, 9, 6, 5, 4, 3] [2, 1, 0] ⟨[(38, (bB ((r9 : Int) != 0))), (9, (bB true)), (6, (.p 2 0)), (5, (.p 1 0)), (4, (.p 0 0)), (3, (sS A_to n_to c_to))], [(2, (.cells 37 [(sS A_a n_a c_a), (sS A_b n_b c_b), (iI kd), (iI pk)])), (1, (.cells 35 [(sS A_tk2 n_tk2 c_tk2), (sS A_nm2 n_nm2 c_nm2), (sS A_rs2 n_rs2 c_rs2)])), (0, (.cells 35 [(sS A_tk n_tk c_tk), (sS A_nm n_nm c_nm), (sS A_rs n_rs c_rs)]))], 3, [], []⟩ (by kernel_rfl) ?_
        refine WK_split 38 ((r9 : Int) != 0) rfl (fun hg3 => ?_) (fun hg3 => ?_)
        · replace hg3 := bne_iff_ne.1 hg3
          refine WK_keep [38, 9, 6, 5, 4, 3] [2, 1, 0] rfl rfl ?_
          refine WL_execS htb 43 [81, 9, 6, 5, 4, 3] [2, 1, 0] ⟨[(81, (bB true)), (9, (bB true)), (6, (.p 2 0)), (5, (.p 1 0)), (4, (.p 0 0)), (3, (sS A_to n_to c_to))], [(2, (.cells 37 [(sS A_a n_a c_a), (sS A_b n_b c_b), (iI kd), (iI pk)])), (1, (.cells 35 [(sS A_tk2 n_tk2 c_tk2), (sS A_nm2 n_nm2 c_nm2), (sS A_rs2 n_rs2 c_rs2)])), (0, (.cells 35 [(sS A_tk n_tk c_tk), (sS A_nm n_nm c_nm), (sS A_rs n_rs c_rs)]))], 3, [], []⟩ (by kernel_rfl) ?_
          refine WL_nil ?_
          refine WQ_code ?_
          refine WC_cond (b := true) rfl (fun _ => ?_) (fun h => by cases h)
          refine WC_seq (WC_region ?_)
          refine WL_execS htb 2 [8] [] ⟨[(8, (bB true))], [], 3, [], []⟩ (by kernel_rfl) ?_
          refine WL_nil ?_
          refine WQ_code ?_
          refine WC_ret ?_
          refine WQ_then_ret ?_
          exact WQ_done htb [(bB true)] _ (.inl rfl) rfl (by kernel_rfl) (fun ρ w hW => ⟨true, rfl, rfl⟩)
        · replace hg3 := (bne_eq_false_iff_eq.1) hg3
          refine WK_keep [38, 9, 6, 5, 4, 3] [2, 1, 0] rfl rfl ?_
          obtain ⟨g2, hbk2⟩ := hR10 (by simpa using hg3)
          have hrl2 := (back_ok_syms hbk2).1
          have hsl2 := hsc2.2.1
          refine WL_execS htb 5 [43, 9, 6, 5, 4, 3] [2, 1, 0] ⟨[(43, (bB (decide ((((n_to : Nat) : Int) : Int) > 7)))), (9, (bB true)), (6, (.p 2 0)), (5, (.p 1 0)), (4, (.p 0 0)), (3, (sS A_to n_to c_to))], [(2, (.cells 37 [(sS A_a n_a c_a), (sS A_b n_b c_b), (iI kd), (iI pk)])), (1, (.cells 35 [(sS A_tk2 n_tk2 c_tk2), (sS A_nm2 n_nm2 c_nm2), (sS A_rs2 n_rs2 c_rs2)])), (0, (.cells 35 [(sS A_tk n_tk c_tk), (sS A_nm n_nm c_nm), (sS A_rs n_rs c_rs)]))], 3, [], []⟩ (by kernel_rfl) ?_
          refine WK_split 43 (decide ((((n_to : Nat) : Int) : Int) > 7)) rfl (fun hg4 => ?_) (fun hg4 => ?_)
          · replace hg4 := of_decide_eq_true hg4
            refine WK_keep [43, 9, 6, 5, 4, 3] [2, 1, 0] rfl rfl ?_
            refine WL_execS htb 38 [81, 9, 6, 5, 4, 3] [2, 1, 0] ⟨[(81, (bB true)), (9, (bB true)), (6, (.p 2 0)), (5, (.p 1 0)), (4, (.p 0 0)), (3, (sS A_to n_to c_to))], [(2, (.cells 37 [(sS A_a n_a c_a), (sS A_b n_b c_b), (iI kd), (iI pk)])), (1, (.cells 35 [(sS A_tk2 n_tk2 c_tk2), (sS A_nm2 n_nm2 c_nm2), (sS A_rs2 n_rs2 c_rs2)])), (0, (.cells 35 [(sS A_tk n_tk c_tk), (sS A_nm n_nm c_nm), (sS A_rs n_rs c_rs)]))], 3, [], []⟩ (by kernel_rfl) ?_
            refine WL_nil ?_
            refine WQ_code ?_
            refine WC_cond (b := true) rfl (fun _ => ?_) (fun h => by cases h)
            refine WC_seq (WC_region ?_)
            refine WL_execS htb 2 [8] [] ⟨[(8, (bB true))], [], 3, [], []⟩ (by kernel_rfl) ?_
            refine WL_nil ?_
            refine WQ_code ?_
            refine WC_ret ?_
            refine WQ_then_ret ?_
            exact WQ_done htb [(bB true)] _ (.inl rfl) rfl (by kernel_rfl) (fun ρ w hW => ⟨true, rfl, rfl⟩)
          · replace hg4 := of_decide_eq_false hg4
            refine WK_keep [43, 9, 6, 5, 4, 3] [2, 1, 0] rfl rfl ?_
            refine WL_execS htb 7 [50, 9, 6, 5, 4, 3] [2, 1, 0] ⟨[(50, (bB (decide ((((n_a : Nat) : Int) : Int) > 6)))), (9, (bB true)), (6, (.p 2 0)), (5, (.p 1 0)), (4, (.p 0 0)), (3, (sS A_to n_to c_to))], [(2, (.cells 37 [(sS A_a n_a c_a), (sS A_b n_b c_b), (iI kd), (iI pk)])), (1, (.cells 35 [(sS A_tk2 n_tk2 c_tk2), (sS A_nm2 n_nm2 c_nm2), (sS A_rs2 n_rs2 c_rs2)])), (0, (.cells 35 [(sS A_tk n_tk c_tk), (sS A_nm n_nm c_nm), (sS A_rs n_rs c_rs)]))], 3, [], []⟩ (by kernel_rfl) ?_
            refine WK_split 50 (decide ((((n_a : Nat) : Int) : Int) > 6)) rfl (fun hg5 => ?_) (fun hg5 => ?_)
            · replace hg5 := of_decide_eq_true hg5
              refine WK_keep [50, 9, 6, 5, 4, 3] [2, 1, 0] rfl rfl ?_
              refine WL_execS htb 31 [81, 9, 6, 5, 4, 3] [2, 1, 0] ⟨[(81, (bB true)), (9, (bB true)), (6, (.p 2 0)), (5, (.p 1 0)), (4, (.p 0 0)), (3, (sS A_to n_to c_to))], [(2, (.cells 37 [(sS A_a n_a c_a), (sS A_b n_b c_b), (iI kd), (iI pk)])), (1, (.cells 35 [(sS A_tk2 n_tk2 c_tk2), (sS A_nm2 n_nm2 c_nm2), (sS A_rs2 n_rs2 c_rs2)])), (0, (.cells 35 [(sS A_tk n_tk c_tk), (sS A_nm n_nm c_nm), (sS A_rs n_rs c_rs)]))], 3, [], []⟩ (by kernel_rfl) ?_
              refine WL_nil ?_
              refine WQ_code ?_
              refine WC_cond (b := true) rfl (fun _ => ?_) (fun h => by cases h)
              refine WC_seq (WC_region ?_)
              refine WL_execS htb 2 [8] [] ⟨[(8, (bB true))], [], 3, [], []⟩ (by kernel_rfl) ?_
              refine WL_nil ?_
              refine WQ_code ?_
              refine WC_ret ?_
              refine WQ_then_ret ?_
              exact WQ_done htb [(bB true)] _ (.inl rfl) rfl (by kernel_rfl) (fun ρ w hW => ⟨true, rfl, rfl⟩)
            · replace hg5 := of_decide_eq_false hg5
              refine WK_keep [50, 9, 6, 5, 4, 3] [2, 1, 0] rfl rfl ?_
              refine WL_execS htb 7 [57, 9, 6, 5, 4, 3] [2, 1, 0] ⟨[(57, (bB (decide ((((n_b : Nat) : Int) : Int) > 6)))), (9, (bB true)), (6, (.p 2 0)), (5, (.p 1 0)), (4, (.p 0 0)), (3, (sS A_to n_to c_to))], [(2, (.cells 37 [(sS A_a n_a c_a), (sS A_b n_b c_b), (iI kd), (iI pk)])), (1, (.cells 35 [(sS A_tk2 n_tk2 c_tk2), (sS A_nm2 n_nm2 c_nm2), (sS A_rs2 n_rs2 c_rs2)])), (0, (.cells 35 [(sS A_tk n_tk c_tk), (sS A_nm n_nm c_nm), (sS A_rs n_rs c_rs)]))], 3, [], []⟩ (by kernel_rfl) ?_
              refine WK_split 57 (decide ((((n_b : Nat) : Int) : Int) > 6)) rfl (fun hg6 => ?_) (fun hg6 => ?_)
              · replace hg6 := of_decide_eq_true hg6
                refine WK_keep [57, 9, 6, 5, 4, 3] [2, 1, 0] rfl rfl ?_
                refine WL_execS htb 24 [81, 9, 6, 5, 4, 3] [2, 1, 0] ⟨[(81, (bB true)), (9, (bB true)), (6, (.p 2 0)), (5, (.p 1 0)), (4, (.p 0 0)), (3, (sS A_to n_to c_to))], [(2, (.cells 37 [(sS A_a n_a c_a), (sS A_b n_b c_b), (iI kd), (iI pk)])), (1, (.cells 35 [(sS A_tk2 n_tk2 c_tk2), (sS A_nm2 n_nm2 c_nm2), (sS A_rs2 n_rs2 c_rs2)])), (0, (.cells 35 [(sS A_tk n_tk c_tk), (sS A_nm n_nm c_nm), (sS A_rs n_rs c_rs)]))], 3, [], []⟩ (by kernel_rfl) ?_
                refine WL_nil ?_
                refine WQ_code ?_
                refine WC_cond (b := true) rfl (fun _ => ?_) (fun h => by cases h)
                refine WC_seq (WC_region ?_)
                refine WL_execS htb 2 [8] [] ⟨[(8, (bB true))], [], 3, [], []⟩ (by kernel_rfl) ?_
                refine WL_nil ?_
                refine WQ_code ?_
                refine WC_ret ?_
                refine WQ_then_ret ?_
                exact WQ_done htb [(bB true)] _ (.inl rfl) rfl (by kernel_rfl) (fun ρ w hW => ⟨true, rfl, rfl⟩)
              · replace hg6 := of_decide_eq_false hg6
                refine WK_keep [57, 9, 6, 5, 4, 3] [2, 1, 0] rfl rfl ?_
                refine WL_execS htb 4 [61, 58, 57, 9, 6, 5, 4, 3] [2, 1, 0] ⟨[(61, (sS A_a n_a c_a)), (58, (.agg [(sS A_tk n_tk c_tk), (sS A_nm n_nm c_nm), (sS A_rs n_rs c_rs)])), (57, (bB false)), (9, (bB true)), (6, (.p 2 0)), (5, (.p 1 0)), (4, (.p 0 0)), (3, (sS A_to n_to c_to))], [(2, (.cells 37 [(sS A_a n_a c_a), (sS A_b n_b c_b), (iI kd), (iI pk)])), (1, (.cells 35 [(sS A_tk2 n_tk2 c_tk2), (sS A_nm2 n_nm2 c_nm2), (sS A_rs2 n_rs2 c_rs2)])), (0, (.cells 35 [(sS A_tk n_tk c_tk), (sS A_nm n_nm c_nm), (sS A_rs n_rs c_rs)]))], 3, [], []⟩ (by kernel_rfl) ?_
                refine WL_op (WOp_call 29 [(.agg [(sS A_tk n_tk c_tk), (sS A_nm n_nm c_nm), (sS A_rs n_rs c_rs)]), (sS A_a n_a c_a)] (by kernel_rfl) (goes_of Try.func29 rfl rfl) (fun ρ w hW => within_ok hW.has (tk := tk) (nm := nm) (rs := rs) (xs := a) h_tk h_nm h_rs h_a) ?_)
                intro G6 v hle hΦ
                replace h_tk := h_tk.mono hle
                replace h_nm := h_nm.mono hle
                replace h_rs := h_rs.mono hle
                replace h_tk2 := h_tk2.mono hle
                replace h_nm2 := h_nm2.mono hle
                replace h_rs2 := h_rs2.mono hle
                replace h_a := h_a.mono hle
                replace h_b := h_b.mono hle
                replace h_to := h_to.mono hle
                obtain ⟨r11, rfl, hR12⟩ := hΦ
                refine WL_execS htb 3 [65, 9, 6, 5, 4, 3] [2, 1, 0] ⟨[(65, (bB (!r11))), (9, (bB true)), (6, (.p 2 0)), (5, (.p 1 0)), (4, (.p 0 0)), (3, (sS A_to n_to c_to))], [(2, (.cells 37 [(sS A_a n_a c_a), (sS A_b n_b c_b), (iI kd), (iI pk)])), (1, (.cells 35 [(sS A_tk2 n_tk2 c_tk2), (sS A_nm2 n_nm2 c_nm2), (sS A_rs2 n_rs2 c_rs2)])), (0, (.cells 35 [(sS A_tk n_tk c_tk), (sS A_nm n_nm c_nm), (sS A_rs n_rs c_rs)]))], 3, [], []⟩ (by kernel_rfl) ?_
                refine WK_split 65 (!r11) rfl (fun hg7 => ?_) (fun hg7 => ?_)
                · rw [Bool.not_eq_true'] at hg7
                  refine WK_keep [65, 9, 6, 5, 4, 3] [2, 1, 0] rfl rfl ?_
                  refine WL_execS htb 16 [81, 9, 6, 5, 4, 3] [2, 1, 0] ⟨[(81, (bB true)), (9, (bB true)), (6, (.p 2 0)), (5, (.p 1 0)), (4, (.p 0 0)), (3, (sS A_to n_to c_to))], [(2, (.cells 37 [(sS A_a n_a c_a), (sS A_b n_b c_b), (iI kd), (iI pk)])), (1, (.cells 35 [(sS A_tk2 n_tk2 c_tk2), (sS A_nm2 n_nm2 c_nm2), (sS A_rs2 n_rs2 c_rs2)])), (0, (.cells 35 [(sS A_tk n_tk c_tk), (sS A_nm n_nm c_nm), (sS A_rs n_rs c_rs)]))], 3, [], []⟩ (by kernel_rfl) ?_
                  refine WL_nil ?_
                  refine WQ_code ?_
                  refine WC_cond (b := true) rfl (fun _ => ?_) (fun h => by cases h)
                  refine WC_seq (WC_region ?_)
                  refine WL_execS htb 2 [8] [] ⟨[(8, (bB true))], [], 3, [], []⟩ (by kernel_rfl) ?_
                  refine WL_nil ?_
                  refine WQ_code ?_
                  refine WC_ret ?_
                  refine WQ_then_ret ?_
                  exact WQ_done htb [(bB true)] _ (.inl rfl) rfl (by kernel_rfl) (fun ρ w hW => ⟨true, rfl, rfl⟩)
                · rw [Bool.not_eq_false'] at hg7
                  refine WK_keep [65, 9, 6, 5, 4, 3] [2, 1, 0] rfl rfl ?_
                  refine WL_execS htb 4 [69, 66, 65, 9, 6, 5, 4, 3] [2, 1, 0] ⟨[(69, (sS A_b n_b c_b)), (66, (.agg [(sS A_tk2 n_tk2 c_tk2), (sS A_nm2 n_nm2 c_nm2), (sS A_rs2 n_rs2 c_rs2)])), (65, (bB false)), (9, (bB true)), (6, (.p 2 0)), (5, (.p 1 0)), (4, (.p 0 0)), (3, (sS A_to n_to c_to))], [(2, (.cells 37 [(sS A_a n_a c_a), (sS A_b n_b c_b), (iI kd), (iI pk)])), (1, (.cells 35 [(sS A_tk2 n_tk2 c_tk2), (sS A_nm2 n_nm2 c_nm2), (sS A_rs2 n_rs2 c_rs2)])), (0, (.cells 35 [(sS A_tk n_tk c_tk), (sS A_nm n_nm c_nm), (sS A_rs n_rs c_rs)]))], 3, [], []⟩ (by kernel_rfl) ?_
                  refine WL_op (WOp_call 29 [(.agg [(sS A_tk2 n_tk2 c_tk2), (sS A_nm2 n_nm2 c_nm2), (sS A_rs2 n_rs2 c_rs2)]), (sS A_b n_b c_b)] (by kernel_rfl) (goes_of Try.func29 rfl rfl) (fun ρ w hW => within_ok hW.has (tk := tk2) (nm := nm2) (rs := rs2) (xs := b) h_tk2 h_nm2 h_rs2 h_b) ?_)
                  intro G7 v hle hΦ
                  replace h_tk := h_tk.mono hle
                  replace h_nm := h_nm.mono hle
                  replace h_rs := h_rs.mono hle
                  replace h_tk2 := h_tk2.mono hle
                  replace h_nm2 := h_nm2.mono hle
                  replace h_rs2 := h_rs2.mono hle
                  replace h_a := h_a.mono hle
                  replace h_b := h_b.mono hle
                  replace h_to := h_to.mono hle
                  obtain ⟨r13, rfl, hR14⟩ := hΦ
                  refine WL_execS htb 3 [73, 9, 6, 5, 4, 3] [2, 1, 0] ⟨[(73, (bB (!r13))), (9, (bB true)), (6, (.p 2 0)), (5, (.p 1 0)), (4, (.p 0 0)), (3, (sS A_to n_to c_to))], [(2, (.cells 37 [(sS A_a n_a c_a), (sS A_b n_b c_b), (iI kd), (iI pk)])), (1, (.cells 35 [(sS A_tk2 n_tk2 c_tk2), (sS A_nm2 n_nm2 c_nm2), (sS A_rs2 n_rs2 c_rs2)])), (0, (.cells 35 [(sS A_tk n_tk c_tk), (sS A_nm n_nm c_nm), (sS A_rs n_rs c_rs)]))], 3, [], []⟩ (by kernel_rfl) ?_
                  refine WK_split 73 (!r13) rfl (fun hg8 => ?_) (fun hg8 => ?_)
                  · rw [Bool.not_eq_true'] at hg8
                    refine WK_keep [73, 9, 6, 5, 4, 3] [2, 1, 0] rfl rfl ?_
                    refine WL_execS htb 8 [81, 9, 6, 5, 4, 3] [2, 1, 0] ⟨[(81, (bB true)), (9, (bB true)), (6, (.p 2 0)), (5, (.p 1 0)), (4, (.p 0 0)), (3, (sS A_to n_to c_to))], [(2, (.cells 37 [(sS A_a n_a c_a), (sS A_b n_b c_b), (iI kd), (iI pk)])), (1, (.cells 35 [(sS A_tk2 n_tk2 c_tk2), (sS A_nm2 n_nm2 c_nm2), (sS A_rs2 n_rs2 c_rs2)])), (0, (.cells 35 [(sS A_tk n_tk c_tk), (sS A_nm n_nm c_nm), (sS A_rs n_rs c_rs)]))], 3, [], []⟩ (by kernel_rfl) ?_
                    refine WL_nil ?_
                    refine WQ_code ?_
                    refine WC_cond (b := true) rfl (fun _ => ?_) (fun h => by cases h)
                    refine WC_seq (WC_region ?_)
                    refine WL_execS htb 2 [8] [] ⟨[(8, (bB true))], [], 3, [], []⟩ (by kernel_rfl) ?_
                    refine WL_nil ?_
                    refine WQ_code ?_
                    refine WC_ret ?_
                    refine WQ_then_ret ?_
                    exact WQ_done htb [(bB true)] _ (.inl rfl) rfl (by kernel_rfl) (fun ρ w hW => ⟨true, rfl, rfl⟩)
                  · rw [Bool.not_eq_false'] at hg8
                    refine WK_keep [73, 9, 6, 5, 4, 3] [2, 1, 0] rfl rfl ?_
                    refine WL_execS htb 5 [78, 77, 74, 73, 9, 6, 5, 4, 3] [2, 1, 0] ⟨[(78, (sS A_to n_to c_to)), (77, (sS A_a n_a c_a)), (74, (.agg [(sS A_tk n_tk c_tk), (sS A_nm n_nm c_nm), (sS A_rs n_rs c_rs)])), (73, (bB false)), (9, (bB true)), (6, (.p 2 0)), (5, (.p 1 0)), (4, (.p 0 0)), (3, (sS A_to n_to c_to))], [(2, (.cells 37 [(sS A_a n_a c_a), (sS A_b n_b c_b), (iI kd), (iI pk)])), (1, (.cells 35 [(sS A_tk2 n_tk2 c_tk2), (sS A_nm2 n_nm2 c_nm2), (sS A_rs2 n_rs2 c_rs2)])), (0, (.cells 35 [(sS A_tk n_tk c_tk), (sS A_nm n_nm c_nm), (sS A_rs n_rs c_rs)]))], 3, [], []⟩ (by kernel_rfl) ?_
                    refine WL_op (WOp_call 30 [(.agg [(sS A_tk n_tk c_tk), (sS A_nm n_nm c_nm), (sS A_rs n_rs c_rs)]), (sS A_a n_a c_a), (sS A_to n_to c_to)] (by kernel_rfl) (goes_of Try.func30 rfl rfl) (fun ρ w hW => derives_ok hW.has (tk := tk) (nm := nm) (rs := rs) (sq := a) (to := to) h_tk h_nm h_rs h_a h_to (by omega) (by omega)) ?_)
                    intro G8 v hle hΦ
                    replace h_tk := h_tk.mono hle
                    replace h_nm := h_nm.mono hle
                    replace h_rs := h_rs.mono hle
                    replace h_tk2 := h_tk2.mono hle
                    replace h_nm2 := h_nm2.mono hle
                    replace h_rs2 := h_rs2.mono hle
                    replace h_a := h_a.mono hle
                    replace h_b := h_b.mono hle
                    replace h_to := h_to.mono hle
                    obtain ⟨r15, rfl, hR16⟩ := hΦ
                    refine WL_execS htb 2 [81, 9, 6, 5, 4, 3] [2, 1, 0] ⟨[(81, (bB (!r15))), (9, (bB true)), (6, (.p 2 0)), (5, (.p 1 0)), (4, (.p 0 0)), (3, (sS A_to n_to c_to))], [(2, (.cells 37 [(sS A_a n_a c_a), (sS A_b n_b c_b), (iI kd), (iI pk)])), (1, (.cells 35 [(sS A_tk2 n_tk2 c_tk2), (sS A_nm2 n_nm2 c_nm2), (sS A_rs2 n_rs2 c_rs2)])), (0, (.cells 35 [(sS A_tk n_tk c_tk), (sS A_nm n_nm c_nm), (sS A_rs n_rs c_rs)]))], 3, [], []⟩ (by kernel_rfl) ?_
                    refine WL_nil ?_
                    refine WQ_code ?_
                    refine WC_cond (b := (!r15)) rfl (fun hg9 => ?_) (fun hg9 => ?_)
                    · rw [Bool.not_eq_true'] at hg9
                      refine WC_seq (WC_region ?_)
                      refine WL_execS htb 2 [8] [] ⟨[(8, (bB true))], [], 3, [], []⟩ (by kernel_rfl) ?_
                      refine WL_nil ?_
                      refine WQ_code ?_
                      refine WC_ret ?_
                      refine WQ_then_ret ?_
                      exact WQ_done htb [(bB true)] _ (.inl rfl) rfl (by kernel_rfl) (fun ρ w hW => ⟨true, rfl, rfl⟩)
                    · rw [Bool.not_eq_false'] at hg9
                      have hd := hR16.1 (by simpa using hg9)
                      refine WC_skip ?_
                      refine WQ_code ?_
                      refine WC_seq (WC_region ?_)
                      refine WL_execS htb 3 [86, 85, 84, 9, 6, 5, 4, 3] [2, 1, 0] ⟨[(86, (.agg [(sS A_a n_a c_a), (sS A_b n_b c_b), (iI kd), (iI pk)])), (85, (.agg [(sS A_tk2 n_tk2 c_tk2), (sS A_nm2 n_nm2 c_nm2), (sS A_rs2 n_rs2 c_rs2)])), (84, (.agg [(sS A_tk n_tk c_tk), (sS A_nm n_nm c_nm), (sS A_rs n_rs c_rs)])), (9, (bB true)), (6, (.p 2 0)), (5, (.p 1 0)), (4, (.p 0 0)), (3, (sS A_to n_to c_to))], [(2, (.cells 37 [(sS A_a n_a c_a), (sS A_b n_b c_b), (iI kd), (iI pk)])), (1, (.cells 35 [(sS A_tk2 n_tk2 c_tk2), (sS A_nm2 n_nm2 c_nm2), (sS A_rs2 n_rs2 c_rs2)])), (0, (.cells 35 [(sS A_tk n_tk c_tk), (sS A_nm n_nm c_nm), (sS A_rs n_rs c_rs)]))], 3, [], []⟩ (by kernel_rfl) ?_
                      refine WL_op (WOp_call 24 [(.agg [(sS A_tk n_tk c_tk), (sS A_nm n_nm c_nm), (sS A_rs n_rs c_rs)]), (.agg [(sS A_tk2 n_tk2 c_tk2), (sS A_nm2 n_nm2 c_nm2), (sS A_rs2 n_rs2 c_rs2)]), (.agg [(sS A_a n_a c_a), (sS A_b n_b c_b), (iI kd), (iI pk)])] (by kernel_rfl) (goes_of Try.func24 rfl rfl) (fun ρ w hW => next_ok hW.has (tk := tk) (nm := nm) (rs := rs) (tk2 := tk2) (nm2 := nm2) (rs2 := rs2) (a := a) (b := b) (kd := kd) (pk := pk) h_tk h_nm h_rs h_tk2 h_nm2 h_rs2 h_a h_b h_kd h_pk (smallC_R hsc1) (smallC_R hsc2) (by omega) (by omega)) ?_)
                      intro G9 v hle hΦ
                      replace h_tk := h_tk.mono hle
                      replace h_nm := h_nm.mono hle
                      replace h_rs := h_rs.mono hle
                      replace h_tk2 := h_tk2.mono hle
                      replace h_nm2 := h_nm2.mono hle
                      replace h_rs2 := h_rs2.mono hle
                      replace h_a := h_a.mono hle
                      replace h_b := h_b.mono hle
                      replace h_to := h_to.mono hle
                      obtain ⟨r17, A_r17, n_r17, c_r17, r18, rfl, h_r17, hR19⟩ := hΦ
                      have lh_r17 := h_r17.len'
                      refine WL_execS htb 5 [11, 10, 9, 6, 5, 4, 3] [2, 1, 0] ⟨[(11, (bB r18)), (10, (sS A_r17 n_r17 c_r17)), (9, (bB true)), (6, (.p 2 0)), (5, (.p 1 0)), (4, (.p 0 0)), (3, (sS A_to n_to c_to))], [(2, (.cells 37 [(sS A_a n_a c_a), (sS A_b n_b c_b), (iI kd), (iI pk)])), (1, (.cells 35 [(sS A_tk2 n_tk2 c_tk2), (sS A_nm2 n_nm2 c_nm2), (sS A_rs2 n_rs2 c_rs2)])), (0, (.cells 35 [(sS A_tk n_tk c_tk), (sS A_nm n_nm c_nm), (sS A_rs n_rs c_rs)]))], 3, [], []⟩ (by kernel_rfl) ?_
                      refine WL_nil ?_
                      refine WQ_code ?_
                      refine WC_seq ?_
                      refine WC_seq (WC_region ?_)
                      refine WL_execS htb 2 [91, 10, 9, 6, 5, 4, 3] [2, 1, 0] ⟨[(91, (bB (!r18))), (10, (sS A_r17 n_r17 c_r17)), (9, (bB true)), (6, (.p 2 0)), (5, (.p 1 0)), (4, (.p 0 0)), (3, (sS A_to n_to c_to))], [(2, (.cells 37 [(sS A_a n_a c_a), (sS A_b n_b c_b), (iI kd), (iI pk)])), (1, (.cells 35 [(sS A_tk2 n_tk2 c_tk2), (sS A_nm2 n_nm2 c_nm2), (sS A_rs2 n_rs2 c_rs2)])), (0, (.cells 35 [(sS A_tk n_tk c_tk), (sS A_nm n_nm c_nm), (sS A_rs n_rs c_rs)]))], 3, [], []⟩ (by kernel_rfl) ?_
                      refine WL_nil ?_
                      refine WQ_code ?_
                      refine WC_cond (b := (!r18)) rfl (fun hn => ?_) (fun hn => ?_)
                      · rw [Bool.not_eq_true'] at hn
                        refine WC_seq (WC_region ?_)
                        refine WL_execS htb 7 [8] [] ⟨[(8, (bB ((((n_r17 : Nat) : Int) : Int) == 0)))], [], 3, [], []⟩ (by kernel_rfl) ?_
                        refine WL_nil ?_
                        refine WQ_code ?_
                        refine WC_ret ?_
                        refine WQ_then_ret ?_
                        rw [show r18 = false by simpa using hn] at hR19
                        exact WQ_done htb [(bB ((((n_r17 : Nat) : Int) : Int) == 0))] _ (.inl rfl) rfl (by kernel_rfl) (fun ρ w hW => ⟨((((n_r17 : Nat) : Int) : Int) == 0), rfl, (by have h5 := congrArg List.length (nextS_none hR19); simp only [List.length_nil] at h5; simp; omega)⟩)
                      · rw [Bool.not_eq_false'] at hn
                        rw [show r18 = true by simpa using hn] at hR19
                        refine WC_skip ?_
                        refine WQ_code ?_
                        refine WC_seq (WC_region ?_)
                        refine WL_execS htb 5 [102, 101, 98, 10, 9, 6, 5, 4, 3] [2, 1, 0] ⟨[(102, (sS A_to n_to c_to)), (101, (sS A_b n_b c_b)), (98, (.agg [(sS A_tk2 n_tk2 c_tk2), (sS A_nm2 n_nm2 c_nm2), (sS A_rs2 n_rs2 c_rs2)])), (10, (sS A_r17 n_r17 c_r17)), (9, (bB true)), (6, (.p 2 0)), (5, (.p 1 0)), (4, (.p 0 0)), (3, (sS A_to n_to c_to))], [(2, (.cells 37 [(sS A_a n_a c_a), (sS A_b n_b c_b), (iI kd), (iI pk)])), (1, (.cells 35 [(sS A_tk2 n_tk2 c_tk2), (sS A_nm2 n_nm2 c_nm2), (sS A_rs2 n_rs2 c_rs2)])), (0, (.cells 35 [(sS A_tk n_tk c_tk), (sS A_nm n_nm c_nm), (sS A_rs n_rs c_rs)]))], 3, [], []⟩ (by kernel_rfl) ?_
                        refine WL_op (WOp_call 30 [(.agg [(sS A_tk2 n_tk2 c_tk2), (sS A_nm2 n_nm2 c_nm2), (sS A_rs2 n_rs2 c_rs2)]), (sS A_b n_b c_b), (sS A_to n_to c_to)] (by kernel_rfl) (goes_of Try.func30 rfl rfl) (fun ρ w hW => derives_ok hW.has (tk := tk2) (nm := nm2) (rs := rs2) (sq := b) (to := to) h_tk2 h_nm2 h_rs2 h_b h_to (by omega) (by omega)) ?_)
                        intro G10 v hle hΦ
                        replace h_tk := h_tk.mono hle
                        replace h_nm := h_nm.mono hle
                        replace h_rs := h_rs.mono hle
                        replace h_tk2 := h_tk2.mono hle
                        replace h_nm2 := h_nm2.mono hle
                        replace h_rs2 := h_rs2.mono hle
                        replace h_a := h_a.mono hle
                        replace h_b := h_b.mono hle
                        replace h_to := h_to.mono hle
                        replace h_r17 := h_r17.mono hle
                        obtain ⟨r20, rfl, hR21⟩ := hΦ
                        refine WL_execS htb 1 [12, 10, 9, 6, 5, 4, 3] [2, 1, 0] ⟨[(12, (bB r20)), (10, (sS A_r17 n_r17 c_r17)), (9, (bB true)), (6, (.p 2 0)), (5, (.p 1 0)), (4, (.p 0 0)), (3, (sS A_to n_to c_to))], [(2, (.cells 37 [(sS A_a n_a c_a), (sS A_b n_b c_b), (iI kd), (iI pk)])), (1, (.cells 35 [(sS A_tk2 n_tk2 c_tk2), (sS A_nm2 n_nm2 c_nm2), (sS A_rs2 n_rs2 c_rs2)])), (0, (.cells 35 [(sS A_tk n_tk c_tk), (sS A_nm n_nm c_nm), (sS A_rs n_rs c_rs)]))], 3, [], []⟩ (by kernel_rfl) ?_
                        refine WL_nil ?_
                        refine WQ_code ?_
                        refine WC_seq ?_
                        refine WC_seq (WC_region ?_)
                        refine WL_execS htb 2 [105, 12, 10, 9, 5, 4, 3] [1, 0] ⟨[(105, (iI kd)), (12, (bB r20)), (10, (sS A_r17 n_r17 c_r17)), (9, (bB true)), (5, (.p 1 0)), (4, (.p 0 0)), (3, (sS A_to n_to c_to))], [(1, (.cells 35 [(sS A_tk2 n_tk2 c_tk2), (sS A_nm2 n_nm2 c_nm2), (sS A_rs2 n_rs2 c_rs2)])), (0, (.cells 35 [(sS A_tk n_tk c_tk), (sS A_nm n_nm c_nm), (sS A_rs n_rs c_rs)]))], 3, [], []⟩ (by kernel_rfl) ?_
                        refine WL_nil ?_
                        refine WQ_code ?_
                        refine WC_block ?_
                        refine WC_seq (WC_region ?_)
                        refine WL_execS htb 2 [106, 105, 12, 10, 9, 5, 4, 3] [1, 0] ⟨[(106, (bB ((kd : Int) == 1))), (105, (iI kd)), (12, (bB r20)), (10, (sS A_r17 n_r17 c_r17)), (9, (bB true)), (5, (.p 1 0)), (4, (.p 0 0)), (3, (sS A_to n_to c_to))], [(1, (.cells 35 [(sS A_tk2 n_tk2 c_tk2), (sS A_nm2 n_nm2 c_nm2), (sS A_rs2 n_rs2 c_rs2)])), (0, (.cells 35 [(sS A_tk n_tk c_tk), (sS A_nm n_nm c_nm), (sS A_rs n_rs c_rs)]))], 3, [], []⟩ (by kernel_rfl) ?_
                        refine WL_nil ?_
                        refine WQ_code ?_
                        refine WC_cond (b := ((kd : Int) == 1)) rfl (fun hk1 => ?_) (fun hk1 => ?_)
                        · replace hk1 := eq_of_beq hk1
                          obtain ⟨ha, hb, _⟩ := next_1 hR19 hk1
                          refine WC_seq (WC_region ?_)
                          refine WL_execS htb 5 [8] [] ⟨[(8, (bB r20))], [], 3, [], []⟩ (by kernel_rfl) ?_
                          refine WL_nil ?_
                          refine WQ_code ?_
                          refine WC_ret ?_
                          refine WQ_blk_ret ?_
                          refine WQ_then_ret ?_
                          exact WQ_done htb [(bB r20)] _ (.inl rfl) rfl (by kernel_rfl) (fun ρ w hW => ⟨r20, rfl, (hR21.2 (by rw [hb]; rw [ha] at hd; rw [derL_nil hd]; exact .nil))⟩)
                        · replace hk1 := ne_of_beq_false hk1
                          refine WC_seq (WC_region ?_)
                          refine WL_execS htb 2 [112, 105, 12, 10, 9, 5, 4, 3] [1, 0] ⟨[(112, (bB ((kd : Int) == 2))), (105, (iI kd)), (12, (bB r20)), (10, (sS A_r17 n_r17 c_r17)), (9, (bB true)), (5, (.p 1 0)), (4, (.p 0 0)), (3, (sS A_to n_to c_to))], [(1, (.cells 35 [(sS A_tk2 n_tk2 c_tk2), (sS A_nm2 n_nm2 c_nm2), (sS A_rs2 n_rs2 c_rs2)])), (0, (.cells 35 [(sS A_tk n_tk c_tk), (sS A_nm n_nm c_nm), (sS A_rs n_rs c_rs)]))], 3, [], []⟩ (by kernel_rfl) ?_
                          refine WL_nil ?_
                          refine WQ_code ?_
                          refine WC_cond (b := ((kd : Int) == 2)) rfl (fun hk2 => ?_) (fun hk2 => ?_)
                          · replace hk2 := eq_of_beq hk2
                            obtain ⟨k, a1, b1, ha, hb, hk, hl⟩ := next_2 hR19 hk2
                            have hll : r17.length = 1 := by rw [hl]; rfl
                            rw [ha] at hd
                            obtain ⟨to1, hto, hd1⟩ := derL_tok hk hd
                            have htl : 0 < to.length := by rw [hto]; simp
                            have htd : to.drop 1 = to1 := by rw [hto]; rfl
                            refine WK_keep [12, 10, 9, 5, 4, 3] [1, 0] rfl rfl ?_
                            refine WK_freeze 1 rfl rfl rfl rfl ?_
                            intro bk23 G22 hle hbk23
                            replace h_tk := h_tk.mono hle
                            replace h_nm := h_nm.mono hle
                            replace h_rs := h_rs.mono hle
                            replace h_tk2 := h_tk2.mono hle
                            replace h_nm2 := h_nm2.mono hle
                            replace h_rs2 := h_rs2.mono hle
                            replace h_to := h_to.mono hle
                            replace h_r17 := h_r17.mono hle
                            have hz := FZ.cons (h := 1) hbk23 rfl (FZ.nil _)
                            refine WK_freeze 0 rfl rfl rfl rfl ?_
                            intro bk25 G24 hle hbk25
                            replace h_tk := h_tk.mono hle
                            replace h_nm := h_nm.mono hle
                            replace h_rs := h_rs.mono hle
                            replace h_tk2 := h_tk2.mono hle
                            replace h_nm2 := h_nm2.mono hle
                            replace h_rs2 := h_rs2.mono hle
                            replace h_to := h_to.mono hle
                            replace h_r17 := h_r17.mono hle
                            replace hz := hz.mono hle
                            have hz := FZ.cons (h := 0) hbk25 rfl hz
                            refine WC_seq (WC_draw mixed ?_)
                            refine WD_takeL htb rfl (fun _ _ _ _ _ h => h) (Le.refl _) [0, 1, 2, 3, 4, 5, 6] (fuel := 27) (listed' := bts 34 127) (S' := ⟨[(120, (bB ((((n_r17 : Nat) : Int) : Int) == 1))), (119, (bB ((((n_r17 : Nat) : Int) : Int) == 1))), (118, (bB ((((n_r17 : Nat) : Int) : Int) == 1))), (117, (iN n_r17)), (116, (sS A_r17 n_r17 c_r17)), (115, (bB true)), (114, (bB true)), (12, (bB r20)), (10, (sS A_r17 n_r17 c_r17)), (9, (bB true)), (5, (.p 1 0)), (4, (.p 0 0)), (3, (sS A_to n_to c_to))], [], 3, [], [(0, bk25, (.cells 35 [(sS A_tk n_tk c_tk), (sS A_nm n_nm c_nm), (sS A_rs n_rs c_rs)])), (1, bk23, (.cells 35 [(sS A_tk2 n_tk2 c_tk2), (sS A_nm2 n_nm2 c_nm2), (sS A_rs2 n_rs2 c_rs2)]))]⟩) hz (by kernel_rfl) rfl ?_
                            refine WK_env [(120, (bB true)), (119, (bB ((((n_r17 : Nat) : Int) : Int) == 1))), (118, (bB ((((n_r17 : Nat) : Int) : Int) == 1))), (117, (iN n_r17)), (116, (sS A_r17 n_r17 c_r17)), (115, (bB true)), (114, (bB true)), (12, (bB r20)), (10, (sS A_r17 n_r17 c_r17)), (9, (bB true)), (5, (.p 1 0)), (4, (.p 0 0)), (3, (sS A_to n_to c_to))] (fun ρ => ⟨rfl, (congrArg Value.bool (by simp; omega)), ⟨rfl, rfl, ⟨rfl, rfl, ⟨rfl, rfl, ⟨rfl, rfl, ⟨rfl, rfl, ⟨rfl, rfl, ⟨rfl, rfl, ⟨rfl, rfl, ⟨rfl, rfl, ⟨rfl, rfl, ⟨rfl, rfl, ⟨rfl, rfl, trivial⟩⟩⟩⟩⟩⟩⟩⟩⟩⟩⟩⟩⟩) ?_
                            refine WD_takeL htb rfl (fun _ _ _ _ _ h => h) (Le.refl _) [7, 8, 9, 10, 11] (fuel := 22) (listed' := bts 34 4095) (S' := ⟨[(125, (bB (decide ((((n_to : Nat) : Int) : Int) > 0)))), (124, (bB (decide ((((n_to : Nat) : Int) : Int) > 0)))), (123, (bB (decide ((((n_to : Nat) : Int) : Int) > 0)))), (122, (iN n_to)), (121, (sS A_to n_to c_to)), (120, (bB true)), (119, (bB ((((n_r17 : Nat) : Int) : Int) == 1))), (118, (bB ((((n_r17 : Nat) : Int) : Int) == 1))), (117, (iN n_r17)), (116, (sS A_r17 n_r17 c_r17)), (115, (bB true)), (114, (bB true)), (12, (bB r20)), (10, (sS A_r17 n_r17 c_r17)), (9, (bB true)), (5, (.p 1 0)), (4, (.p 0 0)), (3, (sS A_to n_to c_to))], [], 3, [], [(0, bk25, (.cells 35 [(sS A_tk n_tk c_tk), (sS A_nm n_nm c_nm), (sS A_rs n_rs c_rs)])), (1, bk23, (.cells 35 [(sS A_tk2 n_tk2 c_tk2), (sS A_nm2 n_nm2 c_nm2), (sS A_rs2 n_rs2 c_rs2)]))]⟩) hz (by kernel_rfl) rfl ?_
                            refine WK_env [(125, (bB true)), (124, (bB (decide ((((n_to : Nat) : Int) : Int) > 0)))), (123, (bB (decide ((((n_to : Nat) : Int) : Int) > 0)))), (122, (iN n_to)), (121, (sS A_to n_to c_to)), (120, (bB true)), (119, (bB ((((n_r17 : Nat) : Int) : Int) == 1))), (118, (bB ((((n_r17 : Nat) : Int) : Int) == 1))), (117, (iN n_r17)), (116, (sS A_r17 n_r17 c_r17)), (115, (bB true)), (114, (bB true)), (12, (bB r20)), (10, (sS A_r17 n_r17 c_r17)), (9, (bB true)), (5, (.p 1 0)), (4, (.p 0 0)), (3, (sS A_to n_to c_to))] (fun ρ => ⟨rfl, (congrArg Value.bool (by simp; omega)), ⟨rfl, rfl, ⟨rfl, rfl, ⟨rfl, rfl, ⟨rfl, rfl, ⟨rfl, rfl, ⟨rfl, rfl, ⟨rfl, rfl, ⟨rfl, rfl, ⟨rfl, rfl, ⟨rfl, rfl, ⟨rfl, rfl, ⟨rfl, rfl, ⟨rfl, rfl, ⟨rfl, rfl, ⟨rfl, rfl, ⟨rfl, rfl, ⟨rfl, rfl, trivial⟩⟩⟩⟩⟩⟩⟩⟩⟩⟩⟩⟩⟩⟩⟩⟩⟩⟩) ?_
                            refine WD_takeL htb rfl (fun _ _ _ _ _ h => h) (Le.refl _) [12, 13, 17] (fuel := 19) (listed' := bts 34 147455) (S' := ⟨[(131, (sS A_to n_to c_to)), (127, (sS A_r17 n_r17 c_r17)), (126, (.agg [(sS A_tk n_tk c_tk), (sS A_nm n_nm c_nm), (sS A_rs n_rs c_rs)])), (125, (bB true)), (124, (bB (decide ((((n_to : Nat) : Int) : Int) > 0)))), (123, (bB (decide ((((n_to : Nat) : Int) : Int) > 0)))), (122, (iN n_to)), (121, (sS A_to n_to c_to)), (120, (bB true)), (119, (bB ((((n_r17 : Nat) : Int) : Int) == 1))), (118, (bB ((((n_r17 : Nat) : Int) : Int) == 1))), (117, (iN n_r17)), (116, (sS A_r17 n_r17 c_r17)), (115, (bB true)), (114, (bB true)), (12, (bB r20)), (10, (sS A_r17 n_r17 c_r17)), (9, (bB true)), (5, (.p 1 0)), (4, (.p 0 0)), (3, (sS A_to n_to c_to))], [], 3, [], [(0, bk25, (.cells 35 [(sS A_tk n_tk c_tk), (sS A_nm n_nm c_nm), (sS A_rs n_rs c_rs)])), (1, bk23, (.cells 35 [(sS A_tk2 n_tk2 c_tk2), (sS A_nm2 n_nm2 c_nm2), (sS A_rs2 n_rs2 c_rs2)]))]⟩) hz (by kernel_rfl) rfl ?_
                            obtain ⟨q26, rfl⟩ := h_r17.ptr (by omega)
                            obtain ⟨⟨x29, x35⟩, _, hx27, ⟨_, _, rfl, hr30, hr36⟩, at28⟩ := h_r17.get 0 (by omega)
                            obtain ⟨A32, n33, c34, rfl, hs31⟩ := Sl.of hr30
                            replace hs31 : Sl (tInt .i64) _ A32 n33 c34 x29 := hs31
                            have lhs31 := hs31.len'
                            obtain ⟨A38, n39, c40, rfl, hs37⟩ := Sl.of hr36
                            replace hs37 : Sl (tInt .i64) _ A38 n39 c40 x35 := hs37
                            have lhs37 := hs37.len'
                            replace at28 : At G24 (q26.add (0 * 2)) [.slice A32 n33 c34, .slice A38 n39 c40] := at28
                            refine WD_idx htb 14 (by rfl) rfl (by decide +kernel) (fun _ _ _ _ _ h => h) (Le.refl _) q26 n_r17 0 2 (by kernel_rfl) (by omega) (by omega) ?_
                            refine WD_takeL htb rfl (fun _ _ _ _ _ h => h) (Le.refl _) [15] (fuel := 17) (listed' := bts 34 196607) (S' := ⟨[(129, (.v (.pointer (some ((q26.add (0 * 2)).add 0))))), (128, (.v (.pointer (some (q26.add (0 * 2)))))), (131, (sS A_to n_to c_to)), (127, (sS (some q26) n_r17 c_r17)), (126, (.agg [(sS A_tk n_tk c_tk), (sS A_nm n_nm c_nm), (sS A_rs n_rs c_rs)])), (125, (bB true)), (124, (bB (decide ((((n_to : Nat) : Int) : Int) > 0)))), (123, (bB (decide ((((n_to : Nat) : Int) : Int) > 0)))), (122, (iN n_to)), (121, (sS A_to n_to c_to)), (120, (bB true)), (119, (bB ((((n_r17 : Nat) : Int) : Int) == 1))), (118, (bB ((((n_r17 : Nat) : Int) : Int) == 1))), (117, (iN n_r17)), (116, (sS (some q26) n_r17 c_r17)), (115, (bB true)), (114, (bB true)), (12, (bB r20)), (10, (sS (some q26) n_r17 c_r17)), (9, (bB true)), (5, (.p 1 0)), (4, (.p 0 0)), (3, (sS A_to n_to c_to))], [], 3, [], [(0, bk25, (.cells 35 [(sS A_tk n_tk c_tk), (sS A_nm n_nm c_nm), (sS A_rs n_rs c_rs)])), (1, bk23, (.cells 35 [(sS A_tk2 n_tk2 c_tk2), (sS A_nm2 n_nm2 c_nm2), (sS A_rs2 n_rs2 c_rs2)]))]⟩) hz (by kernel_rfl) rfl ?_
                            refine WD_ld htb 16 (by rfl) rfl (by decide +kernel) (fun _ _ _ _ _ h => h) (Le.refl _) ((q26.add (0 * 2)).add 0) false 1 [.slice A32 n33 c34] (by kernel_rfl) (at28.field 0 rfl) rfl (by decide) ?_
                            obtain ⟨A41, hA42⟩ : ∃ A, sliceAddr A_to c_to 1 1 = A := ⟨_, rfl⟩
                            have hs43 := h_to.from 1 (by omega) hA42
                            refine WD_sl htb 18 (by rfl) rfl (by decide +kernel) (fun _ _ _ _ _ h => h) (Le.refl _) A_to n_to c_to 1 n_to 1 (by kernel_rfl) (by omega) (by omega) hA42 ?_
                            have lhs43 := hs43.len'
                            refine WD_one 19 (by rfl) (by decide +kernel) (WOp_call 30 [(.agg [(sS A_tk n_tk c_tk), (sS A_nm n_nm c_nm), (sS A_rs n_rs c_rs)]), (sS A32 n33 c34), (sS A41 (n_to - 1) (c_to - 1))] (by kernel_rfl) (goes_of Try.func30 rfl rfl) (fun ρ w hW => derives_ok hW.has (tk := tk) (nm := nm) (rs := rs) (sq := x29) (to := (to.drop 1)) h_tk h_nm h_rs hs31 hs43 (by omega) (by omega)) ?_)
                            intro G11 v hle hΦ
                            replace h_tk := h_tk.mono hle
                            replace h_nm := h_nm.mono hle
                            replace h_rs := h_rs.mono hle
                            replace h_tk2 := h_tk2.mono hle
                            replace h_nm2 := h_nm2.mono hle
                            replace h_rs2 := h_rs2.mono hle
                            replace h_to := h_to.mono hle
                            replace h_r17 := h_r17.mono hle
                            replace hs31 := hs31.mono hle
                            replace hs37 := hs37.mono hle
                            replace at28 := at28.mono hle
                            replace hs43 := hs43.mono hle
                            replace hz := hz.mono hle
                            obtain ⟨r44, rfl, hR45⟩ := hΦ
                            refine WD_on hle ?_
                            refine WD_up hle ?_
                            refine WD_takeL htb rfl (fun _ _ _ _ _ h => h) (Le.refl _) [20, 21] (fuel := 12) (listed' := bts 34 4194303) (S' := ⟨[(135, (bB r44)), (134, (bB r44)), (133, (bB r44)), (132, (sS A41 (n_to - 1) (c_to - 1))), (130, (sS A32 n33 c34)), (129, (.v (.pointer (some ((q26.add (0 * 2)).add 0))))), (128, (.v (.pointer (some (q26.add (0 * 2)))))), (131, (sS A_to n_to c_to)), (127, (sS (some q26) n_r17 c_r17)), (126, (.agg [(sS A_tk n_tk c_tk), (sS A_nm n_nm c_nm), (sS A_rs n_rs c_rs)])), (125, (bB true)), (124, (bB (decide ((((n_to : Nat) : Int) : Int) > 0)))), (123, (bB (decide ((((n_to : Nat) : Int) : Int) > 0)))), (122, (iN n_to)), (121, (sS A_to n_to c_to)), (120, (bB true)), (119, (bB ((((n_r17 : Nat) : Int) : Int) == 1))), (118, (bB ((((n_r17 : Nat) : Int) : Int) == 1))), (117, (iN n_r17)), (116, (sS (some q26) n_r17 c_r17)), (115, (bB true)), (114, (bB true)), (12, (bB r20)), (10, (sS (some q26) n_r17 c_r17)), (9, (bB true)), (5, (.p 1 0)), (4, (.p 0 0)), (3, (sS A_to n_to c_to))], [], 3, [], [(0, bk25, (.cells 35 [(sS A_tk n_tk c_tk), (sS A_nm n_nm c_nm), (sS A_rs n_rs c_rs)])), (1, bk23, (.cells 35 [(sS A_tk2 n_tk2 c_tk2), (sS A_nm2 n_nm2 c_nm2), (sS A_rs2 n_rs2 c_rs2)]))]⟩) hz (by kernel_rfl) rfl ?_
                            have hpe : (x29, x35) = (a1, b1) := by (have h5 := hx27; rw [hl] at h5; simpa using h5.symm)
                            simp only [Prod.mk.injEq] at hpe
                            refine WK_env [(135, (bB true)), (134, (bB r44)), (133, (bB r44)), (132, (sS A41 (n_to - 1) (c_to - 1))), (130, (sS A32 n33 c34)), (129, (.v (.pointer (some ((q26.add (0 * 2)).add 0))))), (128, (.v (.pointer (some (q26.add (0 * 2)))))), (131, (sS A_to n_to c_to)), (127, (sS (some q26) n_r17 c_r17)), (126, (.agg [(sS A_tk n_tk c_tk), (sS A_nm n_nm c_nm), (sS A_rs n_rs c_rs)])), (125, (bB true)), (124, (bB (decide ((((n_to : Nat) : Int) : Int) > 0)))), (123, (bB (decide ((((n_to : Nat) : Int) : Int) > 0)))), (122, (iN n_to)), (121, (sS A_to n_to c_to)), (120, (bB true)), (119, (bB ((((n_r17 : Nat) : Int) : Int) == 1))), (118, (bB ((((n_r17 : Nat) : Int) : Int) == 1))), (117, (iN n_r17)), (116, (sS (some q26) n_r17 c_r17)), (115, (bB true)), (114, (bB true)), (12, (bB r20)), (10, (sS (some q26) n_r17 c_r17)), (9, (bB true)), (5, (.p 1 0)), (4, (.p 0 0)), (3, (sS A_to n_to c_to))] (fun ρ => ⟨rfl, (congrArg Value.bool (hR45.2 (by rw [hpe.1, htd]; exact hd1))), ⟨rfl, rfl, ⟨rfl, rfl, ⟨rfl, rfl, ⟨rfl, rfl, ⟨rfl, rfl, ⟨rfl, rfl, ⟨rfl, rfl, ⟨rfl, rfl, ⟨rfl, rfl, ⟨rfl, rfl, ⟨rfl, rfl, ⟨rfl, rfl, ⟨rfl, rfl, ⟨rfl, rfl, ⟨rfl, rfl, ⟨rfl, rfl, ⟨rfl, rfl, ⟨rfl, rfl, ⟨rfl, rfl, ⟨rfl, rfl, ⟨rfl, rfl, ⟨rfl, rfl, ⟨rfl, rfl, ⟨rfl, rfl, ⟨rfl, rfl, ⟨rfl, rfl, ⟨rfl, rfl, trivial⟩⟩⟩⟩⟩⟩⟩⟩⟩⟩⟩⟩⟩⟩⟩⟩⟩⟩⟩⟩⟩⟩⟩⟩⟩⟩⟩⟩) ?_
                            refine WD_takeL htb rfl (fun _ _ _ _ _ h => h) (Le.refl _) [22, 23, 24, 28] (fuel := 8) (listed' := bts 34 301989887) (S' := ⟨[(142, (sS A_to n_to c_to)), (138, (sS (some q26) n_r17 c_r17)), (137, (.agg [(sS A_tk2 n_tk2 c_tk2), (sS A_nm2 n_nm2 c_nm2), (sS A_rs2 n_rs2 c_rs2)])), (136, (bB r20)), (135, (bB true)), (134, (bB r44)), (133, (bB r44)), (132, (sS A41 (n_to - 1) (c_to - 1))), (130, (sS A32 n33 c34)), (129, (.v (.pointer (some ((q26.add (0 * 2)).add 0))))), (128, (.v (.pointer (some (q26.add (0 * 2)))))), (131, (sS A_to n_to c_to)), (127, (sS (some q26) n_r17 c_r17)), (126, (.agg [(sS A_tk n_tk c_tk), (sS A_nm n_nm c_nm), (sS A_rs n_rs c_rs)])), (125, (bB true)), (124, (bB (decide ((((n_to : Nat) : Int) : Int) > 0)))), (123, (bB (decide ((((n_to : Nat) : Int) : Int) > 0)))), (122, (iN n_to)), (121, (sS A_to n_to c_to)), (120, (bB true)), (119, (bB ((((n_r17 : Nat) : Int) : Int) == 1))), (118, (bB ((((n_r17 : Nat) : Int) : Int) == 1))), (117, (iN n_r17)), (116, (sS (some q26) n_r17 c_r17)), (115, (bB true)), (114, (bB true)), (12, (bB r20)), (10, (sS (some q26) n_r17 c_r17)), (9, (bB true)), (5, (.p 1 0)), (4, (.p 0 0)), (3, (sS A_to n_to c_to))], [], 3, [], [(0, bk25, (.cells 35 [(sS A_tk n_tk c_tk), (sS A_nm n_nm c_nm), (sS A_rs n_rs c_rs)])), (1, bk23, (.cells 35 [(sS A_tk2 n_tk2 c_tk2), (sS A_nm2 n_nm2 c_nm2), (sS A_rs2 n_rs2 c_rs2)]))]⟩) hz (by kernel_rfl) rfl ?_
                            obtain ⟨_, ⟨_, _, rfl, hr48, hr53⟩, at47⟩ := h_r17.getk hx27
                            obtain ⟨A50, n51, c52, rfl, hs49⟩ := Sl.of hr48
                            replace hs49 : Sl (tInt .i64) _ A50 n51 c52 x29 := hs49
                            have lhs49 := hs49.len'
                            obtain ⟨A55, n56, c57, rfl, hs54⟩ := Sl.of hr53
                            replace hs54 : Sl (tInt .i64) _ A55 n56 c57 x35 := hs54
                            have lhs54 := hs54.len'
                            replace at47 : At G11 (q26.add (0 * 2)) [.slice A50 n51 c52, .slice A55 n56 c57] := at47
                            refine WD_idx htb 25 (by rfl) rfl (by decide +kernel) (fun _ _ _ _ _ h => h) (Le.refl _) q26 n_r17 0 2 (by kernel_rfl) (by omega) (by omega) ?_
                            refine WD_takeL htb rfl (fun _ _ _ _ _ h => h) (Le.refl _) [26] (fuel := 6) (listed' := bts 34 402653183) (S' := ⟨[(140, (.v (.pointer (some ((q26.add (0 * 2)).add 1))))), (139, (.v (.pointer (some (q26.add (0 * 2)))))), (142, (sS A_to n_to c_to)), (138, (sS (some q26) n_r17 c_r17)), (137, (.agg [(sS A_tk2 n_tk2 c_tk2), (sS A_nm2 n_nm2 c_nm2), (sS A_rs2 n_rs2 c_rs2)])), (136, (bB r20)), (135, (bB true)), (134, (bB r44)), (133, (bB r44)), (132, (sS A41 (n_to - 1) (c_to - 1))), (130, (sS A32 n33 c34)), (129, (.v (.pointer (some ((q26.add (0 * 2)).add 0))))), (128, (.v (.pointer (some (q26.add (0 * 2)))))), (131, (sS A_to n_to c_to)), (127, (sS (some q26) n_r17 c_r17)), (126, (.agg [(sS A_tk n_tk c_tk), (sS A_nm n_nm c_nm), (sS A_rs n_rs c_rs)])), (125, (bB true)), (124, (bB (decide ((((n_to : Nat) : Int) : Int) > 0)))), (123, (bB (decide ((((n_to : Nat) : Int) : Int) > 0)))), (122, (iN n_to)), (121, (sS A_to n_to c_to)), (120, (bB true)), (119, (bB ((((n_r17 : Nat) : Int) : Int) == 1))), (118, (bB ((((n_r17 : Nat) : Int) : Int) == 1))), (117, (iN n_r17)), (116, (sS (some q26) n_r17 c_r17)), (115, (bB true)), (114, (bB true)), (12, (bB r20)), (10, (sS (some q26) n_r17 c_r17)), (9, (bB true)), (5, (.p 1 0)), (4, (.p 0 0)), (3, (sS A_to n_to c_to))], [], 3, [], [(0, bk25, (.cells 35 [(sS A_tk n_tk c_tk), (sS A_nm n_nm c_nm), (sS A_rs n_rs c_rs)])), (1, bk23, (.cells 35 [(sS A_tk2 n_tk2 c_tk2), (sS A_nm2 n_nm2 c_nm2), (sS A_rs2 n_rs2 c_rs2)]))]⟩) hz (by kernel_rfl) rfl ?_
                            refine WD_ld htb 27 (by rfl) rfl (by decide +kernel) (fun _ _ _ _ _ h => h) (Le.refl _) ((q26.add (0 * 2)).add 1) false 1 [.slice A55 n56 c57] (by kernel_rfl) (at47.field 1 rfl) rfl (by decide) ?_
                            obtain ⟨A58, hA59⟩ : ∃ A, sliceAddr A_to c_to 1 1 = A := ⟨_, rfl⟩
                            have hs60 := h_to.from 1 (by omega) hA59
                            refine WD_sl htb 29 (by rfl) rfl (by decide +kernel) (fun _ _ _ _ _ h => h) (Le.refl _) A_to n_to c_to 1 n_to 1 (by kernel_rfl) (by omega) (by omega) hA59 ?_
                            have lhs60 := hs60.len'
                            refine WD_one 30 (by rfl) (by decide +kernel) (WOp_call 30 [(.agg [(sS A_tk2 n_tk2 c_tk2), (sS A_nm2 n_nm2 c_nm2), (sS A_rs2 n_rs2 c_rs2)]), (sS A55 n56 c57), (sS A58 (n_to - 1) (c_to - 1))] (by kernel_rfl) (goes_of Try.func30 rfl rfl) (fun ρ w hW => derives_ok hW.has (tk := tk2) (nm := nm2) (rs := rs2) (sq := x35) (to := (to.drop 1)) h_tk2 h_nm2 h_rs2 hs54 hs60 (by omega) (by omega)) ?_)
                            intro G12 v hle hΦ
                            replace h_tk := h_tk.mono hle
                            replace h_nm := h_nm.mono hle
                            replace h_rs := h_rs.mono hle
                            replace h_tk2 := h_tk2.mono hle
                            replace h_nm2 := h_nm2.mono hle
                            replace h_rs2 := h_rs2.mono hle
                            replace h_to := h_to.mono hle
                            replace h_r17 := h_r17.mono hle
                            replace hs31 := hs31.mono hle
                            replace at28 := at28.mono hle
                            replace hs43 := hs43.mono hle
                            replace hs49 := hs49.mono hle
                            replace hs54 := hs54.mono hle
                            replace at47 := at47.mono hle
                            replace hs60 := hs60.mono hle
                            replace hz := hz.mono hle
                            obtain ⟨r61, rfl, hR62⟩ := hΦ
                            refine WD_on hle ?_
                            refine WD_up hle ?_
                            refine WD_takeL htb rfl (fun _ _ _ _ _ h => h) (Le.refl _) [31, 32, 33] (fuel := 0) (listed' := bts 34 17179869183) (S' := ⟨[(8, (bB (r20 == r61))), (146, (bB (r20 == r61))), (145, (bB (r20 == r61))), (144, (bB r61)), (143, (sS A58 (n_to - 1) (c_to - 1))), (141, (sS A55 n56 c57)), (140, (.v (.pointer (some ((q26.add (0 * 2)).add 1))))), (139, (.v (.pointer (some (q26.add (0 * 2)))))), (142, (sS A_to n_to c_to)), (138, (sS (some q26) n_r17 c_r17)), (137, (.agg [(sS A_tk2 n_tk2 c_tk2), (sS A_nm2 n_nm2 c_nm2), (sS A_rs2 n_rs2 c_rs2)])), (136, (bB r20)), (135, (bB true)), (134, (bB r44)), (133, (bB r44)), (132, (sS A41 (n_to - 1) (c_to - 1))), (130, (sS A32 n33 c34)), (129, (.v (.pointer (some ((q26.add (0 * 2)).add 0))))), (128, (.v (.pointer (some (q26.add (0 * 2)))))), (131, (sS A_to n_to c_to)), (127, (sS (some q26) n_r17 c_r17)), (126, (.agg [(sS A_tk n_tk c_tk), (sS A_nm n_nm c_nm), (sS A_rs n_rs c_rs)])), (125, (bB true)), (124, (bB (decide ((((n_to : Nat) : Int) : Int) > 0)))), (123, (bB (decide ((((n_to : Nat) : Int) : Int) > 0)))), (122, (iN n_to)), (121, (sS A_to n_to c_to)), (120, (bB true)), (119, (bB ((((n_r17 : Nat) : Int) : Int) == 1))), (118, (bB ((((n_r17 : Nat) : Int) : Int) == 1))), (117, (iN n_r17)), (116, (sS (some q26) n_r17 c_r17)), (115, (bB true)), (114, (bB true)), (12, (bB r20)), (10, (sS (some q26) n_r17 c_r17)), (9, (bB true)), (5, (.p 1 0)), (4, (.p 0 0)), (3, (sS A_to n_to c_to))], [], 3, [], [(0, bk25, (.cells 35 [(sS A_tk n_tk c_tk), (sS A_nm n_nm c_nm), (sS A_rs n_rs c_rs)])), (1, bk23, (.cells 35 [(sS A_tk2 n_tk2 c_tk2), (sS A_nm2 n_nm2 c_nm2), (sS A_rs2 n_rs2 c_rs2)]))]⟩) hz (by kernel_rfl) rfl ?_
                            refine WD_done (by decide +kernel) ?_
                            refine WK_keep [8] [] rfl rfl ?_
                            refine WQ_code ?_
                            refine WC_ret ?_
                            refine WQ_blk_ret ?_
                            refine WQ_then_ret ?_
                            exact WQ_done htb [(bB (r20 == r61))] _ (.inl rfl) rfl (by kernel_rfl) (fun ρ w hW => ⟨(r20 == r61), rfl, (beq_iff_eq.2 (Bool.eq_iff_iff.2 (hR21.trans (Iff.trans (by rw [hb, hpe.2, htd, hto]; exact derL_tok_iff hk) hR62.symm))))⟩)
                          · replace hk2 := ne_of_beq_false hk2
                            refine WC_seq (WC_region ?_)
                            refine WL_execS htb 2 [147, 105, 12, 10, 9, 5, 4, 3] [1, 0] ⟨[(147, (bB ((kd : Int) == 4))), (105, (iI kd)), (12, (bB r20)), (10, (sS A_r17 n_r17 c_r17)), (9, (bB true)), (5, (.p 1 0)), (4, (.p 0 0)), (3, (sS A_to n_to c_to))], [(1, (.cells 35 [(sS A_tk2 n_tk2 c_tk2), (sS A_nm2 n_nm2 c_nm2), (sS A_rs2 n_rs2 c_rs2)])), (0, (.cells 35 [(sS A_tk n_tk c_tk), (sS A_nm n_nm c_nm), (sS A_rs n_rs c_rs)]))], 3, [], []⟩ (by kernel_rfl) ?_
                            refine WL_nil ?_
                            refine WQ_code ?_
                            refine WC_cond (b := ((kd : Int) == 4)) rfl (fun hk4 => ?_) (fun hk4 => ?_)
                            · replace hk4 := eq_of_beq hk4
                              obtain ⟨x, nt, b1, hb, hnt, alts, halts, halt, hl⟩ := next_4 hR19 hk4
                              have hll : r17.length = 1 := by rw [hl]; rfl
                              refine WK_keep [12, 10, 9, 5, 3] [1] rfl rfl ?_
                              refine WK_freeze 1 rfl rfl rfl rfl ?_
                              intro bk23 G22 hle hbk23
                              replace h_tk2 := h_tk2.mono hle
                              replace h_nm2 := h_nm2.mono hle
                              replace h_rs2 := h_rs2.mono hle
                              replace h_to := h_to.mono hle
                              replace h_r17 := h_r17.mono hle
                              have hz := FZ.cons (h := 1) hbk23 rfl (FZ.nil _)
                              refine WC_seq (WC_draw mixed ?_)
                              refine WD_takeL htb rfl (fun _ _ _ _ _ h => h) (Le.refl _) [0, 1, 2, 3, 4, 5, 6] (fuel := 13) (listed' := bts 20 127) (S' := ⟨[(155, (bB ((((n_r17 : Nat) : Int) : Int) == 1))), (154, (bB ((((n_r17 : Nat) : Int) : Int) == 1))), (153, (bB ((((n_r17 : Nat) : Int) : Int) == 1))), (152, (iN n_r17)), (151, (sS A_r17 n_r17 c_r17)), (150, (bB true)), (149, (bB true)), (12, (bB r20)), (10, (sS A_r17 n_r17 c_r17)), (9, (bB true)), (5, (.p 1 0)), (3, (sS A_to n_to c_to))], [], 3, [], [(1, bk23, (.cells 35 [(sS A_tk2 n_tk2 c_tk2), (sS A_nm2 n_nm2 c_nm2), (sS A_rs2 n_rs2 c_rs2)]))]⟩) hz (by kernel_rfl) rfl ?_
                              refine WK_env [(155, (bB true)), (154, (bB ((((n_r17 : Nat) : Int) : Int) == 1))), (153, (bB ((((n_r17 : Nat) : Int) : Int) == 1))), (152, (iN n_r17)), (151, (sS A_r17 n_r17 c_r17)), (150, (bB true)), (149, (bB true)), (12, (bB r20)), (10, (sS A_r17 n_r17 c_r17)), (9, (bB true)), (5, (.p 1 0)), (3, (sS A_to n_to c_to))] (fun ρ => ⟨rfl, (congrArg Value.bool (by simp; omega)), ⟨rfl, rfl, ⟨rfl, rfl, ⟨rfl, rfl, ⟨rfl, rfl, ⟨rfl, rfl, ⟨rfl, rfl, ⟨rfl, rfl, ⟨rfl, rfl, ⟨rfl, rfl, ⟨rfl, rfl, ⟨rfl, rfl, trivial⟩⟩⟩⟩⟩⟩⟩⟩⟩⟩⟩⟩) ?_
                              refine WD_takeL htb rfl (fun _ _ _ _ _ h => h) (Le.refl _) [7, 8, 12] (fuel := 10) (listed' := bts 20 4607) (S' := ⟨[(161, (sS A_to n_to c_to)), (157, (sS A_r17 n_r17 c_r17)), (156, (.agg [(sS A_tk2 n_tk2 c_tk2), (sS A_nm2 n_nm2 c_nm2), (sS A_rs2 n_rs2 c_rs2)])), (155, (bB true)), (154, (bB ((((n_r17 : Nat) : Int) : Int) == 1))), (153, (bB ((((n_r17 : Nat) : Int) : Int) == 1))), (152, (iN n_r17)), (151, (sS A_r17 n_r17 c_r17)), (150, (bB true)), (149, (bB true)), (12, (bB r20)), (10, (sS A_r17 n_r17 c_r17)), (9, (bB true)), (5, (.p 1 0)), (3, (sS A_to n_to c_to))], [], 3, [], [(1, bk23, (.cells 35 [(sS A_tk2 n_tk2 c_tk2), (sS A_nm2 n_nm2 c_nm2), (sS A_rs2 n_rs2 c_rs2)]))]⟩) hz (by kernel_rfl) rfl ?_
                              obtain ⟨q24, rfl⟩ := h_r17.ptr (by omega)
                              obtain ⟨⟨x27, x33⟩, _, hx25, ⟨_, _, rfl, hr28, hr34⟩, at26⟩ := h_r17.get 0 (by omega)
                              obtain ⟨A30, n31, c32, rfl, hs29⟩ := Sl.of hr28
                              replace hs29 : Sl (tInt .i64) _ A30 n31 c32 x27 := hs29
                              have lhs29 := hs29.len'
                              obtain ⟨A36, n37, c38, rfl, hs35⟩ := Sl.of hr34
                              replace hs35 : Sl (tInt .i64) _ A36 n37 c38 x33 := hs35
                              have lhs35 := hs35.len'
                              replace at26 : At G22 (q24.add (0 * 2)) [.slice A30 n31 c32, .slice A36 n37 c38] := at26
                              refine WD_idx htb 9 (by rfl) rfl (by decide +kernel) (fun _ _ _ _ _ h => h) (Le.refl _) q24 n_r17 0 2 (by kernel_rfl) (by omega) (by omega) ?_
                              refine WD_takeL htb rfl (fun _ _ _ _ _ h => h) (Le.refl _) [10] (fuel := 8) (listed' := bts 20 6143) (S' := ⟨[(159, (.v (.pointer (some ((q24.add (0 * 2)).add 1))))), (158, (.v (.pointer (some (q24.add (0 * 2)))))), (161, (sS A_to n_to c_to)), (157, (sS (some q24) n_r17 c_r17)), (156, (.agg [(sS A_tk2 n_tk2 c_tk2), (sS A_nm2 n_nm2 c_nm2), (sS A_rs2 n_rs2 c_rs2)])), (155, (bB true)), (154, (bB ((((n_r17 : Nat) : Int) : Int) == 1))), (153, (bB ((((n_r17 : Nat) : Int) : Int) == 1))), (152, (iN n_r17)), (151, (sS (some q24) n_r17 c_r17)), (150, (bB true)), (149, (bB true)), (12, (bB r20)), (10, (sS (some q24) n_r17 c_r17)), (9, (bB true)), (5, (.p 1 0)), (3, (sS A_to n_to c_to))], [], 3, [], [(1, bk23, (.cells 35 [(sS A_tk2 n_tk2 c_tk2), (sS A_nm2 n_nm2 c_nm2), (sS A_rs2 n_rs2 c_rs2)]))]⟩) hz (by kernel_rfl) rfl ?_
                              refine WD_ld htb 11 (by rfl) rfl (by decide +kernel) (fun _ _ _ _ _ h => h) (Le.refl _) ((q24.add (0 * 2)).add 1) false 1 [.slice A36 n37 c38] (by kernel_rfl) (at26.field 1 rfl) rfl (by decide) ?_
                              refine WD_one 13 (by rfl) (by decide +kernel) (WOp_call 30 [(.agg [(sS A_tk2 n_tk2 c_tk2), (sS A_nm2 n_nm2 c_nm2), (sS A_rs2 n_rs2 c_rs2)]), (sS A36 n37 c38), (sS A_to n_to c_to)] (by kernel_rfl) (goes_of Try.func30 rfl rfl) (fun ρ w hW => derives_ok hW.has (tk := tk2) (nm := nm2) (rs := rs2) (sq := x33) (to := to) h_tk2 h_nm2 h_rs2 hs35 h_to (by omega) (by omega)) ?_)
                              intro G11 v hle hΦ
                              replace h_tk2 := h_tk2.mono hle
                              replace h_nm2 := h_nm2.mono hle
                              replace h_rs2 := h_rs2.mono hle
                              replace h_to := h_to.mono hle
                              replace h_r17 := h_r17.mono hle
                              replace hs29 := hs29.mono hle
                              replace hs35 := hs35.mono hle
                              replace at26 := at26.mono hle
                              replace hz := hz.mono hle
                              obtain ⟨r39, rfl, hR40⟩ := hΦ
                              refine WD_on hle ?_
                              refine WD_up hle ?_
                              refine WD_takeL htb rfl (fun _ _ _ _ _ h => h) (Le.refl _) [14, 15] (fuel := 4) (listed' := bts 20 65535) (S' := ⟨[(164, (bB (!r39))), (163, (bB (!r39))), (162, (bB r39)), (160, (sS A36 n37 c38)), (159, (.v (.pointer (some ((q24.add (0 * 2)).add 1))))), (158, (.v (.pointer (some (q24.add (0 * 2)))))), (161, (sS A_to n_to c_to)), (157, (sS (some q24) n_r17 c_r17)), (156, (.agg [(sS A_tk2 n_tk2 c_tk2), (sS A_nm2 n_nm2 c_nm2), (sS A_rs2 n_rs2 c_rs2)])), (155, (bB true)), (154, (bB ((((n_r17 : Nat) : Int) : Int) == 1))), (153, (bB ((((n_r17 : Nat) : Int) : Int) == 1))), (152, (iN n_r17)), (151, (sS (some q24) n_r17 c_r17)), (150, (bB true)), (149, (bB true)), (12, (bB r20)), (10, (sS (some q24) n_r17 c_r17)), (9, (bB true)), (5, (.p 1 0)), (3, (sS A_to n_to c_to))], [], 3, [], [(1, bk23, (.cells 35 [(sS A_tk2 n_tk2 c_tk2), (sS A_nm2 n_nm2 c_nm2), (sS A_rs2 n_rs2 c_rs2)]))]⟩) hz (by kernel_rfl) rfl ?_
                              have hpe : (x27, x33) = (a, x ++ b1) := by (have h5 := hx25; rw [hl] at h5; simpa using h5.symm)
                              simp only [Prod.mk.injEq] at hpe
                              refine WK_split 164 (!r39) rfl (fun hz0 => ?_) (fun hz0 => ?_)
                              · rw [Bool.not_eq_true'] at hz0
                                refine WK_keep [164, 163, 162, 160, 159, 158, 161, 157, 156, 155, 154, 153, 152, 151, 150, 149, 12, 10, 9, 5, 3] [] rfl rfl ?_
                                refine WD_takeL htb rfl (fun _ _ _ _ _ h => h) (Le.refl _) [16, 17, 18, 19] (fuel := 0) (listed' := bts 20 1048575) (S' := ⟨[(8, (bB true)), (167, (bB true)), (166, (bB true)), (165, (.v (undef))), (164, (bB true)), (163, (bB (!r39))), (162, (bB r39)), (160, (sS A36 n37 c38)), (159, (.v (.pointer (some ((q24.add (0 * 2)).add 1))))), (158, (.v (.pointer (some (q24.add (0 * 2)))))), (161, (sS A_to n_to c_to)), (157, (sS (some q24) n_r17 c_r17)), (156, (.agg [(sS A_tk2 n_tk2 c_tk2), (sS A_nm2 n_nm2 c_nm2), (sS A_rs2 n_rs2 c_rs2)])), (155, (bB true)), (154, (bB ((((n_r17 : Nat) : Int) : Int) == 1))), (153, (bB ((((n_r17 : Nat) : Int) : Int) == 1))), (152, (iN n_r17)), (151, (sS (some q24) n_r17 c_r17)), (150, (bB true)), (149, (bB true)), (12, (bB r20)), (10, (sS (some q24) n_r17 c_r17)), (9, (bB true)), (5, (.p 1 0)), (3, (sS A_to n_to c_to))], [], 3, [], [(1, bk23, (.cells 35 [(sS A_tk2 n_tk2 c_tk2), (sS A_nm2 n_nm2 c_nm2), (sS A_rs2 n_rs2 c_rs2)]))]⟩) hz (by kernel_rfl) rfl ?_
                                refine WD_done (by decide +kernel) ?_
                                refine WK_keep [8] [] rfl rfl ?_
                                refine WQ_code ?_
                                refine WC_ret ?_
                                refine WQ_blk_ret ?_
                                refine WQ_then_ret ?_
                                exact WQ_done htb [(bB true)] _ (.inl rfl) rfl (by kernel_rfl) (fun ρ w hW => ⟨true, rfl, rfl⟩)
                              · rw [Bool.not_eq_false'] at hz0
                                refine WK_keep [164, 163, 162, 160, 159, 158, 161, 157, 156, 155, 154, 153, 152, 151, 150, 149, 12, 10, 9, 5, 3] [] rfl rfl ?_
                                refine WD_takeL htb rfl (fun _ _ _ _ _ h => h) (Le.refl _) [16, 17, 18, 19] (fuel := 0) (listed' := bts 20 1048575) (S' := ⟨[(8, (bB r20)), (167, (bB r20)), (166, (bB r20)), (165, (bB r20)), (164, (bB false)), (163, (bB (!r39))), (162, (bB r39)), (160, (sS A36 n37 c38)), (159, (.v (.pointer (some ((q24.add (0 * 2)).add 1))))), (158, (.v (.pointer (some (q24.add (0 * 2)))))), (161, (sS A_to n_to c_to)), (157, (sS (some q24) n_r17 c_r17)), (156, (.agg [(sS A_tk2 n_tk2 c_tk2), (sS A_nm2 n_nm2 c_nm2), (sS A_rs2 n_rs2 c_rs2)])), (155, (bB true)), (154, (bB ((((n_r17 : Nat) : Int) : Int) == 1))), (153, (bB ((((n_r17 : Nat) : Int) : Int) == 1))), (152, (iN n_r17)), (151, (sS (some q24) n_r17 c_r17)), (150, (bB true)), (149, (bB true)), (12, (bB r20)), (10, (sS (some q24) n_r17 c_r17)), (9, (bB true)), (5, (.p 1 0)), (3, (sS A_to n_to c_to))], [], 3, [], [(1, bk23, (.cells 35 [(sS A_tk2 n_tk2 c_tk2), (sS A_nm2 n_nm2 c_nm2), (sS A_rs2 n_rs2 c_rs2)]))]⟩) hz (by kernel_rfl) rfl ?_
                                refine WD_done (by decide +kernel) ?_
                                refine WK_keep [8] [] rfl rfl ?_
                                refine WQ_code ?_
                                refine WC_ret ?_
                                refine WQ_blk_ret ?_
                                refine WQ_then_ret ?_
                                exact WQ_done htb [(bB r20)] _ (.inl rfl) rfl (by kernel_rfl) (fun ρ w hW => ⟨r20, rfl, (hR21.2 (by rw [hb]; exact derL_rule hnt halts halt (hpe.2 ▸ hR40.1 (by simpa using hz0))))⟩)
                            · replace hk4 := ne_of_beq_false hk4
                              refine WC_seq (WC_region ?_)
                              refine WL_execS htb 2 [168, 12, 10, 9, 5, 4, 3] [1, 0] ⟨[(168, (bB ((kd : Int) == 3))), (12, (bB r20)), (10, (sS A_r17 n_r17 c_r17)), (9, (bB true)), (5, (.p 1 0)), (4, (.p 0 0)), (3, (sS A_to n_to c_to))], [(1, (.cells 35 [(sS A_tk2 n_tk2 c_tk2), (sS A_nm2 n_nm2 c_nm2), (sS A_rs2 n_rs2 c_rs2)])), (0, (.cells 35 [(sS A_tk n_tk c_tk), (sS A_nm n_nm c_nm), (sS A_rs n_rs c_rs)]))], 3, [], []⟩ (by kernel_rfl) ?_
                              refine WL_nil ?_
                              refine WQ_code ?_
                              refine WC_cond (b := ((kd : Int) == 3)) rfl (fun hk3 => ?_) (fun hk3 => ?_)
                              · replace hk3 := eq_of_beq hk3
                                have hE := next_3 hR19 hk3 hd
                                refine WC_seq (WC_region ?_)
                                refine WL_execS htb 1 [13, 10, 9, 4, 3] [0] ⟨[(13, (bB false)), (10, (sS A_r17 n_r17 c_r17)), (9, (bB true)), (4, (.p 0 0)), (3, (sS A_to n_to c_to))], [(0, (.cells 35 [(sS A_tk n_tk c_tk), (sS A_nm n_nm c_nm), (sS A_rs n_rs c_rs)]))], 3, [], []⟩ (by kernel_rfl) ?_
                                refine WL_nil ?_
                                refine WQ_code ?_
                                refine WC_seq ?_
                                refine WC_seq (WC_region ?_)
                                refine WL_execS htb 3 [172, 171, 170, 13, 9, 4, 3] [0] ⟨[(172, (iI 0)), (171, (iN n_r17)), (170, (sS A_r17 n_r17 c_r17)), (13, (bB false)), (9, (bB true)), (4, (.p 0 0)), (3, (sS A_to n_to c_to))], [(0, (.cells 35 [(sS A_tk n_tk c_tk), (sS A_nm n_nm c_nm), (sS A_rs n_rs c_rs)]))], 3, [], []⟩ (by kernel_rfl) ?_
                                refine WL_nil ?_
                                refine WQ_code ?_
                                refine WC_block ?_
                                refine WK_freeze 0 rfl rfl rfl rfl ?_
                                intro bk23 G22 hle hbk23
                                replace h_tk := h_tk.mono hle
                                replace h_nm := h_nm.mono hle
                                replace h_rs := h_rs.mono hle
                                replace h_to := h_to.mono hle
                                replace h_r17 := h_r17.mono hle
                                have hz := FZ.cons (h := 0) hbk23 rfl (FZ.nil _)
                                refine WK_keep [172, 171, 170, 13, 9, 4, 3] [] rfl rfl ?_
                                refine WK_env [(172, (iN 0)), (171, (iN n_r17)), (170, (sS A_r17 n_r17 c_r17)), (13, (bB false)), (9, (bB true)), (4, (.p 0 0)), (3, (sS A_to n_to c_to))] (fun ρ => ⟨rfl, rfl, ⟨rfl, rfl, ⟨rfl, rfl, ⟨rfl, rfl, ⟨rfl, rfl, ⟨rfl, rfl, ⟨rfl, rfl, trivial⟩⟩⟩⟩⟩⟩⟩) ?_
                                refine WC_loop (ι := Nat × Bool) (fun (i, s) G24 => Le G22 G24 ∧ (i ≤ n_r17 ∧ (s = true ↔ ∃ p ∈ r17.take i, DerL rs p.1 to))) (fun (i, s) => ⟨[(172, (iN i)), (171, (iN n_r17)), (170, (sS A_r17 n_r17 c_r17)), (13, (bB s)), (9, (bB true)), (4, (.p 0 0)), (3, (sS A_to n_to c_to))], [], 3, [], [(0, bk23, (.cells 35 [(sS A_tk n_tk c_tk), (sS A_nm n_nm c_nm), (sS A_rs n_rs c_rs)]))]⟩) (fun (i, s) => n_r17 - i) (0, false) ⟨Le.refl _, ⟨Nat.zero_le _, by simp⟩⟩ rfl ?_
                                rintro ⟨i, s⟩ G24 ⟨hle, hF⟩
                                show WC _ _ _ _ _ ⟨[(172, (iN i)), (171, (iN n_r17)), (170, (sS A_r17 n_r17 c_r17)), (13, (bB s)), (9, (bB true)), (4, (.p 0 0)), (3, (sS A_to n_to c_to))], [], 3, [], [(0, bk23, (.cells 35 [(sS A_tk n_tk c_tk), (sS A_nm n_nm c_nm), (sS A_rs n_rs c_rs)]))]⟩ _
                                replace h_tk := h_tk.mono hle
                                replace h_nm := h_nm.mono hle
                                replace h_rs := h_rs.mono hle
                                replace h_to := h_to.mono hle
                                replace h_r17 := h_r17.mono hle
                                replace hz := hz.mono hle
                                have hc25 := hle
                                obtain ⟨hi, hs⟩ := hF
                                refine WC_seq (WC_region ?_)
                                refine WL_execS htb 1 [173, 172, 171, 170, 13, 9, 4, 3] [] ⟨[(173, (bB (decide ((((i : Nat) : Int) : Int) < ((n_r17 : Nat) : Int))))), (172, (iN i)), (171, (iN n_r17)), (170, (sS A_r17 n_r17 c_r17)), (13, (bB s)), (9, (bB true)), (4, (.p 0 0)), (3, (sS A_to n_to c_to))], [], 3, [], [(0, bk23, (.cells 35 [(sS A_tk n_tk c_tk), (sS A_nm n_nm c_nm), (sS A_rs n_rs c_rs)]))]⟩ (by kernel_rfl) ?_
                                refine WL_nil ?_
                                refine WQ_code ?_
                                refine WC_seq ?_
                                refine WC_cond (b := (decide ((((i : Nat) : Int) : Int) < ((n_r17 : Nat) : Int)))) rfl (fun hc => ?_) (fun hc => ?_)
                                · replace hc := of_decide_eq_true hc
                                  refine WC_skip ?_
                                  refine WQ_code ?_
                                  refine WC_seq ?_
                                  refine WC_block ?_
                                  refine WC_seq (WC_region ?_)
                                  obtain ⟨q26, rfl⟩ := h_r17.ptr (by omega)
                                  obtain ⟨⟨x29, x35⟩, _, hx27, ⟨_, _, rfl, hr30, hr36⟩, at28⟩ := h_r17.get i (by omega)
                                  obtain ⟨A32, n33, c34, rfl, hs31⟩ := Sl.of hr30
                                  replace hs31 : Sl (tInt .i64) _ A32 n33 c34 x29 := hs31
                                  have lhs31 := hs31.len'
                                  obtain ⟨A38, n39, c40, rfl, hs37⟩ := Sl.of hr36
                                  replace hs37 : Sl (tInt .i64) _ A38 n39 c40 x35 := hs37
                                  have lhs37 := hs37.len'
                                  replace at28 : At G24 (q26.add (i * 2)) [.slice A32 n33 c34, .slice A38 n39 c40] := at28
                                  refine WL_op (WOp_idx htb q26 n_r17 ((i : Nat) : Int) 2 (by kernel_rfl) (by omega) (by omega) ?_)
                                  refine WL_op (WOp_ld htb (q26.add (i * 2)) true 2 [.slice A32 n33 c34, .slice A38 n39 c40] (by kernel_rfl) at28 rfl (by decide) ?_)
                                  refine WL_execS htb 2 [15, 172, 171, 170, 13, 9, 4, 3] [3] ⟨[(15, (.p 3 0)), (172, (iN i)), (171, (iN n_r17)), (170, (sS (some q26) n_r17 c_r17)), (13, (bB s)), (9, (bB true)), (4, (.p 0 0)), (3, (sS A_to n_to c_to))], [(3, (.cells 24 [(sS A32 n33 c34), (sS A38 n39 c40)]))], 4, [], [(0, bk23, (.cells 35 [(sS A_tk n_tk c_tk), (sS A_nm n_nm c_nm), (sS A_rs n_rs c_rs)]))]⟩ (by kernel_rfl) ?_
                                  refine WL_nil ?_
                                  refine WQ_code ?_
                                  refine WC_region ?_
                                  refine WL_execS htb 2 [177, 15, 172, 171, 170, 9, 4, 3] [3] ⟨[(177, (bB s)), (15, (.p 3 0)), (172, (iN i)), (171, (iN n_r17)), (170, (sS (some q26) n_r17 c_r17)), (9, (bB true)), (4, (.p 0 0)), (3, (sS A_to n_to c_to))], [(3, (.cells 24 [(sS A32 n33 c34), (sS A38 n39 c40)]))], 4, [], [(0, bk23, (.cells 35 [(sS A_tk n_tk c_tk), (sS A_nm n_nm c_nm), (sS A_rs n_rs c_rs)]))]⟩ (by kernel_rfl) ?_
                                  refine WK_split 177 s rfl (fun hs1 => ?_) (fun hs1 => ?_)
                                  · skip
                                    refine WK_keep [177, 15, 172, 171, 170, 9, 4, 3] [3] rfl rfl ?_
                                    refine WL_execS htb 7 [13, 172, 171, 170, 9, 4, 3] [] ⟨[(13, (bB true)), (172, (iN i)), (171, (iN n_r17)), (170, (sS (some q26) n_r17 c_r17)), (9, (bB true)), (4, (.p 0 0)), (3, (sS A_to n_to c_to))], [], 4, [], [(0, bk23, (.cells 35 [(sS A_tk n_tk c_tk), (sS A_nm n_nm c_nm), (sS A_rs n_rs c_rs)]))]⟩ (by kernel_rfl) ?_
                                    refine WL_nil ?_
                                    refine WQ_blk ?_
                                    refine WQ_code ?_
                                    refine WC_region ?_
                                    refine WL_execS htb 2 [172, 13, 171, 170, 9, 4, 3] [] ⟨[(172, (iI (IntKind.i64.wrap (((i : Nat) : Int) + 1)))), (13, (bB true)), (171, (iN n_r17)), (170, (sS (some q26) n_r17 c_r17)), (9, (bB true)), (4, (.p 0 0)), (3, (sS A_to n_to c_to))], [], 4, [], [(0, bk23, (.cells 35 [(sS A_tk n_tk c_tk), (sS A_nm n_nm c_nm), (sS A_rs n_rs c_rs)]))]⟩ (by kernel_rfl) ?_
                                    refine WL_nil ?_
                                    refine WK_env [(172, (iN (i + 1))), (13, (bB true)), (171, (iN n_r17)), (170, (sS (some q26) n_r17 c_r17)), (9, (bB true)), (4, (.p 0 0)), (3, (sS A_to n_to c_to))] (fun ρ => ⟨rfl, (congrArg (Value.int .i64) (by rw [wrap_id (by omega)]; first | rfl | omega)), ⟨rfl, rfl, ⟨rfl, rfl, ⟨rfl, rfl, ⟨rfl, rfl, ⟨rfl, rfl, ⟨rfl, rfl, trivial⟩⟩⟩⟩⟩⟩⟩) ?_
                                    refine WK_keep [172, 171, 170, 13, 9, 4, 3] [] rfl rfl ?_
                                    exact WQ_next ((i + 1), true) (by show n_r17 - (i + 1) < n_r17 - i; omega) ⟨hc25, ⟨by omega, some_yes (hs.1 hs1) hx27⟩⟩ (fun ρ a w h => h)
                                  · skip
                                    refine WK_keep [177, 15, 172, 171, 170, 9, 4, 3] [3] rfl rfl ?_
                                    refine WL_execS htb 4 [181, 180, 178, 177, 172, 171, 170, 9, 4, 3] [] ⟨[(181, (sS A_to n_to c_to)), (180, (sS A32 n33 c34)), (178, (.agg [(sS A_tk n_tk c_tk), (sS A_nm n_nm c_nm), (sS A_rs n_rs c_rs)])), (177, (bB false)), (172, (iN i)), (171, (iN n_r17)), (170, (sS (some q26) n_r17 c_r17)), (9, (bB true)), (4, (.p 0 0)), (3, (sS A_to n_to c_to))], [], 4, [], [(0, bk23, (.cells 35 [(sS A_tk n_tk c_tk), (sS A_nm n_nm c_nm), (sS A_rs n_rs c_rs)]))]⟩ (by kernel_rfl) ?_
                                    refine WL_op (WOp_call 30 [(.agg [(sS A_tk n_tk c_tk), (sS A_nm n_nm c_nm), (sS A_rs n_rs c_rs)]), (sS A32 n33 c34), (sS A_to n_to c_to)] (by kernel_rfl) (goes_of Try.func30 rfl rfl) (fun ρ w hW => derives_ok hW.has (tk := tk) (nm := nm) (rs := rs) (sq := x29) (to := to) h_tk h_nm h_rs hs31 h_to (by omega) (by omega)) ?_)
                                    intro G11 v hle hΦ
                                    replace hc25 := Le.trans hc25 hle
                                    replace h_tk := h_tk.mono hle
                                    replace h_nm := h_nm.mono hle
                                    replace h_rs := h_rs.mono hle
                                    replace h_to := h_to.mono hle
                                    replace h_r17 := h_r17.mono hle
                                    replace hs31 := hs31.mono hle
                                    replace hz := hz.mono hle
                                    obtain ⟨r41, rfl, hR42⟩ := hΦ
                                    refine WL_execS htb 2 [13, 172, 171, 170, 9, 4, 3] [] ⟨[(13, (bB r41)), (172, (iN i)), (171, (iN n_r17)), (170, (sS (some q26) n_r17 c_r17)), (9, (bB true)), (4, (.p 0 0)), (3, (sS A_to n_to c_to))], [], 4, [], [(0, bk23, (.cells 35 [(sS A_tk n_tk c_tk), (sS A_nm n_nm c_nm), (sS A_rs n_rs c_rs)]))]⟩ (by kernel_rfl) ?_
                                    refine WL_nil ?_
                                    refine WQ_blk ?_
                                    refine WQ_code ?_
                                    refine WC_region ?_
                                    refine WL_execS htb 2 [172, 13, 171, 170, 9, 4, 3] [] ⟨[(172, (iI (IntKind.i64.wrap (((i : Nat) : Int) + 1)))), (13, (bB r41)), (171, (iN n_r17)), (170, (sS (some q26) n_r17 c_r17)), (9, (bB true)), (4, (.p 0 0)), (3, (sS A_to n_to c_to))], [], 4, [], [(0, bk23, (.cells 35 [(sS A_tk n_tk c_tk), (sS A_nm n_nm c_nm), (sS A_rs n_rs c_rs)]))]⟩ (by kernel_rfl) ?_
                                    refine WL_nil ?_
                                    refine WK_env [(172, (iN (i + 1))), (13, (bB r41)), (171, (iN n_r17)), (170, (sS (some q26) n_r17 c_r17)), (9, (bB true)), (4, (.p 0 0)), (3, (sS A_to n_to c_to))] (fun ρ => ⟨rfl, (congrArg (Value.int .i64) (by rw [wrap_id (by omega)]; first | rfl | omega)), ⟨rfl, rfl, ⟨rfl, rfl, ⟨rfl, rfl, ⟨rfl, rfl, ⟨rfl, rfl, ⟨rfl, rfl, trivial⟩⟩⟩⟩⟩⟩⟩) ?_
                                    refine WK_keep [172, 171, 170, 13, 9, 4, 3] [] rfl rfl ?_
                                    exact WQ_next ((i + 1), r41) (by show n_r17 - (i + 1) < n_r17 - i; omega) ⟨hc25, ⟨by omega, some_step hx27 (fun h => by rw [hs.2 h] at hs1; cases hs1) hR42⟩⟩ (fun ρ a w h => h)
                                · replace hc := of_decide_eq_false hc
                                  refine WC_exit ?_
                                  refine WQ_then_exit ?_
                                  refine WQ_then_exit ?_
                                  refine WQ_hit ?_
                                  refine WQ_code ?_
                                  refine WC_seq (WC_region ?_)
                                  refine WL_execS htb 5 [8] [] ⟨[(8, (bB s))], [], 3, [], [(0, bk23, (.cells 35 [(sS A_tk n_tk c_tk), (sS A_nm n_nm c_nm), (sS A_rs n_rs c_rs)]))]⟩ (by kernel_rfl) ?_
                                  refine WL_nil ?_
                                  refine WQ_code ?_
                                  refine WC_ret ?_
                                  refine WQ_blk_ret ?_
                                  refine WQ_then_ret ?_
                                  have htk : r17.take i = r17 := List.take_of_length_le (by omega)
                                  rw [htk] at hs
                                  exact WQ_done htb [(bB s)] _ (.inl rfl) rfl (by kernel_rfl) (fun ρ w hW => ⟨s, rfl, (hs.2 hE)⟩)
                              · replace hk3 := ne_of_beq_false hk3
                                obtain ⟨x, y, a1, b1, ha, hb, hl⟩ := next_5 hR19 hk1 hk2 hk3 hk4
                                have hll : r17.length = 2 := by rw [hl]; rfl
                                rw [ha] at hd
                                have hE := derL_cut hd
                                refine WC_skip ?_
                                refine WQ_blk ?_
                                refine WQ_code ?_
                                refine WC_seq (WC_region ?_)
                                refine WL_execS htb 1 [16, 12, 10, 9, 5, 4, 3] [1, 0] ⟨[(16, (bB false)), (12, (bB r20)), (10, (sS A_r17 n_r17 c_r17)), (9, (bB true)), (5, (.p 1 0)), (4, (.p 0 0)), (3, (sS A_to n_to c_to))], [(1, (.cells 35 [(sS A_tk2 n_tk2 c_tk2), (sS A_nm2 n_nm2 c_nm2), (sS A_rs2 n_rs2 c_rs2)])), (0, (.cells 35 [(sS A_tk n_tk c_tk), (sS A_nm n_nm c_nm), (sS A_rs n_rs c_rs)]))], 3, [], []⟩ (by kernel_rfl) ?_
                                refine WL_nil ?_
                                refine WQ_code ?_
                                refine WC_seq (WC_region ?_)
                                refine WL_execS htb 1 [17, 16, 12, 10, 9, 5, 4, 3] [1, 0] ⟨[(17, (bB true)), (16, (bB false)), (12, (bB r20)), (10, (sS A_r17 n_r17 c_r17)), (9, (bB true)), (5, (.p 1 0)), (4, (.p 0 0)), (3, (sS A_to n_to c_to))], [(1, (.cells 35 [(sS A_tk2 n_tk2 c_tk2), (sS A_nm2 n_nm2 c_nm2), (sS A_rs2 n_rs2 c_rs2)])), (0, (.cells 35 [(sS A_tk n_tk c_tk), (sS A_nm n_nm c_nm), (sS A_rs n_rs c_rs)]))], 3, [], []⟩ (by kernel_rfl) ?_
                                refine WL_nil ?_
                                refine WQ_code ?_
                                refine WC_seq ?_
                                refine WC_seq (WC_region ?_)
                                refine WL_execS htb 4 [192, 191, 17, 16, 12, 10, 9, 5, 4, 3] [1, 0] ⟨[(192, (iI 0)), (191, (iI (IntKind.i64.wrap (((n_to : Nat) : Int) + 1)))), (17, (bB true)), (16, (bB false)), (12, (bB r20)), (10, (sS A_r17 n_r17 c_r17)), (9, (bB true)), (5, (.p 1 0)), (4, (.p 0 0)), (3, (sS A_to n_to c_to))], [(1, (.cells 35 [(sS A_tk2 n_tk2 c_tk2), (sS A_nm2 n_nm2 c_nm2), (sS A_rs2 n_rs2 c_rs2)])), (0, (.cells 35 [(sS A_tk n_tk c_tk), (sS A_nm n_nm c_nm), (sS A_rs n_rs c_rs)]))], 3, [], []⟩ (by kernel_rfl) ?_
                                refine WL_nil ?_
                                refine WQ_code ?_
                                refine WC_block ?_
                                refine WK_env [(192, (iI 0)), (191, (iN (n_to + 1))), (17, (bB true)), (16, (bB false)), (12, (bB r20)), (10, (sS A_r17 n_r17 c_r17)), (9, (bB true)), (5, (.p 1 0)), (4, (.p 0 0)), (3, (sS A_to n_to c_to))] (fun ρ => ⟨rfl, rfl, ⟨rfl, (congrArg (Value.int .i64) (by rw [wrap_id (by omega)]; first | rfl | omega)), ⟨rfl, rfl, ⟨rfl, rfl, ⟨rfl, rfl, ⟨rfl, rfl, ⟨rfl, rfl, ⟨rfl, rfl, ⟨rfl, rfl, ⟨rfl, rfl, trivial⟩⟩⟩⟩⟩⟩⟩⟩⟩⟩) ?_
                                refine WK_freeze 1 rfl rfl rfl rfl ?_
                                intro bk23 G22 hle hbk23
                                replace h_tk := h_tk.mono hle
                                replace h_nm := h_nm.mono hle
                                replace h_rs := h_rs.mono hle
                                replace h_tk2 := h_tk2.mono hle
                                replace h_nm2 := h_nm2.mono hle
                                replace h_rs2 := h_rs2.mono hle
                                replace h_to := h_to.mono hle
                                replace h_r17 := h_r17.mono hle
                                have hz := FZ.cons (h := 1) hbk23 rfl (FZ.nil _)
                                refine WK_freeze 0 rfl rfl rfl rfl ?_
                                intro bk25 G24 hle hbk25
                                replace h_tk := h_tk.mono hle
                                replace h_nm := h_nm.mono hle
                                replace h_rs := h_rs.mono hle
                                replace h_tk2 := h_tk2.mono hle
                                replace h_nm2 := h_nm2.mono hle
                                replace h_rs2 := h_rs2.mono hle
                                replace h_to := h_to.mono hle
                                replace h_r17 := h_r17.mono hle
                                replace hz := hz.mono hle
                                have hz := FZ.cons (h := 0) hbk25 rfl hz
                                refine WK_keep [192, 191, 17, 16, 12, 10, 9, 5, 4, 3] [] rfl rfl ?_
                                refine WK_env [(192, (iN 0)), (191, (iN (n_to + 1))), (17, (bB true)), (16, (bB false)), (12, (bB r20)), (10, (sS A_r17 n_r17 c_r17)), (9, (bB true)), (5, (.p 1 0)), (4, (.p 0 0)), (3, (sS A_to n_to c_to))] (fun ρ => ⟨rfl, rfl, ⟨rfl, rfl, ⟨rfl, rfl, ⟨rfl, rfl, ⟨rfl, rfl, ⟨rfl, rfl, ⟨rfl, rfl, ⟨rfl, rfl, ⟨rfl, rfl, ⟨rfl, rfl, trivial⟩⟩⟩⟩⟩⟩⟩⟩⟩⟩) ?_
                                refine WC_loop (ι := Nat × Bool × Bool) (fun (i, cu, al) G26 => Le G24 G26 ∧ (i ≤ n_to + 1 ∧ (cu = true ↔ ∃ i', i' < i ∧ (DerL rs [x] (to.take i') ∧ DerL rs a1 (to.drop i'))) ∧ (al = true → ∀ i', i' < i → (DerL rs [x] (to.take i') ∧ DerL rs a1 (to.drop i')) → (DerL rs2 [y] (to.take i') ∧ DerL rs2 b1 (to.drop i'))))) (fun (i, cu, al) => ⟨[(192, (iN i)), (191, (iN (n_to + 1))), (17, (bB al)), (16, (bB cu)), (12, (bB r20)), (10, (sS A_r17 n_r17 c_r17)), (9, (bB true)), (5, (.p 1 0)), (4, (.p 0 0)), (3, (sS A_to n_to c_to))], [], 3, [], [(0, bk25, (.cells 35 [(sS A_tk n_tk c_tk), (sS A_nm n_nm c_nm), (sS A_rs n_rs c_rs)])), (1, bk23, (.cells 35 [(sS A_tk2 n_tk2 c_tk2), (sS A_nm2 n_nm2 c_nm2), (sS A_rs2 n_rs2 c_rs2)]))]⟩) (fun (i, cu, al) => n_to + 1 - i) (0, false, true) ⟨Le.refl _, ⟨Nat.zero_le _, by simp, fun _ i' h => by omega⟩⟩ rfl ?_
                                rintro ⟨i, cu, al⟩ G26 ⟨hle, hF⟩
                                show WC _ _ _ _ _ ⟨[(192, (iN i)), (191, (iN (n_to + 1))), (17, (bB al)), (16, (bB cu)), (12, (bB r20)), (10, (sS A_r17 n_r17 c_r17)), (9, (bB true)), (5, (.p 1 0)), (4, (.p 0 0)), (3, (sS A_to n_to c_to))], [], 3, [], [(0, bk25, (.cells 35 [(sS A_tk n_tk c_tk), (sS A_nm n_nm c_nm), (sS A_rs n_rs c_rs)])), (1, bk23, (.cells 35 [(sS A_tk2 n_tk2 c_tk2), (sS A_nm2 n_nm2 c_nm2), (sS A_rs2 n_rs2 c_rs2)]))]⟩ _
                                replace h_tk := h_tk.mono hle
                                replace h_nm := h_nm.mono hle
                                replace h_rs := h_rs.mono hle
                                replace h_tk2 := h_tk2.mono hle
                                replace h_nm2 := h_nm2.mono hle
                                replace h_rs2 := h_rs2.mono hle
                                replace h_to := h_to.mono hle
                                replace h_r17 := h_r17.mono hle
                                replace hz := hz.mono hle
                                have hc27 := hle
                                obtain ⟨hi, hcu, hal⟩ := hF
                                refine WC_seq (WC_region ?_)
                                refine WL_execS htb 1 [193, 192, 191, 17, 16, 12, 10, 9, 5, 4, 3] [] ⟨[(193, (bB (decide ((((i : Nat) : Int) : Int) < ((n_to + 1 : Nat) : Int))))), (192, (iN i)), (191, (iN (n_to + 1))), (17, (bB al)), (16, (bB cu)), (12, (bB r20)), (10, (sS A_r17 n_r17 c_r17)), (9, (bB true)), (5, (.p 1 0)), (4, (.p 0 0)), (3, (sS A_to n_to c_to))], [], 3, [], [(0, bk25, (.cells 35 [(sS A_tk n_tk c_tk), (sS A_nm n_nm c_nm), (sS A_rs n_rs c_rs)])), (1, bk23, (.cells 35 [(sS A_tk2 n_tk2 c_tk2), (sS A_nm2 n_nm2 c_nm2), (sS A_rs2 n_rs2 c_rs2)]))]⟩ (by kernel_rfl) ?_
                                refine WL_nil ?_
                                refine WQ_code ?_
                                refine WC_seq ?_
                                refine WC_cond (b := (decide ((((i : Nat) : Int) : Int) < ((n_to + 1 : Nat) : Int)))) rfl (fun hc => ?_) (fun hc => ?_)
                                · replace hc := of_decide_eq_true hc
                                  refine WC_skip ?_
                                  refine WQ_code ?_
                                  refine WC_seq ?_
                                  refine WC_block ?_
                                  refine WC_seq (WC_region ?_)
                                  refine WL_execS htb 2 [18, 192, 191, 17, 16, 12, 10, 9, 5, 4, 3] [] ⟨[(18, (iN i)), (192, (iN i)), (191, (iN (n_to + 1))), (17, (bB al)), (16, (bB cu)), (12, (bB r20)), (10, (sS A_r17 n_r17 c_r17)), (9, (bB true)), (5, (.p 1 0)), (4, (.p 0 0)), (3, (sS A_to n_to c_to))], [], 3, [], [(0, bk25, (.cells 35 [(sS A_tk n_tk c_tk), (sS A_nm n_nm c_nm), (sS A_rs n_rs c_rs)])), (1, bk23, (.cells 35 [(sS A_tk2 n_tk2 c_tk2), (sS A_nm2 n_nm2 c_nm2), (sS A_rs2 n_rs2 c_rs2)]))]⟩ (by kernel_rfl) ?_
                                  refine WL_nil ?_
                                  refine WQ_code ?_
                                  refine WC_seq (WC_draw mixed ?_)
                                  refine WD_takeL htb rfl (fun _ _ _ _ _ h => h) (Le.refl _) [0, 1, 2, 3] (fuel := 21) (listed' := bts 25 15) (S' := ⟨[(198, (bB ((((n_r17 : Nat) : Int) : Int) == 2))), (197, (bB ((((n_r17 : Nat) : Int) : Int) == 2))), (196, (iN n_r17)), (195, (sS A_r17 n_r17 c_r17)), (18, (iN i)), (192, (iN i)), (191, (iN (n_to + 1))), (17, (bB al)), (16, (bB cu)), (12, (bB r20)), (10, (sS A_r17 n_r17 c_r17)), (9, (bB true)), (5, (.p 1 0)), (4, (.p 0 0)), (3, (sS A_to n_to c_to))], [], 3, [], [(0, bk25, (.cells 35 [(sS A_tk n_tk c_tk), (sS A_nm n_nm c_nm), (sS A_rs n_rs c_rs)])), (1, bk23, (.cells 35 [(sS A_tk2 n_tk2 c_tk2), (sS A_nm2 n_nm2 c_nm2), (sS A_rs2 n_rs2 c_rs2)]))]⟩) hz (by kernel_rfl) rfl ?_
                                  refine WK_env [(198, (bB true)), (197, (bB ((((n_r17 : Nat) : Int) : Int) == 2))), (196, (iN n_r17)), (195, (sS A_r17 n_r17 c_r17)), (18, (iN i)), (192, (iN i)), (191, (iN (n_to + 1))), (17, (bB al)), (16, (bB cu)), (12, (bB r20)), (10, (sS A_r17 n_r17 c_r17)), (9, (bB true)), (5, (.p 1 0)), (4, (.p 0 0)), (3, (sS A_to n_to c_to))] (fun ρ => ⟨rfl, (congrArg Value.bool (by simp; omega)), ⟨rfl, rfl, ⟨rfl, rfl, ⟨rfl, rfl, ⟨rfl, rfl, ⟨rfl, rfl, ⟨rfl, rfl, ⟨rfl, rfl, ⟨rfl, rfl, ⟨rfl, rfl, ⟨rfl, rfl, ⟨rfl, rfl, ⟨rfl, rfl, ⟨rfl, rfl, ⟨rfl, rfl, trivial⟩⟩⟩⟩⟩⟩⟩⟩⟩⟩⟩⟩⟩⟩⟩) ?_
                                  refine WD_takeL htb rfl (fun _ _ _ _ _ h => h) (Le.refl _) [4, 5, 9, 10] (fuel := 17) (listed' := bts 25 1599) (S' := ⟨[(205, (iN i)), (204, (sS A_to n_to c_to)), (200, (sS A_r17 n_r17 c_r17)), (199, (.agg [(sS A_tk n_tk c_tk), (sS A_nm n_nm c_nm), (sS A_rs n_rs c_rs)])), (198, (bB true)), (197, (bB ((((n_r17 : Nat) : Int) : Int) == 2))), (196, (iN n_r17)), (195, (sS A_r17 n_r17 c_r17)), (18, (iN i)), (192, (iN i)), (191, (iN (n_to + 1))), (17, (bB al)), (16, (bB cu)), (12, (bB r20)), (10, (sS A_r17 n_r17 c_r17)), (9, (bB true)), (5, (.p 1 0)), (4, (.p 0 0)), (3, (sS A_to n_to c_to))], [], 3, [], [(0, bk25, (.cells 35 [(sS A_tk n_tk c_tk), (sS A_nm n_nm c_nm), (sS A_rs n_rs c_rs)])), (1, bk23, (.cells 35 [(sS A_tk2 n_tk2 c_tk2), (sS A_nm2 n_nm2 c_nm2), (sS A_rs2 n_rs2 c_rs2)]))]⟩) hz (by kernel_rfl) rfl ?_
                                  obtain ⟨q28, rfl⟩ := h_r17.ptr (by omega)
                                  obtain ⟨⟨x31, x37⟩, _, hx29, ⟨_, _, rfl, hr32, hr38⟩, at30⟩ := h_r17.get 0 (by omega)
                                  obtain ⟨A34, n35, c36, rfl, hs33⟩ := Sl.of hr32
                                  replace hs33 : Sl (tInt .i64) _ A34 n35 c36 x31 := hs33
                                  have lhs33 := hs33.len'
                                  obtain ⟨A40, n41, c42, rfl, hs39⟩ := Sl.of hr38
                                  replace hs39 : Sl (tInt .i64) _ A40 n41 c42 x37 := hs39
                                  have lhs39 := hs39.len'
                                  replace at30 : At G26 (q28.add (0 * 2)) [.slice A34 n35 c36, .slice A40 n41 c42] := at30
                                  refine WD_idx htb 6 (by rfl) rfl (by decide +kernel) (fun _ _ _ _ _ h => h) (Le.refl _) q28 n_r17 0 2 (by kernel_rfl) (by omega) (by omega) ?_
                                  refine WD_takeL htb rfl (fun _ _ _ _ _ h => h) (Le.refl _) [7] (fuel := 15) (listed' := bts 25 1791) (S' := ⟨[(202, (.v (.pointer (some ((q28.add (0 * 2)).add 0))))), (201, (.v (.pointer (some (q28.add (0 * 2)))))), (205, (iN i)), (204, (sS A_to n_to c_to)), (200, (sS (some q28) n_r17 c_r17)), (199, (.agg [(sS A_tk n_tk c_tk), (sS A_nm n_nm c_nm), (sS A_rs n_rs c_rs)])), (198, (bB true)), (197, (bB ((((n_r17 : Nat) : Int) : Int) == 2))), (196, (iN n_r17)), (195, (sS (some q28) n_r17 c_r17)), (18, (iN i)), (192, (iN i)), (191, (iN (n_to + 1))), (17, (bB al)), (16, (bB cu)), (12, (bB r20)), (10, (sS (some q28) n_r17 c_r17)), (9, (bB true)), (5, (.p 1 0)), (4, (.p 0 0)), (3, (sS A_to n_to c_to))], [], 3, [], [(0, bk25, (.cells 35 [(sS A_tk n_tk c_tk), (sS A_nm n_nm c_nm), (sS A_rs n_rs c_rs)])), (1, bk23, (.cells 35 [(sS A_tk2 n_tk2 c_tk2), (sS A_nm2 n_nm2 c_nm2), (sS A_rs2 n_rs2 c_rs2)]))]⟩) hz (by kernel_rfl) rfl ?_
                                  refine WD_ld htb 8 (by rfl) rfl (by decide +kernel) (fun _ _ _ _ _ h => h) (Le.refl _) ((q28.add (0 * 2)).add 0) false 1 [.slice A34 n35 c36] (by kernel_rfl) (at30.field 0 rfl) rfl (by decide) ?_
                                  obtain ⟨A43, hA44⟩ : ∃ A, sliceAddr A_to c_to 0 1 = A := ⟨_, rfl⟩
                                  have hs45 := h_to.part 0 i (by omega) (by omega) hA44
                                  refine WD_sl htb 11 (by rfl) rfl (by decide +kernel) (fun _ _ _ _ _ h => h) (Le.refl _) A_to n_to c_to 0 i 1 (by kernel_rfl) (by omega) (by omega) hA44 ?_
                                  have lhs45 := hs45.len'
                                  refine WD_one 12 (by rfl) (by decide +kernel) (WOp_call 30 [(.agg [(sS A_tk n_tk c_tk), (sS A_nm n_nm c_nm), (sS A_rs n_rs c_rs)]), (sS A34 n35 c36), (sS A43 (i - 0) (c_to - 0))] (by kernel_rfl) (goes_of Try.func30 rfl rfl) (fun ρ w hW => derives_ok hW.has (tk := tk) (nm := nm) (rs := rs) (sq := x31) (to := ((to.take i).drop 0)) h_tk h_nm h_rs hs33 hs45 (by omega) (by omega)) ?_)
                                  intro G11 v hle hΦ
                                  replace hc27 := Le.trans hc27 hle
                                  replace h_tk := h_tk.mono hle
                                  replace h_nm := h_nm.mono hle
                                  replace h_rs := h_rs.mono hle
                                  replace h_tk2 := h_tk2.mono hle
                                  replace h_nm2 := h_nm2.mono hle
                                  replace h_rs2 := h_rs2.mono hle
                                  replace h_to := h_to.mono hle
                                  replace h_r17 := h_r17.mono hle
                                  replace hs33 := hs33.mono hle
                                  replace hs39 := hs39.mono hle
                                  replace at30 := at30.mono hle
                                  replace hs45 := hs45.mono hle
                                  replace hz := hz.mono hle
                                  obtain ⟨r46, rfl, hR47⟩ := hΦ
                                  refine WD_on hle ?_
                                  refine WD_up hle ?_
                                  refine WD_takeL htb rfl (fun _ _ _ _ _ h => h) (Le.refl _) [13, 14] (fuel := 10) (listed' := bts 25 32767) (S' := ⟨[(209, (bB r46)), (208, (bB r46)), (207, (bB r46)), (206, (sS A43 (i - 0) (c_to - 0))), (203, (sS A34 n35 c36)), (202, (.v (.pointer (some ((q28.add (0 * 2)).add 0))))), (201, (.v (.pointer (some (q28.add (0 * 2)))))), (205, (iN i)), (204, (sS A_to n_to c_to)), (200, (sS (some q28) n_r17 c_r17)), (199, (.agg [(sS A_tk n_tk c_tk), (sS A_nm n_nm c_nm), (sS A_rs n_rs c_rs)])), (198, (bB true)), (197, (bB ((((n_r17 : Nat) : Int) : Int) == 2))), (196, (iN n_r17)), (195, (sS (some q28) n_r17 c_r17)), (18, (iN i)), (192, (iN i)), (191, (iN (n_to + 1))), (17, (bB al)), (16, (bB cu)), (12, (bB r20)), (10, (sS (some q28) n_r17 c_r17)), (9, (bB true)), (5, (.p 1 0)), (4, (.p 0 0)), (3, (sS A_to n_to c_to))], [], 3, [], [(0, bk25, (.cells 35 [(sS A_tk n_tk c_tk), (sS A_nm n_nm c_nm), (sS A_rs n_rs c_rs)])), (1, bk23, (.cells 35 [(sS A_tk2 n_tk2 c_tk2), (sS A_nm2 n_nm2 c_nm2), (sS A_rs2 n_rs2 c_rs2)]))]⟩) hz (by kernel_rfl) rfl ?_
                                  have hpe : (x31, x37) = ([x], [y]) := by (have h5 := hx29; rw [hl] at h5; simpa using h5.symm)
                                  simp only [Prod.mk.injEq] at hpe
                                  rw [hpe.1, List.drop_zero] at hR47
                                  refine WK_split 209 r46 rfl (fun hp1 => ?_) (fun hp1 => ?_)
                                  · skip
                                    refine WK_keep [209, 208, 207, 206, 203, 202, 201, 205, 204, 200, 199, 198, 197, 196, 195, 18, 192, 191, 17, 16, 12, 10, 9, 5, 4, 3] [] rfl rfl ?_
                                    refine WD_takeL htb rfl (fun _ _ _ _ _ h => h) (Le.refl _) [15, 16, 20, 21] (fuel := 6) (listed' := bts 25 3276799) (S' := ⟨[(216, (iN i)), (215, (sS A_to n_to c_to)), (211, (sS (some q28) n_r17 c_r17)), (210, (.agg [(sS A_tk n_tk c_tk), (sS A_nm n_nm c_nm), (sS A_rs n_rs c_rs)])), (209, (bB true)), (208, (bB r46)), (207, (bB r46)), (206, (sS A43 (i - 0) (c_to - 0))), (203, (sS A34 n35 c36)), (202, (.v (.pointer (some ((q28.add (0 * 2)).add 0))))), (201, (.v (.pointer (some (q28.add (0 * 2)))))), (205, (iN i)), (204, (sS A_to n_to c_to)), (200, (sS (some q28) n_r17 c_r17)), (199, (.agg [(sS A_tk n_tk c_tk), (sS A_nm n_nm c_nm), (sS A_rs n_rs c_rs)])), (198, (bB true)), (197, (bB ((((n_r17 : Nat) : Int) : Int) == 2))), (196, (iN n_r17)), (195, (sS (some q28) n_r17 c_r17)), (18, (iN i)), (192, (iN i)), (191, (iN (n_to + 1))), (17, (bB al)), (16, (bB cu)), (12, (bB r20)), (10, (sS (some q28) n_r17 c_r17)), (9, (bB true)), (5, (.p 1 0)), (4, (.p 0 0)), (3, (sS A_to n_to c_to))], [], 3, [], [(0, bk25, (.cells 35 [(sS A_tk n_tk c_tk), (sS A_nm n_nm c_nm), (sS A_rs n_rs c_rs)])), (1, bk23, (.cells 35 [(sS A_tk2 n_tk2 c_tk2), (sS A_nm2 n_nm2 c_nm2), (sS A_rs2 n_rs2 c_rs2)]))]⟩) hz (by kernel_rfl) rfl ?_
                                    obtain ⟨⟨x50, x56⟩, _, hx48, ⟨_, _, rfl, hr51, hr57⟩, at49⟩ := h_r17.get 1 (by omega)
                                    obtain ⟨A53, n54, c55, rfl, hs52⟩ := Sl.of hr51
                                    replace hs52 : Sl (tInt .i64) _ A53 n54 c55 x50 := hs52
                                    have lhs52 := hs52.len'
                                    obtain ⟨A59, n60, c61, rfl, hs58⟩ := Sl.of hr57
                                    replace hs58 : Sl (tInt .i64) _ A59 n60 c61 x56 := hs58
                                    have lhs58 := hs58.len'
                                    replace at49 : At G11 (q28.add (1 * 2)) [.slice A53 n54 c55, .slice A59 n60 c61] := at49
                                    refine WD_idx htb 17 (by rfl) rfl (by decide +kernel) (fun _ _ _ _ _ h => h) (Le.refl _) q28 n_r17 1 2 (by kernel_rfl) (by omega) (by omega) ?_
                                    refine WD_takeL htb rfl (fun _ _ _ _ _ h => h) (Le.refl _) [18] (fuel := 4) (listed' := bts 25 3670015) (S' := ⟨[(213, (.v (.pointer (some ((q28.add (1 * 2)).add 0))))), (212, (.v (.pointer (some (q28.add (1 * 2)))))), (216, (iN i)), (215, (sS A_to n_to c_to)), (211, (sS (some q28) n_r17 c_r17)), (210, (.agg [(sS A_tk n_tk c_tk), (sS A_nm n_nm c_nm), (sS A_rs n_rs c_rs)])), (209, (bB true)), (208, (bB r46)), (207, (bB r46)), (206, (sS A43 (i - 0) (c_to - 0))), (203, (sS A34 n35 c36)), (202, (.v (.pointer (some ((q28.add (0 * 2)).add 0))))), (201, (.v (.pointer (some (q28.add (0 * 2)))))), (205, (iN i)), (204, (sS A_to n_to c_to)), (200, (sS (some q28) n_r17 c_r17)), (199, (.agg [(sS A_tk n_tk c_tk), (sS A_nm n_nm c_nm), (sS A_rs n_rs c_rs)])), (198, (bB true)), (197, (bB ((((n_r17 : Nat) : Int) : Int) == 2))), (196, (iN n_r17)), (195, (sS (some q28) n_r17 c_r17)), (18, (iN i)), (192, (iN i)), (191, (iN (n_to + 1))), (17, (bB al)), (16, (bB cu)), (12, (bB r20)), (10, (sS (some q28) n_r17 c_r17)), (9, (bB true)), (5, (.p 1 0)), (4, (.p 0 0)), (3, (sS A_to n_to c_to))], [], 3, [], [(0, bk25, (.cells 35 [(sS A_tk n_tk c_tk), (sS A_nm n_nm c_nm), (sS A_rs n_rs c_rs)])), (1, bk23, (.cells 35 [(sS A_tk2 n_tk2 c_tk2), (sS A_nm2 n_nm2 c_nm2), (sS A_rs2 n_rs2 c_rs2)]))]⟩) hz (by kernel_rfl) rfl ?_
                                    refine WD_ld htb 19 (by rfl) rfl (by decide +kernel) (fun _ _ _ _ _ h => h) (Le.refl _) ((q28.add (1 * 2)).add 0) false 1 [.slice A53 n54 c55] (by kernel_rfl) (at49.field 0 rfl) rfl (by decide) ?_
                                    obtain ⟨A62, hA63⟩ : ∃ A, sliceAddr A_to c_to i 1 = A := ⟨_, rfl⟩
                                    have hs64 := h_to.from i (by omega) hA63
                                    refine WD_sl htb 22 (by rfl) rfl (by decide +kernel) (fun _ _ _ _ _ h => h) (Le.refl _) A_to n_to c_to i n_to 1 (by kernel_rfl) (by omega) (by omega) hA63 ?_
                                    have lhs64 := hs64.len'
                                    refine WD_one 23 (by rfl) (by decide +kernel) (WOp_call 30 [(.agg [(sS A_tk n_tk c_tk), (sS A_nm n_nm c_nm), (sS A_rs n_rs c_rs)]), (sS A53 n54 c55), (sS A62 (n_to - i) (c_to - i))] (by kernel_rfl) (goes_of Try.func30 rfl rfl) (fun ρ w hW => derives_ok hW.has (tk := tk) (nm := nm) (rs := rs) (sq := x50) (to := (to.drop i)) h_tk h_nm h_rs hs52 hs64 (by omega) (by omega)) ?_)
                                    intro G12 v hle hΦ
                                    replace hc27 := Le.trans hc27 hle
                                    replace h_tk := h_tk.mono hle
                                    replace h_nm := h_nm.mono hle
                                    replace h_rs := h_rs.mono hle
                                    replace h_tk2 := h_tk2.mono hle
                                    replace h_nm2 := h_nm2.mono hle
                                    replace h_rs2 := h_rs2.mono hle
                                    replace h_to := h_to.mono hle
                                    replace h_r17 := h_r17.mono hle
                                    replace hs33 := hs33.mono hle
                                    replace hs39 := hs39.mono hle
                                    replace at30 := at30.mono hle
                                    replace hs45 := hs45.mono hle
                                    replace hs52 := hs52.mono hle
                                    replace hs58 := hs58.mono hle
                                    replace at49 := at49.mono hle
                                    replace hs64 := hs64.mono hle
                                    replace hz := hz.mono hle
                                    obtain ⟨r65, rfl, hR66⟩ := hΦ
                                    refine WD_on hle ?_
                                    refine WD_up hle ?_
                                    refine WD_takeL htb rfl (fun _ _ _ _ _ h => h) (Le.refl _) [24] (fuel := 0) (listed' := bts 25 33554431) (S' := ⟨[(219, (bB r65)), (218, (bB r65)), (217, (sS A62 (n_to - i) (c_to - i))), (214, (sS A53 n54 c55)), (213, (.v (.pointer (some ((q28.add (1 * 2)).add 0))))), (212, (.v (.pointer (some (q28.add (1 * 2)))))), (216, (iN i)), (215, (sS A_to n_to c_to)), (211, (sS (some q28) n_r17 c_r17)), (210, (.agg [(sS A_tk n_tk c_tk), (sS A_nm n_nm c_nm), (sS A_rs n_rs c_rs)])), (209, (bB true)), (208, (bB r46)), (207, (bB r46)), (206, (sS A43 (i - 0) (c_to - 0))), (203, (sS A34 n35 c36)), (202, (.v (.pointer (some ((q28.add (0 * 2)).add 0))))), (201, (.v (.pointer (some (q28.add (0 * 2)))))), (205, (iN i)), (204, (sS A_to n_to c_to)), (200, (sS (some q28) n_r17 c_r17)), (199, (.agg [(sS A_tk n_tk c_tk), (sS A_nm n_nm c_nm), (sS A_rs n_rs c_rs)])), (198, (bB true)), (197, (bB ((((n_r17 : Nat) : Int) : Int) == 2))), (196, (iN n_r17)), (195, (sS (some q28) n_r17 c_r17)), (18, (iN i)), (192, (iN i)), (191, (iN (n_to + 1))), (17, (bB al)), (16, (bB cu)), (12, (bB r20)), (10, (sS (some q28) n_r17 c_r17)), (9, (bB true)), (5, (.p 1 0)), (4, (.p 0 0)), (3, (sS A_to n_to c_to))], [], 3, [], [(0, bk25, (.cells 35 [(sS A_tk n_tk c_tk), (sS A_nm n_nm c_nm), (sS A_rs n_rs c_rs)])), (1, bk23, (.cells 35 [(sS A_tk2 n_tk2 c_tk2), (sS A_nm2 n_nm2 c_nm2), (sS A_rs2 n_rs2 c_rs2)]))]⟩) hz (by kernel_rfl) rfl ?_
                                    refine WD_done (by decide +kernel) ?_
                                    refine WK_keep [219, 18, 192, 191, 17, 16, 12, 10, 9, 5, 4, 3] [] rfl rfl ?_
                                    refine WQ_code ?_
                                    have hpf : (x50, x56) = (a1, b1) := by (have h5 := hx48; rw [hl] at h5; simpa using h5.symm)
                                    simp only [Prod.mk.injEq] at hpf
                                    rw [hpf.1] at hR66
                                    refine WC_cond (b := r65) rfl (fun hp2 => ?_) (fun hp2 => ?_)
                                    · skip
                                      have hP : (DerL rs [x] (to.take i) ∧ DerL rs a1 (to.drop i)) := ⟨hR47.1 hp1, hR66.1 hp2⟩
                                      refine WC_seq (WC_region ?_)
                                      refine WL_execS htb 1 [16, 18, 192, 191, 17, 12, 10, 9, 5, 4, 3] [] ⟨[(16, (bB true)), (18, (iN i)), (192, (iN i)), (191, (iN (n_to + 1))), (17, (bB al)), (12, (bB r20)), (10, (sS (some q28) n_r17 c_r17)), (9, (bB true)), (5, (.p 1 0)), (4, (.p 0 0)), (3, (sS A_to n_to c_to))], [], 3, [], [(0, bk25, (.cells 35 [(sS A_tk n_tk c_tk), (sS A_nm n_nm c_nm), (sS A_rs n_rs c_rs)])), (1, bk23, (.cells 35 [(sS A_tk2 n_tk2 c_tk2), (sS A_nm2 n_nm2 c_nm2), (sS A_rs2 n_rs2 c_rs2)]))]⟩ (by kernel_rfl) ?_
                                      refine WL_nil ?_
                                      refine WQ_code ?_
                                      refine WC_draw mixed ?_
                                      refine WD_takeL htb rfl (fun _ _ _ _ _ h => h) (Le.refl _) [0, 1] (fuel := 22) (listed' := bts 24 3) (S' := ⟨[(221, (bB al)), (220, (bB al)), (16, (bB true)), (18, (iN i)), (192, (iN i)), (191, (iN (n_to + 1))), (17, (bB al)), (12, (bB r20)), (10, (sS (some q28) n_r17 c_r17)), (9, (bB true)), (5, (.p 1 0)), (4, (.p 0 0)), (3, (sS A_to n_to c_to))], [], 3, [], [(0, bk25, (.cells 35 [(sS A_tk n_tk c_tk), (sS A_nm n_nm c_nm), (sS A_rs n_rs c_rs)])), (1, bk23, (.cells 35 [(sS A_tk2 n_tk2 c_tk2), (sS A_nm2 n_nm2 c_nm2), (sS A_rs2 n_rs2 c_rs2)]))]⟩) hz (by kernel_rfl) rfl ?_
                                      refine WK_split 221 al rfl (fun hal0 => ?_) (fun hal0 => ?_)
                                      · skip
                                        refine WK_keep [221, 220, 16, 18, 192, 191, 17, 12, 10, 9, 5, 4, 3] [] rfl rfl ?_
                                        refine WD_takeL htb rfl (fun _ _ _ _ _ h => h) (Le.refl _) [2, 3, 7, 8] (fuel := 18) (listed' := bts 24 399) (S' := ⟨[(228, (iN i)), (227, (sS A_to n_to c_to)), (223, (sS (some q28) n_r17 c_r17)), (222, (.agg [(sS A_tk2 n_tk2 c_tk2), (sS A_nm2 n_nm2 c_nm2), (sS A_rs2 n_rs2 c_rs2)])), (221, (bB true)), (220, (bB al)), (16, (bB true)), (18, (iN i)), (192, (iN i)), (191, (iN (n_to + 1))), (17, (bB al)), (12, (bB r20)), (10, (sS (some q28) n_r17 c_r17)), (9, (bB true)), (5, (.p 1 0)), (4, (.p 0 0)), (3, (sS A_to n_to c_to))], [], 3, [], [(0, bk25, (.cells 35 [(sS A_tk n_tk c_tk), (sS A_nm n_nm c_nm), (sS A_rs n_rs c_rs)])), (1, bk23, (.cells 35 [(sS A_tk2 n_tk2 c_tk2), (sS A_nm2 n_nm2 c_nm2), (sS A_rs2 n_rs2 c_rs2)]))]⟩) hz (by kernel_rfl) rfl ?_
                                        obtain ⟨_, ⟨_, _, rfl, hr69, hr74⟩, at68⟩ := h_r17.getk hx29
                                        obtain ⟨A71, n72, c73, rfl, hs70⟩ := Sl.of hr69
                                        replace hs70 : Sl (tInt .i64) _ A71 n72 c73 x31 := hs70
                                        have lhs70 := hs70.len'
                                        obtain ⟨A76, n77, c78, rfl, hs75⟩ := Sl.of hr74
                                        replace hs75 : Sl (tInt .i64) _ A76 n77 c78 x37 := hs75
                                        have lhs75 := hs75.len'
                                        replace at68 : At G12 (q28.add (0 * 2)) [.slice A71 n72 c73, .slice A76 n77 c78] := at68
                                        refine WD_idx htb 4 (by rfl) rfl (by decide +kernel) (fun _ _ _ _ _ h => h) (Le.refl _) q28 n_r17 0 2 (by kernel_rfl) (by omega) (by omega) ?_
                                        refine WD_takeL htb rfl (fun _ _ _ _ _ h => h) (Le.refl _) [5] (fuel := 16) (listed' := bts 24 447) (S' := ⟨[(225, (.v (.pointer (some ((q28.add (0 * 2)).add 1))))), (224, (.v (.pointer (some (q28.add (0 * 2)))))), (228, (iN i)), (227, (sS A_to n_to c_to)), (223, (sS (some q28) n_r17 c_r17)), (222, (.agg [(sS A_tk2 n_tk2 c_tk2), (sS A_nm2 n_nm2 c_nm2), (sS A_rs2 n_rs2 c_rs2)])), (221, (bB true)), (220, (bB al)), (16, (bB true)), (18, (iN i)), (192, (iN i)), (191, (iN (n_to + 1))), (17, (bB al)), (12, (bB r20)), (10, (sS (some q28) n_r17 c_r17)), (9, (bB true)), (5, (.p 1 0)), (4, (.p 0 0)), (3, (sS A_to n_to c_to))], [], 3, [], [(0, bk25, (.cells 35 [(sS A_tk n_tk c_tk), (sS A_nm n_nm c_nm), (sS A_rs n_rs c_rs)])), (1, bk23, (.cells 35 [(sS A_tk2 n_tk2 c_tk2), (sS A_nm2 n_nm2 c_nm2), (sS A_rs2 n_rs2 c_rs2)]))]⟩) hz (by kernel_rfl) rfl ?_
                                        refine WD_ld htb 6 (by rfl) rfl (by decide +kernel) (fun _ _ _ _ _ h => h) (Le.refl _) ((q28.add (0 * 2)).add 1) false 1 [.slice A76 n77 c78] (by kernel_rfl) (at68.field 1 rfl) rfl (by decide) ?_
                                        obtain ⟨A79, hA80⟩ : ∃ A, sliceAddr A_to c_to 0 1 = A := ⟨_, rfl⟩
                                        have hs81 := h_to.part 0 i (by omega) (by omega) hA80
                                        refine WD_sl htb 9 (by rfl) rfl (by decide +kernel) (fun _ _ _ _ _ h => h) (Le.refl _) A_to n_to c_to 0 i 1 (by kernel_rfl) (by omega) (by omega) hA80 ?_
                                        have lhs81 := hs81.len'
                                        refine WD_one 10 (by rfl) (by decide +kernel) (WOp_call 30 [(.agg [(sS A_tk2 n_tk2 c_tk2), (sS A_nm2 n_nm2 c_nm2), (sS A_rs2 n_rs2 c_rs2)]), (sS A76 n77 c78), (sS A79 (i - 0) (c_to - 0))] (by kernel_rfl) (goes_of Try.func30 rfl rfl) (fun ρ w hW => derives_ok hW.has (tk := tk2) (nm := nm2) (rs := rs2) (sq := x37) (to := ((to.take i).drop 0)) h_tk2 h_nm2 h_rs2 hs75 hs81 (by omega) (by omega)) ?_)
                                        intro G13 v hle hΦ
                                        replace hc27 := Le.trans hc27 hle
                                        replace h_tk := h_tk.mono hle
                                        replace h_nm := h_nm.mono hle
                                        replace h_rs := h_rs.mono hle
                                        replace h_tk2 := h_tk2.mono hle
                                        replace h_nm2 := h_nm2.mono hle
                                        replace h_rs2 := h_rs2.mono hle
                                        replace h_to := h_to.mono hle
                                        replace h_r17 := h_r17.mono hle
                                        replace at30 := at30.mono hle
                                        replace hs70 := hs70.mono hle
                                        replace hs75 := hs75.mono hle
                                        replace at68 := at68.mono hle
                                        replace hs81 := hs81.mono hle
                                        replace hz := hz.mono hle
                                        obtain ⟨r82, rfl, hR83⟩ := hΦ
                                        refine WD_on hle ?_
                                        refine WD_up hle ?_
                                        refine WD_takeL htb rfl (fun _ _ _ _ _ h => h) (Le.refl _) [11, 12] (fuel := 11) (listed' := bts 24 8191) (S' := ⟨[(232, (bB r82)), (231, (bB r82)), (230, (bB r82)), (229, (sS A79 (i - 0) (c_to - 0))), (226, (sS A76 n77 c78)), (225, (.v (.pointer (some ((q28.add (0 * 2)).add 1))))), (224, (.v (.pointer (some (q28.add (0 * 2)))))), (228, (iN i)), (227, (sS A_to n_to c_to)), (223, (sS (some q28) n_r17 c_r17)), (222, (.agg [(sS A_tk2 n_tk2 c_tk2), (sS A_nm2 n_nm2 c_nm2), (sS A_rs2 n_rs2 c_rs2)])), (221, (bB true)), (220, (bB al)), (16, (bB true)), (18, (iN i)), (192, (iN i)), (191, (iN (n_to + 1))), (17, (bB al)), (12, (bB r20)), (10, (sS (some q28) n_r17 c_r17)), (9, (bB true)), (5, (.p 1 0)), (4, (.p 0 0)), (3, (sS A_to n_to c_to))], [], 3, [], [(0, bk25, (.cells 35 [(sS A_tk n_tk c_tk), (sS A_nm n_nm c_nm), (sS A_rs n_rs c_rs)])), (1, bk23, (.cells 35 [(sS A_tk2 n_tk2 c_tk2), (sS A_nm2 n_nm2 c_nm2), (sS A_rs2 n_rs2 c_rs2)]))]⟩) hz (by kernel_rfl) rfl ?_
                                        rw [hpe.2, List.drop_zero] at hR83
                                        refine WK_split 232 r82 rfl (fun hq1 => ?_) (fun hq1 => ?_)
                                        · skip
                                          refine WK_keep [232, 231, 230, 229, 226, 225, 224, 228, 227, 223, 222, 221, 220, 16, 18, 192, 191, 17, 12, 10, 9, 5, 4, 3] [] rfl rfl ?_
                                          refine WD_takeL htb rfl (fun _ _ _ _ _ h => h) (Le.refl _) [13, 14, 18, 19] (fuel := 7) (listed' := bts 24 819199) (S' := ⟨[(239, (iN i)), (238, (sS A_to n_to c_to)), (234, (sS (some q28) n_r17 c_r17)), (233, (.agg [(sS A_tk2 n_tk2 c_tk2), (sS A_nm2 n_nm2 c_nm2), (sS A_rs2 n_rs2 c_rs2)])), (232, (bB true)), (231, (bB r82)), (230, (bB r82)), (229, (sS A79 (i - 0) (c_to - 0))), (226, (sS A76 n77 c78)), (225, (.v (.pointer (some ((q28.add (0 * 2)).add 1))))), (224, (.v (.pointer (some (q28.add (0 * 2)))))), (228, (iN i)), (227, (sS A_to n_to c_to)), (223, (sS (some q28) n_r17 c_r17)), (222, (.agg [(sS A_tk2 n_tk2 c_tk2), (sS A_nm2 n_nm2 c_nm2), (sS A_rs2 n_rs2 c_rs2)])), (221, (bB true)), (220, (bB al)), (16, (bB true)), (18, (iN i)), (192, (iN i)), (191, (iN (n_to + 1))), (17, (bB al)), (12, (bB r20)), (10, (sS (some q28) n_r17 c_r17)), (9, (bB true)), (5, (.p 1 0)), (4, (.p 0 0)), (3, (sS A_to n_to c_to))], [], 3, [], [(0, bk25, (.cells 35 [(sS A_tk n_tk c_tk), (sS A_nm n_nm c_nm), (sS A_rs n_rs c_rs)])), (1, bk23, (.cells 35 [(sS A_tk2 n_tk2 c_tk2), (sS A_nm2 n_nm2 c_nm2), (sS A_rs2 n_rs2 c_rs2)]))]⟩) hz (by kernel_rfl) rfl ?_
                                          obtain ⟨_, ⟨_, _, rfl, hr86, hr91⟩, at85⟩ := h_r17.getk hx48
                                          obtain ⟨A88, n89, c90, rfl, hs87⟩ := Sl.of hr86
                                          replace hs87 : Sl (tInt .i64) _ A88 n89 c90 x50 := hs87
                                          have lhs87 := hs87.len'
                                          obtain ⟨A93, n94, c95, rfl, hs92⟩ := Sl.of hr91
                                          replace hs92 : Sl (tInt .i64) _ A93 n94 c95 x56 := hs92
                                          have lhs92 := hs92.len'
                                          replace at85 : At G13 (q28.add (1 * 2)) [.slice A88 n89 c90, .slice A93 n94 c95] := at85
                                          refine WD_idx htb 15 (by rfl) rfl (by decide +kernel) (fun _ _ _ _ _ h => h) (Le.refl _) q28 n_r17 1 2 (by kernel_rfl) (by omega) (by omega) ?_
                                          refine WD_takeL htb rfl (fun _ _ _ _ _ h => h) (Le.refl _) [16] (fuel := 5) (listed' := bts 24 917503) (S' := ⟨[(236, (.v (.pointer (some ((q28.add (1 * 2)).add 1))))), (235, (.v (.pointer (some (q28.add (1 * 2)))))), (239, (iN i)), (238, (sS A_to n_to c_to)), (234, (sS (some q28) n_r17 c_r17)), (233, (.agg [(sS A_tk2 n_tk2 c_tk2), (sS A_nm2 n_nm2 c_nm2), (sS A_rs2 n_rs2 c_rs2)])), (232, (bB true)), (231, (bB r82)), (230, (bB r82)), (229, (sS A79 (i - 0) (c_to - 0))), (226, (sS A76 n77 c78)), (225, (.v (.pointer (some ((q28.add (0 * 2)).add 1))))), (224, (.v (.pointer (some (q28.add (0 * 2)))))), (228, (iN i)), (227, (sS A_to n_to c_to)), (223, (sS (some q28) n_r17 c_r17)), (222, (.agg [(sS A_tk2 n_tk2 c_tk2), (sS A_nm2 n_nm2 c_nm2), (sS A_rs2 n_rs2 c_rs2)])), (221, (bB true)), (220, (bB al)), (16, (bB true)), (18, (iN i)), (192, (iN i)), (191, (iN (n_to + 1))), (17, (bB al)), (12, (bB r20)), (10, (sS (some q28) n_r17 c_r17)), (9, (bB true)), (5, (.p 1 0)), (4, (.p 0 0)), (3, (sS A_to n_to c_to))], [], 3, [], [(0, bk25, (.cells 35 [(sS A_tk n_tk c_tk), (sS A_nm n_nm c_nm), (sS A_rs n_rs c_rs)])), (1, bk23, (.cells 35 [(sS A_tk2 n_tk2 c_tk2), (sS A_nm2 n_nm2 c_nm2), (sS A_rs2 n_rs2 c_rs2)]))]⟩) hz (by kernel_rfl) rfl ?_
                                          refine WD_ld htb 17 (by rfl) rfl (by decide +kernel) (fun _ _ _ _ _ h => h) (Le.refl _) ((q28.add (1 * 2)).add 1) false 1 [.slice A93 n94 c95] (by kernel_rfl) (at85.field 1 rfl) rfl (by decide) ?_
                                          obtain ⟨A96, hA97⟩ : ∃ A, sliceAddr A_to c_to i 1 = A := ⟨_, rfl⟩
                                          have hs98 := h_to.from i (by omega) hA97
                                          refine WD_sl htb 20 (by rfl) rfl (by decide +kernel) (fun _ _ _ _ _ h => h) (Le.refl _) A_to n_to c_to i n_to 1 (by kernel_rfl) (by omega) (by omega) hA97 ?_
                                          have lhs98 := hs98.len'
                                          refine WD_one 21 (by rfl) (by decide +kernel) (WOp_call 30 [(.agg [(sS A_tk2 n_tk2 c_tk2), (sS A_nm2 n_nm2 c_nm2), (sS A_rs2 n_rs2 c_rs2)]), (sS A93 n94 c95), (sS A96 (n_to - i) (c_to - i))] (by kernel_rfl) (goes_of Try.func30 rfl rfl) (fun ρ w hW => derives_ok hW.has (tk := tk2) (nm := nm2) (rs := rs2) (sq := x56) (to := (to.drop i)) h_tk2 h_nm2 h_rs2 hs92 hs98 (by omega) (by omega)) ?_)
                                          intro G14 v hle hΦ
                                          replace hc27 := Le.trans hc27 hle
                                          replace h_tk := h_tk.mono hle
                                          replace h_nm := h_nm.mono hle
                                          replace h_rs := h_rs.mono hle
                                          replace h_tk2 := h_tk2.mono hle
                                          replace h_nm2 := h_nm2.mono hle
                                          replace h_rs2 := h_rs2.mono hle
                                          replace h_to := h_to.mono hle
                                          replace h_r17 := h_r17.mono hle
                                          replace at30 := at30.mono hle
                                          replace hs70 := hs70.mono hle
                                          replace hs75 := hs75.mono hle
                                          replace at68 := at68.mono hle
                                          replace hs81 := hs81.mono hle
                                          replace hs87 := hs87.mono hle
                                          replace hs92 := hs92.mono hle
                                          replace at85 := at85.mono hle
                                          replace hs98 := hs98.mono hle
                                          replace hz := hz.mono hle
                                          obtain ⟨r99, rfl, hR100⟩ := hΦ
                                          refine WD_on hle ?_
                                          refine WD_up hle ?_
                                          refine WD_takeL htb rfl (fun _ _ _ _ _ h => h) (Le.refl _) [22] (fuel := 1) (listed' := bts 24 8388607) (S' := ⟨[(242, (bB r99)), (241, (bB r99)), (240, (sS A96 (n_to - i) (c_to - i))), (237, (sS A93 n94 c95)), (236, (.v (.pointer (some ((q28.add (1 * 2)).add 1))))), (235, (.v (.pointer (some (q28.add (1 * 2)))))), (239, (iN i)), (238, (sS A_to n_to c_to)), (234, (sS (some q28) n_r17 c_r17)), (233, (.agg [(sS A_tk2 n_tk2 c_tk2), (sS A_nm2 n_nm2 c_nm2), (sS A_rs2 n_rs2 c_rs2)])), (232, (bB true)), (231, (bB r82)), (230, (bB r82)), (229, (sS A79 (i - 0) (c_to - 0))), (226, (sS A76 n77 c78)), (225, (.v (.pointer (some ((q28.add (0 * 2)).add 1))))), (224, (.v (.pointer (some (q28.add (0 * 2)))))), (228, (iN i)), (227, (sS A_to n_to c_to)), (223, (sS (some q28) n_r17 c_r17)), (222, (.agg [(sS A_tk2 n_tk2 c_tk2), (sS A_nm2 n_nm2 c_nm2), (sS A_rs2 n_rs2 c_rs2)])), (221, (bB true)), (220, (bB al)), (16, (bB true)), (18, (iN i)), (192, (iN i)), (191, (iN (n_to + 1))), (17, (bB al)), (12, (bB r20)), (10, (sS (some q28) n_r17 c_r17)), (9, (bB true)), (5, (.p 1 0)), (4, (.p 0 0)), (3, (sS A_to n_to c_to))], [], 3, [], [(0, bk25, (.cells 35 [(sS A_tk n_tk c_tk), (sS A_nm n_nm c_nm), (sS A_rs n_rs c_rs)])), (1, bk23, (.cells 35 [(sS A_tk2 n_tk2 c_tk2), (sS A_nm2 n_nm2 c_nm2), (sS A_rs2 n_rs2 c_rs2)]))]⟩) hz (by kernel_rfl) rfl ?_
                                          refine WK_keep [242, 241, 240, 237, 236, 235, 239, 238, 234, 233, 232, 231, 230, 229, 226, 225, 224, 228, 227, 223, 222, 221, 220, 16, 18, 192, 191, 12, 10, 9, 5, 4, 3] [] rfl rfl ?_
                                          refine WD_takeL htb rfl (fun _ _ _ _ _ h => h) (Le.refl _) [23] (fuel := 0) (listed' := bts 24 16777215) (S' := ⟨[(17, (bB r99)), (242, (bB r99)), (241, (bB r99)), (240, (sS A96 (n_to - i) (c_to - i))), (237, (sS A93 n94 c95)), (236, (.v (.pointer (some ((q28.add (1 * 2)).add 1))))), (235, (.v (.pointer (some (q28.add (1 * 2)))))), (239, (iN i)), (238, (sS A_to n_to c_to)), (234, (sS (some q28) n_r17 c_r17)), (233, (.agg [(sS A_tk2 n_tk2 c_tk2), (sS A_nm2 n_nm2 c_nm2), (sS A_rs2 n_rs2 c_rs2)])), (232, (bB true)), (231, (bB r82)), (230, (bB r82)), (229, (sS A79 (i - 0) (c_to - 0))), (226, (sS A76 n77 c78)), (225, (.v (.pointer (some ((q28.add (0 * 2)).add 1))))), (224, (.v (.pointer (some (q28.add (0 * 2)))))), (228, (iN i)), (227, (sS A_to n_to c_to)), (223, (sS (some q28) n_r17 c_r17)), (222, (.agg [(sS A_tk2 n_tk2 c_tk2), (sS A_nm2 n_nm2 c_nm2), (sS A_rs2 n_rs2 c_rs2)])), (221, (bB true)), (220, (bB al)), (16, (bB true)), (18, (iN i)), (192, (iN i)), (191, (iN (n_to + 1))), (12, (bB r20)), (10, (sS (some q28) n_r17 c_r17)), (9, (bB true)), (5, (.p 1 0)), (4, (.p 0 0)), (3, (sS A_to n_to c_to))], [], 3, [], [(0, bk25, (.cells 35 [(sS A_tk n_tk c_tk), (sS A_nm n_nm c_nm), (sS A_rs n_rs c_rs)])), (1, bk23, (.cells 35 [(sS A_tk2 n_tk2 c_tk2), (sS A_nm2 n_nm2 c_nm2), (sS A_rs2 n_rs2 c_rs2)]))]⟩) hz (by kernel_rfl) rfl ?_
                                          refine WD_done (by decide +kernel) ?_
                                          refine WK_keep [17, 16, 192, 191, 12, 10, 9, 5, 4, 3] [] rfl rfl ?_
                                          refine WQ_blk ?_
                                          refine WQ_code ?_
                                          refine WC_region ?_
                                          refine WL_execS htb 2 [192, 17, 16, 191, 12, 10, 9, 5, 4, 3] [] ⟨[(192, (iI (IntKind.i64.wrap (((i : Nat) : Int) + 1)))), (17, (bB r99)), (16, (bB true)), (191, (iN (n_to + 1))), (12, (bB r20)), (10, (sS (some q28) n_r17 c_r17)), (9, (bB true)), (5, (.p 1 0)), (4, (.p 0 0)), (3, (sS A_to n_to c_to))], [], 3, [], [(0, bk25, (.cells 35 [(sS A_tk n_tk c_tk), (sS A_nm n_nm c_nm), (sS A_rs n_rs c_rs)])), (1, bk23, (.cells 35 [(sS A_tk2 n_tk2 c_tk2), (sS A_nm2 n_nm2 c_nm2), (sS A_rs2 n_rs2 c_rs2)]))]⟩ (by kernel_rfl) ?_
                                          refine WL_nil ?_
                                          rw [hpf.2] at hR100
                                          refine WK_env [(192, (iN (i + 1))), (17, (bB r99)), (16, (bB true)), (191, (iN (n_to + 1))), (12, (bB r20)), (10, (sS (some q28) n_r17 c_r17)), (9, (bB true)), (5, (.p 1 0)), (4, (.p 0 0)), (3, (sS A_to n_to c_to))] (fun ρ => ⟨rfl, (congrArg (Value.int .i64) (by rw [wrap_id (by omega)]; first | rfl | omega)), ⟨rfl, rfl, ⟨rfl, rfl, ⟨rfl, rfl, ⟨rfl, rfl, ⟨rfl, rfl, ⟨rfl, rfl, ⟨rfl, rfl, ⟨rfl, rfl, ⟨rfl, rfl, trivial⟩⟩⟩⟩⟩⟩⟩⟩⟩⟩) ?_
                                          refine WK_keep [192, 191, 17, 16, 12, 10, 9, 5, 4, 3] [] rfl rfl ?_
                                          exact WQ_next ((i + 1), true, r99) (by show n_to + 1 - (i + 1) < n_to + 1 - i; omega) ⟨hc27, ⟨by omega, cut_yes hP, all_yes5 (hal hal0) (fun h => ⟨hR83.1 hq1, hR100.1 h⟩)⟩⟩ (fun ρ a w h => h)
                                        · skip
                                          refine WK_keep [232, 231, 230, 229, 226, 225, 224, 228, 227, 223, 222, 221, 220, 16, 18, 192, 191, 17, 12, 10, 9, 5, 4, 3] [] rfl rfl ?_
                                          refine WD_takeL htb rfl (fun _ _ _ _ _ h => h) (Le.refl _) [13, 14, 15, 16, 17, 18, 19, 20, 21, 22] (fuel := 1) (listed' := bts 24 8388607) (S' := ⟨[(242, (bB false)), (241, (.v (undef))), (240, (.v (undef))), (239, (.v (undef))), (238, (.v (undef))), (237, (.v (undef))), (236, (.v (undef))), (235, (.v (undef))), (234, (.v (undef))), (233, (.v (undef))), (232, (bB false)), (231, (bB r82)), (230, (bB r82)), (229, (sS A79 (i - 0) (c_to - 0))), (226, (sS A76 n77 c78)), (225, (.v (.pointer (some ((q28.add (0 * 2)).add 1))))), (224, (.v (.pointer (some (q28.add (0 * 2)))))), (228, (iN i)), (227, (sS A_to n_to c_to)), (223, (sS (some q28) n_r17 c_r17)), (222, (.agg [(sS A_tk2 n_tk2 c_tk2), (sS A_nm2 n_nm2 c_nm2), (sS A_rs2 n_rs2 c_rs2)])), (221, (bB true)), (220, (bB al)), (16, (bB true)), (18, (iN i)), (192, (iN i)), (191, (iN (n_to + 1))), (17, (bB al)), (12, (bB r20)), (10, (sS (some q28) n_r17 c_r17)), (9, (bB true)), (5, (.p 1 0)), (4, (.p 0 0)), (3, (sS A_to n_to c_to))], [], 3, [], [(0, bk25, (.cells 35 [(sS A_tk n_tk c_tk), (sS A_nm n_nm c_nm), (sS A_rs n_rs c_rs)])), (1, bk23, (.cells 35 [(sS A_tk2 n_tk2 c_tk2), (sS A_nm2 n_nm2 c_nm2), (sS A_rs2 n_rs2 c_rs2)]))]⟩) hz (by kernel_rfl) rfl ?_
                                          refine WK_keep [242, 241, 240, 239, 238, 237, 236, 235, 234, 233, 232, 231, 230, 229, 226, 225, 224, 228, 227, 223, 222, 221, 220, 16, 18, 192, 191, 12, 10, 9, 5, 4, 3] [] rfl rfl ?_
                                          refine WD_takeL htb rfl (fun _ _ _ _ _ h => h) (Le.refl _) [23] (fuel := 0) (listed' := bts 24 16777215) (S' := ⟨[(17, (bB false)), (242, (bB false)), (241, (.v (undef))), (240, (.v (undef))), (239, (.v (undef))), (238, (.v (undef))), (237, (.v (undef))), (236, (.v (undef))), (235, (.v (undef))), (234, (.v (undef))), (233, (.v (undef))), (232, (bB false)), (231, (bB r82)), (230, (bB r82)), (229, (sS A79 (i - 0) (c_to - 0))), (226, (sS A76 n77 c78)), (225, (.v (.pointer (some ((q28.add (0 * 2)).add 1))))), (224, (.v (.pointer (some (q28.add (0 * 2)))))), (228, (iN i)), (227, (sS A_to n_to c_to)), (223, (sS (some q28) n_r17 c_r17)), (222, (.agg [(sS A_tk2 n_tk2 c_tk2), (sS A_nm2 n_nm2 c_nm2), (sS A_rs2 n_rs2 c_rs2)])), (221, (bB true)), (220, (bB al)), (16, (bB true)), (18, (iN i)), (192, (iN i)), (191, (iN (n_to + 1))), (12, (bB r20)), (10, (sS (some q28) n_r17 c_r17)), (9, (bB true)), (5, (.p 1 0)), (4, (.p 0 0)), (3, (sS A_to n_to c_to))], [], 3, [], [(0, bk25, (.cells 35 [(sS A_tk n_tk c_tk), (sS A_nm n_nm c_nm), (sS A_rs n_rs c_rs)])), (1, bk23, (.cells 35 [(sS A_tk2 n_tk2 c_tk2), (sS A_nm2 n_nm2 c_nm2), (sS A_rs2 n_rs2 c_rs2)]))]⟩) hz (by kernel_rfl) rfl ?_
                                          refine WD_done (by decide +kernel) ?_
                                          refine WK_keep [17, 16, 192, 191, 12, 10, 9, 5, 4, 3] [] rfl rfl ?_
                                          refine WQ_blk ?_
                                          refine WQ_code ?_
                                          refine WC_region ?_
                                          refine WL_execS htb 2 [192, 17, 16, 191, 12, 10, 9, 5, 4, 3] [] ⟨[(192, (iI (IntKind.i64.wrap (((i : Nat) : Int) + 1)))), (17, (bB false)), (16, (bB true)), (191, (iN (n_to + 1))), (12, (bB r20)), (10, (sS (some q28) n_r17 c_r17)), (9, (bB true)), (5, (.p 1 0)), (4, (.p 0 0)), (3, (sS A_to n_to c_to))], [], 3, [], [(0, bk25, (.cells 35 [(sS A_tk n_tk c_tk), (sS A_nm n_nm c_nm), (sS A_rs n_rs c_rs)])), (1, bk23, (.cells 35 [(sS A_tk2 n_tk2 c_tk2), (sS A_nm2 n_nm2 c_nm2), (sS A_rs2 n_rs2 c_rs2)]))]⟩ (by kernel_rfl) ?_
                                          refine WL_nil ?_
                                          refine WK_env [(192, (iN (i + 1))), (17, (bB false)), (16, (bB true)), (191, (iN (n_to + 1))), (12, (bB r20)), (10, (sS (some q28) n_r17 c_r17)), (9, (bB true)), (5, (.p 1 0)), (4, (.p 0 0)), (3, (sS A_to n_to c_to))] (fun ρ => ⟨rfl, (congrArg (Value.int .i64) (by rw [wrap_id (by omega)]; first | rfl | omega)), ⟨rfl, rfl, ⟨rfl, rfl, ⟨rfl, rfl, ⟨rfl, rfl, ⟨rfl, rfl, ⟨rfl, rfl, ⟨rfl, rfl, ⟨rfl, rfl, ⟨rfl, rfl, trivial⟩⟩⟩⟩⟩⟩⟩⟩⟩⟩) ?_
                                          refine WK_keep [192, 191, 17, 16, 12, 10, 9, 5, 4, 3] [] rfl rfl ?_
                                          exact WQ_next ((i + 1), true, false) (by show n_to + 1 - (i + 1) < n_to + 1 - i; omega) ⟨hc27, ⟨by omega, cut_yes hP, (fun h => by cases h)⟩⟩ (fun ρ a w h => h)
                                      · skip
                                        refine WK_keep [221, 220, 16, 18, 192, 191, 17, 12, 10, 9, 5, 4, 3] [] rfl rfl ?_
                                        refine WD_takeL htb rfl (fun _ _ _ _ _ h => h) (Le.refl _) [2, 3, 4, 5, 6, 7, 8, 9, 10, 11, 12, 13, 14, 15, 16, 17, 18, 19, 20, 21, 22] (fuel := 1) (listed' := bts 24 8388607) (S' := ⟨[(242, (bB false)), (241, (.v (undef))), (240, (.v (undef))), (239, (.v (undef))), (238, (.v (undef))), (237, (.v (undef))), (236, (.v (undef))), (235, (.v (undef))), (234, (.v (undef))), (233, (.v (undef))), (232, (bB false)), (231, (bB false)), (230, (.v (undef))), (229, (.v (undef))), (228, (.v (undef))), (227, (.v (undef))), (226, (.v (undef))), (225, (.v (undef))), (224, (.v (undef))), (223, (.v (undef))), (222, (.v (undef))), (221, (bB false)), (220, (bB al)), (16, (bB true)), (18, (iN i)), (192, (iN i)), (191, (iN (n_to + 1))), (17, (bB al)), (12, (bB r20)), (10, (sS (some q28) n_r17 c_r17)), (9, (bB true)), (5, (.p 1 0)), (4, (.p 0 0)), (3, (sS A_to n_to c_to))], [], 3, [], [(0, bk25, (.cells 35 [(sS A_tk n_tk c_tk), (sS A_nm n_nm c_nm), (sS A_rs n_rs c_rs)])), (1, bk23, (.cells 35 [(sS A_tk2 n_tk2 c_tk2), (sS A_nm2 n_nm2 c_nm2), (sS A_rs2 n_rs2 c_rs2)]))]⟩) hz (by kernel_rfl) rfl ?_
                                        refine WK_keep [242, 241, 240, 239, 238, 237, 236, 235, 234, 233, 232, 231, 230, 229, 228, 227, 226, 225, 224, 223, 222, 221, 220, 16, 18, 192, 191, 12, 10, 9, 5, 4, 3] [] rfl rfl ?_
                                        refine WD_takeL htb rfl (fun _ _ _ _ _ h => h) (Le.refl _) [23] (fuel := 0) (listed' := bts 24 16777215) (S' := ⟨[(17, (bB false)), (242, (bB false)), (241, (.v (undef))), (240, (.v (undef))), (239, (.v (undef))), (238, (.v (undef))), (237, (.v (undef))), (236, (.v (undef))), (235, (.v (undef))), (234, (.v (undef))), (233, (.v (undef))), (232, (bB false)), (231, (bB false)), (230, (.v (undef))), (229, (.v (undef))), (228, (.v (undef))), (227, (.v (undef))), (226, (.v (undef))), (225, (.v (undef))), (224, (.v (undef))), (223, (.v (undef))), (222, (.v (undef))), (221, (bB false)), (220, (bB al)), (16, (bB true)), (18, (iN i)), (192, (iN i)), (191, (iN (n_to + 1))), (12, (bB r20)), (10, (sS (some q28) n_r17 c_r17)), (9, (bB true)), (5, (.p 1 0)), (4, (.p 0 0)), (3, (sS A_to n_to c_to))], [], 3, [], [(0, bk25, (.cells 35 [(sS A_tk n_tk c_tk), (sS A_nm n_nm c_nm), (sS A_rs n_rs c_rs)])), (1, bk23, (.cells 35 [(sS A_tk2 n_tk2 c_tk2), (sS A_nm2 n_nm2 c_nm2), (sS A_rs2 n_rs2 c_rs2)]))]⟩) hz (by kernel_rfl) rfl ?_
                                        refine WD_done (by decide +kernel) ?_
                                        refine WK_keep [17, 16, 192, 191, 12, 10, 9, 5, 4, 3] [] rfl rfl ?_
                                        refine WQ_blk ?_
                                        refine WQ_code ?_
                                        refine WC_region ?_
                                        refine WL_execS htb 2 [192, 17, 16, 191, 12, 10, 9, 5, 4, 3] [] ⟨[(192, (iI (IntKind.i64.wrap (((i : Nat) : Int) + 1)))), (17, (bB false)), (16, (bB true)), (191, (iN (n_to + 1))), (12, (bB r20)), (10, (sS (some q28) n_r17 c_r17)), (9, (bB true)), (5, (.p 1 0)), (4, (.p 0 0)), (3, (sS A_to n_to c_to))], [], 3, [], [(0, bk25, (.cells 35 [(sS A_tk n_tk c_tk), (sS A_nm n_nm c_nm), (sS A_rs n_rs c_rs)])), (1, bk23, (.cells 35 [(sS A_tk2 n_tk2 c_tk2), (sS A_nm2 n_nm2 c_nm2), (sS A_rs2 n_rs2 c_rs2)]))]⟩ (by kernel_rfl) ?_
                                        refine WL_nil ?_
                                        refine WK_env [(192, (iN (i + 1))), (17, (bB false)), (16, (bB true)), (191, (iN (n_to + 1))), (12, (bB r20)), (10, (sS (some q28) n_r17 c_r17)), (9, (bB true)), (5, (.p 1 0)), (4, (.p 0 0)), (3, (sS A_to n_to c_to))] (fun ρ => ⟨rfl, (congrArg (Value.int .i64) (by rw [wrap_id (by omega)]; first | rfl | omega)), ⟨rfl, rfl, ⟨rfl, rfl, ⟨rfl, rfl, ⟨rfl, rfl, ⟨rfl, rfl, ⟨rfl, rfl, ⟨rfl, rfl, ⟨rfl, rfl, ⟨rfl, rfl, trivial⟩⟩⟩⟩⟩⟩⟩⟩⟩⟩) ?_
                                        refine WK_keep [192, 191, 17, 16, 12, 10, 9, 5, 4, 3] [] rfl rfl ?_
                                        exact WQ_next ((i + 1), true, false) (by show n_to + 1 - (i + 1) < n_to + 1 - i; omega) ⟨hc27, ⟨by omega, cut_yes hP, (fun h => by cases h)⟩⟩ (fun ρ a w h => h)
                                    · skip
                                      refine WC_skip ?_
                                      refine WQ_blk ?_
                                      refine WQ_code ?_
                                      refine WC_region ?_
                                      refine WL_execS htb 2 [192, 191, 17, 16, 12, 10, 9, 5, 4, 3] [] ⟨[(192, (iI (IntKind.i64.wrap (((i : Nat) : Int) + 1)))), (191, (iN (n_to + 1))), (17, (bB al)), (16, (bB cu)), (12, (bB r20)), (10, (sS (some q28) n_r17 c_r17)), (9, (bB true)), (5, (.p 1 0)), (4, (.p 0 0)), (3, (sS A_to n_to c_to))], [], 3, [], [(0, bk25, (.cells 35 [(sS A_tk n_tk c_tk), (sS A_nm n_nm c_nm), (sS A_rs n_rs c_rs)])), (1, bk23, (.cells 35 [(sS A_tk2 n_tk2 c_tk2), (sS A_nm2 n_nm2 c_nm2), (sS A_rs2 n_rs2 c_rs2)]))]⟩ (by kernel_rfl) ?_
                                      refine WL_nil ?_
                                      refine WK_env [(192, (iN (i + 1))), (191, (iN (n_to + 1))), (17, (bB al)), (16, (bB cu)), (12, (bB r20)), (10, (sS (some q28) n_r17 c_r17)), (9, (bB true)), (5, (.p 1 0)), (4, (.p 0 0)), (3, (sS A_to n_to c_to))] (fun ρ => ⟨rfl, (congrArg (Value.int .i64) (by rw [wrap_id (by omega)]; first | rfl | omega)), ⟨rfl, rfl, ⟨rfl, rfl, ⟨rfl, rfl, ⟨rfl, rfl, ⟨rfl, rfl, ⟨rfl, rfl, ⟨rfl, rfl, ⟨rfl, rfl, ⟨rfl, rfl, trivial⟩⟩⟩⟩⟩⟩⟩⟩⟩⟩) ?_
                                      refine WK_keep [192, 191, 17, 16, 12, 10, 9, 5, 4, 3] [] rfl rfl ?_
                                      exact WQ_next ((i + 1), cu, al) (by show n_to + 1 - (i + 1) < n_to + 1 - i; omega) ⟨hc27, ⟨by omega, cut_no hcu (fun h => by rw [hR66.2 h.2] at hp2; cases hp2), all_no5 hal (fun h => by rw [hR66.2 h.2] at hp2; cases hp2)⟩⟩ (fun ρ a w h => h)
                                  · skip
                                    refine WK_keep [209, 208, 207, 206, 203, 202, 201, 205, 204, 200, 199, 198, 197, 196, 195, 18, 192, 191, 17, 16, 12, 10, 9, 5, 4, 3] [] rfl rfl ?_
                                    refine WD_takeL htb rfl (fun _ _ _ _ _ h => h) (Le.refl _) [15, 16, 17, 18, 19, 20, 21, 22, 23, 24] (fuel := 0) (listed' := bts 25 33554431) (S' := ⟨[(219, (bB false)), (218, (.v (undef))), (217, (.v (undef))), (216, (.v (undef))), (215, (.v (undef))), (214, (.v (undef))), (213, (.v (undef))), (212, (.v (undef))), (211, (.v (undef))), (210, (.v (undef))), (209, (bB false)), (208, (bB r46)), (207, (bB r46)), (206, (sS A43 (i - 0) (c_to - 0))), (203, (sS A34 n35 c36)), (202, (.v (.pointer (some ((q28.add (0 * 2)).add 0))))), (201, (.v (.pointer (some (q28.add (0 * 2)))))), (205, (iN i)), (204, (sS A_to n_to c_to)), (200, (sS (some q28) n_r17 c_r17)), (199, (.agg [(sS A_tk n_tk c_tk), (sS A_nm n_nm c_nm), (sS A_rs n_rs c_rs)])), (198, (bB true)), (197, (bB ((((n_r17 : Nat) : Int) : Int) == 2))), (196, (iN n_r17)), (195, (sS (some q28) n_r17 c_r17)), (18, (iN i)), (192, (iN i)), (191, (iN (n_to + 1))), (17, (bB al)), (16, (bB cu)), (12, (bB r20)), (10, (sS (some q28) n_r17 c_r17)), (9, (bB true)), (5, (.p 1 0)), (4, (.p 0 0)), (3, (sS A_to n_to c_to))], [], 3, [], [(0, bk25, (.cells 35 [(sS A_tk n_tk c_tk), (sS A_nm n_nm c_nm), (sS A_rs n_rs c_rs)])), (1, bk23, (.cells 35 [(sS A_tk2 n_tk2 c_tk2), (sS A_nm2 n_nm2 c_nm2), (sS A_rs2 n_rs2 c_rs2)]))]⟩) hz (by kernel_rfl) rfl ?_
                                    refine WD_done (by decide +kernel) ?_
                                    refine WK_keep [219, 18, 192, 191, 17, 16, 12, 10, 9, 5, 4, 3] [] rfl rfl ?_
                                    refine WQ_code ?_
                                    refine WC_cond (b := false) rfl (fun h => by cases h) (fun _ => ?_)
                                    refine WC_skip ?_
                                    refine WQ_blk ?_
                                    refine WQ_code ?_
                                    refine WC_region ?_
                                    refine WL_execS htb 2 [192, 191, 17, 16, 12, 10, 9, 5, 4, 3] [] ⟨[(192, (iI (IntKind.i64.wrap (((i : Nat) : Int) + 1)))), (191, (iN (n_to + 1))), (17, (bB al)), (16, (bB cu)), (12, (bB r20)), (10, (sS (some q28) n_r17 c_r17)), (9, (bB true)), (5, (.p 1 0)), (4, (.p 0 0)), (3, (sS A_to n_to c_to))], [], 3, [], [(0, bk25, (.cells 35 [(sS A_tk n_tk c_tk), (sS A_nm n_nm c_nm), (sS A_rs n_rs c_rs)])), (1, bk23, (.cells 35 [(sS A_tk2 n_tk2 c_tk2), (sS A_nm2 n_nm2 c_nm2), (sS A_rs2 n_rs2 c_rs2)]))]⟩ (by kernel_rfl) ?_
                                    refine WL_nil ?_
                                    refine WK_env [(192, (iN (i + 1))), (191, (iN (n_to + 1))), (17, (bB al)), (16, (bB cu)), (12, (bB r20)), (10, (sS (some q28) n_r17 c_r17)), (9, (bB true)), (5, (.p 1 0)), (4, (.p 0 0)), (3, (sS A_to n_to c_to))] (fun ρ => ⟨rfl, (congrArg (Value.int .i64) (by rw [wrap_id (by omega)]; first | rfl | omega)), ⟨rfl, rfl, ⟨rfl, rfl, ⟨rfl, rfl, ⟨rfl, rfl, ⟨rfl, rfl, ⟨rfl, rfl, ⟨rfl, rfl, ⟨rfl, rfl, ⟨rfl, rfl, trivial⟩⟩⟩⟩⟩⟩⟩⟩⟩⟩) ?_
                                    refine WK_keep [192, 191, 17, 16, 12, 10, 9, 5, 4, 3] [] rfl rfl ?_
                                    exact WQ_next ((i + 1), cu, al) (by show n_to + 1 - (i + 1) < n_to + 1 - i; omega) ⟨hc27, ⟨by omega, cut_no hcu (fun h => by rw [hR47.2 h.1] at hp1; cases hp1), all_no5 hal (fun h => by rw [hR47.2 h.1] at hp1; cases hp1)⟩⟩ (fun ρ a w h => h)
                                · replace hc := of_decide_eq_false hc
                                  refine WC_exit ?_
                                  refine WQ_then_exit ?_
                                  refine WQ_then_exit ?_
                                  refine WQ_hit ?_
                                  refine WQ_code ?_
                                  refine WC_seq (WC_region ?_)
                                  refine WL_execS htb 7 [250, 17, 16, 12] [] ⟨[(250, (bB ((((n_r17 : Nat) : Int) : Int) == 2))), (17, (bB al)), (16, (bB cu)), (12, (bB r20))], [], 3, [], [(0, bk25, (.cells 35 [(sS A_tk n_tk c_tk), (sS A_nm n_nm c_nm), (sS A_rs n_rs c_rs)])), (1, bk23, (.cells 35 [(sS A_tk2 n_tk2 c_tk2), (sS A_nm2 n_nm2 c_nm2), (sS A_rs2 n_rs2 c_rs2)]))]⟩ (by kernel_rfl) ?_
                                  refine WK_env [(250, (bB true)), (17, (bB al)), (16, (bB cu)), (12, (bB r20))] (fun ρ => ⟨rfl, (congrArg Value.bool (by simp; omega)), ⟨rfl, rfl, ⟨rfl, rfl, ⟨rfl, rfl, trivial⟩⟩⟩⟩) ?_
                                  refine WL_execS htb 3 [253, 17, 12] [] ⟨[(253, (bB cu)), (17, (bB al)), (12, (bB r20))], [], 3, [], [(0, bk25, (.cells 35 [(sS A_tk n_tk c_tk), (sS A_nm n_nm c_nm), (sS A_rs n_rs c_rs)])), (1, bk23, (.cells 35 [(sS A_tk2 n_tk2 c_tk2), (sS A_nm2 n_nm2 c_nm2), (sS A_rs2 n_rs2 c_rs2)]))]⟩ (by kernel_rfl) ?_
                                  have hcut : cu = true := hcu.2 (by (obtain ⟨i', h1, h2⟩ := hE; exact ⟨i', by omega, h2⟩))
                                  refine WK_env [(253, (bB true)), (17, (bB al)), (12, (bB r20))] (fun ρ => ⟨rfl, (congrArg Value.bool (hcut)), ⟨rfl, rfl, ⟨rfl, rfl, trivial⟩⟩⟩) ?_
                                  refine WL_execS htb 3 [256, 253, 12] [] ⟨[(256, (bB (!al))), (253, (bB true)), (12, (bB r20))], [], 3, [], [(0, bk25, (.cells 35 [(sS A_tk n_tk c_tk), (sS A_nm n_nm c_nm), (sS A_rs n_rs c_rs)])), (1, bk23, (.cells 35 [(sS A_tk2 n_tk2 c_tk2), (sS A_nm2 n_nm2 c_nm2), (sS A_rs2 n_rs2 c_rs2)]))]⟩ (by kernel_rfl) ?_
                                  refine WK_split 256 (!al) rfl (fun hal0 => ?_) (fun hal0 => ?_)
                                  · rw [Bool.not_eq_true'] at hal0
                                    refine WK_keep [256, 253, 12] [] rfl rfl ?_
                                    refine WL_execS htb 4 [8] [] ⟨[(8, (bB true))], [], 3, [], [(0, bk25, (.cells 35 [(sS A_tk n_tk c_tk), (sS A_nm n_nm c_nm), (sS A_rs n_rs c_rs)])), (1, bk23, (.cells 35 [(sS A_tk2 n_tk2 c_tk2), (sS A_nm2 n_nm2 c_nm2), (sS A_rs2 n_rs2 c_rs2)]))]⟩ (by kernel_rfl) ?_
                                    refine WL_nil ?_
                                    refine WQ_code ?_
                                    refine WC_ret ?_
                                    exact WQ_done htb [(bB true)] _ (.inl rfl) rfl (by kernel_rfl) (fun ρ w hW => ⟨true, rfl, rfl⟩)
                                  · rw [Bool.not_eq_false'] at hal0
                                    refine WK_keep [256, 253, 12] [] rfl rfl ?_
                                    refine WL_execS htb 4 [8] [] ⟨[(8, (bB r20))], [], 3, [], [(0, bk25, (.cells 35 [(sS A_tk n_tk c_tk), (sS A_nm n_nm c_nm), (sS A_rs n_rs c_rs)])), (1, bk23, (.cells 35 [(sS A_tk2 n_tk2 c_tk2), (sS A_nm2 n_nm2 c_nm2), (sS A_rs2 n_rs2 c_rs2)]))]⟩ (by kernel_rfl) ?_
                                    refine WL_nil ?_
                                    refine WQ_code ?_
                                    refine WC_ret ?_
                                    exact WQ_done htb [(bB r20)] _ (.inl rfl) rfl (by kernel_rfl) (fun ρ w hW => ⟨r20, rfl, (hR21.2 (by (obtain ⟨i', h1, h2⟩ := hE; rw [hb]; have h3 := hal (by simpa using hal0) i' (by omega) h2; have h4 := derL_app h3.1 h3.2; rw [List.take_append_drop] at h4; exact h4)))⟩)

end Go.Proofs.Ytbpajkjolhoflaa.Sym
