/- Walks of functions that the laws of this seat reach, printed by a program of this session's. -/
import Derived.Test.YtbpajkjolhoflaaT22
import Derived.Test.YtbpajkjolhoflaaSymK
import Derived.Laws.Strings
import Derived.WideShapes
set_option linter.unusedSimpArgs false
set_option linter.unusedVariables false
set_option maxHeartbeats 4000000
namespace Go.Proofs.Ytbpajkjolhoflaa.Sym
open Go Go.Proofs Go.RowKit




def cubeAt (cu : List (List (List Bool))) (r i j : Nat) : Bool := ((cu.getD r []).getD i []).getD j false
def Dims (cu : List (List (List Bool))) (n : Nat) : Prop := ∀ a ∈ cu, a.length = n ∧ ∀ b ∈ a, b.length = n
def HopP (cu : List (List (List Bool))) (to : List Int) (k : Int) (i j : Nat) : Prop :=
  (0 ≤ k ∧ j = i + 1 ∧ to[i]? = some k) ∨ (k < 0 ∧ i ≤ j ∧ j ≤ to.length ∧ cubeAt cu (-1 - k).toNat i j = true)
def EndsP (cu : List (List (List Bool))) (to : List Int) : List Int → Nat → Nat → Prop
  | [], i, j => i = j
  | k :: sq, i, j => ∃ m, HopP cu to k i m ∧ EndsP cu to sq m j
theorem ends_snoc {cu : List (List (List Bool))} {to : List Int} {k : Int} : ∀ {sq : List Int} {i j : Nat}, EndsP cu to (sq ++ [k]) i j ↔ ∃ m, EndsP cu to sq i m ∧ HopP cu to k m j
  | [], i, j => by
    constructor
    · rintro ⟨m, h, rfl⟩; exact ⟨i, rfl, h⟩
    · rintro ⟨m, rfl, h⟩; exact ⟨j, h, rfl⟩
  | x :: sq, i, j => by
    constructor
    · rintro ⟨m, h, h2⟩
      obtain ⟨m', h3, h4⟩ := ends_snoc.1 h2
      exact ⟨m', ⟨m, h, h3⟩, h4⟩
    · rintro ⟨m, ⟨m', h1, h2⟩, h3⟩
      exact ⟨m', h1, ends_snoc.2 ⟨m, h2, h3⟩⟩
theorem hop_le {cu : List (List (List Bool))} {to : List Int} {k : Int} {i j : Nat} (h : HopP cu to k i j) : j ≤ to.length := by
  rcases h with ⟨_, h1, h2⟩ | h
  · have := (List.getElem?_eq_some_iff.1 h2).1; omega
  · exact h.2.2.1
theorem hop_none {cu : List (List (List Bool))} {to : List Int} {k : Int} {i j : Nat} (h : HopP cu to k i j) (hk : k < 0) (hn : (cu.length : Int) ≤ -1 - k) : False := by
  rcases h with h | ⟨_, _, _, h⟩
  · omega
  · unfold cubeAt at h
    rw [List.getD_eq_getElem?_getD, List.getD_eq_getElem?_getD, List.getD_eq_getElem?_getD, List.getElem?_eq_none (l := cu) (by omega)] at h
    simp at h
theorem getD_set {xs : List Bool} {i j : Nat} {v : Bool} : (xs.set i v).getD j false = true ↔ (i = j ∧ i < xs.length ∧ v = true) ∨ (i ≠ j ∧ xs.getD j false = true) := by
  simp only [List.getD_eq_getElem?_getD, List.getElem?_set]
  by_cases e : i = j
  · subst e
    simp only [if_true, true_and, ne_eq, not_true_eq_false, false_and, or_false]
    by_cases h : i < xs.length
    · rw [if_pos h]; simp [h]
    · rw [if_neg h]; simp [h]
  · rw [if_neg e]; simp [e]
theorem ends_start {cu : List (List (List Bool))} {to sq : List Int} {n fr : Nat} (h : fr < n) : ∀ j, ((List.replicate n false).set fr true).getD j false = true ↔ EndsP cu to (sq.take 0) fr j := fun j => by
  rw [getD_set]
  simp only [List.take_zero, EndsP, List.length_replicate, and_true, List.getD_eq_getElem?_getD, List.getElem?_replicate]
  constructor
  · rintro (⟨h1, _⟩ | ⟨_, h1⟩)
    · exact h1
    · split at h1 <;> simp at h1
  · intro h1; exact .inl ⟨h1, h⟩
theorem hops0 {P : Nat → Nat → Prop} {n : Nat} {xs : List Bool} : ∀ j, (List.replicate n false).getD j false = true ↔ ∃ i', i' < 0 ∧ xs.getD i' false = true ∧ P i' j := fun j => by
  simp only [List.getD_eq_getElem?_getD, List.getElem?_replicate]
  constructor
  · intro h1; split at h1 <;> simp at h1
  · rintro ⟨i, h, _⟩; omega
theorem hops_no {P : Nat → Nat → Prop} {xs ys : List Bool} {i : Nat} (h : ∀ j, ys.getD j false = true ↔ ∃ i', i' < i ∧ xs.getD i' false = true ∧ P i' j) (hm : xs.getD i false = false) :
    ∀ j, ys.getD j false = true ↔ ∃ i', i' < i + 1 ∧ xs.getD i' false = true ∧ P i' j := fun j => by
  rw [h j]
  constructor
  · rintro ⟨i', h1, h2⟩; exact ⟨i', by omega, h2⟩
  · rintro ⟨i', h1, h2, h3⟩
    by_cases e : i' = i
    · subst e; rw [hm] at h2; cases h2
    · exact ⟨i', by omega, h2, h3⟩
theorem hops_tok {cu : List (List (List Bool))} {to : List Int} {k x : Int} {xs ys : List Bool} {i : Nat} (h : ∀ j, ys.getD j false = true ↔ ∃ i', i' < i ∧ xs.getD i' false = true ∧ HopP cu to k i' j) (hl : ys.length = to.length + 1) (hm : xs.getD i false = true)
    (hk : 0 ≤ k) (hx : to[i]? = some x) (he : x = k) : ∀ j, (ys.set (i + 1) true).getD j false = true ↔ ∃ i', i' < i + 1 ∧ xs.getD i' false = true ∧ HopP cu to k i' j := fun j => by
  subst he
  have hi := (List.getElem?_eq_some_iff.1 hx).1
  rw [getD_set, h j]
  constructor
  · rintro (⟨h1, _⟩ | ⟨_, i', h1, h2⟩)
    · exact ⟨i, by omega, hm, .inl ⟨hk, h1.symm, hx⟩⟩
    · exact ⟨i', by omega, h2⟩
  · rintro ⟨i', h1, h2, h3⟩
    by_cases e : i + 1 = j
    · exact .inl ⟨e, by omega, rfl⟩
    · refine .inr ⟨e, i', ?_, h2, h3⟩
      by_cases e2 : i' = i
      · subst e2
        rcases h3 with h3 | h3
        · exact absurd h3.2.1.symm e
        · omega
      · omega
theorem hops_tokno {cu : List (List (List Bool))} {to : List Int} {k : Int} {xs ys : List Bool} {i : Nat} (h : ∀ j, ys.getD j false = true ↔ ∃ i', i' < i ∧ xs.getD i' false = true ∧ HopP cu to k i' j)
    (hk : 0 ≤ k) (he : ¬ to[i]? = some k) : ∀ j, ys.getD j false = true ↔ ∃ i', i' < i + 1 ∧ xs.getD i' false = true ∧ HopP cu to k i' j := fun j => by
  rw [h j]
  constructor
  · rintro ⟨i', h1, h2⟩; exact ⟨i', by omega, h2⟩
  · rintro ⟨i', h1, h2, h3⟩
    refine ⟨i', ?_, h2, h3⟩
    by_cases e2 : i' = i
    · subst e2
      rcases h3 with h3 | h3
      · exact absurd h3.2.2 he
      · omega
    · omega
theorem hops_in {P : Nat → Nat → Prop} {xs ys : List Bool} {i : Nat} (h : ∀ j, ys.getD j false = true ↔ ∃ i', i' < i ∧ xs.getD i' false = true ∧ P i' j) (hP : ∀ j, P i j → i ≤ j := by (intro j h; rcases h with h | h <;> omega)) :
    ∀ j, ys.getD j false = true ↔ (∃ i', i' < i ∧ xs.getD i' false = true ∧ P i' j) ∨ (j < i ∧ P i j) := fun j => by
  rw [h j]
  constructor
  · exact .inl
  · rintro (h | ⟨h1, h2⟩)
    · exact h
    · have := hP j h2; omega
theorem hops_set {cu : List (List (List Bool))} {to : List Int} {k : Int} {A : Nat → Prop} {zs : List Bool} {i j : Nat} {a : List (List Bool)} {b : List Bool} {v : Bool} (h : ∀ j', zs.getD j' false = true ↔ A j' ∨ (j' < j ∧ HopP cu to k i j')) (hl : zs.length = to.length + 1)
    (hu : zs.getD j false = false) (hk : ¬ 0 ≤ k) (hij : i ≤ j) (hj : j ≤ to.length) (h1 : cu[(-1 - k).toNat]? = some a) (h2 : a[i]? = some b) (h3 : b[j]? = some v) :
    ∀ j', (zs.set j v).getD j' false = true ↔ A j' ∨ (j' < j + 1 ∧ HopP cu to k i j') := fun j' => by
  have hc : cubeAt cu (-1 - k).toNat i j = v := by
    unfold cubeAt
    simp only [List.getD_eq_getElem?_getD, h1, h2, h3, Option.getD_some]
  rw [getD_set, h j']
  constructor
  · rintro (⟨e, _, hv⟩ | ⟨e, h4 | h4⟩)
    · subst e; exact .inr ⟨by omega, .inr ⟨by omega, hij, hj, by rw [hc, hv]⟩⟩
    · exact .inl h4
    · exact .inr ⟨by omega, h4.2⟩
  · rintro (h4 | ⟨h4, h5⟩)
    · by_cases e : j = j'
      · subst e; have := (h j).2 (.inl h4); rw [hu] at this; cases this
      · exact .inr ⟨e, .inl h4⟩
    · by_cases e : j = j'
      · subst e
        rcases h5 with h5 | h5
        · omega
        · exact .inl ⟨rfl, by omega, by rw [← hc]; exact h5.2.2.2⟩
      · exact .inr ⟨e, .inr ⟨by omega, h5⟩⟩
theorem hops_had {P : Nat → Prop} {A : Nat → Prop} {zs : List Bool} {n j : Nat} (h : ∀ j', zs.getD j' false = true ↔ A j' ∨ (j' < j ∧ P j')) (hl : zs.length = n + 1) (hu : zs.getD j false = true) :
    ∀ j', (zs.set j true).getD j' false = true ↔ A j' ∨ (j' < j + 1 ∧ P j') := fun j' => by
  have hA : A j := by
    rcases (h j).1 hu with h1 | h1
    · exact h1
    · omega
  have hj : j < zs.length := by
    rcases Nat.lt_or_ge j zs.length with h' | h'
    · exact h'
    · rw [List.getD_eq_getElem?_getD, List.getElem?_eq_none h'] at hu; cases hu
  rw [getD_set, h j']
  constructor
  · rintro (⟨e, _⟩ | ⟨e, h4 | h4⟩)
    · subst e; exact .inl hA
    · exact .inl h4
    · exact .inr ⟨by omega, h4.2⟩
  · intro h4
    by_cases e : j = j'
    · exact .inl ⟨e, hj, rfl⟩
    · refine .inr ⟨e, ?_⟩
      rcases h4 with h4 | h4
      · exact .inl h4
      · exact .inr ⟨by omega, h4.2⟩
theorem hops_out {P : Nat → Nat → Prop} {xs zs : List Bool} {i j : Nat} (h : ∀ j', zs.getD j' false = true ↔ (∃ i', i' < i ∧ xs.getD i' false = true ∧ P i' j') ∨ (j' < j ∧ P i j')) (hP : ∀ j', P i j' → j' < j ∨ False) (hm : xs.getD i false = true) :
    ∀ j', zs.getD j' false = true ↔ ∃ i', i' < i + 1 ∧ xs.getD i' false = true ∧ P i' j' := fun j' => by
  rw [h j']
  constructor
  · rintro (⟨i', h1, h2⟩ | ⟨h1, h2⟩)
    · exact ⟨i', by omega, h2⟩
    · exact ⟨i, by omega, hm, h2⟩
  · rintro ⟨i', h1, h2, h3⟩
    by_cases e : i' = i
    · subst e
      rcases hP j' h3 with h4 | h4
      · exact .inr ⟨h4, h3⟩
      · cases h4
    · exact .inl ⟨i', by omega, h2, h3⟩
theorem ends_step {cu : List (List (List Bool))} {to sq : List Int} {k : Int} {xs ys : List Bool} {t fr i : Nat} (hk : sq[t]? = some k) (hx : ∀ j, xs.getD j false = true ↔ EndsP cu to (sq.take t) fr j)
    (hy : ∀ j, ys.getD j false = true ↔ ∃ i', i' < i ∧ xs.getD i' false = true ∧ HopP cu to k i' j) (hi : xs.length ≤ i) : ∀ j, ys.getD j false = true ↔ EndsP cu to (sq.take (t + 1)) fr j := fun j => by
  rw [hy j, take_succ' hk, ends_snoc]
  constructor
  · rintro ⟨i', h1, h2, h3⟩; exact ⟨i', (hx i').1 h2, h3⟩
  · rintro ⟨i', h1, h2⟩
    have h3 := (hx i').2 h1
    refine ⟨i', ?_, h3, h2⟩
    rcases Nat.lt_or_ge i' xs.length with h' | h'
    · omega
    · rw [List.getD_eq_getElem?_getD, List.getElem?_eq_none h'] at h3; cases h3
theorem OwnL.bool {G : Heap} {xs : List Bool} {arr : Array Value} {cap : Nat} (ho : OwnL tBool G xs arr cap) {i : Nat} (hi : i < xs.length) : ∀ j v, [Value.bool (xs.getD i false)][j]? = some v → arr[i * 1 + j]? = some v := fun j v hj => by
  obtain ⟨cs, h1, h2⟩ := ho.at hi
  have h3 : cs = [.bool xs[i]] := h1
  subst h3
  have e : xs.getD i false = xs[i] := by rw [List.getD_eq_getElem?_getD, List.getElem?_eq_getElem hi]; rfl
  rw [e] at hj
  exact h2 j v hj
theorem ends_ok {w : World} {G : Heap} (hG : Has w G) {cu : (List (List (List Bool)))} {A_cu : Option Addr} {n_cu : Nat} {c_cu : Nat} {tk : (List ByteArray)} {A_tk : Option Addr} {n_tk : Nat} {c_tk : Nat} {nm : (List ByteArray)} {A_nm : Option Addr} {n_nm : Nat} {c_nm : Nat} {rs : (List (List (List Int)))} {A_rs : Option Addr} {n_rs : Nat} {c_rs : Nat} {sq : (List Int)} {A_sq : Option Addr} {n_sq : Nat} {c_sq : Nat} {to : (List Int)} {A_to : Option Addr} {n_to : Nat} {c_to : Nat} (h_cu : Sl (tSlice (tSlice tBool)) G A_cu n_cu c_cu cu) (h_tk : Sl tStr G A_tk n_tk c_tk tk) (h_nm : Sl tStr G A_nm n_nm c_nm nm) (h_rs : Sl (tSlice (tSlice (tInt .i64))) G A_rs n_rs c_rs rs) (h_sq : Sl (tInt .i64) G A_sq n_sq c_sq sq) (h_to : Sl (tInt .i64) G A_to n_to c_to to) {fr : Nat} (hfr : fr ≤ to.length) (hto : to.length ≤ 1000) (hdm : Dims cu (to.length + 1)) :
    Calls Try.prog 53 #[(.slice A_cu n_cu c_cu), (.agg #[.slice A_tk n_tk c_tk, .slice A_nm n_nm c_nm, .slice A_rs n_rs c_rs]), (.slice A_sq n_sq c_sq), (.slice A_to n_to c_to), (.int .i64 ((fr : Nat) : Int))] w (RetO w G tBool 4 fun ys => ys.length = to.length + 1 ∧ ∀ j, ys.getD j false = true ↔ EndsP cu to sq fr j) := by
  have lh_cu := h_cu.len'
  have lh_tk := h_tk.len'
  have lh_nm := h_nm.len'
  have lh_rs := h_rs.len'
  have lh_sq := h_sq.len'
  have lh_to := h_to.len'
  refine enter [(sS A_cu n_cu c_cu), (.agg [(sS A_tk n_tk c_tk), (sS A_nm n_nm c_nm), (sS A_rs n_rs c_rs)]), (sS A_sq n_sq c_sq), (sS A_to n_to c_to), (iN fr)] 100 Try.func53 rfl rfl rfl rfl hG ?_
  refine WC_seq (WC_region ?_)
  refine WL_execS htb 2 [0, 2, 3, 4] [] ⟨[(0, (sS A_cu n_cu c_cu)), (2, (sS A_sq n_sq c_sq)), (3, (sS A_to n_to c_to)), (4, (iN fr))], [], 1, [], []⟩ (by kernel_rfl) ?_
  refine WL_nil ?_
  refine WQ_code ?_
  refine WC_seq (WC_region ?_)
  refine WL_execS htb 3 [19, 0, 2, 3, 4] [] ⟨[(19, (iI (IntKind.i64.wrap (((n_to : Nat) : Int) + 1)))), (0, (sS A_cu n_cu c_cu)), (2, (sS A_sq n_sq c_sq)), (3, (sS A_to n_to c_to)), (4, (iN fr))], [], 1, [], []⟩ (by kernel_rfl) ?_
  refine WK_env [(19, (iN (n_to + 1))), (0, (sS A_cu n_cu c_cu)), (2, (sS A_sq n_sq c_sq)), (3, (sS A_to n_to c_to)), (4, (iN fr))] (fun ρ => ⟨rfl, (congrArg (Value.int .i64) (by rw [wrap_id (by omega)]; first | rfl | omega)), ⟨rfl, rfl, ⟨rfl, rfl, ⟨rfl, rfl, ⟨rfl, rfl, trivial⟩⟩⟩⟩⟩) ?_
  refine WL_op (WOp_make htb (n_to + 1) 4 1 1 (.bool false) (by kernel_rfl) (by rfl) (by rfl) tBool false (rep_bool _ false) rfl (by omega) (by unfold big; omega) (fun arr1 ho2 => ?_))
  show WL _ _ _ _ _ _ ⟨[(20, (.ls false 1 (n_to + 1) (n_to + 1))), (19, (iN (n_to + 1))), (0, (sS A_cu n_cu c_cu)), (2, (sS A_sq n_sq c_sq)), (3, (sS A_to n_to c_to)), (4, (iN fr))], [(1, (.lst false 4 arr1))], 2, [], []⟩ _
  refine WL_execS htb 1 [11, 0, 2, 3, 4] [1] ⟨[(11, (.ls false 1 (n_to + 1) (n_to + 1))), (0, (sS A_cu n_cu c_cu)), (2, (sS A_sq n_sq c_sq)), (3, (sS A_to n_to c_to)), (4, (iN fr))], [(1, (.lst false 4 arr1))], 2, [], []⟩ (by kernel_rfl) ?_
  refine WL_nil ?_
  refine WQ_code ?_
  refine WC_seq (WC_region ?_)
  refine WL_execS htb 2 [22, 21, 11, 0, 2, 3] [1] ⟨[(22, (iN fr)), (21, (.ls false 1 (n_to + 1) (n_to + 1))), (11, (.ls false 1 (n_to + 1) (n_to + 1))), (0, (sS A_cu n_cu c_cu)), (2, (sS A_sq n_sq c_sq)), (3, (sS A_to n_to c_to))], [(1, (.lst false 4 arr1))], 2, [], []⟩ (by kernel_rfl) ?_
  refine WL_op (WOp_idxo htb 1 (n_to + 1) ((fr : Nat) : Int) 1 (by kernel_rfl) (by omega) (by omega) ?_)
  obtain ⟨ho2, hfit⟩ := ho2.set (i := fr) (by rw [List.length_replicate]; omega) (y := true) (vs := [.bool true]) (rep_bool _ true)
  refine WL_op (WOp_sto htb 1 (fr * 1) [(bB true)] ([.bool true] : List Value) (by kernel_rfl) (fun ρ => rfl) rfl hfit ?_)
  refine WL_nil ?_
  refine WQ_code ?_
  refine WC_seq ?_
  refine WC_seq (WC_region ?_)
  refine WL_execS htb 3 [26, 25, 24, 11, 0, 3] [1] ⟨[(26, (iI 0)), (25, (iN n_sq)), (24, (sS A_sq n_sq c_sq)), (11, (.ls false 1 (n_to + 1) (n_to + 1))), (0, (sS A_cu n_cu c_cu)), (3, (sS A_to n_to c_to))], [(1, (.lst false 4 ((arr1.toList.take (fr * 1) ++ ([.bool true] : List Value) ++ arr1.toList.drop ((fr * 1) + 1)).toArray)))], 2, [], []⟩ (by kernel_rfl) ?_
  refine WL_nil ?_
  refine WQ_code ?_
  refine WC_block ?_
  have hl0 : ((List.replicate (n_to + 1) false).set fr true).length = to.length + 1 := by rw [List.length_set, List.length_replicate]; omega
  refine WK_keep [26, 25, 24, 11, 0, 3] [1] rfl rfl ?_
  refine WK_env [(26, (iN 0)), (25, (iN n_sq)), (24, (sS A_sq n_sq c_sq)), (11, (.ls false 1 (n_to + 1) (n_to + 1))), (0, (sS A_cu n_cu c_cu)), (3, (sS A_to n_to c_to))] (fun ρ => ⟨rfl, rfl, ⟨rfl, rfl, ⟨rfl, rfl, ⟨rfl, rfl, ⟨rfl, rfl, ⟨rfl, rfl, trivial⟩⟩⟩⟩⟩⟩) ?_
  refine WC_loop (ι := Nat × Array Value × List Bool) (fun (t, arr, xs) G3 => Le G G3 ∧ (t ≤ n_sq ∧ xs.length = to.length + 1 ∧ (∀ j, xs.getD j false = true ↔ EndsP cu to (sq.take t) fr j) ∧ OwnL tBool G3 xs arr (n_to + 1))) (fun (t, arr, xs) => ⟨[(26, (iN t)), (25, (iN n_sq)), (24, (sS A_sq n_sq c_sq)), (11, (.ls false 1 (n_to + 1) (n_to + 1))), (0, (sS A_cu n_cu c_cu)), (3, (sS A_to n_to c_to))], [(1, (.lst false 4 arr))], 2, [], []⟩) (fun (t, arr, xs) => n_sq - t) (0, (arr1.toList.take (fr * 1) ++ ([.bool true] : List Value) ++ arr1.toList.drop ((fr * 1) + 1)).toArray, ((List.replicate (n_to + 1) false).set fr true)) ⟨Le.refl _, ⟨Nat.zero_le _, hl0, ends_start (by omega), ho2⟩⟩ rfl ?_
  rintro ⟨t, arr, xs⟩ G3 ⟨hle, hF⟩
  show WC _ _ _ _ _ ⟨[(26, (iN t)), (25, (iN n_sq)), (24, (sS A_sq n_sq c_sq)), (11, (.ls false 1 (n_to + 1) (n_to + 1))), (0, (sS A_cu n_cu c_cu)), (3, (sS A_to n_to c_to))], [(1, (.lst false 4 arr))], 2, [], []⟩ _
  replace h_cu := h_cu.mono hle
  replace h_sq := h_sq.mono hle
  replace h_to := h_to.mono hle
  replace ho2 := ho2.mono hle
  have hc4 := hle
  obtain ⟨ht, hxl, hxe, ho⟩ := hF
  refine WC_seq (WC_region ?_)
  refine WL_execS htb 1 [27, 26, 25, 24, 11, 0, 3] [1] ⟨[(27, (bB (decide ((((t : Nat) : Int) : Int) < ((n_sq : Nat) : Int))))), (26, (iN t)), (25, (iN n_sq)), (24, (sS A_sq n_sq c_sq)), (11, (.ls false 1 (n_to + 1) (n_to + 1))), (0, (sS A_cu n_cu c_cu)), (3, (sS A_to n_to c_to))], [(1, (.lst false 4 arr))], 2, [], []⟩ (by kernel_rfl) ?_
  refine WL_nil ?_
  refine WQ_code ?_
  refine WC_seq ?_
  refine WC_cond (b := (decide ((((t : Nat) : Int) : Int) < ((n_sq : Nat) : Int)))) rfl (fun hc => ?_) (fun hc => ?_)
  · replace hc := of_decide_eq_true hc
    refine WC_skip ?_
    refine WQ_code ?_
    refine WC_seq ?_
    refine WC_block ?_
    refine WC_seq (WC_region ?_)
    obtain ⟨q5, rfl⟩ := h_sq.ptr (by omega)
    obtain ⟨x8, _, hx6, ⟨rfl, hn9⟩, at7⟩ := h_sq.get t (by omega)
    have bdhn9 : -9223372036854775808 ≤ x8 ∧ x8 ≤ 9223372036854775807 := bd_of hn9
    replace at7 : At G3 (q5.add (t * 1)) [.int .i64 x8] := at7
    refine WL_op (WOp_idx htb q5 n_sq ((t : Nat) : Int) 1 (by kernel_rfl) (by omega) (by omega) ?_)
    refine WL_op (WOp_ld htb (q5.add (t * 1)) false 1 [.int .i64 x8] (by kernel_rfl) at7 rfl (by decide) ?_)
    refine WL_execS htb 1 [13, 26, 25, 24, 11, 0, 3] [1] ⟨[(13, (iI x8)), (26, (iN t)), (25, (iN n_sq)), (24, (sS (some q5) n_sq c_sq)), (11, (.ls false 1 (n_to + 1) (n_to + 1))), (0, (sS A_cu n_cu c_cu)), (3, (sS A_to n_to c_to))], [(1, (.lst false 4 arr))], 2, [], []⟩ (by kernel_rfl) ?_
    refine WL_nil ?_
    refine WQ_code ?_
    refine WC_seq (WC_region ?_)
    refine WL_execS htb 3 [32, 13, 26, 25, 24, 11, 0, 3] [1] ⟨[(32, (iI (IntKind.i64.wrap (((n_to : Nat) : Int) + 1)))), (13, (iI x8)), (26, (iN t)), (25, (iN n_sq)), (24, (sS (some q5) n_sq c_sq)), (11, (.ls false 1 (n_to + 1) (n_to + 1))), (0, (sS A_cu n_cu c_cu)), (3, (sS A_to n_to c_to))], [(1, (.lst false 4 arr))], 2, [], []⟩ (by kernel_rfl) ?_
    refine WK_env [(32, (iN (n_to + 1))), (13, (iI x8)), (26, (iN t)), (25, (iN n_sq)), (24, (sS (some q5) n_sq c_sq)), (11, (.ls false 1 (n_to + 1) (n_to + 1))), (0, (sS A_cu n_cu c_cu)), (3, (sS A_to n_to c_to))] (fun ρ => ⟨rfl, (congrArg (Value.int .i64) (by rw [wrap_id (by omega)]; first | rfl | omega)), ⟨rfl, rfl, ⟨rfl, rfl, ⟨rfl, rfl, ⟨rfl, rfl, ⟨rfl, rfl, ⟨rfl, rfl, ⟨rfl, rfl, trivial⟩⟩⟩⟩⟩⟩⟩⟩) ?_
    refine WL_op (WOp_make htb (n_to + 1) 4 1 1 (.bool false) (by kernel_rfl) (by rfl) (by rfl) tBool false (rep_bool _ false) rfl (by omega) (by unfold big; omega) (fun arr10 ho11 => ?_))
    show WL _ _ _ _ _ _ ⟨[(33, (.ls false 2 (n_to + 1) (n_to + 1))), (32, (iN (n_to + 1))), (13, (iI x8)), (26, (iN t)), (25, (iN n_sq)), (24, (sS (some q5) n_sq c_sq)), (11, (.ls false 1 (n_to + 1) (n_to + 1))), (0, (sS A_cu n_cu c_cu)), (3, (sS A_to n_to c_to))], [(2, (.lst false 4 arr10)), (1, (.lst false 4 arr))], 3, [], []⟩ _
    refine WL_execS htb 1 [14, 13, 26, 25, 24, 11, 0, 3] [2, 1] ⟨[(14, (.ls false 2 (n_to + 1) (n_to + 1))), (13, (iI x8)), (26, (iN t)), (25, (iN n_sq)), (24, (sS (some q5) n_sq c_sq)), (11, (.ls false 1 (n_to + 1) (n_to + 1))), (0, (sS A_cu n_cu c_cu)), (3, (sS A_to n_to c_to))], [(2, (.lst false 4 arr10)), (1, (.lst false 4 arr))], 3, [], []⟩ (by kernel_rfl) ?_
    refine WL_nil ?_
    refine WQ_code ?_
    refine WC_seq ?_
    refine WC_seq (WC_region ?_)
    refine WL_execS htb 3 [36, 35, 14, 13, 26, 25, 24, 11, 0, 3] [2, 1] ⟨[(36, (iI 0)), (35, (iN (n_to + 1))), (14, (.ls false 2 (n_to + 1) (n_to + 1))), (13, (iI x8)), (26, (iN t)), (25, (iN n_sq)), (24, (sS (some q5) n_sq c_sq)), (11, (.ls false 1 (n_to + 1) (n_to + 1))), (0, (sS A_cu n_cu c_cu)), (3, (sS A_to n_to c_to))], [(2, (.lst false 4 arr10)), (1, (.lst false 4 arr))], 3, [], []⟩ (by kernel_rfl) ?_
    refine WL_nil ?_
    refine WQ_code ?_
    refine WC_block ?_
    refine WK_keep [36, 35, 14, 13, 26, 25, 24, 11, 0, 3] [2, 1] rfl rfl ?_
    refine WK_env [(36, (iN 0)), (35, (iN (n_to + 1))), (14, (.ls false 2 (n_to + 1) (n_to + 1))), (13, (iI x8)), (26, (iN t)), (25, (iN n_sq)), (24, (sS (some q5) n_sq c_sq)), (11, (.ls false 1 (n_to + 1) (n_to + 1))), (0, (sS A_cu n_cu c_cu)), (3, (sS A_to n_to c_to))] (fun ρ => ⟨rfl, rfl, ⟨rfl, rfl, ⟨rfl, rfl, ⟨rfl, rfl, ⟨rfl, rfl, ⟨rfl, rfl, ⟨rfl, rfl, ⟨rfl, rfl, ⟨rfl, rfl, ⟨rfl, rfl, trivial⟩⟩⟩⟩⟩⟩⟩⟩⟩⟩) ?_
    refine WC_loop (ι := Nat × Array Value × List Bool) (fun (i, brr, ys) G12 => Le G3 G12 ∧ (i ≤ n_to + 1 ∧ ys.length = to.length + 1 ∧ (∀ j, ys.getD j false = true ↔ ∃ i', i' < i ∧ xs.getD i' false = true ∧ HopP cu to x8 i' j) ∧ OwnL tBool G12 ys brr (n_to + 1))) (fun (i, brr, ys) => ⟨[(36, (iN i)), (35, (iN (n_to + 1))), (14, (.ls false 2 (n_to + 1) (n_to + 1))), (13, (iI x8)), (26, (iN t)), (25, (iN n_sq)), (24, (sS (some q5) n_sq c_sq)), (11, (.ls false 1 (n_to + 1) (n_to + 1))), (0, (sS A_cu n_cu c_cu)), (3, (sS A_to n_to c_to))], [(2, (.lst false 4 brr)), (1, (.lst false 4 arr))], 3, [], []⟩) (fun (i, brr, ys) => n_to + 1 - i) (0, arr10, (List.replicate (n_to + 1) false)) ⟨Le.refl _, ⟨Nat.zero_le _, by rw [List.length_replicate]; omega, hops0, ho11⟩⟩ rfl ?_
    rintro ⟨i, brr, ys⟩ G12 ⟨hle, hF⟩
    show WC _ _ _ _ _ ⟨[(36, (iN i)), (35, (iN (n_to + 1))), (14, (.ls false 2 (n_to + 1) (n_to + 1))), (13, (iI x8)), (26, (iN t)), (25, (iN n_sq)), (24, (sS (some q5) n_sq c_sq)), (11, (.ls false 1 (n_to + 1) (n_to + 1))), (0, (sS A_cu n_cu c_cu)), (3, (sS A_to n_to c_to))], [(2, (.lst false 4 brr)), (1, (.lst false 4 arr))], 3, [], []⟩ _
    replace hc4 := Le.trans hc4 hle
    replace h_cu := h_cu.mono hle
    replace h_sq := h_sq.mono hle
    replace h_to := h_to.mono hle
    replace ho := ho.mono hle
    replace ho11 := ho11.mono hle
    have hc13 := hle
    obtain ⟨hi, hyl, hye, ho3⟩ := hF
    refine WC_seq (WC_region ?_)
    refine WL_execS htb 1 [37, 36, 35, 14, 13, 26, 25, 24, 11, 0, 3] [2, 1] ⟨[(37, (bB (decide ((((i : Nat) : Int) : Int) < ((n_to + 1 : Nat) : Int))))), (36, (iN i)), (35, (iN (n_to + 1))), (14, (.ls false 2 (n_to + 1) (n_to + 1))), (13, (iI x8)), (26, (iN t)), (25, (iN n_sq)), (24, (sS (some q5) n_sq c_sq)), (11, (.ls false 1 (n_to + 1) (n_to + 1))), (0, (sS A_cu n_cu c_cu)), (3, (sS A_to n_to c_to))], [(2, (.lst false 4 brr)), (1, (.lst false 4 arr))], 3, [], []⟩ (by kernel_rfl) ?_
    refine WL_nil ?_
    refine WQ_code ?_
    refine WC_seq ?_
    refine WC_cond (b := (decide ((((i : Nat) : Int) : Int) < ((n_to + 1 : Nat) : Int)))) rfl (fun hd => ?_) (fun hd => ?_)
    · replace hd := of_decide_eq_true hd
      refine WC_skip ?_
      refine WQ_code ?_
      refine WC_seq ?_
      refine WC_block ?_
      refine WC_seq (WC_region ?_)
      refine WL_execS htb 2 [15, 36, 35, 14, 13, 26, 25, 24, 11, 0, 3] [2, 1] ⟨[(15, (iN i)), (36, (iN i)), (35, (iN (n_to + 1))), (14, (.ls false 2 (n_to + 1) (n_to + 1))), (13, (iI x8)), (26, (iN t)), (25, (iN n_sq)), (24, (sS (some q5) n_sq c_sq)), (11, (.ls false 1 (n_to + 1) (n_to + 1))), (0, (sS A_cu n_cu c_cu)), (3, (sS A_to n_to c_to))], [(2, (.lst false 4 brr)), (1, (.lst false 4 arr))], 3, [], []⟩ (by kernel_rfl) ?_
      refine WL_nil ?_
      refine WQ_code ?_
      refine WC_seq ?_
      refine WC_seq (WC_region ?_)
      refine WL_execS htb 2 [40, 39, 15, 36, 35, 14, 13, 26, 25, 24, 11, 0, 3] [2, 1] ⟨[(40, (iN i)), (39, (.ls false 1 (n_to + 1) (n_to + 1))), (15, (iN i)), (36, (iN i)), (35, (iN (n_to + 1))), (14, (.ls false 2 (n_to + 1) (n_to + 1))), (13, (iI x8)), (26, (iN t)), (25, (iN n_sq)), (24, (sS (some q5) n_sq c_sq)), (11, (.ls false 1 (n_to + 1) (n_to + 1))), (0, (sS A_cu n_cu c_cu)), (3, (sS A_to n_to c_to))], [(2, (.lst false 4 brr)), (1, (.lst false 4 arr))], 3, [], []⟩ (by kernel_rfl) ?_
      refine WL_op (WOp_idxo htb 1 (n_to + 1) ((i : Nat) : Int) 1 (by kernel_rfl) (by omega) (by omega) ?_)
      refine WL_op (WOp_ldo htb 1 (i * 1) false 1 [.bool (xs.getD i false)] (by kernel_rfl) rfl (ho.bool (by omega)) rfl (by decide) ?_)
      refine WL_execS htb 1 [43, 15, 36, 35, 14, 13, 26, 25, 24, 11, 0, 3] [2, 1] ⟨[(43, (bB (!(xs.getD i false)))), (15, (iN i)), (36, (iN i)), (35, (iN (n_to + 1))), (14, (.ls false 2 (n_to + 1) (n_to + 1))), (13, (iI x8)), (26, (iN t)), (25, (iN n_sq)), (24, (sS (some q5) n_sq c_sq)), (11, (.ls false 1 (n_to + 1) (n_to + 1))), (0, (sS A_cu n_cu c_cu)), (3, (sS A_to n_to c_to))], [(2, (.lst false 4 brr)), (1, (.lst false 4 arr))], 3, [], []⟩ (by kernel_rfl) ?_
      refine WL_nil ?_
      refine WQ_code ?_
      refine WC_cond (b := (!(xs.getD i false))) rfl (fun hm => ?_) (fun hm => ?_)
      · rw [Bool.not_eq_true'] at hm
        refine WC_exit ?_
        refine WQ_then_exit ?_
        refine WQ_hit ?_
        refine WQ_code ?_
        refine WC_region ?_
        refine WL_execS htb 2 [36, 35, 14, 13, 26, 25, 24, 11, 0, 3] [2, 1] ⟨[(36, (iI (IntKind.i64.wrap (((i : Nat) : Int) + 1)))), (35, (iN (n_to + 1))), (14, (.ls false 2 (n_to + 1) (n_to + 1))), (13, (iI x8)), (26, (iN t)), (25, (iN n_sq)), (24, (sS (some q5) n_sq c_sq)), (11, (.ls false 1 (n_to + 1) (n_to + 1))), (0, (sS A_cu n_cu c_cu)), (3, (sS A_to n_to c_to))], [(2, (.lst false 4 brr)), (1, (.lst false 4 arr))], 3, [], []⟩ (by kernel_rfl) ?_
        refine WL_nil ?_
        refine WK_env [(36, (iN (i + 1))), (35, (iN (n_to + 1))), (14, (.ls false 2 (n_to + 1) (n_to + 1))), (13, (iI x8)), (26, (iN t)), (25, (iN n_sq)), (24, (sS (some q5) n_sq c_sq)), (11, (.ls false 1 (n_to + 1) (n_to + 1))), (0, (sS A_cu n_cu c_cu)), (3, (sS A_to n_to c_to))] (fun ρ => ⟨rfl, (congrArg (Value.int .i64) (by rw [wrap_id (by omega)]; first | rfl | omega)), ⟨rfl, rfl, ⟨rfl, rfl, ⟨rfl, rfl, ⟨rfl, rfl, ⟨rfl, rfl, ⟨rfl, rfl, ⟨rfl, rfl, ⟨rfl, rfl, ⟨rfl, rfl, trivial⟩⟩⟩⟩⟩⟩⟩⟩⟩⟩) ?_
        refine WK_keep [36, 35, 14, 13, 26, 25, 24, 11, 0, 3] [2, 1] rfl rfl ?_
        exact WQ_next ((i + 1), brr, ys) (by show n_to + 1 - (i + 1) < n_to + 1 - i; omega) ⟨hc13, ⟨by omega, hyl, hops_no hye (by simpa using hm), ho3⟩⟩ (fun ρ a w h => h)
      · rw [Bool.not_eq_false'] at hm
        replace hm : xs.getD i false = true := by simpa using hm
        refine WC_skip ?_
        refine WQ_code ?_
        refine WC_seq ?_
        refine WC_seq (WC_region ?_)
        refine WL_execS htb 2 [45, 15, 36, 35, 14, 13, 26, 25, 24, 11, 0, 3] [2, 1] ⟨[(45, (bB (decide ((x8 : Int) ≥ 0)))), (15, (iN i)), (36, (iN i)), (35, (iN (n_to + 1))), (14, (.ls false 2 (n_to + 1) (n_to + 1))), (13, (iI x8)), (26, (iN t)), (25, (iN n_sq)), (24, (sS (some q5) n_sq c_sq)), (11, (.ls false 1 (n_to + 1) (n_to + 1))), (0, (sS A_cu n_cu c_cu)), (3, (sS A_to n_to c_to))], [(2, (.lst false 4 brr)), (1, (.lst false 4 arr))], 3, [], []⟩ (by kernel_rfl) ?_
        refine WL_nil ?_
        refine WQ_code ?_
        refine WC_cond (b := (decide ((x8 : Int) ≥ 0))) rfl (fun hk0 => ?_) (fun hk0 => ?_)
        · replace hk0 := of_decide_eq_true hk0
          refine WC_seq ?_
          refine WC_seq (WC_region ?_)
          refine WL_execS htb 5 [50, 15, 36, 35, 14, 13, 26, 25, 24, 11, 0, 3] [2, 1] ⟨[(50, (bB (decide ((((i : Nat) : Int) : Int) < ((n_to : Nat) : Int))))), (15, (iN i)), (36, (iN i)), (35, (iN (n_to + 1))), (14, (.ls false 2 (n_to + 1) (n_to + 1))), (13, (iI x8)), (26, (iN t)), (25, (iN n_sq)), (24, (sS (some q5) n_sq c_sq)), (11, (.ls false 1 (n_to + 1) (n_to + 1))), (0, (sS A_cu n_cu c_cu)), (3, (sS A_to n_to c_to))], [(2, (.lst false 4 brr)), (1, (.lst false 4 arr))], 3, [], []⟩ (by kernel_rfl) ?_
          refine WK_split 50 (decide ((((i : Nat) : Int) : Int) < ((n_to : Nat) : Int))) rfl (fun hg => ?_) (fun hg => ?_)
          · replace hg := of_decide_eq_true hg
            refine WK_keep [50, 15, 36, 35, 14, 13, 26, 25, 24, 11, 0, 3] [2, 1] rfl rfl ?_
            refine WL_execS htb 2 [52, 51, 50, 15, 36, 35, 14, 13, 26, 25, 24, 11, 0, 3] [2, 1] ⟨[(52, (iN i)), (51, (sS A_to n_to c_to)), (50, (bB true)), (15, (iN i)), (36, (iN i)), (35, (iN (n_to + 1))), (14, (.ls false 2 (n_to + 1) (n_to + 1))), (13, (iI x8)), (26, (iN t)), (25, (iN n_sq)), (24, (sS (some q5) n_sq c_sq)), (11, (.ls false 1 (n_to + 1) (n_to + 1))), (0, (sS A_cu n_cu c_cu)), (3, (sS A_to n_to c_to))], [(2, (.lst false 4 brr)), (1, (.lst false 4 arr))], 3, [], []⟩ (by kernel_rfl) ?_
            obtain ⟨q14, rfl⟩ := h_to.ptr (by omega)
            obtain ⟨x17, _, hx15, ⟨rfl, hn18⟩, at16⟩ := h_to.get i (by omega)
            have bdhn18 : -9223372036854775808 ≤ x17 ∧ x17 ≤ 9223372036854775807 := bd_of hn18
            replace at16 : At G12 (q14.add (i * 1)) [.int .i64 x17] := at16
            refine WL_op (WOp_idx htb q14 n_to ((i : Nat) : Int) 1 (by kernel_rfl) (by omega) (by omega) ?_)
            refine WL_op (WOp_ld htb (q14.add (i * 1)) false 1 [.int .i64 x17] (by kernel_rfl) at16 rfl (by decide) ?_)
            refine WL_execS htb 3 [57, 15, 36, 35, 14, 13, 26, 25, 24, 11, 0, 3] [2, 1] ⟨[(57, (bB ((x17 : Int) == x8))), (15, (iN i)), (36, (iN i)), (35, (iN (n_to + 1))), (14, (.ls false 2 (n_to + 1) (n_to + 1))), (13, (iI x8)), (26, (iN t)), (25, (iN n_sq)), (24, (sS (some q5) n_sq c_sq)), (11, (.ls false 1 (n_to + 1) (n_to + 1))), (0, (sS A_cu n_cu c_cu)), (3, (sS (some q14) n_to c_to))], [(2, (.lst false 4 brr)), (1, (.lst false 4 arr))], 3, [], []⟩ (by kernel_rfl) ?_
            refine WL_nil ?_
            refine WQ_code ?_
            refine WC_cond (b := ((x17 : Int) == x8)) rfl (fun he => ?_) (fun he => ?_)
            · replace he := eq_of_beq he
              refine WC_region ?_
              refine WL_execS htb 3 [60, 58, 36, 35, 14, 13, 26, 25, 24, 11, 0, 3] [2, 1] ⟨[(60, (iI (IntKind.i64.wrap (((i : Nat) : Int) + 1)))), (58, (.ls false 2 (n_to + 1) (n_to + 1))), (36, (iN i)), (35, (iN (n_to + 1))), (14, (.ls false 2 (n_to + 1) (n_to + 1))), (13, (iI x8)), (26, (iN t)), (25, (iN n_sq)), (24, (sS (some q5) n_sq c_sq)), (11, (.ls false 1 (n_to + 1) (n_to + 1))), (0, (sS A_cu n_cu c_cu)), (3, (sS (some q14) n_to c_to))], [(2, (.lst false 4 brr)), (1, (.lst false 4 arr))], 3, [], []⟩ (by kernel_rfl) ?_
              refine WK_env [(60, (iN (i + 1))), (58, (.ls false 2 (n_to + 1) (n_to + 1))), (36, (iN i)), (35, (iN (n_to + 1))), (14, (.ls false 2 (n_to + 1) (n_to + 1))), (13, (iI x8)), (26, (iN t)), (25, (iN n_sq)), (24, (sS (some q5) n_sq c_sq)), (11, (.ls false 1 (n_to + 1) (n_to + 1))), (0, (sS A_cu n_cu c_cu)), (3, (sS (some q14) n_to c_to))] (fun ρ => ⟨rfl, (congrArg (Value.int .i64) (by rw [wrap_id (by omega)]; first | rfl | omega)), ⟨rfl, rfl, ⟨rfl, rfl, ⟨rfl, rfl, ⟨rfl, rfl, ⟨rfl, rfl, ⟨rfl, rfl, ⟨rfl, rfl, ⟨rfl, rfl, ⟨rfl, rfl, ⟨rfl, rfl, ⟨rfl, rfl, trivial⟩⟩⟩⟩⟩⟩⟩⟩⟩⟩⟩⟩) ?_
              refine WL_op (WOp_idxo htb 2 (n_to + 1) ((i + 1 : Nat) : Int) 1 (by kernel_rfl) (by omega) (by omega) ?_)
              obtain ⟨ho4, hfit⟩ := ho3.set (i := i + 1) (by omega) (y := true) (vs := [.bool true]) (rep_bool _ true)
              refine WL_op (WOp_sto htb 2 ((i + 1) * 1) [(bB true)] ([.bool true] : List Value) (by kernel_rfl) (fun ρ => rfl) rfl hfit ?_)
              refine WL_nil ?_
              refine WQ_code ?_
              refine WC_exit ?_
              refine WQ_then_exit ?_
              refine WQ_hit ?_
              refine WQ_code ?_
              refine WC_region ?_
              refine WL_execS htb 2 [36, 35, 14, 13, 26, 25, 24, 11, 0, 3] [2, 1] ⟨[(36, (iI (IntKind.i64.wrap (((i : Nat) : Int) + 1)))), (35, (iN (n_to + 1))), (14, (.ls false 2 (n_to + 1) (n_to + 1))), (13, (iI x8)), (26, (iN t)), (25, (iN n_sq)), (24, (sS (some q5) n_sq c_sq)), (11, (.ls false 1 (n_to + 1) (n_to + 1))), (0, (sS A_cu n_cu c_cu)), (3, (sS (some q14) n_to c_to))], [(2, (.lst false 4 ((brr.toList.take ((i + 1) * 1) ++ ([.bool true] : List Value) ++ brr.toList.drop (((i + 1) * 1) + 1)).toArray))), (1, (.lst false 4 arr))], 3, [], []⟩ (by kernel_rfl) ?_
              refine WL_nil ?_
              refine WK_env [(36, (iN (i + 1))), (35, (iN (n_to + 1))), (14, (.ls false 2 (n_to + 1) (n_to + 1))), (13, (iI x8)), (26, (iN t)), (25, (iN n_sq)), (24, (sS (some q5) n_sq c_sq)), (11, (.ls false 1 (n_to + 1) (n_to + 1))), (0, (sS A_cu n_cu c_cu)), (3, (sS (some q14) n_to c_to))] (fun ρ => ⟨rfl, (congrArg (Value.int .i64) (by rw [wrap_id (by omega)]; first | rfl | omega)), ⟨rfl, rfl, ⟨rfl, rfl, ⟨rfl, rfl, ⟨rfl, rfl, ⟨rfl, rfl, ⟨rfl, rfl, ⟨rfl, rfl, ⟨rfl, rfl, ⟨rfl, rfl, trivial⟩⟩⟩⟩⟩⟩⟩⟩⟩⟩) ?_
              refine WK_keep [36, 35, 14, 13, 26, 25, 24, 11, 0, 3] [2, 1] rfl rfl ?_
              exact WQ_next ((i + 1), (brr.toList.take ((i + 1) * 1) ++ ([.bool true] : List Value) ++ brr.toList.drop (((i + 1) * 1) + 1)).toArray, (ys.set (i + 1) true)) (by show n_to + 1 - (i + 1) < n_to + 1 - i; omega) ⟨hc13, ⟨by omega, by rw [List.length_set]; exact hyl, hops_tok hye hyl hm (by simpa using hk0) hx15 he, ho4⟩⟩ (fun ρ a w h => h)
            · replace he := ne_of_beq_false he
              refine WC_skip ?_
              refine WQ_code ?_
              refine WC_exit ?_
              refine WQ_then_exit ?_
              refine WQ_hit ?_
              refine WQ_code ?_
              refine WC_region ?_
              refine WL_execS htb 2 [36, 35, 14, 13, 26, 25, 24, 11, 0, 3] [2, 1] ⟨[(36, (iI (IntKind.i64.wrap (((i : Nat) : Int) + 1)))), (35, (iN (n_to + 1))), (14, (.ls false 2 (n_to + 1) (n_to + 1))), (13, (iI x8)), (26, (iN t)), (25, (iN n_sq)), (24, (sS (some q5) n_sq c_sq)), (11, (.ls false 1 (n_to + 1) (n_to + 1))), (0, (sS A_cu n_cu c_cu)), (3, (sS (some q14) n_to c_to))], [(2, (.lst false 4 brr)), (1, (.lst false 4 arr))], 3, [], []⟩ (by kernel_rfl) ?_
              refine WL_nil ?_
              refine WK_env [(36, (iN (i + 1))), (35, (iN (n_to + 1))), (14, (.ls false 2 (n_to + 1) (n_to + 1))), (13, (iI x8)), (26, (iN t)), (25, (iN n_sq)), (24, (sS (some q5) n_sq c_sq)), (11, (.ls false 1 (n_to + 1) (n_to + 1))), (0, (sS A_cu n_cu c_cu)), (3, (sS (some q14) n_to c_to))] (fun ρ => ⟨rfl, (congrArg (Value.int .i64) (by rw [wrap_id (by omega)]; first | rfl | omega)), ⟨rfl, rfl, ⟨rfl, rfl, ⟨rfl, rfl, ⟨rfl, rfl, ⟨rfl, rfl, ⟨rfl, rfl, ⟨rfl, rfl, ⟨rfl, rfl, ⟨rfl, rfl, trivial⟩⟩⟩⟩⟩⟩⟩⟩⟩⟩) ?_
              refine WK_keep [36, 35, 14, 13, 26, 25, 24, 11, 0, 3] [2, 1] rfl rfl ?_
              exact WQ_next ((i + 1), brr, ys) (by show n_to + 1 - (i + 1) < n_to + 1 - i; omega) ⟨hc13, ⟨by omega, hyl, hops_tokno hye (by simpa using hk0) (fun h => he (by rw [hx15] at h; injection h)), ho3⟩⟩ (fun ρ a w h => h)
          · replace hg := of_decide_eq_false hg
            refine WK_keep [50, 15, 36, 35, 14, 13, 26, 25, 24, 11, 0, 3] [2, 1] rfl rfl ?_
            refine WL_execS htb 7 [57, 15, 36, 35, 14, 13, 26, 25, 24, 11, 0, 3] [2, 1] ⟨[(57, (bB false)), (15, (iN i)), (36, (iN i)), (35, (iN (n_to + 1))), (14, (.ls false 2 (n_to + 1) (n_to + 1))), (13, (iI x8)), (26, (iN t)), (25, (iN n_sq)), (24, (sS (some q5) n_sq c_sq)), (11, (.ls false 1 (n_to + 1) (n_to + 1))), (0, (sS A_cu n_cu c_cu)), (3, (sS A_to n_to c_to))], [(2, (.lst false 4 brr)), (1, (.lst false 4 arr))], 3, [], []⟩ (by kernel_rfl) ?_
            refine WL_nil ?_
            refine WQ_code ?_
            refine WC_cond (b := false) rfl (fun h => by cases h) (fun _ => ?_)
            refine WC_skip ?_
            refine WQ_code ?_
            refine WC_exit ?_
            refine WQ_then_exit ?_
            refine WQ_hit ?_
            refine WQ_code ?_
            refine WC_region ?_
            refine WL_execS htb 2 [36, 35, 14, 13, 26, 25, 24, 11, 0, 3] [2, 1] ⟨[(36, (iI (IntKind.i64.wrap (((i : Nat) : Int) + 1)))), (35, (iN (n_to + 1))), (14, (.ls false 2 (n_to + 1) (n_to + 1))), (13, (iI x8)), (26, (iN t)), (25, (iN n_sq)), (24, (sS (some q5) n_sq c_sq)), (11, (.ls false 1 (n_to + 1) (n_to + 1))), (0, (sS A_cu n_cu c_cu)), (3, (sS A_to n_to c_to))], [(2, (.lst false 4 brr)), (1, (.lst false 4 arr))], 3, [], []⟩ (by kernel_rfl) ?_
            refine WL_nil ?_
            refine WK_env [(36, (iN (i + 1))), (35, (iN (n_to + 1))), (14, (.ls false 2 (n_to + 1) (n_to + 1))), (13, (iI x8)), (26, (iN t)), (25, (iN n_sq)), (24, (sS (some q5) n_sq c_sq)), (11, (.ls false 1 (n_to + 1) (n_to + 1))), (0, (sS A_cu n_cu c_cu)), (3, (sS A_to n_to c_to))] (fun ρ => ⟨rfl, (congrArg (Value.int .i64) (by rw [wrap_id (by omega)]; first | rfl | omega)), ⟨rfl, rfl, ⟨rfl, rfl, ⟨rfl, rfl, ⟨rfl, rfl, ⟨rfl, rfl, ⟨rfl, rfl, ⟨rfl, rfl, ⟨rfl, rfl, ⟨rfl, rfl, trivial⟩⟩⟩⟩⟩⟩⟩⟩⟩⟩) ?_
            refine WK_keep [36, 35, 14, 13, 26, 25, 24, 11, 0, 3] [2, 1] rfl rfl ?_
            exact WQ_next ((i + 1), brr, ys) (by show n_to + 1 - (i + 1) < n_to + 1 - i; omega) ⟨hc13, ⟨by omega, hyl, hops_tokno hye (by simpa using hk0) (fun h => by rw [List.getElem?_eq_none (by omega)] at h; cases h), ho3⟩⟩ (fun ρ a w h => h)
        · replace hk0 := of_decide_eq_false hk0
          refine WC_skip ?_
          refine WQ_code ?_
          refine WC_seq (WC_region ?_)
          refine WL_execS htb 2 [16, 15, 36, 35, 14, 13, 26, 25, 24, 11, 0, 3] [2, 1] ⟨[(16, (iN i)), (15, (iN i)), (36, (iN i)), (35, (iN (n_to + 1))), (14, (.ls false 2 (n_to + 1) (n_to + 1))), (13, (iI x8)), (26, (iN t)), (25, (iN n_sq)), (24, (sS (some q5) n_sq c_sq)), (11, (.ls false 1 (n_to + 1) (n_to + 1))), (0, (sS A_cu n_cu c_cu)), (3, (sS A_to n_to c_to))], [(2, (.lst false 4 brr)), (1, (.lst false 4 arr))], 3, [], []⟩ (by kernel_rfl) ?_
          refine WL_nil ?_
          refine WQ_code ?_
          refine WC_block ?_
          refine WK_keep [16, 15, 36, 35, 14, 13, 26, 25, 24, 11, 0, 3] [2, 1] rfl rfl ?_
          refine WC_loop (ι := Nat × Array Value × List Bool) (fun (j, crr, zs) G14 => Le G12 G14 ∧ (i ≤ j ∧ j ≤ n_to + 1 ∧ zs.length = to.length + 1 ∧ (∀ j', zs.getD j' false = true ↔ (∃ i', i' < i ∧ xs.getD i' false = true ∧ HopP cu to x8 i' j') ∨ (j' < j ∧ HopP cu to x8 i j')) ∧ OwnL tBool G14 zs crr (n_to + 1))) (fun (j, crr, zs) => ⟨[(16, (iN j)), (15, (iN i)), (36, (iN i)), (35, (iN (n_to + 1))), (14, (.ls false 2 (n_to + 1) (n_to + 1))), (13, (iI x8)), (26, (iN t)), (25, (iN n_sq)), (24, (sS (some q5) n_sq c_sq)), (11, (.ls false 1 (n_to + 1) (n_to + 1))), (0, (sS A_cu n_cu c_cu)), (3, (sS A_to n_to c_to))], [(2, (.lst false 4 crr)), (1, (.lst false 4 arr))], 3, [], []⟩) (fun (j, crr, zs) => n_to + 1 - j) (i, brr, ys) ⟨Le.refl _, ⟨Nat.le_refl _, by omega, hyl, hops_in hye, ho3⟩⟩ rfl ?_
          rintro ⟨j, crr, zs⟩ G14 ⟨hle, hF⟩
          show WC _ _ _ _ _ ⟨[(16, (iN j)), (15, (iN i)), (36, (iN i)), (35, (iN (n_to + 1))), (14, (.ls false 2 (n_to + 1) (n_to + 1))), (13, (iI x8)), (26, (iN t)), (25, (iN n_sq)), (24, (sS (some q5) n_sq c_sq)), (11, (.ls false 1 (n_to + 1) (n_to + 1))), (0, (sS A_cu n_cu c_cu)), (3, (sS A_to n_to c_to))], [(2, (.lst false 4 crr)), (1, (.lst false 4 arr))], 3, [], []⟩ _
          replace hc4 := Le.trans hc4 hle
          replace hc13 := Le.trans hc13 hle
          replace h_cu := h_cu.mono hle
          replace h_sq := h_sq.mono hle
          replace h_to := h_to.mono hle
          replace ho := ho.mono hle
          replace ho3 := ho3.mono hle
          have hc15 := hle
          obtain ⟨hij, hj, hzl, hze, ho4⟩ := hF
          refine WC_seq ?_
          refine WC_seq (WC_region ?_)
          refine WL_execS htb 6 [68, 16, 15, 36, 35, 14, 13, 26, 25, 24, 11, 0, 3] [2, 1] ⟨[(68, (bB (decide (((IntKind.i64.wrap ((-1) - x8)) : Int) < ((n_cu : Nat) : Int))))), (16, (iN j)), (15, (iN i)), (36, (iN i)), (35, (iN (n_to + 1))), (14, (.ls false 2 (n_to + 1) (n_to + 1))), (13, (iI x8)), (26, (iN t)), (25, (iN n_sq)), (24, (sS (some q5) n_sq c_sq)), (11, (.ls false 1 (n_to + 1) (n_to + 1))), (0, (sS A_cu n_cu c_cu)), (3, (sS A_to n_to c_to))], [(2, (.lst false 4 crr)), (1, (.lst false 4 arr))], 3, [], []⟩ (by kernel_rfl) ?_
          have hwk : IntKind.i64.wrap ((-1) - x8) = -1 - x8 := wrap_id (by omega)
          refine WK_split 68 (decide (((IntKind.i64.wrap ((-1) - x8)) : Int) < ((n_cu : Nat) : Int))) rfl (fun hg => ?_) (fun hg => ?_)
          · replace hg := of_decide_eq_true hg
            refine WK_keep [68, 16, 15, 36, 35, 14, 13, 26, 25, 24, 11, 0, 3] [2, 1] rfl rfl ?_
            rw [hwk] at hg
            refine WL_execS htb 5 [73, 16, 15, 36, 35, 14, 13, 26, 25, 24, 11, 0, 3] [2, 1] ⟨[(73, (bB (decide ((((j : Nat) : Int) : Int) < ((n_to + 1 : Nat) : Int))))), (16, (iN j)), (15, (iN i)), (36, (iN i)), (35, (iN (n_to + 1))), (14, (.ls false 2 (n_to + 1) (n_to + 1))), (13, (iI x8)), (26, (iN t)), (25, (iN n_sq)), (24, (sS (some q5) n_sq c_sq)), (11, (.ls false 1 (n_to + 1) (n_to + 1))), (0, (sS A_cu n_cu c_cu)), (3, (sS A_to n_to c_to))], [(2, (.lst false 4 crr)), (1, (.lst false 4 arr))], 3, [], []⟩ (by kernel_rfl) ?_
            refine WL_nil ?_
            refine WQ_code ?_
            refine WC_cond (b := (decide ((((j : Nat) : Int) : Int) < ((n_to + 1 : Nat) : Int)))) rfl (fun he => ?_) (fun he => ?_)
            · replace he := of_decide_eq_true he
              refine WC_skip ?_
              refine WQ_code ?_
              refine WC_seq ?_
              refine WC_block ?_
              refine WC_region ?_
              refine WL_execS htb 4 [79, 78, 77, 76, 16, 15, 36, 35, 14, 13, 26, 25, 24, 11, 0, 3] [2, 1] ⟨[(79, (iN j)), (78, (.ls false 2 (n_to + 1) (n_to + 1))), (77, (iN j)), (76, (.ls false 2 (n_to + 1) (n_to + 1))), (16, (iN j)), (15, (iN i)), (36, (iN i)), (35, (iN (n_to + 1))), (14, (.ls false 2 (n_to + 1) (n_to + 1))), (13, (iI x8)), (26, (iN t)), (25, (iN n_sq)), (24, (sS (some q5) n_sq c_sq)), (11, (.ls false 1 (n_to + 1) (n_to + 1))), (0, (sS A_cu n_cu c_cu)), (3, (sS A_to n_to c_to))], [(2, (.lst false 4 crr)), (1, (.lst false 4 arr))], 3, [], []⟩ (by kernel_rfl) ?_
              refine WL_op (WOp_idxo htb 2 (n_to + 1) ((j : Nat) : Int) 1 (by kernel_rfl) (by omega) (by omega) ?_)
              refine WL_op (WOp_ldo htb 2 (j * 1) false 1 [.bool (zs.getD j false)] (by kernel_rfl) rfl (ho4.bool (by omega)) rfl (by decide) ?_)
              refine WL_execS htb 1 [82, 77, 76, 16, 15, 36, 35, 14, 13, 26, 25, 24, 11, 0, 3] [2, 1] ⟨[(82, (bB (zs.getD j false))), (77, (iN j)), (76, (.ls false 2 (n_to + 1) (n_to + 1))), (16, (iN j)), (15, (iN i)), (36, (iN i)), (35, (iN (n_to + 1))), (14, (.ls false 2 (n_to + 1) (n_to + 1))), (13, (iI x8)), (26, (iN t)), (25, (iN n_sq)), (24, (sS (some q5) n_sq c_sq)), (11, (.ls false 1 (n_to + 1) (n_to + 1))), (0, (sS A_cu n_cu c_cu)), (3, (sS A_to n_to c_to))], [(2, (.lst false 4 crr)), (1, (.lst false 4 arr))], 3, [], []⟩ (by kernel_rfl) ?_
              refine WK_split 82 (zs.getD j false) rfl (fun hu => ?_) (fun hu => ?_)
              · skip
                refine WK_keep [82, 77, 76, 16, 15, 36, 35, 14, 13, 26, 25, 24, 11, 0, 3] [2, 1] rfl rfl ?_
                refine WL_execS htb 12 [94, 77, 76, 16, 15, 36, 35, 14, 13, 26, 25, 24, 11, 0, 3] [2, 1] ⟨[(94, (bB true)), (77, (iN j)), (76, (.ls false 2 (n_to + 1) (n_to + 1))), (16, (iN j)), (15, (iN i)), (36, (iN i)), (35, (iN (n_to + 1))), (14, (.ls false 2 (n_to + 1) (n_to + 1))), (13, (iI x8)), (26, (iN t)), (25, (iN n_sq)), (24, (sS (some q5) n_sq c_sq)), (11, (.ls false 1 (n_to + 1) (n_to + 1))), (0, (sS A_cu n_cu c_cu)), (3, (sS A_to n_to c_to))], [(2, (.lst false 4 crr)), (1, (.lst false 4 arr))], 3, [], []⟩ (by kernel_rfl) ?_
                refine WL_op (WOp_idxo htb 2 (n_to + 1) ((j : Nat) : Int) 1 (by kernel_rfl) (by omega) (by omega) ?_)
                obtain ⟨ho5, hfit⟩ := ho4.set (i := j) (by omega) (y := true) (vs := [.bool true]) (rep_bool _ _)
                refine WL_op (WOp_sto htb 2 (j * 1) [(bB true)] ([.bool true] : List Value) (by kernel_rfl) (fun ρ => rfl) rfl hfit ?_)
                refine WL_nil ?_
                refine WQ_blk ?_
                refine WQ_code ?_
                refine WC_region ?_
                refine WL_execS htb 3 [16, 15, 36, 35, 14, 13, 26, 25, 24, 11, 0, 3] [2, 1] ⟨[(16, (iI (IntKind.i64.wrap (((j : Nat) : Int) + 1)))), (15, (iN i)), (36, (iN i)), (35, (iN (n_to + 1))), (14, (.ls false 2 (n_to + 1) (n_to + 1))), (13, (iI x8)), (26, (iN t)), (25, (iN n_sq)), (24, (sS (some q5) n_sq c_sq)), (11, (.ls false 1 (n_to + 1) (n_to + 1))), (0, (sS A_cu n_cu c_cu)), (3, (sS A_to n_to c_to))], [(2, (.lst false 4 ((crr.toList.take (j * 1) ++ ([.bool true] : List Value) ++ crr.toList.drop ((j * 1) + 1)).toArray))), (1, (.lst false 4 arr))], 3, [], []⟩ (by kernel_rfl) ?_
                refine WL_nil ?_
                refine WK_env [(16, (iN (j + 1))), (15, (iN i)), (36, (iN i)), (35, (iN (n_to + 1))), (14, (.ls false 2 (n_to + 1) (n_to + 1))), (13, (iI x8)), (26, (iN t)), (25, (iN n_sq)), (24, (sS (some q5) n_sq c_sq)), (11, (.ls false 1 (n_to + 1) (n_to + 1))), (0, (sS A_cu n_cu c_cu)), (3, (sS A_to n_to c_to))] (fun ρ => ⟨rfl, (congrArg (Value.int .i64) (by rw [wrap_id (by omega)]; first | rfl | omega)), ⟨rfl, rfl, ⟨rfl, rfl, ⟨rfl, rfl, ⟨rfl, rfl, ⟨rfl, rfl, ⟨rfl, rfl, ⟨rfl, rfl, ⟨rfl, rfl, ⟨rfl, rfl, ⟨rfl, rfl, ⟨rfl, rfl, trivial⟩⟩⟩⟩⟩⟩⟩⟩⟩⟩⟩⟩) ?_
                refine WK_keep [16, 15, 36, 35, 14, 13, 26, 25, 24, 11, 0, 3] [2, 1] rfl rfl ?_
                exact WQ_next ((j + 1), (crr.toList.take (j * 1) ++ ([.bool true] : List Value) ++ crr.toList.drop ((j * 1) + 1)).toArray, (zs.set j true)) (by show n_to + 1 - (j + 1) < n_to + 1 - j; omega) ⟨hc15, ⟨by omega, by omega, by rw [List.length_set]; exact hzl, hops_had hze hzl hu, ho5⟩⟩ (fun ρ a w h => h)
              · skip
                refine WK_keep [82, 77, 76, 16, 15, 36, 35, 14, 13, 26, 25, 24, 11, 0, 3] [2, 1] rfl rfl ?_
                refine WL_execS htb 3 [85, 83, 82, 77, 76, 16, 15, 36, 35, 14, 13, 26, 25, 24, 11, 0, 3] [2, 1] ⟨[(85, (iI (IntKind.i64.wrap ((-1) - x8)))), (83, (sS A_cu n_cu c_cu)), (82, (bB false)), (77, (iN j)), (76, (.ls false 2 (n_to + 1) (n_to + 1))), (16, (iN j)), (15, (iN i)), (36, (iN i)), (35, (iN (n_to + 1))), (14, (.ls false 2 (n_to + 1) (n_to + 1))), (13, (iI x8)), (26, (iN t)), (25, (iN n_sq)), (24, (sS (some q5) n_sq c_sq)), (11, (.ls false 1 (n_to + 1) (n_to + 1))), (0, (sS A_cu n_cu c_cu)), (3, (sS A_to n_to c_to))], [(2, (.lst false 4 crr)), (1, (.lst false 4 arr))], 3, [], []⟩ (by kernel_rfl) ?_
                obtain ⟨q16, rfl⟩ := h_cu.ptr (by omega)
                obtain ⟨x19, _, hx17, hr20, at18⟩ := h_cu.get (((IntKind.i64.wrap ((-1) - x8)) : Int).toNat) (by omega)
                obtain ⟨A22, n23, c24, rfl, hs21⟩ := Sl.of hr20
                replace hs21 : Sl (tSlice tBool) _ A22 n23 c24 x19 := hs21
                have lhs21 := hs21.len'
                replace at18 : At G14 (q16.add ((((IntKind.i64.wrap ((-1) - x8)) : Int).toNat) * 1)) [.slice A22 n23 c24] := at18
                have hda := hdm _ (List.mem_of_getElem? hx17)
                refine WL_op (WOp_idx htb q16 n_cu (IntKind.i64.wrap ((-1) - x8)) 1 (by kernel_rfl) (by omega) (by omega) ?_)
                refine WL_op (WOp_ld htb (q16.add ((((IntKind.i64.wrap ((-1) - x8)) : Int).toNat) * 1)) false 1 [.slice A22 n23 c24] (by kernel_rfl) at18 rfl (by decide) ?_)
                refine WL_execS htb 1 [88, 87, 82, 77, 76, 16, 15, 36, 35, 14, 13, 26, 25, 24, 11, 0, 3] [2, 1] ⟨[(88, (iN i)), (87, (sS A22 n23 c24)), (82, (bB false)), (77, (iN j)), (76, (.ls false 2 (n_to + 1) (n_to + 1))), (16, (iN j)), (15, (iN i)), (36, (iN i)), (35, (iN (n_to + 1))), (14, (.ls false 2 (n_to + 1) (n_to + 1))), (13, (iI x8)), (26, (iN t)), (25, (iN n_sq)), (24, (sS (some q5) n_sq c_sq)), (11, (.ls false 1 (n_to + 1) (n_to + 1))), (0, (sS (some q16) n_cu c_cu)), (3, (sS A_to n_to c_to))], [(2, (.lst false 4 crr)), (1, (.lst false 4 arr))], 3, [], []⟩ (by kernel_rfl) ?_
                obtain ⟨q25, rfl⟩ := hs21.ptr (by omega)
                obtain ⟨x28, _, hx26, hr29, at27⟩ := hs21.get i (by omega)
                obtain ⟨A31, n32, c33, rfl, hs30⟩ := Sl.of hr29
                replace hs30 : Sl tBool _ A31 n32 c33 x28 := hs30
                have lhs30 := hs30.len'
                replace at27 : At G14 (q25.add (i * 1)) [.slice A31 n32 c33] := at27
                have hdb := hda.2 _ (List.mem_of_getElem? hx26)
                refine WL_op (WOp_idx htb q25 n23 ((i : Nat) : Int) 1 (by kernel_rfl) (by omega) (by omega) ?_)
                refine WL_op (WOp_ld htb (q25.add (i * 1)) false 1 [.slice A31 n32 c33] (by kernel_rfl) at27 rfl (by decide) ?_)
                refine WL_execS htb 1 [91, 90, 82, 77, 76, 16, 15, 36, 35, 14, 13, 26, 25, 24, 11, 0, 3] [2, 1] ⟨[(91, (iN j)), (90, (sS A31 n32 c33)), (82, (bB false)), (77, (iN j)), (76, (.ls false 2 (n_to + 1) (n_to + 1))), (16, (iN j)), (15, (iN i)), (36, (iN i)), (35, (iN (n_to + 1))), (14, (.ls false 2 (n_to + 1) (n_to + 1))), (13, (iI x8)), (26, (iN t)), (25, (iN n_sq)), (24, (sS (some q5) n_sq c_sq)), (11, (.ls false 1 (n_to + 1) (n_to + 1))), (0, (sS (some q16) n_cu c_cu)), (3, (sS A_to n_to c_to))], [(2, (.lst false 4 crr)), (1, (.lst false 4 arr))], 3, [], []⟩ (by kernel_rfl) ?_
                obtain ⟨q34, rfl⟩ := hs30.ptr (by omega)
                obtain ⟨x37, _, hx35, rfl, at36⟩ := hs30.get j (by omega)
                replace at36 : At G14 (q34.add (j * 1)) [.bool x37] := at36
                refine WL_op (WOp_idx htb q34 n32 ((j : Nat) : Int) 1 (by kernel_rfl) (by omega) (by omega) ?_)
                refine WL_op (WOp_ld htb (q34.add (j * 1)) false 1 [.bool x37] (by kernel_rfl) at36 rfl (by decide) ?_)
                refine WL_execS htb 1 [94, 77, 76, 16, 15, 36, 35, 14, 13, 26, 25, 24, 11, 0, 3] [2, 1] ⟨[(94, (bB x37)), (77, (iN j)), (76, (.ls false 2 (n_to + 1) (n_to + 1))), (16, (iN j)), (15, (iN i)), (36, (iN i)), (35, (iN (n_to + 1))), (14, (.ls false 2 (n_to + 1) (n_to + 1))), (13, (iI x8)), (26, (iN t)), (25, (iN n_sq)), (24, (sS (some q5) n_sq c_sq)), (11, (.ls false 1 (n_to + 1) (n_to + 1))), (0, (sS (some q16) n_cu c_cu)), (3, (sS A_to n_to c_to))], [(2, (.lst false 4 crr)), (1, (.lst false 4 arr))], 3, [], []⟩ (by kernel_rfl) ?_
                refine WL_op (WOp_idxo htb 2 (n_to + 1) ((j : Nat) : Int) 1 (by kernel_rfl) (by omega) (by omega) ?_)
                obtain ⟨ho5, hfit⟩ := ho4.set (i := j) (by omega) (y := x37) (vs := [.bool x37]) (rep_bool _ _)
                refine WL_op (WOp_sto htb 2 (j * 1) [(bB x37)] ([.bool x37] : List Value) (by kernel_rfl) (fun ρ => rfl) rfl hfit ?_)
                refine WL_nil ?_
                refine WQ_blk ?_
                refine WQ_code ?_
                refine WC_region ?_
                refine WL_execS htb 3 [16, 15, 36, 35, 14, 13, 26, 25, 24, 11, 0, 3] [2, 1] ⟨[(16, (iI (IntKind.i64.wrap (((j : Nat) : Int) + 1)))), (15, (iN i)), (36, (iN i)), (35, (iN (n_to + 1))), (14, (.ls false 2 (n_to + 1) (n_to + 1))), (13, (iI x8)), (26, (iN t)), (25, (iN n_sq)), (24, (sS (some q5) n_sq c_sq)), (11, (.ls false 1 (n_to + 1) (n_to + 1))), (0, (sS (some q16) n_cu c_cu)), (3, (sS A_to n_to c_to))], [(2, (.lst false 4 ((crr.toList.take (j * 1) ++ ([.bool x37] : List Value) ++ crr.toList.drop ((j * 1) + 1)).toArray))), (1, (.lst false 4 arr))], 3, [], []⟩ (by kernel_rfl) ?_
                refine WL_nil ?_
                refine WK_env [(16, (iN (j + 1))), (15, (iN i)), (36, (iN i)), (35, (iN (n_to + 1))), (14, (.ls false 2 (n_to + 1) (n_to + 1))), (13, (iI x8)), (26, (iN t)), (25, (iN n_sq)), (24, (sS (some q5) n_sq c_sq)), (11, (.ls false 1 (n_to + 1) (n_to + 1))), (0, (sS (some q16) n_cu c_cu)), (3, (sS A_to n_to c_to))] (fun ρ => ⟨rfl, (congrArg (Value.int .i64) (by rw [wrap_id (by omega)]; first | rfl | omega)), ⟨rfl, rfl, ⟨rfl, rfl, ⟨rfl, rfl, ⟨rfl, rfl, ⟨rfl, rfl, ⟨rfl, rfl, ⟨rfl, rfl, ⟨rfl, rfl, ⟨rfl, rfl, ⟨rfl, rfl, ⟨rfl, rfl, trivial⟩⟩⟩⟩⟩⟩⟩⟩⟩⟩⟩⟩) ?_
                refine WK_keep [16, 15, 36, 35, 14, 13, 26, 25, 24, 11, 0, 3] [2, 1] rfl rfl ?_
                exact WQ_next ((j + 1), (crr.toList.take (j * 1) ++ ([.bool x37] : List Value) ++ crr.toList.drop ((j * 1) + 1)).toArray, (zs.set j x37)) (by show n_to + 1 - (j + 1) < n_to + 1 - j; omega) ⟨hc15, ⟨by omega, by omega, by rw [List.length_set]; exact hzl, hops_set hze hzl hu (by omega) hij (by omega) (hwk ▸ hx17) hx26 hx35, ho5⟩⟩ (fun ρ a w h => h)
            · replace he := of_decide_eq_false he
              refine WC_exit ?_
              refine WQ_then_exit ?_
              refine WQ_then_exit ?_
              refine WQ_hit ?_
              refine WQ_blk ?_
              refine WQ_code ?_
              refine WC_region ?_
              refine WL_execS htb 2 [36, 35, 14, 13, 26, 25, 24, 11, 0, 3] [2, 1] ⟨[(36, (iI (IntKind.i64.wrap (((i : Nat) : Int) + 1)))), (35, (iN (n_to + 1))), (14, (.ls false 2 (n_to + 1) (n_to + 1))), (13, (iI x8)), (26, (iN t)), (25, (iN n_sq)), (24, (sS (some q5) n_sq c_sq)), (11, (.ls false 1 (n_to + 1) (n_to + 1))), (0, (sS A_cu n_cu c_cu)), (3, (sS A_to n_to c_to))], [(2, (.lst false 4 crr)), (1, (.lst false 4 arr))], 3, [], []⟩ (by kernel_rfl) ?_
              refine WL_nil ?_
              refine WK_env [(36, (iN (i + 1))), (35, (iN (n_to + 1))), (14, (.ls false 2 (n_to + 1) (n_to + 1))), (13, (iI x8)), (26, (iN t)), (25, (iN n_sq)), (24, (sS (some q5) n_sq c_sq)), (11, (.ls false 1 (n_to + 1) (n_to + 1))), (0, (sS A_cu n_cu c_cu)), (3, (sS A_to n_to c_to))] (fun ρ => ⟨rfl, (congrArg (Value.int .i64) (by rw [wrap_id (by omega)]; first | rfl | omega)), ⟨rfl, rfl, ⟨rfl, rfl, ⟨rfl, rfl, ⟨rfl, rfl, ⟨rfl, rfl, ⟨rfl, rfl, ⟨rfl, rfl, ⟨rfl, rfl, ⟨rfl, rfl, trivial⟩⟩⟩⟩⟩⟩⟩⟩⟩⟩) ?_
              refine WK_keep [36, 35, 14, 13, 26, 25, 24, 11, 0, 3] [2, 1] rfl rfl ?_
              exact WQ_next ((i + 1), crr, zs) (by show n_to + 1 - (i + 1) < n_to + 1 - i; omega) ⟨hc13, ⟨by omega, hzl, hops_out hze (fun j' h => .inl (by have := hop_le h; omega)) hm, ho4⟩⟩ (fun ρ a w h => h)
          · replace hg := of_decide_eq_false hg
            refine WK_keep [68, 16, 15, 36, 35, 14, 13, 26, 25, 24, 11, 0, 3] [2, 1] rfl rfl ?_
            rw [hwk] at hg
            refine WL_execS htb 5 [73, 16, 15, 36, 35, 14, 13, 26, 25, 24, 11, 0, 3] [2, 1] ⟨[(73, (bB false)), (16, (iN j)), (15, (iN i)), (36, (iN i)), (35, (iN (n_to + 1))), (14, (.ls false 2 (n_to + 1) (n_to + 1))), (13, (iI x8)), (26, (iN t)), (25, (iN n_sq)), (24, (sS (some q5) n_sq c_sq)), (11, (.ls false 1 (n_to + 1) (n_to + 1))), (0, (sS A_cu n_cu c_cu)), (3, (sS A_to n_to c_to))], [(2, (.lst false 4 crr)), (1, (.lst false 4 arr))], 3, [], []⟩ (by kernel_rfl) ?_
            refine WL_nil ?_
            refine WQ_code ?_
            refine WC_cond (b := false) rfl (fun h => by cases h) (fun _ => ?_)
            refine WC_exit ?_
            refine WQ_then_exit ?_
            refine WQ_then_exit ?_
            refine WQ_hit ?_
            refine WQ_blk ?_
            refine WQ_code ?_
            refine WC_region ?_
            refine WL_execS htb 2 [36, 35, 14, 13, 26, 25, 24, 11, 0, 3] [2, 1] ⟨[(36, (iI (IntKind.i64.wrap (((i : Nat) : Int) + 1)))), (35, (iN (n_to + 1))), (14, (.ls false 2 (n_to + 1) (n_to + 1))), (13, (iI x8)), (26, (iN t)), (25, (iN n_sq)), (24, (sS (some q5) n_sq c_sq)), (11, (.ls false 1 (n_to + 1) (n_to + 1))), (0, (sS A_cu n_cu c_cu)), (3, (sS A_to n_to c_to))], [(2, (.lst false 4 crr)), (1, (.lst false 4 arr))], 3, [], []⟩ (by kernel_rfl) ?_
            refine WL_nil ?_
            refine WK_env [(36, (iN (i + 1))), (35, (iN (n_to + 1))), (14, (.ls false 2 (n_to + 1) (n_to + 1))), (13, (iI x8)), (26, (iN t)), (25, (iN n_sq)), (24, (sS (some q5) n_sq c_sq)), (11, (.ls false 1 (n_to + 1) (n_to + 1))), (0, (sS A_cu n_cu c_cu)), (3, (sS A_to n_to c_to))] (fun ρ => ⟨rfl, (congrArg (Value.int .i64) (by rw [wrap_id (by omega)]; first | rfl | omega)), ⟨rfl, rfl, ⟨rfl, rfl, ⟨rfl, rfl, ⟨rfl, rfl, ⟨rfl, rfl, ⟨rfl, rfl, ⟨rfl, rfl, ⟨rfl, rfl, ⟨rfl, rfl, trivial⟩⟩⟩⟩⟩⟩⟩⟩⟩⟩) ?_
            refine WK_keep [36, 35, 14, 13, 26, 25, 24, 11, 0, 3] [2, 1] rfl rfl ?_
            exact WQ_next ((i + 1), crr, zs) (by show n_to + 1 - (i + 1) < n_to + 1 - i; omega) ⟨hc13, ⟨by omega, hzl, hops_out hze (fun j' h => .inr (hop_none h (by omega) (by omega))) hm, ho4⟩⟩ (fun ρ a w h => h)
    · replace hd := of_decide_eq_false hd
      refine WC_exit ?_
      refine WQ_then_exit ?_
      refine WQ_then_exit ?_
      refine WQ_hit ?_
      refine WQ_code ?_
      refine WC_region ?_
      refine WL_execS htb 2 [11, 26, 25, 24, 0, 3] [2] ⟨[(11, (.ls false 2 (n_to + 1) (n_to + 1))), (26, (iN t)), (25, (iN n_sq)), (24, (sS (some q5) n_sq c_sq)), (0, (sS A_cu n_cu c_cu)), (3, (sS A_to n_to c_to))], [(2, (.lst false 4 brr))], 3, [], []⟩ (by kernel_rfl) ?_
      refine WL_nil ?_
      refine WQ_blk ?_
      refine WQ_code ?_
      refine WC_region ?_
      refine WL_execS htb 2 [26, 11, 25, 24, 0, 3] [2] ⟨[(26, (iI (IntKind.i64.wrap (((t : Nat) : Int) + 1)))), (11, (.ls false 2 (n_to + 1) (n_to + 1))), (25, (iN n_sq)), (24, (sS (some q5) n_sq c_sq)), (0, (sS A_cu n_cu c_cu)), (3, (sS A_to n_to c_to))], [(2, (.lst false 4 brr))], 3, [], []⟩ (by kernel_rfl) ?_
      refine WL_nil ?_
      have hi' : i = n_to + 1 := by omega
      refine WK_env [(26, (iN (t + 1))), (11, (.ls false 2 (n_to + 1) (n_to + 1))), (25, (iN n_sq)), (24, (sS (some q5) n_sq c_sq)), (0, (sS A_cu n_cu c_cu)), (3, (sS A_to n_to c_to))] (fun ρ => ⟨rfl, (congrArg (Value.int .i64) (by rw [wrap_id (by omega)]; first | rfl | omega)), ⟨rfl, rfl, ⟨rfl, rfl, ⟨rfl, rfl, ⟨rfl, rfl, ⟨rfl, rfl, trivial⟩⟩⟩⟩⟩⟩) ?_
      refine WK_keep [26, 25, 24, 11, 0, 3] [2] rfl rfl ?_
      exact WQ_nextR ((t + 1), brr, ys) (by show n_sq - (t + 1) < n_sq - t; omega) ⟨hc4, ⟨by omega, hyl, ends_step hx6 hxe hye (by omega), ho3⟩⟩ [(1, 2)] rfl rfl rfl rfl rfl rfl
  · replace hc := of_decide_eq_false hc
    refine WC_exit ?_
    refine WQ_then_exit ?_
    refine WQ_then_exit ?_
    refine WQ_hit ?_
    refine WQ_code ?_
    refine WC_seq (WC_region ?_)
    refine WL_execS htb 2 [10] [1] ⟨[(10, (.ls false 1 (n_to + 1) (n_to + 1)))], [(1, (.lst false 4 arr))], 2, [], []⟩ (by kernel_rfl) ?_
    refine WL_nil ?_
    refine WQ_code ?_
    refine WC_ret ?_
    have htk : sq.take t = sq := List.take_of_length_le (by omega)
    rw [htk] at hxe
    exact WQ_doneO htb _ (.inl rfl) (z := false) (h := 1) (n := n_to + 1) (xs := xs) rfl (by kernel_rfl) rfl rfl rfl (by omega) (fun h => by cases h) ho ⟨hxl, hxe⟩

end Go.Proofs.Ytbpajkjolhoflaa.Sym
