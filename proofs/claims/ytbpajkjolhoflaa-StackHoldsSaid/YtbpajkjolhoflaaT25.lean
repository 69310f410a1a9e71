/- Walks of functions that the laws of this seat reach, printed by a program of this session's. -/
import Derived.Test.YtbpajkjolhoflaaT24
import Derived.Test.YtbpajkjolhoflaaSymL
import Derived.Laws.Strings
import Derived.WideShapes
set_option linter.unusedSimpArgs false
set_option linter.unusedVariables false
set_option maxHeartbeats 4000000
namespace Go.Proofs.Ytbpajkjolhoflaa.Sym
open Go Go.Proofs Go.RowKit






inductive DerL (rs : List (List (List Int))) : List Int → List Int → Prop
  | nil : DerL rs [] []
  | tok (k : Int) (sq to : List Int) : 0 ≤ k → DerL rs sq to → DerL rs (k :: sq) (k :: to)
  | rule (k : Int) (sq : List Int) (alts : List (List Int)) (alt u v : List Int) : k < 0 → rs[(-1 - k).toNat]? = some alts → alt ∈ alts → DerL rs alt u → DerL rs sq v → DerL rs (k :: sq) (u ++ v)
abbrev FN := Nat → Nat → Nat → Bool
def SoundC (rs : List (List (List Int))) (to : List Int) (m n : Nat) (c : FN) : Prop := ∀ r i j, r < m → i < n → j < n → c r i j = true → i ≤ j ∧ ∃ alts alt, rs[r]? = some alts ∧ alt ∈ alts ∧ DerL rs alt ((to.take j).drop i)
def ClosedC (rs : List (List (List Int))) (to : List Int) (m n : Nat) (c : FN) : Prop := ∀ r alts, rs[r]? = some alts → ∀ a ∈ alts, ∀ i j, i < n → EndsP (cubeL m n c) to a i j → c r i j = true
def PR (rs : List (List (List Int))) (to : List Int) (c : FN) (m n r : Nat) : Prop := ∀ r', r' < r → ∀ alts, rs[r']? = some alts → ∀ a ∈ alts, ∀ i j, i < n → EndsP (cubeL m n c) to a i j → c r' i j = true
def PA (rs : List (List (List Int))) (to : List Int) (c : FN) (m n r : Nat) (al : List (List Int)) (k : Nat) : Prop := PR rs to c m n r ∧ ∀ a ∈ al.take k, ∀ i j, i < n → EndsP (cubeL m n c) to a i j → c r i j = true
def PI (rs : List (List (List Int))) (to : List Int) (c : FN) (m n r : Nat) (al : List (List Int)) (k : Nat) (sq : List Int) (i : Nat) : Prop := PA rs to c m n r al k ∧ ∀ i', i' < i → ∀ j, EndsP (cubeL m n c) to sq i' j → c r i' j = true
def PJ (rs : List (List (List Int))) (to : List Int) (c : FN) (m n r : Nat) (al : List (List Int)) (k : Nat) (sq : List Int) (i : Nat) (c3 : FN) (ys : List Bool) (j : Nat) : Prop := PI rs to c m n r al k sq i ∧ c3 = c ∧ ∀ j', j' < j → ys.getD j' false = true → c r i j' = true
def cells3 (m n : Nat) : List (Nat × Nat × Nat) := (List.range m).flatMap fun r => (List.range n).flatMap fun i => (List.range n).map fun j => (r, i, j)
def cnt (m n : Nat) (c : FN) : Nat := (cells3 m n).countP fun x => !c x.1 x.2.1 x.2.2
structure Rnd (rs : List (List (List Int))) (to : List Int) (m n : Nat) (c0 c : FN) (ag : Bool) (P : Prop) : Prop where
  le : ∀ x y z, c0 x y z = true → c x y z = true
  dec : ag = true → cnt m n c < cnt m n c0
  same : ag = false → c = c0 ∧ P
  snd : SoundC rs to m n c
theorem soundC_start {rs : List (List (List Int))} {to : List Int} {m n : Nat} : SoundC rs to m n (fun _ _ _ => false) := fun r i j _ _ _ h => by cases h
section
variable {rs : List (List (List Int))} {to : List Int} {m n : Nat} {c0 c : FN} {ag : Bool} {P Q : Prop} {r k i j : Nat} {al : List (List Int)} {sq : List Int} {c3 c4 : FN} {ys : List Bool}
theorem Rnd.start (h : SoundC rs to m n c0) (hp : P) : Rnd rs to m n c0 c0 false P := ⟨fun _ _ _ h => h, fun h => by (cases h), fun _ => ⟨rfl, hp⟩, h⟩
theorem Rnd.imp (h : Rnd rs to m n c0 c ag P) (f : P → Q) : Rnd rs to m n c0 c ag Q := ⟨h.le, h.dec, fun e => ⟨(h.same e).1, f (h.same e).2⟩, h.snd⟩
theorem Rnd.imp2 (h : Rnd rs to m n c0 c ag P) (f : c = c0 → P → Q) : Rnd rs to m n c0 c ag Q := ⟨h.le, h.dec, fun e => ⟨(h.same e).1, f (h.same e).1 (h.same e).2⟩, h.snd⟩
theorem PR_zero : PR rs to c0 m n 0 := fun r' h => by omega
theorem PA_zero (h : PR rs to c0 m n r) : PA rs to c0 m n r al 0 := ⟨h, fun a h => by simp at h⟩
theorem PI_zero (h : PA rs to c0 m n r al k) : PI rs to c0 m n r al k sq 0 := ⟨h, fun i h => by omega⟩
theorem PJ_zero (e : c3 = c0) (h : PI rs to c0 m n r al k sq i) : PJ rs to c0 m n r al k sq i c3 ys 0 := ⟨h, e, fun j h => by omega⟩
theorem PJ_step (hf : ys.getD j false = true → c4 r i j = true) (e : c4 = c0) (h : PJ rs to c0 m n r al k sq i c3 ys j) : PJ rs to c0 m n r al k sq i c3 ys (j + 1) := ⟨h.1, h.2.1, fun j' h1 h2 => by
  by_cases ej : j' = j
  · subst ej; rw [← e]; exact hf h2
  · exact h.2.2 j' (by omega) h2⟩
theorem PI_step (hyl : ys.length = to.length + 1) (hye : ∀ j, ys.getD j false = true ↔ EndsP (cubeL m n c3) to sq i j) (hj : ys.length ≤ j) (h : PJ rs to c0 m n r al k sq i c3 ys j) : PI rs to c0 m n r al k sq (i + 1) := ⟨h.1.1, fun i' h1 j' h2 => by
  by_cases ei : i' = i
  · subst ei
    obtain ⟨_, e, h3⟩ := h
    subst e
    have h4 := (hye j').2 h2
    refine h3 j' ?_ h4
    rcases Nat.lt_or_ge j' ys.length with h' | h'
    · omega
    · rw [List.getD_eq_getElem?_getD, List.getElem?_eq_none h'] at h4; cases h4
  · exact h.1.2 i' (by omega) j' h2⟩
theorem PA_step (hk : al[k]? = some sq) (hi : n ≤ i) (h : PI rs to c0 m n r al k sq i) : PA rs to c0 m n r al (k + 1) := ⟨h.1.1, fun a ha i' j' h1 h2 => by
  rw [take_succ' hk] at ha
  rcases List.mem_append.1 ha with ha | ha
  · exact h.1.2 a ha i' j' h1 h2
  · rw [List.mem_singleton.1 ha] at h2; exact h.2 i' (by omega) j' h2⟩
theorem PR_step (hr : rs[r]? = some al) (hk : al.length ≤ k) (h : PA rs to c0 m n r al k) : PR rs to c0 m n (r + 1) := fun r' h1 alts h2 a ha i' j' h3 h4 => by
  by_cases er : r' = r
  · subst er; rw [hr] at h2; injection h2 with h2; subst h2
    rw [← List.take_of_length_le hk] at ha
    exact h.2 a ha i' j' h3 h4
  · exact h.1 r' (by omega) alts h2 a ha i' j' h3 h4
theorem bool_toNat_le (b : Bool) : b.toNat ≤ 1 := by cases b <;> simp
theorem Rnd.mu (h : Rnd rs to m n c0 c ag P) : cnt m n c + ag.toNat < cnt m n c0 + 1 := by
  cases ag with
  | true => have := h.dec rfl; simp; omega
  | false => obtain ⟨e, _⟩ := h.same rfl; subst e; simp
theorem Rnd.closed (h : Rnd rs to m n c0 c ag (PR rs to c0 m n r)) (ha : ag = false) (hr : rs.length ≤ r) : ClosedC rs to m n c := fun r' alts h2 a ha' i' j' h3 h4 => by
  obtain ⟨e, h5⟩ := h.same ha
  subst e
  exact h5 r' (by have := (List.getElem?_eq_some_iff.1 h2).1; omega) alts h2 a ha' i' j' h3 h4
theorem countP_lt {α : Type} {p q : α → Bool} : ∀ {l : List α}, (∀ x ∈ l, q x = true → p x = true) → (∃ x ∈ l, p x = true ∧ q x = false) → l.countP q < l.countP p
  | [], _, h => by obtain ⟨x, hx, _⟩ := h; cases hx
  | y :: l, h1, h2 => by
    rw [List.countP_cons, List.countP_cons]
    have hle : l.countP q ≤ l.countP p := List.countP_mono_left (fun x hx => h1 x (List.mem_cons_of_mem _ hx))
    obtain ⟨x, hx, h3, h4⟩ := h2
    rcases List.mem_cons.1 hx with rfl | hx
    · rw [h3, h4]; simp; omega
    · have := countP_lt (fun x hx => h1 x (List.mem_cons_of_mem _ hx)) ⟨x, hx, h3, h4⟩
      have h5 := h1 y List.mem_cons_self
      cases hq : q y with
      | true => rw [h5 hq]; simp; omega
      | false => simp; omega
theorem mem_cells3 : (r, i, j) ∈ cells3 m n ↔ r < m ∧ i < n ∧ j < n := by
  simp only [cells3, List.mem_flatMap, List.mem_map, List.mem_range, Prod.mk.injEq]
  constructor
  · rintro ⟨a, h1, b, h2, d, h3, rfl, rfl, rfl⟩; exact ⟨h1, h2, h3⟩
  · rintro ⟨h1, h2, h3⟩; exact ⟨r, h1, i, h2, j, h3, rfl, rfl, rfl⟩
theorem cnt_set (hr : r < m) (hi : i < n) (hj : j < n) (hc : c r i j = false) : cnt m n (fun x y z => if x = r ∧ y = i ∧ z = j then true else c x y z) < cnt m n c := by
  refine countP_lt (fun x _ hx => ?_) ⟨(r, i, j), mem_cells3.2 ⟨hr, hi, hj⟩, by simp [hc], by simp⟩
  revert hx; simp only
  split <;> simp
theorem cnt_le (h : ∀ x y z, c0 x y z = true → c x y z = true) : cnt m n c ≤ cnt m n c0 := by
  refine List.countP_mono_left (fun x _ hx => ?_)
  cases e : c0 x.1 x.2.1 x.2.2 with
  | true => rw [h _ _ _ e] at hx; cases hx
  | false => rfl
theorem Rnd.set (h : Rnd rs to m n c0 c ag P) (hr : r < m) (hi : i < n) (hj : j < n) (hc : c r i j = false) (hs : SoundC rs to m n (fun x y z => if x = r ∧ y = i ∧ z = j then true else c x y z)) :
    Rnd rs to m n c0 (fun x y z => if x = r ∧ y = i ∧ z = j then true else c x y z) true Q :=
  ⟨fun x y z hx => by (show (if x = r ∧ y = i ∧ z = j then true else c x y z) = true; split; rfl; exact h.le x y z hx), fun _ => Nat.lt_of_lt_of_le (cnt_set hr hi hj hc) (cnt_le h.le), fun e => by (cases e), hs⟩
theorem set_up (h : ∀ x y z, c3 x y z = true → c4 x y z = true) : ∀ x y z, c3 x y z = true → (fun x y z => if x = r ∧ y = i ∧ z = j then true else c4 x y z) x y z = true := fun x y z hx => by
  simp only; split
  · rfl
  · exact h x y z hx
theorem none_of {G G' : Heap} (h : Le G G') {b : Nat} (hb : G' b = none) : G b = none := by
  cases e : G b with
  | none => rfl
  | some o => rw [h _ _ e] at hb; cases hb
theorem cubeAt_cubeL : cubeAt (cubeL m n c) r i j = true ↔ r < m ∧ i < n ∧ j < n ∧ c r i j = true := by
  unfold cubeAt cubeL
  simp only [List.getD_eq_getElem?_getD, List.getElem?_map]
  by_cases hr : r < m
  · rw [List.getElem?_range hr]
    simp only [Option.map_some, Option.getD_some, List.getElem?_map]
    by_cases hi : i < n
    · rw [List.getElem?_range hi]
      simp only [Option.map_some, Option.getD_some, List.getElem?_map]
      by_cases hj : j < n
      · rw [List.getElem?_range hj]; simp [hr, hi, hj]
      · rw [List.getElem?_eq_none (l := List.range n) (by simpa using hj)]; simp [hj]
    · rw [List.getElem?_eq_none (l := List.range n) (by simpa using hi)]; simp [hi]
  · rw [List.getElem?_eq_none (l := List.range m) (by simpa using hr)]; simp [hr]
theorem dims_cubeL {n2 : Nat} (h : n = n2) : Dims (cubeL m n c) n2 := by
  subst h
  intro a ha
  obtain ⟨r, _, rfl⟩ := List.mem_map.1 ha
  refine ⟨by simp, fun b hb => ?_⟩
  obtain ⟨i, _, rfl⟩ := List.mem_map.1 hb
  simp
theorem take_drop_cons {i j : Nat} {x : Int} (hi : i < j) (hx : to[i]? = some x) : (to.take j).drop i = x :: (to.take j).drop (i + 1) := by
  have h1 : (to.take j)[i]? = some x := by rw [List.getElem?_take, if_pos hi, hx]
  obtain ⟨h2, h3⟩ := List.getElem?_eq_some_iff.1 h1
  rw [List.drop_eq_getElem_cons h2, h3]
theorem take_drop_cut {i k j : Nat} (h1 : i ≤ k) (h2 : k ≤ j) : (to.take j).drop i = (to.take k).drop i ++ (to.take j).drop k := by
  have e : to.take j = to.take k ++ (to.take j).drop k := by
    have h := List.take_append_drop k (to.take j)
    rw [List.take_take, Nat.min_eq_left h2] at h
    exact h.symm
  rcases Nat.lt_or_ge to.length k with h | h
  · have h3 : to.take k = to := List.take_of_length_le (by omega)
    have h4 : to.take j = to := List.take_of_length_le (by omega)
    rw [h3, h4, List.drop_of_length_le (l := to) (i := k) (by omega), List.append_nil]
  · conv => lhs; rw [e]
    rw [List.drop_append_of_le_length (by rw [List.length_take]; omega)]
theorem ends_sound (hn : n = to.length + 1) (hs : SoundC rs to m n c) : ∀ {sq : List Int} {i j : Nat}, i ≤ to.length → EndsP (cubeL m n c) to sq i j → i ≤ j ∧ j ≤ to.length ∧ DerL rs sq ((to.take j).drop i)
  | [], i, j, hi, h => by
    have e : i = j := h
    subst e
    exact ⟨Nat.le_refl _, hi, by rw [List.drop_of_length_le (by rw [List.length_take]; omega)]; exact .nil⟩
  | k :: sq, i, j, hi, h => by
    obtain ⟨x, h1, h2⟩ := h
    have hx := hop_le h1
    obtain ⟨h3, h4, h5⟩ := ends_sound hn hs hx h2
    rcases h1 with ⟨hk, rfl, ht⟩ | ⟨hk, hix, _, hc⟩
    · exact ⟨by omega, h4, by rw [take_drop_cons (by omega) ht]; exact .tok k sq _ hk h5⟩
    · obtain ⟨h6, h7, h8, h9⟩ := cubeAt_cubeL.1 hc
      obtain ⟨_, alts, alt, q1, q2, q3⟩ := hs _ _ _ h6 h7 h8 h9
      exact ⟨by omega, h4, by rw [take_drop_cut hix h3]; exact .rule k sq alts alt _ _ hk q1 q2 q3 h5⟩
theorem ends_mono (h : ∀ x y z, c3 x y z = true → c4 x y z = true) : ∀ {sq : List Int} {i j : Nat}, EndsP (cubeL m n c3) to sq i j → EndsP (cubeL m n c4) to sq i j
  | [], i, j, e => e
  | k :: sq, i, j, ⟨x, h1, h2⟩ => by
    refine ⟨x, ?_, ends_mono h h2⟩
    rcases h1 with h1 | ⟨q1, q2, q3, q4⟩
    · exact .inl h1
    · obtain ⟨h6, h7, h8, h9⟩ := cubeAt_cubeL.1 q4
      exact .inr ⟨q1, q2, q3, cubeAt_cubeL.2 ⟨h6, h7, h8, h _ _ _ h9⟩⟩
theorem sound_step (hn : n = to.length + 1) (hi : i ≤ to.length) (hup : ∀ x y z, c3 x y z = true → c4 x y z = true) (hs : SoundC rs to m n c4) (hr : rs[r]? = some al) (hk : al[k]? = some sq) (hye : ys.getD j false = true ↔ EndsP (cubeL m n c3) to sq i j) (hm : ys.getD j false = true) :
    SoundC rs to m n (fun x y z => if x = r ∧ y = i ∧ z = j then true else c4 x y z) := fun x y z hx hy hz h => by
  simp only at h
  split at h
  · rename_i e
    obtain ⟨rfl, rfl, rfl⟩ := e
    obtain ⟨h1, _, h2⟩ := ends_sound hn hs hi (ends_mono hup (hye.1 hm))
    exact ⟨h1, al, sq, hr, List.mem_of_getElem? hk, h2⟩
  · exact hs x y z hx hy hz h
def Spans (rs : List (List (List Int))) (to : List Int) (cu : List (List (List Bool))) : Prop := ∀ sq i j, i ≤ to.length → (EndsP cu to sq i j ↔ i ≤ j ∧ j ≤ to.length ∧ DerL rs sq ((to.take j).drop i))
theorem ends_complete (hm : m = rs.length) (hn : n = to.length + 1) (hc : ClosedC rs to m n c) {sq u : List Int} (h : DerL rs sq u) : ∀ i j, i ≤ j → j ≤ to.length → u = (to.take j).drop i → EndsP (cubeL m n c) to sq i j := by
  induction h with
  | nil =>
    intro i j h1 h2 e
    have := congrArg List.length e
    simp at this
    show i = j
    omega
  | tok k sq u hk _ ih =>
    intro i j h1 h2 e
    have hl := congrArg List.length e
    simp at hl
    have hij : i < j := by omega
    have hx : to[i]? = some to[i] := List.getElem?_eq_getElem (by omega)
    rw [take_drop_cons hij hx] at e
    injection e with e1 e2
    exact ⟨i + 1, .inl ⟨hk, rfl, by rw [hx, e1]⟩, ih (i + 1) j (by omega) h2 e2⟩
  | rule k sq alts alt u v hk ha hal _ _ ih1 ih2 =>
    intro i j h1 h2 e
    have hl := congrArg List.length e
    simp at hl
    have h3 : i + u.length ≤ j := by omega
    rw [take_drop_cut (Nat.le_add_right i u.length) h3] at e
    have hlu : u.length = ((to.take (i + u.length)).drop i).length := by simp; omega
    obtain ⟨e1, e2⟩ := List.append_inj e hlu
    have h4 := ih1 i (i + u.length) (by omega) (by omega) e1
    have h5 := hc _ alts ha alt hal i (i + u.length) (by omega) h4
    have h6 := (List.getElem?_eq_some_iff.1 ha).1
    exact ⟨i + u.length, .inr ⟨hk, by omega, by omega, cubeAt_cubeL.2 ⟨by omega, by omega, by omega, h5⟩⟩, ih2 _ _ (by omega) h2 e2⟩
theorem spans_of (hm : m = rs.length) (hn : n = to.length + 1) (hs : SoundC rs to m n c) (hc : ClosedC rs to m n c) : Spans rs to (cubeL m n c) := fun sq i j hi =>
  ⟨fun h => ends_sound hn hs hi h, fun ⟨h1, h2, h3⟩ => ends_complete hm hn hc h3 i j h1 h2 rfl⟩
end
theorem Cube.top' {Gb G : Heap} {b0 : Nat} {f : Nat → Nat} {g : Nat → Nat → Nat} {m n : Nat} {c : FN} (h : Cube Gb G b0 f g m n c) {r : Nat} (hr : r < m) : At G ((⟨b0, 0, none⟩ : Addr).add (r * 1)) [.slice (some ⟨f r, 0, none⟩) n n] := by
  have := h.top r hr; rw [add_lit']; simpa using this
theorem Cube.mid' {Gb G : Heap} {b0 : Nat} {f : Nat → Nat} {g : Nat → Nat → Nat} {m n : Nat} {c : FN} (h : Cube Gb G b0 f g m n c) {r i : Nat} (hr : r < m) (hi : i < n) : At G ((⟨f r, 0, none⟩ : Addr).add (i * 1)) [.slice (some ⟨g r i, 0, none⟩) n n] := by
  have := h.mid r i hr hi; rw [add_lit']; simpa using this
theorem Cube.low' {Gb G : Heap} {b0 : Nat} {f : Nat → Nat} {g : Nat → Nat → Nat} {m n : Nat} {c : FN} (h : Cube Gb G b0 f g m n c) {r i j : Nat} (hr : r < m) (hi : i < n) (hj : j < n) : At G ((⟨g r i, 0, none⟩ : Addr).add (j * 1)) [.bool (c r i j)] := by
  obtain ⟨T, a, h1, _, h2⟩ := h.low r i hr hi
  exact at_of h1 (h2 j hj)
theorem known_ok {w : World} {G : Heap} (hG : Has w G) {tk : (List ByteArray)} {A_tk : Option Addr} {n_tk : Nat} {c_tk : Nat} {nm : (List ByteArray)} {A_nm : Option Addr} {n_nm : Nat} {c_nm : Nat} {rs : (List (List (List Int)))} {A_rs : Option Addr} {n_rs : Nat} {c_rs : Nat} {to : (List Int)} {A_to : Option Addr} {n_to : Nat} {c_to : Nat} (h_tk : Sl tStr G A_tk n_tk c_tk tk) (h_nm : Sl tStr G A_nm n_nm c_nm nm) (h_rs : Sl (tSlice (tSlice (tInt .i64))) G A_rs n_rs c_rs rs) (h_to : Sl (tInt .i64) G A_to n_to c_to to) (hrs : rs.length ≤ 1000) (hto : to.length ≤ 1000) :
    Calls Try.prog 52 #[(.agg #[.slice A_tk n_tk c_tk, .slice A_nm n_nm c_nm, .slice A_rs n_rs c_rs]), (.slice A_to n_to c_to)] w (Ret w G fun v G' => ∃ A cu, v = .slice A rs.length rs.length ∧ Sl (tSlice (tSlice tBool)) G' A rs.length rs.length cu ∧ Dims cu (to.length + 1) ∧ Spans rs to cu) := by
  have lh_tk := h_tk.len'
  have lh_nm := h_nm.len'
  have lh_rs := h_rs.len'
  have lh_to := h_to.len'
  refine enter [(.agg [(sS A_tk n_tk c_tk), (sS A_nm n_nm c_nm), (sS A_rs n_rs c_rs)]), (sS A_to n_to c_to)] 81 Try.func52 rfl rfl rfl rfl hG ?_
  refine WC_seq (WC_region ?_)
  refine WL_execS htb 2 [2, 1] [0] ⟨[(2, (.p 0 0)), (1, (sS A_to n_to c_to))], [(0, (.cells 35 [(sS A_tk n_tk c_tk), (sS A_nm n_nm c_nm), (sS A_rs n_rs c_rs)]))], 1, [], []⟩ (by kernel_rfl) ?_
  refine WL_nil ?_
  refine WQ_code ?_
  refine WC_seq (WC_region ?_)
  refine WL_execS htb 5 [18, 16, 2, 1] [0] ⟨[(18, (iN n_to)), (16, (iN n_rs)), (2, (.p 0 0)), (1, (sS A_to n_to c_to))], [(0, (.cells 35 [(sS A_tk n_tk c_tk), (sS A_nm n_nm c_nm), (sS A_rs n_rs c_rs)]))], 1, [], []⟩ (by kernel_rfl) ?_
  refine WK_freeze 0 rfl rfl rfl rfl ?_
  intro bk2 G1 hle hbk2
  replace h_tk := h_tk.mono hle
  replace h_nm := h_nm.mono hle
  replace h_rs := h_rs.mono hle
  replace h_to := h_to.mono hle
  have hz := FZ.cons (h := 0) hbk2 rfl (FZ.nil _)
  have hle0 := hle
  have hleb : Le G1 G1 := Le.refl _
  refine WL_op (WOp_call 73 [(iN n_rs), (iN n_to)] (by kernel_rfl) (goes_of Try.func73 rfl rfl) (fun ρ w hW => fresh_ok hW.has (m := n_rs) (n := n_to) (by omega) (by omega)) ?_)
  intro G501 v hle hΦ
  replace hleb := Le.trans hleb hle
  obtain ⟨b0, f, g, rfl, hC⟩ := hΦ
  refine WL_execS htb 1 [5, 2, 1] [] ⟨[(5, (sS (some ⟨b0, 0, none⟩) n_rs n_rs)), (2, (.p 0 0)), (1, (sS A_to n_to c_to))], [], 1, [], [(0, bk2, (.cells 35 [(sS A_tk n_tk c_tk), (sS A_nm n_nm c_nm), (sS A_rs n_rs c_rs)]))]⟩ (by kernel_rfl) ?_
  refine WL_nil ?_
  refine WQ_code ?_
  refine WC_seq ?_
  refine WC_seq (WC_region ?_)
  refine WL_execS htb 1 [6, 5, 2, 1] [] ⟨[(6, (bB true)), (5, (sS (some ⟨b0, 0, none⟩) n_rs n_rs)), (2, (.p 0 0)), (1, (sS A_to n_to c_to))], [], 1, [], [(0, bk2, (.cells 35 [(sS A_tk n_tk c_tk), (sS A_nm n_nm c_nm), (sS A_rs n_rs c_rs)]))]⟩ (by kernel_rfl) ?_
  refine WL_nil ?_
  refine WQ_code ?_
  refine WC_block ?_
  refine WK_keep [6, 5, 2, 1] [] rfl rfl ?_
  refine WC_loop (ι := Bool × (Nat → Nat → Nat → Bool)) (fun (ag, c0) G3 => Le G1 G3 ∧ Cube G1 G3 b0 f g n_rs (n_to + 1) c0 ∧ SoundC rs to n_rs (n_to + 1) c0 ∧ (ag = false → ClosedC rs to n_rs (n_to + 1) c0)) (fun (ag, c0) => ⟨[(6, (bB ag)), (5, (sS (some ⟨b0, 0, none⟩) n_rs n_rs)), (2, (.p 0 0)), (1, (sS A_to n_to c_to))], [], 1, [], [(0, bk2, (.cells 35 [(sS A_tk n_tk c_tk), (sS A_nm n_nm c_nm), (sS A_rs n_rs c_rs)]))]⟩) (fun (ag, c0) => cnt n_rs (n_to + 1) c0 + ag.toNat) (true, (fun _ _ _ => false)) ⟨hleb, hC, soundC_start, (fun h => by cases h)⟩ rfl ?_
  rintro ⟨ag, c0⟩ G3 hF
  show WC _ _ _ _ _ ⟨[(6, (bB ag)), (5, (sS (some ⟨b0, 0, none⟩) n_rs n_rs)), (2, (.p 0 0)), (1, (sS A_to n_to c_to))], [], 1, [], [(0, bk2, (.cells 35 [(sS A_tk n_tk c_tk), (sS A_nm n_nm c_nm), (sS A_rs n_rs c_rs)]))]⟩ _
  obtain ⟨hleb, hC, hS, hcl⟩ := hF
  refine WC_seq ?_
  refine WC_seq (WC_region ?_)
  refine WL_execS htb 1 [20, 5, 2, 1] [] ⟨[(20, (bB ag)), (5, (sS (some ⟨b0, 0, none⟩) n_rs n_rs)), (2, (.p 0 0)), (1, (sS A_to n_to c_to))], [], 1, [], [(0, bk2, (.cells 35 [(sS A_tk n_tk c_tk), (sS A_nm n_nm c_nm), (sS A_rs n_rs c_rs)]))]⟩ (by kernel_rfl) ?_
  refine WL_nil ?_
  refine WQ_code ?_
  refine WC_cond (b := ag) rfl (fun hag => ?_) (fun hag => ?_)
  · skip
    subst hag
    refine WC_skip ?_
    refine WQ_code ?_
    refine WC_block ?_
    refine WC_seq (WC_region ?_)
    refine WL_execS htb 1 [6, 5, 2, 1] [] ⟨[(6, (bB false)), (5, (sS (some ⟨b0, 0, none⟩) n_rs n_rs)), (2, (.p 0 0)), (1, (sS A_to n_to c_to))], [], 1, [], [(0, bk2, (.cells 35 [(sS A_tk n_tk c_tk), (sS A_nm n_nm c_nm), (sS A_rs n_rs c_rs)]))]⟩ (by kernel_rfl) ?_
    refine WL_nil ?_
    refine WQ_code ?_
    refine WC_seq (WC_region ?_)
    refine WL_execS htb 4 [24, 23, 22, 6, 5, 2, 1] [] ⟨[(24, (iI 0)), (23, (iN n_rs)), (22, (sS A_rs n_rs c_rs)), (6, (bB false)), (5, (sS (some ⟨b0, 0, none⟩) n_rs n_rs)), (2, (.p 0 0)), (1, (sS A_to n_to c_to))], [], 1, [], [(0, bk2, (.cells 35 [(sS A_tk n_tk c_tk), (sS A_nm n_nm c_nm), (sS A_rs n_rs c_rs)]))]⟩ (by kernel_rfl) ?_
    refine WL_nil ?_
    refine WQ_code ?_
    refine WC_block ?_
    refine WK_keep [24, 23, 22, 6, 5, 2, 1] [] rfl rfl ?_
    refine WK_env [(24, (iN 0)), (23, (iN n_rs)), (22, (sS A_rs n_rs c_rs)), (6, (bB false)), (5, (sS (some ⟨b0, 0, none⟩) n_rs n_rs)), (2, (.p 0 0)), (1, (sS A_to n_to c_to))] (fun ρ => ⟨rfl, rfl, ⟨rfl, rfl, ⟨rfl, rfl, ⟨rfl, rfl, ⟨rfl, rfl, ⟨rfl, rfl, ⟨rfl, rfl, trivial⟩⟩⟩⟩⟩⟩⟩) ?_
    refine WC_loop (ι := Nat × Bool × (Nat → Nat → Nat → Bool)) (fun (r, ag1, c1) G4 => r ≤ n_rs ∧ Le G1 G4 ∧ Cube G1 G4 b0 f g n_rs (n_to + 1) c1 ∧ Rnd rs to n_rs (n_to + 1) c0 c1 ag1 (PR rs to c0 n_rs (n_to + 1) r)) (fun (r, ag1, c1) => ⟨[(24, (iN r)), (23, (iN n_rs)), (22, (sS A_rs n_rs c_rs)), (6, (bB ag1)), (5, (sS (some ⟨b0, 0, none⟩) n_rs n_rs)), (2, (.p 0 0)), (1, (sS A_to n_to c_to))], [], 1, [], [(0, bk2, (.cells 35 [(sS A_tk n_tk c_tk), (sS A_nm n_nm c_nm), (sS A_rs n_rs c_rs)]))]⟩) (fun (r, ag1, c1) => n_rs - r) (0, false, c0) ⟨Nat.zero_le _, hleb, hC, Rnd.start hS PR_zero⟩ rfl ?_
    rintro ⟨r, ag1, c1⟩ G4 hF
    show WC _ _ _ _ _ ⟨[(24, (iN r)), (23, (iN n_rs)), (22, (sS A_rs n_rs c_rs)), (6, (bB ag1)), (5, (sS (some ⟨b0, 0, none⟩) n_rs n_rs)), (2, (.p 0 0)), (1, (sS A_to n_to c_to))], [], 1, [], [(0, bk2, (.cells 35 [(sS A_tk n_tk c_tk), (sS A_nm n_nm c_nm), (sS A_rs n_rs c_rs)]))]⟩ _
    obtain ⟨hr, hleb, hC1, hR1⟩ := hF
    refine WC_seq (WC_region ?_)
    refine WL_execS htb 1 [25, 24, 23, 22, 6, 5, 2, 1] [] ⟨[(25, (bB (decide ((((r : Nat) : Int) : Int) < ((n_rs : Nat) : Int))))), (24, (iN r)), (23, (iN n_rs)), (22, (sS A_rs n_rs c_rs)), (6, (bB ag1)), (5, (sS (some ⟨b0, 0, none⟩) n_rs n_rs)), (2, (.p 0 0)), (1, (sS A_to n_to c_to))], [], 1, [], [(0, bk2, (.cells 35 [(sS A_tk n_tk c_tk), (sS A_nm n_nm c_nm), (sS A_rs n_rs c_rs)]))]⟩ (by kernel_rfl) ?_
    refine WL_nil ?_
    refine WQ_code ?_
    refine WC_seq ?_
    refine WC_cond (b := (decide ((((r : Nat) : Int) : Int) < ((n_rs : Nat) : Int)))) rfl (fun hc1 => ?_) (fun hc1 => ?_)
    · replace hc1 := of_decide_eq_true hc1
      refine WC_skip ?_
      refine WQ_code ?_
      refine WC_seq ?_
      refine WC_block ?_
      refine WC_seq (WC_region ?_)
      refine WL_execS htb 1 [26, 24, 23, 22, 6, 5, 2, 1] [] ⟨[(26, (iN r)), (24, (iN r)), (23, (iN n_rs)), (22, (sS A_rs n_rs c_rs)), (6, (bB ag1)), (5, (sS (some ⟨b0, 0, none⟩) n_rs n_rs)), (2, (.p 0 0)), (1, (sS A_to n_to c_to))], [], 1, [], [(0, bk2, (.cells 35 [(sS A_tk n_tk c_tk), (sS A_nm n_nm c_nm), (sS A_rs n_rs c_rs)]))]⟩ (by kernel_rfl) ?_
      obtain ⟨q5, rfl⟩ := h_rs.ptr (by omega)
      obtain ⟨x8, _, hx6, hr9, at7⟩ := h_rs.get r (by omega)
      obtain ⟨A11, n12, c13, rfl, hs10⟩ := Sl.of hr9
      replace hs10 : Sl (tSlice (tInt .i64)) _ A11 n12 c13 x8 := hs10
      have lhs10 := hs10.len'
      replace at7 : At G1 (q5.add (r * 1)) [.slice A11 n12 c13] := at7
      refine WL_op (WOp_idx htb q5 n_rs ((r : Nat) : Int) 1 (by kernel_rfl) (by omega) (by omega) ?_)
      refine WL_op (WOp_ld htb (q5.add (r * 1)) false 1 [.slice A11 n12 c13] (by kernel_rfl) (at7.mono hleb) rfl (by decide) ?_)
      refine WL_execS htb 2 [8, 7, 24, 23, 22, 6, 5, 2, 1] [] ⟨[(8, (sS A11 n12 c13)), (7, (iN r)), (24, (iN r)), (23, (iN n_rs)), (22, (sS (some q5) n_rs c_rs)), (6, (bB ag1)), (5, (sS (some ⟨b0, 0, none⟩) n_rs n_rs)), (2, (.p 0 0)), (1, (sS A_to n_to c_to))], [], 1, [], [(0, bk2, (.cells 35 [(sS A_tk n_tk c_tk), (sS A_nm n_nm c_nm), (sS (some q5) n_rs c_rs)]))]⟩ (by kernel_rfl) ?_
      refine WL_nil ?_
      refine WQ_code ?_
      refine WC_seq (WC_region ?_)
      refine WL_execS htb 3 [31, 30, 29, 7, 24, 23, 22, 6, 5, 2, 1] [] ⟨[(31, (iI 0)), (30, (iN n12)), (29, (sS A11 n12 c13)), (7, (iN r)), (24, (iN r)), (23, (iN n_rs)), (22, (sS (some q5) n_rs c_rs)), (6, (bB ag1)), (5, (sS (some ⟨b0, 0, none⟩) n_rs n_rs)), (2, (.p 0 0)), (1, (sS A_to n_to c_to))], [], 1, [], [(0, bk2, (.cells 35 [(sS A_tk n_tk c_tk), (sS A_nm n_nm c_nm), (sS (some q5) n_rs c_rs)]))]⟩ (by kernel_rfl) ?_
      refine WL_nil ?_
      refine WQ_code ?_
      refine WC_block ?_
      refine WK_keep [31, 30, 29, 7, 24, 23, 22, 6, 5, 2, 1] [] rfl rfl ?_
      refine WK_env [(31, (iN 0)), (30, (iN n12)), (29, (sS A11 n12 c13)), (7, (iN r)), (24, (iN r)), (23, (iN n_rs)), (22, (sS (some q5) n_rs c_rs)), (6, (bB ag1)), (5, (sS (some ⟨b0, 0, none⟩) n_rs n_rs)), (2, (.p 0 0)), (1, (sS A_to n_to c_to))] (fun ρ => ⟨rfl, rfl, ⟨rfl, rfl, ⟨rfl, rfl, ⟨rfl, rfl, ⟨rfl, rfl, ⟨rfl, rfl, ⟨rfl, rfl, ⟨rfl, rfl, ⟨rfl, rfl, ⟨rfl, rfl, ⟨rfl, rfl, trivial⟩⟩⟩⟩⟩⟩⟩⟩⟩⟩⟩) ?_
      refine WC_loop (ι := Nat × Bool × (Nat → Nat → Nat → Bool)) (fun (k, ag2, c2) G14 => k ≤ n12 ∧ Le G1 G14 ∧ Cube G1 G14 b0 f g n_rs (n_to + 1) c2 ∧ Rnd rs to n_rs (n_to + 1) c0 c2 ag2 (PA rs to c0 n_rs (n_to + 1) r x8 k)) (fun (k, ag2, c2) => ⟨[(31, (iN k)), (30, (iN n12)), (29, (sS A11 n12 c13)), (7, (iN r)), (24, (iN r)), (23, (iN n_rs)), (22, (sS (some q5) n_rs c_rs)), (6, (bB ag2)), (5, (sS (some ⟨b0, 0, none⟩) n_rs n_rs)), (2, (.p 0 0)), (1, (sS A_to n_to c_to))], [], 1, [], [(0, bk2, (.cells 35 [(sS A_tk n_tk c_tk), (sS A_nm n_nm c_nm), (sS (some q5) n_rs c_rs)]))]⟩) (fun (k, ag2, c2) => n12 - k) (0, ag1, c1) ⟨Nat.zero_le _, hleb, hC1, hR1.imp PA_zero⟩ rfl ?_
      rintro ⟨k, ag2, c2⟩ G14 hF
      show WC _ _ _ _ _ ⟨[(31, (iN k)), (30, (iN n12)), (29, (sS A11 n12 c13)), (7, (iN r)), (24, (iN r)), (23, (iN n_rs)), (22, (sS (some q5) n_rs c_rs)), (6, (bB ag2)), (5, (sS (some ⟨b0, 0, none⟩) n_rs n_rs)), (2, (.p 0 0)), (1, (sS A_to n_to c_to))], [], 1, [], [(0, bk2, (.cells 35 [(sS A_tk n_tk c_tk), (sS A_nm n_nm c_nm), (sS (some q5) n_rs c_rs)]))]⟩ _
      obtain ⟨hk, hleb, hC2, hR2⟩ := hF
      refine WC_seq (WC_region ?_)
      refine WL_execS htb 1 [32, 31, 30, 29, 7, 24, 23, 22, 6, 5, 2, 1] [] ⟨[(32, (bB (decide ((((k : Nat) : Int) : Int) < ((n12 : Nat) : Int))))), (31, (iN k)), (30, (iN n12)), (29, (sS A11 n12 c13)), (7, (iN r)), (24, (iN r)), (23, (iN n_rs)), (22, (sS (some q5) n_rs c_rs)), (6, (bB ag2)), (5, (sS (some ⟨b0, 0, none⟩) n_rs n_rs)), (2, (.p 0 0)), (1, (sS A_to n_to c_to))], [], 1, [], [(0, bk2, (.cells 35 [(sS A_tk n_tk c_tk), (sS A_nm n_nm c_nm), (sS (some q5) n_rs c_rs)]))]⟩ (by kernel_rfl) ?_
      refine WL_nil ?_
      refine WQ_code ?_
      refine WC_seq ?_
      refine WC_cond (b := (decide ((((k : Nat) : Int) : Int) < ((n12 : Nat) : Int)))) rfl (fun hc2 => ?_) (fun hc2 => ?_)
      · replace hc2 := of_decide_eq_true hc2
        refine WC_skip ?_
        refine WQ_code ?_
        refine WC_seq ?_
        refine WC_block ?_
        refine WC_seq (WC_region ?_)
        obtain ⟨q15, rfl⟩ := hs10.ptr (by omega)
        obtain ⟨x18, _, hx16, hr19, at17⟩ := hs10.get k (by omega)
        obtain ⟨A21, n22, c23, rfl, hs20⟩ := Sl.of hr19
        replace hs20 : Sl (tInt .i64) _ A21 n22 c23 x18 := hs20
        have lhs20 := hs20.len'
        replace at17 : At G1 (q15.add (k * 1)) [.slice A21 n22 c23] := at17
        refine WL_op (WOp_idx htb q15 n12 ((k : Nat) : Int) 1 (by kernel_rfl) (by omega) (by omega) ?_)
        refine WL_op (WOp_ld htb (q15.add (k * 1)) false 1 [.slice A21 n22 c23] (by kernel_rfl) (at17.mono hleb) rfl (by decide) ?_)
        refine WL_execS htb 1 [10, 31, 30, 29, 7, 24, 23, 22, 6, 5, 2, 1] [] ⟨[(10, (sS A21 n22 c23)), (31, (iN k)), (30, (iN n12)), (29, (sS (some q15) n12 c13)), (7, (iN r)), (24, (iN r)), (23, (iN n_rs)), (22, (sS (some q5) n_rs c_rs)), (6, (bB ag2)), (5, (sS (some ⟨b0, 0, none⟩) n_rs n_rs)), (2, (.p 0 0)), (1, (sS A_to n_to c_to))], [], 1, [], [(0, bk2, (.cells 35 [(sS A_tk n_tk c_tk), (sS A_nm n_nm c_nm), (sS (some q5) n_rs c_rs)]))]⟩ (by kernel_rfl) ?_
        refine WL_nil ?_
        refine WQ_code ?_
        refine WC_seq (WC_region ?_)
        refine WL_execS htb 4 [38, 37, 10, 31, 30, 29, 7, 24, 23, 22, 6, 5, 2, 1] [] ⟨[(38, (iI 0)), (37, (iI (IntKind.i64.wrap (((n_to : Nat) : Int) + 1)))), (10, (sS A21 n22 c23)), (31, (iN k)), (30, (iN n12)), (29, (sS (some q15) n12 c13)), (7, (iN r)), (24, (iN r)), (23, (iN n_rs)), (22, (sS (some q5) n_rs c_rs)), (6, (bB ag2)), (5, (sS (some ⟨b0, 0, none⟩) n_rs n_rs)), (2, (.p 0 0)), (1, (sS A_to n_to c_to))], [], 1, [], [(0, bk2, (.cells 35 [(sS A_tk n_tk c_tk), (sS A_nm n_nm c_nm), (sS (some q5) n_rs c_rs)]))]⟩ (by kernel_rfl) ?_
        refine WL_nil ?_
        refine WQ_code ?_
        refine WC_block ?_
        refine WK_env [(38, (iI 0)), (37, (iN (n_to + 1))), (10, (sS A21 n22 c23)), (31, (iN k)), (30, (iN n12)), (29, (sS (some q15) n12 c13)), (7, (iN r)), (24, (iN r)), (23, (iN n_rs)), (22, (sS (some q5) n_rs c_rs)), (6, (bB ag2)), (5, (sS (some ⟨b0, 0, none⟩) n_rs n_rs)), (2, (.p 0 0)), (1, (sS A_to n_to c_to))] (fun ρ => ⟨rfl, rfl, ⟨rfl, (congrArg (Value.int .i64) (by rw [wrap_id (by omega)]; first | rfl | omega)), ⟨rfl, rfl, ⟨rfl, rfl, ⟨rfl, rfl, ⟨rfl, rfl, ⟨rfl, rfl, ⟨rfl, rfl, ⟨rfl, rfl, ⟨rfl, rfl, ⟨rfl, rfl, ⟨rfl, rfl, ⟨rfl, rfl, ⟨rfl, rfl, trivial⟩⟩⟩⟩⟩⟩⟩⟩⟩⟩⟩⟩⟩⟩) ?_
        refine WK_keep [38, 37, 10, 31, 30, 29, 7, 24, 23, 22, 6, 5, 2, 1] [] rfl rfl ?_
        refine WK_env [(38, (iN 0)), (37, (iN (n_to + 1))), (10, (sS A21 n22 c23)), (31, (iN k)), (30, (iN n12)), (29, (sS (some q15) n12 c13)), (7, (iN r)), (24, (iN r)), (23, (iN n_rs)), (22, (sS (some q5) n_rs c_rs)), (6, (bB ag2)), (5, (sS (some ⟨b0, 0, none⟩) n_rs n_rs)), (2, (.p 0 0)), (1, (sS A_to n_to c_to))] (fun ρ => ⟨rfl, rfl, ⟨rfl, rfl, ⟨rfl, rfl, ⟨rfl, rfl, ⟨rfl, rfl, ⟨rfl, rfl, ⟨rfl, rfl, ⟨rfl, rfl, ⟨rfl, rfl, ⟨rfl, rfl, ⟨rfl, rfl, ⟨rfl, rfl, ⟨rfl, rfl, ⟨rfl, rfl, trivial⟩⟩⟩⟩⟩⟩⟩⟩⟩⟩⟩⟩⟩⟩) ?_
        refine WC_loop (ι := Nat × Bool × (Nat → Nat → Nat → Bool)) (fun (i, ag3, c3) G24 => i ≤ n_to + 1 ∧ Le G1 G24 ∧ Cube G1 G24 b0 f g n_rs (n_to + 1) c3 ∧ Rnd rs to n_rs (n_to + 1) c0 c3 ag3 (PI rs to c0 n_rs (n_to + 1) r x8 k x18 i)) (fun (i, ag3, c3) => ⟨[(38, (iN i)), (37, (iN (n_to + 1))), (10, (sS A21 n22 c23)), (31, (iN k)), (30, (iN n12)), (29, (sS (some q15) n12 c13)), (7, (iN r)), (24, (iN r)), (23, (iN n_rs)), (22, (sS (some q5) n_rs c_rs)), (6, (bB ag3)), (5, (sS (some ⟨b0, 0, none⟩) n_rs n_rs)), (2, (.p 0 0)), (1, (sS A_to n_to c_to))], [], 1, [], [(0, bk2, (.cells 35 [(sS A_tk n_tk c_tk), (sS A_nm n_nm c_nm), (sS (some q5) n_rs c_rs)]))]⟩) (fun (i, ag3, c3) => n_to + 1 - i) (0, ag2, c2) ⟨Nat.zero_le _, hleb, hC2, hR2.imp PI_zero⟩ rfl ?_
        rintro ⟨i, ag3, c3⟩ G24 hF
        show WC _ _ _ _ _ ⟨[(38, (iN i)), (37, (iN (n_to + 1))), (10, (sS A21 n22 c23)), (31, (iN k)), (30, (iN n12)), (29, (sS (some q15) n12 c13)), (7, (iN r)), (24, (iN r)), (23, (iN n_rs)), (22, (sS (some q5) n_rs c_rs)), (6, (bB ag3)), (5, (sS (some ⟨b0, 0, none⟩) n_rs n_rs)), (2, (.p 0 0)), (1, (sS A_to n_to c_to))], [], 1, [], [(0, bk2, (.cells 35 [(sS A_tk n_tk c_tk), (sS A_nm n_nm c_nm), (sS (some q5) n_rs c_rs)]))]⟩ _
        obtain ⟨hi, hleb, hC3, hR3⟩ := hF
        refine WC_seq (WC_region ?_)
        refine WL_execS htb 1 [39, 38, 37, 10, 31, 30, 29, 7, 24, 23, 22, 6, 5, 2, 1] [] ⟨[(39, (bB (decide ((((i : Nat) : Int) : Int) < ((n_to + 1 : Nat) : Int))))), (38, (iN i)), (37, (iN (n_to + 1))), (10, (sS A21 n22 c23)), (31, (iN k)), (30, (iN n12)), (29, (sS (some q15) n12 c13)), (7, (iN r)), (24, (iN r)), (23, (iN n_rs)), (22, (sS (some q5) n_rs c_rs)), (6, (bB ag3)), (5, (sS (some ⟨b0, 0, none⟩) n_rs n_rs)), (2, (.p 0 0)), (1, (sS A_to n_to c_to))], [], 1, [], [(0, bk2, (.cells 35 [(sS A_tk n_tk c_tk), (sS A_nm n_nm c_nm), (sS (some q5) n_rs c_rs)]))]⟩ (by kernel_rfl) ?_
        refine WL_nil ?_
        refine WQ_code ?_
        refine WC_seq ?_
        refine WC_cond (b := (decide ((((i : Nat) : Int) : Int) < ((n_to + 1 : Nat) : Int)))) rfl (fun hc3 => ?_) (fun hc3 => ?_)
        · replace hc3 := of_decide_eq_true hc3
          refine WC_skip ?_
          refine WQ_code ?_
          refine WC_seq ?_
          refine WC_block ?_
          refine WC_seq (WC_region ?_)
          refine WL_execS htb 2 [11, 38, 37, 10, 31, 30, 29, 7, 24, 23, 22, 6, 5, 2, 1] [] ⟨[(11, (iN i)), (38, (iN i)), (37, (iN (n_to + 1))), (10, (sS A21 n22 c23)), (31, (iN k)), (30, (iN n12)), (29, (sS (some q15) n12 c13)), (7, (iN r)), (24, (iN r)), (23, (iN n_rs)), (22, (sS (some q5) n_rs c_rs)), (6, (bB ag3)), (5, (sS (some ⟨b0, 0, none⟩) n_rs n_rs)), (2, (.p 0 0)), (1, (sS A_to n_to c_to))], [], 1, [], [(0, bk2, (.cells 35 [(sS A_tk n_tk c_tk), (sS A_nm n_nm c_nm), (sS (some q5) n_rs c_rs)]))]⟩ (by kernel_rfl) ?_
          refine WL_nil ?_
          refine WQ_code ?_
          refine WC_seq (WC_region ?_)
          refine WL_execS htb 5 [45, 44, 43, 42, 41, 11, 38, 37, 10, 31, 30, 29, 7, 24, 23, 22, 6, 5, 2, 1] [] ⟨[(45, (iN i)), (44, (sS A_to n_to c_to)), (43, (sS A21 n22 c23)), (42, (.agg [(sS A_tk n_tk c_tk), (sS A_nm n_nm c_nm), (sS (some q5) n_rs c_rs)])), (41, (sS (some ⟨b0, 0, none⟩) n_rs n_rs)), (11, (iN i)), (38, (iN i)), (37, (iN (n_to + 1))), (10, (sS A21 n22 c23)), (31, (iN k)), (30, (iN n12)), (29, (sS (some q15) n12 c13)), (7, (iN r)), (24, (iN r)), (23, (iN n_rs)), (22, (sS (some q5) n_rs c_rs)), (6, (bB ag3)), (5, (sS (some ⟨b0, 0, none⟩) n_rs n_rs)), (2, (.p 0 0)), (1, (sS A_to n_to c_to))], [], 1, [], [(0, bk2, (.cells 35 [(sS A_tk n_tk c_tk), (sS A_nm n_nm c_nm), (sS (some q5) n_rs c_rs)]))]⟩ (by kernel_rfl) ?_
          have hcs := hC3.sl (by unfold big; omega) (by unfold big; omega)
          refine WL_op (WOp_callO 53 [(sS (some ⟨b0, 0, none⟩) n_rs n_rs), (.agg [(sS A_tk n_tk c_tk), (sS A_nm n_nm c_nm), (sS (some q5) n_rs c_rs)]), (sS A21 n22 c23), (sS A_to n_to c_to), (iN i)] (by kernel_rfl) (goes_of Try.func53 rfl rfl) (by kernel_rfl) (fun ρ w hW => ends_ok hW.has (h_cu := (hcs.mono (Le.refl _))) (h_tk := h_tk.mono hleb) (h_nm := h_nm.mono hleb) (h_rs := h_rs.mono hleb) (h_sq := (hs20.mono hleb)) (h_to := h_to.mono hleb) (fr := i) (by omega) hto (dims_cubeL (by omega))) (fun G25 z26 arr27 cap28 ys29 hle hz30 ho31 hy => ?_))
          replace hleb := Le.trans hleb hle
          replace hC3 := hC3.mono hle
          skip
          obtain ⟨hyl, hye⟩ := hy
          obtain rfl : z26 = false := by (cases z26 with | false => rfl | true => (have hnil := hz30 rfl; rw [hnil] at hyl; simp at hyl))
          have hyn : ys29.length = n_to + 1 := by omega
          rw [hyn]
          show WL _ _ _ _ _ _ ⟨[(46, (.ls false 1 (n_to + 1) cap28)), (45, (iN i)), (44, (sS A_to n_to c_to)), (43, (sS A21 n22 c23)), (42, (.agg [(sS A_tk n_tk c_tk), (sS A_nm n_nm c_nm), (sS (some q5) n_rs c_rs)])), (41, (sS (some ⟨b0, 0, none⟩) n_rs n_rs)), (11, (iN i)), (38, (iN i)), (37, (iN (n_to + 1))), (10, (sS A21 n22 c23)), (31, (iN k)), (30, (iN n12)), (29, (sS (some q15) n12 c13)), (7, (iN r)), (24, (iN r)), (23, (iN n_rs)), (22, (sS (some q5) n_rs c_rs)), (6, (bB ag3)), (5, (sS (some ⟨b0, 0, none⟩) n_rs n_rs)), (2, (.p 0 0)), (1, (sS A_to n_to c_to))], [(1, (.lst false 4 arr27))], 2, [], [(0, bk2, (.cells 35 [(sS A_tk n_tk c_tk), (sS A_nm n_nm c_nm), (sS (some q5) n_rs c_rs)]))]⟩ _
          refine WL_execS htb 2 [48, 47, 46, 11, 38, 37, 10, 31, 30, 29, 7, 24, 23, 22, 6, 5, 2, 1] [1] ⟨[(48, (iI 0)), (47, (iN (n_to + 1))), (46, (.ls false 1 (n_to + 1) cap28)), (11, (iN i)), (38, (iN i)), (37, (iN (n_to + 1))), (10, (sS A21 n22 c23)), (31, (iN k)), (30, (iN n12)), (29, (sS (some q15) n12 c13)), (7, (iN r)), (24, (iN r)), (23, (iN n_rs)), (22, (sS (some q5) n_rs c_rs)), (6, (bB ag3)), (5, (sS (some ⟨b0, 0, none⟩) n_rs n_rs)), (2, (.p 0 0)), (1, (sS A_to n_to c_to))], [(1, (.lst false 4 arr27))], 2, [], [(0, bk2, (.cells 35 [(sS A_tk n_tk c_tk), (sS A_nm n_nm c_nm), (sS (some q5) n_rs c_rs)]))]⟩ (by kernel_rfl) ?_
          refine WL_nil ?_
          refine WQ_code ?_
          refine WC_block ?_
          refine WK_keep [48, 47, 46, 11, 38, 37, 10, 31, 30, 29, 7, 24, 23, 22, 6, 5, 2, 1] [1] rfl rfl ?_
          refine WK_env [(48, (iN 0)), (47, (iN (n_to + 1))), (46, (.ls false 1 (n_to + 1) cap28)), (11, (iN i)), (38, (iN i)), (37, (iN (n_to + 1))), (10, (sS A21 n22 c23)), (31, (iN k)), (30, (iN n12)), (29, (sS (some q15) n12 c13)), (7, (iN r)), (24, (iN r)), (23, (iN n_rs)), (22, (sS (some q5) n_rs c_rs)), (6, (bB ag3)), (5, (sS (some ⟨b0, 0, none⟩) n_rs n_rs)), (2, (.p 0 0)), (1, (sS A_to n_to c_to))] (fun ρ => ⟨rfl, rfl, ⟨rfl, rfl, ⟨rfl, rfl, ⟨rfl, rfl, ⟨rfl, rfl, ⟨rfl, rfl, ⟨rfl, rfl, ⟨rfl, rfl, ⟨rfl, rfl, ⟨rfl, rfl, ⟨rfl, rfl, ⟨rfl, rfl, ⟨rfl, rfl, ⟨rfl, rfl, ⟨rfl, rfl, ⟨rfl, rfl, ⟨rfl, rfl, ⟨rfl, rfl, trivial⟩⟩⟩⟩⟩⟩⟩⟩⟩⟩⟩⟩⟩⟩⟩⟩⟩⟩) ?_
          refine WC_loop (ι := Nat × Bool × (Nat → Nat → Nat → Bool)) (fun (j, ag4, c4) G32 => j ≤ n_to + 1 ∧ Le G1 G32 ∧ Cube G1 G32 b0 f g n_rs (n_to + 1) c4 ∧ (∀ x y z, c3 x y z = true → c4 x y z = true) ∧ Rnd rs to n_rs (n_to + 1) c0 c4 ag4 (PJ rs to c0 n_rs (n_to + 1) r x8 k x18 i c3 ys29 j)) (fun (j, ag4, c4) => ⟨[(48, (iN j)), (47, (iN (n_to + 1))), (46, (.ls false 1 (n_to + 1) cap28)), (11, (iN i)), (38, (iN i)), (37, (iN (n_to + 1))), (10, (sS A21 n22 c23)), (31, (iN k)), (30, (iN n12)), (29, (sS (some q15) n12 c13)), (7, (iN r)), (24, (iN r)), (23, (iN n_rs)), (22, (sS (some q5) n_rs c_rs)), (6, (bB ag4)), (5, (sS (some ⟨b0, 0, none⟩) n_rs n_rs)), (2, (.p 0 0)), (1, (sS A_to n_to c_to))], [(1, (.lst false 4 arr27))], 2, [], [(0, bk2, (.cells 35 [(sS A_tk n_tk c_tk), (sS A_nm n_nm c_nm), (sS (some q5) n_rs c_rs)]))]⟩) (fun (j, ag4, c4) => n_to + 1 - j) (0, ag3, c3) ⟨Nat.zero_le _, hleb, hC3, (fun _ _ _ h => h), hR3.imp2 PJ_zero⟩ rfl ?_
          rintro ⟨j, ag4, c4⟩ G32 hF
          show WC _ _ _ _ _ ⟨[(48, (iN j)), (47, (iN (n_to + 1))), (46, (.ls false 1 (n_to + 1) cap28)), (11, (iN i)), (38, (iN i)), (37, (iN (n_to + 1))), (10, (sS A21 n22 c23)), (31, (iN k)), (30, (iN n12)), (29, (sS (some q15) n12 c13)), (7, (iN r)), (24, (iN r)), (23, (iN n_rs)), (22, (sS (some q5) n_rs c_rs)), (6, (bB ag4)), (5, (sS (some ⟨b0, 0, none⟩) n_rs n_rs)), (2, (.p 0 0)), (1, (sS A_to n_to c_to))], [(1, (.lst false 4 arr27))], 2, [], [(0, bk2, (.cells 35 [(sS A_tk n_tk c_tk), (sS A_nm n_nm c_nm), (sS (some q5) n_rs c_rs)]))]⟩ _
          obtain ⟨hj, hleb, hC4, hup, hR4⟩ := hF
          refine WC_seq (WC_region ?_)
          refine WL_execS htb 1 [49, 48, 47, 46, 11, 38, 37, 10, 31, 30, 29, 7, 24, 23, 22, 6, 5, 2, 1] [1] ⟨[(49, (bB (decide ((((j : Nat) : Int) : Int) < (((n_to + 1) : Nat) : Int))))), (48, (iN j)), (47, (iN (n_to + 1))), (46, (.ls false 1 (n_to + 1) cap28)), (11, (iN i)), (38, (iN i)), (37, (iN (n_to + 1))), (10, (sS A21 n22 c23)), (31, (iN k)), (30, (iN n12)), (29, (sS (some q15) n12 c13)), (7, (iN r)), (24, (iN r)), (23, (iN n_rs)), (22, (sS (some q5) n_rs c_rs)), (6, (bB ag4)), (5, (sS (some ⟨b0, 0, none⟩) n_rs n_rs)), (2, (.p 0 0)), (1, (sS A_to n_to c_to))], [(1, (.lst false 4 arr27))], 2, [], [(0, bk2, (.cells 35 [(sS A_tk n_tk c_tk), (sS A_nm n_nm c_nm), (sS (some q5) n_rs c_rs)]))]⟩ (by kernel_rfl) ?_
          refine WL_nil ?_
          refine WQ_code ?_
          refine WC_seq ?_
          refine WC_cond (b := (decide ((((j : Nat) : Int) : Int) < (((n_to + 1) : Nat) : Int)))) rfl (fun hc4 => ?_) (fun hc4 => ?_)
          · replace hc4 := of_decide_eq_true hc4
            refine WC_skip ?_
            refine WQ_code ?_
            refine WC_seq ?_
            refine WC_block ?_
            refine WC_seq (WC_region ?_)
            refine WL_execS htb 1 [50, 48, 47, 46, 11, 38, 37, 10, 31, 30, 29, 7, 24, 23, 22, 6, 5, 2, 1] [1] ⟨[(50, (iN j)), (48, (iN j)), (47, (iN (n_to + 1))), (46, (.ls false 1 (n_to + 1) cap28)), (11, (iN i)), (38, (iN i)), (37, (iN (n_to + 1))), (10, (sS A21 n22 c23)), (31, (iN k)), (30, (iN n12)), (29, (sS (some q15) n12 c13)), (7, (iN r)), (24, (iN r)), (23, (iN n_rs)), (22, (sS (some q5) n_rs c_rs)), (6, (bB ag4)), (5, (sS (some ⟨b0, 0, none⟩) n_rs n_rs)), (2, (.p 0 0)), (1, (sS A_to n_to c_to))], [(1, (.lst false 4 arr27))], 2, [], [(0, bk2, (.cells 35 [(sS A_tk n_tk c_tk), (sS A_nm n_nm c_nm), (sS (some q5) n_rs c_rs)]))]⟩ (by kernel_rfl) ?_
            refine WL_op (WOp_idxo htb 1 (n_to + 1) ((j : Nat) : Int) 1 (by kernel_rfl) (by omega) (by omega) ?_)
            refine WL_op (WOp_ldo htb 1 (j * 1) false 1 [.bool (ys29.getD j false)] (by kernel_rfl) rfl (ho31.bool (by omega)) rfl (by decide) ?_)
            refine WL_execS htb 2 [13, 12, 48, 47, 46, 11, 38, 37, 10, 31, 30, 29, 7, 24, 23, 22, 6, 5, 2, 1] [1] ⟨[(13, (bB (ys29.getD j false))), (12, (iN j)), (48, (iN j)), (47, (iN (n_to + 1))), (46, (.ls false 1 (n_to + 1) cap28)), (11, (iN i)), (38, (iN i)), (37, (iN (n_to + 1))), (10, (sS A21 n22 c23)), (31, (iN k)), (30, (iN n12)), (29, (sS (some q15) n12 c13)), (7, (iN r)), (24, (iN r)), (23, (iN n_rs)), (22, (sS (some q5) n_rs c_rs)), (6, (bB ag4)), (5, (sS (some ⟨b0, 0, none⟩) n_rs n_rs)), (2, (.p 0 0)), (1, (sS A_to n_to c_to))], [(1, (.lst false 4 arr27))], 2, [], [(0, bk2, (.cells 35 [(sS A_tk n_tk c_tk), (sS A_nm n_nm c_nm), (sS (some q5) n_rs c_rs)]))]⟩ (by kernel_rfl) ?_
            refine WL_nil ?_
            refine WQ_code ?_
            refine WC_seq (WC_region ?_)
            refine WL_execS htb 2 [54, 12, 48, 47, 46, 11, 38, 37, 10, 31, 30, 29, 7, 24, 23, 22, 6, 5, 2, 1] [1] ⟨[(54, (bB (ys29.getD j false))), (12, (iN j)), (48, (iN j)), (47, (iN (n_to + 1))), (46, (.ls false 1 (n_to + 1) cap28)), (11, (iN i)), (38, (iN i)), (37, (iN (n_to + 1))), (10, (sS A21 n22 c23)), (31, (iN k)), (30, (iN n12)), (29, (sS (some q15) n12 c13)), (7, (iN r)), (24, (iN r)), (23, (iN n_rs)), (22, (sS (some q5) n_rs c_rs)), (6, (bB ag4)), (5, (sS (some ⟨b0, 0, none⟩) n_rs n_rs)), (2, (.p 0 0)), (1, (sS A_to n_to c_to))], [(1, (.lst false 4 arr27))], 2, [], [(0, bk2, (.cells 35 [(sS A_tk n_tk c_tk), (sS A_nm n_nm c_nm), (sS (some q5) n_rs c_rs)]))]⟩ (by kernel_rfl) ?_
            refine WK_split 54 (ys29.getD j false) rfl (fun hm => ?_) (fun hm => ?_)
            · skip
              refine WK_keep [54, 12, 48, 47, 46, 11, 38, 37, 10, 31, 30, 29, 7, 24, 23, 22, 6, 5, 2, 1] [1] rfl rfl ?_
              refine WL_execS htb 2 [56, 55, 54, 12, 48, 47, 46, 11, 38, 37, 10, 31, 30, 29, 7, 24, 23, 22, 6, 5, 2, 1] [1] ⟨[(56, (iN r)), (55, (sS (some ⟨b0, 0, none⟩) n_rs n_rs)), (54, (bB true)), (12, (iN j)), (48, (iN j)), (47, (iN (n_to + 1))), (46, (.ls false 1 (n_to + 1) cap28)), (11, (iN i)), (38, (iN i)), (37, (iN (n_to + 1))), (10, (sS A21 n22 c23)), (31, (iN k)), (30, (iN n12)), (29, (sS (some q15) n12 c13)), (7, (iN r)), (24, (iN r)), (23, (iN n_rs)), (22, (sS (some q5) n_rs c_rs)), (6, (bB ag4)), (5, (sS (some ⟨b0, 0, none⟩) n_rs n_rs)), (2, (.p 0 0)), (1, (sS A_to n_to c_to))], [(1, (.lst false 4 arr27))], 2, [], [(0, bk2, (.cells 35 [(sS A_tk n_tk c_tk), (sS A_nm n_nm c_nm), (sS (some q5) n_rs c_rs)]))]⟩ (by kernel_rfl) ?_
              refine WL_op (WOp_idx htb (⟨b0, 0, none⟩) n_rs ((r : Nat) : Int) 1 (by kernel_rfl) (by omega) (by omega) ?_)
              refine WL_op (WOp_ld htb ((⟨b0, 0, none⟩ : Addr).add (r * 1)) false 1 [.slice (some ⟨f r, 0, none⟩) (n_to + 1) (n_to + 1)] (by kernel_rfl) (hC4.top' (by omega)) rfl (by decide) ?_)
              refine WL_execS htb 1 [59, 58, 54, 12, 48, 47, 46, 11, 38, 37, 10, 31, 30, 29, 7, 24, 23, 22, 6, 5, 2, 1] [1] ⟨[(59, (iN i)), (58, (sS (some ⟨f r, 0, none⟩) (n_to + 1) (n_to + 1))), (54, (bB true)), (12, (iN j)), (48, (iN j)), (47, (iN (n_to + 1))), (46, (.ls false 1 (n_to + 1) cap28)), (11, (iN i)), (38, (iN i)), (37, (iN (n_to + 1))), (10, (sS A21 n22 c23)), (31, (iN k)), (30, (iN n12)), (29, (sS (some q15) n12 c13)), (7, (iN r)), (24, (iN r)), (23, (iN n_rs)), (22, (sS (some q5) n_rs c_rs)), (6, (bB ag4)), (5, (sS (some ⟨b0, 0, none⟩) n_rs n_rs)), (2, (.p 0 0)), (1, (sS A_to n_to c_to))], [(1, (.lst false 4 arr27))], 2, [], [(0, bk2, (.cells 35 [(sS A_tk n_tk c_tk), (sS A_nm n_nm c_nm), (sS (some q5) n_rs c_rs)]))]⟩ (by kernel_rfl) ?_
              refine WL_op (WOp_idx htb (⟨f r, 0, none⟩) (n_to + 1) ((i : Nat) : Int) 1 (by kernel_rfl) (by omega) (by omega) ?_)
              refine WL_op (WOp_ld htb ((⟨f r, 0, none⟩ : Addr).add (i * 1)) false 1 [.slice (some ⟨g r i, 0, none⟩) (n_to + 1) (n_to + 1)] (by kernel_rfl) (hC4.mid' (by omega) (by omega)) rfl (by decide) ?_)
              refine WL_execS htb 1 [62, 61, 54, 12, 48, 47, 46, 11, 38, 37, 10, 31, 30, 29, 7, 24, 23, 22, 6, 5, 2, 1] [1] ⟨[(62, (iN j)), (61, (sS (some ⟨g r i, 0, none⟩) (n_to + 1) (n_to + 1))), (54, (bB true)), (12, (iN j)), (48, (iN j)), (47, (iN (n_to + 1))), (46, (.ls false 1 (n_to + 1) cap28)), (11, (iN i)), (38, (iN i)), (37, (iN (n_to + 1))), (10, (sS A21 n22 c23)), (31, (iN k)), (30, (iN n12)), (29, (sS (some q15) n12 c13)), (7, (iN r)), (24, (iN r)), (23, (iN n_rs)), (22, (sS (some q5) n_rs c_rs)), (6, (bB ag4)), (5, (sS (some ⟨b0, 0, none⟩) n_rs n_rs)), (2, (.p 0 0)), (1, (sS A_to n_to c_to))], [(1, (.lst false 4 arr27))], 2, [], [(0, bk2, (.cells 35 [(sS A_tk n_tk c_tk), (sS A_nm n_nm c_nm), (sS (some q5) n_rs c_rs)]))]⟩ (by kernel_rfl) ?_
              refine WL_op (WOp_idx htb (⟨g r i, 0, none⟩) (n_to + 1) ((j : Nat) : Int) 1 (by kernel_rfl) (by omega) (by omega) ?_)
              refine WL_op (WOp_ld htb ((⟨g r i, 0, none⟩ : Addr).add (j * 1)) false 1 [.bool (c4 r i j)] (by kernel_rfl) (hC4.low' (by omega) (by omega) (by omega)) rfl (by decide) ?_)
              refine WL_execS htb 2 [66, 12, 48, 47, 46, 11, 38, 37, 10, 31, 30, 29, 7, 24, 23, 22, 6, 5, 2, 1] [1] ⟨[(66, (bB (!(c4 r i j)))), (12, (iN j)), (48, (iN j)), (47, (iN (n_to + 1))), (46, (.ls false 1 (n_to + 1) cap28)), (11, (iN i)), (38, (iN i)), (37, (iN (n_to + 1))), (10, (sS A21 n22 c23)), (31, (iN k)), (30, (iN n12)), (29, (sS (some q15) n12 c13)), (7, (iN r)), (24, (iN r)), (23, (iN n_rs)), (22, (sS (some q5) n_rs c_rs)), (6, (bB ag4)), (5, (sS (some ⟨b0, 0, none⟩) n_rs n_rs)), (2, (.p 0 0)), (1, (sS A_to n_to c_to))], [(1, (.lst false 4 arr27))], 2, [], [(0, bk2, (.cells 35 [(sS A_tk n_tk c_tk), (sS A_nm n_nm c_nm), (sS (some q5) n_rs c_rs)]))]⟩ (by kernel_rfl) ?_
              refine WL_nil ?_
              refine WQ_code ?_
              refine WC_cond (b := (!(c4 r i j))) rfl (fun hn => ?_) (fun hn => ?_)
              · rw [Bool.not_eq_true'] at hn
                refine WC_seq (WC_region ?_)
                refine WL_execS htb 2 [68, 67, 12, 48, 47, 46, 11, 38, 37, 10, 31, 30, 29, 7, 24, 23, 22, 5, 2, 1] [1] ⟨[(68, (iN r)), (67, (sS (some ⟨b0, 0, none⟩) n_rs n_rs)), (12, (iN j)), (48, (iN j)), (47, (iN (n_to + 1))), (46, (.ls false 1 (n_to + 1) cap28)), (11, (iN i)), (38, (iN i)), (37, (iN (n_to + 1))), (10, (sS A21 n22 c23)), (31, (iN k)), (30, (iN n12)), (29, (sS (some q15) n12 c13)), (7, (iN r)), (24, (iN r)), (23, (iN n_rs)), (22, (sS (some q5) n_rs c_rs)), (5, (sS (some ⟨b0, 0, none⟩) n_rs n_rs)), (2, (.p 0 0)), (1, (sS A_to n_to c_to))], [(1, (.lst false 4 arr27))], 2, [], [(0, bk2, (.cells 35 [(sS A_tk n_tk c_tk), (sS A_nm n_nm c_nm), (sS (some q5) n_rs c_rs)]))]⟩ (by kernel_rfl) ?_
                refine WL_op (WOp_idx htb (⟨b0, 0, none⟩) n_rs ((r : Nat) : Int) 1 (by kernel_rfl) (by omega) (by omega) ?_)
                refine WL_op (WOp_ld htb ((⟨b0, 0, none⟩ : Addr).add (r * 1)) false 1 [.slice (some ⟨f r, 0, none⟩) (n_to + 1) (n_to + 1)] (by kernel_rfl) (hC4.top' (by omega)) rfl (by decide) ?_)
                refine WL_execS htb 1 [71, 70, 12, 48, 47, 46, 11, 38, 37, 10, 31, 30, 29, 7, 24, 23, 22, 5, 2, 1] [1] ⟨[(71, (iN i)), (70, (sS (some ⟨f r, 0, none⟩) (n_to + 1) (n_to + 1))), (12, (iN j)), (48, (iN j)), (47, (iN (n_to + 1))), (46, (.ls false 1 (n_to + 1) cap28)), (11, (iN i)), (38, (iN i)), (37, (iN (n_to + 1))), (10, (sS A21 n22 c23)), (31, (iN k)), (30, (iN n12)), (29, (sS (some q15) n12 c13)), (7, (iN r)), (24, (iN r)), (23, (iN n_rs)), (22, (sS (some q5) n_rs c_rs)), (5, (sS (some ⟨b0, 0, none⟩) n_rs n_rs)), (2, (.p 0 0)), (1, (sS A_to n_to c_to))], [(1, (.lst false 4 arr27))], 2, [], [(0, bk2, (.cells 35 [(sS A_tk n_tk c_tk), (sS A_nm n_nm c_nm), (sS (some q5) n_rs c_rs)]))]⟩ (by kernel_rfl) ?_
                refine WL_op (WOp_idx htb (⟨f r, 0, none⟩) (n_to + 1) ((i : Nat) : Int) 1 (by kernel_rfl) (by omega) (by omega) ?_)
                refine WL_op (WOp_ld htb ((⟨f r, 0, none⟩ : Addr).add (i * 1)) false 1 [.slice (some ⟨g r i, 0, none⟩) (n_to + 1) (n_to + 1)] (by kernel_rfl) (hC4.mid' (by omega) (by omega)) rfl (by decide) ?_)
                refine WL_execS htb 1 [74, 73, 48, 47, 46, 11, 38, 37, 10, 31, 30, 29, 7, 24, 23, 22, 5, 2, 1] [1] ⟨[(74, (iN j)), (73, (sS (some ⟨g r i, 0, none⟩) (n_to + 1) (n_to + 1))), (48, (iN j)), (47, (iN (n_to + 1))), (46, (.ls false 1 (n_to + 1) cap28)), (11, (iN i)), (38, (iN i)), (37, (iN (n_to + 1))), (10, (sS A21 n22 c23)), (31, (iN k)), (30, (iN n12)), (29, (sS (some q15) n12 c13)), (7, (iN r)), (24, (iN r)), (23, (iN n_rs)), (22, (sS (some q5) n_rs c_rs)), (5, (sS (some ⟨b0, 0, none⟩) n_rs n_rs)), (2, (.p 0 0)), (1, (sS A_to n_to c_to))], [(1, (.lst false 4 arr27))], 2, [], [(0, bk2, (.cells 35 [(sS A_tk n_tk c_tk), (sS A_nm n_nm c_nm), (sS (some q5) n_rs c_rs)]))]⟩ (by kernel_rfl) ?_
                refine WL_op (WOp_idx htb (⟨g r i, 0, none⟩) (n_to + 1) ((j : Nat) : Int) 1 (by kernel_rfl) (by omega) (by omega) ?_)
                obtain ⟨T5, a5, ha5, hs5, _⟩ := hC4.low r i (by omega) (by omega)
                have hfz : bk2 ≠ g r i := fun e => by (have h5 := hC4.new r i (by omega) (by omega); rw [← e, hbk2] at h5; cases h5)
                have hC5 := hC4.set (r := r) (i := i) (j := j) (by omega) (by omega) (by omega) ha5 true
                have hleb5 := hC4.le hleb (r := r) (i := i) (by omega) (by omega) (.cells (a5.toList.take j ++ [Value.bool true] ++ a5.toList.drop (j + 1)).toArray T5 (0, 0))
                refine WL_op (WOp_stoG htb ((⟨g r i, 0, none⟩ : Addr).add (j * 1)) [(bB true)] [.bool true] (by kernel_rfl) (fun ρ => rfl) (off := j) (by simp [add_lit']) ha5 (none_of hle0 (hC4.new r i (by omega) (by omega))) (fun p hp => by (rcases List.mem_cons.1 hp with rfl | hp; exact hfz; cases hp)) (by show j + 1 ≤ a5.size; omega) ?_)
                clear hleb
                have hleb := hleb5
                refine WL_nil ?_
                refine WQ_code ?_
                refine WC_region ?_
                refine WL_execS htb 1 [6, 48, 47, 46, 11, 38, 37, 10, 31, 30, 29, 7, 24, 23, 22, 5, 2, 1] [1] ⟨[(6, (bB true)), (48, (iN j)), (47, (iN (n_to + 1))), (46, (.ls false 1 (n_to + 1) cap28)), (11, (iN i)), (38, (iN i)), (37, (iN (n_to + 1))), (10, (sS A21 n22 c23)), (31, (iN k)), (30, (iN n12)), (29, (sS (some q15) n12 c13)), (7, (iN r)), (24, (iN r)), (23, (iN n_rs)), (22, (sS (some q5) n_rs c_rs)), (5, (sS (some ⟨b0, 0, none⟩) n_rs n_rs)), (2, (.p 0 0)), (1, (sS A_to n_to c_to))], [(1, (.lst false 4 arr27))], 2, [], [(0, bk2, (.cells 35 [(sS A_tk n_tk c_tk), (sS A_nm n_nm c_nm), (sS (some q5) n_rs c_rs)]))]⟩ (by kernel_rfl) ?_
                refine WL_nil ?_
                refine WQ_blk ?_
                refine WQ_code ?_
                refine WC_region ?_
                refine WL_execS htb 2 [48, 6, 47, 46, 11, 38, 37, 10, 31, 30, 29, 7, 24, 23, 22, 5, 2, 1] [1] ⟨[(48, (iI (IntKind.i64.wrap (((j : Nat) : Int) + 1)))), (6, (bB true)), (47, (iN (n_to + 1))), (46, (.ls false 1 (n_to + 1) cap28)), (11, (iN i)), (38, (iN i)), (37, (iN (n_to + 1))), (10, (sS A21 n22 c23)), (31, (iN k)), (30, (iN n12)), (29, (sS (some q15) n12 c13)), (7, (iN r)), (24, (iN r)), (23, (iN n_rs)), (22, (sS (some q5) n_rs c_rs)), (5, (sS (some ⟨b0, 0, none⟩) n_rs n_rs)), (2, (.p 0 0)), (1, (sS A_to n_to c_to))], [(1, (.lst false 4 arr27))], 2, [], [(0, bk2, (.cells 35 [(sS A_tk n_tk c_tk), (sS A_nm n_nm c_nm), (sS (some q5) n_rs c_rs)]))]⟩ (by kernel_rfl) ?_
                refine WL_nil ?_
                refine WK_env [(48, (iN (j + 1))), (6, (bB true)), (47, (iN (n_to + 1))), (46, (.ls false 1 (n_to + 1) cap28)), (11, (iN i)), (38, (iN i)), (37, (iN (n_to + 1))), (10, (sS A21 n22 c23)), (31, (iN k)), (30, (iN n12)), (29, (sS (some q15) n12 c13)), (7, (iN r)), (24, (iN r)), (23, (iN n_rs)), (22, (sS (some q5) n_rs c_rs)), (5, (sS (some ⟨b0, 0, none⟩) n_rs n_rs)), (2, (.p 0 0)), (1, (sS A_to n_to c_to))] (fun ρ => ⟨rfl, (congrArg (Value.int .i64) (by rw [wrap_id (by omega)]; first | rfl | omega)), ⟨rfl, rfl, ⟨rfl, rfl, ⟨rfl, rfl, ⟨rfl, rfl, ⟨rfl, rfl, ⟨rfl, rfl, ⟨rfl, rfl, ⟨rfl, rfl, ⟨rfl, rfl, ⟨rfl, rfl, ⟨rfl, rfl, ⟨rfl, rfl, ⟨rfl, rfl, ⟨rfl, rfl, ⟨rfl, rfl, ⟨rfl, rfl, ⟨rfl, rfl, trivial⟩⟩⟩⟩⟩⟩⟩⟩⟩⟩⟩⟩⟩⟩⟩⟩⟩⟩) ?_
                refine WK_keep [48, 47, 46, 11, 38, 37, 10, 31, 30, 29, 7, 24, 23, 22, 6, 5, 2, 1] [1] rfl rfl ?_
                exact WQ_next ((j + 1), true, (fun x y z => if x = r ∧ y = i ∧ z = j then true else c4 x y z)) (by show n_to + 1 - (j + 1) < n_to + 1 - j; omega) ⟨by omega, hleb, hC5, set_up hup, hR4.set (by omega) (by omega) (by omega) (by simpa using hn) (sound_step (by omega) (by omega) hup hR4.snd hx6 hx16 (hye j) hm)⟩ (fun ρ a w h => h)
              · rw [Bool.not_eq_false'] at hn
                refine WC_skip ?_
                refine WQ_blk ?_
                refine WQ_code ?_
                refine WC_region ?_
                refine WL_execS htb 2 [48, 47, 46, 11, 38, 37, 10, 31, 30, 29, 7, 24, 23, 22, 6, 5, 2, 1] [1] ⟨[(48, (iI (IntKind.i64.wrap (((j : Nat) : Int) + 1)))), (47, (iN (n_to + 1))), (46, (.ls false 1 (n_to + 1) cap28)), (11, (iN i)), (38, (iN i)), (37, (iN (n_to + 1))), (10, (sS A21 n22 c23)), (31, (iN k)), (30, (iN n12)), (29, (sS (some q15) n12 c13)), (7, (iN r)), (24, (iN r)), (23, (iN n_rs)), (22, (sS (some q5) n_rs c_rs)), (6, (bB ag4)), (5, (sS (some ⟨b0, 0, none⟩) n_rs n_rs)), (2, (.p 0 0)), (1, (sS A_to n_to c_to))], [(1, (.lst false 4 arr27))], 2, [], [(0, bk2, (.cells 35 [(sS A_tk n_tk c_tk), (sS A_nm n_nm c_nm), (sS (some q5) n_rs c_rs)]))]⟩ (by kernel_rfl) ?_
                refine WL_nil ?_
                refine WK_env [(48, (iN (j + 1))), (47, (iN (n_to + 1))), (46, (.ls false 1 (n_to + 1) cap28)), (11, (iN i)), (38, (iN i)), (37, (iN (n_to + 1))), (10, (sS A21 n22 c23)), (31, (iN k)), (30, (iN n12)), (29, (sS (some q15) n12 c13)), (7, (iN r)), (24, (iN r)), (23, (iN n_rs)), (22, (sS (some q5) n_rs c_rs)), (6, (bB ag4)), (5, (sS (some ⟨b0, 0, none⟩) n_rs n_rs)), (2, (.p 0 0)), (1, (sS A_to n_to c_to))] (fun ρ => ⟨rfl, (congrArg (Value.int .i64) (by rw [wrap_id (by omega)]; first | rfl | omega)), ⟨rfl, rfl, ⟨rfl, rfl, ⟨rfl, rfl, ⟨rfl, rfl, ⟨rfl, rfl, ⟨rfl, rfl, ⟨rfl, rfl, ⟨rfl, rfl, ⟨rfl, rfl, ⟨rfl, rfl, ⟨rfl, rfl, ⟨rfl, rfl, ⟨rfl, rfl, ⟨rfl, rfl, ⟨rfl, rfl, ⟨rfl, rfl, ⟨rfl, rfl, trivial⟩⟩⟩⟩⟩⟩⟩⟩⟩⟩⟩⟩⟩⟩⟩⟩⟩⟩) ?_
                refine WK_keep [48, 47, 46, 11, 38, 37, 10, 31, 30, 29, 7, 24, 23, 22, 6, 5, 2, 1] [1] rfl rfl ?_
                exact WQ_next ((j + 1), ag4, c4) (by show n_to + 1 - (j + 1) < n_to + 1 - j; omega) ⟨by omega, hleb, hC4, hup, hR4.imp2 (PJ_step (fun _ => by simpa using hn))⟩ (fun ρ a w h => h)
            · skip
              refine WK_keep [54, 12, 48, 47, 46, 11, 38, 37, 10, 31, 30, 29, 7, 24, 23, 22, 6, 5, 2, 1] [1] rfl rfl ?_
              refine WL_execS htb 12 [66, 12, 48, 47, 46, 11, 38, 37, 10, 31, 30, 29, 7, 24, 23, 22, 6, 5, 2, 1] [1] ⟨[(66, (bB false)), (12, (iN j)), (48, (iN j)), (47, (iN (n_to + 1))), (46, (.ls false 1 (n_to + 1) cap28)), (11, (iN i)), (38, (iN i)), (37, (iN (n_to + 1))), (10, (sS A21 n22 c23)), (31, (iN k)), (30, (iN n12)), (29, (sS (some q15) n12 c13)), (7, (iN r)), (24, (iN r)), (23, (iN n_rs)), (22, (sS (some q5) n_rs c_rs)), (6, (bB ag4)), (5, (sS (some ⟨b0, 0, none⟩) n_rs n_rs)), (2, (.p 0 0)), (1, (sS A_to n_to c_to))], [(1, (.lst false 4 arr27))], 2, [], [(0, bk2, (.cells 35 [(sS A_tk n_tk c_tk), (sS A_nm n_nm c_nm), (sS (some q5) n_rs c_rs)]))]⟩ (by kernel_rfl) ?_
              refine WL_nil ?_
              refine WQ_code ?_
              refine WC_cond (b := false) rfl (fun h => by cases h) (fun _ => ?_)
              refine WC_skip ?_
              refine WQ_blk ?_
              refine WQ_code ?_
              refine WC_region ?_
              refine WL_execS htb 2 [48, 47, 46, 11, 38, 37, 10, 31, 30, 29, 7, 24, 23, 22, 6, 5, 2, 1] [1] ⟨[(48, (iI (IntKind.i64.wrap (((j : Nat) : Int) + 1)))), (47, (iN (n_to + 1))), (46, (.ls false 1 (n_to + 1) cap28)), (11, (iN i)), (38, (iN i)), (37, (iN (n_to + 1))), (10, (sS A21 n22 c23)), (31, (iN k)), (30, (iN n12)), (29, (sS (some q15) n12 c13)), (7, (iN r)), (24, (iN r)), (23, (iN n_rs)), (22, (sS (some q5) n_rs c_rs)), (6, (bB ag4)), (5, (sS (some ⟨b0, 0, none⟩) n_rs n_rs)), (2, (.p 0 0)), (1, (sS A_to n_to c_to))], [(1, (.lst false 4 arr27))], 2, [], [(0, bk2, (.cells 35 [(sS A_tk n_tk c_tk), (sS A_nm n_nm c_nm), (sS (some q5) n_rs c_rs)]))]⟩ (by kernel_rfl) ?_
              refine WL_nil ?_
              refine WK_env [(48, (iN (j + 1))), (47, (iN (n_to + 1))), (46, (.ls false 1 (n_to + 1) cap28)), (11, (iN i)), (38, (iN i)), (37, (iN (n_to + 1))), (10, (sS A21 n22 c23)), (31, (iN k)), (30, (iN n12)), (29, (sS (some q15) n12 c13)), (7, (iN r)), (24, (iN r)), (23, (iN n_rs)), (22, (sS (some q5) n_rs c_rs)), (6, (bB ag4)), (5, (sS (some ⟨b0, 0, none⟩) n_rs n_rs)), (2, (.p 0 0)), (1, (sS A_to n_to c_to))] (fun ρ => ⟨rfl, (congrArg (Value.int .i64) (by rw [wrap_id (by omega)]; first | rfl | omega)), ⟨rfl, rfl, ⟨rfl, rfl, ⟨rfl, rfl, ⟨rfl, rfl, ⟨rfl, rfl, ⟨rfl, rfl, ⟨rfl, rfl, ⟨rfl, rfl, ⟨rfl, rfl, ⟨rfl, rfl, ⟨rfl, rfl, ⟨rfl, rfl, ⟨rfl, rfl, ⟨rfl, rfl, ⟨rfl, rfl, ⟨rfl, rfl, ⟨rfl, rfl, trivial⟩⟩⟩⟩⟩⟩⟩⟩⟩⟩⟩⟩⟩⟩⟩⟩⟩⟩) ?_
              refine WK_keep [48, 47, 46, 11, 38, 37, 10, 31, 30, 29, 7, 24, 23, 22, 6, 5, 2, 1] [1] rfl rfl ?_
              exact WQ_next ((j + 1), ag4, c4) (by show n_to + 1 - (j + 1) < n_to + 1 - j; omega) ⟨by omega, hleb, hC4, hup, hR4.imp2 (PJ_step (fun h => by rw [hm] at h; cases h))⟩ (fun ρ a w h => h)
          · replace hc4 := of_decide_eq_false hc4
            refine WC_exit ?_
            refine WQ_then_exit ?_
            refine WQ_then_exit ?_
            refine WQ_hit ?_
            refine WQ_blk ?_
            refine WQ_code ?_
            refine WC_region ?_
            refine WL_execS htb 2 [38, 37, 10, 31, 30, 29, 7, 24, 23, 22, 6, 5, 2, 1] [] ⟨[(38, (iI (IntKind.i64.wrap (((i : Nat) : Int) + 1)))), (37, (iN (n_to + 1))), (10, (sS A21 n22 c23)), (31, (iN k)), (30, (iN n12)), (29, (sS (some q15) n12 c13)), (7, (iN r)), (24, (iN r)), (23, (iN n_rs)), (22, (sS (some q5) n_rs c_rs)), (6, (bB ag4)), (5, (sS (some ⟨b0, 0, none⟩) n_rs n_rs)), (2, (.p 0 0)), (1, (sS A_to n_to c_to))], [], 2, [], [(0, bk2, (.cells 35 [(sS A_tk n_tk c_tk), (sS A_nm n_nm c_nm), (sS (some q5) n_rs c_rs)]))]⟩ (by kernel_rfl) ?_
            refine WL_nil ?_
            refine WK_env [(38, (iN (i + 1))), (37, (iN (n_to + 1))), (10, (sS A21 n22 c23)), (31, (iN k)), (30, (iN n12)), (29, (sS (some q15) n12 c13)), (7, (iN r)), (24, (iN r)), (23, (iN n_rs)), (22, (sS (some q5) n_rs c_rs)), (6, (bB ag4)), (5, (sS (some ⟨b0, 0, none⟩) n_rs n_rs)), (2, (.p 0 0)), (1, (sS A_to n_to c_to))] (fun ρ => ⟨rfl, (congrArg (Value.int .i64) (by rw [wrap_id (by omega)]; first | rfl | omega)), ⟨rfl, rfl, ⟨rfl, rfl, ⟨rfl, rfl, ⟨rfl, rfl, ⟨rfl, rfl, ⟨rfl, rfl, ⟨rfl, rfl, ⟨rfl, rfl, ⟨rfl, rfl, ⟨rfl, rfl, ⟨rfl, rfl, ⟨rfl, rfl, ⟨rfl, rfl, trivial⟩⟩⟩⟩⟩⟩⟩⟩⟩⟩⟩⟩⟩⟩) ?_
            refine WK_keep [38, 37, 10, 31, 30, 29, 7, 24, 23, 22, 6, 5, 2, 1] [] rfl rfl ?_
            exact WQ_next ((i + 1), ag4, c4) (by show n_to + 1 - (i + 1) < n_to + 1 - i; omega) ⟨by omega, hleb, hC4, hR4.imp (PI_step hyl hye (by omega))⟩ (fun ρ a w h => h)
        · replace hc3 := of_decide_eq_false hc3
          refine WC_exit ?_
          refine WQ_then_exit ?_
          refine WQ_then_exit ?_
          refine WQ_hit ?_
          refine WQ_blk ?_
          refine WQ_code ?_
          refine WC_region ?_
          refine WL_execS htb 2 [31, 30, 29, 7, 24, 23, 22, 6, 5, 2, 1] [] ⟨[(31, (iI (IntKind.i64.wrap (((k : Nat) : Int) + 1)))), (30, (iN n12)), (29, (sS (some q15) n12 c13)), (7, (iN r)), (24, (iN r)), (23, (iN n_rs)), (22, (sS (some q5) n_rs c_rs)), (6, (bB ag3)), (5, (sS (some ⟨b0, 0, none⟩) n_rs n_rs)), (2, (.p 0 0)), (1, (sS A_to n_to c_to))], [], 1, [], [(0, bk2, (.cells 35 [(sS A_tk n_tk c_tk), (sS A_nm n_nm c_nm), (sS (some q5) n_rs c_rs)]))]⟩ (by kernel_rfl) ?_
          refine WL_nil ?_
          refine WK_env [(31, (iN (k + 1))), (30, (iN n12)), (29, (sS (some q15) n12 c13)), (7, (iN r)), (24, (iN r)), (23, (iN n_rs)), (22, (sS (some q5) n_rs c_rs)), (6, (bB ag3)), (5, (sS (some ⟨b0, 0, none⟩) n_rs n_rs)), (2, (.p 0 0)), (1, (sS A_to n_to c_to))] (fun ρ => ⟨rfl, (congrArg (Value.int .i64) (by rw [wrap_id (by omega)]; first | rfl | omega)), ⟨rfl, rfl, ⟨rfl, rfl, ⟨rfl, rfl, ⟨rfl, rfl, ⟨rfl, rfl, ⟨rfl, rfl, ⟨rfl, rfl, ⟨rfl, rfl, ⟨rfl, rfl, ⟨rfl, rfl, trivial⟩⟩⟩⟩⟩⟩⟩⟩⟩⟩⟩) ?_
          refine WK_keep [31, 30, 29, 7, 24, 23, 22, 6, 5, 2, 1] [] rfl rfl ?_
          exact WQ_next ((k + 1), ag3, c3) (by show n12 - (k + 1) < n12 - k; omega) ⟨by omega, hleb, hC3, hR3.imp (PA_step hx16 (by omega))⟩ (fun ρ a w h => h)
      · replace hc2 := of_decide_eq_false hc2
        refine WC_exit ?_
        refine WQ_then_exit ?_
        refine WQ_then_exit ?_
        refine WQ_hit ?_
        refine WQ_blk ?_
        refine WQ_code ?_
        refine WC_region ?_
        refine WL_execS htb 2 [24, 23, 22, 6, 5, 2, 1] [] ⟨[(24, (iI (IntKind.i64.wrap (((r : Nat) : Int) + 1)))), (23, (iN n_rs)), (22, (sS (some q5) n_rs c_rs)), (6, (bB ag2)), (5, (sS (some ⟨b0, 0, none⟩) n_rs n_rs)), (2, (.p 0 0)), (1, (sS A_to n_to c_to))], [], 1, [], [(0, bk2, (.cells 35 [(sS A_tk n_tk c_tk), (sS A_nm n_nm c_nm), (sS (some q5) n_rs c_rs)]))]⟩ (by kernel_rfl) ?_
        refine WL_nil ?_
        refine WK_env [(24, (iN (r + 1))), (23, (iN n_rs)), (22, (sS (some q5) n_rs c_rs)), (6, (bB ag2)), (5, (sS (some ⟨b0, 0, none⟩) n_rs n_rs)), (2, (.p 0 0)), (1, (sS A_to n_to c_to))] (fun ρ => ⟨rfl, (congrArg (Value.int .i64) (by rw [wrap_id (by omega)]; first | rfl | omega)), ⟨rfl, rfl, ⟨rfl, rfl, ⟨rfl, rfl, ⟨rfl, rfl, ⟨rfl, rfl, ⟨rfl, rfl, trivial⟩⟩⟩⟩⟩⟩⟩) ?_
        refine WK_keep [24, 23, 22, 6, 5, 2, 1] [] rfl rfl ?_
        exact WQ_next ((r + 1), ag2, c2) (by show n_rs - (r + 1) < n_rs - r; omega) ⟨by omega, hleb, hC2, hR2.imp (PR_step hx6 (by omega))⟩ (fun ρ a w h => h)
    · replace hc1 := of_decide_eq_false hc1
      refine WC_exit ?_
      refine WQ_then_exit ?_
      refine WQ_then_exit ?_
      refine WQ_hit ?_
      refine WQ_blk ?_
      refine WK_keep [6, 5, 2, 1] [] rfl rfl ?_
      exact WQ_next (ag1, c1) (by show cnt n_rs (n_to + 1) c1 + ag1.toNat < cnt n_rs (n_to + 1) c0 + 1; exact hR1.mu) ⟨hleb, hC1, hR1.snd, fun h => hR1.closed h (by omega)⟩ (fun ρ a w h => h)
  · skip
    subst hag
    refine WC_exit ?_
    refine WQ_then_exit ?_
    refine WQ_then_exit ?_
    refine WQ_hit ?_
    refine WQ_code ?_
    refine WC_seq (WC_region ?_)
    refine WL_execS htb 2 [4] [] ⟨[(4, (sS (some ⟨b0, 0, none⟩) n_rs n_rs))], [], 1, [], [(0, bk2, (.cells 35 [(sS A_tk n_tk c_tk), (sS A_nm n_nm c_nm), (sS A_rs n_rs c_rs)]))]⟩ (by kernel_rfl) ?_
    refine WL_nil ?_
    refine WQ_code ?_
    refine WC_ret ?_
    exact WQ_done htb [(sS (some ⟨b0, 0, none⟩) n_rs n_rs)] _ (.inl rfl) rfl (by kernel_rfl) (fun ρ w hW => ⟨some ⟨b0, 0, none⟩, cubeL n_rs (n_to + 1) c0, (by rw [← h_rs.len]; rfl), by rw [← h_rs.len]; exact hC.sl (by unfold big; omega) (by unfold big; omega), dims_cubeL (by omega), spans_of (by omega) (by omega) hS (hcl rfl)⟩)

end Go.Proofs.Ytbpajkjolhoflaa.Sym
