/- The symbolic layer, twelfth part: how a three-dimensional array comes to be. Own work. -/
import Derived.Test.YtfemkbockhpmcaaSymK
set_option linter.unusedSimpArgs false
set_option linter.unusedVariables false
namespace Go.Proofs.Ytfemkbockhpmcaa.Sym
open Go Go.Proofs Go.RowKit
theorem arr_set {a : Array Value} {n j : Nat} (hs : a.size = n) (hj : j < n) (v : Value) :
    ((a.toList.take j ++ [v] ++ a.toList.drop (j + 1)).toArray).size = n ∧ ∀ k, ((a.toList.take j ++ [v] ++ a.toList.drop (j + 1)).toArray)[k]? = if k = j then some v else a[k]? := by
  have hs' : a.toList.length = n := by simpa using hs
  refine ⟨by simp; omega, fun k => ?_⟩
  rw [List.getElem?_toArray]
  by_cases e : k = j
  · subst e; rw [if_pos rfl, List.append_assoc, List.getElem?_append_right (by simp; omega)]
    have : k - (List.take k a.toList).length = 0 := by simp; omega
    rw [this]; rfl
  · rw [if_neg e]
    rcases Nat.lt_or_gt_of_ne e with hlt | hgt
    · rw [List.append_assoc, List.getElem?_append_left (by simp; omega), List.getElem?_take, if_pos hlt]; simp
    · rw [List.getElem?_append_right (by simp; omega)]
      have : k - (List.take j a.toList ++ [v]).length = k - (j + 1) := by simp; omega
      rw [this, List.getElem?_drop]
      have : j + 1 + (k - (j + 1)) = k := by omega
      rw [this]; simp
def sv (b n : Nat) : Value := .slice (some ⟨b, 0, none⟩) n n
structure Part (Gb G : Heap) (b0 : Nat) (f : Nat → Nat) (g : Nat → Nat → Nat) (m n : Nat) (R : Nat → Prop) (D : Nat → Nat → Prop) : Prop where
  le : Le Gb G
  top : ∃ a T, G b0 = some (.cells a T (0, 0)) ∧ a.size = m ∧ ∀ r, R r → a[r]? = some (sv (f r) n)
  new0 : Gb b0 = none
  mid : ∀ r, R r → ∃ a T, G (f r) = some (.cells a T (0, 0)) ∧ a.size = n ∧ ∀ i, D r i → a[i]? = some (sv (g r i) n)
  new1 : ∀ r, R r → Gb (f r) = none
  ne1 : ∀ r, R r → f r ≠ b0
  inj1 : ∀ r r', R r → R r' → f r = f r' → r = r'
  low : ∀ r i, D r i → ∃ a T, G (g r i) = some (.cells a T (0, 0)) ∧ a.size = n ∧ ∀ j, j < n → a[j]? = some (.bool false)
  new2 : ∀ r i, D r i → Gb (g r i) = none
  ne2 : ∀ r i, D r i → g r i ≠ b0
  ne3 : ∀ r i r', D r i → R r' → g r i ≠ f r'
  inj2 : ∀ r i r' i', D r i → D r' i' → g r i = g r' i' → r = r' ∧ i = i'
  lo : ∀ r i, D r i → R r
theorem Part.mono {Gb G G' : Heap} {b0 : Nat} {f : Nat → Nat} {g : Nat → Nat → Nat} {m n : Nat} {R : Nat → Prop} {D : Nat → Nat → Prop} (h : Part Gb G b0 f g m n R D) (hle : Le G G') : Part Gb G' b0 f g m n R D :=
  ⟨h.le.trans hle, by obtain ⟨a, T, h1, h2⟩ := h.top; exact ⟨a, T, hle _ _ h1, h2⟩, h.new0, fun r hr => by obtain ⟨a, T, h1, h2⟩ := h.mid r hr; exact ⟨a, T, hle _ _ h1, h2⟩, h.new1, h.ne1, h.inj1,
    fun r i hr => by obtain ⟨a, T, h1, h2⟩ := h.low r i hr; exact ⟨a, T, hle _ _ h1, h2⟩, h.new2, h.ne2, h.ne3, h.inj2, h.lo⟩
theorem Part.start {Gb G : Heap} (hle : Le Gb G) {b0 : Nat} (hn : Gb b0 = none) {a : Array Value} {T : TypeId} (ha : G b0 = some (.cells a T (0, 0))) {m : Nat} (hm : a.size = m) (n : Nat) : Part Gb G b0 (fun _ => 0) (fun _ _ => 0) m n (fun x => x < 0) (fun _ _ => False) :=
  ⟨hle, ⟨a, T, ha, hm, fun r h => by omega⟩, hn, fun r h => by omega, fun r h => by omega, fun r h => by omega, fun r r' h => by omega, fun _ _ h => h.elim, fun _ _ h => h.elim, fun _ _ h => h.elim, fun _ _ _ h => h.elim, fun _ _ _ _ h => h.elim, fun _ _ h => h.elim⟩
theorem Part.row {Gb G G' : Heap} {b0 b : Nat} {f : Nat → Nat} {g : Nat → Nat → Nat} {m n : Nat} {R : Nat → Prop} {D : Nat → Nat → Prop} (h : Part Gb G b0 f g m n R D) (hle : Le G G') (hb : G b = none) {T : TypeId} {arr : Array Value} (hb' : G' b = some (.cells arr T (0, 0))) (hs : arr.size = n)
    {T0 : TypeId} {a0 : Array Value} (ha : G' b0 = some (.cells a0 T0 (0, 0))) {r : Nat} (hr : r < m) (hR : ¬ R r) {R' : Nat → Prop} (hR' : ∀ x, R' x ↔ R x ∨ x = r) {D' : Nat → Nat → Prop} (hD' : ∀ x y, D' x y ↔ D x y) :
    Part Gb (G'.add b0 (.cells (a0.toList.take r ++ [sv b n] ++ a0.toList.drop (r + 1)).toArray T0 (0, 0))) b0 (fun x => if x = r then b else f x) g m n R' D' := by
  have hD : D' = D := by funext x y; exact propext (hD' x y)
  subst hD
  have h' := h.mono hle
  obtain ⟨a, T1, h1, h2, h3⟩ := h.top
  have h1' := hle _ _ h1
  rw [h1'] at ha; injection ha with ha; injection ha with e1 e2 _; subst e1; subst e2
  have hGb : Gb b = none := by
    cases e : Gb b with
    | none => rfl
    | some o => have := h.le _ _ e; rw [hb] at this; cases this
  have hb0 : b ≠ b0 := fun e => by rw [e, h1] at hb; cases hb
  obtain ⟨s1, s2⟩ := arr_set h2 hr (sv b n)
  have hadd : ∀ k, k ≠ b0 → ∀ o, G' k = some o → (G'.add b0 (.cells (a.toList.take r ++ [sv b n] ++ a.toList.drop (r + 1)).toArray T1 (0, 0))) k = some o := fun k hk o ho => by unfold Heap.add; rw [if_neg hk]; exact ho
  have hbf : ∀ x, R x → b ≠ f x := fun x hx e => by obtain ⟨a', T', q1, _⟩ := h.mid x hx; rw [e, q1] at hb; cases hb
  have hbg : ∀ x y, D' x y → b ≠ g x y := fun x y hx e => by obtain ⟨a', T', q1, _⟩ := h.low x y hx; rw [e, q1] at hb; cases hb
  have hne : ∀ x, R x → x ≠ r := fun x hx e => hR (e ▸ hx)
  refine ⟨fun k o hk => ?_, ⟨_, _, Heap.add_same _ _ _, s1, fun x hx => ?_⟩, h.new0, fun x hx => ?_, fun x hx => ?_, fun x hx => ?_, fun x x' hx hx' e => ?_, fun x y hx => ?_, h.new2, h.ne2, fun x y x' hx hx' => ?_, h.inj2, fun x y hx => (hR' x).2 (.inl (h.lo x y hx))⟩
  · refine hadd k (fun e => ?_) o (hle _ _ (h.le _ _ hk)); rw [e, h.new0] at hk; cases hk
  · rw [s2 x]
    rcases (hR' x).1 hx with hx | rfl
    · rw [if_neg (hne x hx), if_neg (hne x hx)]; exact h3 x hx
    · rw [if_pos rfl, if_pos rfl]
  · rcases (hR' x).1 hx with hx | rfl
    · simp only [if_neg (hne x hx)]
      obtain ⟨a', T', q1, q2⟩ := h'.mid x hx
      exact ⟨a', T', hadd _ (h.ne1 x hx) _ q1, q2⟩
    · simp only [if_true]
      exact ⟨arr, T, hadd _ hb0 _ hb', hs, fun i hi => absurd (h.lo x i hi) hR⟩
  · rcases (hR' x).1 hx with hx | rfl
    · simp only [if_neg (hne x hx)]; exact h.new1 x hx
    · simp only [if_true]; exact hGb
  · rcases (hR' x).1 hx with hx | rfl
    · simp only [if_neg (hne x hx)]; exact h.ne1 x hx
    · simp only [if_true]; exact hb0
  · rcases (hR' x).1 hx with hx | rfl <;> rcases (hR' x').1 hx' with hx' | rfl
    · simp only [if_neg (hne x hx), if_neg (hne x' hx')] at e; exact h.inj1 x x' hx hx' e
    · simp only [if_neg (hne x hx), if_true] at e; exact absurd e.symm (hbf x hx)
    · simp only [if_neg (hne x' hx'), if_true] at e; exact absurd e (hbf x' hx')
    · rfl
  · obtain ⟨a', T', q1, q2⟩ := h'.low x y hx
    exact ⟨a', T', hadd _ (h.ne2 x y hx) _ q1, q2⟩
  · rcases (hR' x').1 hx' with hx' | rfl
    · simp only [if_neg (hne x' hx')]; exact h.ne3 x y x' hx hx'
    · simp only [if_true]; exact (hbg x y hx).symm
theorem Part.cell {Gb G G' : Heap} {b0 b : Nat} {f : Nat → Nat} {g : Nat → Nat → Nat} {m n : Nat} {R : Nat → Prop} {D : Nat → Nat → Prop} (h : Part Gb G b0 f g m n R D) (hle : Le G G') (hb : G b = none) {T : TypeId} {arr : Array Value} (hb' : G' b = some (.cells arr T (0, 0))) (hs : arr.size = n) (hf : ∀ j, j < n → arr[j]? = some (.bool false))
    {r : Nat} (hr : R r) {T0 : TypeId} {a0 : Array Value} (ha : G' (f r) = some (.cells a0 T0 (0, 0))) {i : Nat} (hi : i < n) (hD : ¬ D r i) {D' : Nat → Nat → Prop} (hD' : ∀ x y, D' x y ↔ D x y ∨ (x = r ∧ y = i)) :
    Part Gb (G'.add (f r) (.cells (a0.toList.take i ++ [sv b n] ++ a0.toList.drop (i + 1)).toArray T0 (0, 0))) b0 f (fun x y => if x = r ∧ y = i then b else g x y) m n R D' := by
  have h' := h.mono hle
  obtain ⟨a, T1, h1, h2, h3⟩ := h.mid r hr
  have h1' := hle _ _ h1
  rw [h1'] at ha; injection ha with ha; injection ha with e1 e2 _; subst e1; subst e2
  have hGb : Gb b = none := by
    cases e : Gb b with
    | none => rfl
    | some o => have := h.le _ _ e; rw [hb] at this; cases this
  have hb0 : b ≠ b0 := fun e => by obtain ⟨a', T', q1, _⟩ := h.top; rw [e, q1] at hb; cases hb
  obtain ⟨s1, s2⟩ := arr_set h2 hi (sv b n)
  have hadd : ∀ k, k ≠ f r → ∀ o, G' k = some o → (G'.add (f r) (.cells (a.toList.take i ++ [sv b n] ++ a.toList.drop (i + 1)).toArray T1 (0, 0))) k = some o := fun k hk o ho => by unfold Heap.add; rw [if_neg hk]; exact ho
  have hbf : ∀ x, R x → b ≠ f x := fun x hx e => by obtain ⟨a', T', q1, _⟩ := h.mid x hx; rw [e, q1] at hb; cases hb
  have hbg : ∀ x y, D x y → b ≠ g x y := fun x y hx e => by obtain ⟨a', T', q1, _⟩ := h.low x y hx; rw [e, q1] at hb; cases hb
  have hne : ∀ x y, D x y → ¬ (x = r ∧ y = i) := fun x y hx e => hD (e.1 ▸ e.2 ▸ hx)
  refine ⟨fun k o hk => ?_, ?_, h.new0, fun x hx => ?_, h.new1, h.ne1, h.inj1, fun x y hx => ?_, fun x y hx => ?_, fun x y hx => ?_, fun x y x' hx hx' => ?_, fun x y x' y' hx hx' e => ?_, fun x y hx => ?_⟩
  · refine hadd k (fun e => ?_) o (hle _ _ (h.le _ _ hk)); rw [e, h.new1 r hr] at hk; cases hk
  · obtain ⟨a', T', q1, q2⟩ := h'.top
    exact ⟨a', T', hadd _ (Ne.symm (h.ne1 r hr)) _ q1, q2⟩
  · by_cases e : x = r
    · subst e
      refine ⟨_, _, Heap.add_same _ _ _, s1, fun y hy => ?_⟩
      rw [s2 y]
      rcases (hD' x y).1 hy with hy | ⟨_, rfl⟩
      · rw [if_neg (fun e => hne x y hy ⟨rfl, e⟩), if_neg (hne x y hy)]; exact h3 y hy
      · rw [if_pos rfl, if_pos ⟨rfl, rfl⟩]
    · obtain ⟨a', T', q1, q2, q3⟩ := h'.mid x hx
      refine ⟨a', T', hadd _ (fun e' => e (h.inj1 x r hx hr e')) _ q1, q2, fun y hy => ?_⟩
      rw [if_neg (fun q => e q.1)]
      rcases (hD' x y).1 hy with hy | hy
      · exact q3 y hy
      · exact absurd hy.1 e
  · rcases (hD' x y).1 hx with hx | ⟨rfl, rfl⟩
    · rw [if_neg (hne x y hx)]
      obtain ⟨a', T', q1, q2⟩ := h'.low x y hx
      exact ⟨a', T', hadd _ (h.ne3 x y r hx hr) _ q1, q2⟩
    · rw [if_pos ⟨rfl, rfl⟩]; exact ⟨arr, T, hadd _ (hbf x hr) _ hb', hs, hf⟩
  · rcases (hD' x y).1 hx with hx | ⟨rfl, rfl⟩
    · rw [if_neg (hne x y hx)]; exact h.new2 x y hx
    · rw [if_pos ⟨rfl, rfl⟩]; exact hGb
  · rcases (hD' x y).1 hx with hx | ⟨rfl, rfl⟩
    · rw [if_neg (hne x y hx)]; exact h.ne2 x y hx
    · rw [if_pos ⟨rfl, rfl⟩]; exact hb0
  · rcases (hD' x y).1 hx with hx | ⟨rfl, rfl⟩
    · rw [if_neg (hne x y hx)]; exact h.ne3 x y x' hx hx'
    · rw [if_pos ⟨rfl, rfl⟩]; exact hbf x' hx'
  · rcases (hD' x y).1 hx with hx | ⟨rfl, rfl⟩ <;> rcases (hD' x' y').1 hx' with hx' | ⟨rfl, rfl⟩
    · rw [if_neg (hne x y hx), if_neg (hne x' y' hx')] at e; exact h.inj2 x y x' y' hx hx' e
    · rw [if_neg (hne x y hx), if_pos ⟨rfl, rfl⟩] at e; exact absurd e.symm (hbg x y hx)
    · rw [if_neg (hne x' y' hx'), if_pos ⟨rfl, rfl⟩] at e; exact absurd e (hbg x' y' hx')
    · exact ⟨rfl, rfl⟩
  · rcases (hD' x y).1 hx with hx | ⟨rfl, rfl⟩
    · exact h.lo x y hx
    · exact hr
end Go.Proofs.Ytfemkbockhpmcaa.Sym
