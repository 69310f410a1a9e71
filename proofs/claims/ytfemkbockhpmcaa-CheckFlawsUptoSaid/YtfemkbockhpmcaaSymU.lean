/- The symbolic layer, twentieth part: a law's arguments opened where the bulk of what they read is bounded. Own work. -/
import Derived.Test.YtfemkbockhpmcaaRows
import Derived.Test.YtfemkbockhpmcaaSymS
import Derived.JoinedCond
set_option linter.unusedSimpArgs false
set_option linter.unusedVariables false
namespace Go.Proofs.Ytfemkbockhpmcaa.Sym
open Go Go.Proofs Go.RowKit Go.ChangeShapes Go.WideShapes
def OpensM (P : Program) (t : TypeId) {α : Type} (d : Ty α) (μ : α → Nat) : Prop := ∀ (H : Type) (enc : TypeId × Value → H) (W : World) (fuel : Nat) (cs : List Value) (x : DataW H × List MemPlace),
  DataW.trod enc P W 0 (fun _ => true) true fuel t cs = some x → ∃ y, d.rep (heapOf W) y cs ∧ μ y < Rows.uptoBulk x.1
def muL {α : Type} (μ : α → Nat) (xs : List α) : Nat := xs.length + (xs.map μ).sum
def mu0 {α : Type} (x : α) : Nat := 0
def muS (s : ByteArray) : Nat := s.size
def muP {α β : Type} (a : α → Nat) (b : β → Nat) (x : α × β) : Nat := a x.1 + b x.2
section
variable {P : Program}
theorem opensM_str {t : TypeId} (ht : P.underlying t = some .string) : OpensM P t tStr muS := fun H enc W fuel cs x h => by
  obtain ⟨s, h1, h3, h2⟩ := DataW.trod_string ht h
  subst h1; subst h3
  refine ⟨s, ⟨rfl, h2⟩, ?_⟩
  have h5 : s.data.toList.length = s.size := by rw [Array.length_toList]; rfl
  simp only [Rows.uptoBulk, muS]; omega
theorem bulk_sum {H : Type} {α : Type} (μ : α → Nat) : ∀ (l : List (DataW H)) (ys : List α), ys.length = l.length → (∀ (i : Nat) (y : α) (d : DataW H), ys[i]? = some y → l[i]? = some d → μ y < Rows.uptoBulk d) → muL μ ys ≤ Rows.uptoBulkAll l
  | [], [], _, _ => by simp [muL, Rows.uptoBulkAll]
  | d :: l, y :: ys, hl, h => by
    have h1 := h 0 y d rfl rfl
    have h2 := bulk_sum μ l ys (by simpa using hl) fun i y d h1 h2 => h (i + 1) y d (by simpa using h1) (by simpa using h2)
    simp only [muL, Rows.uptoBulkAll, List.length_cons, List.map_cons, List.sum_cons] at *
    omega
  | d :: l, [], hl, _ => by simp at hl
  | [], y :: ys, hl, _ => by simp at hl
theorem opensM_slice {t e : TypeId} {α : Type} {d : Ty α} {μ : α → Nat} (ht : P.underlying t = some (.slice e)) (hd : OpensM P e d μ) (hs : P.cellsOf e = d.sz) (h0 : 0 < d.sz) : OpensM P t (tSlice d) (muL μ) := fun H enc W fuel cs x h => by
  rcases DataW.trod_slice ht h with ⟨h1, h2⟩ | ⟨a, len, cap, elems, rest, n, _, h1, hx, _, hl, hm, hlen, hel, _, _⟩
  · subst h1; subst h2
    exact ⟨[], (Sl.none0 d _).reps, by simp [muL, Rows.uptoBulk]⟩
  · subst h1
    have each : ∀ i, i < len → ∃ y, (∃ cs', d.rep (heapOf W) y cs' ∧ At (heapOf W) (a.add (i * d.sz)) cs') ∧ ∀ q, elems[i]? = some q → μ y < Rows.uptoBulk q.1 := fun i hi => by
      have h2 := hel i hi
      rw [List.getElem?_eq_getElem (by omega), Option.bind_eq_some_iff] at h2
      obtain ⟨cs', h3, h4⟩ := h2
      obtain ⟨y, hy, hB⟩ := hd H enc W n cs' _ h4
      rw [hs] at h3
      refine ⟨y, ⟨cs', hy, at_of_cells h3 h0⟩, fun q hq => ?_⟩
      rw [List.getElem?_eq_getElem (by omega)] at hq; injection hq with hq; subst hq; exact hB
    obtain ⟨ys, h2, h3⟩ := list_of len each
    refine ⟨ys, (Sl.reps (c := cap) (n := len) (A := some a) ⟨h2.symm, hl, hm, fun i y hy => ?_⟩), ?_⟩
    · obtain ⟨cs', h4, h5⟩ := (h3 i y hy).1
      exact ⟨a, cs', rfl, h4, h5⟩
    · rw [hx]
      have h4 := bulk_sum μ (elems.map (·.1)) ys (by rw [List.length_map]; omega) fun i y q h5 h6 => by
        rw [List.getElem?_map] at h6
        cases e : elems[i]? with
        | none => rw [e] at h6; cases h6
        | some z => rw [e] at h6; injection h6 with h6; subst h6; exact (h3 i y h5).2 z e
      simp only [Rows.uptoBulk]; omega
theorem opensM_struct1 {t : TypeId} {f0 : Field} {α : Type} {d0 : Ty α} {μ : α → Nat} (ht : P.underlying t = some (.struct #[f0])) (h0 : OpensM P f0.type d0 μ)
    (s0 : P.cellsOf f0.type = d0.sz) (o0 : f0.offset = 0) (hs : P.cellsOf t = d0.sz) : OpensM P t d0 μ := fun H enc W fuel cs x h => by
  obtain ⟨xs, n, _, hx, hl, hlen, hf⟩ := DataW.trod_struct ht h
  match xs, hlen with
  | [y0], _ =>
    have e0 := hf 0 f0 rfl
    rw [s0, o0, List.drop_zero, List.take_of_length_le (by omega)] at e0
    obtain ⟨a, ha, hA⟩ := h0 H enc W n _ _ e0
    refine ⟨a, ha, ?_⟩
    rw [hx]; simp only [Rows.uptoBulk, Rows.uptoBulkAll, List.map_cons, List.map_nil]; omega
theorem opensM_struct2 {t : TypeId} {f0 f1 : Field} {α β : Type} {d0 : Ty α} {d1 : Ty β} {a : α → Nat} {b : β → Nat} (ht : P.underlying t = some (.struct #[f0, f1])) (h0 : OpensM P f0.type d0 a) (h1 : OpensM P f1.type d1 b)
    (s0 : P.cellsOf f0.type = d0.sz) (s1 : P.cellsOf f1.type = d1.sz) (o0 : f0.offset = 0) (o1 : f1.offset = d0.sz) (hs : P.cellsOf t = d0.sz + d1.sz) : OpensM P t (tPair d0 d1) (muP a b) := fun H enc W fuel cs x h => by
  obtain ⟨xs, n, _, hx, hl, hlen, hf⟩ := DataW.trod_struct ht h
  match xs, hlen with
  | [y0, y1], _ =>
    have e0 := hf 0 f0 rfl
    have e1 := hf 1 f1 rfl
    rw [s0, o0, List.drop_zero] at e0
    rw [s1, o1, List.take_of_length_le (by rw [List.length_drop]; omega)] at e1
    obtain ⟨u, hu, hU⟩ := h0 H enc W n _ _ e0
    obtain ⟨v, hv, hV⟩ := h1 H enc W n _ _ e1
    refine ⟨(u, v), ⟨_, _, (List.take_append_drop d0.sz cs).symm, hu, hv⟩, ?_⟩
    rw [hx]; simp only [Rows.uptoBulk, Rows.uptoBulkAll, List.map_cons, List.map_nil, muP]; omega
theorem open_argM {t : TypeId} {α : Type} {d : Ty α} {μ : α → Nat} (ho : OpensM P t d μ) {H : Type} {enc : TypeId × Value → H} {W : World} {v : Value} {x : DataW H} {p : List MemPlace}
    (h : DataW.Trod enc P W 0 (fun _ => true) true t v x p) :
    (∃ y, d.rep (heapOf W) y v.cells.toList ∧ μ y < Rows.uptoBulk x) ∧ ∀ z ∈ p, z.block < W.heap.size := by
  obtain ⟨fuel, hf⟩ := h
  exact ⟨ho H enc W fuel _ _ hf, DataW.trod_lt fuel _ _ _ hf⟩
end
end Go.Proofs.Ytfemkbockhpmcaa.Sym
