/- The symbolic layer, eighth part: a law's arguments, opened. Own work. -/
import Derived.Test.YtbpajkjolhoflaaSymG
import Derived.WalkKit
import Derived.ProofKit
import Derived.OpenShut
import Derived.ShutString
import Derived.ChangeOld
import Derived.Below
import Derived.SizedLaws
import Derived.Carry
set_option linter.unusedSimpArgs false
set_option linter.unusedVariables false
namespace Go.Proofs.Ytbpajkjolhoflaa.Sym
open Go Go.Proofs Go.RowKit Go.ChangeShapes Go.WideShapes
/-! ### 25. A law's arguments, opened -/
def heapOf (W : World) : Heap := fun b => W.heap[b]?
theorem has_heapOf (W : World) : Has W (heapOf W) := fun b o h => h
/-- Whatever reads as data of type t stands for something of kind d. -/
def Opens (P : Program) (t : TypeId) {α : Type} (d : Ty α) : Prop := ∀ (H : Type) (enc : TypeId × Value → H) (W : World) (fuel : Nat) (cs : List Value) (x : DataW H × List MemPlace),
  DataW.trod enc P W 0 (fun _ => true) true fuel t cs = some x → ∃ y, d.rep (heapOf W) y cs
theorem at_of_cells {W : World} {base : Nat} {a : Addr} {n : Nat} {cs : List Value} (h : W.cells? base a n = some cs) (hn : 0 < n) : At (heapOf W) a cs := by
  obtain ⟨_, hl, hc⟩ := World.cells?_some h
  obtain ⟨b, o, s⟩ := a
  have h0 := hc 0 hn
  rw [List.getElem?_eq_getElem (by omega)] at h0
  cases s with
  | some q =>
    exfalso
    unfold World.cell? at h0
    split at h0
    · split at h0
      · cases h0
      · rename_i hs
        apply hs
        unfold Addr.add
        split <;> simp_all
    · cases h0
  | none =>
    rw [add_lit'] at h0
    unfold World.cell? at h0
    split at h0
    · rename_i c T fr hb
      refine ⟨c, T, fr, hb, rfl, fun j v hj => ?_⟩
      have hj' := hc j (by have := (List.getElem?_eq_some_iff.1 hj).1; omega)
      rw [add_lit', hj] at hj'
      unfold World.cell? at hj'
      simp only at hb
      simp only [hb] at hj'
      simpa using hj'
    · cases h0
theorem list_of {α : Type} {p : Nat → α → Prop} : ∀ n, (∀ i, i < n → ∃ y, p i y) → ∃ ys : List α, ys.length = n ∧ ∀ i y, ys[i]? = some y → p i y
  | 0, _ => ⟨[], rfl, fun i y h => by simp at h⟩
  | n + 1, h => by
    obtain ⟨ys, h1, h2⟩ := list_of n (fun i hi => h i (by omega))
    obtain ⟨y, hy⟩ := h n (by omega)
    refine ⟨ys ++ [y], by simp [h1], fun i z hz => ?_⟩
    by_cases hi : i < ys.length
    · rw [List.getElem?_append_left hi] at hz; exact h2 i z hz
    · have hi' : i = n := by
        have := (List.getElem?_eq_some_iff.1 hz).1
        simp at this; omega
      subst hi'
      rw [List.getElem?_append_right (by omega), h1] at hz
      simp at hz; subst hz; exact hy
section
variable {P : Program}
theorem opens_int {t : TypeId} (ht : P.underlying t = some (.int .i64)) : Opens P t (tInt .i64) := fun H enc W fuel cs x h => by
  obtain ⟨n, h1, _, h2⟩ := DataW.trod_int ht h
  subst h1
  simp only [Lit.wf, Bool.and_eq_true, decide_eq_true_eq] at h2
  have h3 : IntKind.i64.min = -9223372036854775808 := rfl
  have h4 : IntKind.i64.max = 9223372036854775807 := rfl
  exact ⟨n, rep_int _ (by omega)⟩
theorem opens_bool {t : TypeId} (ht : P.underlying t = some .bool) : Opens P t tBool := fun H enc W fuel cs x h => by
  obtain ⟨n, h1, _⟩ := DataW.trod_bool ht h
  subst h1
  exact ⟨n, rfl⟩
theorem opens_str {t : TypeId} (ht : P.underlying t = some .string) : Opens P t tStr := fun H enc W fuel cs x h => by
  obtain ⟨s, h1, _, h2⟩ := DataW.trod_string ht h
  subst h1
  exact ⟨s, rfl, h2⟩
theorem opens_slice {t e : TypeId} {α : Type} {d : Ty α} (ht : P.underlying t = some (.slice e)) (hd : Opens P e d) (hs : P.cellsOf e = d.sz) (h0 : 0 < d.sz) : Opens P t (tSlice d) := fun H enc W fuel cs x h => by
  rcases DataW.trod_slice ht h with ⟨h1, _⟩ | ⟨a, len, cap, elems, rest, n, _, h1, _, _, hl, hm, hlen, hel, _, _⟩
  · subst h1
    exact ⟨[], (Sl.none0 d _).reps⟩
  · subst h1
    have each : ∀ i, i < len → ∃ y, ∃ cs', d.rep (heapOf W) y cs' ∧ At (heapOf W) (a.add (i * d.sz)) cs' := fun i hi => by
      have h2 := hel i hi
      rw [List.getElem?_eq_getElem (by omega), Option.bind_eq_some_iff] at h2
      obtain ⟨cs', h3, h4⟩ := h2
      obtain ⟨y, hy⟩ := hd H enc W n cs' _ h4
      rw [hs] at h3
      exact ⟨y, cs', hy, at_of_cells h3 h0⟩
    obtain ⟨ys, h2, h3⟩ := list_of len each
    refine ⟨ys, (Sl.reps (c := cap) (n := len) (A := some a) ⟨h2.symm, hl, hm, fun i y hy => ?_⟩)⟩
    obtain ⟨cs', h4, h5⟩ := h3 i y hy
    exact ⟨a, cs', rfl, h4, h5⟩
theorem opens_struct2 {t : TypeId} {f0 f1 : Field} {α β : Type} {d0 : Ty α} {d1 : Ty β} (ht : P.underlying t = some (.struct #[f0, f1])) (h0 : Opens P f0.type d0) (h1 : Opens P f1.type d1)
    (s0 : P.cellsOf f0.type = d0.sz) (s1 : P.cellsOf f1.type = d1.sz) (o0 : f0.offset = 0) (o1 : f1.offset = d0.sz) (hs : P.cellsOf t = d0.sz + d1.sz) : Opens P t (tPair d0 d1) := fun H enc W fuel cs x h => by
  obtain ⟨xs, n, _, _, hl, hlen, hf⟩ := DataW.trod_struct ht h
  match xs, hlen with
  | [y0, y1], _ =>
    have e0 := hf 0 f0 rfl
    have e1 := hf 1 f1 rfl
    rw [s0, o0, List.drop_zero] at e0
    rw [s1, o1, List.take_of_length_le (by rw [List.length_drop]; omega)] at e1
    obtain ⟨a, ha⟩ := h0 H enc W n _ _ e0
    obtain ⟨b, hb⟩ := h1 H enc W n _ _ e1
    exact ⟨(a, b), _, _, (List.take_append_drop d0.sz cs).symm, ha, hb⟩
theorem opens_struct3 {t : TypeId} {f0 f1 f2 : Field} {α β γ : Type} {d0 : Ty α} {d1 : Ty β} {d2 : Ty γ} (ht : P.underlying t = some (.struct #[f0, f1, f2])) (h0 : Opens P f0.type d0) (h1 : Opens P f1.type d1) (h2 : Opens P f2.type d2)
    (s0 : P.cellsOf f0.type = d0.sz) (s1 : P.cellsOf f1.type = d1.sz) (s2 : P.cellsOf f2.type = d2.sz) (o0 : f0.offset = 0) (o1 : f1.offset = d0.sz) (o2 : f2.offset = d0.sz + d1.sz) (hs : P.cellsOf t = d0.sz + d1.sz + d2.sz) : Opens P t (tPair d0 (tPair d1 d2)) := fun H enc W fuel cs x h => by
  obtain ⟨xs, n, _, _, hl, hlen, hf⟩ := DataW.trod_struct ht h
  match xs, hlen with
  | [y0, y1, y2], _ =>
    have e0 := hf 0 f0 rfl
    have e1 := hf 1 f1 rfl
    have e2 := hf 2 f2 rfl
    rw [s0, o0, List.drop_zero] at e0
    rw [s1, o1] at e1
    rw [s2, o2, List.take_of_length_le (by rw [List.length_drop]; omega)] at e2
    obtain ⟨a, ha⟩ := h0 H enc W n _ _ e0
    obtain ⟨b, hb⟩ := h1 H enc W n _ _ e1
    obtain ⟨c, hc⟩ := h2 H enc W n _ _ e2
    refine ⟨(a, b, c), _, _, (List.take_append_drop d0.sz cs).symm, ha, _, _, ?_, hb, hc⟩
    rw [← List.drop_drop, List.take_append_drop]
/-- An argument of the law: its cells stand for something. -/
theorem open_arg {t : TypeId} {α : Type} {d : Ty α} (ho : Opens P t d) {H : Type} {enc : TypeId × Value → H} {W : World} {v : Value} {x : DataW H} {p : List MemPlace} (h : DataW.Trod enc P W 0 (fun _ => true) true t v x p) :
    (∃ y, d.rep (heapOf W) y v.cells.toList) ∧ ∀ z ∈ p, z.block < W.heap.size := by
  obtain ⟨fuel, hf⟩ := h
  exact ⟨ho H enc W fuel _ _ hf, DataW.trod_lt fuel _ _ _ hf⟩
end
end Go.Proofs.Ytbpajkjolhoflaa.Sym
