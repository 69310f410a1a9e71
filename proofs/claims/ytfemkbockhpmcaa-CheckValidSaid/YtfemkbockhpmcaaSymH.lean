/- The symbolic layer, eighth part: a law's arguments, opened. Own work. -/
import Derived.Test.YtfemkbockhpmcaaSymG
import Derived.WalkKit
import Derived.ProofKit
import Derived.OpenShut
import Derived.ShutString
import Derived.ChangeOld
import Derived.Below
import Derived.SizedLaws
import Derived.Carry
set_option linter.unusedSimpArgs false
set_option linter.unusedVariables false
namespace Go.Proofs.Ytfemkbockhpmcaa.Sym
open Go Go.Proofs Go.RowKit Go.ChangeShapes Go.WideShapes
/-! ### 25. A law's arguments, opened -/
def heapOf (W : World) : Heap := fun b => W.heap[b]?
theorem has_heapOf (W : World) : Has W (heapOf W) := fun b o h => h
/-- How great a thing of the kind may be: no row, no text beyond what the weights let in. -/
def noB (α : Type) : α → Prop := fun _ => True
def strB : ByteArray → Prop := fun s => s.size ≤ 140737488355328
def slB {α : Type} (B : α → Prop) : List α → Prop := fun xs => xs.length ≤ 140737488355328 ∧ ∀ x ∈ xs, B x
def prB {α β : Type} (A : α → Prop) (B : β → Prop) : α × β → Prop := fun x => A x.1 ∧ B x.2
def Light {H : Type} (P : Program) (t : TypeId) (d : DataW H) : Prop := ∀ n ∈ d.weights P t, n ≤ reachBytes
/-- Whatever reads as data of type t, and is light, stands for something of kind d. -/
def Opens (P : Program) (t : TypeId) {α : Type} (d : Ty α) (B : α → Prop) : Prop := ∀ (H : Type) (enc : TypeId × Value → H) (W : World) (fuel : Nat) (cs : List Value) (x : DataW H × List MemPlace),
  DataW.trod enc P W 0 (fun _ => true) true fuel t cs = some x → Light P t x.1 → ∃ y, d.rep (heapOf W) y cs ∧ B y
theorem at_of_cells {W : World} {base : Nat} {a : Addr} {n : Nat} {cs : List Value} (h : W.cells? base a n = some cs) (hn : 0 < n) : At (heapOf W) a cs := by
  obtain ⟨_, hl, hc⟩ := World.cells?_some h
  obtain ⟨b, o, s⟩ := a
  have h0 := hc 0 hn
  rw [List.getElem?_eq_getElem (by omega)] at h0
  cases s with
  | some q =>
    exfalso
    unfold World.cell? at h0
    split at h0
    · split at h0
      · cases h0
      · rename_i hs
        apply hs
        unfold Addr.add
        split <;> simp_all
    · cases h0
  | none =>
    rw [add_lit'] at h0
    unfold World.cell? at h0
    split at h0
    · rename_i c T fr hb
      refine ⟨c, T, fr, hb, rfl, fun j v hj => ?_⟩
      have hj' := hc j (by have := (List.getElem?_eq_some_iff.1 hj).1; omega)
      rw [add_lit', hj] at hj'
      unfold World.cell? at hj'
      simp only at hb
      simp only [hb] at hj'
      simpa using hj'
    · cases h0
theorem list_of {α : Type} {p : Nat → α → Prop} : ∀ n, (∀ i, i < n → ∃ y, p i y) → ∃ ys : List α, ys.length = n ∧ ∀ i y, ys[i]? = some y → p i y
  | 0, _ => ⟨[], rfl, fun i y h => by simp at h⟩
  | n + 1, h => by
    obtain ⟨ys, h1, h2⟩ := list_of n (fun i hi => h i (by omega))
    obtain ⟨y, hy⟩ := h n (by omega)
    refine ⟨ys ++ [y], by simp [h1], fun i z hz => ?_⟩
    by_cases hi : i < ys.length
    · rw [List.getElem?_append_left hi] at hz; exact h2 i z hz
    · have hi' : i = n := by
        have := (List.getElem?_eq_some_iff.1 hz).1
        simp at this; omega
      subst hi'
      rw [List.getElem?_append_right (by omega), h1] at hz
      simp at hz; subst hz; exact hy
section
variable {P : Program}
theorem opens_int {t : TypeId} (ht : P.underlying t = some (.int .i64)) : Opens P t (tInt .i64) (noB _) := fun H enc W fuel cs x h _ => by
  obtain ⟨n, h1, _, h2⟩ := DataW.trod_int ht h
  subst h1
  simp only [Lit.wf, Bool.and_eq_true, decide_eq_true_eq] at h2
  have h3 : IntKind.i64.min = -9223372036854775808 := rfl
  have h4 : IntKind.i64.max = 9223372036854775807 := rfl
  exact ⟨n, rep_int _ (by omega), trivial⟩
theorem opens_str {t : TypeId} (ht : P.underlying t = some .string) : Opens P t tStr strB := fun H enc W fuel cs x h hw => by
  obtain ⟨s, h1, h3, h2⟩ := DataW.trod_string ht h
  subst h1; subst h3
  refine ⟨s, ⟨rfl, h2⟩, ?_⟩
  have h4 := hw s.data.toList.length (by simp only [DataW.weights, List.mem_singleton])
  have h5 : s.data.toList.length = s.size := by rw [Array.length_toList]; rfl
  have := reachBytes_lt
  unfold strB; omega
theorem weightsAll_mem {H : Type} {e : TypeId} : ∀ {l : List (DataW H)} {d : DataW H}, d ∈ l → ∀ n ∈ d.weights P e, n ∈ DataW.weightsAll P e l
  | d0 :: l, d, hd, n, hn => by
    simp only [DataW.weightsAll, List.mem_append]
    rcases List.mem_cons.1 hd with rfl | hd
    · exact .inl hn
    · exact .inr (weightsAll_mem hd n hn)
theorem opens_slice {t e : TypeId} {α : Type} {d : Ty α} {B : α → Prop} (ht : P.underlying t = some (.slice e)) (hd : Opens P e d B) (hs : P.cellsOf e = d.sz) (h0 : 0 < d.sz) (hb : 0 < P.bytesOf e) : Opens P t (tSlice d) (slB B) := fun H enc W fuel cs x h hw => by
  rcases DataW.trod_slice ht h with ⟨h1, _⟩ | ⟨a, len, cap, elems, rest, n, _, h1, hx, _, hl, hm, hlen, hel, _, _⟩
  · subst h1
    exact ⟨[], (Sl.none0 d _).reps, by simp, fun x hx => by cases hx⟩
  · subst h1
    rw [hx] at hw
    simp only [Light, DataW.weights, ht] at hw
    have each : ∀ i, i < len → ∃ y, (∃ cs', d.rep (heapOf W) y cs' ∧ At (heapOf W) (a.add (i * d.sz)) cs') ∧ B y := fun i hi => by
      have h2 := hel i hi
      rw [List.getElem?_eq_getElem (by omega), Option.bind_eq_some_iff] at h2
      obtain ⟨cs', h3, h4⟩ := h2
      obtain ⟨y, hy, hB⟩ := hd H enc W n cs' _ h4 (fun m hm => hw m (by
        simp only [List.mem_cons, List.mem_append]
        exact .inr (.inl (weightsAll_mem (List.mem_map.2 ⟨_, List.getElem_mem _, rfl⟩) m hm))))
      rw [hs] at h3
      exact ⟨y, ⟨cs', hy, at_of_cells h3 h0⟩, hB⟩
    obtain ⟨ys, h2, h3⟩ := list_of len each
    refine ⟨ys, (Sl.reps (c := cap) (n := len) (A := some a) ⟨h2.symm, hl, hm, fun i y hy => ?_⟩), ?_, fun y hy => ?_⟩
    · obtain ⟨cs', h4, h5⟩ := (h3 i y hy).1
      exact ⟨a, cs', rfl, h4, h5⟩
    · have h4 := hw ((elems.length + rest.length) * P.bytesOf e) (by simp)
      have h5 : len * 1 ≤ (elems.length + rest.length) * P.bytesOf e := Nat.mul_le_mul (by omega) hb
      have := reachBytes_lt
      omega
    · obtain ⟨i, hi⟩ := List.getElem?_of_mem hy
      exact (h3 i y hi).2
theorem opens_struct3 {t : TypeId} {f0 f1 f2 : Field} {α β γ : Type} {d0 : Ty α} {d1 : Ty β} {d2 : Ty γ} {B0 : α → Prop} {B1 : β → Prop} {B2 : γ → Prop} (ht : P.underlying t = some (.struct #[f0, f1, f2])) (h0 : Opens P f0.type d0 B0) (h1 : Opens P f1.type d1 B1) (h2 : Opens P f2.type d2 B2)
    (s0 : P.cellsOf f0.type = d0.sz) (s1 : P.cellsOf f1.type = d1.sz) (s2 : P.cellsOf f2.type = d2.sz) (o0 : f0.offset = 0) (o1 : f1.offset = d0.sz) (o2 : f2.offset = d0.sz + d1.sz) (hs : P.cellsOf t = d0.sz + d1.sz + d2.sz) : Opens P t (tPair d0 (tPair d1 d2)) (prB B0 (prB B1 B2)) := fun H enc W fuel cs x h hw => by
  obtain ⟨xs, n, _, hx, hl, hlen, hf⟩ := DataW.trod_struct ht h
  match xs, hlen with
  | [y0, y1, y2], _ =>
    have e0 := hf 0 f0 rfl
    have e1 := hf 1 f1 rfl
    have e2 := hf 2 f2 rfl
    rw [s0, o0, List.drop_zero] at e0
    rw [s1, o1] at e1
    rw [s2, o2, List.take_of_length_le (by rw [List.length_drop]; omega)] at e2
    rw [hx] at hw
    simp only [Light, DataW.weights, ht, List.map_cons, List.map_nil, DataW.weightsEach, List.mem_append] at hw
    obtain ⟨a, ha, hA⟩ := h0 H enc W n _ _ e0 (fun m hm => hw m (.inl hm))
    obtain ⟨b, hb, hB⟩ := h1 H enc W n _ _ e1 (fun m hm => hw m (.inr (.inl hm)))
    obtain ⟨c, hc, hC⟩ := h2 H enc W n _ _ e2 (fun m hm => hw m (.inr (.inr (.inl hm))))
    refine ⟨(a, b, c), ⟨_, _, (List.take_append_drop d0.sz cs).symm, ha, _, _, ?_, hb, hc⟩, hA, hB, hC⟩
    rw [← List.drop_drop, List.take_append_drop]
/-- An argument of the law: its cells stand for something. -/
theorem open_arg {t : TypeId} {α : Type} {d : Ty α} {B : α → Prop} (ho : Opens P t d B) {H : Type} {enc : TypeId × Value → H} {W : World} {v : Value} {x : DataW H} {p : List MemPlace} {ts : List TypeId} {ds : List (DataW H)} (j : Nat)
    (hsz : (DataW.weightsEach P ts ds).all (· ≤ reachBytes) = true) (ht : ts[j]? = some t) (hd : ds[j]? = some x) (h : DataW.Trod enc P W 0 (fun _ => true) true t v x p) :
    (∃ y, d.rep (heapOf W) y v.cells.toList ∧ B y) ∧ ∀ z ∈ p, z.block < W.heap.size := by
  obtain ⟨fuel, hf⟩ := h
  refine ⟨ho H enc W fuel _ _ hf (fun n hn => ?_), DataW.trod_lt fuel _ _ _ hf⟩
  have := List.all_eq_true.1 hsz n (DataW.weights_mem_each ht hd n hn)
  simpa using this
end
end Go.Proofs.Ytfemkbockhpmcaa.Sym
