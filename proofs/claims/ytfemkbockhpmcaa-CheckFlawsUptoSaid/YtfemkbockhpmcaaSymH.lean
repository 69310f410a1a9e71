/- The symbolic layer, eighth part: a law's arguments, opened. Own work. -/
import Derived.Test.YtfemkbockhpmcaaSymG
import Derived.WalkKit
import Derived.ProofKit
import Derived.OpenShut
import Derived.ShutString
import Derived.ChangeOld
import Derived.Below
import Derived.SizedLaws
import Derived.Carry
set_option linter.unusedSimpArgs false
set_option linter.unusedVariables false
namespace Go.Proofs.Ytfemkbockhpmcaa.Sym
open Go Go.Proofs Go.RowKit Go.ChangeShapes Go.WideShapes
/-! ### 25. A law's arguments, opened -/
def heapOf (W : World) : Heap := fun b => W.heap[b]?
theorem has_heapOf (W : World) : Has W (heapOf W) := fun b o h => h
/-- How great a thing of the kind may be: no row, no text beyond what the weights let in. -/
def noB (α : Type) : α → Prop := fun _ => True
def strB : ByteArray → Prop := fun s => s.size ≤ 140737488355328
def slB {α : Type} (B : α → Prop) : List α → Prop := fun xs => xs.length ≤ 140737488355328 ∧ ∀ x ∈ xs, B x
def prB {α β : Type} (A : α → Prop) (B : β → Prop) : α × β → Prop := fun x => A x.1 ∧ B x.2
def Light {H : Type} (P : Program) (t : TypeId) (d : DataW H) : Prop := ∀ n ∈ d.weights P t, n ≤ reachBytes
/-- Whatever reads as data of type t, and is light, stands for something of kind d. -/
def Opens (P : Program) (t : TypeId) {α : Type} (d : Ty α) (B : α → Prop) : Prop := ∀ (H : Type) (enc : TypeId × Value → H) (W : World) (fuel : Nat) (cs : List Value) (x : DataW H × List MemPlace),
  DataW.trod enc P W 0 (fun _ => true) true fuel t cs = some x → Light P t x.1 → ∃ y, d.rep (heapOf W) y cs ∧ B y
theorem at_of_cells {W : World} {base : Nat} {a : Addr} {n : Nat} {cs : List Value} (h : W.cells? base a n = some cs) (hn : 0 < n) : At (heapOf W) a cs := by
  obtain ⟨_, hl, hc⟩ := World.cells?_some h
  obtain ⟨b, o, s⟩ := a
  have h0 := hc 0 hn
  rw [List.getElem?_eq_getElem (by omega)] at h0
  cases s with
  | some q =>
    exfalso
    unfold World.cell? at h0
    split at h0
    · split at h0
      · cases h0
      · rename_i hs
        apply hs
        unfold Addr.add
        split <;> simp_all
    · cases h0
  | none =>
    rw [add_lit'] at h0
    unfold World.cell? at h0
    split at h0
    · rename_i c T fr hb
      refine ⟨c, T, fr, hb, rfl, fun j v hj => ?_⟩
      have hj' := hc j (by have := (List.getElem?_eq_some_iff.1 hj).1; omega)
      rw [add_lit', hj] at hj'
      unfold World.cell? at hj'
      simp only at hb
      simp only [hb] at hj'
      simpa using hj'
    · cases h0
theorem list_of {α : Type} {p : Nat → α → Prop} : ∀ n, (∀ i, i < n → ∃ y, p i y) → ∃ ys : List α, ys.length = n ∧ ∀ i y, ys[i]? = some y → p i y
  | 0, _ => ⟨[], rfl, fun i y h => by simp at h⟩
  | n + 1, h => by
    obtain ⟨ys, h1, h2⟩ := list_of n (fun i hi => h i (by omega))
    obtain ⟨y, hy⟩ := h n (by omega)
    refine ⟨ys ++ [y], by simp [h1], fun i z hz => ?_⟩
    by_cases hi : i < ys.length
    · rw [List.getElem?_append_left hi] at hz; exact h2 i z hz
    · have hi' : i = n := by
        have := (List.getElem?_eq_some_iff.1 hz).1
        simp at this; omega
      subst hi'
      rw [List.getElem?_append_right (by omega), h1] at hz
      simp at hz; subst hz; exact hy
section
variable {P : Program}
end
end Go.Proofs.Ytfemkbockhpmcaa.Sym
