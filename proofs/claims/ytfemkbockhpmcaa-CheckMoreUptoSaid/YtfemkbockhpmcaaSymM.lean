/- The symbolic layer, thirteenth part: a list of one's own is handed over to a call and comes back. Own work. -/
import Derived.Test.YtfemkbockhpmcaaSymL
set_option linter.unusedSimpArgs false
set_option linter.unusedVariables false
namespace Go.Proofs.Ytfemkbockhpmcaa.Sym
open Go Go.Proofs Go.RowKit
section
variable {P : Program} {r : Option Nat} {ops : Array Oper} {Q : Exit → Act → World → Prop} {c : Ctx} {G : Heap} {S : St} {tb : Tbl} {K : Act → World → Prop}
theorem WK_dropfz (n : Nat) (k : WK c G { S with fz := S.fz.drop n } K) : WK c G S K := fun ρ a w ⟨hA, hW⟩ =>
  k ρ a w ⟨hA, ⟨hW.has, hW.cells, hW.sep, hW.may, hW.keys, hW.inj, hW.ext, hW.g0, hW.gnew, fun p hp => hW.froz p (List.mem_of_mem_drop hp)⟩⟩
/-- The call's value is a list in memory that it made or in the block that it was handed. -/
def RetT (w : World) (G : Heap) (D : Nat → Prop) {α : Type} (d : Ty α) (T : TypeId) (Φ : List α → Prop) : Ending → World → Prop := fun e w' =>
  ∃ z b arr cap xs G', e = .returned (nilOr z (.slice (some ⟨b, 0, none⟩) xs.length cap)) ∧ Le G G' ∧ Has w' G' ∧ (∀ b o, G' b = some o → G b = some o ∨ w.heap.size ≤ b ∨ D b) ∧ Ext D w w' ∧
    (z = true → xs = []) ∧ (z = false → w'.heap[b]? = some (.cells arr T (0, 0)) ∧ (w.heap.size ≤ b ∨ D b) ∧ G' b = none) ∧ OwnL d G' xs arr cap ∧ Φ xs
theorem WSat.up {ρ : Nat → Nat} {own : List (Nat × OB)} {fz : List (Nat × Nat × OB)} {w : World} {G' : Heap} (hW : WSat c ρ G own fz w) (hle : Le G G') (hh : Has w G') (hg : ∀ b o, G' b = some o → c.G0 b = some o ∨ c.w0.heap.size ≤ b ∨ c.D b)
    (hs : ∀ p ∈ own, p.2.on = true → G' (ρ p.1) = none) : WSat c ρ G' own fz w :=
  ⟨hh, hW.cells, hs, hW.may, hW.keys, hW.inj, hW.ext, hW.g0.trans hle, hg, fun p hp => ⟨(hW.froz p hp).1, hle _ _ (hW.froz p hp).2⟩⟩
end
end Go.Proofs.Ytfemkbockhpmcaa.Sym
