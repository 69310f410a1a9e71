/- The symbolic layer, nineteenth part: a struct of one field, opened. Own work. -/
import Derived.Test.YtfemkbockhpmcaaSymH
set_option linter.unusedSimpArgs false
set_option linter.unusedVariables false
namespace Go.Proofs.Ytfemkbockhpmcaa.Sym
open Go Go.Proofs Go.RowKit Go.ChangeShapes Go.WideShapes
theorem opens_struct1 {P : Program} {t : TypeId} {f0 : Field} {α : Type} {d0 : Ty α} {B0 : α → Prop} (ht : P.underlying t = some (.struct #[f0])) (h0 : Opens P f0.type d0 B0)
    (s0 : P.cellsOf f0.type = d0.sz) (o0 : f0.offset = 0) (hs : P.cellsOf t = d0.sz) : Opens P t d0 B0 := fun H enc W fuel cs x h hw => by
  obtain ⟨xs, n, _, hx, hl, hlen, hf⟩ := DataW.trod_struct ht h
  match xs, hlen with
  | [y0], _ =>
    have e0 := hf 0 f0 rfl
    rw [s0, o0, List.drop_zero, List.take_of_length_le (by omega)] at e0
    rw [hx] at hw
    simp only [Light, DataW.weights, ht, List.map_cons, List.map_nil, DataW.weightsEach, List.mem_append] at hw
    exact h0 H enc W n _ _ e0 (fun m hm => hw m (.inl hm))
end Go.Proofs.Ytfemkbockhpmcaa.Sym
