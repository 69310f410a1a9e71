/- The symbolic layer, tenth part: calls that only look at lists of the walk's own. Own work. -/
import Derived.Test.YtfemkbockhpmcaaSymG
set_option linter.unusedSimpArgs false
set_option linter.unusedVariables false
namespace Go.Proofs.Ytfemkbockhpmcaa.Sym
open Go Go.Proofs Go.RowKit
section
variable {P : Program} {r : Option Nat} {ops : Array Oper} {Q : Exit → Act → World → Prop} {c : Ctx} {G : Heap} {S : St} {tb : Tbl} {K : Act → World → Prop}
theorem has_add {w : World} {b : Nat} {o : Obj} (h : Has w G) (hb : w.heap[b]? = some o) : Has w (G.add b o) := fun k x hk => by
  unfold Heap.add at hk
  split at hk
  · rename_i e; subst e; injection hk with hk; subst hk; exact hb
  · exact h k x hk
/-- A call whose value says nothing of the memory; a list of one's own is lent to it. -/
theorem WOp_callB {o : Oper} (f : FuncId) (xs : List SV) (h : clC c.N ops.toList S o = some (f, xs)) (hg : Goes P f) {Φ : Value → Prop} (hh : Nat) {z : Bool} {e : TypeId} {arr : Array Value} (ho : get S.own hh = some (.lst z e arr))
    (hc : ∀ ρ w b G', WSat c ρ G S.own S.fz w → ρ hh = b → Le G G' → Has w G' → (z = false → G' b = some (.cells arr e (0, 0))) → Calls P f (SV.denL ρ xs).toArray w (Ret w G' fun v _ => Φ v))
    (k : ∀ v, Φ v → WK c G (putU S o.dst (toSV v)) K) : WOp P r ops Q c G S o K := by
  intro ρ a w hs
  obtain ⟨hw, hd, hrun⟩ := run_clC (P := P) (r := r) h hg hs.1 w
  show if _ then _ else _
  rw [if_pos (wantS_ok hs.1 hw)]
  refine ⟨fun f _ => trivial, ?_⟩
  show Oper.uponIn (WF r) 0 P o a K Q (Sem.run P (Oper.semAt r a.eval o) w)
  rw [hrun]
  have hm := get_mem ho
  obtain ⟨G1, hle, hH, hb⟩ : ∃ G1, Le G G1 ∧ Has w G1 ∧ (z = false → G1 (ρ hh) = some (.cells arr e (0, 0))) := by
    cases z with
    | true => exact ⟨G, Le.refl G, hs.2.has, fun h => by cases h⟩
    | false =>
      have h1 := hs.2.cells _ hm rfl
      have h2 := hs.2.sep _ hm rfl
      exact ⟨G.add (ρ hh) (.cells arr e (0, 0)), Heap.add_le h2, has_add hs.2.has h1, fun _ => Heap.add_same _ _ _⟩
  refine ⟨fun hd => by simp [WF, Fence.wide] at hd, CallsIn.mono (callsIn_WF (hc ρ w _ G1 hs.2 rfl hle hH hb)) ?_⟩
  rintro e' w' ⟨v, G', rfl, h1, h2, h3, h4, h5⟩
  obtain ⟨k1, k2, k3⟩ := putU_ok (x := toSV v) hs.1 hd
  rw [toSV_den] at k1
  refine k v h5 ρ _ _ ⟨k1, ?_⟩
  rw [k2, k3]
  exact hs.2.called (Le.refl G) (fun b o hb => h2 b o (h1 b o (hle b o hb))) (fun b o hb => .inl hb) h4
end
end Go.Proofs.Ytfemkbockhpmcaa.Sym
