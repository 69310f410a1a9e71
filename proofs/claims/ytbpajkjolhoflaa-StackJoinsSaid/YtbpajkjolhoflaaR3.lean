/- The law StackJoins returns true for every pair of stacks, and its argument reads as it did. Conditions: none. -/
import Derived.Test.YtbpajkjolhoflaaRows
import Derived.Test.YtbpajkjolhoflaaT11
import Derived.Test.YtbpajkjolhoflaaSymH
set_option linter.unusedVariables false
set_option linter.unusedSimpArgs false
namespace Go.Proofs.Ytbpajkjolhoflaa.stackJoins
open Go Go.Proofs Go.ChangeShapes Go.WideShapes Go.ChangeAt Go.RowKit Go.Proofs.Ytbpajkjolhoflaa.Sym
theorem own : ownKnob Try.prog.godebug = none := by kernel_rfl
theorem laidOut : laidOutB Try.prog = true := by kernel_rfl
set_option maxRecDepth 100000 in
theorem lifted (os : Os) (started : os.Started) (H : Type) (enc : TypeId × Value → H) :
    ReturnsInHanded {} Try.checked os 3 .any (Rows.stackJoinsSpec.pre6 enc Try.prog Try.f3 Rows.stackJoinsRow.domain false) (Rows.stackJoinsSpec.post enc Try.prog Try.f3 false true false false) := by
  refine returnsInHanded_of_change_sized (C := Try.checked) own started (by kernel_rfl) Try.func3
    (ChangeSpec.witness6 (enc := enc) (C := Try.checked) false ⟨#[], #[.agg #[.slice none 0 0, .slice none 0 0]], []⟩ 8 (by kernel_rfl) (by kernel_rfl) (by kernel_rfl) (by kernel_rfl)) ?_
  intro W base args ds gs before hval0 hW hcnd hsz0 _
  have hsz : (DataW.weightsEach Try.prog (Try.f3.params.toList ++ Rows.stackJoinsSpec.plain.varTypes Try.prog) (ds ++ gs)).all (· ≤ reachBytes) = true := hsz0
  have hval : ∀ (j : Nat) t v, Try.f3.params[j]? = some t → args[j]? = some v → Value.okWide Try.prog W .any base t v := hval0
  have hW' := hW
  obtain ⟨p, q, hA0, hV, rfl, hfz, hnd⟩ := hW
  have hA : DataW.TrodAll enc Try.prog W 0 (fun _ => true) true Try.f3.params.toList args.toList ds p := hA0
  rw [Try.params3] at hA hval hsz
  obtain ⟨v0, vs0, d0, ds0, p0, q0, hargs, rfl, rfl, k0, r0⟩ := trodAll_cons hA
  obtain ⟨rfl, rfl, rfl⟩ := trodAll_nil r0
  obtain rfl : args = #[v0] := by cases args; simp_all
  obtain ⟨rfl, rfl⟩ := trodVars_none hV
  obtain ⟨⟨y0, o0⟩, lt0⟩ := open_arg (opens_struct2 Try.underlying24 (opens_slice Try.underlying22 (opens_int Try.underlying3) (by kernel_rfl) (by decide)) (opens_slice Try.underlying22 (opens_int Try.underlying3) (by kernel_rfl) (by decide)) (by kernel_rfl) (by kernel_rfl) rfl rfl (by kernel_rfl)) k0
  obtain ⟨cs0, rfl, _⟩ := okWide_struct Try.underlying24 (hval 0 24 v0 rfl rfl)
  obtain ⟨l0, rfl⟩ : ∃ l, cs0 = List.toArray l := ⟨cs0.toList, by simp⟩
  obtain ⟨a, b⟩ := y0
  replace o0 : (tPair (tSlice (tInt .i64)) (tSlice (tInt .i64))).rep (heapOf W) (a, b) l0 := o0
  obtain ⟨_, _, rfl, r_a, r_b⟩ := o0
  obtain ⟨A_a, n_a, c_a, rfl, h_a⟩ := Sl.of r_a
  obtain ⟨A_b, n_b, c_b, rfl, h_b⟩ := Sl.of r_b
  refine (stackJoins_ok (has_heapOf W) h_a h_b).mono fun e W' hE => ?_
  obtain ⟨v, G', rfl, _, _, _, hx, ok, rfl, rfl⟩ := hE
  have bel := hx.below
  exact ⟨_, rfl, _, _, _, [], _, [], hW', trodAll_mk1 (shut_bool Try.underlying4 _), (trodAll_cons_mk (Below.trod laidOut (by kernel_rfl) (of_decide_eq_true (by kernel_rfl)) k0 bel lt0) trodAll_mk0), rfl, bel.frame _, fun h => by cases h⟩
theorem over : Rows.stackJoinsRow.holds Try.pinned (OpenSpec.ofChange Rows.stackJoinsSpec) :=
  OpenClaim.holds_of_wide 3 Try.f3 rfl rfl rfl rfl rfl rfl rfl ⟨rfl, rfl, rfl, rfl, rfl⟩ rfl rfl rfl rfl rfl (by kernel_rfl) Try.func3 (by kernel_rfl)
    (of_decide_eq_true (by kernel_rfl)) (by unfold Func.isWrapper; first | (rw [if_pos (by decide +kernel)]; kernel_rfl) | (rw [if_neg (by decide +kernel)]; exact ⟨rfl, rfl⟩))
    (fun os started H enc _ => lifted os started H enc)
end Go.Proofs.Ytbpajkjolhoflaa.stackJoins
namespace Go.Proofs.Ytbpajkjolhoflaa
/-- The row, under a short name, for the claim. -/
theorem stackJoins_holds : Rows.StackJoinsSaid := stackJoins.over
end Go.Proofs.Ytbpajkjolhoflaa
