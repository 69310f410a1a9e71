/- The law StackSames returns true for every two pairs of stacks, and its arguments read as they did. Conditions: none. -/
import Derived.Test.YtbpajkjolhoflaaRows
import Derived.Test.YtbpajkjolhoflaaT10
import Derived.Test.YtbpajkjolhoflaaSymH
set_option linter.unusedVariables false
set_option linter.unusedSimpArgs false
namespace Go.Proofs.Ytbpajkjolhoflaa.stackSames
open Go Go.Proofs Go.ChangeShapes Go.WideShapes Go.ChangeAt Go.RowKit Go.Proofs.Ytbpajkjolhoflaa.Sym
theorem own : ownKnob Try.prog.godebug = none := by kernel_rfl
theorem laidOut : laidOutB Try.prog = true := by kernel_rfl
set_option maxRecDepth 100000 in
theorem lifted (os : Os) (started : os.Started) (H : Type) (enc : TypeId × Value → H) :
    ReturnsInHanded {} Try.checked os 4 .any (Rows.stackSamesSpec.pre6 enc Try.prog Try.f4 Rows.stackSamesRow.domain false) (Rows.stackSamesSpec.post enc Try.prog Try.f4 false true false false) := by
  refine returnsInHanded_of_change_sized (C := Try.checked) own started (by kernel_rfl) Try.func4
    (ChangeSpec.witness6 (enc := enc) (C := Try.checked) false ⟨#[], #[.agg #[.slice none 0 0, .slice none 0 0], .agg #[.slice none 0 0, .slice none 0 0]], []⟩ 8 (by kernel_rfl) (by kernel_rfl) (by kernel_rfl) (by kernel_rfl)) ?_
  intro W base args ds gs before hval0 hW hcnd hsz0 _
  have hsz : (DataW.weightsEach Try.prog (Try.f4.params.toList ++ Rows.stackSamesSpec.plain.varTypes Try.prog) (ds ++ gs)).all (· ≤ reachBytes) = true := hsz0
  have hval : ∀ (j : Nat) t v, Try.f4.params[j]? = some t → args[j]? = some v → Value.okWide Try.prog W .any base t v := hval0
  have hW' := hW
  obtain ⟨p, q, hA0, hV, rfl, hfz, hnd⟩ := hW
  have hA : DataW.TrodAll enc Try.prog W 0 (fun _ => true) true Try.f4.params.toList args.toList ds p := hA0
  rw [Try.params4] at hA hval hsz
  obtain ⟨v0, vs0, d0, ds0, p0, q0, hargs, rfl, rfl, k0, r0⟩ := trodAll_cons hA
  obtain ⟨v1, vs1, d1, ds1, p1, q1, rfl, rfl, rfl, k1, r1⟩ := trodAll_cons r0
  obtain ⟨rfl, rfl, rfl⟩ := trodAll_nil r1
  obtain rfl : args = #[v0, v1] := by cases args; simp_all
  obtain ⟨rfl, rfl⟩ := trodVars_none hV
  obtain ⟨⟨y0, o0⟩, lt0⟩ := open_arg (opens_struct2 Try.underlying24 (opens_slice Try.underlying22 (opens_int Try.underlying3) (by kernel_rfl) (by decide)) (opens_slice Try.underlying22 (opens_int Try.underlying3) (by kernel_rfl) (by decide)) (by kernel_rfl) (by kernel_rfl) rfl rfl (by kernel_rfl)) k0
  obtain ⟨cs0, rfl, _⟩ := okWide_struct Try.underlying24 (hval 0 24 v0 rfl rfl)
  obtain ⟨l0, rfl⟩ : ∃ l, cs0 = List.toArray l := ⟨cs0.toList, by simp⟩
  obtain ⟨a, b⟩ := y0
  replace o0 : (tPair (tSlice (tInt .i64)) (tSlice (tInt .i64))).rep (heapOf W) (a, b) l0 := o0
  obtain ⟨_, _, rfl, r_a, r_b⟩ := o0
  obtain ⟨A_a, n_a, c_a, rfl, h_a⟩ := Sl.of r_a
  obtain ⟨A_b, n_b, c_b, rfl, h_b⟩ := Sl.of r_b
  obtain ⟨⟨y1, o1⟩, lt1⟩ := open_arg (opens_struct2 Try.underlying24 (opens_slice Try.underlying22 (opens_int Try.underlying3) (by kernel_rfl) (by decide)) (opens_slice Try.underlying22 (opens_int Try.underlying3) (by kernel_rfl) (by decide)) (by kernel_rfl) (by kernel_rfl) rfl rfl (by kernel_rfl)) k1
  obtain ⟨cs1, rfl, _⟩ := okWide_struct Try.underlying24 (hval 1 24 v1 rfl rfl)
  obtain ⟨l1, rfl⟩ : ∃ l, cs1 = List.toArray l := ⟨cs1.toList, by simp⟩
  obtain ⟨c, d⟩ := y1
  replace o1 : (tPair (tSlice (tInt .i64)) (tSlice (tInt .i64))).rep (heapOf W) (c, d) l1 := o1
  obtain ⟨_, _, rfl, r_c, r_d⟩ := o1
  obtain ⟨A_c, n_c, c_c, rfl, h_c⟩ := Sl.of r_c
  obtain ⟨A_d, n_d, c_d, rfl, h_d⟩ := Sl.of r_d
  refine (stackSames_ok (has_heapOf W) h_a h_b h_c h_d).mono fun e W' hE => ?_
  obtain ⟨v, G', rfl, _, _, _, hx, ok, rfl, rfl⟩ := hE
  have bel := hx.below
  exact ⟨_, rfl, _, _, _, [], _, [], hW', trodAll_mk1 (shut_bool Try.underlying4 _), (trodAll_cons_mk (Below.trod laidOut (by kernel_rfl) (of_decide_eq_true (by kernel_rfl)) k0 bel lt0) (trodAll_cons_mk (Below.trod laidOut (by kernel_rfl) (of_decide_eq_true (by kernel_rfl)) k1 bel lt1) trodAll_mk0)), rfl, bel.frame _, fun h => by cases h⟩
theorem over : Rows.stackSamesRow.holds Try.pinned (OpenSpec.ofChange Rows.stackSamesSpec) :=
  OpenClaim.holds_of_wide 4 Try.f4 rfl rfl rfl rfl rfl rfl rfl ⟨rfl, rfl, rfl, rfl, rfl⟩ rfl rfl rfl rfl rfl (by kernel_rfl) Try.func4 (by kernel_rfl)
    (of_decide_eq_true (by kernel_rfl)) (by unfold Func.isWrapper; first | (rw [if_pos (by decide +kernel)]; kernel_rfl) | (rw [if_neg (by decide +kernel)]; exact ⟨rfl, rfl⟩))
    (fun os started H enc _ => lifted os started H enc)
end Go.Proofs.Ytbpajkjolhoflaa.stackSames
namespace Go.Proofs.Ytbpajkjolhoflaa
/-- The row, under a short name, for the claim. -/
theorem stackSames_holds : Rows.StackSamesSaid := stackSames.over
end Go.Proofs.Ytbpajkjolhoflaa
