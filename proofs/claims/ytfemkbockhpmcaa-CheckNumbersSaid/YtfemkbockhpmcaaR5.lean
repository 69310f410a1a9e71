/- The law CheckNumbers returns true for every grammar and all tokens, and its arguments read as they did. Conditions: none. -/
import Derived.Test.YtfemkbockhpmcaaRows
import Derived.Test.YtfemkbockhpmcaaB25
import Derived.Test.YtfemkbockhpmcaaSymS
set_option linter.unusedVariables false
set_option linter.unusedSimpArgs false
namespace Go.Proofs.Ytfemkbockhpmcaa.checkNumbers
open Go Go.Proofs Go.ChangeShapes Go.WideShapes Go.ChangeAt Go.RowKit Go.Proofs.Ytfemkbockhpmcaa.Sym
theorem own : ownKnob Try.prog.godebug = none := by kernel_rfl
theorem laidOut : laidOutB Try.prog = true := by kernel_rfl
set_option maxRecDepth 100000 in
theorem lifted (os : Os) (started : os.Started) (H : Type) (enc : TypeId × Value → H) :
    ReturnsInHanded {} Try.checked os 11 .any (Rows.checkNumbersSpec.pre6 enc Try.prog Try.f11 Rows.checkNumbersRow.domain false) (Rows.checkNumbersSpec.post enc Try.prog Try.f11 false true false false) := by
  refine returnsInHanded_of_change_sized (C := Try.checked) own started (by kernel_rfl) Try.func11
    (ChangeSpec.witness6 (enc := enc) (C := Try.checked) false ⟨#[], #[.agg #[.slice none 0 0], .slice none 0 0], []⟩ 8 (by kernel_rfl) (by kernel_rfl) (by kernel_rfl) (by kernel_rfl)) ?_
  intro W base args ds gs before hval0 hW hcnd hsz0 _
  have hsz : (DataW.weightsEach Try.prog (Try.f11.params.toList ++ Rows.checkNumbersSpec.plain.varTypes Try.prog) (ds ++ gs)).all (· ≤ reachBytes) = true := hsz0
  have hval : ∀ (j : Nat) t v, Try.f11.params[j]? = some t → args[j]? = some v → Value.okWide Try.prog W .any base t v := hval0
  have hW' := hW
  obtain ⟨p, q, hA0, hV, rfl, hfz, hnd⟩ := hW
  have hA : DataW.TrodAll enc Try.prog W 0 (fun _ => true) true Try.f11.params.toList args.toList ds p := hA0
  rw [Try.params11] at hA hval hsz
  obtain ⟨v0, vs0, d0, ds0, p0, q0, hargs, rfl, rfl, k0, r0⟩ := trodAll_cons hA
  obtain ⟨v1, vs1, d1, ds1, p1, q1, rfl, rfl, rfl, k1, r1⟩ := trodAll_cons r0
  obtain ⟨rfl, rfl, rfl⟩ := trodAll_nil r1
  obtain rfl : args = #[v0, v1] := by cases args; simp_all
  obtain ⟨rfl, rfl⟩ := trodVars_none hV
  obtain ⟨⟨g, o0, B0⟩, lt0⟩ := open_arg (opens_struct1 Try.underlying24 (opens_slice Try.underlying22 (opens_struct2 Try.underlying34 (opens_str Try.underlying9) (opens_slice Try.underlying32 (opens_slice Try.underlying25 (opens_str Try.underlying9) (by kernel_rfl) (by decide) (by decide +kernel)) (by kernel_rfl) (by decide) (by decide +kernel)) (by kernel_rfl) (by kernel_rfl) rfl rfl (by kernel_rfl)) (by kernel_rfl) (by decide) (by decide +kernel)) (by kernel_rfl) rfl (by kernel_rfl)) 0 hsz rfl rfl k0
  obtain ⟨cs0, rfl, _⟩ := okWide_struct Try.underlying24 (hval 0 24 v0 rfl rfl)
  obtain ⟨l0, rfl⟩ : ∃ l, cs0 = List.toArray l := ⟨cs0.toList, by simp⟩
  replace o0 : (tSlice (tPair tStr (tSlice (tSlice tStr)))).rep (heapOf W) (g) l0 := o0
  have r_g := o0
  obtain ⟨A_g, n_g, c_g, rfl, h_g⟩ := Sl.of r_g
  obtain ⟨⟨y1, o1, B1⟩, lt1⟩ := open_arg (opens_slice Try.underlying25 (opens_str Try.underlying9) (by kernel_rfl) (by decide) (by decide +kernel)) 1 hsz rfl rfl k1
  obtain ⟨a1, b1, c1, rfl⟩ := okWide_slice Try.underlying25 (hval 1 25 v1 rfl rfl)
  obtain ⟨A_tk, n_tk, c_tk, e1, h_tk⟩ := Sl.of o1
  simp [Value.cells] at e1
  obtain ⟨rfl, rfl, rfl⟩ := e1
  refine (checkNumbers_ok (has_heapOf W) h_g h_tk).mono fun e W' hE => ?_
  obtain ⟨v, G', rfl, _, _, _, hx, ok, rfl, rfl⟩ := hE
  have bel := hx.below
  exact ⟨_, rfl, _, _, _, [], _, [], hW', trodAll_mk1 (shut_bool Try.underlying4 _), (trodAll_cons_mk (Below.trod laidOut (by kernel_rfl) (of_decide_eq_true (by kernel_rfl)) k0 bel lt0) (trodAll_cons_mk (Below.trod laidOut (by kernel_rfl) (of_decide_eq_true (by kernel_rfl)) k1 bel lt1) trodAll_mk0)), rfl, bel.frame _, fun h => by cases h⟩
theorem over : Rows.checkNumbersRow.holds Try.pinned (OpenSpec.ofChange Rows.checkNumbersSpec) :=
  OpenClaim.holds_of_wide 11 Try.f11 rfl rfl rfl rfl rfl rfl rfl ⟨rfl, rfl, rfl, rfl, rfl⟩ rfl rfl rfl rfl rfl (by kernel_rfl) Try.func11 (by kernel_rfl)
    (of_decide_eq_true (by kernel_rfl)) (by unfold Func.isWrapper; first | (rw [if_pos (by decide +kernel)]; kernel_rfl) | (rw [if_neg (by decide +kernel)]; exact ⟨rfl, rfl⟩))
    (fun os started H enc _ => lifted os started H enc)
end Go.Proofs.Ytfemkbockhpmcaa.checkNumbers
namespace Go.Proofs.Ytfemkbockhpmcaa
/-- The row, under a short name, for the claim. -/
theorem checkNumbers_holds : Rows.CheckNumbersSaid := checkNumbers.over
end Go.Proofs.Ytfemkbockhpmcaa
