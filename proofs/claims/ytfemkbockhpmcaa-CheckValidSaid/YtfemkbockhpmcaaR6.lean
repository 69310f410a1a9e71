/- The law CheckValid returns true for every grammar by numbers, and its argument reads as it did. Conditions: none. -/
import Derived.Test.YtfemkbockhpmcaaRows
import Derived.Test.YtfemkbockhpmcaaB26
import Derived.Test.YtfemkbockhpmcaaSymS
set_option linter.unusedVariables false
set_option linter.unusedSimpArgs false
namespace Go.Proofs.Ytfemkbockhpmcaa.checkValid
open Go Go.Proofs Go.ChangeShapes Go.WideShapes Go.ChangeAt Go.RowKit Go.Proofs.Ytfemkbockhpmcaa.Sym
theorem own : ownKnob Try.prog.godebug = none := by kernel_rfl
theorem laidOut : laidOutB Try.prog = true := by kernel_rfl
set_option maxRecDepth 100000 in
theorem lifted (os : Os) (started : os.Started) (H : Type) (enc : TypeId × Value → H) :
    ReturnsInHanded {} Try.checked os 12 .any (Rows.checkValidSpec.pre6 enc Try.prog Try.f12 Rows.checkValidRow.domain false) (Rows.checkValidSpec.post enc Try.prog Try.f12 false true false false) := by
  refine returnsInHanded_of_change_sized (C := Try.checked) own started (by kernel_rfl) Try.func12
    (ChangeSpec.witness6 (enc := enc) (C := Try.checked) false ⟨#[], #[.agg #[.slice none 0 0, .slice none 0 0, .slice none 0 0]], []⟩ 8 (by kernel_rfl) (by kernel_rfl) (by kernel_rfl) (by kernel_rfl)) ?_
  intro W base args ds gs before hval0 hW hcnd hsz0 _
  have hsz : (DataW.weightsEach Try.prog (Try.f12.params.toList ++ Rows.checkValidSpec.plain.varTypes Try.prog) (ds ++ gs)).all (· ≤ reachBytes) = true := hsz0
  have hval : ∀ (j : Nat) t v, Try.f12.params[j]? = some t → args[j]? = some v → Value.okWide Try.prog W .any base t v := hval0
  have hW' := hW
  obtain ⟨p, q, hA0, hV, rfl, hfz, hnd⟩ := hW
  have hA : DataW.TrodAll enc Try.prog W 0 (fun _ => true) true Try.f12.params.toList args.toList ds p := hA0
  rw [Try.params12] at hA hval hsz
  obtain ⟨v0, vs0, d0, ds0, p0, q0, hargs, rfl, rfl, k0, r0⟩ := trodAll_cons hA
  obtain ⟨rfl, rfl, rfl⟩ := trodAll_nil r0
  obtain rfl : args = #[v0] := by cases args; simp_all
  obtain ⟨rfl, rfl⟩ := trodVars_none hV
  obtain ⟨⟨y0, o0, B0⟩, lt0⟩ := open_arg (opens_struct3 Try.underlying41 (opens_slice Try.underlying25 (opens_str Try.underlying9) (by kernel_rfl) (by decide) (by decide +kernel)) (opens_slice Try.underlying25 (opens_str Try.underlying9) (by kernel_rfl) (by decide) (by decide +kernel)) (opens_slice Try.underlying39 (opens_slice Try.underlying46 (opens_slice Try.underlying47 (opens_int Try.underlying3) (by kernel_rfl) (by decide) (by decide +kernel)) (by kernel_rfl) (by decide) (by decide +kernel)) (by kernel_rfl) (by decide) (by decide +kernel)) (by kernel_rfl) (by kernel_rfl) (by kernel_rfl) rfl rfl rfl (by kernel_rfl)) 0 hsz rfl rfl k0
  obtain ⟨cs0, rfl, _⟩ := okWide_struct Try.underlying41 (hval 0 41 v0 rfl rfl)
  obtain ⟨l0, rfl⟩ : ∃ l, cs0 = List.toArray l := ⟨cs0.toList, by simp⟩
  obtain ⟨tk, nm, rs⟩ := y0
  replace o0 : (tPair (tSlice tStr) (tPair (tSlice tStr) (tSlice (tSlice (tSlice (tInt .i64)))))).rep (heapOf W) (tk, nm, rs) l0 := o0
  obtain ⟨_, _, rfl, r_tk, ⟨_, _, rfl, r_nm, r_rs⟩⟩ := o0
  obtain ⟨A_tk, n_tk, c_tk, rfl, h_tk⟩ := Sl.of r_tk
  obtain ⟨A_nm, n_nm, c_nm, rfl, h_nm⟩ := Sl.of r_nm
  obtain ⟨A_rs, n_rs, c_rs, rfl, h_rs⟩ := Sl.of r_rs
  refine (checkValid_ok (has_heapOf W) h_tk h_nm h_rs B0.1.1 B0.2.1.1 (fun ar h al h' => ((B0.2.2.2 ar h).2 al h').1)).mono fun e W' hE => ?_
  obtain ⟨v, G', rfl, _, _, _, hx, ok, rfl, rfl⟩ := hE
  have bel := hx.below
  exact ⟨_, rfl, _, _, _, [], _, [], hW', trodAll_mk1 (shut_bool Try.underlying4 _), (trodAll_cons_mk (Below.trod laidOut (by kernel_rfl) (of_decide_eq_true (by kernel_rfl)) k0 bel lt0) trodAll_mk0), rfl, bel.frame _, fun h => by cases h⟩
theorem over : Rows.checkValidRow.holds Try.pinned (OpenSpec.ofChange Rows.checkValidSpec) :=
  OpenClaim.holds_of_wide 12 Try.f12 rfl rfl rfl rfl rfl rfl rfl ⟨rfl, rfl, rfl, rfl, rfl⟩ rfl rfl rfl rfl rfl (by kernel_rfl) Try.func12 (by kernel_rfl)
    (of_decide_eq_true (by kernel_rfl)) (by unfold Func.isWrapper; first | (rw [if_pos (by decide +kernel)]; kernel_rfl) | (rw [if_neg (by decide +kernel)]; exact ⟨rfl, rfl⟩))
    (fun os started H enc _ => lifted os started H enc)
end Go.Proofs.Ytfemkbockhpmcaa.checkValid
namespace Go.Proofs.Ytfemkbockhpmcaa
/-- The row, under a short name, for the claim. -/
theorem checkValid_holds : Rows.CheckValidSaid := checkValid.over
end Go.Proofs.Ytfemkbockhpmcaa
