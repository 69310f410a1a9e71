/- The law CheckFlaws returns true for every argument whose reading is of bulk at most 1048576, and its arguments read as they did. Conditions: that bound, as the given statement of the second form has it. -/
import Derived.Test.YtfemkbockhpmcaaRows
import Derived.Test.YtfemkbockhpmcaaB24
import Derived.Test.YtfemkbockhpmcaaSymU
set_option linter.unusedVariables false
set_option linter.unusedSimpArgs false
namespace Go.Proofs.Ytfemkbockhpmcaa.checkFlaws
open Go Go.Proofs Go.ChangeShapes Go.WideShapes Go.ChangeAt Go.RowKit Go.Proofs.Ytfemkbockhpmcaa.Sym
theorem own : ownKnob Try.prog.godebug = none := by kernel_rfl
theorem laidOut : laidOutB Try.prog = true := by kernel_rfl
set_option maxRecDepth 100000 in
theorem lifted (os : Os) (started : os.Started) (H : Type) (enc : TypeId × Value → H) (F : Stop.Interp) :
    ReturnsInHanded {} Try.checked os 10 .any ((Rows.OpenSpec.upto Rows.checkFlawsSpec).pre6 enc Try.prog Try.f10 Rows.checkFlawsUptoRow.domain false) (((Rows.OpenSpec.upto Rows.checkFlawsSpec).at F).post enc Try.prog Try.f10 false true false false) := by
  refine returnsInHanded_of_cond (C := Try.checked) (s := Rows.OpenSpec.upto Rows.checkFlawsSpec) (k := Rows.uptoSmall) rfl own started (by kernel_rfl) Try.func10
    (OpenSpec.witness (enc := enc) (C := Try.checked) (s := Rows.OpenSpec.upto Rows.checkFlawsSpec) (k := Rows.uptoSmall) rfl false ⟨#[], #[.agg #[.slice none 0 0], .slice none 0 0], []⟩ 8 (by kernel_rfl) (by kernel_rfl) (by kernel_rfl)
      (x := ([.agg [.nil], .nil], [], [])) (by kernel_rfl) rfl (by kernel_rfl)) ?_
  intro W base args ds gs before hval0 hW _ hk _
  have hbulk : Rows.uptoBulkAll (ds ++ gs) ≤ 1048576 := of_decide_eq_true hk
  have hval : ∀ (j : Nat) t v, Try.f10.params[j]? = some t → args[j]? = some v → Value.okWide Try.prog W .any base t v := hval0
  have hW' := hW
  obtain ⟨p, q, hA0, hV, rfl, hfz, hnd⟩ := hW
  have hA : DataW.TrodAll enc Try.prog W 0 (fun _ => true) true Try.f10.params.toList args.toList ds p := hA0
  rw [Try.params10] at hA hval
  obtain ⟨v0, vs0, d0, ds0, p0, q0, hargs, rfl, rfl, k0, r0⟩ := trodAll_cons hA
  obtain ⟨v1, vs1, d1, ds1, p1, q1, rfl, rfl, rfl, k1, r1⟩ := trodAll_cons r0
  obtain ⟨rfl, rfl, rfl⟩ := trodAll_nil r1
  obtain rfl : args = #[v0, v1] := by cases args; simp_all
  obtain ⟨rfl, rfl⟩ := trodVars_none hV
  obtain ⟨⟨g, o0, B0⟩, lt0⟩ := open_argM (opensM_struct1 Try.underlying24 (opensM_slice Try.underlying22 (opensM_struct2 Try.underlying34 (opensM_str Try.underlying9) (opensM_slice Try.underlying32 (opensM_slice Try.underlying25 (opensM_str Try.underlying9) (by kernel_rfl) (by decide)) (by kernel_rfl) (by decide)) (by kernel_rfl) (by kernel_rfl) rfl rfl (by kernel_rfl)) (by kernel_rfl) (by decide)) (by kernel_rfl) rfl (by kernel_rfl)) k0
  obtain ⟨cs0, rfl, _⟩ := okWide_struct Try.underlying24 (hval 0 24 v0 rfl rfl)
  obtain ⟨l0, rfl⟩ : ∃ l, cs0 = List.toArray l := ⟨cs0.toList, by simp⟩
  replace o0 : (tSlice (tPair tStr (tSlice (tSlice tStr)))).rep (heapOf W) (g) l0 := o0
  have r_g := o0
  obtain ⟨A_g, n_g, c_g, rfl, h_g⟩ := Sl.of r_g
  obtain ⟨⟨tk, o1, B1⟩, lt1⟩ := open_argM (opensM_slice Try.underlying25 (opensM_str Try.underlying9) (by kernel_rfl) (by decide)) k1
  obtain ⟨a1, b1, c1, rfl⟩ := okWide_slice Try.underlying25 (hval 1 25 v1 rfl rfl)
  obtain ⟨A_tk, n_tk, c_tk, e1, h_tk⟩ := Sl.of o1
  simp [Value.cells] at e1
  obtain ⟨rfl, rfl, rfl⟩ := e1
  simp only [List.append_nil, Rows.uptoBulkAll, List.cons_append, List.nil_append] at hbulk
  have hB0 : muG g < Rows.uptoBulk d0 := B0
  have hB1 : muT tk < Rows.uptoBulk d1 := B1
  have hbn : bigN g tk ≤ 4000000000000000000 := by (have h1 := bigN_le g tk; omega)
  refine (checkFlaws_ok (has_heapOf W) h_g h_tk hbn).mono fun e W' hE => ?_
  obtain ⟨v, G', rfl, _, _, _, hx, ok, rfl, rfl⟩ := hE
  have bel := hx.below
  exact ⟨_, rfl, _, _, _, [], _, [], hW', trodAll_mk1 (shut_bool Try.underlying4 _), (trodAll_cons_mk (Below.trod laidOut (by kernel_rfl) (of_decide_eq_true (by kernel_rfl)) k0 bel lt0) (trodAll_cons_mk (Below.trod laidOut (by kernel_rfl) (of_decide_eq_true (by kernel_rfl)) k1 bel lt1) trodAll_mk0)), rfl, bel.frame _, fun h => by cases h⟩
theorem over : Rows.checkFlawsUptoRow.holds Try.pinned (Rows.OpenSpec.upto Rows.checkFlawsSpec) :=
  OpenClaim.holds_of_cond 10 Try.f10 rfl rfl rfl rfl rfl rfl rfl ⟨rfl, rfl, rfl, rfl, rfl⟩ rfl rfl rfl rfl rfl (by kernel_rfl) Try.func10 (by kernel_rfl)
    (of_decide_eq_true (by kernel_rfl)) (by unfold Func.isWrapper; first | (rw [if_pos (by decide +kernel)]; kernel_rfl) | (rw [if_neg (by decide +kernel)]; exact ⟨rfl, rfl⟩))
    (fun os started H enc _ F => lifted os started H enc F)
end Go.Proofs.Ytfemkbockhpmcaa.checkFlaws
namespace Go.Proofs.Ytfemkbockhpmcaa
/-- The row, under a short name, for the claim. -/
theorem checkFlaws_holds : Rows.CheckFlawsUptoSaid := checkFlaws.over
end Go.Proofs.Ytfemkbockhpmcaa
