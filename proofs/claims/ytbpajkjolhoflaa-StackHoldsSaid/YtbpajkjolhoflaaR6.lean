/- The law StackHolds returns true for every two grammars, every proof's step and every list of tokens, and its arguments read as they did. Conditions: none. -/
import Derived.Test.YtbpajkjolhoflaaRows
import Derived.Test.YtbpajkjolhoflaaT34
import Derived.Test.YtbpajkjolhoflaaSymH
set_option linter.unusedVariables false
set_option linter.unusedSimpArgs false
namespace Go.Proofs.Ytbpajkjolhoflaa.stackHolds
open Go Go.Proofs Go.ChangeShapes Go.WideShapes Go.ChangeAt Go.RowKit Go.Proofs.Ytbpajkjolhoflaa.Sym
theorem own : ownKnob Try.prog.godebug = none := by kernel_rfl
theorem laidOut : laidOutB Try.prog = true := by kernel_rfl
set_option maxRecDepth 100000 in
theorem lifted (os : Os) (started : os.Started) (H : Type) (enc : TypeId × Value → H) :
    ReturnsInHanded {} Try.checked os 6 .any (Rows.stackHoldsSpec.pre6 enc Try.prog Try.f6 Rows.stackHoldsRow.domain false) (Rows.stackHoldsSpec.post enc Try.prog Try.f6 false true false false) := by
  refine returnsInHanded_of_change_sized (C := Try.checked) own started (by kernel_rfl) Try.func6
    (ChangeSpec.witness6 (enc := enc) (C := Try.checked) false ⟨#[], #[.agg #[.slice none 0 0, .slice none 0 0, .slice none 0 0], .agg #[.slice none 0 0, .slice none 0 0, .slice none 0 0], .agg #[.slice none 0 0, .slice none 0 0, .int .i64 0, .int .i64 0], .slice none 0 0], []⟩ 8 (by kernel_rfl) (by kernel_rfl) (by kernel_rfl) (by kernel_rfl)) ?_
  intro W base args ds gs before hval0 hW hcnd hsz0 _
  have hsz : (DataW.weightsEach Try.prog (Try.f6.params.toList ++ Rows.stackHoldsSpec.plain.varTypes Try.prog) (ds ++ gs)).all (· ≤ reachBytes) = true := hsz0
  have hval : ∀ (j : Nat) t v, Try.f6.params[j]? = some t → args[j]? = some v → Value.okWide Try.prog W .any base t v := hval0
  have hW' := hW
  obtain ⟨p, q, hA0, hV, rfl, hfz, hnd⟩ := hW
  have hA : DataW.TrodAll enc Try.prog W 0 (fun _ => true) true Try.f6.params.toList args.toList ds p := hA0
  rw [Try.params6] at hA hval hsz
  obtain ⟨v0, vs0, d0, ds0, p0, q0, hargs, rfl, rfl, k0, r0⟩ := trodAll_cons hA
  obtain ⟨v1, vs1, d1, ds1, p1, q1, rfl, rfl, rfl, k1, r1⟩ := trodAll_cons r0
  obtain ⟨v2, vs2, d2, ds2, p2, q2, rfl, rfl, rfl, k2, r2⟩ := trodAll_cons r1
  obtain ⟨v3, vs3, d3, ds3, p3, q3, rfl, rfl, rfl, k3, r3⟩ := trodAll_cons r2
  obtain ⟨rfl, rfl, rfl⟩ := trodAll_nil r3
  obtain rfl : args = #[v0, v1, v2, v3] := by cases args; simp_all
  obtain ⟨rfl, rfl⟩ := trodVars_none hV
  obtain ⟨⟨y0, o0, B0⟩, lt0⟩ := open_arg (opens_struct3 Try.underlying35 (opens_slice Try.underlying32 (opens_str Try.underlying9) (by kernel_rfl) (by decide) (by decide +kernel)) (opens_slice Try.underlying32 (opens_str Try.underlying9) (by kernel_rfl) (by decide) (by decide +kernel)) (opens_slice Try.underlying33 (opens_slice Try.underlying63 (opens_slice Try.underlying22 (opens_int Try.underlying3) (by kernel_rfl) (by decide) (by decide +kernel)) (by kernel_rfl) (by decide) (by decide +kernel)) (by kernel_rfl) (by decide) (by decide +kernel)) (by kernel_rfl) (by kernel_rfl) (by kernel_rfl) rfl rfl rfl (by kernel_rfl)) 0 hsz rfl rfl k0
  obtain ⟨cs0, rfl, _⟩ := okWide_struct Try.underlying35 (hval 0 35 v0 rfl rfl)
  obtain ⟨l0, rfl⟩ : ∃ l, cs0 = List.toArray l := ⟨cs0.toList, by simp⟩
  obtain ⟨tk, nm, rs⟩ := y0
  replace o0 : (tPair (tSlice tStr) (tPair (tSlice tStr) (tSlice (tSlice (tSlice (tInt .i64)))))).rep (heapOf W) (tk, nm, rs) l0 := o0
  obtain ⟨_, _, rfl, r_tk, ⟨_, _, rfl, r_nm, r_rs⟩⟩ := o0
  obtain ⟨A_tk, n_tk, c_tk, rfl, h_tk⟩ := Sl.of r_tk
  obtain ⟨A_nm, n_nm, c_nm, rfl, h_nm⟩ := Sl.of r_nm
  obtain ⟨A_rs, n_rs, c_rs, rfl, h_rs⟩ := Sl.of r_rs
  obtain ⟨⟨y1, o1, B1⟩, lt1⟩ := open_arg (opens_struct3 Try.underlying35 (opens_slice Try.underlying32 (opens_str Try.underlying9) (by kernel_rfl) (by decide) (by decide +kernel)) (opens_slice Try.underlying32 (opens_str Try.underlying9) (by kernel_rfl) (by decide) (by decide +kernel)) (opens_slice Try.underlying33 (opens_slice Try.underlying63 (opens_slice Try.underlying22 (opens_int Try.underlying3) (by kernel_rfl) (by decide) (by decide +kernel)) (by kernel_rfl) (by decide) (by decide +kernel)) (by kernel_rfl) (by decide) (by decide +kernel)) (by kernel_rfl) (by kernel_rfl) (by kernel_rfl) rfl rfl rfl (by kernel_rfl)) 1 hsz rfl rfl k1
  obtain ⟨cs1, rfl, _⟩ := okWide_struct Try.underlying35 (hval 1 35 v1 rfl rfl)
  obtain ⟨l1, rfl⟩ : ∃ l, cs1 = List.toArray l := ⟨cs1.toList, by simp⟩
  obtain ⟨tk2, nm2, rs2⟩ := y1
  replace o1 : (tPair (tSlice tStr) (tPair (tSlice tStr) (tSlice (tSlice (tSlice (tInt .i64)))))).rep (heapOf W) (tk2, nm2, rs2) l1 := o1
  obtain ⟨_, _, rfl, r_tk2, ⟨_, _, rfl, r_nm2, r_rs2⟩⟩ := o1
  obtain ⟨A_tk2, n_tk2, c_tk2, rfl, h_tk2⟩ := Sl.of r_tk2
  obtain ⟨A_nm2, n_nm2, c_nm2, rfl, h_nm2⟩ := Sl.of r_nm2
  obtain ⟨A_rs2, n_rs2, c_rs2, rfl, h_rs2⟩ := Sl.of r_rs2
  obtain ⟨⟨y2, o2, B2⟩, lt2⟩ := open_arg (opens_struct3 Try.underlying37 (opens_struct2 Try.underlying24 (opens_slice Try.underlying22 (opens_int Try.underlying3) (by kernel_rfl) (by decide) (by decide +kernel)) (opens_slice Try.underlying22 (opens_int Try.underlying3) (by kernel_rfl) (by decide) (by decide +kernel)) (by kernel_rfl) (by kernel_rfl) rfl rfl (by kernel_rfl)) (opens_int Try.underlying3) (opens_int Try.underlying3) (by kernel_rfl) (by kernel_rfl) (by kernel_rfl) rfl rfl rfl (by kernel_rfl)) 2 hsz rfl rfl k2
  obtain ⟨cs2, rfl, _⟩ := okWide_struct Try.underlying37 (hval 2 37 v2 rfl rfl)
  obtain ⟨l2, rfl⟩ : ∃ l, cs2 = List.toArray l := ⟨cs2.toList, by simp⟩
  obtain ⟨⟨a, b⟩, kd, pk⟩ := y2
  replace o2 : (tPair (tPair (tSlice (tInt .i64)) (tSlice (tInt .i64))) (tPair (tInt .i64) (tInt .i64))).rep (heapOf W) ((a, b), kd, pk) l2 := o2
  obtain ⟨_, _, rfl, ⟨_, _, rfl, r_a, r_b⟩, ⟨_, _, rfl, ⟨rfl, h_kd'⟩, ⟨rfl, h_pk'⟩⟩⟩ := o2
  obtain ⟨A_a, n_a, c_a, rfl, h_a⟩ := Sl.of r_a
  obtain ⟨A_b, n_b, c_b, rfl, h_b⟩ := Sl.of r_b
  have h_kd := bd_of h_kd'
  have h_pk := bd_of h_pk'
  obtain ⟨⟨y3, o3, B3⟩, lt3⟩ := open_arg (opens_slice Try.underlying22 (opens_int Try.underlying3) (by kernel_rfl) (by decide) (by decide +kernel)) 3 hsz rfl rfl k3
  obtain ⟨a3, b3, c3, rfl⟩ := okWide_slice Try.underlying22 (hval 3 22 v3 rfl rfl)
  obtain ⟨A_to, n_to, c_to, e3, h_to⟩ := Sl.of o3
  simp [Value.cells] at e3
  obtain ⟨rfl, rfl, rfl⟩ := e3
  refine (stackHolds_ok (has_heapOf W) h_tk h_nm h_rs h_tk2 h_nm2 h_rs2 h_a h_b h_kd h_pk h_to B0.1.1 B0.2.1.1 (fun ar h al h' => ((B0.2.2.2 ar h).2 al h').1) B1.1.1 B1.2.1.1 (fun ar h al h' => ((B1.2.2.2 ar h).2 al h').1)).mono fun e W' hE => ?_
  obtain ⟨v, G', rfl, _, _, _, hx, ok, rfl, rfl⟩ := hE
  have bel := hx.below
  exact ⟨_, rfl, _, _, _, [], _, [], hW', trodAll_mk1 (shut_bool Try.underlying4 _), (trodAll_cons_mk (Below.trod laidOut (by kernel_rfl) (of_decide_eq_true (by kernel_rfl)) k0 bel lt0) (trodAll_cons_mk (Below.trod laidOut (by kernel_rfl) (of_decide_eq_true (by kernel_rfl)) k1 bel lt1) (trodAll_cons_mk (Below.trod laidOut (by kernel_rfl) (of_decide_eq_true (by kernel_rfl)) k2 bel lt2) (trodAll_cons_mk (Below.trod laidOut (by kernel_rfl) (of_decide_eq_true (by kernel_rfl)) k3 bel lt3) trodAll_mk0)))), rfl, bel.frame _, fun h => by cases h⟩
theorem over : Rows.stackHoldsRow.holds Try.pinned (OpenSpec.ofChange Rows.stackHoldsSpec) :=
  OpenClaim.holds_of_wide 6 Try.f6 rfl rfl rfl rfl rfl rfl rfl ⟨rfl, rfl, rfl, rfl, rfl⟩ rfl rfl rfl rfl rfl (by kernel_rfl) Try.func6 (by kernel_rfl)
    (of_decide_eq_true (by kernel_rfl)) (by unfold Func.isWrapper; first | (rw [if_pos (by decide +kernel)]; kernel_rfl) | (rw [if_neg (by decide +kernel)]; exact ⟨rfl, rfl⟩))
    (fun os started H enc _ => lifted os started H enc)
end Go.Proofs.Ytbpajkjolhoflaa.stackHolds
namespace Go.Proofs.Ytbpajkjolhoflaa
/-- The row, under a short name, for the claim. -/
theorem stackHolds_holds : Rows.StackHoldsSaid := stackHolds.over
end Go.Proofs.Ytbpajkjolhoflaa
