/- The symbolic layer, fifteenth part: append to a list in a block that is known by its number. Own work. -/
import Derived.Test.YtfemkbockhpmcaaSymN
set_option linter.unusedSimpArgs false
set_option linter.unusedVariables false
namespace Go.Proofs.Ytfemkbockhpmcaa.Sym
open Go Go.Proofs Go.RowKit
def Heap.without (G : Heap) (b : Nat) : Heap := fun k => if k = b then none else G k
theorem Heap.without_le (G : Heap) (b : Nat) : Le (G.without b) G := fun k o h => by unfold Heap.without at h; split at h; cases h; exact h
theorem Heap.without_ne {G : Heap} {b k : Nat} (h : k ≠ b) : G.without b k = G k := by unfold Heap.without; rw [if_neg h]
theorem Le.without {A G : Heap} (h : Le A G) {b : Nat} (hb : A b = none) : Le A (G.without b) := fun k o hk => by
  unfold Heap.without
  by_cases e : k = b
  · subst e; rw [hb] at hk; cases hk
  · rw [if_neg e]; exact h k o hk
theorem Le.add' {A G : Heap} (h : Le A G) {b : Nat} (hb : A b = none) (o : Obj) : Le A (G.add b o) := fun k x hk => by
  unfold Heap.add
  by_cases e : k = b
  · subst e; rw [hb] at hk; cases hk
  · rw [if_neg e]; exact h k x hk
theorem Heap.add_ne {G : Heap} {b k : Nat} {o : Obj} (h : k ≠ b) : G.add b o k = G k := by unfold Heap.add; rw [if_neg h]
section
variable {P : Program} {r : Option Nat} {ops : Array Oper} {Q : Exit → Act → World → Prop} {c : Ctx} {G : Heap} {S : St} {tb : Tbl} {K : Act → World → Prop}
def apGC (tb : Tbl) (N : Nat) (ops : List Oper) (S : St) (o : Oper) : Option (Value × Option Addr × Nat × Nat × Nat × Nat) :=
  match wantS ops S.env o, dstOK N o.dst with
  | some true, true => match o.op with
    | .call cl => match cl.callee, cl.args.toList, cl.argTypes.toList with
      | .builtin .append, [s, x], [t, u] => bif Nat.beq t u then match get tb t with
        | some T => match T.desc with
          | .slice e => match get tb e with
            | some E => match evalO S.env s, evalO S.env x with
              | some (.v sv), some (.v (.slice A m _)) => bif Nat.beq E.zero.cells.size E.size then some (sv, A, m, e, E.size, E.bytes) else none
              | _, _ => none
            | none => none
          | _ => none
        | none => none
        else none
      | _, _, _ => none
    | _ => none
  | _, _ => none
/-- The list's block is known by its number (or the list is nil); the block may be another one then. -/
theorem WOp_appendG (htb : TblOK P tb) {o : Oper} (sv : Value) (A : Option Addr) (m e sz bytes : Nat) (hC : apGC tb c.N ops.toList S o = some (sv, A, m, e, sz, bytes))
    (z : Bool) (bl cap : Nat) {arr : Array Value} (hg : z = false → G bl = some (.cells arr e (0, 0)) ∧ c.G0 bl = none ∧ ∀ p ∈ S.fz, p.2.1 ≠ bl) {α : Type} (d : Ty α) {xs ys : List α} (hsv : sv = nilOr z (.slice (some ⟨bl, 0, none⟩) xs.length cap)) (ho : OwnL d G xs arr cap) (hz : z = true → xs = []) (hR : Row d G A ys) (hm : m = ys.length) (hne : 0 < ys.length)
    (hsz : d.sz = sz) (hs0 : d.sz ≠ 0) (hbd : (xs.length + ys.length) * bytes ≤ 140737488355328) (h63 : xs.length + ys.length ≤ big)
    (k : ∀ bl' arr' cap', (z = false ∧ bl' = bl) ∨ G bl' = none → OwnL d G (xs ++ ys) arr' cap' → WK c ((bif z then G else G.without bl).add bl' (.cells arr' e (0, 0))) (putU S o.dst (.v (.slice (some ⟨bl', 0, none⟩) (xs ++ ys).length cap'))) K) : WOp P r ops Q c G S o K := by
  intro ρ a w hs
  unfold apGC at hC
  split at hC
  · rename_i hw hd
    split at hC
    · rename_i cl hop
      split at hC
      · rename_i s x t u hcal hargs htys
        cases htu : Nat.beq t u with
        | false => rw [htu] at hC; cases hC
        | true =>
          rw [htu] at hC
          simp only [cond_true] at hC
          have htu' := Nat.eq_of_beq_eq_true htu
          subst htu'
          split at hC
          · rename_i T hT
            split at hC
            · rename_i e' hdesc
              split at hC
              · rename_i E hE
                split at hC
                · rename_i sv0 A0 m0 c20 hes hex
                  cases hzz : Nat.beq E.zero.cells.size E.size with
                  | false => rw [hzz] at hC; cases hC
                  | true =>
                    rw [hzz] at hC
                    simp only [cond_true, Option.some.injEq, Prod.mk.injEq] at hC
                    obtain ⟨rfl, rfl, rfl, rfl, rfl, rfl⟩ := hC
                    obtain ⟨z', g', arr', cap', w', hr, h1, h2, h3, h4⟩ := run_append_L (P := P) htb hT hdesc hE (Nat.eq_of_beq_eq_true hzz) d hsz hs0 (ty := o.type) (z := z) (g := bl) (c2 := c20) hs.2.has
                      (fun hz' => hs.2.has _ _ (hg hz').1) ho hz hR hm hbd h63
                    have hz'f : z' = false := by
                      cases z' with
                      | false => rfl
                      | true => (have h9 := congrArg List.length (h2 rfl); rw [List.length_append, List.length_nil] at h9; omega)
                    subst hz'f
                    obtain ⟨h5, h6⟩ := h4 rfl
                    show if _ then _ else _
                    rw [if_pos (wantS_ok hs.1 hw)]
                    refine ⟨fun f _ => trivial, ?_⟩
                    show Oper.uponIn (WF r) 0 P o a K Q (Sem.run P (Oper.semAt r a.eval o) w)
                    rw [Oper.semAt_eq r _ o (by rw [hop]; intro cl e; cases e)]
                    obtain ⟨dst, op, type, pos, after, guard⟩ := o
                    simp only at hop; subst hop
                    obtain ⟨callee, args, at_⟩ := cl
                    simp only at hcal hargs htys
                    have ha' : args = #[s, x] := by rw [← Array.toArray_toList (xs := args), hargs]
                    have ht' : at_ = #[t, t] := by rw [← Array.toArray_toList (xs := at_), htys]
                    subst hcal; subst ha'; subst ht'
                    have e1 : a.eval s = nilOr z (.slice (some ⟨bl, 0, none⟩) xs.length cap) := by rw [evalO_ok hs.1 hes]; simp only [SV.den]; exact hsv
                    have e2 : a.eval x = .slice A0 m0 c20 := by rw [evalO_ok hs.1 hex]; simp only [SV.den]
                    simp only [execOp, resolve, invoke, builtin, Sem.run_bind, Sem.run_pure, Result.andThen_ok, List.map_toArray, List.map_cons, List.map_nil, e1, e2]
                    simp only at hr
                    rw [hr]
                    simp only [Result.andThen_ok]
                    have hW := hs.2
                    have hlt : ∀ p ∈ S.own, p.2.on = true → ρ p.1 < w.heap.size := fun p hp hon => (Array.getElem?_eq_some_iff.1 (hW.cells p hp hon)).1
                    have hGlt : ∀ b o, G b = some o → b < w.heap.size := fun b o hb => (Array.getElem?_eq_some_iff.1 (hW.has b o hb)).1
                    have hcase : (z = false ∧ g' = bl) ∨ G g' = none := h6.imp id (fun h7 => by
                      cases e : G g' with
                      | none => rfl
                      | some o' => have := hGlt _ _ e; omega)
                    have hG0 : c.G0 g' = none := by
                      rcases hcase with h7 | h7
                      · rw [h7.2]; exact (hg h7.1).2.1
                      · cases e : c.G0 g' with
                        | none => rfl
                        | some o' => have := hW.g0 _ _ e; rw [h7] at this; cases this
                    have hown : ∀ p ∈ S.own, p.2.on = true → ρ p.1 ≠ g' := fun p hp hon e => by
                      rcases h6 with h7 | h7
                      · have := hW.sep p hp hon; rw [e, h7.2, (hg h7.1).1] at this; cases this
                      · have := hlt p hp hon; omega
                    have hownb : ∀ p ∈ S.own, p.2.on = true → ¬ (z = false ∧ ρ p.1 = bl) := fun p hp hon e => by
                      have := hW.sep p hp hon; rw [e.2, (hg e.1).1] at this; cases this
                    have hsub : ∀ b o, (bif z then G else G.without bl) b = some o → G b = some o ∧ ¬ (z = false ∧ b = bl) := fun b o hb => by
                      cases z with
                      | true => exact ⟨hb, fun h => by cases h.1⟩
                      | false =>
                        refine ⟨G.without_le bl b o hb, fun h => ?_⟩
                        rw [h.2] at hb; simp only [cond_false, Heap.without, if_true] at hb; cases hb
                    have hW' : WSat c ρ ((bif z then G else G.without bl).add g' (.cells arr' e' (0, 0))) S.own S.fz w' := by
                      refine ⟨fun b o hb => ?_, fun p hp hon => ?_, fun p hp hon => ?_, hW.may, hW.keys, hW.inj, hW.ext.step h3 (fun i hi => ?_), fun b o hb => ?_, fun b o hb => ?_, fun p hp => ?_⟩
                      · unfold Heap.add at hb
                        split at hb
                        · rename_i e; subst e; injection hb with hb; subst hb; exact h5
                        · obtain ⟨q1, q2⟩ := hsub b o hb
                          rw [h3.keep b (hGlt b o q1) q2]; exact hW.has b o q1
                      · rw [h3.keep _ (hlt p hp hon) (hownb p hp hon)]; exact hW.cells p hp hon
                      · unfold Heap.add; rw [if_neg (hown p hp hon)]
                        cases e : (bif z then G else G.without bl) (ρ p.1) with
                        | none => rfl
                        | some o' => have := (hsub _ _ e).1; rw [hW.sep p hp hon] at this; cases this
                      · obtain ⟨q1, q2⟩ := hi
                        subst q2
                        rcases hW.gnew _ _ (hg q1).1 with q | q
                        · rw [(hg q1).2.1] at q; cases q
                        · exact q
                      · unfold Heap.add
                        by_cases e : b = g'
                        · subst e; rw [hG0] at hb; cases hb
                        · rw [if_neg e]
                          cases z with
                          | true => exact hW.g0 b o hb
                          | false =>
                            simp only [cond_false, Heap.without]
                            by_cases e2 : b = bl
                            · subst e2; rw [(hg rfl).2.1] at hb; cases hb
                            · rw [if_neg e2]; exact hW.g0 b o hb
                      · unfold Heap.add at hb
                        split at hb
                        · rename_i e; subst e
                          rcases h6 with h7 | h7
                          · obtain ⟨q1, q2⟩ := h7
                            rw [q2]
                            rcases hW.gnew _ _ (hg q1).1 with q | q
                            · rw [(hg q1).2.1] at q; cases q
                            · exact .inr q
                          · exact .inr (.inl (Nat.le_trans hW.ext.size h7))
                        · exact hW.gnew b o (hsub b o hb).1
                      · obtain ⟨q1, q2⟩ := hW.froz p hp
                        refine ⟨q1, ?_⟩
                        have hne' : p.2.1 ≠ g' := fun e => by
                          rcases hcase with h7 | h7
                          · exact (hg h7.1).2.2 p hp (e.trans h7.2)
                          · rw [e, h7] at q2; cases q2
                        unfold Heap.add; rw [if_neg hne']
                        cases z with
                        | true => exact q2
                        | false => simp only [cond_false]; rw [Heap.without_ne ((hg rfl).2.2 p hp)]; exact q2
                    have hput := putU_ok (c := c) (S := S) (x := .v (.slice (some ⟨g', 0, none⟩) (xs ++ ys).length cap')) (dst := dst) hs.1 hd
                    exact k g' arr' cap' hcase h1 ρ _ w' ⟨hput.1, by rw [hput.2.1, hput.2.2]; exact hW'⟩
                · cases hC
              · cases hC
            · cases hC
          · cases hC
      · cases hC
    · cases hC
  · cases hC
end
end Go.Proofs.Ytfemkbockhpmcaa.Sym
