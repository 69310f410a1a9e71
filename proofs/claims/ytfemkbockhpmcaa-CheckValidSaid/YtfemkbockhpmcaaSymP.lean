/- The symbolic layer, sixteenth part: structs of a number and a text, compared and as keys. Own work. -/
import Derived.Test.YtfemkbockhpmcaaSymO
import Derived.WideKeyRuns
set_option linter.unusedSimpArgs false
set_option linter.unusedVariables false
namespace Go.Proofs.Ytfemkbockhpmcaa.Sym
open Go Go.Proofs Go.RowKit
def encFlaw (f : Int × ByteArray) : Value := .agg #[.int .i64 f.1, .string f.2]
/-- A struct of a number and a text. -/
structure IsFlaw (P : Program) (t : TypeId) : Prop where
  und : P.underlying t = some (.struct (P.fieldsOf t))
  held : P.stoodInHeld t = false
  guard : P.eqGuardType P.depth t = false
  fields : ∃ f0 f1, (P.fieldsOf t).toList = [f0, f1] ∧ f0.name ≠ "_" ∧ f1.name ≠ "_" ∧ f0.offset = 0 ∧ f1.offset = 1 ∧ P.underlying f0.type = some (.int .i64) ∧ P.underlying f1.type = some .string ∧ P.plainKey f0.type = true ∧ P.plainKey f1.type = true
theorem equalIn_flaw {P : Program} {t : TypeId} (h : IsFlaw P t) (d : Nat) (a b : Int × ByteArray) (w : World) : (Op.equalIn (d + 2) t (encFlaw a) (encFlaw b)).run P w = .ok (decide (a = b)) w := by
  obtain ⟨f0, f1, hf, n0, n1, o0, o1, u0, u1, p0, p1⟩ := h.fields
  obtain ⟨a1, a2⟩ := a
  obtain ⟨b1, b2⟩ := b
  unfold encFlaw
  rw [run_equalIn_struct w (d + 1) t _ _ h.und h.held, hf]
  have q0 : ∀ x y, (part f0.type #[.int .i64 x, .string y] f0.offset).run P w = .ok (.int .i64 x) w := fun x y => run_part_plain w p0 (by rw [o0]; rfl)
  have q1 : ∀ x y, (part f1.type #[.int .i64 x, .string y] f1.offset).run P w = .ok (.string y) w := fun x y => run_part_plain w p1 (by rw [o1]; rfl)
  have e0 : (Op.equalIn (d + 1) f0.type (.int .i64 a1) (.int .i64 b1)).run P w = .ok (a1 == b1) w := by simp [Op.equalIn, run_underlying u0]
  have e1 : (Op.equalIn (d + 1) f1.type (.string a2) (.string b2)).run P w = .ok (a2 == b2) w := by simp [Op.equalIn, run_underlying u1]
  have hs : (a2 == b2) = decide (a2 = b2) := by
    by_cases e : a2 = b2
    · subst e; rw [bytes_beq_self]; simp
    · rw [bytes_beq_ne e]; simp [e]
  have hi : (a1 == b1) = decide (a1 = b1) := by
    by_cases e : a1 = b1
    · subst e; simp
    · simp [e]
  simp only [Op.eqFields, n0, n1, ne_eq, not_false_eq_true, if_true, Sem.run_bind, q0, q1, e0, e1, Result.andThen_ok, Sem.run_ite, Sem.run_pure]
  rw [hi, hs]
  by_cases x1 : a1 = b1 <;> by_cases x2 : a2 = b2 <;> simp [x1, x2]
theorem equal_flaw {P : Program} {t : TypeId} (h : IsFlaw P t) (a b : Int × ByteArray) (w : World) : (Op.equal t (encFlaw a) (encFlaw b)).run P w = .ok (decide (a = b)) w := equalIn_flaw h 9998 a b w
theorem findAsking_flaw {P : Program} {t : TypeId} (h : IsFlaw P t) (a : Int × ByteArray) (w : World) : ∀ (es : List MapEntry) (l : List ((Int × ByteArray) × Value)) (i : Nat), es.map (fun e => (e.key, e.val)) = l.map (fun p => (encFlaw p.1, p.2)) →
    (Instr.findAsking t (encFlaw a) es i).run P w = .ok (locate l a i) w
  | [], [], i, _ => by simp [Instr.findAsking, locate]
  | [], _ :: _, i, h => by cases h
  | _ :: _, [], i, h => by cases h
  | e :: es, (b, v) :: l, i, hm => by
    simp only [List.map_cons, List.cons.injEq, Prod.mk.injEq] at hm
    obtain ⟨⟨h1, h2⟩, h3⟩ := hm
    have ih := findAsking_flaw h a w es l (i + 1) h3
    have he := equal_flaw h a b w
    simp only [Instr.findAsking, Sem.run_bind, h1, he, Result.andThen_ok, locate]
    by_cases hb : a = b
    · subst hb; simp [h2]
    · simp only [hb, Ne.symm hb, decide_false, Bool.false_eq_true, if_false]; exact ih
theorem keyEnc_flaw {P : Program} {t : TypeId} (h : IsFlaw P t) : KeyEnc P t encFlaw where
  check a em w := by
    obtain ⟨f0, f1, hf, n0, n1, o0, o1, u0, u1, p0, p1⟩ := h.fields
    obtain ⟨a1, a2⟩ := a
    unfold encFlaw
    have q0 : (part f0.type #[.int .i64 a1, .string a2] f0.offset).run P w = .ok (.int .i64 a1) w := run_part_plain w p0 (by rw [o0]; rfl)
    have q1 : (part f1.type #[.int .i64 a1, .string a2] f1.offset).run P w = .ok (.string a2) w := run_part_plain w p1 (by rw [o1]; rfl)
    suffices hs : ∀ n, (Instr.checkKey em (n + 2) t (.agg #[.int .i64 a1, .string a2])).run P w = .ok () w from hs 9998
    intro n
    have c0 : (Instr.checkKey em (n + 1) f0.type (.int .i64 a1)).run P w = .ok () w := by simp [Instr.checkKey, run_underlying u0]
    have c1 : (Instr.checkKey em (n + 1) f1.type (.string a2)).run P w = .ok () w := by simp [Instr.checkKey, run_underlying u1]
    rw [Instr.checkKey]
    simp only [Sem.run_bind, run_underlying h.und, Result.andThen_ok]
    rw [← Array.forIn_toList, hf]
    simp [n0, n1, q0, q1, c0, c1]
  find a es l hm w := by
    rw [run_findKey_eq w (by rw [h.und])]
    exact findAsking_flaw h a w es l 0 hm
  stays a w := by
    obtain ⟨a1, a2⟩ := a
    unfold Instr.keyThatStays
    have : Instr.sameBits 10000 (encFlaw (a1, a2)) (encFlaw (a1, a2)) = true := by
      show Instr.sameBits (9999 + 1) (.agg #[.int .i64 a1, .string a2]) (.agg #[.int .i64 a1, .string a2]) = true
      simp [Instr.sameBits, bytes_beq_self]
    rw [if_pos this]; rfl
section
variable {P : Program} {r : Option Nat} {ops : Array Oper} {Q : Exit → Act → World → Prop} {c : Ctx} {G Gs : Heap} {S : St} {tb : Tbl} {K : Act → World → Prop}
def eqFC (N : Nat) (ops : List Oper) (S : St) (o : Oper) : Option (TypeId × SV × SV × Bool) :=
  match wantS ops S.env o, dstOK N o.dst with
  | some true, true => match o.op with
    | .binOp .eql t x y _ => match evalO S.env x, evalO S.env y with
      | some p, some q => some (t, p, q, true)
      | _, _ => none
    | .binOp .neq t x y _ => match evalO S.env x, evalO S.env y with
      | some p, some q => some (t, p, q, false)
      | _, _ => none
    | _ => none
  | _, _ => none
theorem eqFC_run {N : Nat} {o : Oper} {t : TypeId} {p q : SV} {b : Bool} (h : eqFC N ops.toList S o = some (t, p, q, b)) (hF : IsFlaw P t) (x y : Int × ByteArray) (hx : ∀ ρ, p.den ρ = encFlaw x) (hy : ∀ ρ, q.den ρ = encFlaw y) {ρ : Nat → Nat} {a : Act} (hA : ASat c ρ S.env S.ds a) (w : World) :
    wantS ops.toList S.env o = some true ∧ dstOK N o.dst = true ∧ (∀ cl, o.op ≠ .defer cl) ∧ (execOp a.eval o).run P w = .ok (.value (.bool (if b then decide (x = y) else !decide (x = y)))) w := by
  unfold eqFC at h
  split at h
  · rename_i hw hd
    have hg : ∀ op (u v : Operand), (eqGuard op t u v (encFlaw x) (encFlaw y)).run P w = .ok () w := fun op u v => run_eqGuard_agg w op t u v _ _ hF.guard
    have he := equal_flaw hF x y w
    split at h
    · rename_i t' x' y' yt hop
      split at h
      · rename_i p' q' hp hq
        simp only [Option.some.injEq, Prod.mk.injEq] at h
        obtain ⟨rfl, rfl, rfl, rfl⟩ := h
        refine ⟨hw, hd, (by rw [hop]; intro cl e; cases e), ?_⟩
        obtain ⟨dst, op, type, pos, after, guard⟩ := o
        simp only at hop; subst hop
        have hg' := hg .eql x' y'
        unfold encFlaw at hg' he
        simp only [execOp, evalO_ok hA hp, evalO_ok hA hq, hx ρ, hy ρ, encFlaw, Sem.run_bind, hg', Result.andThen_ok, binOp, he, Sem.run_pure, if_true]
      · cases h
    · rename_i t' x' y' yt hop
      split at h
      · rename_i p' q' hp hq
        simp only [Option.some.injEq, Prod.mk.injEq] at h
        obtain ⟨rfl, rfl, rfl, rfl⟩ := h
        refine ⟨hw, hd, (by rw [hop]; intro cl e; cases e), ?_⟩
        obtain ⟨dst, op, type, pos, after, guard⟩ := o
        simp only at hop; subst hop
        have hg' := hg .neq x' y'
        unfold encFlaw at hg' he
        simp only [execOp, evalO_ok hA hp, evalO_ok hA hq, hx ρ, hy ρ, encFlaw, Sem.run_bind, hg', Result.andThen_ok, binOp, he, Sem.run_pure, Bool.false_eq_true, if_false]
      · cases h
    · cases h
  · cases h
theorem WD_eqF {fuel : Nat} (i : Nat) {listed : Array Bool} {o : Oper} (hi : ops[i]? = some o) (hpl : allPlain ops.toList = true) (ht : takeB ops listed i = true) (hQ : ∀ ch a d v w, Q (.panic ch) (Act.put a (some d) v) w → Q (.panic ch) a w) (hle : Le Gs G)
    (t : TypeId) (p q : SV) (b : Bool) (h : eqFC c.N ops.toList S o = some (t, p, q, b)) (hF : IsFlaw P t) (x y : Int × ByteArray) (hx : ∀ ρ, p.den ρ = encFlaw x) (hy : ∀ ρ, q.den ρ = encFlaw y)
    (k : WD P r ops Q c Gs fuel (listed.setIfInBounds i true) G (putU S o.dst (.v (.bool (if b then decide (x = y) else !decide (x = y)))))) : WD P r ops Q c Gs (fuel + 1) listed G S := by
  intro ρ a w hs
  obtain ⟨h1, h2, h3, _⟩ := eqFC_run h hF x y hx hy hs.1 w
  exact WD_take hi hpl ht hQ hle h2 (fun ρ a w hs => .inl ⟨wantS_ok hs.1 h1, fun w' _ => (eqFC_run h hF x y hx hy hs.1 w').2.2.2⟩) k ρ a w hs
end
end Go.Proofs.Ytfemkbockhpmcaa.Sym
