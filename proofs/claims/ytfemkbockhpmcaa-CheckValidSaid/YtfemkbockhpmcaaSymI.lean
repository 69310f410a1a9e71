/- The symbolic layer, ninth part: bytes of texts. Own work. -/
import Derived.Test.YtfemkbockhpmcaaSymG
import Derived.Laws.Strings
set_option linter.unusedSimpArgs false
set_option linter.unusedVariables false
namespace Go.Proofs.Ytfemkbockhpmcaa.Sym
open Go Go.Proofs Go.RowKit
section
variable {P : Program} {r : Option Nat} {ops : Array Oper} {Q : Exit → Act → World → Prop} {c : Ctx} {G Gs : Heap} {S S' : St} {tb : Tbl} {K : Act → World → Prop}
/-- A text's byte: the text and the place. -/
def ixC (tb : Tbl) (N : Nat) (ops : List Oper) (S : St) (o : Oper) : Option (ByteArray × Int) :=
  match wantS ops S.env o, dstOK N o.dst with
  | some true, true => match o.op with
    | .index t x i => match evalO S.env x, evalO S.env i, get tb t with
      | some (.v (.string s)), some (.v (.int _ n)), some T => match T.desc with
        | .string => some (s, n)
        | _ => none
      | _, _, _ => none
    | _ => none
  | _, _ => none
theorem ixC_run (htb : TblOK P tb) {N : Nat} {o : Oper} {s : ByteArray} {i : Int} (h : ixC tb N ops.toList S o = some (s, i)) (h0 : 0 ≤ i) (h1 : i < (s.size : Int)) {ρ : Nat → Nat} {a : Act} (hA : ASat c ρ S.env S.ds a) (w : World) :
    wantS ops.toList S.env o = some true ∧ dstOK N o.dst = true ∧ (∀ cl, o.op ≠ .defer cl) ∧ (execOp a.eval o).run P w = .ok (.value (.int .u8 ((s.data.toList[i.toNat]?.getD 0).toNat : Int))) w := by
  unfold ixC at h
  split at h
  · rename_i hw hd
    split at h
    · rename_i t x y hop
      split at h
      · rename_i s' k i' T hx hy ht
        split at h
        · rename_i hdesc
          simp only [Option.some.injEq, Prod.mk.injEq] at h
          obtain ⟨rfl, rfl⟩ := h
          have hu := (htb.at ht).2
          rw [hdesc] at hu
          refine ⟨hw, hd, (by rw [hop]; intro cl e; cases e), ?_⟩
          obtain ⟨dst, op, type, pos, after, guard⟩ := o
          simp only at hop; subst hop
          have hr := run_index_string (P := P) w t s' k i' hu
          rw [dif_pos ⟨h0, h1⟩] at hr
          simp only [execOp, Sem.run_bind, evalO_ok hA hx, evalO_ok hA hy, SV.den, hr, Result.andThen_ok, Sem.run_pure]
          have hlt : i'.toNat < s'.data.toList.length := by rw [Array.length_toList]; show i'.toNat < s'.size; omega
          have e : s'.data.toList[i'.toNat]?.getD 0 = s'[i'.toNat]'(by omega) := by
            rw [List.getElem?_eq_getElem hlt]; rfl
          rw [e]
        · cases h
      · cases h
    · cases h
  · cases h
theorem WOp_ix (htb : TblOK P tb) {o : Oper} (s : ByteArray) (i : Int) (h : ixC tb c.N ops.toList S o = some (s, i)) (h0 : 0 ≤ i) (h1 : i < (s.size : Int))
    (k : WK c G (putU S o.dst (.v (.int .u8 ((s.data.toList[i.toNat]?.getD 0).toNat : Int)))) K) : WOp P r ops Q c G S o K := by
  by_cases hne : ∃ ρ a w, Sat c ρ G S a w
  · obtain ⟨ρ0, a0, w0, hs0⟩ := hne
    obtain ⟨hw, hd, hno, _⟩ := ixC_run htb h h0 h1 hs0.1 w0
    refine WOp_val hw hd hno (fun ρ a w hs => ?_) k
    rw [(ixC_run htb h h0 h1 hs.1 w).2.2.2]; simp only [SV.den]
  · intro ρ a w hs; exact absurd ⟨ρ, a, w, hs⟩ hne
end
end Go.Proofs.Ytfemkbockhpmcaa.Sym
