/- The symbolic layer, seventeenth part: bits of numbers. Own work. -/
import Derived.Test.YtfemkbockhpmcaaPd
set_option linter.unusedSimpArgs false
set_option linter.unusedVariables false
namespace Go.Proofs.Ytfemkbockhpmcaa.Sym
open Go Go.Proofs Go.RowKit
def orInt (k : IntKind) (a b : Int) : Int := k.wrap ((BitVec.ofInt k.bits a) ||| (BitVec.ofInt k.bits b)).toNat
section
variable {P : Program} {r : Option Nat} {ops : Array Oper} {Q : Exit → Act → World → Prop} {c : Ctx} {G : Heap} {S : St} {tb : Tbl} {K : Act → World → Prop}
def orC (N : Nat) (ops : List Oper) (S : St) (o : Oper) : Option (IntKind × Int × Int) :=
  match wantS ops S.env o, dstOK N o.dst with
  | some true, true => match o.op with
    | .binOp .or t x y _ => match evalO S.env x, evalO S.env y with
      | some (.v (.int k a)), some (.v (.int k' b)) => if k = k' then some (k, a, b) else none
      | _, _ => none
    | _ => none
  | _, _ => none
theorem WOp_or {o : Oper} (k : IntKind) (a b : Int) (h : orC c.N ops.toList S o = some (k, a, b)) (kk : WK c G (putU S o.dst (.v (.int k (orInt k a b)))) K) : WOp P r ops Q c G S o K := by
  unfold orC at h
  split at h
  · rename_i hw hd
    split at h
    · rename_i t x y yt hop
      split at h
      · rename_i k0 a0 k1 b0 hx hy
        split at h
        · rename_i hk
          subst hk
          simp only [Option.some.injEq, Prod.mk.injEq] at h
          obtain ⟨rfl, rfl, rfl⟩ := h
          refine WOp_val hw hd (by rw [hop]; intro cl e; cases e) (fun ρ a w hs => ?_) kk
          obtain ⟨dst, op, type, pos, after, guard⟩ := o
          simp only at hop; subst hop
          simp only [execOp, evalO_ok hs.1 hx, evalO_ok hs.1 hy, SV.den]
          simp [eqGuard, binOp, Op.intBits, orInt]
        · cases h
      · cases h
    · cases h
  · cases h
end
/-- A letter or an underscore. -/
def letterC (c : Nat) : Bool := decide ((97 ≤ c ∧ c ≤ 122) ∨ (65 ≤ c ∧ c ≤ 90) ∨ c = 95)
theorem letter_all : ∀ c : Fin 256, (decide ((97 : Int) ≤ orInt .u8 ((c.val : Nat) : Int) 32) && decide (orInt .u8 ((c.val : Nat) : Int) 32 ≤ 122) || (((c.val : Nat) : Int) == 95)) = letterC c.val := by decide +kernel
end Go.Proofs.Ytfemkbockhpmcaa.Sym
