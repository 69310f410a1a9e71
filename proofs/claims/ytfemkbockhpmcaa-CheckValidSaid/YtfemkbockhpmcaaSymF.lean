/- The symbolic layer, sixth part: slicing; append of made zeros; calls that hand back a list of one's own; splitting on a bool. Own work. -/
import Derived.Test.YtfemkbockhpmcaaSymE
set_option linter.unusedSimpArgs false
set_option linter.unusedVariables false
namespace Go.Proofs.Ytfemkbockhpmcaa.Sym
open Go

/-! ### 18. Slicing -/
def sliceAddr (A : Option Addr) (cap lo sz : Nat) : Option Addr := if cap = lo then A else A.map (·.add (lo * sz))
theorem Row.slice {α : Type} {d : Ty α} {G : Heap} {A : Option Addr} {xs : List α} (h : Row d G A xs) (lo : Nat) {cap : Nat} (hc : xs.length ≤ cap) (hl : lo ≤ xs.length) : Row d G (sliceAddr A cap lo d.sz) (xs.drop lo) := by
  unfold sliceAddr
  by_cases e : cap = lo
  · have : xs.drop lo = [] := List.drop_eq_nil_of_le (by omega)
    rw [this]; exact Row.nil d G _
  · rw [if_neg e]
    cases A with
    | none =>
      have hx : xs = [] := by
        cases xs with
        | nil => rfl
        | cons x l => obtain ⟨q, _, h1, _⟩ := h 0 x rfl; cases h1
      subst hx
      simp; exact Row.nil d G _
    | some q =>
      by_cases h0 : 0 < xs.length
      · exact h.drop lo (h.spot h0)
      · have hx : xs = [] := List.eq_nil_of_length_eq_zero (by omega)
        subst hx
        simp; exact Row.nil d G _
theorem Row.cut {α : Type} {d : Ty α} {G : Heap} {A : Option Addr} {xs : List α} (h : Row d G A xs) (lo hi : Nat) {cap : Nat} (hc : xs.length ≤ cap) (hl : lo ≤ hi) (hh : hi ≤ xs.length) : Row d G (sliceAddr A cap lo d.sz) ((xs.take hi).drop lo) := by
  have := (h.take hi).slice lo (cap := cap) (by rw [List.length_take]; omega) (by rw [List.length_take]; omega)
  exact this
section
variable {P : Program} {r : Option Nat} {ops : Array Oper} {Q : Exit → Act → World → Prop} {c : Ctx} {G Gs : Heap} {S S' : St} {tb : Tbl} {K : Act → World → Prop}

def bndS (env : List (Nat × SV)) (dflt : Int) : Option Operand → Option Int
  | none => some dflt
  | some x => match evalO env x with
    | some (.v (.int _ i)) => some i
    | _ => none
/-- The slice's address, length, capacity, the bounds, the element's size. -/
def slC (tb : Tbl) (N : Nat) (ops : List Oper) (S : St) (o : Oper) : Option (Option Addr × Nat × Nat × Int × Int × Nat) :=
  match wantS ops S.env o, dstOK N o.dst with
  | some true, true => match o.op with
    | .slice t x lo hi none => match get tb t, evalO S.env x with
      | some T, some (.v (.slice A n cap)) => match T.desc with
        | .slice e => match get tb e with
          | some E => match bndS S.env 0 lo, bndS S.env n hi with
            | some l, some h => some (A, n, cap, l, h, E.size)
            | _, _ => none
          | none => none
        | _ => none
      | _, _ => none
    | _ => none
  | _, _ => none
theorem run_sliceBound {k : IntKind} {i y : Nat} (h : i ≤ y) {code : BoundsCode} {w : World} : (Instr.sliceBound (.int k (i : Int)) y code).run P w = .ok i w := by
  have hc : (0 : Int) ≤ (i : Int) ∧ (i : Int) ≤ (y : Int) := by omega
  unfold Instr.sliceBound
  simp only [asIntOf, Sem.run_bind, Sem.run_pure, Result.andThen_ok, if_pos hc, Int.toNat_natCast]
theorem run_slice_val {tb : Tbl} (htb : TblOK P tb) {ρ : Nat → Nat} {a : Act} {env : List (Nat × SV)} {ds : List Nat} (hA : ASat c ρ env ds a) {t : TypeId} {T E : TI} {e : TypeId} (ht : get tb t = some T) (hd : T.desc = .slice e) (he : get tb e = some E)
    {lo hi : Option Operand} {n cap : Nat} {l h : Nat} (hl : bndS env 0 lo = some (l : Int)) (hh : bndS env n hi = some (h : Int)) (hlh : l ≤ h) (hhc : h ≤ cap) (B : Option Addr) (w : World) :
    (Instr.sliceAt t (.slice B n cap) (lo.map a.eval) (hi.map a.eval) none).run P w = .ok (.slice (sliceAddr B cap l E.size) (h - l) (cap - l)) w := by
  have hu := (htb.at ht).2
  rw [hd] at hu
  have hb : (Instr.sliceBounds true n cap (lo.map a.eval) (hi.map a.eval) none).run P w = .ok (l, h, cap) w := by
    have h1 : (match (hi.map a.eval), (none : Option Value) with
        | some v, some _ => Instr.sliceBound v cap .slice3B
        | some v, none => Instr.sliceBound v cap .sliceAcap
        | none, none => pure n
        | none, some _ => stuck "Slice: max without high" : Sem Nat).run P w = .ok h w := by
      cases hi with
      | none => simp only [bndS, Option.some.injEq] at hh; have : n = h := by omega
                simp [this]
      | some y =>
        simp only [bndS] at hh
        split at hh
        · rename_i k i hy
          simp only [Option.some.injEq] at hh
          subst hh
          have := evalO_ok hA hy
          simp only [SV.den] at this
          simp only [Option.map_some, this, run_sliceBound hhc]
        · cases hh
    have h2 : (match (lo.map a.eval) with
        | some v => Instr.sliceBound v h .sliceB
        | none => pure 0 : Sem Nat).run P w = .ok l w := by
      cases lo with
      | none => simp only [bndS, Option.some.injEq] at hl; have : l = 0 := by omega
                simp [this]
      | some x =>
        simp only [bndS] at hl
        split at hl
        · rename_i k i hx
          simp only [Option.some.injEq] at hl
          subst hl
          have := evalO_ok hA hx
          simp only [SV.den] at this
          simp only [Option.map_some, this, run_sliceBound hlh]
        · cases hl
    unfold Instr.sliceBounds
    simp only [Sem.run_bind, Sem.run_pure, Result.andThen_ok]
    cases hhi : hi.map a.eval <;> cases hlo : lo.map a.eval <;> rw [hhi] at h1 <;> rw [hlo] at h2 <;> simp only [if_true, Sem.run_bind] at h1 h2 ⊢ <;> rw [h1] <;> simp only [Result.andThen_ok, Option.isSome_none, Bool.false_eq_true, if_false, if_true, Sem.run_bind] <;> rw [h2] <;> rfl
  unfold Instr.sliceAt
  simp only [Sem.run_bind, run_underlying hu, Result.andThen_ok]
  unfold Instr.slice
  simp only [Sem.run_bind, run_underlying hu, Result.andThen_ok, hb, run_sizeOf_TI (htb.at he), Sem.run_pure, sliceAddr]
theorem slC_run (htb : TblOK P tb) {N : Nat} {o : Oper} {A : Option Addr} {n cap sz : Nat} {lo hi : Nat} (h : slC tb N ops.toList S o = some (A, n, cap, (lo : Int), (hi : Int), sz)) (h1 : lo ≤ hi) (h2 : hi ≤ cap) {ρ : Nat → Nat} {a : Act} (hA : ASat c ρ S.env S.ds a) (w : World) :
    wantS ops.toList S.env o = some true ∧ dstOK N o.dst = true ∧ (∀ cl, o.op ≠ .defer cl) ∧ (execOp a.eval o).run P w = .ok (.value (.slice (sliceAddr A cap lo sz) (hi - lo) (cap - lo))) w := by
  unfold slC at h
  split at h
  · rename_i hw hd
    split at h
    · rename_i t x l hh hop
      split at h
      · rename_i T A' n' cap' ht hx
        split at h
        · rename_i e hdesc
          split at h
          · rename_i E he
            split at h
            · rename_i l' h' hl hh'
              simp only [Option.some.injEq, Prod.mk.injEq] at h
              obtain ⟨rfl, rfl, rfl, rfl, rfl, rfl⟩ := h
              refine ⟨hw, hd, (by rw [hop]; intro cl e; cases e), ?_⟩
              obtain ⟨dst, op, type, pos, after, guard⟩ := o
              simp only at hop; subst hop
              have e1 : a.eval x = .slice A' n' cap' := by rw [evalO_ok hA hx]; simp only [SV.den]
              simp only [execOp, Sem.run_bind, e1, Option.map_none]
              rw [run_slice_val (P := P) htb hA ht hdesc he hl hh' h1 h2 A' w]
              rfl
            · cases h
          · cases h
        · cases h
      · cases h
    · cases h
  · cases h
theorem WOp_sl (htb : TblOK P tb) {o : Oper} (A : Option Addr) (n cap lo hi sz : Nat) (h : slC tb c.N ops.toList S o = some (A, n, cap, (lo : Int), (hi : Int), sz)) (h1 : lo ≤ hi) (h2 : hi ≤ cap) {A' : Option Addr} (hA' : sliceAddr A cap lo sz = A')
    (k : WK c G (putU S o.dst (.v (.slice A' (hi - lo) (cap - lo)))) K) : WOp P r ops Q c G S o K := by
  by_cases hne : ∃ ρ a w, Sat c ρ G S a w
  · obtain ⟨ρ0, a0, w0, hs0⟩ := hne
    obtain ⟨hw, hd, hno, _⟩ := slC_run htb h h1 h2 hs0.1 w0
    refine WOp_val hw hd hno (fun ρ a w hs => ?_) k
    rw [(slC_run htb h h1 h2 hs.1 w).2.2.2, hA']; simp only [SV.den]
  · intro ρ a w hs; exact absurd ⟨ρ, a, w, hs⟩ hne
/-- A list of one's own is cut at its end. -/
def sloC (tb : Tbl) (N : Nat) (ops : List Oper) (S : St) (o : Oper) : Option (Bool × Nat × Nat × Nat × Int) :=
  match wantS ops S.env o, dstOK N o.dst with
  | some true, true => match o.op with
    | .slice t x none hi none => match get tb t, evalO S.env x with
      | some T, some (.ls z h n cap) => match T.desc with
        | .slice e => match get tb e with
          | some E => match bndS S.env n hi with
            | some i => some (z, h, n, cap, i)
            | _ => none
          | none => none
        | _ => none
      | _, _ => none
    | _ => none
  | _, _ => none
theorem WOp_slo (htb : TblOK P tb) {o : Oper} (h n cap hi : Nat) (hC : sloC tb c.N ops.toList S o = some (false, h, n, cap, (hi : Int))) (h1 : hi ≤ cap)
    (k : WK c G (putU S o.dst (.ls false h hi cap)) K) : WOp P r ops Q c G S o K := by
  unfold sloC at hC
  split at hC
  · rename_i hw hd
    split at hC
    · rename_i t x hh hop
      split at hC
      · rename_i T z h' n' cap' ht hx
        split at hC
        · rename_i e hdesc
          split at hC
          · rename_i E he
            split at hC
            · rename_i i hi'
              simp only [Option.some.injEq, Prod.mk.injEq] at hC
              obtain ⟨rfl, rfl, rfl, rfl, rfl⟩ := hC
              refine WOp_val hw hd (by rw [hop]; intro cl e; cases e) (fun ρ a w hs => ?_) k
              obtain ⟨dst, op, type, pos, after, guard⟩ := o
              simp only at hop; subst hop
              have e1 : a.eval x = .slice (some ⟨ρ h', 0, none⟩) n' cap' := by rw [evalO_ok hs.1 hx]; rfl
              simp only [execOp, Sem.run_bind, e1, Option.map_none]
              have := run_slice_val (P := P) (c := c) htb hs.1 ht hdesc he (lo := none) (l := 0) rfl hi' (Nat.zero_le _) h1 (some ⟨ρ h', 0, none⟩) w
              rw [show (Option.map a.eval none : Option Value) = none from rfl] at this
              rw [this]
              simp only [Result.andThen_ok, Sem.run_pure, SV.den, cond_false, Nat.sub_zero, Nat.zero_mul, sliceAddr, Option.map_some, Addr.add, if_true, ite_self]
            · cases hC
          · cases hC
        · cases hC
      · cases hC
    · cases hC
  · cases hC

/-! ### 19. append(nil, make([]T, n)...) -/
def azC (tb : Tbl) (N : Nat) (ops : List Oper) (S : St) (o : Oper) : Option (Int × TypeId × Nat × Nat × Value) :=
  match wantS ops S.env o, dstOK N o.dst with
  | some true, true => match o.op with
    | .call cl => match cl.callee, cl.args.toList, cl.argTypes.toList with
      | .builtin .append, [s, x], [t, u] => match get tb t, get tb u, evalO S.env s, evalO S.env x with
        | some T, some U, some (.v (.slice none 0 0)), some (.v (.int .i64 n)) => match T.desc, U.desc with
          | .slice e, .int _ => match get tb e with
            | some E => bif Nat.beq E.zero.cells.size E.size then some (n, e, E.size, E.bytes, E.zero) else none
            | none => none
          | _, _ => none
        | _, _, _, _ => none
      | _, _, _ => none
    | _ => none
  | _, _ => none
theorem WOp_az (htb : TblOK P tb) {o : Oper} (n : Nat) (e : TypeId) (sz bytes : Nat) (zv : Value) (hC : azC tb c.N ops.toList S o = some ((n : Int), e, sz, bytes, zv)) (hf : S.fresh = true)
    {α : Type} (d : Ty α) (z0 : α) (hz : d.rep G z0 zv.cells.toList) (hsz : d.sz = sz) (hs0 : d.sz ≠ 0) (hn : n * bytes ≤ 140737488355328) (hb : n ≤ big) (h0 : 0 < n)
    (k : ∀ arr cap, OwnL d G (List.replicate n z0) arr cap → WK c G (putU { S with own := (S.nx, .lst false e arr) :: S.own, nx := S.nx + 1 } o.dst (.ls false S.nx n cap)) K) : WOp P r ops Q c G S o K := by
  intro ρ a w hs
  unfold azC at hC
  split at hC
  · rename_i hw hd
    split at hC
    · rename_i cl hop
      split at hC
      · rename_i s x t u hcal hargs htys
        split at hC
        · rename_i T U m hT hU hes hex
          split at hC
          · rename_i e' kk hdT hdU
            split at hC
            · rename_i E hE
              cases hzz : Nat.beq E.zero.cells.size E.size with
              | false => rw [hzz] at hC; cases hC
              | true =>
                rw [hzz] at hC
                simp only [cond_true, Option.some.injEq, Prod.mk.injEq] at hC
                obtain ⟨rfl, rfl, rfl, rfl, rfl⟩ := hC
                have hzs := Nat.eq_of_beq_eq_true hzz
                have hu := (htb.at hT).2
                rw [hdT] at hu
                have hu2 := (htb.at hU).2
                rw [hdU] at hu2
                obtain ⟨j, hj0, hj2, hj3, hj4⟩ := run_typeInfo_TI (htb.at hE) w
                have hj1 : ∀ w', (typeInfo e').run P w' = .ok j w' := fun w' => by
                  have h1 := (htb.at hE).1
                  cases hq : P.info? e' with
                  | none => rw [hq] at h1; cases h1
                  | some j' =>
                    have : (typeInfo e').run P w = .ok j' w := by simp [typeInfo, hq]
                    rw [this] at hj0; injection hj0 with hj0
                    simp [typeInfo, hq, hj0]
                have hwr : IntKind.i64.wrap ((n : Nat) : Int) = (n : Int) := wrap_id (by unfold big at hb; omega)
                have hpos : 0 < E.size := by rw [← hsz]; exact Nat.pos_of_ne_zero hs0
                obtain ⟨cap, hcap⟩ : ∃ cap, cap = n + w.tape w.drawn (.appendCap n 0 e') % (2 ^ 63 - n) := ⟨_, rfl⟩
                have hcn : n ≤ cap := by rw [hcap]; exact Nat.le_add_right _ _
                have hcb : cap ≤ big := by
                  rw [hcap]; unfold big at hb ⊢
                  have := Nat.mod_lt (w.tape w.drawn (.appendCap n 0 e')) (show 0 < 2 ^ 63 - n by omega)
                  omega
                obtain ⟨arr, harr⟩ : ∃ arr : Array Value, arr = #[] ++ Builtin.zeroCells E.zero.cells n ++ Builtin.zeroCells E.zero.cells (cap - n) := ⟨_, rfl⟩
                have hrun : (Builtin.append_ #[t, u] o.type #[.slice none 0 0, .int .i64 n]).run P w = .ok (.slice (some ⟨w.heap.size, 0, none⟩) n cap) (w.drew.alloc (.cells arr e')) := by
                  have h48 : ¬ (((E.bytes : Nat) : Int) * 0 > 2 ^ 48) := by simp
                  have hx : ((n : Int) * (E.bytes : Int) > 2 ^ 48) = False := by
                    rw [eq_iff_iff, iff_false, ← Int.natCast_mul]
                    generalize n * E.bytes = q at hn
                    omega
                  have hneg : ((n : Int) < 0) = False := by rw [eq_iff_iff, iff_false]; omega
                  have hbig : (((n : Nat) : Int) > IntKind.i64.max) = False := by
                    rw [eq_iff_iff, iff_false]
                    have : IntKind.i64.max = 9223372036854775807 := rfl
                    unfold big at hb; rw [this]; omega
                  have hcap0 : Builtin.nextslicecap n 0 = n := nextslicecap_zero h0
                  have hfit : (n * E.bytes > 2 ^ 48) = False := by rw [eq_iff_iff, iff_false]; omega
                  have hns : (n * E.size = 0) = False := by
                    rw [eq_iff_iff, iff_false]; exact Nat.ne_of_gt (Nat.mul_pos h0 hpos)
                  have hle : (n ≤ 0) = False := by rw [eq_iff_iff, iff_false]; omega
                  unfold Builtin.append_
                  simp only [List.getElem?_toArray, List.getElem?_cons_zero, List.getElem?_cons_succ, Sem.run_bind, run_underlying hu, run_underlying hu2, Result.andThen_ok, sizeOf, hj1, Sem.run_pure, asInt, asIntOf, hwr, hneg, if_false, hj4, hx, Int.toNat_natCast, Nat.zero_add,
                    hle, hbig, false_and, if_true, hcap0, hfit, hj3, hns, run_choose, Question.forced, Bool.false_eq_true, Question.cut, run_askRoom, Builtin.firstCells, zeroValue, hj2, Bool.not_true, newRow, run_newObj]
                  rw [← hcap]
                  rw [harr]
                  rfl
                have hWd : WSat c ρ G S.own S.fz w.drew := ⟨hs.2.has, hs.2.cells, hs.2.sep, hs.2.may, hs.2.keys, hs.2.inj, hs.2.ext.trans (Ext.drawn _ _ _), hs.2.g0, hs.2.gnew, hs.2.froz⟩
                have hW := hWd.new hf (ob := .lst false e' arr) rfl
                have hA := hs.1.re hf (upd_lt ρ S.nx w.heap.size)
                have hput := putU_ok (c := c) (S := { S with own := (S.nx, .lst false e' arr) :: S.own, nx := S.nx + 1 }) (x := .ls false S.nx n cap) (dst := o.dst) hA hd
                show if _ then _ else _
                rw [if_pos (wantS_ok hs.1 hw)]
                refine ⟨fun f _ => trivial, ?_⟩
                show Oper.uponIn (WF r) 0 P o a K Q (Sem.run P (Oper.semAt r a.eval o) w)
                rw [Oper.semAt_eq r _ o (by rw [hop]; intro cl e; cases e)]
                obtain ⟨dst, op, type, pos, after, guard⟩ := o
                simp only at hop; subst hop
                obtain ⟨callee, args, at_⟩ := cl
                simp only at hcal hargs htys
                have ha' : args = #[s, x] := by rw [← Array.toArray_toList (xs := args), hargs]
                have ht' : at_ = #[t, u] := by rw [← Array.toArray_toList (xs := at_), htys]
                subst hcal; subst ha'; subst ht'
                have e1 : a.eval s = .slice none 0 0 := by rw [evalO_ok hs.1 hes]; simp only [SV.den]
                have e2 : a.eval x = .int .i64 n := by rw [evalO_ok hs.1 hex]; simp only [SV.den]
                simp only [execOp, resolve, invoke, builtin, Sem.run_bind, Sem.run_pure, Result.andThen_ok, List.map_toArray, List.map_cons, List.map_nil, e1, e2]
                simp only at hrun
                rw [hrun]
                simp only [Result.andThen_ok]
                have hzc : (Builtin.zeroCells E.zero.cells n).toList = (List.range (n * d.sz)).map fun k => E.zero.cells.toList[k % d.sz]?.getD undef := by
                  unfold Builtin.zeroCells
                  simp only [Array.toList_map, Array.toList_range, hzs, hsz]
                  apply List.map_congr_left
                  intro k _
                  have hlt : k % E.size < E.zero.cells.size := by rw [hzs]; exact Nat.mod_lt _ hpos
                  rw [getElem!_pos E.zero.cells (k % E.size) hlt]
                  simp [hlt]
                have hzl : ∀ q, (Builtin.zeroCells E.zero.cells q).size = q * E.size := fun q => by simp [Builtin.zeroCells, hzs]
                refine k arr cap ⟨?_, by rw [List.length_replicate]; exact hcn, hcb, ?_⟩ (upd ρ S.nx w.heap.size) _ _ ⟨?_, by rw [hput.2.1, hput.2.2]; exact hW⟩
                · rw [harr, Array.size_append, Array.size_append, hzl, hzl, hsz]
                  simp only [Array.size_empty, Nat.zero_add, ← Nat.add_mul]
                  rw [Nat.add_sub_cancel' hcn]
                · rw [harr, List.length_replicate]
                  have h1 := reps_zero hz n
                  rw [← hzc] at h1
                  simp only [Array.toList_append, List.append_assoc]
                  rw [List.nil_append, List.take_append, List.take_of_length_le (by rw [Array.length_toList, hzl, hsz]; exact Nat.le_refl _)]
                  rw [show n * d.sz - (Builtin.zeroCells E.zero.cells n).toList.length = 0 by rw [Array.length_toList, hzl, hsz]; omega]
                  simpa using h1
                · have hden : (SV.ls false S.nx n cap).den (upd ρ S.nx w.heap.size) = .slice (some ⟨w.heap.size, 0, none⟩) n cap := by simp only [SV.den, upd_same]; rfl
                  rw [← hden]; exact hput.1
            · cases hC
          · cases hC
        · cases hC
      · cases hC
    · cases hC
  · cases hC

/-! ### 20. A list of one's own handed back -/
/-- The call's value is a list in memory that it made and that nobody else knows. -/
def RetO (w : World) (G : Heap) {α : Type} (d : Ty α) (T : TypeId) (Φ : List α → Prop) : Ending → World → Prop := fun e w' =>
  ∃ z b arr cap xs G', e = .returned (nilOr z (.slice (some ⟨b, 0, none⟩) xs.length cap)) ∧ Le G G' ∧ Has w' G' ∧ (∀ b o, G' b = some o → G b = some o ∨ w.heap.size ≤ b) ∧ Ext (fun _ => False) w w' ∧
    (z = true → xs = []) ∧ (z = false → w'.heap[b]? = some (.cells arr T (0, 0)) ∧ w.heap.size ≤ b ∧ G' b = none) ∧ OwnL d G' xs arr cap ∧ Φ xs
theorem WQ_doneO {fn : Func} {α : Type} {d : Ty α} {Φ : List α → Prop} (htb : TblOK P tb) (e : Exit) (he : e = .ret ∨ e = .normal) {z : Bool} {h n cap : Nat} {T : TypeId} {arr : Array Value} {xs : List α} (hd : S.ds = []) (hr : resL tb S fn.results.toList = some [.ls z h n cap]) (hg : get S.own h = some (.lst z T arr)) (hk : c.k = 0) (hD : c.D = fun _ => False)
    (hn : n = xs.length) (hz : z = true → xs = []) (ho : OwnL d G xs arr cap) (hx : Φ xs) : WQ (bodyPost P fn (RetO c.w0 c.G0 d T Φ)) e c G S := by
  intro ρ a w hs
  have hm := get_mem hg
  subst hn
  have hq : a.defers = [] ∧ ∃ v, (results fn a.tmps).run P w = .ok v w ∧ RetO c.w0 c.G0 d T Φ (.returned v) w := by
    refine ⟨by rw [hs.1.defs, hd]; rfl, _, results_ok htb hs hr, z, ρ h, arr, cap, xs, G, rfl, hs.2.g0, hs.2.has, (fun b o hb => by have := hs.2.gnew b o hb; rw [hD] at this; simpa using this), by have := hs.2.ext; rw [hD] at this; exact this, hz, fun hz' => ?_, ho, hx⟩
    refine ⟨hs.2.cells _ hm (by simp [OB.on, hz']), ?_, hs.2.sep _ hm (by simp [OB.on, hz'])⟩
    rcases hs.2.may _ hm (by simp [OB.on, hz']) with h1 | h1
    · exact h1
    · rw [hk] at h1; exact absurd h1.2 (Nat.not_lt_zero _)
  rcases he with rfl | rfl <;> exact hq
theorem WOp_callO {o : Oper} (f : FuncId) (xs : List SV) (h : clC c.N ops.toList S o = some (f, xs)) (hg : Goes P f) (hf : S.fresh = true) {α : Type} {d : Ty α} {T : TypeId} {Φ : List α → Prop}
    (hc : ∀ ρ w, WSat c ρ G S.own S.fz w → Calls P f (SV.denL ρ xs).toArray w (RetO w G d T Φ))
    (k : ∀ G' z arr cap ys, Le G G' → (z = true → ys = []) → OwnL d G' ys arr cap → Φ ys → WK c G' (putU { S with own := (S.nx, .lst z T arr) :: S.own, nx := S.nx + 1 } o.dst (.ls z S.nx ys.length cap)) K) : WOp P r ops Q c G S o K := by
  intro ρ a w hs
  obtain ⟨hw, hd, hrun⟩ := run_clC (P := P) (r := r) h hg hs.1 w
  show if _ then _ else _
  rw [if_pos (wantS_ok hs.1 hw)]
  refine ⟨fun f _ => trivial, ?_⟩
  show Oper.uponIn (WF r) 0 P o a K Q (Sem.run P (Oper.semAt r a.eval o) w)
  rw [hrun]
  refine ⟨fun hd => by simp [WF, Fence.wide] at hd, CallsIn.mono (callsIn_WF (hc ρ w hs.2)) ?_⟩
  rintro e w' ⟨z, b, arr, cap, ys, G', rfl, h1, h2, h3, h4, h5, h6, h7, h8⟩
  have hW := hs.2.called h1 h2 h3 h4
  have hA := hs.1.re hf (upd_lt ρ S.nx b)
  have hput := putU_ok (c := c) (S := { S with own := (S.nx, .lst z T arr) :: S.own, nx := S.nx + 1 }) (x := .ls z S.nx ys.length cap) (dst := o.dst) hA hd
  have hW' : WSat c (upd ρ S.nx b) G' ((S.nx, .lst z T arr) :: S.own) S.fz w' := by
    have hf' := hf
    simp only [St.fresh, Bool.and_eq_true] at hf
    have hr := upd_lt ρ S.nx b
    have hown : ∀ p ∈ S.own, p.1 < S.nx ∧ p.2.under S.nx = true := fun p hp => by
      have := List.all_eq_true.1 hf.1.1.2 p hp
      simpa using this
    have hz : ∀ p ∈ S.fz, p.1 < S.nx ∧ p.2.2.under S.nx = true := fun p hp => by
      have := List.all_eq_true.1 hf.2 p hp
      simpa using this
    have hon : ∀ {T : TypeId} {arr : Array Value}, (OB.lst z T arr).on = true → z = false := fun h => by simpa [OB.on] using h
    have hold : ∀ p ∈ S.own, p.2.on = true → ρ p.1 < w.heap.size := fun p hp hpo => (Array.getElem?_eq_some_iff.1 (hs.2.cells p hp hpo)).1
    refine ⟨h2, ?_, ?_, ?_, ?_, ?_, hW.ext, hW.g0, hW.gnew, fun p hp => by rw [hr _ (hz p hp).1, OB.den_congr hr _ (hz p hp).2]; exact hW.froz p hp⟩
    · intro p hp hpo
      rcases List.mem_cons.1 hp with rfl | hp
      · simp only [upd_same]; exact (h6 (hon hpo)).1
      · rw [hr _ (hown p hp).1, OB.den_congr hr _ (hown p hp).2]; exact hW.cells p hp hpo
    · intro p hp hpo
      rcases List.mem_cons.1 hp with rfl | hp
      · simp only [upd_same]; exact (h6 (hon hpo)).2.2
      · rw [hr _ (hown p hp).1]; exact hW.sep p hp hpo
    · intro p hp hpo
      rcases List.mem_cons.1 hp with rfl | hp
      · simp only [upd_same]; exact .inl (Nat.le_trans hs.2.ext.size (h6 (hon hpo)).2.1)
      · rw [hr _ (hown p hp).1]; exact hW.may p hp hpo
    · simp only [List.map_cons, List.nodup_cons]
      refine ⟨fun hx => ?_, hW.keys⟩
      obtain ⟨p, hp, hpe⟩ := List.mem_map.1 hx
      have := (hown p hp).1
      omega
    · intro p hp q hq hpo hqo hpq
      rcases List.mem_cons.1 hp with rfl | hp <;> rcases List.mem_cons.1 hq with rfl | hq
      · rfl
      · simp only [upd_same] at hpq; rw [hr _ (hown q hq).1] at hpq; have := hold q hq hqo; have := (h6 (hon hpo)).2.1; omega
      · simp only [upd_same] at hpq; rw [hr _ (hown p hp).1] at hpq; have := hold p hp hpo; have := (h6 (hon hqo)).2.1; omega
      · rw [hr _ (hown p hp).1, hr _ (hown q hq).1] at hpq; exact hW.inj p hp q hq hpo hqo hpq
  refine k G' z arr cap ys h1 h5 h7 h8 (upd ρ S.nx b) _ _ ⟨?_, by rw [hput.2.1, hput.2.2]; exact hW'⟩
  have hden : (SV.ls z S.nx ys.length cap).den (upd ρ S.nx b) = nilOr z (.slice (some ⟨b, 0, none⟩) ys.length cap) := by simp only [SV.den, upd_same]; rfl
  rw [← hden]; exact hput.1

/-! ### 21. A bool in a slot: both ways -/
theorem WK_split (t : Nat) (b : Bool) (h : get S.env t = some (.v (.bool b))) (ht : b = true → WK c G { S with env := (t, .v (.bool true)) :: S.env } K) (hf : b = false → WK c G { S with env := (t, .v (.bool false)) :: S.env } K) : WK c G S K := by
  have key : ∀ b', b = b' → ∀ ρ a w, Sat c ρ G S a w → Sat c ρ G { S with env := (t, .v (.bool b')) :: S.env } a w := by
    intro b' e ρ a w hs
    subst e
    refine ⟨⟨hs.1.size, fun u x hx => ?_, hs.1.defs⟩, hs.2⟩
    rw [get_cons] at hx
    by_cases e : t = u
    · rw [if_pos e] at hx; injection hx with hx; subst e; subst hx; exact hs.1.slot _ _ h
    · rw [if_neg e] at hx; exact hs.1.slot u x hx
  cases b with
  | true => exact fun ρ a w hs => ht rfl ρ a w (key true rfl ρ a w hs)
  | false => exact fun ρ a w hs => hf rfl ρ a w (key false rfl ρ a w hs)
end
end Go.Proofs.Ytfemkbockhpmcaa.Sym
