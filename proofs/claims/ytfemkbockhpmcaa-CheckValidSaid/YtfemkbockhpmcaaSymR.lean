/- The symbolic layer, eighteenth part: ranging over a function; iterators; functions that leave with a mark. Own work. -/
import Derived.Test.YtfemkbockhpmcaaSymQ
import Derived.RangeFuncRecord
import Derived.RangeFuncSeq
set_option linter.unusedSimpArgs false
set_option linter.unusedVariables false
namespace Go.Proofs.Ytfemkbockhpmcaa.Sym
open Go Go.Proofs Go.RowKit

/-- What the rounds of a loop do, told to the iterator: J bears which blocks a round may write (O) and which it leans on (A). -/
structure Yields {α : Type} (P : Program) (l : Nat) (enc : α → Array Value) (L : List α) (J Jx : List α → (Nat → Prop) → (Nat → Prop) → World → Prop) : Prop where
  keep : ∀ pre O A W W' D, J pre O A W → Ext D W W' → (∀ b, D b → ¬ A b) → J pre O A W'
  keepx : ∀ pre O A W W' D, Jx pre O A W → Ext D W W' → (∀ b, D b → ¬ A b) → Jx pre O A W'
  lt : ∀ pre O A W, J pre O A W → ∀ b, A b → b < W.heap.size
  sub : ∀ pre O A W, J pre O A W → ∀ b, O b → A b
  round : ∀ pre x post O A W, L = pre ++ x :: post → J pre O A W → YieldAt (WF none) 0 P l (enc x) W fun e W' =>
    Ext O W W' ∧ ((e = .returned (.bool true) ∧ ∃ O' A', J (pre ++ [x]) O' A' W' ∧ (∀ b, O' b → O b ∨ W.heap.size ≤ b) ∧ (∀ b, A' b → A b ∨ W.heap.size ≤ b)) ∨
      (e = .returned (.bool false) ∧ ∃ O' A', Jx (pre ++ [x]) O' A' W' ∧ (∀ b, A' b → A b ∨ W.heap.size ≤ b)))

/-- An iterator's contract: it hands the elements of L over, in order, until a round says no. -/
def IterC {α : Type} (P : Program) (f : FuncId) (lb : Array Value) (enc : α → Array Value) (G : Heap) (L : List α) : Prop :=
  ∀ (l : Nat) (J Jx : List α → (Nat → Prop) → (Nat → Prop) → World → Prop) (W : World) (O A : Nat → Prop), Yields P l enc L J Jx → Has W G → (∀ b o, G b = some o → ¬ O b) → J [] O A W →
    Calls P f (#[.func (.yield l) #[] #[]] ++ lb) W fun e W' => (∃ v, e = .returned v) ∧ ((∃ O' A', J L O' A' W') ∨ (∃ pre O' A', pre <+: L ∧ Jx pre O' A' W'))

/-- Between two rounds, in the iterator's walk. -/
def Yn {α : Type} (J : List α → (Nat → Prop) → (Nat → Prop) → World → Prop) (pre : List α) (w0 : World) (G0 : Heap) (D : Nat → Prop) : Prop :=
  ∃ O A, J pre O A w0 ∧ (∀ b, D b → ¬ A b) ∧ (∀ b o, G0 b = some o → ¬ O b)

section
variable {P : Program} {r : Option Nat} {ops : Array Oper} {Q : Exit → Act → World → Prop} {G : Heap} {S : St} {tb : Tbl} {K : Act → World → Prop}

/-- A call of yield. -/
def yieldC (N : Nat) (ops : List Oper) (S : St) (o : Oper) : Option (Nat × List SV) :=
  match wantS ops S.env o, dstOK N o.dst with
  | some true, true => match o.op with
    | .call cl => match cl.callee with
      | .value f => match evalO S.env f, evalL S.env cl.args.toList with
        | some (.v (.func (.yield l) p q)), some xs => bif Nat.beq p.size 0 && Nat.beq q.size 0 then some (l, xs) else none
        | _, _ => none
      | _ => none
    | _ => none
  | _, _ => none
theorem run_yieldC {N : Nat} {o : Oper} {l : Nat} {xs : List SV} (h : yieldC N ops.toList S o = some (l, xs)) {c : Ctx} {ρ : Nat → Nat} {a : Act} (hA : ASat c ρ S.env S.ds a) (w : World) :
    wantS ops.toList S.env o = some true ∧ dstOK N o.dst = true ∧ (o.semAt r a.eval).run P w = (Instr.yield l (SV.denL ρ xs).toArray).run P w := by
  unfold yieldC at h
  split at h
  · rename_i hw hd
    split at h
    · rename_i cl hop
      split at h
      · rename_i f hcal
        split at h
        · rename_i l' p q ys hf hys
          cases hb : (Nat.beq p.size 0 && Nat.beq q.size 0) with
          | false => rw [hb] at h; cases h
          | true =>
          rw [hb] at h
          simp only [cond_true, Option.some.injEq, Prod.mk.injEq] at h
          obtain ⟨rfl, rfl⟩ := h
          simp only [Bool.and_eq_true] at hb
          have hp : p = #[] := Array.size_eq_zero_iff.1 (Nat.eq_of_beq_eq_true hb.1)
          have hq : q = #[] := Array.size_eq_zero_iff.1 (Nat.eq_of_beq_eq_true hb.2)
          subst hp; subst hq
          refine ⟨hw, hd, ?_⟩
          rw [Oper.semAt_eq r _ o (by rw [hop]; intro cl e; cases e)]
          obtain ⟨dst, op, type, pos, after, guard⟩ := o
          simp only at hop; subst hop
          obtain ⟨callee, args, at_⟩ := cl
          simp only at hcal hys; subst hcal
          have h2 := evalL_ok hA hys
          have h3 : args.map a.eval = (SV.denL ρ ys).toArray := by
            apply Array.ext'; simpa using h2
          simp only [execOp, resolve, Sem.run_bind, evalO_ok hA hf, SV.den, Deferred.ofValue, Sem.run_pure, Result.andThen_ok, invoke, h3, Array.empty_append]
        · cases h
      · cases h
    · cases h
  · cases h

theorem WOp_yield {α : Type} {l : Nat} {enc : α → Array Value} {L : List α} {J Jx : List α → (Nat → Prop) → (Nat → Prop) → World → Prop} (hY : Yields P l enc L J Jx) {w0 : World} {G0 : Heap} {D : Nat → Prop} {N k : Nat} {pre post : List α} (x : α)
    {o : Oper} (xs : List SV) (hC : yieldC N ops.toList S o = some (l, xs)) (hx : ∀ ρ, (SV.denL ρ xs).toArray = enc x) (hL : L = pre ++ x :: post) (hJ : Yn J pre w0 G0 D) (kk : Nat) (hkk : (S.own.all fun p => Nat.blt p.1 kk) = true)
    (kt : ∀ w1 D1, Yn J (pre ++ [x]) w1 G D1 → WK ⟨w1, G, D1, N, kk⟩ G (putU S o.dst (.v (.bool true))) K)
    (kf : ∀ w1 D1, Yn Jx (pre ++ [x]) w1 (fun _ => none) D1 → WK ⟨w1, G, D1, N, kk⟩ G (putU S o.dst (.v (.bool false))) K) : WOp P none ops Q ⟨w0, G0, D, N, k⟩ G S o K := by
  intro ρ a w hs
  obtain ⟨hw, hd, hrun⟩ := run_yieldC (P := P) (r := none) hC hs.1 w
  obtain ⟨O, A, hj, hDA, hGO⟩ := hJ
  have hjw := hY.keep _ _ _ _ _ _ hj hs.2.ext hDA
  have hownA : ∀ p ∈ S.own, p.2.on = true → ¬ A (ρ p.1) := fun p hp hpo ha => by
    rcases hs.2.may p hp hpo with h1 | h1
    · have h2 := hY.lt _ _ _ _ hj _ ha
      have : w0.heap.size ≤ ρ p.1 := h1
      omega
    · exact hDA _ h1.1 ha
  have hGO' : ∀ b o, G b = some o → ¬ O b := fun b o hb ho => by
    rcases hs.2.gnew b o hb with h1 | h1 | h1
    · exact hGO b o h1 ho
    · have h2 := hY.lt _ _ _ _ hj _ (hY.sub _ _ _ _ hj _ ho)
      have : w0.heap.size ≤ b := h1
      omega
    · exact hDA b h1 (hY.sub _ _ _ _ hj _ ho)
  show if _ then _ else _
  rw [if_pos (wantS_ok hs.1 hw)]
  refine ⟨fun f _ => trivial, ?_⟩
  show Oper.uponIn (WF none) 0 P o a K Q (Sem.run P (Oper.semAt none a.eval o) w)
  obtain ⟨fn, tmps, asg, bd, hy, hround⟩ := hY.round pre x post O A w hL hjw
  rw [hrun, hx ρ, hy]
  refine ⟨fun hd => by simp [WF, Fence.wide] at hd, RoundIn.mono hround ?_⟩
  have key : ∀ (w' : World) (b : Bool), Ext O w w' → Sat ⟨w', G, fun b => ∃ p ∈ S.own, p.2.on = true ∧ b = ρ p.1, N, kk⟩ ρ G (putU S o.dst (.v (.bool b))) (a.put o.dst (.bool b)) w' := fun w' b he => by
    obtain ⟨k1, k2, k3⟩ := putU_ok (x := .v (.bool b)) hs.1 hd
    refine ⟨⟨k1.size, k1.slot, k1.defs⟩, ?_⟩
    rw [k2, k3]
    refine ⟨fun b o hb => ?_, fun p hp hpo => ?_, hs.2.sep, fun p hp hpo => ?_, hs.2.keys, hs.2.inj, Ext.refl _ _, Le.refl _, fun b o h => .inl h, hs.2.froz⟩
    · have h1 := hs.2.has b o hb
      rw [he.keep b (Array.getElem?_eq_some_iff.1 h1).1 (hGO' b o hb)]; exact h1
    · have h1 := hs.2.cells p hp hpo
      rw [he.keep _ (Array.getElem?_eq_some_iff.1 h1).1 (fun h => hownA p hp hpo (hY.sub _ _ _ _ hjw _ h))]; exact h1
    · exact .inr ⟨⟨p, hp, hpo, rfl⟩, by have := List.all_eq_true.1 hkk p hp; simpa using this⟩
  rintro e w' ⟨he, h | h⟩
  · obtain ⟨rfl, O', A', hj', hO', hA'⟩ := h
    refine kt w' _ ⟨O', A', hj', fun b hb ha => ?_, fun b o hb ho => ?_⟩ ρ _ _ (key w' true he)
    · obtain ⟨p, hp, hpo, rfl⟩ := hb
      rcases hA' _ ha with h1 | h1
      · exact hownA p hp hpo h1
      · have := (Array.getElem?_eq_some_iff.1 (hs.2.cells p hp hpo)).1; omega
    · rcases hO' _ ho with h1 | h1
      · exact hGO' b o hb h1
      · have := (Array.getElem?_eq_some_iff.1 (hs.2.has b o hb)).1; omega
  · obtain ⟨rfl, O', A', hj', hA'⟩ := h
    refine kf w' _ ⟨O', A', hj', fun b hb ha => ?_, fun b o hb ho => by cases hb⟩ ρ _ _ (key w' false he)
    · obtain ⟨p, hp, hpo, rfl⟩ := hb
      rcases hA' _ ha with h1 | h1
      · exact hownA p hp hpo h1
      · have := (Array.getElem?_eq_some_iff.1 (hs.2.cells p hp hpo)).1; omega

/-- The iterator has handed all over. -/
theorem WQ_itDone {α : Type} {l : Nat} {enc : α → Array Value} {L : List α} {J Jx : List α → (Nat → Prop) → (Nat → Prop) → World → Prop} (hY : Yields P l enc L J Jx) {w0 : World} {G0 : Heap} {D : Nat → Prop} {N k : Nat} {fn : Func}
    (htb : TblOK P tb) (ys : List SV) (e : Exit) (he : e = .ret ∨ e = .normal) (hd : S.ds = []) (hr : resL tb S fn.results.toList = some ys) (hJ : Yn J L w0 G0 D ∨ ∃ pre, pre <+: L ∧ Yn Jx pre w0 (fun _ => none) D) :
    WQ (bodyPost P fn fun e W' => (∃ v, e = .returned v) ∧ ((∃ O' A', J L O' A' W') ∨ (∃ pre O' A', pre <+: L ∧ Jx pre O' A' W'))) e ⟨w0, G0, D, N, k⟩ G S := by
  intro ρ a w hs
  have hq : a.defers = [] ∧ ∃ v, (results fn a.tmps).run P w = .ok v w ∧ ((∃ v', Ending.returned v = .returned v') ∧ ((∃ O' A', J L O' A' w) ∨ (∃ pre O' A', pre <+: L ∧ Jx pre O' A' w))) := by
    refine ⟨by rw [hs.1.defs, hd]; rfl, _, results_ok htb hs hr, ⟨_, rfl⟩, ?_⟩
    rcases hJ with ⟨O, A, h1, h2, h3⟩ | ⟨pre, hp, O, A, h1, h2, h3⟩
    · exact .inl ⟨O, A, hY.keep _ _ _ _ _ _ h1 hs.2.ext h2⟩
    · exact .inr ⟨pre, O, A, hp, hY.keepx _ _ _ _ _ _ h1 hs.2.ext h2⟩
  rcases he with rfl | rfl <;> exact hq

/-- A loop whose rounds may begin the walk anew. -/
def LIc {ι : Type} (N kk : Nat) (F : ι → World → Heap → (Nat → Prop) → Heap → Prop) (T : ι → St) (μ : ι → Nat) (n : Nat) : Act → World → Prop :=
  fun a w => ∃ i w0 G0 D G ρ, μ i < n ∧ F i w0 G0 D G ∧ Sat ⟨w0, G0, D, N, kk⟩ ρ G (T i) a w
theorem WC_loopC {ι : Type} {N kk : Nat} {w0 : World} {G0 : Heap} {D : Nat → Prop} (F : ι → World → Heap → (Nat → Prop) → Heap → Prop) (T : ι → St) (μ : ι → Nat) {x : Code} (i0 : ι) (h0 : F i0 w0 G0 D G) (hS : S = T i0)
    (k : ∀ i w0 G0 D G, F i w0 G0 D G → WC P r (Exit.then (LIc N kk F T μ (μ i)) Q) ⟨w0, G0, D, N, kk⟩ G (T i) x) : WC P r Q ⟨w0, G0, D, N, kk⟩ G S (.loop x) := by
  intro ρ a w hs
  subst hS
  have key : ∀ i w0 G0 D G ρ a w, F i w0 G0 D G → Sat ⟨w0, G0, D, N, kk⟩ ρ G (T i) a w → (Code.loop x).wpIn (WF r) 0 P Q a w := by
    intro i w0 G0 D G ρ a w hF hs
    classical
    let I : Act → World → Prop := fun a w => ∃ i w0 G0 D G ρ, F i w0 G0 D G ∧ Sat ⟨w0, G0, D, N, kk⟩ ρ G (T i) a w
    let M : Act → World → Nat → Prop := fun a w m => ∃ i w0 G0 D G ρ, μ i = m ∧ F i w0 G0 D G ∧ Sat ⟨w0, G0, D, N, kk⟩ ρ G (T i) a w
    let ν : Act → World → Nat := fun a w => if h : ∃ m, M a w m then Classical.choose (least_of h) else 0
    refine wpIn_loop I ν ⟨i, w0, G0, D, G, ρ, hF, hs⟩ ?_
    intro a w hI
    have hex : ∃ m, M a w m := by obtain ⟨i, w0, G0, D, G, ρ, h1, h2⟩ := hI; exact ⟨_, i, w0, G0, D, G, ρ, rfl, h1, h2⟩
    have hν : ν a w = Classical.choose (least_of hex) := by simp only [ν, dif_pos hex]
    obtain ⟨i, w0, G0, D, G, ρ, h1, h2, h3⟩ := (Classical.choose_spec (least_of hex)).1
    refine wpIn_mono (k i w0 G0 D G h2 ρ a w h3) ?_
    intro e a' w' he
    cases e with
    | normal =>
      obtain ⟨i', w0', G0', D', G', ρ', hlt, hF', hs'⟩ := he
      refine ⟨⟨i', w0', G0', D', G', ρ', hF', hs'⟩, ?_⟩
      have hex' : ∃ m, M a' w' m := ⟨_, i', w0', G0', D', G', ρ', rfl, hF', hs'⟩
      have hν' : ν a' w' = Classical.choose (least_of hex') := by simp only [ν, dif_pos hex']
      rw [hν, hν', ← h1]
      exact Nat.lt_of_le_of_lt ((Classical.choose_spec (least_of hex')).2 _ ⟨i', w0', G0', D', G', ρ', rfl, hF', hs'⟩) hlt
    | exit id => exact he
    | goto l => exact he
    | ret => exact he
    | panic ch => exact he
    | outgrown => exact he
  exact key i0 w0 G0 D G ρ a w h0 hs
theorem WQ_nextC {ι : Type} {N kk : Nat} {w0 : World} {G0 : Heap} {D : Nat → Prop} {F : ι → World → Heap → (Nat → Prop) → Heap → Prop} {T : ι → St} {μ : ι → Nat} {n : Nat} (i : ι) (hμ : μ i < n) (hF : F i w0 G0 D G) (hS : ∀ ρ a w, Sat ⟨w0, G0, D, N, kk⟩ ρ G S a w → Sat ⟨w0, G0, D, N, kk⟩ ρ G (T i) a w) : WQ (Exit.then (LIc N kk F T μ n) Q) .normal ⟨w0, G0, D, N, kk⟩ G S :=
  fun ρ a w hs => ⟨i, w0, G0, D, G, ρ, hμ, hF, hS ρ a w hs⟩

/-! ### The loop over an iterator -/
/-- The frozen heap without what a round may write. -/
noncomputable def Heap.off (G : Heap) (O : Nat → Prop) : Heap := fun b => haveI := Classical.propDecidable (O b); if O b then none else G b
theorem Heap.off_le (G : Heap) (O : Nat → Prop) : Le (G.off O) G := fun b o h => by
  unfold Heap.off at h; split at h
  · cases h
  · exact h
theorem Heap.off_none {G : Heap} {O : Nat → Prop} {b : Nat} (h : O b) : G.off O b = none := by unfold Heap.off; rw [if_pos h]
theorem Heap.off_some {G : Heap} {O : Nat → Prop} {b : Nat} {o : Obj} (h : G b = some o) (k : ¬ O b) : G.off O b = some o := by unfold Heap.off; rw [if_neg k]; exact h
/-- How a round ends. -/
def Rd (w1 : World) (G1 : Heap) (O : Nat → Prop) (F : (Nat → Prop) → Heap → Prop) (Fx : Code → (Nat → Prop) → Heap → Prop) : Exit → Act → World → Prop
  | .normal, _, w => ∃ O' G', F O' G' ∧ (∀ b, O' b → (O b ∨ w1.heap.size ≤ b) ∧ b < w.heap.size) ∧ Has w G' ∧ Ext O w1 w ∧ (∀ b o, G' b = some o → G1.off O b = some o ∨ w1.heap.size ≤ b ∨ O b)
  | .ret, _, w => ∃ O' G', Fx .ret O' G' ∧ (∀ b, O' b → (O b ∨ w1.heap.size ≤ b) ∧ b < w.heap.size) ∧ Has w G' ∧ Ext O w1 w ∧ (∀ b o, G' b = some o → G1.off O b = some o ∨ w1.heap.size ≤ b ∨ O b)
  | .exit id, _, w => ∃ O' G', Fx (.exit id) O' G' ∧ (∀ b, O' b → (O b ∨ w1.heap.size ≤ b) ∧ b < w.heap.size) ∧ Has w G' ∧ Ext O w1 w ∧ (∀ b o, G' b = some o → G1.off O b = some o ∨ w1.heap.size ≤ b ∨ O b)
  | _, _, _ => False
section
variable {w1 : World} {G1 : Heap} {O : Nat → Prop} {N : Nat} {F : (Nat → Prop) → Heap → Prop} {Fx : Code → (Nat → Prop) → Heap → Prop}
theorem WQ_rdN (O' : Nat → Prop) (hF : F O' G) (hO : ∀ w, WSat ⟨w1, G1.off O, O, N, 0⟩ (fun _ => 0) G [] [] w → ∀ b, O' b → (O b ∨ w1.heap.size ≤ b) ∧ b < w.heap.size) : WQ (Rd w1 G1 O F Fx) .normal ⟨w1, G1.off O, O, N, 0⟩ G S := fun ρ a w hs =>
  ⟨O', G, hF, hO w ⟨hs.2.has, (fun p hp => by cases hp), (fun p hp => by cases hp), (fun p hp => by cases hp), List.nodup_nil, (fun p hp => by cases hp), hs.2.ext, hs.2.g0, hs.2.gnew, (fun p hp => by cases hp)⟩, hs.2.has, hs.2.ext, hs.2.gnew⟩
theorem WQ_rdR (O' : Nat → Prop) (hF : Fx .ret O' G) (hO : ∀ w, WSat ⟨w1, G1.off O, O, N, 0⟩ (fun _ => 0) G [] [] w → ∀ b, O' b → (O b ∨ w1.heap.size ≤ b) ∧ b < w.heap.size) : WQ (Rd w1 G1 O F Fx) .ret ⟨w1, G1.off O, O, N, 0⟩ G S := fun ρ a w hs =>
  ⟨O', G, hF, hO w ⟨hs.2.has, (fun p hp => by cases hp), (fun p hp => by cases hp), (fun p hp => by cases hp), List.nodup_nil, (fun p hp => by cases hp), hs.2.ext, hs.2.g0, hs.2.gnew, (fun p hp => by cases hp)⟩, hs.2.has, hs.2.ext, hs.2.gnew⟩
/-- The same blocks as before. -/
theorem rd_same (hlt : ∀ b, O b → b < w1.heap.size) : ∀ w, WSat ⟨w1, G1.off O, O, N, 0⟩ (fun _ => 0) G [] [] w → ∀ b, O b → (O b ∨ w1.heap.size ≤ b) ∧ b < w.heap.size := fun w hw b hb => ⟨.inl hb, Nat.lt_of_lt_of_le (hlt b hb) hw.ext.size⟩
end

/-- How the loop's world stands between two rounds. -/
structure Jw {α : Type} (c : Ctx) (l : Nat) (o : Obj) (F : (Nat → Prop) → Heap → Prop) (O A : Nat → Prop) (W : World) : Prop where
  ex : ∃ Oi G, F Oi G ∧ (∀ b, O b ↔ Oi b ∨ b = l + 1) ∧ (∀ b, Oi b → c.w0.heap.size ≤ b ∧ b < W.heap.size ∧ b ≠ l ∧ b ≠ l + 1) ∧ Has W G ∧ (∀ b o, G b = some o → c.G0 b = some o ∨ c.w0.heap.size ≤ b) ∧ G l = none ∧ G (l + 1) = none ∧ (∀ b o, G b = some o → A b)
  ext : Ext c.D c.w0 W
  lb : W.heap[l]? = some (.deferred (some []))
  lo : W.heap[l + 1]? = some o
  new : c.w0.heap.size ≤ l
  al : A l
  old : ∀ b, b < c.w0.heap.size → A b
  lt : ∀ b, A b → b < W.heap.size
  sub : ∀ b, O b → A b
theorem Jw.keep {c : Ctx} {l : Nat} {o : Obj} {F : (Nat → Prop) → Heap → Prop} {O A : Nat → Prop} {W W' : World} {D : Nat → Prop} (h : Jw (α := Unit) c l o F O A W) (he : Ext D W W') (hD : ∀ b, D b → ¬ A b) : Jw (α := Unit) c l o F O A W' := by
  have hk : ∀ b, A b → W'.heap[b]? = W.heap[b]? := fun b hb => he.keep b (h.lt b hb) (fun hd => hD b hd hb)
  obtain ⟨Oi, G, h1, h2, h3, h4, h5, h6, h7, h8⟩ := h.ex
  refine ⟨⟨Oi, G, h1, h2, fun b hb => ⟨(h3 b hb).1, Nat.lt_of_lt_of_le (h3 b hb).2.1 he.size, (h3 b hb).2.2⟩, fun b o hb => by rw [hk b (h8 b o hb)]; exact h4 b o hb, h5, h6, h7, h8⟩, ?_, by rw [hk _ h.al]; exact h.lb, ?_, h.new, h.al, h.old, fun b hb => Nat.lt_of_lt_of_le (h.lt b hb) he.size, h.sub⟩
  · refine ⟨he.os.trans h.ext.os, he.tape.trans h.ext.tape, he.output.trans h.ext.output, Nat.le_trans h.ext.size he.size, fun b hb hd => ?_⟩
    rw [hk b (h.old b hb)]; exact h.ext.keep b hb hd
  · rw [hk _ (h.sub _ ((h2 _).2 (.inr rfl)))]; exact h.lo
theorem Ext.putObj (w : World) (l : Nat) (o : Obj) : Ext (fun b => b = l) w (w.putObj l o) :=
  ⟨rfl, rfl, rfl, by simp, fun b _ hn => World.putObj_heap_other hn⟩
/-- A round has ended well: the record is written. -/
theorem Jw.after {c : Ctx} (hD : ∀ b, ¬ c.D b) {l : Nat} {o o0 o2 : Obj} {F F' : (Nat → Prop) → Heap → Prop} {O A : Nat → Prop} {W Wa W3 : World} (h : Jw (α := Unit) c l o F O A W) (he : Ext (fun _ => False) W Wa)
    {Oi : Nat → Prop} {G1 : Heap} (h1 : ∀ b, O b ↔ Oi b ∨ b = l + 1) (h2 : ∀ b, Oi b → c.w0.heap.size ≤ b ∧ b < W.heap.size ∧ b ≠ l ∧ b ≠ l + 1) (h3 : ∀ b o, G1 b = some o → c.G0 b = some o ∨ c.w0.heap.size ≤ b) (h4 : G1 l = none) (h5 : G1 (l + 1) = none) (h6 : ∀ b o, G1 b = some o → A b)
    {O' : Nat → Prop} {G' : Heap} (hF : F' O' G') (hO' : ∀ b, O' b → (Oi b ∨ (Wa.putObj (l + 1) o0).heap.size ≤ b) ∧ b < W3.heap.size) (hH : Has W3 G') (hX : Ext Oi (Wa.putObj (l + 1) o0) W3)
    (hg : ∀ b o, G' b = some o → G1.off Oi b = some o ∨ (Wa.putObj (l + 1) o0).heap.size ≤ b ∨ Oi b) :
    W3.heap[l + 1]? = some o0 ∧ Ext O W (W3.putObj (l + 1) o2) ∧ ∃ O2 A2, Jw (α := Unit) c l o2 F' O2 A2 (W3.putObj (l + 1) o2) ∧ (∀ b, O2 b → O b ∨ W.heap.size ≤ b) ∧ (∀ b, A2 b → A b ∨ W.heap.size ≤ b) := by
  have hl1 : l + 1 < W.heap.size := (Array.getElem?_eq_some_iff.1 h.lo).1
  have hl1a : l + 1 < Wa.heap.size := Nat.lt_of_lt_of_le hl1 he.size
  have hsz : (Wa.putObj (l + 1) o0).heap.size = Wa.heap.size := World.putObj_size
  rw [hsz] at hO' hg
  have hWs : W.heap.size ≤ Wa.heap.size := he.size
  have hW3 : Wa.heap.size ≤ W3.heap.size := by have := hX.size; rw [hsz] at this; exact this
  have e1 : W3.heap[l + 1]? = some o0 := by
    rw [hX.keep (l + 1) (by rw [hsz]; exact hl1a) (fun hb => (h2 _ hb).2.2.2 rfl)]
    exact World.putObj_heap_same hl1a
  have hX' : Ext O W (W3.putObj (l + 1) o2) :=
    (((he.mono (fun _ h => h.elim)).trans ((Ext.putObj Wa (l + 1) o0).mono (fun b hb => (h1 b).2 (.inr hb)))).trans (hX.mono (fun b hb => (h1 b).2 (.inl hb)))).trans ((Ext.putObj W3 (l + 1) o2).mono (fun b hb => (h1 b).2 (.inr hb)))
  have hW4 : (W3.putObj (l + 1) o2).heap.size = W3.heap.size := World.putObj_size
  have gl : G' l = none := by
    cases e : G' l with
    | none => rfl
    | some x =>
      rcases hg l x e with h' | h' | h'
      · have := Heap.off_le _ _ _ _ h'; rw [h4] at this; cases this
      · omega
      · exact absurd rfl (h2 _ h').2.2.1
  have gl1 : G' (l + 1) = none := by
    cases e : G' (l + 1) with
    | none => rfl
    | some x =>
      rcases hg _ x e with h' | h' | h'
      · have := Heap.off_le _ _ _ _ h'; rw [h5] at this; cases this
      · omega
      · exact absurd rfl (h2 _ h').2.2.2
  have hnew := h.new
  have hcsz : c.w0.heap.size ≤ W.heap.size := h.ext.size
  refine ⟨e1, hX', fun b => O' b ∨ b = l + 1, fun b => A b ∨ (W.heap.size ≤ b ∧ b < W3.heap.size), ⟨⟨O', G', hF, fun b => Iff.rfl, fun b hb => ?_, fun b x hb => ?_, fun b x hb => ?_, gl, gl1, fun b x hb => ?_⟩, ?_, ?_, ?_, h.new, .inl h.al, fun b hb => .inl (h.old b hb), fun b hb => ?_, fun b hb => ?_⟩, fun b hb => ?_, fun b hb => hb.imp id And.left⟩
  · rw [hW4]
    obtain ⟨h7, h8⟩ := hO' b hb
    rcases h7 with h7 | h7
    · obtain ⟨i1, i2, i3⟩ := h2 b h7; exact ⟨i1, h8, i3⟩
    · exact ⟨by omega, h8, by omega, by omega⟩
  · rw [World.putObj_heap_other (fun e => by subst e; rw [gl1] at hb; cases hb)]; exact hH b x hb
  · rcases hg b x hb with h' | h' | h'
    · exact h3 b x (Heap.off_le _ _ _ _ h')
    · exact .inr (by omega)
    · exact .inr (h2 b h').1
  · rcases hg b x hb with h' | h' | h'
    · exact .inl (h6 b x (Heap.off_le _ _ _ _ h'))
    · exact .inr ⟨by omega, (Array.getElem?_eq_some_iff.1 (hH b x hb)).1⟩
    · exact .inl (h.sub b ((h1 b).2 (.inl h')))
  · exact h.ext.step hX' (fun b hb => by
      rcases (h1 b).1 hb with h' | h'
      · exact .inl (h2 b h').1
      · exact .inl (by omega))
  · rw [hX'.keep l (by omega) (fun hb => by
      rcases (h1 l).1 hb with h' | h'
      · exact (h2 l h').2.2.1 rfl
      · omega)]
    exact h.lb
  · exact World.putObj_heap_same (by omega)
  · rw [hW4]
    rcases hb with h' | h'
    · have := h.lt b h'; omega
    · exact h'.2
  · rcases hb with h' | h'
    · obtain ⟨h7, h8⟩ := hO' b h'
      rcases h7 with h7 | h7
      · exact .inl (h.sub b ((h1 b).2 (.inl h7)))
      · exact .inr ⟨by omega, h8⟩
    · exact .inl (h.sub b ((h1 b).2 (.inr h')))
  · rcases hb with h' | h'
    · rcases (hO' b h').1 with h7 | h7
      · exact .inl ((h1 b).2 (.inl h7))
      · exact .inr (by omega)
    · exact .inl ((h1 b).2 (.inr h'))
/-- A loop over an iterator: what lies in blocks by number; the rounds' frozen heap varies by F, the blocks that rounds may write by O. -/
theorem WC_rangeF {α : Type} {w0 : World} {G0 : Heap} {N kk : Nat} {g : Operand} {ps : Array Tmp} {assign body : Code} (L : List α) (enc : α → List SV) (f : Nat) (lb : List SV) (Git : Heap) (c : Ctx) (hc : c = ⟨w0, G0, fun _ => False, N, kk⟩)
    (hg : evalO S.env g = some (.fn (.func f) lb)) (hgo : Goes P f) (it : ∀ ρ, IterC P f (SV.denL ρ lb).toArray (fun x => (SV.denL ρ (enc x)).toArray) Git L) (hGit : Le Git G)
    (hfr : S.fresh = true) (hown : S.own = []) (hfz : S.fz = [])
    (F : List α → (Nat → Prop) → Heap → Prop) (Fx : Code → (Nat → Prop) → Heap → Prop) (O0 : Nat → Prop) (h0 : F [] O0 G) (hO0 : ∀ b, O0 b → G0 b = none ∧ ∃ o, G b = some o) (hGO : ∀ b o, Git b = some o → ¬ O0 b)
    (hF0 : ∀ pre O G1, F pre O G1 → Le G0 G1) (hFx0 : ∀ cd O G1, Fx cd O G1 → Le G0 G1)
    (hsz : ∀ x, (enc x).length = ps.size) (e1 e2 : α → List (Nat × SV)) (he1 : ∀ x, e1 x = (ps.toList.zip (enc x)).foldl (fun e p => (p.1, p.2) :: e) S.env) (hps : ps.toList.all (fun t => Nat.blt t N) = true)
    (hassign : ∀ r x (w0 : World) (G0 : Heap) (D : Nat → Prop) (G : Heap) (Q : Exit → Act → World → Prop), WQ Q .normal ⟨w0, G0, D, N, 0⟩ G ⟨e2 x, [], S.nx, [], []⟩ → WC P r Q ⟨w0, G0, D, N, 0⟩ G ⟨e1 x, [], S.nx, [], []⟩ assign)
    (hbody : ∀ l pre x post O G1 w1, L = pre ++ x :: post → F pre O G1 → (∀ b, O b → b < w1.heap.size) → WC P (some l) (Rd w1 G1 O (F (pre ++ [x])) Fx) ⟨w1, G1.off O, O, N, 0⟩ G1 ⟨e2 x, [], S.nx, [], []⟩ body)
    (hdone : ∀ O G1, F L O G1 → WQ Q .normal ⟨w0, G0, fun _ => False, N, kk⟩ G1 ⟨S.env, [(S.nx, .raw (.deferred (some [])))], S.nx + 1, S.nx :: S.ds, []⟩)
    (hstop : ∀ cd O G1, Fx cd O G1 → WC P none Q ⟨w0, G0, fun _ => False, N, kk⟩ G1 ⟨S.env, [(S.nx, .raw (.deferred (some [])))], S.nx + 1, S.nx :: S.ds, []⟩ cd) : WC P none Q c G S (.rangeFunc g ps assign body) := by
  subst hc
  intro ρ a w hs
  refine wpIn_rangeFunc ?_
  intro fn hfn
  have hev : a.eval g = .func (.func f) #[] (SV.denL ρ lb).toArray := by rw [evalO_ok hs.1 hg]; simp only [SV.den]
  obtain ⟨rec, hrec⟩ : ∃ rec : LoopState → Option Code → Loop, rec = fun st pe => { state := st, pending := pe, fn, tmps := a.tmps, params := ps, assign, body, defers := w.heap.size } := ⟨_, rfl⟩
  obtain ⟨W1, hW1⟩ : ∃ W1, (w.alloc (.deferred (some []))).alloc (.loop (rec .ready none)) = W1 := ⟨_, rfl⟩
  have hL1 : W1.heap[w.heap.size + 1]? = some (.loop (rec .ready none)) := by
    rw [← hW1]; have := World.alloc_heap_new (w.alloc (.deferred (some []))) (.loop (rec .ready none)); rwa [World.size_alloc] at this
  have hK1 : W1.heap[w.heap.size]? = some (.deferred (some [])) := by
    rw [← hW1]; exact (Below.heap_alloc _ _ _ (by simp)).trans (World.alloc_heap_new w _)
  have hE1 : Ext (fun _ => False) w W1 := by rw [← hW1]; exact (Ext.alloc _ w _).trans (Ext.alloc _ _ _)
  have hS1 : W1.heap.size = w.heap.size + 2 := by rw [← hW1]; simp
  have hw1 : w0.heap.size ≤ w.heap.size := hs.2.ext.size
  have hGw : ∀ b o, G b = some o → b < w.heap.size := fun b o hb => (Array.getElem?_eq_some_iff.1 (hs.2.has b o hb)).1
  have hGn : G w.heap.size = none := by
    cases e : G w.heap.size with
    | none => rfl
    | some o => have := hGw _ _ e; omega
  have hGn1 : G (w.heap.size + 1) = none := by
    cases e : G (w.heap.size + 1) with
    | none => rfl
    | some o => have := hGw _ _ e; omega
  have hgn : ∀ b o, G b = some o → G0 b = some o ∨ w0.heap.size ≤ b := fun b o hb => by
    rcases hs.2.gnew b o hb with h | h | h
    · exact .inl h
    · exact .inr h
    · exact h.elim
  -- the loop's world at the start
  have hJ0 : Jw (α := Unit) ⟨w0, G0, fun _ => False, N, kk⟩ w.heap.size (.loop (rec .ready none)) (F []) (fun b => O0 b ∨ b = w.heap.size + 1) (fun b => b < W1.heap.size) W1 := by
    refine ⟨⟨O0, G, h0, fun b => Iff.rfl, fun b hb => ?_, fun b o hb => ?_, hgn, hGn, hGn1, fun b o hb => ?_⟩, hs.2.ext.trans hE1, hK1, hL1, hw1, ?_, fun b hb => ?_, fun b hb => hb, fun b hb => ?_⟩
    · obtain ⟨h1, o, h2⟩ := hO0 b hb
      have h3 := hGw _ _ h2
      rcases hgn b o h2 with h | h
      · rw [h1] at h; cases h
      · exact ⟨h, by omega, by omega, by omega⟩
    · rw [hE1.keep b (hGw _ _ hb) (fun x => x)]; exact hs.2.has b o hb
    · have := hGw _ _ hb; show b < W1.heap.size; omega
    · show w.heap.size < W1.heap.size; omega
    · show b < W1.heap.size
      have : b < w0.heap.size := hb
      omega
    · show b < W1.heap.size
      rcases hb with hb | hb
      · obtain ⟨h1, o, h2⟩ := hO0 b hb
        have := hGw _ _ h2; omega
      · omega
  have hF : (WF none).fn f := trivial
  refine ⟨w.heap.size + 1, [{ target := .collected w.heap.size, args := #[] }], W1, { target := .fn (.func f) (SV.denL ρ lb).toArray, args := #[.func (.yield (w.heap.size + 1)) #[] #[]] }, W1, f,
    #[.func (.yield (w.heap.size + 1)) #[] #[]] ++ (SV.denL ρ lb).toArray, W1, ?_, ?_, ?_, ?_, fun hd => by simp [WF, Fence.wide] at hd, ?_⟩
  · rw [← hW1, hrec]; exact run_enterLoop_outer _ _ _ _ _
  · simp only [resolve, hev]
    simp [go_sem]
  · intro f' hf'; trivial
  · have eg : ∀ args w, (callFunc f args).run P w = .ok (.enter f args) w := hgo
    simp [invoke, go_sem, eg]
  · -- the rounds
    have hYs : Yields P (w.heap.size + 1) (fun x => (SV.denL ρ (enc x)).toArray) L
        (fun pre O A W => Jw (α := Unit) ⟨w0, G0, fun _ => False, N, kk⟩ w.heap.size (.loop (rec .ready none)) (F pre) O A W)
        (fun _ O A W => ∃ cd, Jw (α := Unit) ⟨w0, G0, fun _ => False, N, kk⟩ w.heap.size (.loop (rec .done (some cd))) (Fx cd) O A W) := by
      refine ⟨fun pre O A W W' D h he hD => h.keep he hD, fun pre O A W W' D h he hD => ?_, fun pre O A W h => h.lt, fun pre O A W h => h.sub, fun pre x post O A W hL h => ?_⟩
      · obtain ⟨cd, h⟩ := h; exact ⟨cd, h.keep he hD⟩
      · obtain ⟨Oi, G1, i1, i2, i3, i4, i5, i6, i7, i8⟩ := h.ex
        have hl1 : w.heap.size + 1 < W.heap.size := (Array.getElem?_eq_some_iff.1 h.lo).1
        have hy := run_yield (P := P) (args := (SV.denL ρ (enc x)).toArray) h.lo (by rw [hrec]; simp [denL_length, hsz x])
        rw [hrec] at hy
        refine ⟨fn, _, assign, body, hy, roundIn_of_wpIn trivial ?_⟩
        -- the frame of the round
        have hA1 : ASat ⟨W, fun b => W.heap[b]?, fun _ => False, N, 0⟩ ρ (e1 x) [] { tmps := (ps.zip (SV.denL ρ (enc x)).toArray).foldl (fun t p => t.setIfInBounds p.1 p.2) a.tmps, defers := [] } := by
          have key : ∀ (l : List (Nat × SV)) (t : Array Value) (e : List (Nat × SV)), (∀ p ∈ l, p.1 < N) → t.size = N → (∀ k y, get e k = some y → t[k]? = some (y.den ρ)) →
              ((l.map fun p => (p.1, p.2.den ρ)).foldl (fun t p => t.setIfInBounds p.1 p.2) t).size = N ∧ ∀ k y, get (l.foldl (fun e p => (p.1, p.2) :: e) e) k = some y → ((l.map fun p => (p.1, p.2.den ρ)).foldl (fun t p => t.setIfInBounds p.1 p.2) t)[k]? = some (y.den ρ) := by
            intro l
            induction l with
            | nil => intro t e _ h1 h2; exact ⟨h1, h2⟩
            | cons p l ih =>
              intro t e hlt h1 h2
              simp only [List.map_cons, List.foldl_cons]
              refine ih _ _ (fun q hq => hlt q (List.mem_cons_of_mem _ hq)) (by simp [h1]) (fun k y hk => ?_)
              rw [get_cons] at hk
              by_cases e' : p.1 = k
              · rw [if_pos e'] at hk; injection hk with hk; subst hk; subst e'
                rw [Array.getElem?_setIfInBounds_self_of_lt (by rw [h1]; exact hlt p List.mem_cons_self)]
              · rw [if_neg e'] at hk
                rw [Array.getElem?_setIfInBounds_ne e']; exact h2 k y hk
          have hzip : (ps.zip (SV.denL ρ (enc x)).toArray).toList = (ps.toList.zip (enc x)).map fun p => (p.1, p.2.den ρ) := by
            rw [Array.toList_zip]
            simp only [SV.denL_eq]
            rw [show ps.toList.zip (List.map (SV.den ρ) (enc x)) = (ps.toList.zip (enc x)).map (Prod.map id (SV.den ρ)) from by rw [List.zip_map_right]]
            rfl
          have := key (ps.toList.zip (enc x)) a.tmps S.env (fun p hp => by
            have := List.all_eq_true.1 hps p.1 (List.of_mem_zip hp).1
            simpa using this) hs.1.size hs.1.slot
          rw [← Array.foldl_toList, hzip]
          refine ⟨this.1, fun t y hy => ?_, rfl⟩
          rw [he1 x] at hy
          exact this.2 t y hy
        have hWs : WSat ⟨W, fun b => W.heap[b]?, fun _ => False, N, 0⟩ ρ (fun b => W.heap[b]?) [] [] W := wsat_start (fun b o hb => hb) _ _ _ _
        refine hassign (some (w.heap.size + 1)) x W (fun b => W.heap[b]?) (fun _ => False) (fun b => W.heap[b]?) _ ?_ ρ _ _ ⟨hA1, hWs⟩
        intro ρ2 a2 Wa hs2
        have heA : Ext (fun _ => False) W Wa := hs2.2.ext
        have hla : Wa.heap[w.heap.size + 1]? = some (.loop (rec .ready none)) := by rw [heA.keep _ hl1 (fun x => x)]; exact h.lo
        refine ⟨_, run_beginRound hla (by rw [hrec]), ?_⟩
        have hsz2 : (Wa.putObj (w.heap.size + 1) (.loop { rec .ready none with state := .busy })).heap.size = Wa.heap.size := World.putObj_size
        have hb1 := hbody (w.heap.size + 1) pre x post Oi G1 (Wa.putObj (w.heap.size + 1) (.loop { rec .ready none with state := .busy })) hL i1 (fun b hb => by rw [hsz2]; exact Nat.lt_of_lt_of_le (i3 b hb).2.1 heA.size) ρ2 a2 _ ⟨⟨hs2.1.size, hs2.1.slot, hs2.1.defs⟩, ⟨fun b o hb => by
            rw [World.putObj_heap_other (fun e => by subst e; rw [i7] at hb; cases hb), heA.keep b (Array.getElem?_eq_some_iff.1 (i4 b o hb)).1 (fun x => x)]; exact i4 b o hb,
          (fun p hp => by cases hp), (fun p hp => by cases hp), (fun p hp => by cases hp), List.nodup_nil, (fun p hp => by cases hp), Ext.refl _ _, Heap.off_le _ _, fun b o hb => by
            by_cases e : Oi b
            · exact .inr (.inr e)
            · exact .inl (Heap.off_some hb e), (fun p hp => by cases hp)⟩⟩
        refine wpIn_mono hb1 ?_
        intro e a3 W3 hp
        have hD : ∀ b, ¬ (⟨w0, G0, fun _ => False, N, kk⟩ : Ctx).D b := fun b hb => hb
        cases e with
        | normal =>
          obtain ⟨O', G', j1, j2, j3, j4, j5⟩ := hp
          obtain ⟨k1, k2, O2, A2, k3, k4, k5⟩ := h.after (o2 := .loop (rec .ready none)) hD heA i2 i3 i5 i6 i7 i8 j1 j2 j3 j4 j5
          have := run_endRound (P := P) none k1
          rw [hrec] at this k2 k3
          simp only [hrec]
          exact ⟨_, _, this, k2, .inl ⟨rfl, O2, A2, k3, k4, k5⟩⟩
        | ret =>
          obtain ⟨O', G', j1, j2, j3, j4, j5⟩ := hp
          obtain ⟨k1, k2, O2, A2, k3, k4, k5⟩ := h.after (o2 := .loop (rec .done (some .ret))) hD heA i2 i3 i5 i6 i7 i8 j1 j2 j3 j4 j5
          have := run_endRound (P := P) (some .ret) k1
          rw [hrec] at this k2 k3
          simp only [hrec]
          exact ⟨_, _, this, k2, .inr ⟨rfl, O2, A2, ⟨_, k3⟩, k5⟩⟩
        | exit id =>
          obtain ⟨O', G', j1, j2, j3, j4, j5⟩ := hp
          obtain ⟨k1, k2, O2, A2, k3, k4, k5⟩ := h.after (o2 := .loop (rec .done (some (.exit id)))) hD heA i2 i3 i5 i6 i7 i8 j1 j2 j3 j4 j5
          have := run_endRound (P := P) (some (.exit id)) k1
          rw [hrec] at this k2 k3
          simp only [hrec]
          exact ⟨_, _, this, k2, .inr ⟨rfl, O2, A2, ⟨_, k3⟩, k5⟩⟩
        | goto t => exact hp.elim
        | panic ch => exact hp.elim
        | outgrown => exact hp.elim
    have hcall := it ρ (w.heap.size + 1) _ _ W1 _ _ hYs (fun b o hb => by rw [hE1.keep b (hGw _ _ (hGit _ _ hb)) (fun x => x)]; exact hs.2.has b o (hGit _ _ hb)) (fun b o hb hO => by
      rcases hO with hO | hO
      · exact hGO b o hb hO
      · have := hGw _ _ (hGit _ _ hb); omega) hJ0
    refine (callsIn_WF (r := none) (n := 0 - 1) hcall).mono ?_
    -- behind it
    have hfin : ∀ (W2 : World) (st : LoopState) (pe : Option Code) (F' : (Nat → Prop) → Heap → Prop) (O A : Nat → Prop), (∀ O G, F' O G → Le G0 G) → Jw (α := Unit) ⟨w0, G0, fun _ => False, N, kk⟩ w.heap.size (.loop (rec st pe)) F' O A W2 →
        ∃ Oi G1, F' Oi G1 ∧ Sat ⟨w0, G0, fun _ => False, N, kk⟩ (upd ρ S.nx w.heap.size) G1 ⟨S.env, [(S.nx, .raw (.deferred (some [])))], S.nx + 1, S.nx :: S.ds, []⟩ { a with defers := { target := .collected w.heap.size, args := #[] } :: a.defers } (W2.putObj (w.heap.size + 1) (.loop { rec st pe with state := .exhausted })) := by
      intro W2 st pe F' O A hle h
      obtain ⟨Oi, G1, i1, i2, i3, i4, i5, i6, i7, i8⟩ := h.ex
      have hlt : w.heap.size < W2.heap.size := (Array.getElem?_eq_some_iff.1 h.lb).1
      have hA' := hs.1.re hfr (upd_lt ρ S.nx w.heap.size)
      refine ⟨Oi, G1, i1, ⟨hA'.size, hA'.slot, ?_⟩, ⟨fun b o hb => ?_, fun p hp hpo => ?_, fun p hp hpo => ?_, fun p hp hpo => ?_, by simp, fun p hp q hq _ _ _ => ?_, h.ext.step (Ext.putObj _ _ _) (fun b hb => ?_), hle _ _ i1, fun b o hb => ?_, (fun p hp => by cases hp)⟩⟩
      · show { target := .collected w.heap.size, args := #[] } :: a.defers = dsOf _ (S.nx :: S.ds)
        rw [hA'.defs]; simp [dsOf, upd_same]
      · rw [World.putObj_heap_other (fun e => by subst e; rw [i7] at hb; cases hb)]; exact i4 b o hb
      · simp only [List.mem_singleton] at hp; subst hp
        simp only [upd_same, OB.den]
        rw [World.putObj_heap_other (by omega)]; exact h.lb
      · simp only [List.mem_singleton] at hp; subst hp
        simp only [upd_same]; exact i6
      · simp only [List.mem_singleton] at hp; subst hp
        simp only [upd_same]; exact .inl hw1
      · simp only [List.mem_singleton] at hp hq; subst hp; subst hq; rfl
      · subst hb; left; show w0.heap.size ≤ w.heap.size + 1; omega
      · rcases i5 b o hb with h' | h'
        · exact .inl h'
        · exact .inr (.inl h')
    rintro e W2 ⟨⟨v, rfl⟩, (⟨O', A', hj⟩ | ⟨pre, O', A', hpre, cd, hj⟩)⟩
    · obtain ⟨Oi, G1, i1, i2⟩ := hfin W2 _ _ _ O' A' (hF0 L) hj
      exact ⟨none, _, by have := run_endLoop (P := P) hj.lo (by rw [hrec]; simp); rw [hrec] at this; exact this, by have := hdone Oi G1 i1 _ _ _ i2; rw [hrec] at this; exact this⟩
    · obtain ⟨Oi, G1, i1, i2⟩ := hfin W2 _ _ _ O' A' (hFx0 cd) hj
      exact ⟨some cd, _, by have := run_endLoop (P := P) hj.lo (by rw [hrec]; simp); rw [hrec] at this; exact this, by have := hstop cd Oi G1 i1 _ _ _ i2; rw [hrec] at this; exact this⟩

/-- A function that holds a loop over an iterator ends: the mark is taken in. -/
theorem WQ_doneM {fn : Func} {Φ : Value → Heap → World → Prop} {c : Ctx} (d : Nat) (v : Value) (e : Exit) (he : e = .ret ∨ e = .normal) (hd : S.ds = [d]) (hg : get S.own d = some (.raw (.deferred (some []))))
    (hr : ∀ ρ a w, Sat c ρ G { S with ds := [], own := del S.own d } a w → (results fn a.tmps).run P w = .ok v w) (h : ∀ ρ w, WSat c ρ G (del S.own d) S.fz w → Φ v G w) : WQ (bodyPostM (WF none) 0 P fn (RetW c.D c.w0 c.G0 Φ)) e c G S := by
  intro ρ a w hs
  have hk := hs.2.keys
  have hm := get_mem hg
  have hb := hs.2.cells _ hm rfl
  simp only [OB.den] at hb
  have hs' : Sat c ρ G { S with ds := [], own := del S.own d } { a with defers := [] } (w.putObj (ρ d) (.deferred none)) := by
    refine ⟨⟨hs.1.size, hs.1.slot, rfl⟩, ⟨fun b o hbo => ?_, fun p hp hpo => ?_, fun p hp => hs.2.sep p (del_sub hp), fun p hp => hs.2.may p (del_sub hp), del_nodup hk, fun p hp q hq => hs.2.inj p (del_sub hp) q (del_sub hq), hs.2.ext.step (Ext.putObj _ _ _) (fun i hi => ?_), hs.2.g0, hs.2.gnew, hs.2.froz⟩⟩
    · rw [World.putObj_heap_other (fun e => by subst e; have := hs.2.sep _ hm rfl; rw [hbo] at this; cases this)]; exact hs.2.has b o hbo
    · rw [World.putObj_heap_other (fun e => del_ne hk hp (hs.2.inj p (del_sub hp) _ hm hpo rfl e))]; exact hs.2.cells p (del_sub hp) hpo
    · subst hi
      rcases hs.2.may _ hm rfl with h1 | h1
      · exact .inl h1
      · exact .inr h1.1
  have hq : LeavesInM (WF none) 0 P fn a.tmps (RetW c.D c.w0 c.G0 Φ) a.defers .returning w := by
    rw [hs.1.defs, hd]
    refine ⟨by simp, .inl ⟨ρ d, _, rfl, run_takeDeferred hb, ?_⟩⟩
    refine ⟨v, hr ρ { a with defers := [] } _ hs', v, G, rfl, hs'.2.g0, hs'.2.has, hs'.2.gnew, hs'.2.ext, h ρ _ hs'.2⟩
  rcases he with rfl | rfl <;> exact hq
/-- One scalar result that lies in a block by number. -/
theorem results_cell1 (htb : TblOK P tb) {c : Ctx} {fn : Func} {q : Nat} {ty : TypeId} {i : TI} (hr : fn.results.toList = [.cell q ty]) (hi : get tb ty = some i) (ha : i.agg = false) {b : Addr} (hq : get S.env q = some (.v (.pointer (some b)))) {v : Value} (hb : At G b [v]) :
    ∀ ρ a w, Sat c ρ G S a w → (results fn a.tmps).run P w = .ok v w := by
  intro ρ a w hs
  have e : fn.results = #[.cell q ty] := by rw [← Array.toArray_toList (xs := fn.results), hr]
  have h1 := hs.1.slot q _ hq
  simp only [SV.den] at h1
  have h2 := run_loadVar_cell (htb.at hi) (w := w) (q := b) (v := v) (by have := hb.cell hs.2.has (j := 0) (v := v) rfl; simpa [Addr.add] using this) ha
  unfold results
  rw [e]
  simp [Array.mapM_eq_mapM_toList, Sem.run_bind, h1, asAddr, h2]
end
end Go.Proofs.Ytfemkbockhpmcaa.Sym
