/- The symbolic layer, eleventh part: stores into blocks of the run's own that are known by their number; a three-dimensional array of bools. Own work. -/
import Derived.Test.YtfemkbockhpmcaaSymJ
set_option linter.unusedSimpArgs false
set_option linter.unusedVariables false
namespace Go.Proofs.Ytfemkbockhpmcaa.Sym
open Go Go.Proofs Go.RowKit
section
variable {P : Program} {r : Option Nat} {ops : Array Oper} {Q : Exit → Act → World → Prop} {c : Ctx} {G Gs : Heap} {S : St} {tb : Tbl} {K : Act → World → Prop}

/-- A drawn region in which some frozen blocks are written: what stays is Gs. -/
theorem WC_drawG {id : Nat} {l : List Oper} (hm : P.follows .mixedOrders = true) (Gs : Heap) (h : WD P r l.toArray Q c Gs l.length (Array.replicate l.length false) G S) : WC P r Q c G S (.region id l.toArray true) := by
  intro ρ a w hs
  refine wpIn_region_draw fun t => ?_
  simp only [Region.schedule, hm, Bool.true_or, if_true]
  refine wpAnyIn_sound l.toArray.size t _ a _ (wpAny_of_H' (H := fun w' => Has w' Gs) _ _ _ _ ?_)
  have hs' : Sat c ρ G S a { w with drawn := w.drawn + 1 } :=
    ⟨hs.1, ⟨hs.2.has, hs.2.cells, hs.2.sep, hs.2.may, hs.2.keys, hs.2.inj, hs.2.ext.trans (Ext.drawn _ _ _), hs.2.g0, hs.2.gnew, hs.2.froz⟩⟩
  simpa using h ρ a _ hs'

theorem WK_freezeLN (h : Nat) {e : TypeId} {arr : Array Value} (ho : get S.own h = some (.lst false e arr)) (hk : Nat.ble c.k h = true)
    (k : ∀ b G', Le G G' → G b = none → G' b = some (.cells arr e (0, 0)) → WK c G' (S.instN h b) K) : WK c G S K := by
  intro ρ a w hs
  obtain ⟨h1, h2⟩ := hs.2.freeze ho rfl (Nat.le_of_ble_eq_true hk)
  exact k (ρ h) _ (Heap.add_le h2) h2 (Heap.add_same _ _ _) ρ a w ⟨hs.1.instN h, h1.instN h⟩

theorem WSat.putG {ρ : Nat → Nat} {own : List (Nat × OB)} {fz : List (Nat × Nat × OB)} {w w' : World} (hW : WSat c ρ G own fz w) {b : Nat} {o o' : Obj} (hg : G b = some o) (h0 : c.G0 b = none)
    (hf : ∀ p ∈ fz, p.2.1 ≠ b) (hb : w'.heap[b]? = some o') (he : Ext (fun i => i = b) w w') : WSat c ρ (G.add b o') own fz w' := by
  have hne : ∀ p ∈ own, p.2.on = true → ρ p.1 ≠ b := fun p hp hpo e => by have := hW.sep p hp hpo; rw [e, hg] at this; cases this
  have hn : c.w0.heap.size ≤ b ∨ c.D b := by
    rcases hW.gnew b o hg with h | h
    · rw [h0] at h; cases h
    · exact h
  refine ⟨fun k x hk => ?_, fun p hp hpo => ?_, fun p hp hpo => ?_, hW.may, hW.keys, hW.inj, hW.ext.step he (fun i hi => ?_), fun k x hk => ?_, fun k x hk => ?_, fun p hp => ?_⟩
  · unfold Heap.add at hk
    split at hk
    · rename_i e; subst e; injection hk with hk; subst hk; exact hb
    · rename_i e
      have h1 := hW.has k x hk
      rw [he.keep k (Array.getElem?_eq_some_iff.1 h1).1 e]; exact h1
  · have h1 := hW.cells p hp hpo
    rw [he.keep _ (Array.getElem?_eq_some_iff.1 h1).1 (hne p hp hpo)]; exact h1
  · unfold Heap.add; rw [if_neg (hne p hp hpo)]; exact hW.sep p hp hpo
  · subst hi; exact hn
  · unfold Heap.add
    by_cases e : k = b
    · subst e; rw [h0] at hk; cases hk
    · rw [if_neg e]; exact hW.g0 k x hk
  · unfold Heap.add at hk
    split at hk
    · rename_i e; subst e; exact .inr hn
    · exact hW.gnew k x hk
  · obtain ⟨h1, h2⟩ := hW.froz p hp
    refine ⟨h1, ?_⟩
    unfold Heap.add; rw [if_neg (hf p hp)]; exact h2

def stoGC (tb : Tbl) (ops : List Oper) (S : St) (o : Oper) : Option (Addr × List SV) :=
  match wantS ops S.env o, o.dst with
  | some true, none => match o.op with
    | .store t x y => match evalO S.env x, evalO S.env y, get tb t with
      | some (.v (.pointer (some q))), some y, some T => match y.cells with
        | some cs => bif Nat.beq cs.length T.size && SV.oneL cs then some (q, cs) else none
        | none => none
      | _, _, _ => none
    | _ => none
  | _, _ => none
/-- A store into a block of the run's own. -/
theorem WOp_stoG (htb : TblOK P tb) {o : Oper} (q : Addr) (cs : List SV) (vs : List Value) (hC : stoGC tb ops.toList S o = some (q, cs)) (hv : ∀ ρ, SV.denL ρ cs = vs) {b off : Nat} (hq : q = ⟨b, off, none⟩) {e : TypeId} {arr : Array Value}
    (hg : G b = some (.cells arr e (0, 0))) (h0 : c.G0 b = none) (hf : ∀ p ∈ S.fz, p.2.1 ≠ b) (hfit : off + vs.length ≤ arr.size)
    (k : WK c (G.add b (.cells (arr.toList.take off ++ vs ++ arr.toList.drop (off + vs.length)).toArray e (0, 0))) S K) : WOp P r ops Q c G S o K := by
  intro ρ a w hs
  unfold stoGC at hC
  split at hC
  · rename_i hw hdst
    split at hC
    · rename_i t x y hop
      split at hC
      · rename_i q' y' T hx hy ht
        split at hC
        · rename_i cs' hyc
          cases hb : (Nat.beq cs'.length T.size && SV.oneL cs') with
          | false => rw [hb] at hC; cases hC
          | true =>
            rw [hb] at hC
            simp only [cond_true, Option.some.injEq, Prod.mk.injEq] at hC
            obtain ⟨rfl, rfl⟩ := hC
            subst hq
            simp only [Bool.and_eq_true] at hb
            have hblk := hs.2.has _ _ hg
            have hqc := SV.cells_ok ρ hyc
            have hrun : (storeVar t ⟨b, off, none⟩ (y'.den ρ)).run P w = .ok () (w.setRow b (arr.toList.take off ++ vs ++ arr.toList.drop (off + vs.length)).toArray) := by
              unfold storeVar
              have hlen : (SV.denL ρ cs').length = T.size := by rw [denL_length]; exact Nat.eq_of_beq_eq_true hb.1
              simp only [Sem.run_bind, run_sizeOf_TI (htb.at ht), Result.andThen_ok, hqc, List.size_toArray, hlen, ne_eq, not_true_eq_false, if_false]
              have := run_storeCells_at P b off e (SV.denL ρ cs') 0 arr w hblk (by rw [hv ρ]; omega) (SV.oneL_ok ρ hb.2)
              rw [hv ρ] at this
              simpa [hv ρ] using this
            show if _ then _ else _
            rw [if_pos (wantS_ok hs.1 hw)]
            refine ⟨fun f _ => trivial, ?_⟩
            show Oper.uponIn (WF r) 0 P o a K Q (Sem.run P (Oper.semAt r a.eval o) w)
            rw [Oper.semAt_eq r _ o (by rw [hop]; intro cl e; cases e)]
            obtain ⟨dst, op, type, pos, after, guard⟩ := o
            simp only at hop hdst; subst hop; subst hdst
            simp only [execOp, Instr.storeAt, Sem.run_bind, evalO_ok hs.1 hx, evalO_ok hs.1 hy, SV.den, Instr.sureAddr, Sem.run_pure, Result.andThen_ok, hrun]
            exact k ρ a _ ⟨hs.1, hs.2.putG hg h0 hf (setRow_heap w b _ _ e _ hblk) (Ext.setRow w b _)⟩
        · cases hC
      · cases hC
    · cases hC
  · cases hC

/-- The cells of one's own blocks, spelled otherwise. -/
def sameO (ρ : Nat → Nat) : List (Nat × OB) → List (Nat × OB) → Prop
  | [], [] => True
  | (t, .cells T x) :: l, (u, .cells U y) :: m => t = u ∧ T = U ∧ SV.denL ρ x = SV.denL ρ y ∧ sameO ρ l m
  | (t, x) :: l, (u, y) :: m => t = u ∧ x = y ∧ sameO ρ l m
  | _, _ => False
theorem sameO_ok {ρ : Nat → Nat} : ∀ {l m : List (Nat × OB)}, sameO ρ l m → l.map (·.1) = m.map (·.1) ∧ (∀ q ∈ m, ∃ p ∈ l, p.1 = q.1 ∧ p.2.on = q.2.on ∧ p.2.den ρ = q.2.den ρ) := by
  intro l
  induction l with
  | nil => intro m h; cases m with
    | nil => exact ⟨rfl, fun q hq => by cases hq⟩
    | cons _ _ => cases h
  | cons p l ih => intro m h; cases m with
    | nil => obtain ⟨t, x⟩ := p; cases x <;> cases h
    | cons q m =>
      obtain ⟨t, x⟩ := p; obtain ⟨u, y⟩ := q
      have key : t = u ∧ x.on = y.on ∧ x.den ρ = y.den ρ ∧ sameO ρ l m := by
        cases x <;> cases y <;> simp only [sameO] at h
        case cells.cells => obtain ⟨h1, h2, h3, h4⟩ := h; subst h2; exact ⟨h1, rfl, by simp only [OB.den, h3], h4⟩
        all_goals (obtain ⟨h1, h2, h4⟩ := h; first | (cases h2; exact ⟨h1, rfl, rfl, h4⟩) | cases h2)
      obtain ⟨h1, h2, h3, h4⟩ := key
      obtain ⟨i1, i2⟩ := ih h4
      refine ⟨by simp [h1, i1], fun z hz => ?_⟩
      rcases List.mem_cons.1 hz with rfl | hz
      · exact ⟨_, List.mem_cons_self, h1, h2, h3⟩
      · obtain ⟨p, hp, k⟩ := i2 z hz
        exact ⟨p, List.mem_cons_of_mem _ hp, k⟩
theorem WK_own (o : List (Nat × OB)) (h : ∀ ρ, sameO ρ S.own o) (k : WK c G { S with own := o } K) : WK c G S K := fun ρ a w ⟨hA, hW⟩ => by
  obtain ⟨h1, h2⟩ := sameO_ok (h ρ)
  refine k ρ a w ⟨hA, ⟨hW.has, fun q hq hon => ?_, fun q hq hon => ?_, fun q hq hon => ?_, by show (o.map (·.1)).Nodup; rw [← h1]; exact hW.keys, fun q hq q' hq' hon hon' e => ?_, hW.ext, hW.g0, hW.gnew, hW.froz⟩⟩
  · obtain ⟨p, hp, e1, e2, e3⟩ := h2 q hq; rw [← e1, ← e3]; exact hW.cells p hp (e2.trans hon)
  · obtain ⟨p, hp, e1, e2, e3⟩ := h2 q hq; rw [← e1]; exact hW.sep p hp (e2.trans hon)
  · obtain ⟨p, hp, e1, e2, e3⟩ := h2 q hq; rw [← e1]; exact hW.may p hp (e2.trans hon)
  · obtain ⟨p, hp, e1, e2, e3⟩ := h2 q hq; obtain ⟨p', hp', f1, f2, f3⟩ := h2 q' hq'
    rw [← e1, ← f1]; rw [← e1, ← f1] at e; exact hW.inj p hp p' hp' (e2.trans hon) (f2.trans hon') e
end

/-! A three-dimensional array of bools, in blocks that lie in no elder heap. -/
structure Cube (Gb G : Heap) (b0 : Nat) (f : Nat → Nat) (g : Nat → Nat → Nat) (m n : Nat) (c : Nat → Nat → Nat → Bool) : Prop where
  top : ∀ r, r < m → At G ⟨b0, r, none⟩ [.slice (some ⟨f r, 0, none⟩) n n]
  mid : ∀ r i, r < m → i < n → At G ⟨f r, i, none⟩ [.slice (some ⟨g r i, 0, none⟩) n n]
  low : ∀ r i, r < m → i < n → ∃ T arr, G (g r i) = some (.cells arr T (0, 0)) ∧ arr.size = n ∧ ∀ j, j < n → arr[j]? = some (.bool (c r i j))
  new : ∀ r i, r < m → i < n → Gb (g r i) = none
  ne0 : ∀ r i, r < m → i < n → g r i ≠ b0
  ne1 : ∀ r i r', r < m → i < n → r' < m → g r i ≠ f r'
  inj : ∀ r i r' i', r < m → i < n → r' < m → i' < n → g r i = g r' i' → r = r' ∧ i = i'
theorem Cube.mono {Gb G G' : Heap} {b0 : Nat} {f : Nat → Nat} {g : Nat → Nat → Nat} {m n : Nat} {c : Nat → Nat → Nat → Bool} (h : Cube Gb G b0 f g m n c) (hle : Le G G') : Cube Gb G' b0 f g m n c :=
  ⟨fun r hr => (h.top r hr).mono hle, fun r i hr hi => (h.mid r i hr hi).mono hle, fun r i hr hi => by obtain ⟨T, a, h1, h2⟩ := h.low r i hr hi; exact ⟨T, a, hle _ _ h1, h2⟩, h.new, h.ne0, h.ne1, h.inj⟩
theorem At.ne {G : Heap} {q : Addr} {cs : List Value} {b : Nat} {o : Obj} (h : At G q cs) (hb : q.block ≠ b) : At (G.add b o) q cs := by
  obtain ⟨a, T, fr, h1, h2, h3⟩ := h
  exact ⟨a, T, fr, by unfold Heap.add; rw [if_neg hb]; exact h1, h2, h3⟩
theorem Cube.set {Gb G : Heap} {b0 : Nat} {f : Nat → Nat} {g : Nat → Nat → Nat} {m n : Nat} {c : Nat → Nat → Nat → Bool} (h : Cube Gb G b0 f g m n c) {r i j : Nat} (hr : r < m) (hi : i < n) (hj : j < n) {T : TypeId} {arr : Array Value} (ha : G (g r i) = some (.cells arr T (0, 0))) (v : Bool) :
    Cube Gb (G.add (g r i) (.cells (arr.toList.take j ++ [Value.bool v] ++ arr.toList.drop (j + 1)).toArray T (0, 0))) b0 f g m n (fun r' i' j' => if r' = r ∧ i' = i ∧ j' = j then v else c r' i' j') := by
  refine ⟨fun r' hr' => (h.top r' hr').ne (Ne.symm (h.ne0 r i hr hi)), fun r' i' hr' hi' => (h.mid r' i' hr' hi').ne (Ne.symm (h.ne1 r i r' hr hi hr')), fun r' i' hr' hi' => ?_, h.new, h.ne0, h.ne1, h.inj⟩
  obtain ⟨T', a', h1, h2, h3⟩ := h.low r' i' hr' hi'
  by_cases e : g r' i' = g r i
  · obtain ⟨rfl, rfl⟩ := h.inj _ _ _ _ hr' hi' hr hi e
    rw [ha] at h1; injection h1 with h1; injection h1 with h4 h5 _; subst h4; subst h5
    have hs : arr.toList.length = n := by simpa using h2
    refine ⟨T, _, Heap.add_same _ _ _, by simp; omega, fun j' hj' => ?_⟩
    have h6 := h3 j' hj'
    rw [List.getElem?_toArray]
    by_cases ej : j' = j
    · subst ej; rw [if_pos ⟨rfl, rfl, rfl⟩, List.append_assoc, List.getElem?_append_right (by simp; omega)]
      have : j' - (List.take j' arr.toList).length = 0 := by simp; omega
      rw [this]; rfl
    · rw [if_neg (fun x => ej x.2.2), ← h6]
      rcases Nat.lt_or_gt_of_ne ej with hlt | hgt
      · rw [List.append_assoc, List.getElem?_append_left (by simp; omega), List.getElem?_take, if_pos hlt]; simp
      · rw [List.getElem?_append_right (by simp; omega)]
        have : j' - (List.take j arr.toList ++ [Value.bool v]).length = j' - (j + 1) := by simp; omega
        rw [this, List.getElem?_drop]
        have : j + 1 + (j' - (j + 1)) = j' := by omega
        rw [this]; simp
  · refine ⟨T', a', by unfold Heap.add; rw [if_neg e]; exact h1, h2, fun j' hj' => ?_⟩
    rw [if_neg (fun x => e (by rw [x.1, x.2.1]))]; exact h3 j' hj'
theorem Cube.le {Gb G : Heap} {b0 : Nat} {f : Nat → Nat} {g : Nat → Nat → Nat} {m n : Nat} {c : Nat → Nat → Nat → Bool} (h : Cube Gb G b0 f g m n c) (hle : Le Gb G) {r i : Nat} (hr : r < m) (hi : i < n) (o : Obj) : Le Gb (G.add (g r i) o) := fun k x hk => by
  unfold Heap.add
  by_cases e : k = g r i
  · subst e; rw [h.new r i hr hi] at hk; cases hk
  · rw [if_neg e]; exact hle k x hk
def cubeL (m n : Nat) (c : Nat → Nat → Nat → Bool) : List (List (List Bool)) := (List.range m).map fun r => (List.range n).map fun i => (List.range n).map fun j => c r i j
theorem range_map_get {α : Type} {n i : Nat} {f : Nat → α} {x : α} (h : ((List.range n).map f)[i]? = some x) : i < n ∧ x = f i := by
  rw [List.getElem?_map] at h
  have hi : i < n := by
    rcases Nat.lt_or_ge i n with h' | h'
    · exact h'
    · rw [List.getElem?_eq_none (by simpa using h')] at h; cases h
  rw [List.getElem?_range hi] at h
  injection h with h
  exact ⟨hi, h.symm⟩
theorem Cube.sl {Gb G : Heap} {b0 : Nat} {f : Nat → Nat} {g : Nat → Nat → Nat} {m n : Nat} {c : Nat → Nat → Nat → Bool} (h : Cube Gb G b0 f g m n c) (hm : m ≤ big) (hn : n ≤ big) : Sl (tSlice (tSlice tBool)) G (some ⟨b0, 0, none⟩) m m (cubeL m n c) := by
  refine ⟨by simp [cubeL], Nat.le_refl _, hm, fun r x hx => ?_⟩
  obtain ⟨hr, rfl⟩ := range_map_get hx
  refine ⟨_, [.slice (some ⟨f r, 0, none⟩) n n], rfl, ⟨_, rfl, some ⟨f r, 0, none⟩, n, by simp, by simp, hn, fun i y hy => ?_⟩, by have := h.top r hr; rw [add_lit']; simpa [tSlice] using this⟩
  obtain ⟨hi, rfl⟩ := range_map_get hy
  refine ⟨_, [.slice (some ⟨g r i, 0, none⟩) n n], rfl, ⟨_, rfl, some ⟨g r i, 0, none⟩, n, by simp, by simp, hn, fun j z hz => ?_⟩, by have := h.mid r i hr hi; rw [add_lit']; simpa [tSlice] using this⟩
  obtain ⟨hj, rfl⟩ := range_map_get hz
  obtain ⟨T, arr, h1, h2, h3⟩ := h.low r i hr hi
  refine ⟨_, [_], rfl, rfl, ?_⟩
  rw [add_lit']
  refine ⟨arr, T, (0, 0), h1, rfl, fun k v hk => ?_⟩
  cases k with
  | zero => simp at hk; subst hk; simpa [tBool] using h3 j hj
  | succ k => simp at hk
end Go.Proofs.Ytfemkbockhpmcaa.Sym
