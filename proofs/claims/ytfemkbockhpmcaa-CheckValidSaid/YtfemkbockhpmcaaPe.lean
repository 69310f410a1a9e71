/- A row of lists that grow in place, one after the other: how it lies in memory. Own work. -/
import Derived.Test.YtfemkbockhpmcaaSymO
import Derived.Test.YtfemkbockhpmcaaPb
set_option linter.unusedSimpArgs false
set_option linter.unusedVariables false
namespace Go.Proofs.Ytfemkbockhpmcaa.Sym
open Go Go.Proofs Go.RowKit
theorem none_ofE {G G' : Heap} (h : Le G G') {b : Nat} (hb : G' b = none) : G b = none := by
  cases e : G b with
  | none => rfl
  | some o => rw [h _ _ e] at hb; cases hb
/-- Block b0 holds m slices; those of val are done and lie in Gb; number i is cur, in block bl; those behind are nil. -/
structure RowB {α : Type} (d : Ty α) (T e : TypeId) (Gb G : Heap) (b0 m i : Nat) (val : List (List α)) (cur : List α) (z : Bool) (bl cap : Nat) (arr brr : Array Value) : Prop where
  le : Le Gb G
  row : G b0 = some (.cells arr T (0, 0))
  new0 : Gb b0 = none
  sz : arr.size = m
  vlen : val.length = i
  don : ∀ (j : Nat) (x : List α), val[j]? = some x → ∃ A n c, arr[j]? = some (Value.slice A n c) ∧ Sl d Gb A n c x
  at_ : i < m → arr[i]? = some (nilOr z (.slice (some ⟨bl, 0, none⟩) cur.length cap))
  todo : ∀ j : Nat, i < j → j < m → arr[j]? = some (Value.slice none 0 0)
  own : OwnL d Gb cur brr cap
  nil : z = true → cur = []
  blk : z = false → G bl = some (.cells brr e (0, 0)) ∧ Gb bl = none ∧ bl ≠ b0
section
variable {α : Type} {d : Ty α} {T e : TypeId} {Gb G G' : Heap} {b0 m i : Nat} {val : List (List α)} {cur ys : List α} {z : Bool} {bl cap : Nat} {arr brr : Array Value}
theorem RowB.start (hle : Le Gb G) (hn : Gb b0 = none) (hb : G b0 = some (.cells arr T (0, 0))) (hs : arr.size = m) (h0 : ∀ j : Nat, j < m → arr[j]? = some (Value.slice none 0 0)) : RowB d T e Gb G b0 m 0 [] [] true 0 0 arr #[] :=
  ⟨hle, hb, hn, hs, rfl, fun j x h => by simp at h, fun h => h0 0 h, fun j h1 h2 => h0 j h2, OwnL.nil _ _, fun _ => rfl, (fun h => by cases h)⟩
theorem RowB.mono (h : RowB d T e Gb G b0 m i val cur z bl cap arr brr) (hle : Le G G') : RowB d T e Gb G' b0 m i val cur z bl cap arr brr :=
  ⟨h.le.trans hle, hle _ _ h.row, h.new0, h.sz, h.vlen, h.don, h.at_, h.todo, h.own, h.nil, fun hz => by obtain ⟨q1, q2⟩ := h.blk hz; exact ⟨hle _ _ q1, q2⟩⟩
theorem RowB.cell (h : RowB d T e Gb G b0 m i val cur z bl cap arr brr) (hi : i < m) : At G ⟨b0, i, none⟩ [nilOr z (.slice (some ⟨bl, 0, none⟩) cur.length cap)] :=
  ⟨arr, T, (0, 0), h.row, rfl, fun j v hj => by
    cases j with
    | zero => simp at hj; subst hj; exact h.at_ hi
    | succ j => simp at hj⟩
/-- The heap behind an append. -/
def apH (z : Bool) (G : Heap) (bl bl' : Nat) (o : Obj) : Heap := (bif z then G else G.without bl).add bl' o
theorem RowB.ne (h : RowB d T e Gb G b0 m i val cur z bl cap arr brr) {bl' : Nat} (hb : (z = false ∧ bl' = bl) ∨ G bl' = none) : b0 ≠ bl' := by
  rcases hb with ⟨hz, rfl⟩ | hb
  · exact Ne.symm (h.blk hz).2.2
  · intro e; subst e; rw [h.row] at hb; cases hb
theorem RowB.newb (h : RowB d T e Gb G b0 m i val cur z bl cap arr brr) {bl' : Nat} (hb : (z = false ∧ bl' = bl) ∨ G bl' = none) : Gb bl' = none := by
  rcases hb with ⟨hz, rfl⟩ | hb
  · exact (h.blk hz).2.1
  · exact none_ofE h.le hb
theorem RowB.row' (h : RowB d T e Gb G b0 m i val cur z bl cap arr brr) {bl' : Nat} (hb : (z = false ∧ bl' = bl) ∨ G bl' = none) (o : Obj) : apH z G bl bl' o b0 = some (.cells arr T (0, 0)) := by
  unfold apH Heap.add
  rw [if_neg (h.ne hb)]
  cases z with
  | true => exact h.row
  | false => simp only [cond_false]; rw [Heap.without_ne (Ne.symm (h.blk rfl).2.2)]; exact h.row
theorem RowB.le' (h : RowB d T e Gb G b0 m i val cur z bl cap arr brr) {bl' : Nat} (hb : (z = false ∧ bl' = bl) ∨ G bl' = none) (o : Obj) : Le Gb (apH z G bl bl' o) := by
  unfold apH
  refine Le.add' ?_ (h.newb hb) o
  cases z with
  | true => exact h.le
  | false => exact h.le.without (h.blk rfl).2.1
/-- The list has been appended to and its cell written. -/
theorem RowB.put (h : RowB d T e Gb G b0 m i val cur z bl cap arr brr) (hi : i < m) {bl' cap' : Nat} {brr' : Array Value} (hb : (z = false ∧ bl' = bl) ∨ G bl' = none) (ho : OwnL d G (cur ++ ys) brr' cap') (hG : ∀ H, OwnL d G (cur ++ ys) brr' cap' → OwnL d H (cur ++ ys) brr' cap')
    {G2 : Heap} (hG2 : G2 = (apH z G bl bl' (.cells brr' e (0, 0))).add b0 (.cells (arr.toList.take i ++ [Value.slice (some ⟨bl', 0, none⟩) (cur ++ ys).length cap'] ++ arr.toList.drop (i + 1)).toArray T (0, 0))) :
    RowB d T e Gb G2 b0 m i val (cur ++ ys) false bl' cap' (arr.toList.take i ++ [Value.slice (some ⟨bl', 0, none⟩) (cur ++ ys).length cap'] ++ arr.toList.drop (i + 1)).toArray brr' := by
  subst hG2
  have hsz : arr.toList.length = m := by simpa using h.sz
  have hsz2 : arr.size = m := h.sz
  have key : ∀ j, (arr.toList.take i ++ [Value.slice (some ⟨bl', 0, none⟩) (cur ++ ys).length cap'] ++ arr.toList.drop (i + 1)).toArray[j]? = if j = i then some (Value.slice (some ⟨bl', 0, none⟩) (cur ++ ys).length cap') else arr[j]? := by
    intro j
    rw [List.getElem?_toArray]
    by_cases ej : j = i
    · subst ej; rw [if_pos rfl, List.append_assoc, List.getElem?_append_right (by simp; omega)]
      have : j - (List.take j arr.toList).length = 0 := by simp; omega
      rw [this]; rfl
    · rw [if_neg ej]
      rcases Nat.lt_or_gt_of_ne ej with hlt | hgt
      · rw [List.append_assoc, List.getElem?_append_left (by simp; omega), List.getElem?_take, if_pos hlt]; simp
      · rw [List.getElem?_append_right (by simp; omega)]
        have : j - (List.take i arr.toList ++ [Value.slice (some ⟨bl', 0, none⟩) (cur ++ ys).length cap']).length = j - (i + 1) := by simp; omega
        rw [this, List.getElem?_drop]
        have : i + 1 + (j - (i + 1)) = j := by omega
        rw [this]; simp
  refine ⟨Le.add' (h.le' hb _) h.new0 _, Heap.add_same _ _ _, h.new0, by simp; omega, h.vlen, fun j x hj => ?_, fun _ => by rw [key, if_pos rfl]; rfl, fun j h1 h2 => by rw [key, if_neg (by omega)]; exact h.todo j h1 h2, hG _ ho, (fun h => by cases h), fun _ => ⟨?_, h.newb hb, Ne.symm (h.ne hb)⟩⟩
  · have hlt := (List.getElem?_eq_some_iff.1 hj).1
    rw [h.vlen] at hlt
    obtain ⟨A, n, c, q1, q2⟩ := h.don j x hj
    exact ⟨A, n, c, by rw [key, if_neg (by omega)]; exact q1, q2⟩
  · rw [Heap.add_ne (Ne.symm (h.ne hb))]; exact Heap.add_same _ _ _
/-- One list is done. -/
theorem RowB.next (h : RowB d T e Gb G b0 m i val cur z bl cap arr brr) (hi : i < m) : ∃ Gb', Le Gb Gb' ∧ RowB d T e Gb' G b0 m (i + 1) (val ++ [cur]) [] true 0 0 arr #[] := by
  have fin : ∀ Gb', Le Gb Gb' → Le Gb' G → Gb' b0 = none → (∃ A n c, arr[i]? = some (Value.slice A n c) ∧ Sl d Gb' A n c cur) → RowB d T e Gb' G b0 m (i + 1) (val ++ [cur]) [] true 0 0 arr #[] := fun Gb' h1 h2 h3 h4 =>
    ⟨h2, h.row, h3, h.sz, by simp [h.vlen], fun j x hj => by
      rcases Nat.lt_or_ge j val.length with hj' | hj'
      · rw [List.getElem?_append_left hj'] at hj
        obtain ⟨A, n, c, q1, q2⟩ := h.don j x hj
        exact ⟨A, n, c, q1, q2.mono h1⟩
      · rw [List.getElem?_append_right hj'] at hj
        have hlt := (List.getElem?_eq_some_iff.1 hj).1
        simp only [List.length_singleton] at hlt
        have ej : j = i := by have := h.vlen; omega
        subst ej
        have : j - val.length = 0 := by omega
        rw [this] at hj; simp at hj; subst hj
        exact h4,
     fun hlt => h.todo _ (by omega) hlt, fun j h5 h6 => h.todo j (by omega) h6, OwnL.nil _ _, fun _ => rfl, (fun h => by cases h)⟩
  cases z with
  | true =>
    have hc := h.nil rfl
    subst hc
    exact ⟨Gb, Le.refl _, fin Gb (Le.refl _) h.le h.new0 ⟨none, 0, 0, h.at_ hi, Sl.none0 _ _⟩⟩
  | false =>
    obtain ⟨q1, q2, q3⟩ := h.blk rfl
    have h1 : Le Gb (Gb.add bl (.cells brr e (0, 0))) := Heap.add_le q2
    refine ⟨_, h1, fin _ h1 (fun b o hb => ?_) (by rw [Heap.add_ne (Ne.symm q3)]; exact h.new0) ?_⟩
    · unfold Heap.add at hb
      split at hb
      · rename_i hh; subst hh; injection hb with hb; subst hb; exact q1
      · exact h.le b o hb
    · obtain ⟨A, n', c, h2, h3⟩ := OwnL.sl (z := false) (n := cur.length) h.own h1 (fun h => by cases h) (fun _ => Heap.add_same _ _ _) rfl
      exact ⟨A, n', c, by rw [h.at_ hi, h2], h3⟩
/-- All are done. -/
theorem RowB.fin (h : RowB d T e Gb G b0 m i val cur z bl cap arr brr) (hi : i = m) (hm : m ≤ big) : ∃ Gb', Le Gb Gb' ∧ Le Gb' G ∧ Sl (tSlice d) Gb' (some ⟨b0, 0, none⟩) m m val := by
  have h1 : Le Gb (Gb.add b0 (.cells arr T (0, 0))) := Heap.add_le h.new0
  refine ⟨_, h1, fun b o hb => ?_, ⟨by rw [h.vlen, hi], Nat.le_refl _, hm, fun j x hj => ?_⟩⟩
  · unfold Heap.add at hb
    split at hb
    · rename_i hh; subst hh; injection hb with hb; subst hb; exact h.row
    · exact h.le b o hb
  · obtain ⟨A, n, c, q1, q2⟩ := h.don j x hj
    have q3 := (q2.mono h1).reps
    refine ⟨_, [.slice A n c], rfl, q3, ?_⟩
    rw [add_lit']
    refine ⟨arr, T, (0, 0), Heap.add_same _ _ _, rfl, fun k v hk => ?_⟩
    cases k with
    | zero => simp at hk; subst hk; simpa [tSlice] using q1
    | succ k => simp at hk
end
theorem OwnL.anyI {G G' : Heap} {xs : List Int} {arr : Array Value} {cap : Nat} (h : OwnL (tInt .i64) G xs arr cap) : OwnL (tInt .i64) G' xs arr cap := by
  obtain ⟨h1, h2, h3, h4⟩ := h
  refine ⟨h1, h2, h3, ?_⟩
  clear h2
  generalize arr.toList.take (xs.length * (tInt .i64).sz) = l at h4
  induction h4 with
  | nil => exact .nil
  | cons a b ih => exact .cons a ih
theorem OwnL.anyS {G G' : Heap} {xs : List ByteArray} {arr : Array Value} {cap : Nat} (h : OwnL tStr G xs arr cap) : OwnL tStr G' xs arr cap := by
  obtain ⟨h1, h2, h3, h4⟩ := h
  refine ⟨h1, h2, h3, ?_⟩
  clear h2
  generalize arr.toList.take (xs.length * tStr.sz) = l at h4
  induction h4 with
  | nil => exact .nil
  | cons a b ih => exact .cons a ih
theorem RowB.cell' {α : Type} {d : Ty α} {T e : TypeId} {Gb G : Heap} {b0 m i : Nat} {val : List (List α)} {cur : List α} {z : Bool} {bl cap : Nat} {arr brr : Array Value} (h : RowB d T e Gb G b0 m i val cur z bl cap arr brr) (hi : i < m) : At G ((⟨b0, 0, none⟩ : Addr).add (i * 1)) [nilOr z (.slice (some ⟨bl, 0, none⟩) cur.length cap)] := by
  rw [add_lit', Nat.zero_add, Nat.mul_one]; exact h.cell hi
/-- A nil slice, and nothing else. -/
def tNil : Ty Unit where
  sz := 1
  rep _ _ cs := cs = [.slice none 0 0]
  mono _ h := h
  len h := by rw [h]; rfl
  one h v hv := by rw [h] at hv; simp only [List.mem_singleton] at hv; subst hv; rfl
theorem tNil_all {G : Heap} {n : Nat} {arr : Array Value} (h : OwnL tNil G (List.replicate n ()) arr n) : arr.size = n ∧ ∀ j : Nat, j < n → arr[j]? = some (Value.slice none 0 0) := by
  refine ⟨by have := h.1; simpa [tNil] using this, fun j hj => ?_⟩
  obtain ⟨cs, h1, h2⟩ := h.at (i := j) (by rw [List.length_replicate]; exact hj)
  have h3 : cs = [.slice none 0 0] := h1
  subst h3
  have h4 := h2 0 _ rfl
  have h5 : j * tNil.sz + 0 = j := by simp [tNil]
  rw [h5] at h4; exact h4
theorem WK_g0 {c : Ctx} {G : Heap} {S : St} {K : Act → World → Prop} (k : Le c.G0 G → WK c G S K) : WK c G S K := fun ρ a w hs => k hs.2.g0 ρ a w hs
theorem FZ.ne {G : Heap} {fz : List (Nat × Nat × OB)} (h : FZ G fz) {b : Nat} (hb : G b = none) : ∀ p ∈ fz, p.2.1 ≠ b := fun p hp e => by
  have h1 := (h p hp).1
  rw [e, hb] at h1; cases h1
section
variable {P : Program} {r : Option Nat} {ops : Array Oper} {Q : Exit → Act → World → Prop} {c : Ctx} {G Gs : Heap} {S : St}
theorem WD_four {fuel : Nat} (i j k l : Nat) {listed : Array Bool} {o p q t : Oper} (hi : ops[i]? = some o) (hj : ops[j]? = some p) (hk : ops[k]? = some q) (hl : ops[l]? = some t) (hr : Region.ready .any ops listed = [i, j, k, l])
    (k1 : WOp P r ops Q c G S o fun a w => Has w Gs ∧ wpAnyH' P r ops Q (fun w' => Has w' Gs) fuel (listed.setIfInBounds i true) a w)
    (k2 : WOp P r ops Q c G S p fun a w => Has w Gs ∧ wpAnyH' P r ops Q (fun w' => Has w' Gs) fuel (listed.setIfInBounds j true) a w)
    (k3 : WOp P r ops Q c G S q fun a w => Has w Gs ∧ wpAnyH' P r ops Q (fun w' => Has w' Gs) fuel (listed.setIfInBounds k true) a w)
    (k4 : WOp P r ops Q c G S t fun a w => Has w Gs ∧ wpAnyH' P r ops Q (fun w' => Has w' Gs) fuel (listed.setIfInBounds l true) a w) : WD P r ops Q c Gs (fuel + 1) listed G S := by
  intro ρ a w hs
  refine ⟨(fun h => by rw [hr] at h; cases h), fun m hm => ?_⟩
  rw [hr] at hm
  simp only [List.mem_cons, List.not_mem_nil, or_false] at hm
  rcases hm with rfl | rfl | rfl | rfl
  · unfold wpOpIn; simp only [hi]; exact k1 ρ a w hs
  · unfold wpOpIn; simp only [hj]; exact k2 ρ a w hs
  · unfold wpOpIn; simp only [hk]; exact k3 ρ a w hs
  · unfold wpOpIn; simp only [hl]; exact k4 ρ a w hs
end
end Go.Proofs.Ytfemkbockhpmcaa.Sym
