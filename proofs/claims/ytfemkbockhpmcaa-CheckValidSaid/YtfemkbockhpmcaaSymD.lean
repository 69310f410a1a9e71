/- The symbolic layer, fourth part: lists that a walk makes (append, make, stores), and their freezing. Own work. -/
import Derived.Test.YtfemkbockhpmcaaSymC
import Derived.Maps.AppendAt
import Derived.Laws.Tables
import Derived.IntWalk
import Derived.Laws.MakeOwn
set_option linter.unusedSimpArgs false
set_option linter.unusedVariables false
namespace Go.Proofs.Ytfemkbockhpmcaa.Sym
open Go

/-! ### 12. Lists as rows of cells -/
inductive RepsL {α : Type} (d : Ty α) (G : Heap) : List α → List Value → Prop
  | nil : RepsL d G [] []
  | cons {x : α} {xs : List α} {c cs : List Value} (h : d.rep G x c) (t : RepsL d G xs cs) : RepsL d G (x :: xs) (c ++ cs)
theorem RepsL.mono {α : Type} {d : Ty α} {G G' : Heap} (h : Le G G') {xs : List α} {cs : List Value} (k : RepsL d G xs cs) : RepsL d G' xs cs := by
  induction k with
  | nil => exact .nil
  | cons h1 _ ih => exact .cons (d.mono h h1) ih
theorem RepsL.length {α : Type} {d : Ty α} {G : Heap} {xs : List α} {cs : List Value} (k : RepsL d G xs cs) : cs.length = xs.length * d.sz := by
  induction k with
  | nil => simp
  | cons h1 _ ih => rw [List.length_append, d.len h1, ih, List.length_cons, Nat.succ_mul, Nat.add_comm]
theorem RepsL.append {α : Type} {d : Ty α} {G : Heap} {xs ys : List α} {cs ds : List Value} (k : RepsL d G xs cs) (l : RepsL d G ys ds) : RepsL d G (xs ++ ys) (cs ++ ds) := by
  induction k with
  | nil => exact l
  | cons h1 _ ih => rw [List.cons_append, List.append_assoc]; exact .cons h1 ih
theorem RepsL.one {α : Type} {d : Ty α} {G : Heap} {xs : List α} {cs : List Value} (k : RepsL d G xs cs) : ∀ v ∈ cs, v.oneCell' = true := by
  induction k with
  | nil => simp
  | cons h1 _ ih => intro v hv; rcases List.mem_append.1 hv with hv | hv; exact d.one h1 v hv; exact ih v hv
theorem RepsL.get {α : Type} {d : Ty α} {G : Heap} {xs : List α} {cs : List Value} (k : RepsL d G xs cs) : ∀ i x, xs[i]? = some x → ∃ c, d.rep G x c ∧ ∀ j v, c[j]? = some v → cs[i * d.sz + j]? = some v := by
  induction k with
  | nil => intro i x h; simp at h
  | @cons x xs c cs h1 t ih =>
    intro i y hy
    cases i with
    | zero =>
      simp only [List.getElem?_cons_zero, Option.some.injEq] at hy
      subst hy
      refine ⟨c, h1, fun j v hj => ?_⟩
      rw [Nat.zero_mul, Nat.zero_add, List.getElem?_append_left (List.getElem?_eq_some_iff.1 hj).1]; exact hj
    | succ i =>
      simp only [List.getElem?_cons_succ] at hy
      obtain ⟨c', h2, h3⟩ := ih i y hy
      refine ⟨c', h2, fun j v hj => ?_⟩
      rw [List.getElem?_append_right (by rw [d.len h1, Nat.succ_mul]; omega), d.len h1, show (i + 1) * d.sz + j - d.sz = i * d.sz + j by rw [Nat.succ_mul]; omega]
      exact h3 j v hj
theorem RepsL.take {α : Type} {d : Ty α} {G : Heap} {xs : List α} {cs : List Value} (k : RepsL d G xs cs) : ∀ n, RepsL d G (xs.take n) (cs.take (n * d.sz)) := by
  induction k with
  | nil => intro n; simp; exact .nil
  | @cons x xs c cs h1 t ih =>
    intro n
    cases n with
    | zero => simp; exact .nil
    | succ n =>
      rw [List.take_succ_cons, show (n + 1) * d.sz = c.length + n * d.sz by rw [d.len h1, Nat.succ_mul]; omega, List.take_length_add_append]
      exact .cons h1 (ih n)
theorem RepsL.drop {α : Type} {d : Ty α} {G : Heap} {xs : List α} {cs : List Value} (k : RepsL d G xs cs) : ∀ n, RepsL d G (xs.drop n) (cs.drop (n * d.sz)) := by
  induction k with
  | nil => intro n; simp; exact .nil
  | @cons x xs c cs h1 t ih =>
    intro n
    cases n with
    | zero => simp; exact .cons h1 t
    | succ n =>
      rw [List.drop_succ_cons, show (n + 1) * d.sz = c.length + n * d.sz by rw [d.len h1, Nat.succ_mul]; omega, List.drop_length_add_append]
      exact ih n
theorem Row.flat {α : Type} {d : Ty α} {G : Heap} : ∀ {ys : List α} {q : Addr}, Row d G (some q) ys → ∃ news, RepsL d G ys news ∧ ∀ j v, news[j]? = some v → At G (q.add j) [v]
  | [], q, _ => ⟨[], .nil, fun j v h => by simp at h⟩
  | y :: ys, q, h => by
    have hsp := h.spot (by simp)
    obtain ⟨p, c, h1, h2, h3⟩ := h 0 y rfl
    injection h1 with h1; subst h1
    have ht : Row d G (some (q.add (1 * d.sz))) ys := h.drop 1 hsp
    obtain ⟨news, h4, h5⟩ := Row.flat ht
    refine ⟨c ++ news, .cons h2 h4, fun j v hj => ?_⟩
    by_cases hlt : j < c.length
    · rw [List.getElem?_append_left hlt] at hj
      have := h3.field j hj
      rw [Nat.zero_mul, add_add' q hsp, Nat.zero_add] at this
      exact this
    · rw [List.getElem?_append_right (Nat.le_of_not_lt hlt)] at hj
      have := h5 _ _ hj
      rw [add_add' q hsp, Nat.one_mul, show d.sz + (j - c.length) = j by rw [← d.len h2]; omega] at this
      exact this

/-- A row of one's own that holds a list. -/
def OwnL {α : Type} (d : Ty α) (G : Heap) (xs : List α) (arr : Array Value) (cap : Nat) : Prop :=
  arr.size = cap * d.sz ∧ xs.length ≤ cap ∧ cap ≤ big ∧ RepsL d G xs (arr.toList.take (xs.length * d.sz))
theorem OwnL.mono {α : Type} {d : Ty α} {G G' : Heap} (h : Le G G') {xs : List α} {arr : Array Value} {cap : Nat} (k : OwnL d G xs arr cap) : OwnL d G' xs arr cap := ⟨k.1, k.2.1, k.2.2.1, k.2.2.2.mono h⟩
theorem OwnL.nil {α : Type} (d : Ty α) (G : Heap) : OwnL d G ([] : List α) #[] 0 := ⟨by simp, by simp, by simp, by simp; exact .nil⟩
/-- Frozen, it is a row. -/
theorem OwnL.row {α : Type} {d : Ty α} {G G' : Heap} {xs : List α} {arr : Array Value} {cap T b : Nat} {fr : Nat × Nat} (k : OwnL d G xs arr cap) (hle : Le G G') (hb : G' b = some (.cells arr T fr)) : Row d G' (some ⟨b, 0, none⟩) xs := by
  intro i x hx
  obtain ⟨c, h1, h2⟩ := k.2.2.2.get i x hx
  refine ⟨_, c, rfl, d.mono hle h1, ?_⟩
  rw [add_lit']
  refine ⟨arr, T, fr, hb, rfl, fun j v hj => ?_⟩
  have := h2 j v hj
  rw [List.getElem?_take] at this
  split at this
  · simpa using this
  · cases this
/-- A block written out by a literal. -/
theorem OwnL.lit {α : Type} {d : Ty α} {G : Heap} {xs : List α} {cs : List Value} (h : RepsL d G xs cs) (hb : xs.length ≤ big) : OwnL d G xs cs.toArray xs.length :=
  ⟨by rw [List.size_toArray, h.length], Nat.le_refl _, hb, by rw [← h.length]; simpa using h⟩

/-! ### 13. append -/
section
variable {P : Program} {r : Option Nat} {ops : Array Oper} {Q : Exit → Act → World → Prop} {c : Ctx} {G : Heap} {S S' : St} {tb : Tbl} {K : Act → World → Prop}

theorem Has.ext {D : Nat → Prop} {w w' : World} {G : Heap} (h : Has w G) (he : Ext D w w') (hd : ∀ b o, G b = some o → ¬ D b) : Has w' G := fun b o hb => by
  have := h b o hb
  rw [he.keep b (Array.getElem?_eq_some_iff.1 this).1 (hd b o hb)]; exact this

/-- The block of handle h (if any) is given up for one of a new handle: the same block with other contents, or a new one, or none. -/
theorem WSat.swap {ρ : Nat → Nat} {w w' : World} (hW : WSat c ρ G S.own S.fz w) (hf : S.fresh = true) {h : Nat} {ob ob' : OB} (ho : get S.own h = some ob) (hu : ob'.under 0 = true) {g : Nat}
    (he : Ext (fun b => ob.on = true ∧ b = ρ h) w w') (hb : ob'.on = true → w'.heap[g]? = some ob'.obj ∧ ((ob.on = true ∧ g = ρ h) ∨ w.heap.size ≤ g)) (hk : c.k ≤ h ∨ S.nx < c.k) :
    WSat c (upd ρ S.nx g) G ((S.nx, ob') :: del S.own h) S.fz w' := by
  simp only [St.fresh, Bool.and_eq_true] at hf
  have hr := upd_lt ρ S.nx g
  have hm : (h, ob) ∈ S.own := get_mem ho
  have hown : ∀ p ∈ S.own, p.1 < S.nx ∧ p.2.under S.nx = true := fun p hp => by
    have := List.all_eq_true.1 hf.1.1.2 p hp
    simpa using this
  have hz : ∀ p ∈ S.fz, p.1 < S.nx ∧ p.2.2.under S.nx = true := fun p hp => by
    have := List.all_eq_true.1 hf.2 p hp
    simpa using this
  have hd : ∀ p ∈ del S.own h, p ∈ S.own ∧ p.1 ≠ h := fun p hp => ⟨del_sub hp, del_ne hW.keys hp⟩
  have hold : ∀ p ∈ del S.own h, p.2.on = true → ρ p.1 < w.heap.size ∧ ¬ (ob.on = true ∧ ρ p.1 = ρ h) := fun p hp hon =>
    ⟨(Array.getElem?_eq_some_iff.1 (hW.cells p (hd p hp).1 hon)).1, fun e => (hd p hp).2 (hW.inj p (hd p hp).1 _ hm hon e.1 e.2)⟩
  refine ⟨hW.has.ext he (fun b o hb' e => ?_), ?_, ?_, ?_, ?_, ?_, hW.ext.step he (fun i hi => ?_), hW.g0, hW.gnew, fun p hp => by rw [hr _ (hz p hp).1, OB.den_congr hr _ (hz p hp).2]; exact hW.froz p hp⟩
  · have := hW.sep _ hm e.1; simp only at this; rw [← e.2, hb'] at this; cases this
  · intro p hp hon
    rcases List.mem_cons.1 hp with rfl | hp
    · simp only [upd_same]
      rw [(hb hon).1, OB.den_closed _ (fun _ => 0) hu]; rfl
    · obtain ⟨h1, h2⟩ := hown p (hd p hp).1
      rw [hr _ h1, OB.den_congr hr _ h2, he.keep _ (hold p hp hon).1 (hold p hp hon).2]
      exact hW.cells p (hd p hp).1 hon
  · intro p hp hon
    rcases List.mem_cons.1 hp with rfl | hp
    · simp only [upd_same]
      rcases (hb hon).2 with ⟨h1, h2⟩ | h1
      · rw [h2]; exact hW.sep _ hm h1
      · cases hg : G g with
        | none => rfl
        | some o => have := (Array.getElem?_eq_some_iff.1 (hW.has _ _ hg)).1; omega
    · rw [hr _ (hown p (hd p hp).1).1]; exact hW.sep p (hd p hp).1 hon
  · intro p hp hon
    rcases List.mem_cons.1 hp with rfl | hp
    · simp only [upd_same]
      rcases (hb hon).2 with ⟨h1, h2⟩ | h1
      · rw [h2]
        rcases hW.may _ hm h1 with h3 | h3
        · exact .inl h3
        · rcases hk with hk | hk
          · exact absurd h3.2 (Nat.not_lt.2 hk)
          · exact .inr ⟨h3.1, hk⟩
      · exact .inl (Nat.le_trans hW.ext.size h1)
    · rw [hr _ (hown p (hd p hp).1).1]; exact hW.may p (hd p hp).1 hon
  · simp only [List.map_cons, List.nodup_cons]
    refine ⟨fun hx => ?_, del_nodup hW.keys⟩
    obtain ⟨p, hp, hpe⟩ := List.mem_map.1 hx
    have := (hown p (hd p hp).1).1
    omega
  · intro p hp q hq hpo hqo hpq
    have key : ∀ q ∈ del S.own h, q.2.on = true → ob'.on = true → g ≠ ρ q.1 := fun q hq hqo h0 e => by
      rcases (hb h0).2 with ⟨h1, h2⟩ | h1
      · exact (hold q hq hqo).2 ⟨h1, by rw [← e, h2]⟩
      · have := (hold q hq hqo).1; omega
    rcases List.mem_cons.1 hp with rfl | hp <;> rcases List.mem_cons.1 hq with rfl | hq
    · rfl
    · simp only [upd_same] at hpq; rw [hr _ (hown q (hd q hq).1).1] at hpq; exact absurd hpq (key q hq hqo hpo)
    · simp only [upd_same] at hpq; rw [hr _ (hown p (hd p hp).1).1] at hpq; exact absurd hpq.symm (key p hp hpo hqo)
    · rw [hr _ (hown p (hd p hp).1).1, hr _ (hown q (hd q hq).1).1] at hpq; exact hW.inj p (hd p hp).1 q (hd q hq).1 hpo hqo hpq
  · rcases hW.may _ hm hi.1 with h1 | h1
    · rw [hi.2]; exact .inl h1
    · rw [hi.2]; exact .inr h1.1

/-- An entry for a list that is nil as yet. -/
theorem WSat.off {ρ : Nat → Nat} {w : World} (hW : WSat c ρ G S.own S.fz w) (hf : S.fresh = true) {T : TypeId} {arr : Array Value} : WSat c ρ G ((S.nx, .lst true T arr) :: S.own) S.fz w := by
  simp only [St.fresh, Bool.and_eq_true] at hf
  have hown : ∀ p ∈ S.own, p.1 < S.nx := fun p hp => by
    have := List.all_eq_true.1 hf.1.1.2 p hp
    simp only [Bool.and_eq_true] at this
    simpa using this.1
  refine ⟨hW.has, ?_, ?_, ?_, ?_, ?_, hW.ext, hW.g0, hW.gnew, hW.froz⟩
  · intro p hp hon
    rcases List.mem_cons.1 hp with rfl | hp
    · cases hon
    · exact hW.cells p hp hon
  · intro p hp hon
    rcases List.mem_cons.1 hp with rfl | hp
    · cases hon
    · exact hW.sep p hp hon
  · intro p hp hon
    rcases List.mem_cons.1 hp with rfl | hp
    · cases hon
    · exact hW.may p hp hon
  · simp only [List.map_cons, List.nodup_cons]
    refine ⟨fun hx => ?_, hW.keys⟩
    obtain ⟨p, hp, hpe⟩ := List.mem_map.1 hx
    have := hown p hp
    omega
  · intro p hp q hq hpo hqo
    rcases List.mem_cons.1 hp with rfl | hp
    · cases hpo
    rcases List.mem_cons.1 hq with rfl | hq
    · cases hqo
    exact hW.inj p hp q hq hpo hqo
/-- nil gets a handle. -/
theorem WK_off (T : TypeId) (hf : S.fresh = true) (k : WK c G { S with own := (S.nx, .lst true T #[]) :: S.own, nx := S.nx + 1 } K) : WK c G S K := fun ρ a w hs =>
  k ρ a w ⟨hs.1, hs.2.off hf⟩

/-- What append is given: the list's handle and its numbers, the source, sizes. -/
def apC (tb : Tbl) (N : Nat) (ops : List Oper) (S : St) (o : Oper) : Option (Bool × Nat × Nat × Nat × Option Addr × Nat × Nat × Nat × Nat) :=
  match wantS ops S.env o, dstOK N o.dst with
  | some true, true => match o.op with
    | .call cl => match cl.callee, cl.args.toList, cl.argTypes.toList with
      | .builtin .append, [s, x], [t, u] => bif Nat.beq t u then match get tb t with
        | some T => match T.desc with
          | .slice e => match get tb e with
            | some E => match evalO S.env s, evalO S.env x with
              | some (.ls z h n cap), some (.v (.slice A m _)) => bif Nat.beq E.zero.cells.size E.size then some (z, h, n, cap, A, m, e, E.size, E.bytes) else none
              | _, _ => none
            | none => none
          | _ => none
        | none => none
        else none
      | _, _, _ => none
    | _ => none
  | _, _ => none
def nilOr (z : Bool) (v : Value) : Value := bif z then .slice none 0 0 else v

theorem run_append_L (htb : TblOK P tb) {t e : TypeId} {T E : TI} (ht : get tb t = some T) (hd : T.desc = .slice e) (he : get tb e = some E) (hzs : E.zero.cells.size = E.size) {α : Type} (d : Ty α) (hsz : d.sz = E.size) (hs0 : d.sz ≠ 0)
    {ty : TypeId} {z : Bool} {g : Nat} {xs ys : List α} {arr : Array Value} {cap : Nat} {A : Option Addr} {m c2 : Nat} {w : World} {G : Heap} (hw : Has w G)
    (hb : z = false → w.heap[g]? = some (.cells arr e (0, 0))) (ho : OwnL d G xs arr cap) (hz : z = true → xs = []) (hR : Row d G A ys) (hm : m = ys.length) (hbd : (xs.length + ys.length) * E.bytes ≤ 140737488355328) (h63 : xs.length + ys.length ≤ big) :
    ∃ z' g' arr' cap' w', (Builtin.append_ #[t, t] ty #[nilOr z (.slice (some ⟨g, 0, none⟩) xs.length cap), .slice A m c2]).run P w = .ok (nilOr z' (.slice (some ⟨g', 0, none⟩) (xs ++ ys).length cap')) w' ∧
      OwnL d G (xs ++ ys) arr' cap' ∧ (z' = true → xs ++ ys = []) ∧ Ext (fun b => z = false ∧ b = g) w w' ∧ (z' = false → w'.heap[g']? = some (.cells arr' e (0, 0)) ∧ ((z = false ∧ g' = g) ∨ w.heap.size ≤ g')) := by
  have hu := (htb.at ht).2
  rw [hd] at hu
  obtain ⟨j, hj1, hj2, hj3, hj4⟩ := run_typeInfo_TI (htb.at he) w
  have hi : P.info? e = some j := by
    have h1 := (htb.at he).1
    cases hq : P.info? e with
    | none => rw [hq] at h1; cases h1
    | some j' =>
      have : (typeInfo e).run P w = .ok j' w := by simp [typeInfo, hq]
      rw [this] at hj1; injection hj1 with hj1; rw [hj1]
  subst hm
  have hpos : 0 < E.size := by rw [← hsz]; exact Nat.pos_of_ne_zero hs0
  -- what is there already, in the kit's words
  have hown : w.ownsRow 0 e E.size (nilOr z (.slice (some ⟨g, 0, none⟩) xs.length cap)) xs.length (arr.toList.take (xs.length * d.sz)) := by
    refine ⟨by rw [ho.2.2.2.length, hsz], ?_⟩
    cases z with
    | true => exact .inl ⟨rfl, by rw [hz rfl]; rfl⟩
    | false => exact .inr ⟨g, cap, arr, rfl, Nat.zero_le _, hb rfl, ho.2.1, ho.2.2.1, by rw [ho.1, hsz], by rw [hsz]⟩
  cases A with
  | none =>
    have hy : ys = [] := by
      cases ys with
      | nil => rfl
      | cons y l => obtain ⟨q, _, h, _⟩ := hR 0 y rfl; cases h
    subst hy
    refine ⟨z, g, arr, cap, w, ?_, by simpa using ho, (fun h => by rw [hz h]; rfl), Ext.refl _ _, fun h => ⟨hb h, .inl ⟨h, rfl⟩⟩⟩
    cases z with
    | true =>
      have hx := hz rfl
      subst hx
      simp [nilOr, Builtin.append_, run_underlying hu, sizeOf, hj1, Builtin.lenOf, Builtin.firstCells, loadCells, loadCellsFrom]
    | false =>
      have := ho.2.1
      simp [nilOr, Builtin.append_, run_underlying hu, sizeOf, hj1, Builtin.lenOf, Builtin.firstCells, loadCells, loadCellsFrom, this, storeCells]
  | some q =>
    obtain ⟨news, hn1, hn2⟩ := hR.flat
    obtain ⟨v', w', hr, h2, hg, hnil, hat⟩ := run_append_own_at (P := P) w 0 t ty e j E.zero E.size E.bytes hu hi hj2 hj3 hj4 hzs hpos _ xs.length _ hown q ys.length c2 news (by rw [hn1.length, hsz])
      (fun i u hu' => by have := (hn2 i u hu').cell hw (j := 0) (v := u) rfl; simpa [Addr.add] using this) hn1.one (by simpa [maxLen, big] using h63) hbd (Nat.zero_le _)
    have hext : Ext (fun b => z = false ∧ b = g) w w' := ⟨hg.os, hg.tape, hg.output, hg.size, fun b hb' hnb => hg.block b hb' (fun e' => hnb (by
      cases z with
      | true => simp [nilOr, Value.ownBlock] at e'
      | false => simp only [nilOr, cond_false, Value.ownBlock, Option.some.injEq] at e'; exact ⟨rfl, e'⟩))⟩
    have hreps : RepsL d G (xs ++ ys) (arr.toList.take (xs.length * d.sz) ++ news) := ho.2.2.2.append hn1
    rcases h2.2 with ⟨hv, hn0⟩ | ⟨g', cap', cur, hv, _, hgc, hnc, hcm, hcs, htake⟩
    · refine ⟨true, g, #[], 0, w', by rw [hr, hv]; rfl, ?_, fun _ => ?_, hext, fun h => by cases h⟩
      · have : xs ++ ys = [] := List.eq_nil_of_length_eq_zero (by rw [List.length_append]; omega)
        rw [this]; exact OwnL.nil d G
      · exact List.eq_nil_of_length_eq_zero (by rw [List.length_append]; omega)
    · refine ⟨false, g', cur, cap', w', by rw [hr, hv, List.length_append]; rfl, ⟨by rw [hcs, hsz], by rw [List.length_append]; exact hnc, by simpa [maxLen, big] using hcm, ?_⟩, (fun h => by cases h), hext, fun _ => ⟨hgc, ?_⟩⟩
      · rw [List.length_append, hsz, htake]; exact hreps
      · rw [hv] at hat
        rcases hat with hat | hat
        · cases z with
          | true => simp [nilOr, Value.ownBlock] at hat
          | false => simp only [nilOr, cond_false, Value.ownBlock, Option.some.injEq] at hat; exact .inl ⟨rfl, hat⟩
        · simp only [Value.ownBlock, Option.some.injEq] at hat; right; omega

theorem WOp_append (htb : TblOK P tb) {o : Oper} (z : Bool) (h n cap : Nat) (A : Option Addr) (m e sz bytes : Nat) (hC : apC tb c.N ops.toList S o = some (z, h, n, cap, A, m, e, sz, bytes)) (hf : S.fresh = true) (hk : (Nat.ble c.k h || Nat.blt S.nx c.k) = true)
    {arr : Array Value} (hg : get S.own h = some (.lst z e arr)) {α : Type} (d : Ty α) {xs ys : List α} (ho : OwnL d G xs arr cap) (hn : n = xs.length) (hz : z = true → xs = []) (hR : Row d G A ys) (hm : m = ys.length)
    (hsz : d.sz = sz) (hs0 : d.sz ≠ 0) (hbd : (xs.length + ys.length) * bytes ≤ 140737488355328) (h63 : xs.length + ys.length ≤ big)
    (k : ∀ z' arr' cap', (z' = true → xs ++ ys = []) → OwnL d G (xs ++ ys) arr' cap' → WK c G (putU { S with own := (S.nx, .lst z' e arr') :: del S.own h, nx := S.nx + 1 } o.dst (.ls z' S.nx (xs ++ ys).length cap')) K) : WOp P r ops Q c G S o K := by
  intro ρ a w hs
  unfold apC at hC
  split at hC
  · rename_i hw hd
    split at hC
    · rename_i cl hop
      split at hC
      · rename_i s x t u hcal hargs htys
        cases htu : Nat.beq t u with
        | false => rw [htu] at hC; cases hC
        | true =>
          rw [htu] at hC
          simp only [cond_true] at hC
          have htu' := Nat.eq_of_beq_eq_true htu
          subst htu'
          split at hC
          · rename_i T hT
            split at hC
            · rename_i e' hdesc
              split at hC
              · rename_i E hE
                split at hC
                · rename_i z0 h0 n0 cap0 A0 m0 c20 hes hex
                  cases hzz : Nat.beq E.zero.cells.size E.size with
                  | false => rw [hzz] at hC; cases hC
                  | true =>
                    rw [hzz] at hC
                    simp only [cond_true, Option.some.injEq, Prod.mk.injEq] at hC
                    obtain ⟨rfl, rfl, rfl, rfl, rfl, rfl, rfl, rfl, rfl⟩ := hC
                    subst hn
                    have hown := hs.2.cells _ (get_mem hg)
                    obtain ⟨z', g', arr', cap', w', hr, h1, h2, h3, h4⟩ := run_append_L (P := P) htb hT hdesc hE (Nat.eq_of_beq_eq_true hzz) d hsz hs0 (ty := o.type) (z := z0) (g := ρ h0) (c2 := c20) hs.2.has
                      (fun hz' => hown (by simp [OB.on, hz'])) ho hz hR hm hbd h63
                    show if _ then _ else _
                    rw [if_pos (wantS_ok hs.1 hw)]
                    refine ⟨fun f _ => trivial, ?_⟩
                    show Oper.uponIn (WF r) 0 P o a K Q (Sem.run P (Oper.semAt r a.eval o) w)
                    rw [Oper.semAt_eq r _ o (by rw [hop]; intro cl e; cases e)]
                    obtain ⟨dst, op, type, pos, after, guard⟩ := o
                    simp only at hop; subst hop
                    obtain ⟨callee, args, at_⟩ := cl
                    simp only at hcal hargs htys
                    have ha' : args = #[s, x] := by rw [← Array.toArray_toList (xs := args), hargs]
                    have ht' : at_ = #[t, t] := by rw [← Array.toArray_toList (xs := at_), htys]
                    subst hcal; subst ha'; subst ht'
                    have e1 : a.eval s = nilOr z0 (.slice (some ⟨ρ h0, 0, none⟩) xs.length cap0) := by rw [evalO_ok hs.1 hes]; rfl
                    have e2 : a.eval x = .slice A0 m0 c20 := by rw [evalO_ok hs.1 hex]; simp only [SV.den]
                    simp only [execOp, resolve, invoke, builtin, Sem.run_bind, Sem.run_pure, Result.andThen_ok, List.map_toArray, List.map_cons, List.map_nil, e1, e2]
                    simp only at hr
                    rw [hr]
                    simp only [Result.andThen_ok]
                    have hW' := hs.2.swap (ob' := .lst z' e' arr') (w' := w') hf hg rfl (g := g') (h3.mono (fun b hb => ⟨by simp [OB.on, hb.1], hb.2⟩)) (fun hon => by
                      have hz' : z' = false := by simpa [OB.on] using hon
                      obtain ⟨h5, h6⟩ := h4 hz'
                      refine ⟨h5, h6.imp (fun h7 => ⟨by simp [OB.on, h7.1], h7.2⟩) id⟩) ((Bool.or_eq_true_iff.1 hk).imp Nat.le_of_ble_eq_true (fun h => by simpa using h))
                    have hA' : ASat c (upd ρ S.nx g') S.env S.ds a := hs.1.re hf (upd_lt ρ S.nx g')
                    have := putU_ok (c := c) (S := { S with own := (S.nx, .lst z' e' arr') :: del S.own h0, nx := S.nx + 1 }) (x := .ls z' S.nx (xs ++ ys).length cap') (dst := dst) hA' hd
                    refine k z' arr' cap' h2 h1 (upd ρ S.nx g') _ w' ⟨?_, by rw [this.2.1, this.2.2]; exact hW'⟩
                    have hden : (SV.ls z' S.nx (xs ++ ys).length cap').den (upd ρ S.nx g') = nilOr z' (.slice (some ⟨g', 0, none⟩) (xs ++ ys).length cap') := by simp only [SV.den, upd_same]; rfl
                    rw [← hden]; exact this.1
                · cases hC
              · cases hC
            · cases hC
          · cases hC
      · cases hC
    · cases hC
  · cases hC
end
end Go.Proofs.Ytfemkbockhpmcaa.Sym
