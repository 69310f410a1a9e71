/- The symbolic layer, third part: what values stand for, reads of frozen memory, calls, regions whose order is open. Own work. -/
import Derived.Test.YtfemkbockhpmcaaSymB
import Derived.OrdersHeld
set_option linter.unusedSimpArgs false
set_option linter.unusedVariables false
namespace Go.Proofs.Ytfemkbockhpmcaa.Sym
open Go

/-! ### 9. What values stand for -/
/-- Frozen cells at an address. -/
def At (G : Heap) (q : Addr) (cs : List Value) : Prop :=
  ∃ c T fr, G q.block = some (.cells c T fr) ∧ q.spot = none ∧ ∀ j v, cs[j]? = some v → c[q.off + j]? = some v
theorem At.mono {G G' : Heap} (h : Le G G') {q : Addr} {cs : List Value} (k : At G q cs) : At G' q cs := by
  obtain ⟨c, T, fr, h1, h2⟩ := k
  exact ⟨c, T, fr, h _ _ h1, h2⟩
theorem At.cell {G : Heap} {q : Addr} {cs : List Value} (k : At G q cs) {w : World} (hw : Has w G) {j : Nat} {v : Value} (hj : cs[j]? = some v) : w.cell? (q.add j) = some v := by
  obtain ⟨c, T, fr, h1, h2, h3⟩ := k
  have hb := hw _ _ h1
  have hc := h3 j v hj
  obtain ⟨blk, off, spot⟩ := q
  simp only at h2 hb hc; subst h2
  rw [add_lit']
  simp [World.cell?, hb, hc]
theorem At.sub {G : Heap} {q : Addr} {cs : List Value} (k : At G q cs) (i n : Nat) : At G (q.add i) ((cs.drop i).take n) := by
  obtain ⟨c, T, fr, h1, h2, h3⟩ := k
  obtain ⟨blk, off, spot⟩ := q
  simp only at h2 h1 h3; subst h2
  rw [add_lit']
  refine ⟨c, T, fr, h1, rfl, fun j v hj => ?_⟩
  rw [List.getElem?_take] at hj
  split at hj
  · rw [List.getElem?_drop] at hj
    have := h3 _ _ hj
    simpa [Nat.add_assoc] using this
  · cases hj
theorem At.of_block {G : Heap} {b T : Nat} {fr : Nat × Nat} {cs : List Value} (h : G b = some (.cells cs.toArray T fr)) : At G ⟨b, 0, none⟩ cs :=
  ⟨_, T, fr, h, rfl, fun j v hj => by simpa using hj⟩
theorem At.field {G : Heap} {q : Addr} {cs : List Value} (k : At G q cs) (i : Nat) {v : Value} (hv : cs[i]? = some v) : At G (q.add i) [v] := by
  have := k.sub i 1
  rw [List.drop_eq_getElem_cons (List.getElem?_eq_some_iff.1 hv).1] at this
  simpa [(List.getElem?_eq_some_iff.1 hv).2] using this

/-- A kind of values: how many cells, and which cells stand for what. -/
structure Ty (α : Type) where
  sz : Nat
  rep : Heap → α → List Value → Prop
  mono : ∀ {G G' : Heap} {x : α} {cs : List Value}, Le G G' → rep G x cs → rep G' x cs
  len : ∀ {G : Heap} {x : α} {cs : List Value}, rep G x cs → cs.length = sz
  one : ∀ {G : Heap} {x : α} {cs : List Value}, rep G x cs → ∀ v ∈ cs, v.oneCell' = true

/-- A list that lies in frozen memory. -/
def Row {α : Type} (d : Ty α) (G : Heap) (A : Option Addr) (xs : List α) : Prop :=
  ∀ i x, xs[i]? = some x → ∃ q cs, A = some q ∧ d.rep G x cs ∧ At G (q.add (i * d.sz)) cs
theorem Row.mono {α : Type} {d : Ty α} {G G' : Heap} (h : Le G G') {A : Option Addr} {xs : List α} (k : Row d G A xs) : Row d G' A xs := fun i x hx => by
  obtain ⟨q, cs, h1, h2, h3⟩ := k i x hx
  exact ⟨q, cs, h1, d.mono h h2, h3.mono h⟩
theorem Row.nil {α : Type} (d : Ty α) (G : Heap) (A : Option Addr) : Row d G A ([] : List α) := fun i x hx => by simp at hx
def big : Nat := 9223372036854775807
/-- A slice that stands for a list. -/
def SliceV {α : Type} (d : Ty α) (G : Heap) (v : Value) (xs : List α) : Prop :=
  ∃ A c, v = .slice A xs.length c ∧ xs.length ≤ c ∧ c ≤ big ∧ Row d G A xs
theorem SliceV.mono {α : Type} {d : Ty α} {G G' : Heap} (h : Le G G') {v : Value} {xs : List α} (k : SliceV d G v xs) : SliceV d G' v xs := by
  obtain ⟨A, c, h1, h2, h3, h4⟩ := k
  exact ⟨A, c, h1, h2, h3, h4.mono h⟩

def tInt (k : IntKind) : Ty Int where
  sz := 1
  rep _ x cs := cs = [.int k x] ∧ k.wrap x = x
  mono _ h := h
  len h := by rw [h.1]; rfl
  one h v hv := by rw [h.1] at hv; simp only [List.mem_singleton] at hv; subst hv; rfl
def tBool : Ty Bool where
  sz := 1
  rep _ x cs := cs = [.bool x]
  mono _ h := h
  len h := by rw [h]; rfl
  one h v hv := by rw [h] at hv; simp only [List.mem_singleton] at hv; subst hv; rfl
def tStr : Ty ByteArray where
  sz := 1
  rep _ x cs := cs = [.string x] ∧ x.size ≤ big
  mono _ h := h
  len h := by rw [h.1]; rfl
  one h v hv := by rw [h.1] at hv; simp only [List.mem_singleton] at hv; subst hv; rfl
def tSlice {α : Type} (d : Ty α) : Ty (List α) where
  sz := 1
  rep G xs cs := ∃ v, cs = [v] ∧ SliceV d G v xs
  mono h k := by obtain ⟨v, h1, h2⟩ := k; exact ⟨v, h1, h2.mono h⟩
  len h := by obtain ⟨v, h1, _⟩ := h; rw [h1]; rfl
  one h u hu := by
    obtain ⟨v, h1, A, c, h2, _⟩ := h
    rw [h1] at hu; simp only [List.mem_singleton] at hu; subst hu; rw [h2]; rfl
def tPair {α β : Type} (d : Ty α) (e : Ty β) : Ty (α × β) where
  sz := d.sz + e.sz
  rep G x cs := ∃ c1 c2, cs = c1 ++ c2 ∧ d.rep G x.1 c1 ∧ e.rep G x.2 c2
  mono h k := by obtain ⟨c1, c2, h1, h2, h3⟩ := k; exact ⟨c1, c2, h1, d.mono h h2, e.mono h h3⟩
  len h := by obtain ⟨c1, c2, h1, h2, h3⟩ := h; rw [h1, List.length_append, d.len h2, e.len h3]
  one h u hu := by
    obtain ⟨c1, c2, h1, h2, h3⟩ := h
    rw [h1] at hu
    rcases List.mem_append.1 hu with hu | hu
    · exact d.one h2 u hu
    · exact e.one h3 u hu
def tIso {α β : Type} (d : Ty α) (f : β → α) : Ty β where
  sz := d.sz
  rep G x cs := d.rep G (f x) cs
  mono h k := d.mono h k
  len h := d.len h
  one h := d.one h

/-- Read an element. -/
theorem Row.at {α : Type} {d : Ty α} {G : Heap} {A : Option Addr} {xs : List α} (k : Row d G A xs) (i : Nat) (h : i < xs.length) : ∃ q cs, A = some q ∧ d.rep G xs[i] cs ∧ At G (q.add (i * d.sz)) cs :=
  k i _ (List.getElem?_eq_getElem h)
theorem add_add' (q : Addr) (hs : q.spot = none) (i j : Nat) : (q.add i).add j = q.add (i + j) := by
  obtain ⟨b, o, s⟩ := q
  simp only at hs; subst hs
  rw [add_lit', add_lit', add_lit', Nat.add_assoc]
theorem At.spot {G : Heap} {q : Addr} {cs : List Value} (h : At G q cs) : q.spot = none := by obtain ⟨_, _, _, _, h2, _⟩ := h; exact h2
/-- What is left behind the first k elements. -/
theorem Row.drop {α : Type} {d : Ty α} {G : Heap} {q : Addr} {xs : List α} (h : Row d G (some q) xs) (k : Nat) (hq : q.spot = none) : Row d G (some (q.add (k * d.sz))) (xs.drop k) := fun i x hx => by
  rw [List.getElem?_drop] at hx
  obtain ⟨p, cs, h1, h2, h3⟩ := h _ _ hx
  injection h1 with h1; subst h1
  refine ⟨_, cs, rfl, h2, ?_⟩
  rw [add_add' q hq, ← Nat.add_mul]; exact h3
theorem Row.take {α : Type} {d : Ty α} {G : Heap} {A : Option Addr} {xs : List α} (h : Row d G A xs) (k : Nat) : Row d G A (xs.take k) := fun i x hx => by
  rw [List.getElem?_take] at hx
  split at hx
  · exact h i x hx
  · cases hx
theorem Row.spot {α : Type} {d : Ty α} {G : Heap} {q : Addr} {xs : List α} (h : Row d G (some q) xs) (hn : 0 < xs.length) : q.spot = none := by
  obtain ⟨p, cs, h1, h2, h3⟩ := h.at 0 hn
  injection h1 with h1; subst h1
  have := h3.spot
  rw [Nat.zero_mul] at this
  exact this

/-! ### 10. Single operations -/
def putU (S : St) (dst : Option Nat) (x : SV) : St := match dst with | none => S | some d => { S with env := (d, x) :: S.env }
def dstOK (N : Nat) : Option Nat → Bool | none => true | some d => Nat.blt d N
def toSV : Value → SV
  | .tuple ⟨l⟩ => .tup (l.map fun x => match x with | .agg ⟨m⟩ => .agg (m.map .v) | y => .v y)
  | .agg ⟨l⟩ => .agg (l.map .v)
  | x => .v x
theorem toSV_den (ρ : Nat → Nat) (v : Value) : (toSV v).den ρ = v := by
  have h1 : ∀ x : Value, (match x with | .agg ⟨m⟩ => SV.agg (m.map .v) | y => .v y).den ρ = x := by
    intro x
    split
    · rename_i m; simp only [SV.den, denL_map_v]
    · simp only [SV.den]
  unfold toSV
  split
  · rename_i l
    simp only [SV.den, SV.denL_eq, List.map_map]
    congr 2
    rw [show (SV.den ρ ∘ fun x => match x with | .agg ⟨m⟩ => SV.agg (m.map .v) | y => .v y) = id from funext h1]
    simp
  · rename_i l; simp only [SV.den, denL_map_v]
  · simp only [SV.den]

section
variable {P : Program} {r : Option Nat} {ops : Array Oper} {Q : Exit → Act → World → Prop} {c : Ctx} {G : Heap} {S S' : St} {tb : Tbl} {K : Act → World → Prop}

theorem putU_ok {ρ : Nat → Nat} {a : Act} {dst : Option Nat} {x : SV} (hA : ASat c ρ S.env S.ds a) (h : dstOK c.N dst = true) :
    ASat c ρ (putU S dst x).env (putU S dst x).ds (a.put dst (x.den ρ)) ∧ (putU S dst x).own = S.own ∧ (putU S dst x).fz = S.fz := by
  cases dst with
  | none => exact ⟨hA, rfl, rfl⟩
  | some d => exact ⟨hA.put (by simpa [dstOK] using h) x, rfl, rfl⟩

theorem WOp_val {o : Oper} {x : SV} (hw : wantS ops.toList S.env o = some true) (hd : dstOK c.N o.dst = true) (hno : ∀ cl, o.op ≠ .defer cl)
    (hrun : ∀ ρ a w, Sat c ρ G S a w → (execOp a.eval o).run P w = .ok (.value (x.den ρ)) w) (k : WK c G (putU S o.dst x) K) : WOp P r ops Q c G S o K := by
  intro ρ a w hs
  show if _ then _ else _
  rw [if_pos (wantS_ok hs.1 hw)]
  refine ⟨fun f _ => trivial, ?_⟩
  show Oper.uponIn (WF r) 0 P o a K Q (Sem.run P (Oper.semAt r a.eval o) w)
  rw [Oper.semAt_eq r _ o hno, hrun ρ a w hs]
  obtain ⟨h1, h2, h3⟩ := putU_ok (x := x) hs.1 hd
  exact k ρ _ _ ⟨h1, by rw [h2, h3]; exact hs.2⟩

/-- x[i]'s address, x a slice in frozen memory. -/
def idxC (tb : Tbl) (N : Nat) (ops : List Oper) (S : St) (o : Oper) : Option (Addr × Nat × Int × Nat) :=
  match wantS ops S.env o, dstOK N o.dst with
  | some true, true => match o.op with
    | .indexAddr t x ix => match evalO S.env x, evalO S.env ix, get tb t with
      | some (.v (.slice (some q) n _)), some (.v (.int _ i)), some T => match T.desc with
        | .slice e => match get tb e with
          | some E => some (q, n, i, E.size)
          | none => none
        | _ => none
      | _, _, _ => none
    | _ => none
  | _, _ => none
theorem WOp_idx (htb : TblOK P tb) {o : Oper} (q : Addr) (n : Nat) (i : Int) (sz : Nat) (h : idxC tb c.N ops.toList S o = some (q, n, i, sz)) (h0 : 0 ≤ i) (h1 : i < n)
    (k : WK c G (putU S o.dst (.v (.pointer (some (q.add (i.toNat * sz)))))) K) : WOp P r ops Q c G S o K := by
  unfold idxC at h
  split at h
  · rename_i hw hd
    split at h
    · rename_i t x ix hop
      split at h
      · rename_i q' n' cp kd i' T hx hi ht
        split at h
        · rename_i e hdesc
          split at h
          · rename_i E he
            simp only [Option.some.injEq, Prod.mk.injEq] at h
            obtain ⟨rfl, rfl, rfl, rfl⟩ := h
            refine WOp_val hw hd (by rw [hop]; intro cl e; cases e) (fun ρ a w hs => ?_) k
            have hu := (htb.at ht).2
            rw [hdesc] at hu
            obtain ⟨dst, op, type, pos, after, guard⟩ := o
            simp only at hop; subst hop
            simp [execOp, Instr.indexAt, evalO_ok hs.1 hx, evalO_ok hs.1 hi, SV.den, asIntOf, run_underlying hu, h0, h1, run_sizeOf_TI (htb.at he)]
          · cases h
        · cases h
      · cases h
    · cases h
  · cases h

/-- A load from frozen memory. -/
def ldC (tb : Tbl) (N : Nat) (ops : List Oper) (S : St) (o : Oper) : Option (Addr × Bool × Nat) :=
  match wantS ops S.env o, dstOK N o.dst with
  | some true, true => match o.op with
    | .load t x => match evalO S.env x, get tb t with
      | some (.v (.pointer (some q))), some T => some (q, T.agg, T.size)
      | _, _ => none
    | _ => none
  | _, _ => none
def ldV (agg : Bool) (cs : List Value) : SV := match agg, cs with
  | true, cs => .agg (cs.map .v)
  | false, v :: _ => .v v
  | false, [] => .v undef
theorem run_load_frozen {t : TypeId} {T : TI} (h : TIOK P t T) {w : World} (hw : Has w G) {q : Addr} {cs : List Value} (ha : At G q cs) (hl : cs.length = T.size) (hs : T.size ≠ 0) (ρ : Nat → Nat) :
    (loadVar t q).run P w = .ok ((ldV T.agg cs).den ρ) w := by
  cases hg : T.agg with
  | true =>
    have := run_loadVar_cells h (w := w) (q := q) hl (fun j v hj => ha.cell hw hj) hg
    simpa only [ldV, SV.den, denL_map_v] using this
  | false =>
    match cs, hl, ha with
    | [], hl, _ => exact absurd hl.symm hs
    | v :: l, hl, ha =>
      have := run_loadVar_cell h (w := w) (q := q) (v := v) (by have := ha.cell hw (j := 0) (v := v) rfl; simpa [Addr.add] using this) hg
      simpa only [ldV, SV.den] using this
theorem WOp_ld (htb : TblOK P tb) {o : Oper} (q : Addr) (agg : Bool) (sz : Nat) (cs : List Value) (h : ldC tb c.N ops.toList S o = some (q, agg, sz)) (ha : At G q cs) (hl : cs.length = sz) (hs : sz ≠ 0)
    (k : WK c G (putU S o.dst (ldV agg cs)) K) : WOp P r ops Q c G S o K := by
  unfold ldC at h
  split at h
  · rename_i hw hd
    split at h
    · rename_i t x hop
      split at h
      · rename_i q' T hx ht
        simp only [Option.some.injEq, Prod.mk.injEq] at h
        obtain ⟨rfl, rfl, rfl⟩ := h
        refine WOp_val hw hd (by rw [hop]; intro cl e; cases e) (fun ρ a w hs' => ?_) k
        obtain ⟨dst, op, type, pos, after, guard⟩ := o
        simp only at hop; subst hop
        simp only [execOp, Instr.loadAt, Sem.run_bind, evalO_ok hs'.1 hx, SV.den, Instr.sureAddr, Sem.run_pure, Result.andThen_ok, run_load_frozen (htb.at ht) hs'.2.has ha hl hs ρ]
      · cases h
    · cases h
  · cases h

/-- A call of a function by its contract. -/
def Goes (P : Program) (f : FuncId) : Prop := ∀ args w, (callFunc f args).run P w = .ok (.enter f args) w
theorem goes_of {f : FuncId} {fn : Func} (hf : P.funcs[f]? = some fn) (hb : fn.body.isNone = false) (hn : (fn.name == "runtime.NumGoroutine") = false) : Goes P f := fun args w => by
  unfold callFunc
  simp only [Sem.run_bind, run_program, Result.andThen_ok, hf, hn, hb, Bool.false_eq_true, if_false, Sem.run_pure]
def clC (N : Nat) (ops : List Oper) (S : St) (o : Oper) : Option (FuncId × List SV) :=
  match wantS ops S.env o, dstOK N o.dst with
  | some true, true => match o.op with
    | .call cl => match cl.callee with
      | .value f => match evalO S.env f, evalL S.env cl.args.toList with
        | some (.fn (.func k) caps), some xs => some (k, xs ++ caps)
        | _, _ => none
      | _ => none
    | _ => none
  | _, _ => none
theorem run_clC {N : Nat} {o : Oper} {k : FuncId} {xs : List SV} (h : clC N ops.toList S o = some (k, xs)) (hg : Goes P k) {ρ : Nat → Nat} {a : Act} (hA : ASat c ρ S.env S.ds a) (w : World) :
    wantS ops.toList S.env o = some true ∧ dstOK N o.dst = true ∧ (o.semAt r a.eval).run P w = .ok (.enter k (SV.denL ρ xs).toArray) w := by
  unfold clC at h
  split at h
  · rename_i hw hd
    split at h
    · rename_i cl hop
      split at h
      · rename_i f hcal
        split at h
        · rename_i k' caps ys hf hys
          simp only [Option.some.injEq, Prod.mk.injEq] at h
          obtain ⟨rfl, rfl⟩ := h
          refine ⟨hw, hd, ?_⟩
          rw [Oper.semAt_eq r _ o (by rw [hop]; intro cl e; cases e)]
          obtain ⟨dst, op, type, pos, after, guard⟩ := o
          simp only at hop; subst hop
          obtain ⟨callee, args, at_⟩ := cl
          simp only at hcal hys; subst hcal
          have h2 := evalL_ok hA hys
          have h3 : args.map a.eval = (SV.denL ρ ys).toArray := by
            apply Array.ext'; simpa using h2
          simp only [execOp, resolve, Sem.run_bind, evalO_ok hA hf, SV.den, Deferred.ofValue, Sem.run_pure, Result.andThen_ok, invoke, h3]
          rw [hg]
          congr 2
          apply Array.ext'
          simp [denL_append]
        · cases h
      · cases h
    · cases h
  · cases h
/-- What the caller keeps through a call that writes nothing that stood. -/
theorem WSat.called {ρ : Nat → Nat} {own : List (Nat × OB)} {fz : List (Nat × Nat × OB)} {w w' : World} {G' : Heap} (hW : WSat c ρ G own fz w) (hle : Le G G') (hh : Has w' G')
    (hn : ∀ b o, G' b = some o → G b = some o ∨ w.heap.size ≤ b) (he : Ext (fun _ => False) w w') : WSat c ρ G' own fz w' := by
  refine ⟨hh, fun p hp hon => ?_, fun p hp hon => ?_, hW.may, hW.keys, hW.inj, hW.ext.step he (fun i hi => hi.elim), hW.g0.trans hle, fun b o hb => ?_, fun p hp => ⟨(hW.froz p hp).1, hle _ _ (hW.froz p hp).2⟩⟩
  · have h1 := hW.cells p hp hon
    rw [he.keep _ (Array.getElem?_eq_some_iff.1 h1).1 (fun x => x)]; exact h1
  · cases hg : G' (ρ p.1) with
    | none => rfl
    | some o =>
      rcases hn _ _ hg with h1 | h1
      · have := hW.sep p hp hon; rw [h1] at this; cases this
      · have := (Array.getElem?_eq_some_iff.1 (hW.cells p hp hon)).1; omega
  · rcases hn b o hb with h1 | h1
    · exact hW.gnew b o h1
    · exact .inr (.inl (Nat.le_trans hW.ext.size h1))
theorem WOp_call {o : Oper} (f : FuncId) (xs : List SV) (h : clC c.N ops.toList S o = some (f, xs)) (hg : Goes P f) {Φ : Value → Heap → Prop}
    (hc : ∀ ρ w, WSat c ρ G S.own S.fz w → Calls P f (SV.denL ρ xs).toArray w (Ret w G Φ))
    (k : ∀ G' v, Le G G' → Φ v G' → WK c G' (putU S o.dst (toSV v)) K) : WOp P r ops Q c G S o K := by
  intro ρ a w hs
  obtain ⟨hw, hd, hrun⟩ := run_clC (P := P) (r := r) h hg hs.1 w
  show if _ then _ else _
  rw [if_pos (wantS_ok hs.1 hw)]
  refine ⟨fun f _ => trivial, ?_⟩
  show Oper.uponIn (WF r) 0 P o a K Q (Sem.run P (Oper.semAt r a.eval o) w)
  rw [hrun]
  refine ⟨fun hd => by simp [WF, Fence.wide] at hd, CallsIn.mono (callsIn_WF (hc ρ w hs.2)) ?_⟩
  rintro e w' ⟨v, G', rfl, h1, h2, h3, h4, h5⟩
  obtain ⟨k1, k2, k3⟩ := putU_ok (x := toSV v) hs.1 hd
  rw [toSV_den] at k1
  exact k G' v h1 h5 ρ _ _ ⟨k1, by rw [k2, k3]; exact hs.2.called h1 h2 (fun b o hb => (h3 b o hb).imp id (fun h => h.elim id False.elim)) h4⟩
end

/-! ### 11. Regions whose order is open -/
section
variable {P : Program} {r : Option Nat} {ops : Array Oper} {Q : Exit → Act → World → Prop} {H : World → Prop}

/-- Whatever order comes, and H behind each operation. -/
def wpAnyH' (P : Program) (r : Option Nat) (ops : Array Oper) (Q : Exit → Act → World → Prop) (H : World → Prop) : Nat → Array Bool → Act → World → Prop
  | 0, listed, a, w => Region.ready .any ops listed = [] ∧ Q .normal a w
  | fuel + 1, listed, a, w =>
    (Region.ready .any ops listed = [] → Q .normal a w) ∧
    ∀ i ∈ Region.ready .any ops listed, wpOpIn (WF r) 0 P ops Q i (fun a' w' => H w' ∧ wpAnyH' P r ops Q H fuel (listed.setIfInBounds i true) a' w') a w
theorem wpAny_of_H' : ∀ (fuel : Nat) (listed : Array Bool) (a : Act) (w : World), wpAnyH' P r ops Q H fuel listed a w → wpAnyIn (WF r) 0 P .any ops Q fuel listed a w
  | 0, _, _, _, h => h
  | fuel + 1, _, _, _, h => ⟨h.1, fun i hi => wpOpIn_mono (fun a' w' h' => wpAny_of_H' fuel _ a' w' h'.2) (h.2 i hi)⟩

/-- In state a, in every world that meets H, the operation leaves v and does nothing else. -/
def YieldsH (P : Program) (ops : Array Oper) (H : World → Prop) (o : Oper) (v : Value) (a : Act) : Prop :=
  (Region.wanted o (yielded ops a.tmps) = true ∧ ∀ w, H w → (execOp a.eval o).run P w = .ok (.value v) w) ∨
  (Region.wanted o (yielded ops a.tmps) = false ∧ v = undef)
def plainOp (o : Oper) : Bool := match o.op with | .select .. => false | .defer _ => false | _ => true
theorem plainOp_sel {o : Oper} (h : plainOp o = true) : ∀ cs b, o.op ≠ .select cs b := fun cs b e => by simp [plainOp, e] at h
theorem plainOp_def {o : Oper} (h : plainOp o = true) : ∀ cl, o.op ≠ .defer cl := fun cl e => by simp [plainOp, e] at h
theorem YieldsH.wpOp {i : Nat} {o : Oper} {v : Value} {a : Act} (hi : ops[i]? = some o) (ho : plainOp o = true) (hy : YieldsH P ops H o v a)
    {K : Act → World → Prop} {w : World} (hS : H w) (h : K (a.put o.dst v) w) : wpOpIn (WF r) 0 P ops Q i K a w := by
  unfold wpOpIn
  simp only [hi]
  rcases hy with ⟨hw, hv⟩ | ⟨hw, rfl⟩
  · rw [if_pos hw]
    refine ⟨fun f _ => trivial, ?_⟩
    show Oper.uponIn (WF r) 0 P o a K Q (Sem.run P (Oper.semAt r a.eval o) w)
    rw [Oper.semAt_eq r _ o (plainOp_def ho), hv w hS]; exact h
  · rw [if_neg (by rw [hw]; simp)]
    exact ⟨fun f _ => trivial, h⟩
theorem YieldsH.of_same {o : Oper} {v : Value} {a a' : Act} (hy : YieldsH P ops H o v a) (he : execOp a'.eval o = execOp a.eval o)
    (hw : Region.wanted o (yielded ops a'.tmps) = Region.wanted o (yielded ops a.tmps)) : YieldsH P ops H o v a' := by
  unfold YieldsH at *
  rw [he, hw]; exact hy
theorem wpOp_putH {j : Nat} {oi oj : Oper} {v : Value} (hj : ops[j]? = some oj) (hap : oi.apart ops oj = true) (hpi : plainOp oi = true) (hpj : plainOp oj = true)
    (hQ : ∀ ch a w, Q (.panic ch) (a.put oi.dst v) w → Q (.panic ch) a w) {K : Act → World → Prop} {a : Act} {w : World}
    (hy : YieldsH P ops H oi v a) (h : wpOpIn (WF r) 0 P ops Q j K (a.put oi.dst v) w) :
    wpOpIn (WF r) 0 P ops Q j (fun a' w' => YieldsH P ops H oi v a' ∧ K (a'.put oi.dst v) w') a w := by
  obtain ⟨h1, h2, h3⟩ := Oper.apart_spec hap
  have keep : ∀ (a : Act), YieldsH P ops H oi v a → ∀ u, YieldsH P ops H oi v (a.put oj.dst u) := fun a hy u =>
    hy.of_same (execOp_put oi (plainOp_sel hpi) a oj.dst u h3) (wanted_put oi a oj.dst u h3)
  unfold wpOpIn at *
  simp only [hj] at *
  rw [wanted_put oj a oi.dst v h1] at h
  by_cases hw : Region.wanted oj (yielded ops a.tmps) = true
  · rw [if_pos hw] at h ⊢
    refine ⟨fun f _ => trivial, ?_⟩
    have h' := h.2
    change Oper.uponIn (WF r) 0 P oj (a.put oi.dst v) K Q (Sem.run P (Oper.semAt r (a.put oi.dst v).eval oj) w) at h'
    show Oper.uponIn (WF r) 0 P oj a _ Q (Sem.run P (Oper.semAt r a.eval oj) w)
    rw [Oper.semAt_eq r _ oj (plainOp_def hpj), execOp_put oj (plainOp_sel hpj) a oi.dst v h1] at h'
    rw [Oper.semAt_eq r _ oj (plainOp_def hpj)]
    generalize (execOp a.eval oj).run P w = res at *
    cases res with
    | ok n w' =>
      cases n <;> simp only [Oper.uponIn] at h' ⊢
      case value u => exact ⟨keep a hy u, by rw [← Act.put_comm a v u h2]; exact h'⟩
      case skip => exact ⟨keep a hy _, by rw [← Act.put_comm a v undef h2]; exact h'⟩
      case defer d =>
        refine ⟨keep { a with defers := d :: a.defers } (hy.of_same rfl rfl) _, ?_⟩
        rw [← Act.put_comm _ v undef h2, ← Act.put_defers]
        exact h'
      case enter f args =>
        refine ⟨h'.1, CallsIn.mono h'.2 fun e w'' he => ?_⟩
        cases e with
        | returned u => exact ⟨keep a hy u, by rw [← Act.put_comm a v u h2]; exact he⟩
        | panicked ch => exact hQ _ _ _ he
        | outgrown => exact he
      case row row args => exact ⟨h'.1, RowsIn.mono h'.2 fun u w'' he => ⟨keep a hy u, by rw [← Act.put_comm a v u h2]; exact he⟩⟩
      case round l f tmps assign body =>
        refine ⟨h'.1, RoundIn.mono h'.2 fun e w'' he => ?_⟩
        cases e with
        | returned u => exact ⟨keep a hy u, by rw [← Act.put_comm a v u h2]; exact he⟩
        | panicked ch => exact hQ _ _ _ he
        | outgrown => exact he
    | halt x w' =>
      cases x <;> simp only [Oper.uponIn] at h' ⊢
      case panic u => exact hQ _ _ _ h'
  · rw [if_neg hw] at h ⊢
    exact ⟨fun f _ => trivial, keep a hy _, by rw [← Act.put_comm a v undef h2]; exact h.2⟩

theorem getD_set_ne' {l : Array Bool} {i k : Nat} (h : i ≠ k) (b : Bool) : (l.setIfInBounds i b).getD k true = l.getD k true := by
  simp [Array.getElem?_setIfInBounds_ne h]
theorem ready_mono' {i j : Nat} {listed : Array Bool} (hi : i ∈ Region.ready .any ops listed) (hne : i ≠ j) : i ∈ Region.ready .any ops (listed.setIfInBounds j true) := by
  obtain ⟨h1, o, h2, h3⟩ := mem_ready.1 hi
  refine mem_ready.2 ⟨by rw [getD_set_ne' (Ne.symm hne)]; exact h1, o, h2, fun e he hb => ?_⟩
  have := h3 e he hb
  by_cases hej : j = e.on
  · subst hej
    by_cases hlt : e.on < listed.size
    · simp [hlt]
    · rw [Array.getD_eq_getD_getElem?, Array.getElem?_eq_none (by omega)] at this; cases this
  · rw [Array.getD_eq_getD_getElem?, Array.getElem?_setIfInBounds_ne hej, ← Array.getD_eq_getD_getElem?]; exact this

theorem wpAnyH'_first {i : Nat} {oi : Oper} {v : Value} (hi : ops[i]? = some oi) (hpl : ∀ (j : Nat) (o : Oper), ops[j]? = some o → plainOp o = true)
    (hQ : ∀ ch a w, Q (.panic ch) (a.put oi.dst v) w → Q (.panic ch) a w) :
    ∀ (fuel : Nat) (listed : Array Bool) (a : Act) (w : World),
      (∀ j oj, ops[j]? = some oj → j ≠ i → listed.getD j true = false → (∀ e ∈ oj.after, Region.binds .any e = true → e.on ≠ i) → oi.apart ops oj = true) →
      i ∈ Region.ready .any ops listed → YieldsH P ops H oi v a → H w →
      wpAnyH' P r ops Q H fuel (listed.setIfInBounds i true) (a.put oi.dst v) w → wpAnyH' P r ops Q H (fuel + 1) listed a w := by
  intro fuel
  induction fuel with
  | zero =>
    intro listed a w _ hr hy hS Hh
    refine ⟨(fun h => by rw [h] at hr; cases hr), fun j hj => ?_⟩
    by_cases hji : j = i
    · subst hji; exact hy.wpOp hi (hpl _ _ hi) hS ⟨hS, Hh⟩
    · have := ready_mono' hj hji
      rw [Hh.1] at this
      cases this
  | succ fuel ih =>
    intro listed a w hfree hr hy hS Hh
    refine ⟨(fun h => by rw [h] at hr; cases hr), fun j hj => ?_⟩
    by_cases hji : j = i
    · subst hji; exact hy.wpOp hi (hpl _ _ hi) hS ⟨hS, Hh⟩
    · have h1 := Hh.2 j (ready_mono' hj hji)
      obtain ⟨hjun, oj, hoj, hall⟩ := mem_ready.1 hj
      have hnot : ∀ e ∈ oj.after, Region.binds .any e = true → e.on ≠ i := fun e he hb heq => by
        have h1 := hall e he hb
        have h0 := (mem_ready.1 hr).1
        rw [heq] at h1
        rcases Nat.lt_or_ge i listed.size with h' | h'
        · simp [h'] at h0 h1; rw [h0] at h1; cases h1
        · simp [Array.getElem?_eq_none h'] at h1
      have h2 := wpOp_putH hoj (hfree j oj hoj hji hjun hnot) (hpl _ _ hi) (hpl _ _ hoj) hQ hy h1
      have hfree' : ∀ k ok, ops[k]? = some ok → k ≠ i → (listed.setIfInBounds j true).getD k true = false →
          (∀ e ∈ ok.after, Region.binds .any e = true → e.on ≠ i) → oi.apart ops ok = true := fun k ok hk hki hun hno => by
        refine hfree k ok hk hki ?_ hno
        by_cases hjk : j = k
        · subst hjk; exact hjun
        · rw [getD_set_ne' hjk] at hun; exact hun
      refine wpOpIn_mono (fun a' w' h3 => ⟨h3.2.1, ih (listed.setIfInBounds j true) a' w' hfree' (ready_mono' hr (Ne.symm hji)) h3.1 h3.2.1 ?_⟩) h2
      rw [Array.setIfInBounds_comm _ _ hji]
      exact h3.2.2

/-- Of a drawn region, from state S on, the operations of 'listed' done; Gs is frozen since it began. -/
def WD (P : Program) (r : Option Nat) (ops : Array Oper) (Q : Exit → Act → World → Prop) (c : Ctx) (Gs : Heap) (fuel : Nat) (listed : Array Bool) (G : Heap) (S : St) : Prop :=
  WK c G S fun a w => wpAnyH' P r ops Q (fun w' => Has w' Gs) fuel listed a w
def allPlain (ops : List Oper) : Bool := ops.all plainOp
theorem allPlain_spec {ops : Array Oper} (h : allPlain ops.toList = true) : ∀ (j : Nat) (o : Oper), ops[j]? = some o → plainOp o = true := fun j o hj =>
  List.all_eq_true.1 h o (by rw [Array.mem_toList_iff]; exact Array.mem_of_getElem? hj)

variable {c : Ctx} {G Gs : Heap} {S S' : St} {tb : Tbl}
theorem WC_draw {id : Nat} {l : List Oper} (hm : P.follows .mixedOrders = true) (h : WD P r l.toArray Q c G l.length (Array.replicate l.length false) G S) : WC P r Q c G S (.region id l.toArray true) := by
  intro ρ a w hs
  refine wpIn_region_draw fun t => ?_
  simp only [Region.schedule, hm, Bool.true_or, if_true]
  refine wpAnyIn_sound l.toArray.size t _ a _ (wpAny_of_H' (H := fun w' => Has w' G) _ _ _ _ ?_)
  have hs' : Sat c ρ G S a { w with drawn := w.drawn + 1 } :=
    ⟨hs.1, ⟨hs.2.has, hs.2.cells, hs.2.sep, hs.2.may, hs.2.keys, hs.2.inj, hs.2.ext.trans (Ext.drawn _ _ _), hs.2.g0, hs.2.gnew, hs.2.froz⟩⟩
  simpa using h ρ a _ hs'

/-- The marks of n operations, as the bits of a number. -/
def bts (n m : Nat) : Array Bool := ((List.range n).map fun i => Nat.testBit m i).toArray
/-- What must be so for number i to be taken now: it may come, and nobody who might come before it meddles. -/
def takeB (ops : Array Oper) (listed : Array Bool) (i : Nat) : Bool := Region.free .any ops listed i && (Region.ready .any ops listed).contains i
theorem WD_take {fuel i : Nat} {listed : Array Bool} {o : Oper} {x : SV} (hi : ops[i]? = some o) (hpl : allPlain ops.toList = true) (ht : takeB ops listed i = true)
    (hQ : ∀ ch a d v w, Q (.panic ch) (Act.put a (some d) v) w → Q (.panic ch) a w) (hle : Le Gs G) (hd : dstOK c.N o.dst = true)
    (hy : ∀ ρ a w, Sat c ρ G S a w → YieldsH P ops (fun w' => Has w' Gs) o (x.den ρ) a)
    (k : WD P r ops Q c Gs fuel (listed.setIfInBounds i true) G (putU S o.dst x)) : WD P r ops Q c Gs (fuel + 1) listed G S := by
  intro ρ a w hs
  simp only [takeB, Bool.and_eq_true] at ht
  obtain ⟨h1, h2, h3⟩ := putU_ok (x := x) hs.1 hd
  exact wpAnyH'_first hi (allPlain_spec hpl) (fun ch a w h => by cases hdd : o.dst with | none => rw [hdd] at h; exact h | some d => rw [hdd] at h; exact hQ ch a d _ w h) fuel listed a w (Region.free_spec hi ht.1) (by simpa using ht.2) (hy ρ a w hs) (fun b o hb => hs.2.has _ _ (hle _ _ hb))
    (k ρ _ _ ⟨h1, by rw [h2, h3]; exact hs.2⟩)

/-- The frozen blocks that handles tell of. -/
def FZ (G : Heap) (fz : List (Nat × Nat × OB)) : Prop := ∀ p ∈ fz, G p.2.1 = some p.2.2.obj ∧ p.2.2.under 0 = true
theorem FZ.mono {G G' : Heap} (h : Le G G') {fz : List (Nat × Nat × OB)} (k : FZ G fz) : FZ G' fz := fun p hp => ⟨h _ _ (k p hp).1, (k p hp).2⟩
theorem FZ.nil (G : Heap) : FZ G [] := fun p hp => by cases hp
theorem FZ.cons {G : Heap} {h b : Nat} {ob : OB} {fz : List (Nat × Nat × OB)} (h1 : G b = some ob.obj) (h2 : ob.under 0 = true) (k : FZ G fz) : FZ G ((h, b, ob) :: fz) := fun p hp => by
  rcases List.mem_cons.1 hp with rfl | hp
  · exact ⟨h1, h2⟩
  · exact k p hp

/-- An operation that only looks at slots and frozen blocks is taken. -/
def takeV (tb : Tbl) (ops : List Oper) (S : St) (o : Oper) : Option SV :=
  match wantS ops S.env o with
  | some true => pureOp tb (memOf [] S.fz) S.env o.op
  | some false => some (.v undef)
  | none => none
theorem takeV_ok (htb : TblOK P tb) {o : Oper} {x : SV} (h : takeV tb ops.toList S o = some x) (hz : FZ Gs S.fz) {ρ : Nat → Nat} {a : Act} {w : World} (hs : Sat c ρ G S a w) :
    YieldsH P ops (fun w' => Has w' Gs) o (x.den ρ) a := by
  unfold takeV at h
  split at h
  · rename_i hw
    refine .inl ⟨wantS_ok hs.1 hw, fun w' hw' => pureOp_ok htb hs.1 (fun p hp hon => ?_) h⟩
    rcases List.mem_append.1 hp with hp | hp
    · cases hp
    · obtain ⟨q, hq, rfl⟩ := List.mem_map.1 hp
      obtain ⟨h1, h2⟩ := hz q hq
      have h3 := (hs.2.froz q hq).1
      simp only [h3, OB.den_closed ρ (fun _ => 0) h2]
      exact hw' _ _ h1
  · rename_i hw
    simp only [Option.some.injEq] at h; subst h
    exact .inr ⟨wantS_ok hs.1 hw, by simp only [SV.den]⟩
  · cases h
/-- Several, one behind the other: the numbers, and the state they lead to. -/
def takeL (tb : Tbl) (N : Nat) (ops : Array Oper) : List Nat → Array Bool → St → Option (Array Bool × St)
  | [], listed, S => some (listed, S)
  | i :: l, listed, S => match ops.toList[i]? with
    | some o => match takeV tb ops.toList S o with
      | some x => bif takeB ops listed i && dstOK N o.dst then takeL tb N ops l (listed.setIfInBounds i true) (putU S o.dst x) else none
      | none => none
    | none => none
theorem WD_takeL (htb : TblOK P tb) (hpl : allPlain ops.toList = true) (hQ : ∀ ch a d v w, Q (.panic ch) (Act.put a (some d) v) w → Q (.panic ch) a w) (hle : Le Gs G) :
    ∀ (is : List Nat) {fuel n : Nat} {listed listed' : Array Bool} {S S' : St}, FZ Gs S.fz → takeL tb c.N ops is listed S = some (listed', S') → n = fuel + is.length → WD P r ops Q c Gs fuel listed' G S' → WD P r ops Q c Gs n listed G S
  | [], fuel, n, listed, listed', S, S', hz, h, hn, k => by
    simp only [takeL, Option.some.injEq, Prod.mk.injEq] at h
    obtain ⟨rfl, rfl⟩ := h
    subst hn; exact k
  | i :: l, fuel, n, listed, listed', S, S', hz, h, hn, k => by
    simp only [takeL] at h
    split at h
    · rename_i o ho
      have hi : ops[i]? = some o := by simpa using ho
      split at h
      · rename_i x hx
        cases hb : (takeB ops listed i && dstOK c.N o.dst) with
        | false => rw [hb] at h; cases h
        | true =>
          rw [hb] at h
          simp only [cond_true] at h
          simp only [Bool.and_eq_true] at hb
          have hn' : n = (fuel + l.length) + 1 := by rw [hn, List.length_cons]; omega
          rw [hn']
          exact WD_take hi hpl hb.1 hQ hle hb.2 (fun ρ a w hs => takeV_ok htb hx hz hs)
            (WD_takeL htb hpl hQ hle l (by have e : (putU S o.dst x).fz = S.fz := by cases o.dst <;> rfl
                                           rw [e]; exact hz) h rfl k)
      · cases h
    · cases h
/-- An address reckoned, a load from frozen memory: taken, too. -/
theorem WD_idx (htb : TblOK P tb) {fuel : Nat} (i : Nat) {listed : Array Bool} {o : Oper} (hi : ops[i]? = some o) (hpl : allPlain ops.toList = true) (ht : takeB ops listed i = true) (hQ : ∀ ch a d v w, Q (.panic ch) (Act.put a (some d) v) w → Q (.panic ch) a w) (hle : Le Gs G)
    (q : Addr) (n : Nat) (ix : Int) (sz : Nat) (h : idxC tb c.N ops.toList S o = some (q, n, ix, sz)) (h0 : 0 ≤ ix) (h1 : ix < n)
    (k : WD P r ops Q c Gs fuel (listed.setIfInBounds i true) G (putU S o.dst (.v (.pointer (some (q.add (ix.toNat * sz))))))) : WD P r ops Q c Gs (fuel + 1) listed G S := by
  unfold idxC at h
  split at h
  · rename_i hw hd
    refine WD_take hi hpl ht hQ hle hd (fun ρ a w hs => .inl ⟨wantS_ok hs.1 hw, fun w' _ => ?_⟩) k
    split at h
    · rename_i t x ix' hop
      split at h
      · rename_i q' n' cp kd i' T hx hi' ht'
        split at h
        · rename_i e hdesc
          split at h
          · rename_i E he
            simp only [Option.some.injEq, Prod.mk.injEq] at h
            obtain ⟨rfl, rfl, rfl, rfl⟩ := h
            have hu := (htb.at ht').2
            rw [hdesc] at hu
            obtain ⟨dst, op, type, pos, after, guard⟩ := o
            simp only at hop; subst hop
            simp [execOp, Instr.indexAt, evalO_ok hs.1 hx, evalO_ok hs.1 hi', SV.den, asIntOf, run_underlying hu, h0, h1, run_sizeOf_TI (htb.at he)]
          · cases h
        · cases h
      · cases h
    · cases h
  · cases h
theorem WD_ld (htb : TblOK P tb) {fuel : Nat} (i : Nat) {listed : Array Bool} {o : Oper} (hi : ops[i]? = some o) (hpl : allPlain ops.toList = true) (ht : takeB ops listed i = true) (hQ : ∀ ch a d v w, Q (.panic ch) (Act.put a (some d) v) w → Q (.panic ch) a w) (hle : Le Gs G)
    (q : Addr) (agg : Bool) (sz : Nat) (cs : List Value) (h : ldC tb c.N ops.toList S o = some (q, agg, sz)) (ha : At Gs q cs) (hl : cs.length = sz) (hs : sz ≠ 0)
    (k : WD P r ops Q c Gs fuel (listed.setIfInBounds i true) G (putU S o.dst (ldV agg cs))) : WD P r ops Q c Gs (fuel + 1) listed G S := by
  unfold ldC at h
  split at h
  · rename_i hw hd
    refine WD_take hi hpl ht hQ hle hd (fun ρ a w hs' => .inl ⟨wantS_ok hs'.1 hw, fun w' hw' => ?_⟩) k
    split at h
    · rename_i t x hop
      split at h
      · rename_i q' T hx ht'
        simp only [Option.some.injEq, Prod.mk.injEq] at h
        obtain ⟨rfl, rfl, rfl⟩ := h
        obtain ⟨dst, op, type, pos, after, guard⟩ := o
        simp only at hop; subst hop
        simp only [execOp, Instr.loadAt, Sem.run_bind, evalO_ok hs'.1 hx, SV.den, Instr.sureAddr, Sem.run_pure, Result.andThen_ok, run_load_frozen (htb.at ht') hw' ha hl hs ρ]
      · cases h
    · cases h
  · cases h

/-- Only number i can come. -/
theorem WD_one {fuel : Nat} (i : Nat) {listed : Array Bool} {o : Oper} (hi : ops[i]? = some o) (hr : Region.ready .any ops listed = [i])
    (k : WOp P r ops Q c G S o fun a w => Has w Gs ∧ wpAnyH' P r ops Q (fun w' => Has w' Gs) fuel (listed.setIfInBounds i true) a w) : WD P r ops Q c Gs (fuel + 1) listed G S := by
  intro ρ a w hs
  refine ⟨(fun h => by rw [hr] at h; cases h), fun j hj => ?_⟩
  rw [hr] at hj
  simp only [List.mem_singleton] at hj
  subst hj
  unfold wpOpIn
  simp only [hi]
  exact k ρ a w hs
theorem WD_two {fuel : Nat} (i j : Nat) {listed : Array Bool} {o p : Oper} (hi : ops[i]? = some o) (hj : ops[j]? = some p) (hr : Region.ready .any ops listed = [i, j])
    (k : WOp P r ops Q c G S o fun a w => Has w Gs ∧ wpAnyH' P r ops Q (fun w' => Has w' Gs) fuel (listed.setIfInBounds i true) a w)
    (k' : WOp P r ops Q c G S p fun a w => Has w Gs ∧ wpAnyH' P r ops Q (fun w' => Has w' Gs) fuel (listed.setIfInBounds j true) a w) : WD P r ops Q c Gs (fuel + 1) listed G S := by
  intro ρ a w hs
  refine ⟨(fun h => by rw [hr] at h; cases h), fun m hm => ?_⟩
  rw [hr] at hm
  simp only [List.mem_cons, List.not_mem_nil, or_false] at hm
  rcases hm with rfl | rfl
  · unfold wpOpIn; simp only [hi]; exact k ρ a w hs
  · unfold wpOpIn; simp only [hj]; exact k' ρ a w hs
/-- Back from one operation to the region. -/
theorem WD_on {fuel : Nat} {listed : Array Bool} (hle : Le Gs G) (k : WD P r ops Q c Gs fuel listed G S) :
    WK c G S fun a w => Has w Gs ∧ wpAnyH' P r ops Q (fun w' => Has w' Gs) fuel listed a w := fun ρ a w hs => ⟨fun b o hb => hs.2.has _ _ (hle _ _ hb), k ρ a w hs⟩
theorem WD_done {fuel : Nat} {listed : Array Bool} (hr : Region.ready .any ops listed = []) (k : WQ Q .normal c G S) : WD P r ops Q c Gs fuel listed G S := fun ρ a w hs => by
  cases fuel with
  | zero => exact ⟨hr, k ρ a w hs⟩
  | succ n => exact ⟨fun _ => k ρ a w hs, by rw [hr]; simp⟩
end
end Go.Proofs.Ytfemkbockhpmcaa.Sym
