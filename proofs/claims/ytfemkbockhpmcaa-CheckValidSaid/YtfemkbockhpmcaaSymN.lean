/- The symbolic layer, fourteenth part: maps, lists and cells in blocks that are known by their number; calls that write them; calls to which everything is lent. Own work. -/
import Derived.Test.YtfemkbockhpmcaaSymM
import Derived.MapKept
import Derived.Laws.StructEq
set_option linter.unusedSimpArgs false
set_option linter.unusedVariables false
namespace Go.Proofs.Ytfemkbockhpmcaa.Sym
open Go Go.Proofs Go.RowKit
/-! Lists of keys and values -/
section
variable {α : Type} [DecidableEq α]
def locate : List (α × Value) → α → Nat → Option (Nat × Value)
  | [], _, _ => none
  | (b, v) :: l, a, i => if b = a then some (i, v) else locate l a (i + 1)
def lookL (l : List (α × Value)) (a : α) : Option Value := (locate l a 0).map (·.2)
def putL (l : List (α × Value)) (a : α) (v : Value) : List (α × Value) := match locate l a 0 with
  | some (i, _) => l.modify i fun _ => (a, v)
  | none => l ++ [(a, v)]
theorem locate_shift : ∀ (l : List (α × Value)) (a : α) (i j : Nat), locate l a (i + j) = (locate l a i).map fun p => (p.1 + j, p.2)
  | [], _, _, _ => rfl
  | (b, v) :: l, a, i, j => by
    simp only [locate]
    split
    · rfl
    · rw [show i + j + 1 = (i + 1) + j by omega]; exact locate_shift l a (i + 1) j
theorem lookL_cons {b : α} {v : Value} {l : List (α × Value)} {a : α} : lookL ((b, v) :: l) a = if b = a then some v else lookL l a := by
  unfold lookL
  simp only [locate]
  split
  · rfl
  · rw [locate_shift l a 0 1]; cases locate l a 0 <;> rfl
theorem lookL_append {l : List (α × Value)} {c : α} {v : Value} : ∀ a, lookL (l ++ [(c, v)]) a = match lookL l a with | some x => some x | none => if c = a then some v else none := by
  induction l with
  | nil => intro a; rw [List.nil_append, lookL_cons]; rfl
  | cons p l ih =>
    intro a
    obtain ⟨b, x⟩ := p
    rw [List.cons_append, lookL_cons, lookL_cons, ih a]
    split <;> rfl
theorem locate_spec : ∀ {l : List (α × Value)} {a : α} {i j : Nat} {v : Value}, locate l a i = some (j, v) → ∃ k, j = i + k ∧ l[k]? = some (a, v) ∧ ∀ k', k' < k → ∀ p, l[k']? = some p → p.1 ≠ a
  | [], _, _, _, _, h => by cases h
  | (b, x) :: l, a, i, j, v, h => by
    simp only [locate] at h
    split at h
    · rename_i e
      injection h with h; injection h with h1 h2
      exact ⟨0, by omega, by rw [← h2, ← e]; rfl, fun k' hk => by omega⟩
    · rename_i e
      obtain ⟨k, h1, h2, h3⟩ := locate_spec h
      refine ⟨k + 1, by omega, by simpa using h2, fun k' hk p hp => ?_⟩
      cases k' with
      | zero => simp at hp; subst hp; exact e
      | succ k' => simp at hp; exact h3 k' (by omega) p hp
theorem lookL_modify {c : α} {v : Value} : ∀ {l : List (α × Value)} {k : Nat} {x : Value}, l[k]? = some (c, x) → (∀ k', k' < k → ∀ p, l[k']? = some p → p.1 ≠ c) → ∀ a, lookL (l.modify k fun _ => (c, v)) a = if a = c then some v else lookL l a
  | [], k, x, h, _, a => by simp at h
  | (b, y) :: l, 0, x, h, _, a => by
    simp at h
    obtain ⟨rfl, rfl⟩ := h
    simp only [List.modify_zero_cons, lookL_cons]
    by_cases e : b = a
    · subst e; simp
    · rw [if_neg e, if_neg (Ne.symm e), if_neg e]
  | (b, y) :: l, k + 1, x, h, hn, a => by
    simp only [List.modify_succ_cons, lookL_cons]
    have h0 : b ≠ c := hn 0 (by omega) (b, y) rfl
    have ih := lookL_modify (v := v) (l := l) (k := k) (x := x) (by simpa using h) (fun k' hk p hp => hn (k' + 1) (by omega) p (by simpa using hp)) a
    rw [ih]
    by_cases e : b = a
    · subst e; rw [if_pos rfl, if_neg h0, if_pos rfl]
    · rw [if_neg e, if_neg e]
theorem lookL_put {l : List (α × Value)} {c : α} {v : Value} (a : α) : lookL (putL l c v) a = if a = c then some v else lookL l a := by
  unfold putL
  split
  · rename_i i x h
    obtain ⟨k, h1, h2, h3⟩ := locate_spec h
    have : i = k := by omega
    subst this
    exact lookL_modify h2 h3 a
  · rename_i h
    rw [lookL_append]
    by_cases e : a = c
    · subst e
      have : lookL l a = none := by unfold lookL; rw [h]; rfl
      rw [this]
    · rw [if_neg e, if_neg (Ne.symm e)]; cases lookL l a <;> rfl
end
/-! Keys -/
structure KeyEnc (P : Program) (kt : TypeId) {α : Type} [DecidableEq α] (enc : α → Value) : Prop where
  check : ∀ (a : α) (em : Bool) (w : World), (Instr.checkKey em 10000 kt (enc a)).run P w = .ok () w
  find : ∀ (a : α) (es : List MapEntry) (l : List (α × Value)), es.map (fun e => (e.key, e.val)) = l.map (fun p => (enc p.1, p.2)) → ∀ w, (Instr.findKey kt (enc a) es).run P w = .ok (locate l a 0) w
  stays : ∀ (a : α) (w : World), (Instr.keyThatStays (enc a) (enc a)).run P w = .ok (enc a) w
theorem bytes_beq_self (a : ByteArray) : (a == a) = true := by rw [beq_toListBytes]; simp
theorem bytes_beq_ne {a b : ByteArray} (h : a ≠ b) : (a == b) = false := by
  rw [beq_toListBytes]
  exact beq_eq_false_iff_ne.2 (fun e => h (WideShapes.bytes_inj (by rw [← ByteArray.toList_eq, ← ByteArray.toList_eq, e])))
theorem findNow_str (s : ByteArray) : ∀ (es : List MapEntry) (l : List (ByteArray × Value)) (i : Nat), es.map (fun e => (e.key, e.val)) = l.map (fun p => (Value.string p.1, p.2)) → Instr.findNow .string (.string s) es i = some (locate l s i)
  | [], [], i, _ => rfl
  | [], _ :: _, i, h => by cases h
  | _ :: _, [], i, h => by cases h
  | e :: es, (b, v) :: l, i, h => by
    simp only [List.map_cons, List.cons.injEq, Prod.mk.injEq] at h
    obtain ⟨⟨h1, h2⟩, h3⟩ := h
    simp only [Instr.findNow, h1, Instr.sameNow, locate]
    by_cases hb : b = s
    · subst hb; rw [bytes_beq_self]; simp [h2]
    · have : (s == b) = false := bytes_beq_ne (Ne.symm hb)
      rw [this, if_neg hb]
      exact findNow_str s es l (i + 1) h3
theorem keyEnc_str {P : Program} {kt : TypeId} (hk : P.underlying kt = some .string) : KeyEnc P kt (fun s : ByteArray => Value.string s) where
  check a em w := MapKept.run_checkKey (k := .string a) hk trivial em 9999
  find a es l h w := MapKept.run_findKey hk (findNow_str a es l 0 h)
  stays a w := MapKept.run_keyThatStays (k := .string a) (d := .string) trivial
/-- A map in memory. -/
def MapF {α : Type} [DecidableEq α] (G : Heap) (b : Nat) (enc : α → Value) (f : α → Option Value) : Prop :=
  ∃ es clk l, G b = some (.map es clk) ∧ es.toList.map (fun e => (e.key, e.val)) = l.map (fun p => (enc p.1, p.2)) ∧ ∀ a, lookL l a = f a
theorem MapF.mono {α : Type} [DecidableEq α] {G G' : Heap} (hle : Le G G') {b : Nat} {enc : α → Value} {f : α → Option Value} (h : MapF G b enc f) : MapF G' b enc f := by
  obtain ⟨es, clk, l, h1, h2⟩ := h
  exact ⟨es, clk, l, hle _ _ h1, h2⟩
theorem MapF.empty {α : Type} [DecidableEq α] {G : Heap} {b : Nat} {enc : α → Value} (h : G b = some (.map #[] 0)) : MapF G b enc (fun _ => none) := ⟨#[], 0, [], h, rfl, fun _ => rfl⟩
theorem MapF.add {α : Type} [DecidableEq α] {G : Heap} {b c : Nat} {enc : α → Value} {f : α → Option Value} (h : MapF G b enc f) (hne : b ≠ c) (o : Obj) : MapF (G.add c o) b enc f := by
  obtain ⟨es, clk, l, h1, h2⟩ := h
  exact ⟨es, clk, l, by unfold Heap.add; rw [if_neg hne]; exact h1, h2⟩
section
variable {P : Program} {r : Option Nat} {ops : Array Oper} {Q : Exit → Act → World → Prop} {c : Ctx} {G : Heap} {S : St} {tb : Tbl} {K : Act → World → Prop}
def lkC (tb : Tbl) (N : Nat) (ops : List Oper) (S : St) (o : Oper) : Option (Nat × SV × Bool × Nat × Value) :=
  match wantS ops S.env o, dstOK N o.dst with
  | some true, true => match o.op with
    | .lookup t m x ok => match evalO S.env m, evalO S.env x, get tb t with
      | some (.v (.map (some b))), some y, some T => match T.desc with
        | .map k e => match get tb e with
          | some E => some (b, y, ok, k, E.zero)
          | none => none
        | _ => none
      | _, _, _ => none
    | _ => none
  | _, _ => none
theorem WOp_look (htb : TblOK P tb) {o : Oper} (b : Nat) (y : SV) (ok : Bool) (kt : Nat) (z : Value) (hC : lkC tb c.N ops.toList S o = some (b, y, ok, kt, z)) {α : Type} [DecidableEq α] {enc : α → Value} (he : KeyEnc P kt enc) (a : α) (hy : ∀ ρ, y.den ρ = enc a)
    {f : α → Option Value} (hm : MapF G b enc f) {v : Value} (hv : (f a).getD z = v) {is : Bool} (his : (f a).isSome = is)
    (k : WK c G (putU S o.dst (bif ok then .tup [.v v, .v (.bool is)] else .v v)) K) : WOp P r ops Q c G S o K := by
  unfold lkC at hC
  split at hC
  · rename_i hw hd
    split at hC
    · rename_i t m x ok' hop
      split at hC
      · rename_i b' y' T hx hy' ht
        split at hC
        · rename_i k' e hdesc
          split at hC
          · rename_i E hE
            simp only [Option.some.injEq, Prod.mk.injEq] at hC
            obtain ⟨rfl, rfl, rfl, rfl, rfl⟩ := hC
            refine WOp_val hw hd (by rw [hop]; intro cl e; cases e) (fun ρ a' w hs => ?_) k
            have hu := (htb.at ht).2
            rw [hdesc] at hu
            obtain ⟨es, clk, l, h1, h2, h3⟩ := hm
            have hblk := hs.2.has _ _ h1
            obtain ⟨dst, op, type, pos, after, guard⟩ := o
            simp only at hop; subst hop
            have hf := he.find a es.toList l h2 w
            have h4 := h3 a
            have hz := run_zeroValue_TI (htb.at hE) w
            subst hv; subst his
            simp only [execOp, evalO_ok hs.1 hx, evalO_ok hs.1 hy', SV.den, hy ρ]
            cases hloc : locate l a 0 with
            | none =>
              rw [hloc] at hf
              have h5 : f a = none := by rw [← h4]; unfold lookL; rw [hloc]; rfl
              cases ok' <;> simp [Instr.lookup, run_underlying hu, MapKept.run_getObj_map hblk, he.check, hf, hz, h5, SV.den, SV.denL]
            | some p =>
              obtain ⟨i, v⟩ := p
              rw [hloc] at hf
              have h5 : f a = some v := by rw [← h4]; unfold lookL; rw [hloc]; rfl
              cases ok' <;> simp [Instr.lookup, run_underlying hu, MapKept.run_getObj_map hblk, he.check, hf, hz, h5, SV.den, SV.denL]
          · cases hC
        · cases hC
      · cases hC
    · cases hC
  · cases hC
def muC (tb : Tbl) (ops : List Oper) (S : St) (o : Oper) : Option (Nat × SV × SV × Nat) :=
  match wantS ops S.env o, o.dst with
  | some true, none => match o.op with
    | .mapUpdate t m x v => match evalO S.env m, evalO S.env x, evalO S.env v, get tb t with
      | some (.v (.map (some b))), some y, some u, some T => match T.desc with
        | .map k e => some (b, y, u, k)
        | _ => none
      | _, _, _, _ => none
    | _ => none
  | _, _ => none
theorem WOp_mapG (htb : TblOK P tb) {o : Oper} (b : Nat) (y u : SV) (kt : Nat) (hC : muC tb ops.toList S o = some (b, y, u, kt)) {α : Type} [DecidableEq α] {enc : α → Value} (he : KeyEnc P kt enc) (a : α) (hy : ∀ ρ, y.den ρ = enc a) (v : Value) (hu' : ∀ ρ, u.den ρ = v)
    {f : α → Option Value} (hm : MapF G b enc f) (h0 : c.G0 b = none) (hf : ∀ p ∈ S.fz, p.2.1 ≠ b)
    (k : ∀ es clk, MapF (G.add b (.map es clk)) b enc (fun x => if x = a then some v else f x) → WK c (G.add b (.map es clk)) S K) : WOp P r ops Q c G S o K := by
  intro ρ a' w hs
  unfold muC at hC
  split at hC
  · rename_i hw hdst
    split at hC
    · rename_i t m x v' hop
      split at hC
      · rename_i b' y' u' T hx hy' hv ht
        split at hC
        · rename_i k' e hdesc
          simp only [Option.some.injEq, Prod.mk.injEq] at hC
          obtain ⟨rfl, rfl, rfl, rfl⟩ := hC
          have hu := (htb.at ht).2
          rw [hdesc] at hu
          obtain ⟨es, clk, l, h1, h2, h3⟩ := hm
          have hblk := hs.2.has _ _ h1
          have hlt := (Array.getElem?_eq_some_iff.1 hblk).1
          have hfd := he.find a es.toList l h2 w
          obtain ⟨es', clk', hrun, hE⟩ : ∃ es' clk', (Instr.mapUpdate t (.map (some b')) (enc a) v).run P w = .ok () { w with heap := w.heap.setIfInBounds b' (.map es' clk') } ∧ es'.toList.map (fun e => (e.key, e.val)) = (putL l a v).map (fun p => (enc p.1, p.2)) := by
            cases hloc : locate l a 0 with
            | none =>
              rw [hloc] at hfd
              refine ⟨es.push ⟨enc a, v, clk⟩, clk + 1, ?_, ?_⟩
              · simp [Instr.mapUpdate, run_underlying hu, MapKept.run_getObj_map hblk, he.check, hfd, MapKept.run_setObj_map _ hblk, Result.andThen]
              · unfold putL; rw [hloc]; simp [h2]
            | some p =>
              obtain ⟨i, v0⟩ := p
              rw [hloc] at hfd
              obtain ⟨j, hj1, hj2, _⟩ := locate_spec hloc
              have : i = j := by omega
              subst this
              have hej : (es.toList.map (fun e => (e.key, e.val)))[i]? = some (enc a, v0) := by rw [h2, List.getElem?_map, hj2]; rfl
              rw [List.getElem?_map] at hej
              obtain ⟨e0, he1, he2⟩ := Option.map_eq_some_iff.1 hej
              simp only [Prod.mk.injEq] at he2
              have he3 : es[i]? = some e0 := by simpa using he1
              refine ⟨es.modify i fun e => { e with key := enc a, val := v }, clk, ?_, ?_⟩
              · simp [Instr.mapUpdate, run_underlying hu, MapKept.run_getObj_map hblk, he.check, hfd, he3, he2.1, he.stays, MapKept.run_setObj_map _ hblk, Result.andThen]
              · unfold putL; rw [hloc]
                simp only [Array.toList_modify]
                have key : ∀ (L : List MapEntry) (M : List (α × Value)) (i : Nat), L.map (fun e => (e.key, e.val)) = M.map (fun p => (enc p.1, p.2)) → (L.modify i fun e => { e with key := enc a, val := v }).map (fun e => (e.key, e.val)) = (M.modify i fun _ => (a, v)).map (fun p => (enc p.1, p.2)) := by
                  intro L
                  induction L with
                  | nil => intro M i hLM; cases M with
                    | nil => simp
                    | cons _ _ => cases hLM
                  | cons e L ih => intro M i hLM; cases M with
                    | nil => cases hLM
                    | cons p M =>
                      simp only [List.map_cons, List.cons.injEq] at hLM
                      cases i with
                      | zero => simp [hLM.2]
                      | succ i => simp only [List.modify_succ_cons, List.map_cons, hLM.1, ih M i hLM.2]
                exact key _ _ _ h2
          show if _ then _ else _
          rw [if_pos (wantS_ok hs.1 hw)]
          refine ⟨fun f _ => trivial, ?_⟩
          show Oper.uponIn (WF r) 0 P o a' K Q (Sem.run P (Oper.semAt r a'.eval o) w)
          rw [Oper.semAt_eq r _ o (by rw [hop]; intro cl e; cases e)]
          obtain ⟨dst, op, type, pos, after, guard⟩ := o
          simp only at hop hdst; subst hop; subst hdst
          simp only [execOp, Sem.run_bind, evalO_ok hs.1 hx, evalO_ok hs.1 hy', evalO_ok hs.1 hv, SV.den, hy ρ, hu' ρ, hrun, Result.andThen_ok, Sem.run_pure]
          refine k es' clk' ⟨es', clk', putL l a v, Heap.add_same _ _ _, hE, fun x => by rw [lookL_put, h3 x]⟩ ρ a' _ ⟨hs.1, hs.2.putG h1 h0 hf ?_ ?_⟩
          · simp [hlt]
          · exact ⟨rfl, rfl, rfl, by simp, fun i _ hi => by simp only [Array.getElem?_setIfInBounds]; rw [if_neg (fun e => hi e.symm)]⟩
        · cases hC
      · cases hC
    · cases hC
  · cases hC
/-- A block of one's own that is known by its number from now on, and is new. -/
theorem WK_freezeVN (h : Nat) {ob : OB} (ho : get S.own h = some ob) (hon : ob.on = true) (hu : ob.under 0 = true) (hk : Nat.ble c.k h = true)
    (k : ∀ b G', Le G G' → G b = none → G' b = some ob.obj → WK c G' (S.inst h b) K) : WK c G S K := by
  intro ρ a w hs
  obtain ⟨h1, h2⟩ := hs.2.freeze ho hon (Nat.le_of_ble_eq_true hk)
  have hd : ob.den ρ = ob.obj := OB.den_closed _ _ hu
  have hmem : ∀ p ∈ (S.inst h (ρ h)).own, ∃ q ∈ del S.own h, p = (q.1, q.2.inst h (ρ h)) := fun p hp => by
    obtain ⟨q, hq, rfl⟩ := List.mem_map.1 hp; exact ⟨q, hq, rfl⟩
  refine k (ρ h) _ (Heap.add_le h2) h2 (by rw [Heap.add_same, hd]) ρ a w ⟨⟨hs.1.size, fun t x hx => ?_, hs.1.defs⟩, ⟨h1.has, fun p hp hon => ?_, fun p hp hon => ?_, fun p hp hon => ?_, ?_, fun p hp q hq => ?_, h1.ext, h1.g0, h1.gnew, h1.froz⟩⟩
  · simp only [St.inst] at hx
    rw [get_map] at hx
    obtain ⟨y, hy, rfl⟩ := Option.map_eq_some_iff.1 hx
    rw [hs.1.slot t y hy, SV.inst_den rfl]
  · obtain ⟨q, hq, rfl⟩ := hmem p hp
    simp only [OB.inst_den rfl]
    simp only [OB.inst_on] at hon
    exact h1.cells q hq hon
  · obtain ⟨q, hq, rfl⟩ := hmem p hp
    simp only [OB.inst_on] at hon
    exact h1.sep q hq hon
  · obtain ⟨q, hq, rfl⟩ := hmem p hp
    simp only [OB.inst_on] at hon
    exact h1.may q hq hon
  · have e : (S.inst h (ρ h)).own.map (·.1) = (del S.own h).map (·.1) := by simp [St.inst]
    rw [e]; exact h1.keys
  · obtain ⟨p', hp', rfl⟩ := hmem p hp
    obtain ⟨q', hq', rfl⟩ := hmem q hq
    simp only [OB.inst_on]
    exact h1.inj p' hp' q' hq'
/-- A call that writes blocks known by their number: Gb is what stays. -/
def RetG (w : World) (G Gb : Heap) (D : Nat → Prop) (Φ : Value → Heap → Prop) : Ending → World → Prop := fun e w' =>
  ∃ v G', e = .returned v ∧ Le Gb G' ∧ Has w' G' ∧ (∀ b o, G' b = some o → G b ≠ none ∨ w.heap.size ≤ b) ∧ Ext D w w' ∧ Φ v G'
theorem WOp_callG {o : Oper} (f : FuncId) (xs : List SV) (h : clC c.N ops.toList S o = some (f, xs)) (hg : Goes P f) {Gb : Heap} {D : Nat → Prop} {Φ : Value → Heap → Prop}
    (hb : Le c.G0 Gb) (hbG : Le Gb G) (hD : ∀ b, D b → G b ≠ none ∧ Gb b = none) (hfz : ∀ p ∈ S.fz, Gb p.2.1 ≠ none)
    (hc : ∀ ρ w, WSat c ρ G S.own S.fz w → Calls P f (SV.denL ρ xs).toArray w (RetG w G Gb D Φ))
    (k : ∀ G' v, Le Gb G' → Φ v G' → WK c G' (putU S o.dst (toSV v)) K) : WOp P r ops Q c G S o K := by
  intro ρ a w hs
  obtain ⟨hw, hd, hrun⟩ := run_clC (P := P) (r := r) h hg hs.1 w
  show if _ then _ else _
  rw [if_pos (wantS_ok hs.1 hw)]
  refine ⟨fun f _ => trivial, ?_⟩
  show Oper.uponIn (WF r) 0 P o a K Q (Sem.run P (Oper.semAt r a.eval o) w)
  rw [hrun]
  refine ⟨fun hd => by simp [WF, Fence.wide] at hd, CallsIn.mono (callsIn_WF (hc ρ w hs.2)) ?_⟩
  rintro e w' ⟨v, G', rfl, h1, h2, h3, h4, h5⟩
  obtain ⟨k1, k2, k3⟩ := putU_ok (x := toSV v) hs.1 hd
  rw [toSV_den] at k1
  refine k G' v h1 h5 ρ _ _ ⟨k1, ?_⟩
  rw [k2, k3]
  have hW := hs.2
  have hold : ∀ p ∈ S.own, p.2.on = true → ρ p.1 < w.heap.size ∧ ¬ D (ρ p.1) := fun p hp hon =>
    ⟨(Array.getElem?_eq_some_iff.1 (hW.cells p hp hon)).1, fun hDp => (hD _ hDp).1 (hW.sep p hp hon)⟩
  have hnew : ∀ b, G b ≠ none → c.G0 b = none → c.w0.heap.size ≤ b ∨ c.D b := fun b hGb h0 => by
    cases hg' : G b with
    | none => exact absurd hg' hGb
    | some o' =>
      rcases hW.gnew b o' hg' with q | q
      · rw [h0] at q; cases q
      · exact q
  have hG0 : ∀ b, Gb b = none → c.G0 b = none := fun b hb' => by
    cases e : c.G0 b with
    | none => rfl
    | some o' => rw [hb _ _ e] at hb'; cases hb'
  refine ⟨h2, fun p hp hon => ?_, fun p hp hon => ?_, hW.may, hW.keys, hW.inj, hW.ext.step h4 (fun i hi => hnew i (hD i hi).1 (hG0 i (hD i hi).2)), hb.trans h1, fun b o' hb' => ?_, fun p hp => ?_⟩
  · obtain ⟨q1, q2⟩ := hold p hp hon
    rw [h4.keep _ q1 q2]; exact hW.cells p hp hon
  · cases hg' : G' (ρ p.1) with
    | none => rfl
    | some o' =>
      rcases h3 _ _ hg' with q | q
      · exact absurd (hW.sep p hp hon) q
      · have := (hold p hp hon).1; omega
  · cases e : c.G0 b with
    | some o0 => have q := h1 _ _ (hb _ _ e); rw [hb'] at q; exact .inl q.symm
    | none =>
      rcases h3 _ _ hb' with q | q
      · exact .inr (hnew b q e)
      · exact .inr (.inl (Nat.le_trans hW.ext.size q))
  · obtain ⟨q1, q2⟩ := hW.froz p hp
    refine ⟨q1, ?_⟩
    cases e : Gb p.2.1 with
    | none => exact absurd e (hfz p hp)
    | some o' => have q3 := hbG _ _ e; rw [q2] at q3; rw [q3]; exact h1 _ _ e
end
end Go.Proofs.Ytfemkbockhpmcaa.Sym
