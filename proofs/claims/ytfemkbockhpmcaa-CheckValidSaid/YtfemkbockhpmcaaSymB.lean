/- The symbolic layer, second part: entering and leaving a function, freezing, what values stand for, reads, calls. Own work. -/
import Derived.Test.YtfemkbockhpmcaaSym
import Derived.RangeFuncLeaves
set_option linter.unusedSimpArgs false
set_option linter.unusedVariables false
namespace Go.Proofs.Ytfemkbockhpmcaa.Sym
open Go

/-! ### 7. Entering and leaving -/
def numb : Nat → List SV → List (Nat × SV)
  | _, [] => []
  | k, x :: l => (k, x) :: numb (k + 1) l
theorem numb_get {ρ : Nat → Nat} : ∀ {l : List SV} {k t : Nat} {x : SV}, get (numb k l) t = some x → k ≤ t ∧ (SV.denL ρ l)[t - k]? = some (x.den ρ)
  | [], k, t, x, h => by simp [numb, get] at h
  | y :: l, k, t, x, h => by
    simp only [numb] at h
    rw [get_cons] at h
    by_cases e : k = t
    · rw [if_pos e] at h; injection h with h; subst e; subst h; exact ⟨Nat.le_refl _, by simp [SV.denL]⟩
    · rw [if_neg e] at h
      obtain ⟨h1, h2⟩ := numb_get (ρ := ρ) h
      refine ⟨by omega, ?_⟩
      rw [show t - k = (t - (k + 1)) + 1 by omega, SV.denL, List.getElem?_cons_succ]
      exact h2
theorem asat_enter {c : Ctx} {ρ : Nat → Nat} {xs : List SV} (hN : xs.length ≤ c.N) :
    ASat c ρ (numb 0 xs) [] { tmps := (SV.denL ρ xs).toArray ++ Array.replicate (c.N - (SV.denL ρ xs).toArray.size) undef, defers := [] } := by
  refine ⟨by simp [denL_length]; omega, fun t x hx => ?_, rfl⟩
  obtain ⟨_, h2⟩ := numb_get (ρ := ρ) hx
  rw [Nat.sub_zero] at h2
  have hlt : t < (SV.denL ρ xs).toArray.size := by
    have := (List.getElem?_eq_some_iff.1 h2).1
    simpa using this
  rw [Array.getElem?_append_left hlt]
  simpa using h2
theorem wsat_start {w : World} {G : Heap} (h : Has w G) (ρ : Nat → Nat) (D : Nat → Prop) (N k : Nat) : WSat ⟨w, G, D, N, k⟩ ρ G [] [] w :=
  ⟨h, (fun p hp => by cases hp), (fun p hp => by cases hp), (fun p hp => by cases hp), List.nodup_nil, (fun p hp => by cases hp), Ext.refl _ _, Le.refl _, (fun b o hb => .inl hb), (fun p hp => by cases hp)⟩

theorem enter_gen {P : Program} {f : FuncId} {fn : Func} {code : Code} {R : Ending → World → Prop} {w : World} {G : Heap} {D : Nat → Prop} {ρ : Nat → Nat} (xs : List SV) {own : List (Nat × OB)} {nx kk : Nat}
    (hf : P.funcs[f]? = some fn) (hb : fn.body = some code) (hN : xs.length ≤ fn.ntmps) (hW : WSat ⟨w, G, D, fn.ntmps, kk⟩ ρ G own [] w)
    (k : WC P none (bodyPost P fn R) ⟨w, G, D, fn.ntmps, kk⟩ G { env := numb 0 xs, own := own, nx := nx } code) : Calls P f (SV.denL ρ xs).toArray w R :=
  calls_of_WF (r := none) (n := 0) (callsIn_of_wp hf hb trivial (k ρ _ w ⟨asat_enter (c := ⟨w, G, D, fn.ntmps, kk⟩) hN, hW⟩))
theorem enter {P : Program} {f : FuncId} {fn : Func} {code : Code} {R : Ending → World → Prop} {w : World} {G : Heap} (xs : List SV) {args : Array Value} (N : Nat)
    (hf : P.funcs[f]? = some fn) (hb : fn.body = some code) (hn : fn.ntmps = N) (hN : Nat.ble xs.length N = true) (ha : args = (SV.denL (fun _ => 0) xs).toArray) (hG : Has w G)
    (k : WC P none (bodyPost P fn R) ⟨w, G, fun _ => False, N, 0⟩ G { env := numb 0 xs, own := [], nx := 0 } code) : Calls P f args w R := by
  subst hn; subst ha
  exact enter_gen xs hf hb (Nat.le_of_ble_eq_true hN) (wsat_start hG _ _ _ _) k
/-- The same where the body holds a range over a function. -/
theorem enterM {P : Program} {f : FuncId} {fn : Func} {code : Code} {R : Ending → World → Prop} {w : World} {G : Heap} (xs : List SV) {args : Array Value} (N : Nat)
    (hf : P.funcs[f]? = some fn) (hb : fn.body = some code) (hn : fn.ntmps = N) (hN : Nat.ble xs.length N = true) (ha : args = (SV.denL (fun _ => 0) xs).toArray) (hG : Has w G)
    (k : WC P none (bodyPostM (WF none) 0 P fn R) ⟨w, G, fun _ => False, N, 0⟩ G { env := numb 0 xs, own := [], nx := 0 } code) : Calls P f args w R := by
  subst hn; subst ha
  exact calls_of_WF (r := none) (n := 0) (callsIn_of_wp_marks hf hb trivial (k _ _ w ⟨asat_enter (c := ⟨w, G, _, fn.ntmps, 0⟩) (Nat.le_of_ble_eq_true hN), wsat_start hG _ _ _ _⟩))

/-- What a call hands back: its value, and a frozen heap that may have grown by new blocks; blocks outside D that stood are as they were. -/
def RetW (D : Nat → Prop) (w : World) (G : Heap) (Φ : Value → Heap → World → Prop) : Ending → World → Prop := fun e w' =>
  ∃ v G', e = .returned v ∧ Le G G' ∧ Has w' G' ∧ (∀ b o, G' b = some o → G b = some o ∨ w.heap.size ≤ b ∨ D b) ∧ Ext D w w' ∧ Φ v G' w'
def Ret (w : World) (G : Heap) (Φ : Value → Heap → Prop) : Ending → World → Prop := RetW (fun _ => False) w G fun v G' _ => Φ v G'

def resS (tb : Tbl) (S : St) : ResultVar → Option SV
  | .tmp t => get S.env t
  | .cell q ty => match get S.env q, get tb ty with
    | some (.p h off), some i => match get S.mem h with
      | some (.cells _ l) => bif i.agg then loadS i l off else none
      | _ => none
    | _, _ => none
def resL (tb : Tbl) (S : St) : List ResultVar → Option (List SV)
  | [] => some []
  | x :: l => match resS tb S x with
    | some y => match resL tb S l with
      | some ys => some (y :: ys)
      | none => none
    | none => none
def resV (ρ : Nat → Nat) : List SV → Value
  | [x] => x.den ρ
  | l => .tuple (SV.denL ρ l).toArray
def resF (tmps : Array Value) : ResultVar → Sem Value
  | .tmp t => pure (tmps.getD t undef)
  | .cell q t => do loadVar t (← asAddr (tmps.getD q undef))
theorem resS_ok {P : Program} {tb : Tbl} (htb : TblOK P tb) {c : Ctx} {ρ : Nat → Nat} {G : Heap} {S : St} {a : Act} {w : World} (hs : Sat c ρ G S a w) {x : ResultVar} {y : SV} (h : resS tb S x = some y) :
    (resF a.tmps x).run P w = .ok (y.den ρ) w := by
  cases x with
  | tmp t =>
    simp only [resS] at h
    simp [resF, hs.1.slot t y h]
  | cell q ty =>
    simp only [resS] at h
    split at h
    · rename_i hh off i hq hi
      split at h
      · rename_i T l ho
        cases ha : i.agg with
        | false => rw [ha] at h; cases h
        | true =>
          rw [ha] at h
          simp only [cond_true] at h
          have hb := hs.2.msat _ (get_mem ho) rfl
          simp only [OB.den] at hb
          have := hs.1.slot q _ hq
          simp only [SV.den] at this
          simp [resF, this, asAddr, loadS_ok (htb.at hi) ρ hb h]
      · cases h
    · cases h
theorem resL_ok {P : Program} {tb : Tbl} (htb : TblOK P tb) {c : Ctx} {ρ : Nat → Nat} {G : Heap} {S : St} {a : Act} {w : World} (hs : Sat c ρ G S a w) : ∀ {xs : List ResultVar} {ys : List SV}, resL tb S xs = some ys →
    (xs.mapM (resF a.tmps)).run P w = .ok (SV.denL ρ ys) w
  | [], ys, h => by simp only [resL, Option.some.injEq] at h; subst h; rfl
  | x :: xs, ys, h => by
    simp only [resL] at h
    split at h
    · rename_i y hy
      split at h
      · rename_i ys' hys
        simp only [Option.some.injEq] at h; subst h
        have h1 := resS_ok htb hs hy
        rw [List.mapM_cons]
        simp only [Sem.run_bind]
        rw [h1]
        simp only [Result.andThen_ok, resL_ok htb hs hys, Sem.run_pure, SV.denL]
      · cases h
    · cases h
theorem results_ok {P : Program} {tb : Tbl} (htb : TblOK P tb) {c : Ctx} {ρ : Nat → Nat} {G : Heap} {S : St} {a : Act} {w : World} (hs : Sat c ρ G S a w) {fn : Func} {ys : List SV} (h : resL tb S fn.results.toList = some ys) :
    (results fn a.tmps).run P w = .ok (resV ρ ys) w := by
  have h1 := resL_ok htb hs h
  unfold results
  have e : fn.results = fn.results.toList.toArray := by simp
  rw [e, List.mapM_toArray]
  simp only [Sem.run_bind, Sem.run_map]
  have key : ∀ f : ResultVar → Sem Value, (∀ x, f x = resF a.tmps x) → (fn.results.toList.mapM f).run P w = .ok (SV.denL ρ ys) w := fun f hf => by rw [show f = resF a.tmps from funext hf]; exact h1
  rw [key _ (fun x => by cases x <;> rfl)]
  simp only [Result.andThen_ok]
  match ys with
  | [] => rfl
  | [y] => simp [SV.denL, resV]
  | y :: z :: l => simp [SV.denL, resV]

theorem WQ_done {P : Program} {fn : Func} {Φ : Value → Heap → World → Prop} {c : Ctx} {G : Heap} {S : St} {tb : Tbl} (htb : TblOK P tb) (ys : List SV) (e : Exit) (he : e = .ret ∨ e = .normal) (hd : S.ds = []) (hr : resL tb S fn.results.toList = some ys)
    (h : ∀ ρ w, WSat c ρ G S.own S.fz w → Φ (resV ρ ys) G w) : WQ (bodyPost P fn (RetW c.D c.w0 c.G0 Φ)) e c G S := by
  intro ρ a w hs
  have hq : a.defers = [] ∧ ∃ v, (results fn a.tmps).run P w = .ok v w ∧ RetW c.D c.w0 c.G0 Φ (.returned v) w :=
    ⟨by rw [hs.1.defs, hd]; rfl, _, results_ok htb hs hr, _, G, rfl, hs.2.g0, hs.2.has, hs.2.gnew, hs.2.ext, h ρ w hs.2⟩
  rcases he with rfl | rfl <;> exact hq

/-! ### 8. Freezing: a block of the walk's own is never written again -/
mutual
def SV.inst (h b : Nat) : SV → SV
  | .v x => .v x
  | .p k off => bif Nat.beq k h then .v (.pointer (some ⟨b, off, none⟩)) else .p k off
  | .s k n c => bif Nat.beq k h then .v (.slice (some ⟨b, 0, none⟩) n c) else .s k n c
  | .ls z k n c => bif Nat.beq k h then (bif z then .v (.slice none 0 0) else .v (.slice (some ⟨b, 0, none⟩) n c)) else .ls z k n c
  | .m k => bif Nat.beq k h then .v (.map (some b)) else .m k
  | .agg l => .agg (SV.instL h b l)
  | .tup l => .tup (SV.instL h b l)
  | .fn f l => .fn f (SV.instL h b l)
def SV.instL (h b : Nat) : List SV → List SV
  | [] => []
  | x :: l => x.inst h b :: SV.instL h b l
end
mutual
theorem SV.inst_den {ρ : Nat → Nat} {h b : Nat} (hb : ρ h = b) : ∀ x : SV, (x.inst h b).den ρ = x.den ρ
  | .v _ => rfl
  | .p k off => by
    simp only [SV.inst]
    cases hk : Nat.beq k h with
    | true => have := Nat.eq_of_beq_eq_true hk; subst this; simp only [cond_true, SV.den, hb]
    | false => rfl
  | .s k n c => by
    simp only [SV.inst]
    cases hk : Nat.beq k h with
    | true => have := Nat.eq_of_beq_eq_true hk; subst this; simp only [cond_true, SV.den, hb]
    | false => rfl
  | .ls z k n c => by
    simp only [SV.inst]
    cases hk : Nat.beq k h with
    | true => have := Nat.eq_of_beq_eq_true hk; subst this; cases z <;> simp only [cond_true, cond_false, SV.den, hb]
    | false => rfl
  | .m k => by
    simp only [SV.inst]
    cases hk : Nat.beq k h with
    | true => have := Nat.eq_of_beq_eq_true hk; subst this; simp only [cond_true, SV.den, hb]
    | false => rfl
  | .agg l => by simp only [SV.inst, SV.den, SV.instL_den hb l]
  | .tup l => by simp only [SV.inst, SV.den, SV.instL_den hb l]
  | .fn f l => by simp only [SV.inst, SV.den, SV.instL_den hb l]
theorem SV.instL_den {ρ : Nat → Nat} {h b : Nat} (hb : ρ h = b) : ∀ l : List SV, SV.denL ρ (SV.instL h b l) = SV.denL ρ l
  | [] => rfl
  | x :: l => by simp only [SV.instL, SV.denL, SV.inst_den hb x, SV.instL_den hb l]
end
def OB.inst (h b : Nat) : OB → OB
  | .cells T l => .cells T (SV.instL h b l)
  | .raw o => .raw o
  | .lst z T a => .lst z T a
theorem OB.inst_on (h b : Nat) (x : OB) : (x.inst h b).on = x.on := by cases x <;> rfl
theorem OB.inst_den {ρ : Nat → Nat} {h b : Nat} (hb : ρ h = b) (x : OB) : (x.inst h b).den ρ = x.den ρ := by
  cases x with
  | cells T l => simp only [OB.inst, OB.den, SV.instL_den hb l]
  | raw o => rfl
  | lst z T a => rfl
theorem get_map {α β : Type} (f : α → β) : ∀ (l : List (Nat × α)) (t : Nat), get (l.map fun p => (p.1, f p.2)) t = (get l t).map f
  | [], t => rfl
  | (k, x) :: l, t => by
    simp only [List.map_cons]
    rw [get_cons, get_cons]
    by_cases e : k = t
    · rw [if_pos e, if_pos e]; rfl
    · rw [if_neg e, if_neg e]; exact get_map f l t
theorem del_sub {α : Type} {l : List (Nat × α)} {t : Nat} {p : Nat × α} (h : p ∈ del l t) : p ∈ l := by
  induction l with
  | nil => cases h
  | cons q l ih =>
    obtain ⟨k, x⟩ := q
    simp only [del] at h
    cases hk : Nat.beq k t with
    | true => rw [hk] at h; exact List.mem_cons_of_mem _ h
    | false =>
      rw [hk] at h
      rcases List.mem_cons.1 h with rfl | h
      · exact List.mem_cons_self
      · exact List.mem_cons_of_mem _ (ih h)
theorem del_ne {α : Type} {l : List (Nat × α)} {t : Nat} (hn : (l.map (·.1)).Nodup) {p : Nat × α} (h : p ∈ del l t) : p.1 ≠ t := by
  induction l with
  | nil => cases h
  | cons q l ih =>
    obtain ⟨k, x⟩ := q
    simp only [List.map_cons, List.nodup_cons] at hn
    simp only [del] at h
    cases hk : Nat.beq k t with
    | true =>
      rw [hk] at h
      have hk' := Nat.eq_of_beq_eq_true hk
      intro e
      exact hn.1 (by rw [hk', ← e]; exact List.mem_map_of_mem h)
    | false =>
      rw [hk] at h
      rcases List.mem_cons.1 h with rfl | h
      · intro e; simp only at e; rw [e, Nat.beq_refl] at hk; cases hk
      · exact ih hn.2 h
theorem del_nodup {l : List (Nat × OB)} {t : Nat} (hn : (l.map (·.1)).Nodup) : ((del l t).map (·.1)).Nodup := by
  induction l with
  | nil => exact List.nodup_nil
  | cons q l ih =>
    obtain ⟨k, x⟩ := q
    simp only [List.map_cons, List.nodup_cons] at hn
    simp only [del]
    cases Nat.beq k t with
    | true => exact hn.2
    | false =>
      simp only [cond_false, List.map_cons, List.nodup_cons]
      refine ⟨fun hm => hn.1 ?_, ih hn.2⟩
      obtain ⟨p, hp, he⟩ := List.mem_map.1 hm
      rw [← he]; exact List.mem_map_of_mem (del_sub hp)

/-- The frozen heap with one block more. -/
def Heap.add (G : Heap) (b : Nat) (o : Obj) : Heap := fun k => if k = b then some o else G k
theorem Heap.add_le {G : Heap} {b : Nat} {o : Obj} (h : G b = none) : Le G (G.add b o) := fun k x hk => by
  unfold Heap.add
  by_cases e : k = b
  · subst e; rw [h] at hk; cases hk
  · rw [if_neg e]; exact hk
theorem Heap.add_same (G : Heap) (b : Nat) (o : Obj) : G.add b o b = some o := by simp [Heap.add]

/-- The block of handle h joins the frozen heap. -/
theorem WSat.freeze {c : Ctx} {ρ : Nat → Nat} {G : Heap} {own : List (Nat × OB)} {fz : List (Nat × Nat × OB)} {w : World} (hW : WSat c ρ G own fz w) {h : Nat} {ob : OB} (ho : get own h = some ob) (hon : ob.on = true) (hk : c.k ≤ h) :
    WSat c ρ (G.add (ρ h) (ob.den ρ)) (del own h) fz w ∧ G (ρ h) = none := by
  have hm : (h, ob) ∈ own := get_mem ho
  have hnk := hW.keys
  have hg : G (ρ h) = none := hW.sep _ hm hon
  refine ⟨⟨fun b o hb => ?_, fun p hp => hW.cells p (del_sub hp), fun p hp hpo => ?_, fun p hp => hW.may p (del_sub hp), del_nodup hnk, fun p hp q hq => hW.inj p (del_sub hp) q (del_sub hq), hW.ext, hW.g0.trans (Heap.add_le hg), fun b o hb => ?_, fun p hp => ?_⟩, hg⟩
  · unfold Heap.add at hb
    by_cases e : b = ρ h
    · rw [if_pos e] at hb; injection hb with hb; subst hb; rw [e]; exact hW.cells _ hm hon
    · rw [if_neg e] at hb; exact hW.has b o hb
  · unfold Heap.add
    rw [if_neg (fun e => del_ne hnk hp (hW.inj p (del_sub hp) _ hm hpo hon e))]
    exact hW.sep p (del_sub hp) hpo
  · unfold Heap.add at hb
    by_cases e : b = ρ h
    · right; left; rw [e]
      rcases hW.may _ hm hon with h1 | h1
      · exact h1
      · exact absurd h1.2 (Nat.not_lt.2 hk)
    · rw [if_neg e] at hb; exact hW.gnew b o hb
  · obtain ⟨h1, h2⟩ := hW.froz p hp
    exact ⟨h1, Heap.add_le hg _ _ h2⟩

/-- What a frozen block tells, no handle in it. -/
theorem OB.den_closed (ρ ρ' : Nat → Nat) {x : OB} (h : x.under 0 = true) : x.den ρ = x.den ρ' := OB.den_congr (fun k hk => absurd hk (Nat.not_lt_zero k)) x h
def OB.obj (x : OB) : Obj := x.den fun _ => 0

/-- A block of one's own is never written again; its handle stays. -/
theorem WK_freeze {c : Ctx} {G : Heap} {S : St} {K : Act → World → Prop} (h : Nat) {ob : OB} (ho : get S.own h = some ob) (hon : ob.on = true) (hu : ob.under 0 = true) (hk : Nat.ble c.k h = true)
    (k : ∀ b G', Le G G' → G' b = some ob.obj → WK c G' { S with own := del S.own h, fz := (h, b, ob) :: S.fz } K) : WK c G S K := by
  intro ρ a w hs
  obtain ⟨h1, h2⟩ := hs.2.freeze ho hon (Nat.le_of_ble_eq_true hk)
  have hd : ob.den ρ = ob.obj := OB.den_closed _ _ hu
  refine k (ρ h) _ (Heap.add_le h2) (by rw [Heap.add_same, hd]) ρ a w ⟨hs.1, ⟨h1.has, h1.cells, h1.sep, h1.may, h1.keys, h1.inj, h1.ext, h1.g0, h1.gnew, fun p hp => ?_⟩⟩
  rcases List.mem_cons.1 hp with rfl | hp
  · exact ⟨rfl, Heap.add_same _ _ _⟩
  · exact h1.froz p hp

def St.inst (S : St) (h b : Nat) : St :=
  { env := S.env.map fun p => (p.1, p.2.inst h b), own := (del S.own h).map fun p => (p.1, p.2.inst h b), nx := S.nx, ds := S.ds, fz := S.fz }
/-- The same, and its handle goes: the block's number stands in its place. -/
theorem WK_freezeV {c : Ctx} {G : Heap} {S : St} {K : Act → World → Prop} (h : Nat) {ob : OB} (ho : get S.own h = some ob) (hon : ob.on = true) (hu : ob.under 0 = true) (hk : Nat.ble c.k h = true)
    (k : ∀ b G', Le G G' → G' b = some ob.obj → WK c G' (S.inst h b) K) : WK c G S K := by
  intro ρ a w hs
  obtain ⟨h1, h2⟩ := hs.2.freeze ho hon (Nat.le_of_ble_eq_true hk)
  have hd : ob.den ρ = ob.obj := OB.den_closed _ _ hu
  have hmem : ∀ p ∈ (S.inst h (ρ h)).own, ∃ q ∈ del S.own h, p = (q.1, q.2.inst h (ρ h)) := fun p hp => by
    obtain ⟨q, hq, rfl⟩ := List.mem_map.1 hp; exact ⟨q, hq, rfl⟩
  refine k (ρ h) _ (Heap.add_le h2) (by rw [Heap.add_same, hd]) ρ a w ⟨⟨hs.1.size, fun t x hx => ?_, hs.1.defs⟩, ⟨h1.has, fun p hp hon => ?_, fun p hp hon => ?_, fun p hp hon => ?_, ?_, fun p hp q hq => ?_, h1.ext, h1.g0, h1.gnew, h1.froz⟩⟩
  · simp only [St.inst] at hx
    rw [get_map] at hx
    obtain ⟨y, hy, rfl⟩ := Option.map_eq_some_iff.1 hx
    rw [hs.1.slot t y hy, SV.inst_den rfl]
  · obtain ⟨q, hq, rfl⟩ := hmem p hp
    simp only [OB.inst_den rfl]
    simp only [OB.inst_on] at hon
    exact h1.cells q hq hon
  · obtain ⟨q, hq, rfl⟩ := hmem p hp
    simp only [OB.inst_on] at hon
    exact h1.sep q hq hon
  · obtain ⟨q, hq, rfl⟩ := hmem p hp
    simp only [OB.inst_on] at hon
    exact h1.may q hq hon
  · have e : (S.inst h (ρ h)).own.map (·.1) = (del S.own h).map (·.1) := by simp [St.inst]
    rw [e]; exact h1.keys
  · obtain ⟨p', hp', rfl⟩ := hmem p hp
    obtain ⟨q', hq', rfl⟩ := hmem q hq
    simp only [OB.inst_on]
    exact h1.inj p' hp' q' hq'
/-- Slots and blocks that are kept. -/
theorem WK_keep {c : Ctx} {G : Heap} {S : St} {K : Act → World → Prop} (ke ko : List Nat) {e : List (Nat × SV)} {o : List (Nat × OB)} (h1 : keepE S.env ke = some e) (h2 : keepO S.own ko = some o)
    (k : WK c G { S with env := e, own := o } K) : WK c G S K := fun ρ a w ⟨hA, hW⟩ =>
  k ρ a w ⟨⟨hA.size, fun t x hx => hA.slot t x (keepE_ok h1 t x hx), hA.defs⟩, hW.keep (keepO_ok h2).1 (keepO_ok h2).2⟩
/-- The slots' values, spelled otherwise. -/
def sameE (ρ : Nat → Nat) : List (Nat × SV) → List (Nat × SV) → Prop
  | [], [] => True
  | (t, x) :: l, (u, y) :: m => t = u ∧ x.den ρ = y.den ρ ∧ sameE ρ l m
  | _, _ => False
theorem sameE_get {ρ : Nat → Nat} : ∀ {e e' : List (Nat × SV)}, sameE ρ e e' → ∀ t y, get e' t = some y → ∃ x, get e t = some x ∧ x.den ρ = y.den ρ
  | [], [], _, t, y, h => by simp [get] at h
  | (k, x) :: l, (u, z) :: m, hs, t, y, h => by
    obtain ⟨h1, h2, h3⟩ := hs
    subst h1
    rw [get_cons] at h
    by_cases e : k = t
    · rw [if_pos e] at h; injection h with h; subst h
      exact ⟨x, by rw [get_cons, if_pos e], h2⟩
    · rw [if_neg e] at h
      obtain ⟨x', h4, h5⟩ := sameE_get h3 t y h
      exact ⟨x', by rw [get_cons, if_neg e]; exact h4, h5⟩
  | [], _ :: _, hs, _, _, _ => by cases hs
  | _ :: _, [], hs, _, _, _ => by cases hs
theorem WK_env {c : Ctx} {G : Heap} {S : St} {K : Act → World → Prop} (e : List (Nat × SV)) (h : ∀ ρ, sameE ρ S.env e) (k : WK c G { S with env := e } K) : WK c G S K := fun ρ a w ⟨hA, hW⟩ =>
  k ρ a w ⟨⟨hA.size, fun t y hy => by
    obtain ⟨x, h1, h2⟩ := sameE_get (h ρ) t y hy
    rw [hA.slot t x h1, h2], hA.defs⟩, hW⟩

end Go.Proofs.Ytfemkbockhpmcaa.Sym
