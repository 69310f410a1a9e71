/- Calls that write known blocks: how they begin and end; the state of the closure that tells flaws. Own work. -/
import Derived.Test.YtfemkbockhpmcaaPc
set_option linter.unusedSimpArgs false
set_option linter.unusedVariables false
namespace Go.Proofs.Ytfemkbockhpmcaa.Sym
open Go Go.Proofs Go.RowKit
/-- Entered with a heap in which some blocks are known that may be written; Gb stays. -/
theorem enterG {P : Program} {f : FuncId} {fn : Func} {code : Code} {R : Ending → World → Prop} {w : World} {G Gb : Heap} (xs : List SV) {args : Array Value} (N : Nat)
    (hf : P.funcs[f]? = some fn) (hb : fn.body = some code) (hn : fn.ntmps = N) (hN : Nat.ble xs.length N = true) (ha : args = (SV.denL (fun _ => 0) xs).toArray) (hG : Has w G) (hle : Le Gb G)
    (k : WC P none (bodyPost P fn R) ⟨w, Gb, fun b => G b ≠ none ∧ Gb b = none, N, 0⟩ G { env := numb 0 xs, own := [], nx := 0 } code) : Calls P f args w R := by
  subst hn; subst ha
  refine calls_of_WF (r := none) (n := 0) (callsIn_of_wp hf hb trivial (k (fun _ => 0) _ w ⟨asat_enter (c := ⟨w, Gb, fun b => G b ≠ none ∧ Gb b = none, fn.ntmps, 0⟩) (Nat.le_of_ble_eq_true hN), ?_⟩))
  refine ⟨hG, fun p hp => (by cases hp), fun p hp => (by cases hp), fun p hp => (by cases hp), (by simp), fun p hp => (by cases hp), Ext.refl _ _, hle, fun b o hbo => ?_, fun p hp => (by cases hp)⟩
  cases e : Gb b with
  | some o' => left; have := hle _ _ e; rw [hbo] at this; exact e.trans this.symm
  | none => right; right; exact ⟨by rw [hbo]; simp, e⟩
theorem WQ_doneG' {P : Program} {fn : Func} {c : Ctx} {G Gf : Heap} {S : St} {tb : Tbl} {Φ : Value → Heap → Prop} (htb : TblOK P tb) (ys : List SV) (e : Exit) (he : e = .ret ∨ e = .normal) (hd : S.ds = []) (hr : resL tb S fn.results.toList = some ys)
    (hG : ∀ b, c.G0 b ≠ none ∨ c.D b → Gf b ≠ none) (h : ∀ ρ w, WSat c ρ G S.own S.fz w → Φ (resV ρ ys) G) : WQ (bodyPost P fn (RetG c.w0 Gf c.G0 c.D Φ)) e c G S := by
  intro ρ a w hs
  have hq : a.defers = [] ∧ ∃ v, (results fn a.tmps).run P w = .ok v w ∧ RetG c.w0 Gf c.G0 c.D Φ (.returned v) w := by
    refine ⟨by rw [hs.1.defs, hd]; rfl, _, results_ok htb hs hr, _, G, rfl, hs.2.g0, hs.2.has, fun b o hb => ?_, hs.2.ext, h ρ w hs.2⟩
    rcases hs.2.gnew b o hb with q | q | q
    · exact .inl (hG b (.inl (by rw [q]; simp)))
    · exact .inr q
    · exact .inl (hG b (.inr q))
  rcases he with rfl | rfl <;> exact hq
abbrev tFlaw : Ty Flaw := tPair (tInt .i64) tStr
def hasF (out : List Flaw) (x : Flaw) : Bool := out.any fun y => decide (y = x)
def goodK {α : Type} (p : α → Bool) (s : α) : Option Value := if p s then some (.bool true) else none
theorem goodK_get {α : Type} (p : α → Bool) (s : α) : (goodK p s).getD (.bool false) = .bool (p s) := by unfold goodK; cases p s <;> rfl
theorem goodK_set (out : List Flaw) (f : Flaw) : (fun x => if x = f then some (.bool true) else goodK (hasF out) x) = goodK (hasF (out ++ [f])) := by
  funext x
  unfold goodK hasF
  rw [List.any_append]
  by_cases e : x = f
  · subst e; simp
  · rw [if_neg e]
    have : (decide (f = x)) = false := decide_eq_false (Ne.symm e)
    rw [List.any_cons, List.any_nil, this, Bool.or_false, Bool.or_false]
/-- What the closure keeps: a map of the flaws that were told, and their list behind a cell. -/
structure Tell (Gb G : Heap) (mm c7 : Nat) (out : List Flaw) (z : Bool) (bl cap : Nat) (arr : Array Value) : Prop where
  le : Le Gb G
  map : MapF G mm encFlaw (goodK (hasF out))
  newm : Gb mm = none
  newc : Gb c7 = none
  ne : c7 ≠ mm
  cell : G c7 = some (.cells #[nilOr z (.slice (some ⟨bl, 0, none⟩) out.length cap)] 28 (0, 0))
  own : OwnL tFlaw G out arr cap
  nil : z = true → out = []
  blk : z = false → G bl = some (.cells arr 31 (0, 0)) ∧ Gb bl = none ∧ bl ≠ mm ∧ bl ≠ c7
theorem OwnL.anyF {G G' : Heap} {xs : List Flaw} {arr : Array Value} {cap : Nat} (h : OwnL tFlaw G xs arr cap) : OwnL tFlaw G' xs arr cap := by
  obtain ⟨h1, h2, h3, h4⟩ := h
  refine ⟨h1, h2, h3, ?_⟩
  clear h2
  generalize arr.toList.take (xs.length * tFlaw.sz) = l at h4
  induction h4 with
  | nil => exact .nil
  | cons a b ih => exact .cons a ih
theorem Tell.mono {Gb G G' : Heap} (hle : Le G G') {mm c7 : Nat} {out : List Flaw} {z : Bool} {bl cap : Nat} {arr : Array Value} (h : Tell Gb G mm c7 out z bl cap arr) : Tell Gb G' mm c7 out z bl cap arr :=
  ⟨h.le.trans hle, h.map.mono hle, h.newm, h.newc, h.ne, hle _ _ h.cell, h.own.anyF, h.nil, fun hz => by obtain ⟨q1, q2⟩ := h.blk hz; exact ⟨hle _ _ q1, q2⟩⟩
/-- The map tells of one more; the list not yet. -/
theorem Tell.mapped {Gb G : Heap} {mm c7 : Nat} {out : List Flaw} {z : Bool} {bl cap : Nat} {arr : Array Value} (h : Tell Gb G mm c7 out z bl cap arr) (o : Obj) :
    Le Gb (G.add mm o) ∧ (G.add mm o) c7 = some (.cells #[nilOr z (.slice (some ⟨bl, 0, none⟩) out.length cap)] 28 (0, 0)) ∧ (z = false → (G.add mm o) bl = some (.cells arr 31 (0, 0))) :=
  ⟨Le.add' h.le h.newm _, by rw [Heap.add_ne h.ne]; exact h.cell, fun hz => by obtain ⟨q1, q2, q3, _⟩ := h.blk hz; rw [Heap.add_ne q3]; exact q1⟩
/-- And the list, and the cell. -/
theorem Tell.step {Gb G G1 : Heap} {mm c7 : Nat} {out : List Flaw} {z : Bool} {bl cap : Nat} {arr : Array Value} (h : Tell Gb G mm c7 out z bl cap arr) {f : Flaw} (hm : MapF G1 mm encFlaw (goodK (hasF (out ++ [f])))) (hle : Le Gb G1) (hc : G1 c7 ≠ none)
    {b' cap' : Nat} {arr' : Array Value} (hb : (z = false ∧ b' = bl) ∨ G1 b' = none) (ho : OwnL tFlaw G1 (out ++ [f]) arr' cap') {cs : Array Value} (hcs : cs = #[.slice (some ⟨b', 0, none⟩) (out ++ [f]).length cap']) :
    Tell Gb (((bif z then G1 else G1.without bl).add b' (.cells arr' 31 (0, 0))).add c7 (.cells cs 28 (0, 0))) mm c7 (out ++ [f]) false b' cap' arr' := by
  subst hcs
  have hGb' : Gb b' = none := by
    rcases hb with ⟨hz, rfl⟩ | hb
    · exact (h.blk hz).2.1
    · cases e : Gb b' with
      | none => rfl
      | some o => rw [hle _ _ e] at hb; cases hb
  have hbm : b' ≠ mm := by
    rcases hb with ⟨hz, rfl⟩ | hb
    · exact (h.blk hz).2.2.1
    · intro e; obtain ⟨_, _, _, q, _⟩ := hm; rw [← e, hb] at q; cases q
  have hbc : b' ≠ c7 := by
    rcases hb with ⟨hz, rfl⟩ | hb
    · exact (h.blk hz).2.2.2
    · intro e; rw [e] at hb; exact hc hb
  refine ⟨Le.add' (Le.add' ?_ hGb' _) h.newc _, ?_, h.newm, h.newc, h.ne, Heap.add_same _ _ _, ho.anyF, fun e => (by cases e), fun _ => ⟨by rw [Heap.add_ne hbc, Heap.add_same], hGb', hbm, hbc⟩⟩
  · cases z with
    | true => exact hle
    | false => exact hle.without (h.blk rfl).2.1
  · obtain ⟨es, clk, l, q1, q2⟩ := hm
    refine ⟨es, clk, l, ?_, q2⟩
    rw [Heap.add_ne (Ne.symm h.ne), Heap.add_ne (Ne.symm hbm)]
    cases z with
    | true => exact q1
    | false => simp only [cond_false]; rw [Heap.without_ne (Ne.symm (h.blk rfl).2.2.1)]; exact q1
theorem Tell.weaken {Gb Gd G : Heap} {mm c7 : Nat} {out : List Flaw} {z : Bool} {bl cap : Nat} {arr : Array Value} (hbd : Le Gb Gd) (h : Tell Gd G mm c7 out z bl cap arr) : Tell Gb G mm c7 out z bl cap arr := by
  have key : ∀ b, Gd b = none → Gb b = none := fun b hb => by
    cases e : Gb b with
    | none => rfl
    | some o => rw [hbd _ _ e] at hb; cases hb
  exact ⟨hbd.trans h.le, h.map, key _ h.newm, key _ h.newc, h.ne, h.cell, h.own, h.nil, fun hz => by obtain ⟨q1, q2, q3⟩ := h.blk hz; exact ⟨q1, key _ q2, q3⟩⟩
/-- A greater base. -/
theorem Tell.rebase {Gb Gd G : Heap} {mm c7 : Nat} {out : List Flaw} {z : Bool} {bl cap : Nat} {arr : Array Value} (h : Tell Gb G mm c7 out z bl cap arr) (hd : Le Gd G) (h1 : Gd mm = none) (h2 : Gd c7 = none) (h3 : z = false → Gd bl = none) : Tell Gd G mm c7 out z bl cap arr :=
  ⟨hd, h.map, h1, h2, h.ne, h.cell, h.own, h.nil, fun hz => by obtain ⟨q1, _, q3⟩ := h.blk hz; exact ⟨q1, h3 hz, q3⟩⟩
/-- With one frozen block more below. -/
theorem Tell.more {Gb G0 G : Heap} {mm c7 : Nat} {out : List Flaw} {z : Bool} {bl cap : Nat} {arr : Array Value} (h : Tell Gb G0 mm c7 out z bl cap arr) (hl : Le G0 G) {b : Nat} {o : Obj} (hn : G0 b = none) (hb : G b = some o) :
    ∃ Gd, Le Gb Gd ∧ Gd b = some o ∧ Tell Gd G mm c7 out z bl cap arr := by
  obtain ⟨Gd, q1, q2, q3, q4⟩ := base_add h.le hl hn hb
  refine ⟨Gd, q1, q3, (h.mono hl).rebase q2 (q4 _ h.newm (fun e => ?_)) (q4 _ h.newc (fun e => ?_)) (fun hz => q4 _ (h.blk hz).2.1 (fun e => ?_))⟩
  · obtain ⟨_, _, _, q, _⟩ := h.map; rw [e, hn] at q; cases q
  · have := h.cell; rw [e, hn] at this; cases this
  · have := (h.blk hz).1; rw [e, hn] at this; cases this
/-- All that is known, but for what is written. -/
theorem Tell.all {Gb G : Heap} {mm c7 : Nat} {out : List Flaw} {z : Bool} {bl cap : Nat} {arr : Array Value} (h : Tell Gb G mm c7 out z bl cap arr) :
    ∃ Gd, Le Gb Gd ∧ Tell Gd G mm c7 out z bl cap arr ∧ ∀ b o, G b = some o → b ≠ mm → b ≠ c7 → (z = false → b ≠ bl) → Gd b = some o := by
  refine ⟨fun k => if k = mm ∨ k = c7 ∨ (z = false ∧ k = bl) then none else G k, fun k o hk => ?_, h.rebase (fun k o hk => ?_) (by simp) (by simp) (fun hz => by simp [hz]), fun b o hb h1 h2 h3 => ?_⟩
  · have hn : ¬ (k = mm ∨ k = c7 ∨ (z = false ∧ k = bl)) := by
      rintro (e | e | ⟨e1, e2⟩)
      · rw [e, h.newm] at hk; cases hk
      · rw [e, h.newc] at hk; cases hk
      · rw [e2, (h.blk e1).2.1] at hk; cases hk
    show (if k = mm ∨ k = c7 ∨ (z = false ∧ k = bl) then none else G k) = some o
    rw [if_neg hn]; exact h.le k o hk
  · have hk' : (if k = mm ∨ k = c7 ∨ (z = false ∧ k = bl) then none else G k) = some o := hk
    split at hk'
    · cases hk'
    · exact hk'
  · have hn : ¬ (b = mm ∨ b = c7 ∨ (z = false ∧ b = bl)) := by
      rintro (e | e | ⟨e1, e2⟩)
      · exact h1 e
      · exact h2 e
      · exact h3 e1 e2
    show (if b = mm ∨ b = c7 ∨ (z = false ∧ b = bl) then none else G b) = some o
    rw [if_neg hn]; exact hb
theorem Tell.start {Gx G1 G2 G3 : Heap} {mm c6 c7 : Nat} {o2 : Obj} (hl1 : Le Gx G1) (hn1 : Gx mm = none) (hb1 : G1 mm = some (.map #[] 0)) (hl2 : Le G1 G2) (hn2 : G1 c6 = none) (hb2 : G2 c6 = some o2) (hl3 : Le G2 G3) (hn3 : G2 c7 = none) (hb3 : G3 c7 = some (.cells #[.slice none 0 0] 28 (0, 0))) :
    ∃ Gb, Le Gx Gb ∧ Gb c6 = some o2 ∧ Tell Gb G3 mm c7 [] true 0 0 #[] := by
  have e1 : c6 ≠ mm := fun e => by rw [e, hb1] at hn2; cases hn2
  have e2 : c7 ≠ c6 := fun e => by rw [e, hb2] at hn3; cases hn3
  have e3 : c7 ≠ mm := fun e => by rw [e, hl2 _ _ hb1] at hn3; cases hn3
  have hx7 : Gx c7 = none := by
    cases e : Gx c7 with
    | none => rfl
    | some o => rw [hl2 _ _ (hl1 _ _ e)] at hn3; cases hn3
  refine ⟨(G3.without c7).without mm, (((hl1.trans hl2).trans hl3).without hx7).without hn1, ?_, ⟨(Heap.without_le _ _).trans (Heap.without_le _ _), ?_, by unfold Heap.without; rw [if_pos rfl], ?_, e3, hb3, OwnL.nil _ _, fun _ => rfl, fun e => by cases e⟩⟩
  · rw [Heap.without_ne e1, Heap.without_ne (Ne.symm e2)]; exact hl3 _ _ hb2
  · have := MapF.empty (enc := encFlaw) (hl3 _ _ (hl2 _ _ hb1))
    have e : (fun _ : Flaw => (none : Option Value)) = goodK (hasF []) := by funext x; rfl
    rw [e] at this; exact this
  · rw [Heap.without_ne e3]; unfold Heap.without; rw [if_pos rfl]
theorem Tell.callW {Gb G G' G2 : Heap} {mm c7 : Nat} {out : List Flaw} {z : Bool} {bl cap : Nat} {arr : Array Value} (h : Tell Gb G mm c7 out z bl cap arr) (h2 : Le G G') (h3 : Le G2 G') (h4 : ∀ b, G b ≠ none → Gb b = none → G2 b = none) : Tell G2 G' mm c7 out z bl cap arr :=
  (h.mono h2).rebase h3 (h4 _ (by obtain ⟨_, _, _, q, _⟩ := h.map; rw [q]; simp) h.newm) (h4 _ (by rw [h.cell]; simp) h.newc) (fun hz => h4 _ (by rw [(h.blk hz).1]; simp) (h.blk hz).2.1)
/-- A call by a contract over a smaller heap: what it hands back lies in that heap or is new. -/
theorem WOp_callW {P : Program} {r : Option Nat} {ops : Array Oper} {Q : Exit → Act → World → Prop} {c : Ctx} {G : Heap} {S : St} {K : Act → World → Prop} {o : Oper} (f : FuncId) (xs : List SV) (h : clC c.N ops.toList S o = some (f, xs)) (hg : Goes P f) {Gb : Heap} {Φ : Value → Heap → Prop} (hbG : Le Gb G)
    (hc : ∀ ρ w, WSat c ρ G S.own S.fz w → Has w Gb → Calls P f (SV.denL ρ xs).toArray w (Ret w Gb Φ))
    (k : ∀ G2 G' v, Le Gb G2 → Le G G' → Le G2 G' → (∀ b, G b ≠ none → Gb b = none → G2 b = none) → Φ v G2 → WK c G' (putU S o.dst (toSV v)) K) : WOp P r ops Q c G S o K := by
  intro ρ a w hs
  obtain ⟨hw, hd, hrun⟩ := run_clC (P := P) (r := r) h hg hs.1 w
  show if _ then _ else _
  rw [if_pos (wantS_ok hs.1 hw)]
  refine ⟨fun f _ => trivial, ?_⟩
  show Oper.uponIn (WF r) 0 P o a K Q (Sem.run P (Oper.semAt r a.eval o) w)
  rw [hrun]
  refine ⟨fun hd => by simp [WF, Fence.wide] at hd, CallsIn.mono (callsIn_WF (hc ρ w hs.2 (fun b o hb => hs.2.has b o (hbG b o hb)))) ?_⟩
  rintro e w' ⟨v, G2, rfl, h1, h2, h3, h4, h5⟩
  obtain ⟨k1, k2, k3⟩ := putU_ok (x := toSV v) hs.1 hd
  rw [toSV_den] at k1
  have hkeep : ∀ b o, G b = some o → w'.heap[b]? = some o := fun b o hb => by
    have q := hs.2.has b o hb
    rw [h4.keep b (Array.getElem?_eq_some_iff.1 q).1 (fun x => x)]; exact q
  have hlt : ∀ b o, G b = some o → b < w.heap.size := fun b o hb => (Array.getElem?_eq_some_iff.1 (hs.2.has b o hb)).1
  have hle1 : Le G (fun b => match G b with | some o => some o | none => G2 b) := fun b o hb => by simp only [hb]
  have hle2 : Le G2 (fun b => match G b with | some o => some o | none => G2 b) := fun b o hb => by
    cases e : G b with
    | none => simp only [e]; exact hb
    | some o2 =>
      simp only [e]
      have q1 := hkeep b o2 e
      rw [h2 b o hb] at q1
      exact q1.symm
  refine k G2 _ v h1 hle1 hle2 (fun b hb1 hb2 => ?_) h5 ρ _ _ ⟨k1, ?_⟩
  · cases e : G2 b with
    | none => rfl
    | some o =>
      rcases h3 b o e with q | q | q
      · rw [hb2] at q; cases q
      · cases e2 : G b with
        | none => exact absurd e2 hb1
        | some o2 => have := hlt b o2 e2; omega
      · exact q.elim
  · rw [k2, k3]
    refine hs.2.called hle1 (fun b o hb => ?_) (fun b o hb => ?_) h4
    · cases e : G b with
      | some o2 => simp only [e] at hb; rw [← hb]; exact hkeep b o2 e
      | none => simp only [e] at hb; exact h2 b o hb
    · cases e : G b with
      | some o2 => simp only [e] at hb; rw [← hb]; exact .inl rfl
      | none =>
        simp only [e] at hb
        rcases h3 b o hb with q | q | q
        · have := hbG b o q; rw [e] at this; cases this
        · exact .inr q
        · exact q.elim
/-- What the closure makes of candidates. -/
def tellL (L : List (Bool × Flaw)) : List Flaw := L.foldl (fun o x => if x.1 then layS o x.2 else o) []
theorem tellL_snoc {L : List (Bool × Flaw)} {x : Bool × Flaw} : tellL (L ++ [x]) = if x.1 then layS (tellL L) x.2 else tellL L := by
  unfold tellL; rw [List.foldl_append]; rfl
theorem tellL_len (L : List (Bool × Flaw)) : (tellL L).length ≤ L.length := by
  have key : ∀ (L : List (Bool × Flaw)) (o : List Flaw), (L.foldl (fun o x => if x.1 then layS o x.2 else o) o).length ≤ o.length + L.length := by
    intro L
    induction L with
    | nil => intro o; simp
    | cons x L ih =>
      intro o
      rw [List.foldl_cons, List.length_cons]
      have h1 := ih (if x.1 then layS o x.2 else o)
      have h2 : (if x.1 then layS o x.2 else o).length ≤ o.length + 1 := by
        split
        · exact layS_len _ _
        · omega
      omega
  have := key L []
  unfold tellL; simpa using this
/-- The candidates, in their order. -/
def cand1 (g : List Rule) (tk : List ByteArray) : List (Bool × Flaw) := g.zipIdx.map fun p => (hasB tk p.1.1 || decide (((idxS g p.1.1)[0]?.getD 0) < (p.2 : Int)), (1, p.1.1))
def cand2N (g : List Rule) (tk : List ByteArray) (l : List ByteArray) : List (Bool × Flaw) := l.map fun n => (!hasB tk n && decide ((idxS g n).length = 0), (2, n))
def cand3 (g : List Rule) (tk : List ByteArray) (gd : ByteArray → Bool) : List (Bool × Flaw) := g.map fun r => (!gd r.1 && !hasB tk r.1, (3, r.1))
def cand4 (g : List Rule) (nr : ByteArray → Bool) : List (Bool × Flaw) := g.map fun r => (!nr r.1, (4, r.1))
def flawsC (g : List Rule) (tk : List ByteArray) (gd nr : ByteArray → Bool) : List (Bool × Flaw) := cand1 g tk ++ cand2N g tk (allNames g) ++ cand3 g tk gd ++ cand4 g nr
end Go.Proofs.Ytfemkbockhpmcaa.Sym
