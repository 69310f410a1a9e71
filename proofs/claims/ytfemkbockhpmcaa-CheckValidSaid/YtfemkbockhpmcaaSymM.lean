/- The symbolic layer, thirteenth part: a list of one's own is handed over to a call and comes back. Own work. -/
import Derived.Test.YtfemkbockhpmcaaSymL
set_option linter.unusedSimpArgs false
set_option linter.unusedVariables false
namespace Go.Proofs.Ytfemkbockhpmcaa.Sym
open Go Go.Proofs Go.RowKit
section
variable {P : Program} {r : Option Nat} {ops : Array Oper} {Q : Exit → Act → World → Prop} {c : Ctx} {G : Heap} {S : St} {tb : Tbl} {K : Act → World → Prop}
theorem WK_dropfz (n : Nat) (k : WK c G { S with fz := S.fz.drop n } K) : WK c G S K := fun ρ a w ⟨hA, hW⟩ =>
  k ρ a w ⟨hA, ⟨hW.has, hW.cells, hW.sep, hW.may, hW.keys, hW.inj, hW.ext, hW.g0, hW.gnew, fun p hp => hW.froz p (List.mem_of_mem_drop hp)⟩⟩
theorem WK_nx (n : Nat) (k : WK c G { S with nx := n } K) : WK c G S K := k
/-- The call's value is a list in memory that it made or in the block that it was handed. -/
def RetT (w : World) (G : Heap) (D : Nat → Prop) {α : Type} (d : Ty α) (T : TypeId) (Φ : List α → Prop) : Ending → World → Prop := fun e w' =>
  ∃ z b arr cap xs G', e = .returned (nilOr z (.slice (some ⟨b, 0, none⟩) xs.length cap)) ∧ Le G G' ∧ Has w' G' ∧ (∀ b o, G' b = some o → G b = some o ∨ w.heap.size ≤ b ∨ D b) ∧ Ext D w w' ∧
    (z = true → xs = []) ∧ (z = false → w'.heap[b]? = some (.cells arr T (0, 0)) ∧ (w.heap.size ≤ b ∨ D b) ∧ G' b = none) ∧ OwnL d G' xs arr cap ∧ Φ xs
theorem enterT {f : FuncId} {fn : Func} {code : Code} {R : Ending → World → Prop} {w : World} (xs : List SV) {args : Array Value} (N : Nat) {b : Nat} {z : Bool} {T : TypeId} {arr : Array Value}
    (hf : P.funcs[f]? = some fn) (hb : fn.body = some code) (hn : fn.ntmps = N) (hN : Nat.ble xs.length N = true) (ha : args = (SV.denL (fun _ => b) xs).toArray) (hG : Has w G)
    (hw : z = false → w.heap[b]? = some (.cells arr T (0, 0)) ∧ G b = none)
    (k : WC P none (bodyPost P fn R) ⟨w, G, fun i => z = false ∧ i = b, N, 10⟩ G { env := numb 0 xs, own := [(0, .lst z T arr)], nx := 1 } code) : Calls P f args w R := by
 subst hn; subst ha; have hon : (OB.lst z T arr).on = true → z = false := fun h => by simpa [OB.on] using h
 refine enter_gen (kk := 10) xs hf hb (Nat.le_of_ble_eq_true hN) ⟨hG, fun p hp hpo => ?_, fun p hp hpo => ?_, fun p hp hpo => ?_, by simp, fun p hp q hq _ _ _ => ?_, Ext.refl _ _, Le.refl _, fun b o h => .inl h, fun p hp => by cases hp⟩ k
 ·
  have e := List.mem_singleton.1 hp; subst e; exact (hw (hon hpo)).1
 ·
  have e := List.mem_singleton.1 hp; subst e; exact (hw (hon hpo)).2
 ·
  have e := List.mem_singleton.1 hp; subst e; exact .inr ⟨⟨hon hpo, rfl⟩, by simp⟩
 ·
  rw [List.mem_singleton.1 hp, List.mem_singleton.1 hq]
theorem WQ_doneT {fn : Func} {α : Type} {d : Ty α} {Φ : List α → Prop} (htb : TblOK P tb) (e : Exit) (he : e = .ret ∨ e = .normal) {z : Bool} {h n cap : Nat} {T : TypeId} {arr : Array Value} {xs : List α} (hd : S.ds = []) (hr : resL tb S fn.results.toList = some [.ls z h n cap]) (hg : get S.own h = some (.lst z T arr))
    (hn : n = xs.length) (hz : z = true → xs = []) (ho : OwnL d G xs arr cap) (hx : Φ xs) : WQ (bodyPost P fn (RetT c.w0 c.G0 c.D d T Φ)) e c G S := by
  intro ρ a w hs
  have hm := get_mem hg
  subst hn
  have hq : a.defers = [] ∧ ∃ v, (results fn a.tmps).run P w = .ok v w ∧ RetT c.w0 c.G0 c.D d T Φ (.returned v) w := by
    refine ⟨by rw [hs.1.defs, hd]; rfl, _, results_ok htb hs hr, z, ρ h, arr, cap, xs, G, rfl, hs.2.g0, hs.2.has, hs.2.gnew, hs.2.ext, hz, fun hz' => ?_, ho, hx⟩
    refine ⟨hs.2.cells _ hm (by simp [OB.on, hz']), ?_, hs.2.sep _ hm (by simp [OB.on, hz'])⟩
    rcases hs.2.may _ hm (by simp [OB.on, hz']) with h1 | h1
    · exact .inl h1
    · exact .inr h1.1
  rcases he with rfl | rfl <;> exact hq
theorem WSat.up {ρ : Nat → Nat} {own : List (Nat × OB)} {fz : List (Nat × Nat × OB)} {w : World} {G' : Heap} (hW : WSat c ρ G own fz w) (hle : Le G G') (hh : Has w G') (hg : ∀ b o, G' b = some o → c.G0 b = some o ∨ c.w0.heap.size ≤ b ∨ c.D b)
    (hs : ∀ p ∈ own, p.2.on = true → G' (ρ p.1) = none) : WSat c ρ G' own fz w :=
  ⟨hh, hW.cells, hs, hW.may, hW.keys, hW.inj, hW.ext, hW.g0.trans hle, hg, fun p hp => ⟨(hW.froz p hp).1, hle _ _ (hW.froz p hp).2⟩⟩
theorem WOp_callT {o : Oper} (f : FuncId) (xs : List SV) (h : clC c.N ops.toList S o = some (f, xs)) (hg : Goes P f) (hf : S.fresh = true) (hh : Nat) {z : Bool} {e : TypeId} {arr : Array Value} (ho : get S.own hh = some (.lst z e arr)) (hk : Nat.ble c.k hh = true)
    {α : Type} {d : Ty α} {Φ : List α → Prop}
    (hc : ∀ ρ w b, WSat c ρ G S.own S.fz w → ρ hh = b → (z = false → w.heap[b]? = some (.cells arr e (0, 0)) ∧ G b = none) → Calls P f (SV.denL ρ xs).toArray w (RetT w G (fun i => z = false ∧ i = b) d e Φ))
    (k : ∀ G' z' arr' cap' ys, Le G G' → (z' = true → ys = []) → OwnL d G' ys arr' cap' → Φ ys → WK c G' (putU { S with own := (S.nx, .lst z' e arr') :: del S.own hh, nx := S.nx + 1 } o.dst (.ls z' S.nx ys.length cap')) K) : WOp P r ops Q c G S o K := by
  intro ρ a w hs
  obtain ⟨hw, hd, hrun⟩ := run_clC (P := P) (r := r) h hg hs.1 w
  show if _ then _ else _
  rw [if_pos (wantS_ok hs.1 hw)]
  refine ⟨fun f _ => trivial, ?_⟩
  show Oper.uponIn (WF r) 0 P o a K Q (Sem.run P (Oper.semAt r a.eval o) w)
  rw [hrun]
  have hm := get_mem ho
  have hblk : z = false → w.heap[ρ hh]? = some (.cells arr e (0, 0)) ∧ G (ρ hh) = none := fun hz => ⟨hs.2.cells _ hm (by simp [OB.on, hz]), hs.2.sep _ hm (by simp [OB.on, hz])⟩
  refine ⟨fun hd => by simp [WF, Fence.wide] at hd, CallsIn.mono (callsIn_WF (hc ρ w _ hs.2 rfl hblk)) ?_⟩
  rintro e' w' ⟨z', b', arr', cap', ys, G', rfl, h1, h2, h3, h4, h5, h6, h7, h8⟩
  have hsw := hs.2.swap (ob' := .lst z' e arr') (w' := w') hf ho rfl (g := b') (h4.mono (fun i hi => ⟨by simp [OB.on, hi.1], hi.2⟩)) (fun hon => by
    have hz' : z' = false := by simpa [OB.on] using hon
    obtain ⟨q1, q2, q3⟩ := h6 hz'
    refine ⟨q1, ?_⟩
    rcases q2 with q2 | q2
    · exact .inr q2
    · exact .inl ⟨by simp [OB.on, q2.1], q2.2⟩) (.inl (Nat.le_of_ble_eq_true hk))
  have hW' : WSat c (upd ρ S.nx b') G' ((S.nx, .lst z' e arr') :: del S.own hh) S.fz w' := by
    refine hsw.up h1 h2 (fun b o hb => ?_) (fun p hp hpo => ?_)
    · rcases h3 b o hb with h9 | h9 | h9
      · exact hs.2.gnew b o h9
      · exact .inr (.inl (Nat.le_trans hs.2.ext.size h9))
      · obtain ⟨q1, q2⟩ := h9
        rw [q2]
        rcases hs.2.may _ hm (by simp [OB.on, q1]) with q3 | q3
        · exact .inr (.inl q3)
        · exact .inr (.inr q3.1)
    · rcases List.mem_cons.1 hp with rfl | hp
      · simp only [upd_same]; exact (h6 (by simpa [OB.on] using hpo)).2.2
      · have hf' := hf
        simp only [St.fresh, Bool.and_eq_true] at hf'
        have hlt : p.1 < S.nx := by
          have := List.all_eq_true.1 hf'.1.1.2 p (del_sub hp)
          simp at this; exact this.1
        rw [upd_lt ρ S.nx b' _ hlt]
        cases hG : G' (ρ p.1) with
        | none => rfl
        | some o =>
          have h10 := (Array.getElem?_eq_some_iff.1 (hs.2.cells p (del_sub hp) hpo)).1
          rcases h3 _ _ hG with h9 | h9 | h9
          · rw [hs.2.sep p (del_sub hp) hpo] at h9; cases h9
          · omega
          · exact absurd (hs.2.inj p (del_sub hp) _ hm hpo (by simp [OB.on, h9.1]) h9.2) (del_ne hs.2.keys hp)
  have hA := hs.1.re hf (upd_lt ρ S.nx b')
  have hput := putU_ok (c := c) (S := { S with own := (S.nx, .lst z' e arr') :: del S.own hh, nx := S.nx + 1 }) (x := .ls z' S.nx ys.length cap') (dst := o.dst) hA hd
  refine k G' z' arr' cap' ys h1 h5 h7 h8 (upd ρ S.nx b') _ _ ⟨?_, by rw [hput.2.1, hput.2.2]; exact hW'⟩
  have hden : (SV.ls z' S.nx ys.length cap').den (upd ρ S.nx b') = nilOr z' (.slice (some ⟨b', 0, none⟩) ys.length cap') := by simp only [SV.den, upd_same]; rfl
  rw [← hden]; exact hput.1
end
end Go.Proofs.Ytfemkbockhpmcaa.Sym
