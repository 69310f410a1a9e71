/- Walks of functions that the laws of this seat reach, printed by a program of this session's. -/
import Derived.Test.YtfemkbockhpmcaaB20
set_option linter.unusedSimpArgs false
set_option linter.unusedVariables false
set_option maxHeartbeats 4000000
namespace Go.Proofs.Ytfemkbockhpmcaa.Sym
open Go Go.Proofs Go.RowKit

abbrev NB := List ByteArray
/-- The list of fertile names, as far as it is known. -/
def FOut (g : List Rule) (tk : NB) (o : NB) : Prop := (∀ s ∈ tk, s ∈ o) ∧ (∀ s ∈ o, s ∈ tk ∨ Fert g tk s)
def FertO (g : List Rule) (o : NB) : Prop := ∀ r ∈ g, ∀ a ∈ r.2, (∀ n ∈ a, n ∈ o) → r.1 ∈ o
def cntO (g : List Rule) (o : NB) : Nat := g.countP fun r => hasB o r.1
abbrev allB (o a : NB) : Bool := decide (∀ x ∈ a, hasB o x = true)
theorem allB_iff {o a : NB} : allB o a = true ↔ ∀ n ∈ a, n ∈ o := by
  unfold allB; rw [decide_eq_true_iff]
  exact ⟨fun h n hn => hasB_true.1 (h n hn), fun h n hn => hasB_true.2 (h n hn)⟩
def FPr (g : List Rule) (o : NB) (r : Nat) : Prop := ∀ x ∈ g.take r, ∀ a ∈ x.2, (∀ n ∈ a, n ∈ o) → x.1 ∈ o
def FPk (g : List Rule) (o : NB) (r : Nat) (nm : ByteArray) (al : List NB) (k : Nat) : Prop := FPr g o r ∧ ∀ a ∈ al.take k, (∀ n ∈ a, n ∈ o) → nm ∈ o
structure RndO (g : List Rule) (tk : NB) (o0 o : NB) (P : Prop) : Prop where
  snd : FOut g tk o
  sub : ∀ s ∈ o0, s ∈ o
  way : (o = o0 ∧ P) ∨ (cntO g o0 < cntO g o ∧ ¬ FertO g o0)
section
variable {g : List Rule} {tk o0 o : NB} {P Q : Prop} {r k : Nat} {nm : ByteArray} {al : List NB} {a : NB}
theorem mem_hasB {l : NB} {x : ByteArray} : hasB l x = true ↔ x ∈ l := hasB_true
theorem FOut.start : FOut g tk ([] ++ tk) := ⟨fun s h => by simpa using h, fun s h => .inl (by simpa using h)⟩
theorem RndO.start (h : FOut g tk o0) (hp : P) : RndO g tk o0 o0 P := ⟨h, fun s h => h, .inl ⟨rfl, hp⟩⟩
theorem RndO.imp (h : RndO g tk o0 o P) (f : P → Q) : RndO g tk o0 o Q := ⟨h.snd, h.sub, h.way.imp (fun h => ⟨h.1, f h.2⟩) (fun h => h)⟩
theorem RndO.imp2 (h : RndO g tk o0 o P) (f : o = o0 → P → Q) : RndO g tk o0 o Q := ⟨h.snd, h.sub, h.way.imp (fun h => ⟨h.1, f h.1 h.2⟩) (fun h => h)⟩
theorem cnt_mono (h : ∀ s ∈ o0, s ∈ o) : cntO g o0 ≤ cntO g o := by
  unfold cntO
  exact List.countP_mono_left fun x _ hx => mem_hasB.2 (h _ (mem_hasB.1 hx))
theorem RndO.add {b c : Bool} (h : RndO g tk o0 o P) (hx : g[r]? = some (nm, al)) (hy : al[k]? = some a) (hA : b = allB o a) (hb : b = true) (hH : c = hasB o nm) (hc : c = false) : RndO g tk o0 (o ++ [nm]) Q := by
  have hall : ∀ n ∈ a, n ∈ o := allB_iff.1 (hA.symm.trans hb)
  have hnot : nm ∉ o := fun hm => by have := mem_hasB.2 hm; rw [← hH, hc] at this; cases this
  have hgx := List.mem_of_getElem? hx
  refine ⟨⟨fun s hs => List.mem_append_left _ (h.snd.1 s hs), fun s hs => ?_⟩, fun s hs => List.mem_append_left _ (h.sub s hs), .inr ⟨?_, ?_⟩⟩
  · rcases List.mem_append.1 hs with hs | hs
    · exact h.snd.2 s hs
    · rw [List.mem_singleton.1 hs]
      exact .inr (Fert.mk (nm, al) a hgx (List.mem_of_getElem? hy) fun n hn hk => (h.snd.2 n (hall n hn)).resolve_left hk)
  · have h1 : cntO g o < cntO g (o ++ [nm]) := by
      unfold cntO
      refine countP_lt2 (fun x _ hh => ?_) ⟨(nm, al), hgx, ?_, ?_⟩ <;> first | skip
      · exact mem_hasB.2 (List.mem_append_left _ (mem_hasB.1 hh))
      · exact mem_hasB.2 (by simp)
      · cases e : hasB o nm with
        | false => rfl
        | true => exact absurd (mem_hasB.1 e) hnot
    have h2 := cnt_mono (g := g) h.sub
    omega
  · rcases h.way with ⟨e, _⟩ | ⟨_, h3⟩
    · subst e
      exact fun hf => hnot (hf (nm, al) hgx a (List.mem_of_getElem? hy) hall)
    · exact h3
theorem RndO.next {t : Nat} (h : RndO g tk o0 o (FPr g o0 r)) (hr : g.length ≤ r) (h0 : FertO g o0 ∨ t ≤ cntO g o0) : FOut g tk o ∧ (FertO g o ∨ t + 1 ≤ cntO g o) := by
  refine ⟨h.snd, ?_⟩
  rcases h.way with ⟨e, hp⟩ | ⟨h1, h2⟩
  · subst e
    left
    intro x hx a ha hn
    exact hp x (by rw [List.take_of_length_le hr]; exact hx) a ha hn
  · rcases h0 with h0 | h0
    · exact absurd h0 h2
    · exact .inr (by omega)
end
/-- The list of names led to, as far as it is known: out is what it was when place i was come to. -/
structure LedW (g : List Rule) (n0 : ByteArray) (i : Nat) (out o : NB) (P : Prop) : Prop where
  nd : o.Nodup
  sub : ∀ x ∈ o, x ∈ n0 :: allNames g
  snd : ∀ x ∈ o, Led g x
  fst : n0 ∈ o
  pre : out <+: o
  clo : ∀ (j : Nat) (n : ByteArray), j < i → out[j]? = some n → ∀ m ∈ succL g n, m ∈ o
  p : P
def LPr (g : List Rule) (cr : ByteArray) (r : Nat) (o : NB) : Prop := ∀ x ∈ g.take r, x.1 = cr → ∀ m ∈ x.2.flatten, m ∈ o
def LPk (g : List Rule) (cr : ByteArray) (r : Nat) (al : List NB) (k : Nat) (o : NB) : Prop := LPr g cr r o ∧ ∀ a ∈ al.take k, ∀ m ∈ a, m ∈ o
def LPl (g : List Rule) (cr : ByteArray) (r : Nat) (al : List NB) (k : Nat) (a : NB) (l : Nat) (o : NB) : Prop := LPk g cr r al k o ∧ ∀ m ∈ a.take l, m ∈ o
section
variable {g : List Rule} {n0 cr nm nn : ByteArray} {i r k l : Nat} {out o : NB} {P Q : Prop} {al : List NB} {a : NB}
theorem LedW.start {r : Rule} (h : g[0]? = some r) : LedW g r.1 0 [r.1] [r.1] True :=
  ⟨by simp, fun x hx => by rw [List.mem_singleton.1 hx]; exact List.mem_cons_self, fun x hx => by rw [List.mem_singleton.1 hx]; exact Led.first r h, by simp, List.prefix_refl _, fun j n hj => by omega, trivial⟩
theorem LedW.imp (h : LedW g n0 i out o P) (f : P → Q) : LedW g n0 i out o Q := ⟨h.nd, h.sub, h.snd, h.fst, h.pre, h.clo, f h.p⟩
theorem LedW.at (h : LedW g n0 i out o P) {j : Nat} {x : ByteArray} (hx : out[j]? = some x) : o[j]? = some x := by
  obtain ⟨t, rfl⟩ := h.pre
  rw [List.getElem?_append_left (List.getElem?_eq_some_iff.1 hx).1]; exact hx
theorem LedW.add (h : LedW g n0 i out o (LPl g cr r al k a l o)) (hc : out[i]? = some cr) (hx : g[r]? = some (cr, al)) (hy : al[k]? = some a) (hz : a[l]? = some nn) (hnew : nn ∉ o) : LedW g n0 i out (o ++ [nn]) (LPl g cr r al k a (l + 1) (o ++ [nn])) := by
  have hup : ∀ s ∈ o, s ∈ o ++ [nn] := fun s hs => List.mem_append_left _ hs
  have hcr : Led g cr := h.snd cr (List.mem_of_getElem? (h.at hc))
  have hsu : nn ∈ succL g cr := by
    unfold succL
    rw [List.mem_flatMap]
    refine ⟨(cr, al), List.mem_of_getElem? hx, ?_⟩
    rw [if_pos rfl]
    exact List.mem_flatten.2 ⟨a, List.mem_of_getElem? hy, List.mem_of_getElem? hz⟩
  refine ⟨?_, fun x hm => ?_, fun x hm => ?_, hup _ h.fst, h.pre.trans (List.prefix_append _ _), fun j n hj hn m hm => hup _ (h.clo j n hj hn m hm), ⟨⟨fun x hm e m hh => hup _ (h.p.1.1 x hm e m hh), fun x hm m hh => hup _ (h.p.1.2 x hm m hh)⟩, fun m hm => ?_⟩⟩
  · rw [List.nodup_append]
    refine ⟨h.nd, by simp, fun x hx y hy e => ?_⟩
    rw [List.mem_singleton] at hy; subst hy; subst e; exact hnew hx
  · rcases List.mem_append.1 hm with hm | hm
    · exact h.sub x hm
    · rw [List.mem_singleton.1 hm]; exact List.mem_cons_of_mem _ (succL_sub hsu)
  · rcases List.mem_append.1 hm with hm | hm
    · exact h.snd x hm
    · rw [List.mem_singleton.1 hm]; exact Led.step cr nn hcr hsu
  · rw [take_succ' hz] at hm
    rcases List.mem_append.1 hm with hm | hm
    · exact hup _ (h.p.2 m hm)
    · exact List.mem_append_right _ hm
theorem LedW.next (h : LedW g n0 i out o (LPr g cr r o)) (hc : out[i]? = some cr) (hr : g.length ≤ r) : LedW g n0 (i + 1) o o True := by
  refine ⟨h.nd, h.sub, h.snd, h.fst, List.prefix_refl _, fun j n hj hn m hm => ?_, trivial⟩
  obtain ⟨t, ht⟩ := h.pre
  by_cases e : j = i
  · subst e
    rw [h.at hc] at hn; injection hn with hn; subst hn
    unfold succL at hm
    obtain ⟨x, hx, hh⟩ := List.mem_flatMap.1 hm
    by_cases e2 : x.1 = cr
    · rw [if_pos e2] at hh
      exact h.p x (by rw [List.take_of_length_le hr]; exact hx) e2 m hh
    · rw [if_neg e2] at hh; cases hh
  · have hi := (List.getElem?_eq_some_iff.1 hc).1
    rw [← ht, List.getElem?_append_left (by omega)] at hn
    exact h.clo j n (by omega) hn m hm
end
end Go.Proofs.Ytfemkbockhpmcaa.Sym
