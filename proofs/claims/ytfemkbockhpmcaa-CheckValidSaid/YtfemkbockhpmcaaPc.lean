/- Plain words on the names to which a grammar's first rule leads. Own work. -/
import Derived.Test.YtfemkbockhpmcaaPb
set_option linter.unusedSimpArgs false
set_option linter.unusedVariables false
namespace Go.Proofs.Ytfemkbockhpmcaa.Sym
open Go Go.Proofs Go.RowKit
/-- The names in a name's alternatives. -/
def succL (g : List Rule) (n : ByteArray) : List ByteArray := g.flatMap fun r => if r.1 = n then r.2.flatten else []
def pushS (g : List Rule) (is : List Int) : List ByteArray := is.flatMap fun i => ((g[i.toNat]?).map fun r : Rule => r.2.flatten).getD []
inductive Led (g : List Rule) : ByteArray → Prop
  | first (r : Rule) : g[0]? = some r → Led g r.1
  | step (n m : ByteArray) : Led g n → m ∈ succL g n → Led g m
theorem push_idx' (g : List Rule) (n : ByteArray) : ∀ (l : List Rule) (k : Nat), (∀ j x, l[j]? = some x → g[k + j]? = some x) → pushS g (((l.zipIdx k).filter fun p => decide (p.1.1 = n)).map fun p => (p.2 : Int)) = l.flatMap fun r => if r.1 = n then r.2.flatten else []
  | [], k, _ => rfl
  | r :: l, k, h => by
    have ih := push_idx' g n l (k + 1) (fun j x hx => by have := h (j + 1) x (by simpa using hx); rwa [show k + (j + 1) = k + 1 + j by omega] at this)
    have h0 := h 0 r rfl
    rw [List.zipIdx_cons, List.filter_cons, List.flatMap_cons]
    by_cases e : r.1 = n
    · rw [if_pos (by simpa using e), if_pos e, List.map_cons]
      unfold pushS at ih ⊢
      rw [List.flatMap_cons, ih]
      simp only [Int.toNat_natCast]
      rw [show g[k]? = some r by simpa using h0]; rfl
    · rw [if_neg (by simpa using e), if_neg e, ih]; rfl
theorem push_idx (g : List Rule) (n : ByteArray) : pushS g (idxS g n) = succL g n := push_idx' g n g 0 (fun j x hx => by simpa using hx)
theorem mem_idxS {g : List Rule} {n : ByteArray} {i : Int} (h : i ∈ idxS g n) : ∃ (j : Nat) (r : Rule), i = (j : Int) ∧ g[j]? = some r ∧ r.1 = n := by
  unfold idxS at h
  obtain ⟨p, hp, rfl⟩ := List.mem_map.1 h
  obtain ⟨h1, h2⟩ := List.mem_filter.1 hp
  exact ⟨p.2, p.1, rfl, List.mem_zipIdx_iff_getElem?.1 h1, of_decide_eq_true h2⟩
theorem pushS_snoc {g : List Rule} {is : List Int} {k : Nat} {i : Int} {r : Rule} (h : is[k]? = some i) (hr : g[i.toNat]? = some r) : pushS g (is.take (k + 1)) = pushS g (is.take k) ++ r.2.flatten := by
  rw [take_succ' h]
  unfold pushS
  rw [List.flatMap_append]
  simp [hr]
theorem succL_len (g : List Rule) (n : ByteArray) : (succL g n).length ≤ (allNames g).length := by
  unfold succL allNames
  induction g with
  | nil => simp
  | cons r g ih =>
    rw [List.flatMap_cons, List.flatMap_cons, List.length_append, List.length_append]
    split
    · omega
    · simp only [List.length_nil]; omega
theorem pushS_take_len (g : List Rule) (is : List Int) (k : Nat) : (pushS g (is.take k)).length ≤ (pushS g is).length := by
  have h : pushS g is = pushS g (is.take k) ++ pushS g (is.drop k) := by unfold pushS; rw [← List.flatMap_append, List.take_append_drop]
  rw [h, List.length_append]; omega
theorem succL_sub {g : List Rule} {n m : ByteArray} (h : m ∈ succL g n) : m ∈ allNames g := by
  unfold succL at h
  obtain ⟨r, h1, h2⟩ := List.mem_flatMap.1 h
  split at h2
  · exact List.mem_flatMap.2 ⟨r, h1, h2⟩
  · cases h2
/-- What holds while the names are gone through: gd are marked, td are to be done. -/
structure LedI (g : List Rule) (s0 : ByteArray) (gd : ByteArray → Bool) (td : List ByteArray) : Prop where
  snd : ∀ s, gd s = true → Led g s
  tds : ∀ s ∈ td, Led g s
  sub : ∀ s ∈ td, s ∈ s0 :: allNames g
  beg : gd s0 = true ∨ s0 ∈ td
  cls : ∀ n, gd n = true → ∀ m ∈ succL g n, gd m = true ∨ m ∈ td
def ledMu (g : List Rule) (s0 : ByteArray) (gd : ByteArray → Bool) (td : List ByteArray) : Nat := ((s0 :: allNames g).countP fun s => !gd s) * ((allNames g).length + 1) + td.length
theorem LedI.start {g : List Rule} {r : Rule} (h : g[0]? = some r) : LedI g r.1 (fun _ => false) [r.1] :=
  ⟨fun s h => (by cases h), fun s hs => (by rw [List.mem_singleton.1 hs]; exact .first r h), fun s hs => (by rw [List.mem_singleton.1 hs]; exact List.mem_cons_self), .inr List.mem_cons_self, fun n h => (by cases h)⟩
theorem last_mem {td : List ByteArray} {n : ByteArray} (h : td[td.length - 1]? = some n) : td = td.take (td.length - 1) ++ [n] := by
  have hl := (List.getElem?_eq_some_iff.1 h).1
  have := take_succ' h
  rw [show td.length - 1 + 1 = td.length by omega, List.take_of_length_le (Nat.le_refl _)] at this
  exact this
theorem LedI.pop {g : List Rule} {s0 : ByteArray} {gd : ByteArray → Bool} {td : List ByteArray} {n : ByteArray} (h : LedI g s0 gd td) (hn : td[td.length - 1]? = some n) (hg : gd n = true) : LedI g s0 gd (td.take (td.length - 1)) := by
  have e := last_mem hn
  have hm : ∀ m, m ∈ td → gd m = true ∨ m ∈ td.take (td.length - 1) := fun m hm => by
    rw [e] at hm
    rcases List.mem_append.1 hm with hm | hm
    · exact .inr (by simpa using hm)
    · rw [List.mem_singleton.1 hm]; exact .inl hg
  exact ⟨h.snd, fun s hs => h.tds s (List.mem_of_mem_take hs), fun s hs => h.sub s (List.mem_of_mem_take hs), h.beg.elim .inl (hm s0), fun k hk m hmm => (h.cls k hk m hmm).elim .inl (hm m)⟩
theorem LedI.push {g : List Rule} {s0 : ByteArray} {gd : ByteArray → Bool} {td : List ByteArray} {n : ByteArray} (h : LedI g s0 gd td) (hn : td[td.length - 1]? = some n) : LedI g s0 (fun x => if x = n then true else gd x) (td.take (td.length - 1) ++ succL g n) := by
  have e := last_mem hn
  have hnl : Led g n := h.tds n (List.mem_of_getElem? hn)
  have hm : ∀ m, m ∈ td → (if m = n then true else gd m) = true ∨ m ∈ td.take (td.length - 1) ++ succL g n := fun m hm => by
    rw [e] at hm
    rcases List.mem_append.1 hm with hm | hm
    · exact .inr (List.mem_append_left _ (by simpa using hm))
    · rw [List.mem_singleton.1 hm]; exact .inl (by simp)
  have hm2 : ∀ m, gd m = true → (if m = n then true else gd m) = true := fun m hg => by split; rfl; exact hg
  refine ⟨fun s hs => ?_, fun s hs => ?_, fun s hs => ?_, h.beg.elim (fun x => .inl (hm2 _ x)) (hm s0), fun k hk m hmm => ?_⟩
  · by_cases e : s = n
    · rw [e]; exact hnl
    · rw [if_neg e] at hs; exact h.snd s hs
  · rcases List.mem_append.1 hs with hs | hs
    · exact h.tds s (List.mem_of_mem_take hs)
    · exact .step n s hnl hs
  · rcases List.mem_append.1 hs with hs | hs
    · exact h.sub s (List.mem_of_mem_take hs)
    · exact List.mem_cons_of_mem _ (succL_sub hs)
  · by_cases e : k = n
    · subst e; exact .inr (List.mem_append_right _ hmm)
    · rw [if_neg e] at hk
      exact (h.cls k hk m hmm).elim (fun x => .inl (hm2 _ x)) (hm m)
theorem LedI.done {g : List Rule} {r : Rule} {gd : ByteArray → Bool} (hr : g[0]? = some r) (h : LedI g r.1 gd []) : ∀ s, gd s = true ↔ Led g s := fun s => by
  refine ⟨h.snd s, fun hl => ?_⟩
  induction hl with
  | first r' h' =>
    rw [hr] at h'; injection h' with h'; subst h'
    exact h.beg.elim id (fun x => by cases x)
  | step n m _ hm ih => exact (h.cls n ih m hm).elim id (fun x => by cases x)
theorem countP_lt2 {α : Type} {p q : α → Bool} : ∀ {l : List α}, (∀ x ∈ l, q x = true → p x = true) → (∃ x ∈ l, p x = true ∧ q x = false) → l.countP q < l.countP p
  | [], _, h => by obtain ⟨x, hx, _⟩ := h; cases hx
  | y :: l, h1, h2 => by
    rw [List.countP_cons, List.countP_cons]
    have hle : l.countP q ≤ l.countP p := List.countP_mono_left (fun x hx => h1 x (List.mem_cons_of_mem _ hx))
    obtain ⟨x, hx, h3, h4⟩ := h2
    rcases List.mem_cons.1 hx with rfl | hx
    · rw [h3, h4]; simp; omega
    · have := countP_lt2 (fun x hx => h1 x (List.mem_cons_of_mem _ hx)) ⟨x, hx, h3, h4⟩
      have h5 := h1 y List.mem_cons_self
      cases hq : q y with
      | true => rw [h5 hq]; simp; omega
      | false => simp; omega
theorem ledMu_pop {g : List Rule} {s0 : ByteArray} {gd : ByteArray → Bool} {td : List ByteArray} (h : 0 < td.length) : ledMu g s0 gd (td.take (td.length - 1)) < ledMu g s0 gd td := by
  unfold ledMu; rw [List.length_take]; omega
theorem ledMu_push {g : List Rule} {s0 : ByteArray} {gd : ByteArray → Bool} {td : List ByteArray} {n : ByteArray} (h : LedI g s0 gd td) (hn : td[td.length - 1]? = some n) (hg : gd n = false) :
    ledMu g s0 (fun x => if x = n then true else gd x) (td.take (td.length - 1) ++ succL g n) < ledMu g s0 gd td := by
  have hl := (List.getElem?_eq_some_iff.1 hn).1
  have h1 : ((s0 :: allNames g).countP fun s => !(if s = n then true else gd s)) < (s0 :: allNames g).countP fun s => !gd s :=
    countP_lt2 (fun x _ hx => by revert hx; split <;> simp) ⟨n, h.sub n (List.mem_of_getElem? hn), by simp [hg], by simp⟩
  have h2 := succL_len g n
  unfold ledMu
  rw [List.length_append, List.length_take]
  generalize ((s0 :: allNames g).countP fun s => !(if s = n then true else gd s)) = a at h1
  generalize ((s0 :: allNames g).countP fun s => !gd s) = b at h1
  obtain ⟨d, rfl⟩ : ∃ d, b = a + 1 + d := ⟨b - a - 1, by omega⟩
  have e : (a + 1 + d) * ((allNames g).length + 1) = a * ((allNames g).length + 1) + ((allNames g).length + 1) + d * ((allNames g).length + 1) := by rw [Nat.add_mul, Nat.add_mul, Nat.one_mul]
  rw [e]
  have : min (td.length - 1) td.length = td.length - 1 := by omega
  rw [this]
  have : 0 ≤ d * ((allNames g).length + 1) := Nat.zero_le _
  omega
theorem ledMu_len {g : List Rule} {s0 : ByteArray} {gd : ByteArray → Bool} {td : List ByteArray} : td.length ≤ ledMu g s0 gd td := by unfold ledMu; omega
theorem ledMu_start {g : List Rule} {s0 : ByteArray} (h : (allNames g).length ≤ 100000) : ledMu g s0 (fun _ => false) [s0] ≤ 20000000000 := by
  unfold ledMu
  have h1 : ((s0 :: allNames g).countP fun s => !false) ≤ 100001 := by
    refine Nat.le_trans List.countP_le_length ?_
    rw [List.length_cons]; omega
  have h2 : ((s0 :: allNames g).countP fun s => !false) * ((allNames g).length + 1) ≤ 100001 * 100001 := Nat.mul_le_mul h1 (by omega)
  simp only [List.length_cons, List.length_nil] at *
  omega
theorem OwnL.anyS {G G' : Heap} {xs : List ByteArray} {arr : Array Value} {cap : Nat} (h : OwnL tStr G xs arr cap) : OwnL tStr G' xs arr cap := by
  obtain ⟨h1, h2, h3, h4⟩ := h
  refine ⟨h1, h2, h3, ?_⟩
  clear h2
  generalize arr.toList.take (xs.length * tStr.sz) = l at h4
  induction h4 with
  | nil => exact .nil
  | cons a b ih => exact .cons a ih
end Go.Proofs.Ytfemkbockhpmcaa.Sym
