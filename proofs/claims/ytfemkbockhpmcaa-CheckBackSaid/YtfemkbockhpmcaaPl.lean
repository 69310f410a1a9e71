/- Plain words on grammars by numbers and grammars: what Back, Number, Flaws answer. Own work. -/
import Derived.Test.YtfemkbockhpmcaaSymM
set_option linter.unusedSimpArgs false
set_option linter.unusedVariables false
namespace Go.Proofs.Ytfemkbockhpmcaa.Sym
def mapO {α β : Type} (f : α → Option β) : List α → Option (List β)
  | [] => some []
  | x :: l => match f x, mapO f l with
    | some y, some r => some (y :: r)
    | _, _ => none
section
variable {α β : Type} {f : α → Option β}
theorem mapO_cons {x : α} {l : List α} {y : β} {r : List β} (h1 : f x = some y) (h2 : mapO f l = some r) : mapO f (x :: l) = some (y :: r) := by
  simp only [mapO, h1, h2]
theorem mapO_snoc : ∀ {l : List α} {acc : List β} {x : α} {y : β}, mapO f l = some acc → f x = some y → mapO f (l ++ [x]) = some (acc ++ [y])
  | [], acc, x, y, h1, h2 => by
    injection h1 with h1
    subst h1
    exact mapO_cons h2 rfl
  | a :: l, acc, x, y, h1, h2 => by
    simp only [mapO] at h1
    split at h1
    · rename_i b r hb hr
      injection h1 with h1
      subst h1
      exact mapO_cons hb (mapO_snoc hr h2)
    · cases h1
theorem mapO_none : ∀ {l : List α} {x : α}, x ∈ l → f x = none → mapO f l = none
  | a :: l, x, hx, h => by
    simp only [mapO]
    rcases List.mem_cons.1 hx with rfl | hx
    · rw [h]
    · rw [mapO_none hx h]; cases f a <;> rfl
theorem mapO_len : ∀ {l : List α} {acc : List β}, mapO f l = some acc → acc.length = l.length
  | [], acc, h => by injection h with h; subst h; rfl
  | a :: l, acc, h => by
    simp only [mapO] at h
    split at h
    · rename_i b r hb hr
      injection h with h
      subst h
      simp [mapO_len hr]
    · cases h
theorem mapO_get : ∀ {l : List α} {acc : List β}, mapO f l = some acc → ∀ (i : Nat) (x : α), l[i]? = some x → ∃ y, acc[i]? = some y ∧ f x = some y
  | [], acc, h, i, x, hx => by simp at hx
  | a :: l, acc, h, i, x, hx => by
    simp only [mapO] at h
    split at h
    · rename_i b r hb hr
      injection h with h
      subst h
      cases i with
      | zero => simp at hx; subst hx; exact ⟨b, rfl, hb⟩
      | succ i => simp at hx; exact mapO_get hr i x hx
    · cases h
theorem mapO_mem {l : List α} {acc : List β} (h : mapO f l = some acc) {y : β} (hy : y ∈ acc) : ∃ x ∈ l, f x = some y := by
  obtain ⟨i, hi, rfl⟩ := List.mem_iff_getElem.1 hy
  have hl := mapO_len h
  obtain ⟨y, h1, h2⟩ := mapO_get h i _ (List.getElem?_eq_getElem (by omega))
  rw [List.getElem?_eq_getElem hi] at h1
  injection h1 with h1
  exact ⟨_, List.getElem_mem _, by rw [h1]; exact h2⟩
theorem mapO_all {l : List α} {acc : List β} (h : mapO f l = some acc) {x : α} (hx : x ∈ l) : ∃ y ∈ acc, f x = some y := by
  obtain ⟨i, hi, rfl⟩ := List.mem_iff_getElem.1 hx
  obtain ⟨y, h1, h2⟩ := mapO_get h i _ (List.getElem?_eq_getElem hi)
  exact ⟨y, List.mem_of_getElem? h1, h2⟩
end
abbrev Rule := ByteArray × List (List ByteArray)
def symB (tk nm : List ByteArray) (k : Int) : Option ByteArray := if 0 ≤ k then tk[k.toNat]? else nm[(-1 - k).toNat]?
def altB (tk nm : List ByteArray) (al : List Int) : Option (List ByteArray) := mapO (symB tk nm) al
def altsB (tk nm : List ByteArray) (ar : List (List Int)) : Option (List (List ByteArray)) := mapO (altB tk nm) ar
def backS (tk nm : List ByteArray) (rs : List (List (List Int))) : Option (List Rule) := if nm.length = rs.length then mapO (fun x : ByteArray × List (List Int) => (altsB tk nm x.2).map fun a => (x.1, a)) (nm.zip rs) else none
theorem back_no {tk nm : List ByteArray} {rs : List (List (List Int))} (h : nm.length ≠ rs.length) : backS tk nm rs = none := by unfold backS; rw [if_neg h]
theorem back_yes {tk nm : List ByteArray} {rs : List (List (List Int))} (h : nm.length = rs.length) : backS tk nm rs = mapO (fun x : ByteArray × List (List Int) => (altsB tk nm x.2).map fun a => (x.1, a)) (nm.zip rs) := by unfold backS; rw [if_pos h]
theorem back_bad {tk nm : List ByteArray} {rs : List (List (List Int))} {r : Nat} {x : ByteArray × List (List Int)} (h : (nm.zip rs)[r]? = some x) (h2 : altsB tk nm x.2 = none) : backS tk nm rs = none := by
  unfold backS; split
  · exact mapO_none (List.mem_of_getElem? h) (by rw [h2]; rfl)
  · rfl
theorem zip_get {α β : Type} {l : List α} {m : List β} {r : Nat} {x : α} {y : β} (h1 : l[r]? = some x) (h2 : m[r]? = some y) : (l.zip m)[r]? = some (x, y) := by
  rw [List.getElem?_zip_eq_some]; exact ⟨h1, h2⟩
theorem symB_tk {tk nm : List ByteArray} {k : Int} {s : ByteArray} (h : 0 ≤ k) (h1 : tk[k.toNat]? = some s) : symB tk nm k = some s := by unfold symB; rw [if_pos h, h1]
theorem symB_nm {tk nm : List ByteArray} {k : Int} {s : ByteArray} (h : k < 0) (h1 : nm[(-1 - k).toNat]? = some s) : symB tk nm k = some s := by unfold symB; rw [if_neg (by omega), h1]
theorem symB_nonm {tk nm : List ByteArray} {k : Int} (h : k < 0) (h1 : (nm.length : Int) ≤ -1 - k) : symB tk nm k = none := by unfold symB; rw [if_neg (by omega)]; exact List.getElem?_eq_none (by omega)
theorem symB_notk {tk nm : List ByteArray} {k : Int} (h : 0 ≤ k) (h1 : (tk.length : Int) ≤ k) : symB tk nm k = none := by unfold symB; rw [if_pos h]; exact List.getElem?_eq_none (by omega)
/-- What Back's success says of the numbers. -/
theorem back_ok_syms {tk nm : List ByteArray} {rs : List (List (List Int))} {g : List Rule} (h : backS tk nm rs = some g) : nm.length = rs.length ∧ ∀ ar ∈ rs, ∀ al ∈ ar, ∀ k ∈ al, (0 ≤ k ∧ k < tk.length) ∨ (k < 0 ∧ -1 - k < nm.length) := by
  unfold backS at h
  split at h
  · rename_i hl
    refine ⟨hl, fun ar har al hal k hk => ?_⟩
    obtain ⟨i, hi, rfl⟩ := List.mem_iff_getElem.1 har
    have hz : (nm.zip rs)[i]? = some (nm[i], rs[i]) := zip_get (List.getElem?_eq_getElem (by omega)) (List.getElem?_eq_getElem hi)
    obtain ⟨y, _, h2⟩ := mapO_get h i _ hz
    simp only at h2
    cases h3 : altsB tk nm rs[i] with
    | none => rw [h3] at h2; cases h2
    | some a =>
      obtain ⟨b, _, h4⟩ := mapO_all h3 hal
      obtain ⟨s, _, h5⟩ := mapO_all h4 hk
      unfold symB at h5
      split at h5
      · rename_i h0; have := (List.getElem?_eq_some_iff.1 h5).1; exact .inl ⟨h0, by omega⟩
      · rename_i h0; have := (List.getElem?_eq_some_iff.1 h5).1; exact .inr ⟨by omega, by omega⟩
  · cases h
/-- Its sizes are the numbers' sizes. -/
theorem back_sizes {tk nm : List ByteArray} {rs : List (List (List Int))} {g : List Rule} {N : Nat} (h : backS tk nm rs = some g) (hs : ∀ ar ∈ rs, ar.length ≤ N ∧ ∀ al ∈ ar, al.length ≤ N) : g.length = nm.length ∧ ∀ x ∈ g, x.2.length ≤ N ∧ ∀ a ∈ x.2, a.length ≤ N := by
  unfold backS at h
  split at h
  · rename_i hl
    have h1 := mapO_len h
    rw [List.length_zip] at h1
    refine ⟨by omega, fun x hx => ?_⟩
    obtain ⟨p, hp, h2⟩ := mapO_mem h hx
    cases h3 : altsB tk nm p.2 with
    | none => rw [h3] at h2; cases h2
    | some a =>
      rw [h3] at h2
      simp only [Option.map_some, Option.some.injEq] at h2
      subst h2
      have hpr : p.2 ∈ rs := (List.of_mem_zip hp).2
      obtain ⟨q1, q2⟩ := hs _ hpr
      refine ⟨by rw [mapO_len h3]; exact q1, fun b hb => ?_⟩
      obtain ⟨al, hal, h4⟩ := mapO_mem h3 hb
      rw [mapO_len h4]; exact q2 _ hal
  · cases h
def SmallG (g : List Rule) : Prop := g.length ≤ 1000 ∧ ∀ x ∈ g, x.2.length ≤ 1000 ∧ ∀ a ∈ x.2, a.length ≤ 1000
theorem OwnL.str {G : Heap} {xs : List ByteArray} {arr : Array Value} {cap : Nat} (ho : OwnL tStr G xs arr cap) {i : Nat} (hi : i < xs.length) : ∀ j v, [Value.string (xs[i]?.getD ByteArray.empty)][j]? = some v → arr[i * 1 + j]? = some v := fun j v hj => by
  obtain ⟨cs, h1, h2⟩ := ho.at hi
  have h3 : cs = [.string xs[i]] := h1.1
  subst h3
  rw [List.getElem?_eq_getElem hi] at hj
  exact h2 j v hj
theorem led_mem {l m : List ByteArray} {n a : ByteArray} (h : ∀ x ∈ l, x ∈ a :: m) (hn : n ∈ m) : ∀ x ∈ l ++ [n], x ∈ a :: m := fun x hx => by
  rcases List.mem_append.1 hx with hx | hx
  · exact h x hx
  · rw [List.mem_singleton.1 hx]; exact List.mem_cons_of_mem _ hn
theorem mem_allNames {g : List Rule} {r k l : Nat} {x : Rule} {a : List ByteArray} {n : ByteArray} (h1 : g[r]? = some x) (h2 : x.2[k]? = some a) (h3 : a[l]? = some n) : n ∈ g.flatMap fun x => x.2.flatten := by
  rw [List.mem_flatMap]
  exact ⟨x, List.mem_of_getElem? h1, List.mem_flatten.2 ⟨a, List.mem_of_getElem? h2, List.mem_of_getElem? h3⟩⟩
theorem OwnL.getx {α : Type} {d : Ty α} {G : Heap} {xs : List α} {arr : Array Value} {cap : Nat} (k : OwnL d G xs arr cap) {i : Nat} (hi : i < xs.length) : ∃ x cs, xs[i]? = some x ∧ d.rep G x cs ∧ ∀ j v, cs[j]? = some v → arr[i * d.sz + j]? = some v := by
  obtain ⟨cs, h1, h2⟩ := k.at hi
  exact ⟨_, cs, List.getElem?_eq_getElem hi, h1, h2⟩
abbrev Flaw := Int × ByteArray
def layS (xs : List Flaw) (f : Flaw) : List Flaw := if xs.any (fun y => decide (y = f)) = true then xs else xs ++ [f]
theorem lay_any {xs : List Flaw} {f : Flaw} : xs.any (fun y => decide (y = f)) = true ↔ f ∈ xs := by
  rw [List.any_eq_true]
  constructor
  · rintro ⟨y, hy, h⟩; rw [← of_decide_eq_true h]; exact hy
  · intro h; exact ⟨f, h, decide_eq_true rfl⟩
theorem layS_len (xs : List Flaw) (f : Flaw) : (layS xs f).length ≤ xs.length + 1 := by
  unfold layS; split
  · omega
  · simp
theorem take_snoc_mem {α : Type} {xs : List α} {i : Nat} {x y : α} (h : xs[i]? = some x) (hy : y ∈ xs.take (i + 1)) : y ∈ xs.take i ∨ y = x := by
  rw [List.take_add_one, h] at hy
  simpa using hy
theorem lay_no {xs : List Flaw} {kind xk : Int} {name xn : ByteArray} {i : Nat} (h : (kind, name) ∉ xs.take i) (hx : xs[i]? = some (xk, xn)) (hne : ¬ (xk = kind ∧ xn = name)) : (kind, name) ∉ xs.take (i + 1) := fun hm => by
  rcases take_snoc_mem hx hm with h1 | h1
  · exact h h1
  · injection h1 with h1 h2; exact hne ⟨h1.symm, h2.symm⟩
theorem lay_had {xs : List Flaw} {kind xk : Int} {name xn : ByteArray} {i : Nat} (hx : xs[i]? = some (xk, xn)) (h1 : xk = kind) (h2 : xn = name) : xs = layS xs (kind, name) := by
  subst h1; subst h2
  unfold layS; rw [if_pos (lay_any.2 (List.mem_of_getElem? hx))]
theorem lay_new {xs : List Flaw} {f : Flaw} {i : Nat} (h : f ∉ xs.take i) (hi : xs.length ≤ i) : xs ++ [f] = layS xs f := by
  rw [List.take_of_length_le hi] at h
  unfold layS; rw [if_neg (fun h' => h (lay_any.1 h'))]
/-- All names of a grammar's alternatives. -/
def allNames (g : List Rule) : List ByteArray := g.flatMap fun x => x.2.flatten
theorem len_flatMap_le {α β : Type} {f : α → List β} {B : Nat} : ∀ {l : List α}, (∀ x ∈ l, (f x).length ≤ B) → (l.flatMap f).length ≤ l.length * B
  | [], _ => by simp
  | x :: l, h => by
    rw [List.flatMap_cons, List.length_append, List.length_cons, Nat.succ_mul]
    have h1 := h x List.mem_cons_self
    have h2 := len_flatMap_le (l := l) (f := f) (B := B) (fun y hy => h y (List.mem_cons_of_mem _ hy))
    omega
theorem allNames_len {g : List Rule} (h : SmallG g) : (allNames g).length ≤ 1000000000 := by
  have h1 : (allNames g).length ≤ g.length * 1000000 := len_flatMap_le (fun x hx => by
    have h2 : x.2.flatten.length ≤ x.2.length * 1000 := by
      have := len_flatMap_le (l := x.2) (f := fun a => a) (B := 1000) (fun a ha => (h.2 x hx).2 a ha)
      simpa using this
    have h3 := (h.2 x hx).1
    have h4 : x.2.length * 1000 ≤ 1000 * 1000 := Nat.mul_le_mul_right _ h3
    omega)
  have h2 : g.length * 1000000 ≤ 1000 * 1000000 := Nat.mul_le_mul_right _ h.1
  omega
theorem nodup_len {α : Type} : ∀ {l m : List α}, l.Nodup → (∀ x ∈ l, x ∈ m) → l.length ≤ m.length
  | [], m, _, _ => by simp
  | x :: l, m, hn, hs => by
    obtain ⟨a, b, rfl⟩ := List.append_of_mem (hs x List.mem_cons_self)
    rw [List.nodup_cons] at hn
    have := nodup_len (l := l) (m := a ++ b) hn.2 (fun y hy => by
      have h1 := hs y (List.mem_cons_of_mem _ hy)
      rw [List.mem_append, List.mem_cons] at h1
      rw [List.mem_append]
      rcases h1 with h1 | rfl | h1
      · exact .inl h1
      · exact absurd hy hn.1
      · exact .inr h1)
    simp only [List.length_append, List.length_cons] at *
    omega
theorem nodup_snoc {α : Type} {l : List α} {x : α} (h : l.Nodup) (hx : x ∉ l) : (l ++ [x]).Nodup := by
  rw [List.nodup_append]
  refine ⟨h, by simp, fun a ha b hb e => ?_⟩
  rw [List.mem_singleton.1 hb] at e
  subst e; exact hx ha
end Go.Proofs.Ytfemkbockhpmcaa.Sym
