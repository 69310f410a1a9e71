/- Plain words on grammars by numbers and grammars: what Back, Number, Flaws answer. Own work. -/
import Derived.Test.YtfemkbockhpmcaaSymM
set_option linter.unusedSimpArgs false
set_option linter.unusedVariables false
namespace Go.Proofs.Ytfemkbockhpmcaa.Sym
def mapO {α β : Type} (f : α → Option β) : List α → Option (List β)
  | [] => some []
  | x :: l => match f x, mapO f l with
    | some y, some r => some (y :: r)
    | _, _ => none
section
variable {α β : Type} {f : α → Option β}
theorem mapO_cons {x : α} {l : List α} {y : β} {r : List β} (h1 : f x = some y) (h2 : mapO f l = some r) : mapO f (x :: l) = some (y :: r) := by
  simp only [mapO, h1, h2]
theorem mapO_snoc : ∀ {l : List α} {acc : List β} {x : α} {y : β}, mapO f l = some acc → f x = some y → mapO f (l ++ [x]) = some (acc ++ [y])
  | [], acc, x, y, h1, h2 => by
    injection h1 with h1
    subst h1
    exact mapO_cons h2 rfl
  | a :: l, acc, x, y, h1, h2 => by
    simp only [mapO] at h1
    split at h1
    · rename_i b r hb hr
      injection h1 with h1
      subst h1
      exact mapO_cons hb (mapO_snoc hr h2)
    · cases h1
theorem mapO_none : ∀ {l : List α} {x : α}, x ∈ l → f x = none → mapO f l = none
  | a :: l, x, hx, h => by
    simp only [mapO]
    rcases List.mem_cons.1 hx with rfl | hx
    · rw [h]
    · rw [mapO_none hx h]; cases f a <;> rfl
theorem mapO_len : ∀ {l : List α} {acc : List β}, mapO f l = some acc → acc.length = l.length
  | [], acc, h => by injection h with h; subst h; rfl
  | a :: l, acc, h => by
    simp only [mapO] at h
    split at h
    · rename_i b r hb hr
      injection h with h
      subst h
      simp [mapO_len hr]
    · cases h
end
abbrev Rule := ByteArray × List (List ByteArray)
def symB (tk nm : List ByteArray) (k : Int) : Option ByteArray := if 0 ≤ k then tk[k.toNat]? else nm[(-1 - k).toNat]?
def altB (tk nm : List ByteArray) (al : List Int) : Option (List ByteArray) := mapO (symB tk nm) al
def altsB (tk nm : List ByteArray) (ar : List (List Int)) : Option (List (List ByteArray)) := mapO (altB tk nm) ar
def backS (tk nm : List ByteArray) (rs : List (List (List Int))) : Option (List Rule) := if nm.length = rs.length then mapO (fun x : ByteArray × List (List Int) => (altsB tk nm x.2).map fun a => (x.1, a)) (nm.zip rs) else none
theorem back_no {tk nm : List ByteArray} {rs : List (List (List Int))} (h : nm.length ≠ rs.length) : backS tk nm rs = none := by unfold backS; rw [if_neg h]
theorem back_yes {tk nm : List ByteArray} {rs : List (List (List Int))} (h : nm.length = rs.length) : backS tk nm rs = mapO (fun x : ByteArray × List (List Int) => (altsB tk nm x.2).map fun a => (x.1, a)) (nm.zip rs) := by unfold backS; rw [if_pos h]
theorem back_bad {tk nm : List ByteArray} {rs : List (List (List Int))} {r : Nat} {x : ByteArray × List (List Int)} (h : (nm.zip rs)[r]? = some x) (h2 : altsB tk nm x.2 = none) : backS tk nm rs = none := by
  unfold backS; split
  · exact mapO_none (List.mem_of_getElem? h) (by rw [h2]; rfl)
  · rfl
theorem zip_get {α β : Type} {l : List α} {m : List β} {r : Nat} {x : α} {y : β} (h1 : l[r]? = some x) (h2 : m[r]? = some y) : (l.zip m)[r]? = some (x, y) := by
  rw [List.getElem?_zip_eq_some]; exact ⟨h1, h2⟩
theorem symB_tk {tk nm : List ByteArray} {k : Int} {s : ByteArray} (h : 0 ≤ k) (h1 : tk[k.toNat]? = some s) : symB tk nm k = some s := by unfold symB; rw [if_pos h, h1]
theorem symB_nm {tk nm : List ByteArray} {k : Int} {s : ByteArray} (h : k < 0) (h1 : nm[(-1 - k).toNat]? = some s) : symB tk nm k = some s := by unfold symB; rw [if_neg (by omega), h1]
theorem symB_nonm {tk nm : List ByteArray} {k : Int} (h : k < 0) (h1 : (nm.length : Int) ≤ -1 - k) : symB tk nm k = none := by unfold symB; rw [if_neg (by omega)]; exact List.getElem?_eq_none (by omega)
theorem symB_notk {tk nm : List ByteArray} {k : Int} (h : 0 ≤ k) (h1 : (tk.length : Int) ≤ k) : symB tk nm k = none := by unfold symB; rw [if_pos h]; exact List.getElem?_eq_none (by omega)
def SmallG (g : List Rule) : Prop := g.length ≤ 1000 ∧ ∀ x ∈ g, x.2.length ≤ 1000 ∧ ∀ a ∈ x.2, a.length ≤ 1000
theorem OwnL.str {G : Heap} {xs : List ByteArray} {arr : Array Value} {cap : Nat} (ho : OwnL tStr G xs arr cap) {i : Nat} (hi : i < xs.length) : ∀ j v, [Value.string (xs[i]?.getD ByteArray.empty)][j]? = some v → arr[i * 1 + j]? = some v := fun j v hj => by
  obtain ⟨cs, h1, h2⟩ := ho.at hi
  have h3 : cs = [.string xs[i]] := h1.1
  subst h3
  rw [List.getElem?_eq_getElem hi] at hj
  exact h2 j v hj
theorem mem_allNames {g : List Rule} {r k l : Nat} {x : Rule} {a : List ByteArray} {n : ByteArray} (h1 : g[r]? = some x) (h2 : x.2[k]? = some a) (h3 : a[l]? = some n) : n ∈ g.flatMap fun x => x.2.flatten := by
  rw [List.mem_flatMap]
  exact ⟨x, List.mem_of_getElem? h1, List.mem_flatten.2 ⟨a, List.mem_of_getElem? h2, List.mem_of_getElem? h3⟩⟩
theorem OwnL.getx {α : Type} {d : Ty α} {G : Heap} {xs : List α} {arr : Array Value} {cap : Nat} (k : OwnL d G xs arr cap) {i : Nat} (hi : i < xs.length) : ∃ x cs, xs[i]? = some x ∧ d.rep G x cs ∧ ∀ j v, cs[j]? = some v → arr[i * d.sz + j]? = some v := by
  obtain ⟨cs, h1, h2⟩ := k.at hi
  exact ⟨_, cs, List.getElem?_eq_getElem hi, h1, h2⟩
abbrev Flaw := Int × ByteArray
def layS (xs : List Flaw) (f : Flaw) : List Flaw := if xs.any (fun y => decide (y = f)) = true then xs else xs ++ [f]
theorem lay_any {xs : List Flaw} {f : Flaw} : xs.any (fun y => decide (y = f)) = true ↔ f ∈ xs := by
  rw [List.any_eq_true]
  constructor
  · rintro ⟨y, hy, h⟩; rw [← of_decide_eq_true h]; exact hy
  · intro h; exact ⟨f, h, decide_eq_true rfl⟩
theorem layS_len (xs : List Flaw) (f : Flaw) : (layS xs f).length ≤ xs.length + 1 := by
  unfold layS; split
  · omega
  · simp
theorem take_snoc_mem {α : Type} {xs : List α} {i : Nat} {x y : α} (h : xs[i]? = some x) (hy : y ∈ xs.take (i + 1)) : y ∈ xs.take i ∨ y = x := by
  rw [List.take_add_one, h] at hy
  simpa using hy
theorem lay_no {xs : List Flaw} {kind xk : Int} {name xn : ByteArray} {i : Nat} (h : (kind, name) ∉ xs.take i) (hx : xs[i]? = some (xk, xn)) (hne : ¬ (xk = kind ∧ xn = name)) : (kind, name) ∉ xs.take (i + 1) := fun hm => by
  rcases take_snoc_mem hx hm with h1 | h1
  · exact h h1
  · injection h1 with h1 h2; exact hne ⟨h1.symm, h2.symm⟩
theorem lay_had {xs : List Flaw} {kind xk : Int} {name xn : ByteArray} {i : Nat} (hx : xs[i]? = some (xk, xn)) (h1 : xk = kind) (h2 : xn = name) : xs = layS xs (kind, name) := by
  subst h1; subst h2
  unfold layS; rw [if_pos (lay_any.2 (List.mem_of_getElem? hx))]
theorem lay_new {xs : List Flaw} {f : Flaw} {i : Nat} (h : f ∉ xs.take i) (hi : xs.length ≤ i) : xs ++ [f] = layS xs f := by
  rw [List.take_of_length_le hi] at h
  unfold layS; rw [if_neg (fun h' => h (lay_any.1 h'))]
/-- All names of a grammar's alternatives. -/
def allNames (g : List Rule) : List ByteArray := g.flatMap fun x => x.2.flatten
theorem len_flatMap_le {α β : Type} {f : α → List β} {B : Nat} : ∀ {l : List α}, (∀ x ∈ l, (f x).length ≤ B) → (l.flatMap f).length ≤ l.length * B
  | [], _ => by simp
  | x :: l, h => by
    rw [List.flatMap_cons, List.length_append, List.length_cons, Nat.succ_mul]
    have h1 := h x List.mem_cons_self
    have h2 := len_flatMap_le (l := l) (f := f) (B := B) (fun y hy => h y (List.mem_cons_of_mem _ hy))
    omega
theorem allNames_len {g : List Rule} (h : SmallG g) : (allNames g).length ≤ 1000000000 := by
  have h1 : (allNames g).length ≤ g.length * 1000000 := len_flatMap_le (fun x hx => by
    have h2 : x.2.flatten.length ≤ x.2.length * 1000 := by
      have := len_flatMap_le (l := x.2) (f := fun a => a) (B := 1000) (fun a ha => (h.2 x hx).2 a ha)
      simpa using this
    have h3 := (h.2 x hx).1
    have h4 : x.2.length * 1000 ≤ 1000 * 1000 := Nat.mul_le_mul_right _ h3
    omega)
  have h2 : g.length * 1000000 ≤ 1000 * 1000000 := Nat.mul_le_mul_right _ h.1
  omega
theorem nodup_len {α : Type} : ∀ {l m : List α}, l.Nodup → (∀ x ∈ l, x ∈ m) → l.length ≤ m.length
  | [], m, _, _ => by simp
  | x :: l, m, hn, hs => by
    obtain ⟨a, b, rfl⟩ := List.append_of_mem (hs x List.mem_cons_self)
    rw [List.nodup_cons] at hn
    have := nodup_len (l := l) (m := a ++ b) hn.2 (fun y hy => by
      have h1 := hs y (List.mem_cons_of_mem _ hy)
      rw [List.mem_append, List.mem_cons] at h1
      rw [List.mem_append]
      rcases h1 with h1 | rfl | h1
      · exact .inl h1
      · exact absurd hy hn.1
      · exact .inr h1)
    simp only [List.length_append, List.length_cons] at *
    omega
end Go.Proofs.Ytfemkbockhpmcaa.Sym
