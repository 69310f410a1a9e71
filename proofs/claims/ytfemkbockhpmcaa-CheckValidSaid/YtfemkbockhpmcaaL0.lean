/- Plain lemmas that this session's walks use. -/
import Derived.Test.YtfemkbockhpmcaaPl
import Derived.Test.YtfemkbockhpmcaaTy
import Derived.Test.YtfemkbockhpmcaaSymI
import Derived.Laws.Strings
import Derived.WideShapes
set_option linter.unusedVariables false
set_option linter.unusedSimpArgs false
namespace Go.Proofs.Ytfemkbockhpmcaa.Sym
open Go Go.Proofs Go.RowKit
-- 2

theorem ne_case {xs ys : List Int} (h : xs.length ≠ ys.length) : false = decide (xs = ys) := by
  have : xs ≠ ys := fun e => h (by rw [e])
  simp [this]
theorem eq_case1 {xs ys : List Int} {i : Nat} {x y : Int} (h1 : xs[i]? = some x) (h2 : ys[i]? = some y) (h : x ≠ y) : false = decide (xs = ys) := by
  have : xs ≠ ys := fun e => h (by subst e; rw [h1] at h2; injection h2)
  simp [this]
theorem take_succ' {α : Type} {xs : List α} {i : Nat} {x : α} (h1 : xs[i]? = some x) : xs.take (i + 1) = xs.take i ++ [x] := by
  obtain ⟨h, e⟩ := List.getElem?_eq_some_iff.1 h1
  rw [List.take_succ_eq_append_getElem h, e]
theorem eq_case2 {xs ys : List Int} {i : Nat} {x y : Int} (ht : xs.take i = ys.take i) (h1 : xs[i]? = some x) (h2 : ys[i]? = some y) (h : x = y) : xs.take (i + 1) = ys.take (i + 1) := by
  rw [take_succ' h1, take_succ' h2, ht, h]
theorem eq_case3 {xs ys : List Int} {i : Nat} (ht : xs.take i = ys.take i) (h1 : xs.length ≤ i) (h : xs.length = ys.length) : true = decide (xs = ys) := by
  rw [List.take_of_length_le h1, List.take_of_length_le (by omega)] at ht
  simp [ht]
-- 4

def dropS (p : List Int × List Int) : (List Int × List Int) × Bool :=
  match p with
  | (x :: a, y :: b) => if x = y ∧ 0 ≤ x then ((a, b), true) else (([], []), false)
  | _ => (([], []), false)
def splitS (p : List Int × List Int) : (List Int × List Int) × (List Int × List Int) × Bool :=
  match p with
  | (x :: a, y :: b) => (([x], [y]), (a, b), true)
  | _ => (([], []), ([], []), false)
theorem ne_caseP {α : Type} [DecidableEq α] {xs ys : List α} (h : xs.length ≠ ys.length) : false = decide (xs = ys) := by
  have : xs ≠ ys := fun e => h (by rw [e])
  simp [this]
theorem eq_case3P {α : Type} [DecidableEq α] {xs ys : List α} {i : Nat} (ht : xs.take i = ys.take i) (h1 : xs.length ≤ i) (h : xs.length = ys.length) : true = decide (xs = ys) := by
  rw [List.take_of_length_le h1, List.take_of_length_le (by omega)] at ht
  simp [ht]
def altsS (rs : List (List (List Int))) (xs : List Int) : List (List Int) × Bool :=
  match xs with
  | [] => ([], false)
  | x :: _ => if 0 ≤ x then ([], false) else match rs[(-x - 1).toNat]? with
    | some r => (r, true)
    | none => ([], false)
theorem flat_take {α : Type} (xss : List (List α)) (i : Nat) : (xss.take i).flatten.length ≤ xss.flatten.length := by
  have h : xss.flatten = (xss.take i).flatten ++ (xss.drop i).flatten := by rw [← List.flatten_append, List.take_append_drop]
  rw [h, List.length_append]; omega
theorem flat_app {α : Type} {xss : List (List α)} {i : Nat} {x : List α} (h : xss[i]? = some x) : (xss.take (i + 1)).flatten = (xss.take i).flatten ++ x := by
  rw [take_succ' h, List.flatten_append]; simp
theorem flat_succ {α : Type} {xss : List (List α)} {i : Nat} {x : List α} (h : xss[i]? = some x) : (xss.take (i + 1)).flatten.length = (xss.take i).flatten.length + x.length ∧ (xss.take (i + 1)).flatten.length ≤ xss.flatten.length :=
  ⟨by rw [flat_app h, List.length_append], flat_take xss (i + 1)⟩
-- 8





def SmallR (rs : List (List (List Int))) : Prop := ∀ ar ∈ rs, ar.length ≤ 1000000000 ∧ ∀ al ∈ ar, al.length ≤ 1000000000
def oldS (rs : List (List (List Int))) (p : List Int × List Int) : List (List Int × List Int) × Bool :=
  match altsS rs p.1 with
  | (ar, true) => (ar.map fun x => (x ++ p.1.drop 1, p.2), true)
  | (_, false) => ([], false)
def ruleS (rs : List (List (List Int))) (xs : List Int) : Int × Bool :=
  match xs with
  | [] => (0, false)
  | x :: _ => if 0 ≤ x then (0, false) else if ((rs.length : Nat) : Int) ≤ - x - 1 then (0, false) else (- x - 1, true)
def theseS (ok : Bool) (xs : List (List Int × List Int)) : List (List Int × List Int) × Bool := match ok with
  | true => (xs, true)
  | false => ([], false)
theorem map_step {α β : Type} {f : α → β} {xs : List α} {i : Nat} {x : α} (h : xs[i]? = some x) : (xs.take (i + 1)).map f = (xs.take i).map f ++ [f x] := by
  rw [take_succ' h, List.map_append]; rfl
def fewA (ar : List (List Int)) : Nat := (ar.map fun al => 1 + al.length).sum
def fewN (rs : List (List (List Int))) : Nat := (rs.map fewA).sum
def FitR (rs : List (List (List Int))) : Prop := ∀ ar ∈ rs, ∀ al ∈ ar, al.length ≤ 140737488355328
theorem sum_succ {α : Type} {f : α → Nat} {xs : List α} {i : Nat} {x : α} (h : xs[i]? = some x) : ((xs.take (i + 1)).map f).sum = ((xs.take i).map f).sum + f x := by
  rw [take_succ' h, List.map_append, List.sum_append]; simp
theorem sum_take {α : Type} {f : α → Nat} (xs : List α) (i : Nat) : ((xs.take i).map f).sum ≤ (xs.map f).sum := by
  have h : xs.map f = (xs.take i).map f ++ (xs.drop i).map f := by rw [← List.map_append, List.take_append_drop]
  rw [h, List.sum_append]; omega
theorem few_le {rs : List (List (List Int))} {ar : List (List Int)} {al : List Int} {i j : Nat} (h1 : rs[i]? = some ar) (h2 : ar[j]? = some al) : fewN (rs.take i) + fewA (ar.take j) + (1 + al.length) ≤ fewN rs := by
  have a : fewA (ar.take (j + 1)) = fewA (ar.take j) + (1 + al.length) := sum_succ h2
  have b : fewA (ar.take (j + 1)) ≤ fewA ar := sum_take ar (j + 1)
  have c : fewN (rs.take (i + 1)) = fewN (rs.take i) + fewA ar := sum_succ h1
  have d : fewN (rs.take (i + 1)) ≤ fewN rs := sum_take rs (i + 1)
  omega
theorem sum_mem {α : Type} {f : α → Nat} : ∀ {xs : List α} {x : α}, x ∈ xs → f x ≤ (xs.map f).sum
  | y :: xs, x, h => by
    simp only [List.map_cons, List.sum_cons]
    rcases List.mem_cons.1 h with rfl | h
    · omega
    · have := sum_mem (f := f) h; omega
theorem len_sum {α : Type} {f : α → Nat} (hf : ∀ x, 1 ≤ f x) : ∀ xs : List α, xs.length ≤ (xs.map f).sum
  | [] => by simp
  | x :: xs => by simp only [List.map_cons, List.sum_cons, List.length_cons]; have := len_sum hf xs; have := hf x; omega
theorem str_inj {a b : ByteArray} (h : a.toList = b.toList) : a = b := WideShapes.bytes_inj (by rw [← ByteArray.toList_eq, ← ByteArray.toList_eq, h])
theorem str_ne {a b : ByteArray} (h : a.toList ≠ b.toList) : a ≠ b := fun e => h (by rw [e])
def hasB (xs : List ByteArray) (x : ByteArray) : Bool := xs.any fun y => decide (y = x)
theorem hasB_true {xs : List ByteArray} {x : ByteArray} : hasB xs x = true ↔ x ∈ xs := by
  unfold hasB; rw [List.any_eq_true]
  exact ⟨fun ⟨y, h1, h2⟩ => of_decide_eq_true h2 ▸ h1, fun h => ⟨x, h, decide_eq_true rfl⟩⟩
theorem has_yes {xs : List ByteArray} {x y : ByteArray} {i : Nat} (h : xs[i]? = some y) (he : y.toList = x.toList) : true = hasB xs x := by
  have := str_inj he; subst this
  exact (hasB_true.2 (List.mem_of_getElem? h)).symm
theorem has_step {xs : List ByteArray} {x y : ByteArray} {i : Nat} (h : xs[i]? = some y) (he : y.toList ≠ x.toList) (hn : x ∉ xs.take i) : x ∉ xs.take (i + 1) := by
  rw [take_succ' h]; simp only [List.mem_append, List.mem_singleton, not_or]
  exact ⟨hn, fun e => str_ne he e.symm⟩
theorem has_no {xs : List ByteArray} {x : ByteArray} {i : Nat} (hn : x ∉ xs.take i) (hi : xs.length ≤ i) : false = hasB xs x := by
  rw [List.take_of_length_le hi] at hn
  cases hb : hasB xs x with
  | false => rfl
  | true => exact absurd (hasB_true.1 hb) hn
def placeB (xs : List ByteArray) (x : ByteArray) : Int := match xs.findIdx? (fun y => decide (y = x)) with
  | some i => (i : Int)
  | none => -1
theorem place_yes {xs : List ByteArray} {x y : ByteArray} {i : Nat} (h : xs[i]? = some y) (he : y.toList = x.toList) (hn : x ∉ xs.take i) : ((i : Nat) : Int) = placeB xs x := by
  have := str_inj he; subst this
  have e : xs.findIdx? (fun z => decide (z = y)) = some i := by
    obtain ⟨hl, hy⟩ := List.getElem?_eq_some_iff.1 h
    rw [List.findIdx?_eq_some_iff_getElem]
    refine ⟨hl, by simp [hy], fun j hj => ?_⟩
    have : xs[j] ≠ y := fun e => hn (by rw [← e]; exact List.mem_take_iff_getElem.2 ⟨j, by omega, rfl⟩)
    simpa using this
  unfold placeB; rw [e]
theorem place_no {xs : List ByteArray} {x : ByteArray} {i : Nat} (hn : x ∉ xs.take i) (hi : xs.length ≤ i) : -1 = placeB xs x := by
  rw [List.take_of_length_le hi] at hn
  have e : xs.findIdx? (fun z => decide (z = x)) = none := by
    rw [List.findIdx?_eq_none_iff]
    intro z hz
    have : z ≠ x := fun e => hn (e ▸ hz)
    simpa using this
  unfold placeB; rw [e]
theorem eq_caseS1 {xs ys : List ByteArray} {i : Nat} {x y : ByteArray} (h1 : xs[i]? = some x) (h2 : ys[i]? = some y) (h : x.toList ≠ y.toList) : false = decide (xs = ys) := by
  have : xs ≠ ys := fun e => str_ne h (by subst e; rw [h1] at h2; injection h2)
  simp [this]
theorem eq_caseS2 {xs ys : List ByteArray} {i : Nat} {x y : ByteArray} (ht : xs.take i = ys.take i) (h1 : xs[i]? = some x) (h2 : ys[i]? = some y) (h : x.toList = y.toList) : xs.take (i + 1) = ys.take (i + 1) := by
  rw [take_succ' h1, take_succ' h2, ht, str_inj h]
def WithinI (t r : Nat) (k : Int) : Prop := k < (t : Int) ∧ (k < 0 → - k - 1 < (r : Int))
instance (t r : Nat) (k : Int) : Decidable (WithinI t r k) := by unfold WithinI; infer_instance
theorem all_step {α : Type} {p : α → Prop} {xs : List α} {x : α} {i : Nat} (h : xs[i]? = some x) (hn : ∀ k ∈ xs.take i, p k) (hp : p x) : ∀ k ∈ xs.take (i + 1), p k := by
  rw [take_succ' h]
  intro k hk
  rcases List.mem_append.1 hk with hk | hk
  · exact hn k hk
  · rw [List.mem_singleton.1 hk]; exact hp
theorem all_no {α : Type} {p : α → Prop} [DecidablePred p] {xs : List α} {x : α} {i : Nat} (h : xs[i]? = some x) (hp : ¬ p x) : false = decide (∀ k ∈ xs, p k) :=
  (decide_eq_false fun hh => hp (hh x (List.mem_of_getElem? h))).symm
theorem all_yes {α : Type} {p : α → Prop} [DecidablePred p] {xs : List α} {i : Nat} (hn : ∀ k ∈ xs.take i, p k) (hi : xs.length ≤ i) : true = decide (∀ k ∈ xs, p k) := by
  rw [List.take_of_length_le hi] at hn
  exact (decide_eq_true hn).symm
-- 19

theorem nth1 {α : Type} {xs ys : List (List α)} {i : Nat} {x y : List α} (h : xs = ys) (h1 : xs[i]? = some x) (h2 : ys[i]? = some y) : x.length = y.length := by
  subst h; rw [h1] at h2; injection h2 with h2; rw [h2]
theorem nth2 {α : Type} {xs ys : List (List α)} {i j : Nat} {x y : List α} {a b : α} (h : xs = ys) (h1 : xs[i]? = some x) (h2 : ys[i]? = some y) (h3 : x[j]? = some a) (h4 : y[j]? = some b) : a = b := by
  subst h; rw [h1] at h2; injection h2 with h2; subst h2; rw [h3] at h4; injection h4
-- 20


def OkC (i c : Nat) : Prop := (97 ≤ c ∧ c ≤ 122) ∨ (65 ≤ c ∧ c ≤ 90) ∨ c = 95 ∨ (0 < i ∧ 48 ≤ c ∧ c ≤ 57)
instance (i c : Nat) : Decidable (OkC i c) := by unfold OkC; infer_instance
def IsNameP (s : ByteArray) : Prop := 1 ≤ s.size ∧ s.size ≤ 32 ∧ ∀ j, j < s.size → OkC j (s.data.toList[j]?.getD 0).toNat
instance (s : ByteArray) : Decidable (IsNameP s) := by unfold IsNameP; infer_instance
theorem okc_step {p : Nat → Nat → Prop} {f : Nat → Nat} {i : Nat} (hn : ∀ j, j < i → p j (f j)) (h : p i (f i)) : ∀ j, j < i + 1 → p j (f j) := fun j hj => by
  by_cases e : j = i
  · subst e; exact h
  · exact hn j (by omega)
-- 21



def LongR (x : ByteArray × List (List ByteArray)) : Prop := 30 < x.2.length ∨ ∃ a ∈ x.2, 30 < a.length
def LongP (g : List (ByteArray × List (List ByteArray))) : Prop := (∃ x ∈ g, LongR x) ∨ 60 < g.length
-- 22




def MayR (x : ByteArray × List (List ByteArray)) : Prop := IsNameP x.1 ∧ 0 < x.2.length ∧ ∀ a ∈ x.2, ∀ s ∈ a, IsNameP s
def MayP (g : List (ByteArray × List (List ByteArray))) : Prop := 0 < g.length ∧ ∀ x ∈ g, MayR x
-- 27







-- 32

def symN (tk nm : List ByteArray) (n : ByteArray) : Int := if placeB tk n < 0 then -1 - placeB nm n else placeB tk n
end Go.Proofs.Ytfemkbockhpmcaa.Sym
