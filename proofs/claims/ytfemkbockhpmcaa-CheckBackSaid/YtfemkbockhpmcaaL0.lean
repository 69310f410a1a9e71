/- Plain lemmas that this session's walks use. -/
import Derived.Test.YtfemkbockhpmcaaPl
import Derived.Test.YtfemkbockhpmcaaTy
import Derived.Test.YtfemkbockhpmcaaSymI
import Derived.Laws.Strings
import Derived.WideShapes
set_option linter.unusedVariables false
set_option linter.unusedSimpArgs false
namespace Go.Proofs.Ytfemkbockhpmcaa.Sym
open Go Go.Proofs Go.RowKit
-- 2

theorem ne_case {xs ys : List Int} (h : xs.length ≠ ys.length) : false = decide (xs = ys) := by
  have : xs ≠ ys := fun e => h (by rw [e])
  simp [this]
theorem eq_case1 {xs ys : List Int} {i : Nat} {x y : Int} (h1 : xs[i]? = some x) (h2 : ys[i]? = some y) (h : x ≠ y) : false = decide (xs = ys) := by
  have : xs ≠ ys := fun e => h (by subst e; rw [h1] at h2; injection h2)
  simp [this]
theorem take_succ' {α : Type} {xs : List α} {i : Nat} {x : α} (h1 : xs[i]? = some x) : xs.take (i + 1) = xs.take i ++ [x] := by
  obtain ⟨h, e⟩ := List.getElem?_eq_some_iff.1 h1
  rw [List.take_succ_eq_append_getElem h, e]
theorem eq_case2 {xs ys : List Int} {i : Nat} {x y : Int} (ht : xs.take i = ys.take i) (h1 : xs[i]? = some x) (h2 : ys[i]? = some y) (h : x = y) : xs.take (i + 1) = ys.take (i + 1) := by
  rw [take_succ' h1, take_succ' h2, ht, h]
theorem eq_case3 {xs ys : List Int} {i : Nat} (ht : xs.take i = ys.take i) (h1 : xs.length ≤ i) (h : xs.length = ys.length) : true = decide (xs = ys) := by
  rw [List.take_of_length_le h1, List.take_of_length_le (by omega)] at ht
  simp [ht]
-- 4

def dropS (p : List Int × List Int) : (List Int × List Int) × Bool :=
  match p with
  | (x :: a, y :: b) => if x = y ∧ 0 ≤ x then ((a, b), true) else (([], []), false)
  | _ => (([], []), false)
theorem dropS_no1 {a b : List Int} (h : (if ((b.length : Nat) : Int) < ((a.length : Nat) : Int) then ((b.length : Nat) : Int) else ((a.length : Nat) : Int)) = 0) : dropS (a, b) = (([], []), false) := by
  cases a with
  | nil => rfl
  | cons x a => cases b with
    | nil => rfl
    | cons y b => simp only [List.length_cons] at h; split at h <;> omega
theorem dropS_no2 {a b : List Int} {x y : Int} (h1 : a[0]? = some x) (h2 : b[0]? = some y) (h : x ≠ y) : dropS (a, b) = (([], []), false) := by
  cases a with
  | nil => rfl
  | cons x a => cases b with
    | nil => rfl
    | cons y b => simp at h1 h2; subst h1; subst h2; simp [dropS, h]
theorem dropS_no3 {a b : List Int} {x : Int} (h1 : a[0]? = some x) (h : x < 0) : dropS (a, b) = (([], []), false) := by
  cases a with
  | nil => rfl
  | cons x a => cases b with
    | nil => rfl
    | cons y b => simp at h1; subst h1; simp [dropS]; omega
theorem dropS_yes {a b : List Int} {x y z : Int} (h1 : a[0]? = some x) (h2 : b[0]? = some y) (h : x = y) (h3 : a[0]? = some z) (h4 : ¬ z < 0) : dropS (a, b) = ((a.drop 1, b.drop 1), true) := by
  cases a with
  | nil => simp at h1
  | cons x a => cases b with
    | nil => simp at h2
    | cons y b => simp at h1 h2 h3; subst h1; subst h2; subst h3; subst h; simp [dropS]; omega
-- 5


def splitS (p : List Int × List Int) : (List Int × List Int) × (List Int × List Int) × Bool :=
  match p with
  | (x :: a, y :: b) => (([x], [y]), (a, b), true)
  | _ => (([], []), ([], []), false)
theorem splitS_no {a b : List Int} (h : (if ((b.length : Nat) : Int) < ((a.length : Nat) : Int) then ((b.length : Nat) : Int) else ((a.length : Nat) : Int)) = 0) : splitS (a, b) = (([], []), ([], []), false) := by
  cases a with
  | nil => rfl
  | cons x a => cases b with
    | nil => rfl
    | cons y b => simp only [List.length_cons] at h; split at h <;> omega
theorem splitS_yes {a b : List Int} {x y : Int} (h1 : a[0]? = some x) (h2 : b[0]? = some y) : splitS (a, b) = (([x], [y]), (a.drop 1, b.drop 1), true) := by
  cases a with
  | nil => simp at h1
  | cons x a => cases b with
    | nil => simp at h2
    | cons y b => simp at h1 h2; subst h1; subst h2; simp [splitS]
-- 6



theorem ne_caseP {α : Type} [DecidableEq α] {xs ys : List α} (h : xs.length ≠ ys.length) : false = decide (xs = ys) := by
  have : xs ≠ ys := fun e => h (by rw [e])
  simp [this]
theorem eq_case1P {xs ys : List (List Int × List Int)} {i : Nat} {a b c d : List Int} (h1 : xs[i]? = some (a, b)) (h2 : ys[i]? = some (c, d)) (h : false = (decide (a = c) && decide (b = d))) : false = decide (xs = ys) := by
  have : xs ≠ ys := fun e => by subst e; rw [h1] at h2; injection h2 with h2; injection h2 with h3 h4; subst h3; subst h4; simp at h
  simp [this]
theorem eq_case2P {xs ys : List (List Int × List Int)} {i : Nat} {a b c d : List Int} (ht : xs.take i = ys.take i) (h1 : xs[i]? = some (a, b)) (h2 : ys[i]? = some (c, d)) (h : true = (decide (a = c) && decide (b = d))) : xs.take (i + 1) = ys.take (i + 1) := by
  have h' : a = c ∧ b = d := by simpa using h.symm
  rw [take_succ' h1, take_succ' h2, ht, h'.1, h'.2]
theorem eq_case3P {α : Type} [DecidableEq α] {xs ys : List α} {i : Nat} (ht : xs.take i = ys.take i) (h1 : xs.length ≤ i) (h : xs.length = ys.length) : true = decide (xs = ys) := by
  rw [List.take_of_length_le h1, List.take_of_length_le (by omega)] at ht
  simp [ht]
def altsS (rs : List (List (List Int))) (xs : List Int) : List (List Int) × Bool :=
  match xs with
  | [] => ([], false)
  | x :: _ => if 0 ≤ x then ([], false) else match rs[(-x - 1).toNat]? with
    | some r => (r, true)
    | none => ([], false)
theorem altsS_no1 {rs : List (List (List Int))} {xs : List Int} (h : xs.length = 0) : altsS rs xs = ([], false) := by
  cases xs with
  | nil => rfl
  | cons x l => simp at h
theorem altsS_no2 {rs : List (List (List Int))} {xs : List Int} {x : Int} (h : xs[0]? = some x) (h1 : x ≥ 0) : altsS rs xs = ([], false) := by
  cases xs with
  | nil => rfl
  | cons y l => simp at h; subst h; simp [altsS]; omega
theorem altsS_no3 {rs : List (List (List Int))} {xs : List Int} {x : Int} (h : xs[0]? = some x) (h1 : x < 0) (h2 : ((rs.length : Nat) : Int) ≤ - x - 1) : altsS rs xs = ([], false) := by
  cases xs with
  | nil => rfl
  | cons y l =>
    simp at h; subst h
    have : rs[(-y - 1).toNat]? = none := List.getElem?_eq_none (by omega)
    simp only [altsS, this, ite_self]
theorem altsS_yes {rs : List (List (List Int))} {xs : List Int} {x y : Int} {r : List (List Int)} (h : xs[0]? = some x) (h1 : x < 0) (hy : y = - x - 1) (h2 : rs[y.toNat]? = some r) : altsS rs xs = (r, true) := by
  cases xs with
  | nil => simp at h
  | cons z l =>
    simp at h; subst h; subst hy
    have : ¬ 0 ≤ z := by omega
    simp only [altsS, h2, if_neg this]
-- 7




theorem flat_take {α : Type} (xss : List (List α)) (i : Nat) : (xss.take i).flatten.length ≤ xss.flatten.length := by
  have h : xss.flatten = (xss.take i).flatten ++ (xss.drop i).flatten := by rw [← List.flatten_append, List.take_append_drop]
  rw [h, List.length_append]; omega
theorem flat_app {α : Type} {xss : List (List α)} {i : Nat} {x : List α} (h : xss[i]? = some x) : (xss.take (i + 1)).flatten = (xss.take i).flatten ++ x := by
  rw [take_succ' h, List.flatten_append]; simp
theorem flat_succ {α : Type} {xss : List (List α)} {i : Nat} {x : List α} (h : xss[i]? = some x) : (xss.take (i + 1)).flatten.length = (xss.take i).flatten.length + x.length ∧ (xss.take (i + 1)).flatten.length ≤ xss.flatten.length :=
  ⟨by rw [flat_app h, List.length_append], flat_take xss (i + 1)⟩
-- 8





def SmallR (rs : List (List (List Int))) : Prop := ∀ ar ∈ rs, ar.length ≤ 1000000000 ∧ ∀ al ∈ ar, al.length ≤ 1000000000
def oldS (rs : List (List (List Int))) (p : List Int × List Int) : List (List Int × List Int) × Bool :=
  match altsS rs p.1 with
  | (ar, true) => (ar.map fun x => (x ++ p.1.drop 1, p.2), true)
  | (_, false) => ([], false)
theorem oldS_no {rs : List (List (List Int))} {a b : List Int} {r : List (List Int)} (h : (r, false) = altsS rs a) : oldS rs (a, b) = ([], false) := by
  unfold oldS; simp only [← h]
theorem altsS_small {rs : List (List (List Int))} {a : List Int} {r : List (List Int)} (hs : SmallR rs) (h : (r, true) = altsS rs a) : r.length ≤ 1000000000 ∧ ∀ al ∈ r, al.length ≤ 1000000000 := by
  cases a with
  | nil => simp [altsS] at h
  | cons x a =>
    simp only [altsS] at h
    split at h
    · simp at h
    · split at h
      · rename_i s hs'
        injection h with h1 h2
        subst h1
        exact hs _ (List.mem_of_getElem? hs')
      · simp at h
theorem altsS_ne {rs : List (List (List Int))} {a : List Int} {r : List (List Int)} (h : (r, true) = altsS rs a) : 0 < a.length := by
  cases a with
  | nil => simp [altsS] at h
  | cons x a => simp
theorem l_ok {α : Type} {d : Ty α} {G : Heap} {A : Option Addr} {n c : Nat} {xs : List α} (h : Sl d G A n c xs) (h1 : xs.length ≤ 1000000000) : n ≤ 1000000000 := by rw [h.len]; exact h1
theorem old_len {α β : Type} {f : α → β} {xs : List α} {i n : Nat} {z : β} : ((xs.take i).map f ++ List.replicate (n - i) z).length = min i xs.length + (n - i) := by
  simp
theorem old_step {α β : Type} {f : α → β} {xs : List α} {i n : Nat} {z : β} {x : α} (h : xs[i]? = some x) (hn : n = xs.length) :
    ((xs.take i).map f ++ List.replicate (n - i) z).set i (f x) = (xs.take (i + 1)).map f ++ List.replicate (n - (i + 1)) z := by
  obtain ⟨hi, e⟩ := List.getElem?_eq_some_iff.1 h
  have h1 : ((xs.take i).map f).length = i := by simp; omega
  rw [take_succ' h, List.map_append, List.set_append_right _ _ (by rw [h1]; exact Nat.le_refl _), h1, Nat.sub_self]
  obtain ⟨m, hm⟩ : ∃ m, n - i = m + 1 := ⟨n - i - 1, by omega⟩
  rw [hm, List.replicate_succ, List.set_cons_zero, show n - (i + 1) = m by omega]
  simp
theorem oldS_yes {rs : List (List (List Int))} {a b : List Int} {r : List (List Int)} {i n : Nat} (h : (r, true) = altsS rs a) (hi : r.length ≤ i) (hn : n ≤ i) : oldS rs (a, b) = ((r.take i).map (fun x => (x ++ a.drop 1, b)) ++ List.replicate (n - i) ([], []), true) := by
  unfold oldS; simp only [← h]
  rw [List.take_of_length_le hi, Nat.sub_eq_zero_of_le hn]; simp
-- 12


theorem dropS_nil {a b : List Int} (h : a.length = 0 ∨ b.length = 0) : dropS (a, b) = (([], []), false) := by
  cases a with
  | nil => rfl
  | cons x a => cases b with
    | nil => rfl
    | cons y b => simp at h
theorem splitS_nil {a b : List Int} (h : a.length = 0 ∨ b.length = 0) : splitS (a, b) = (([], []), ([], []), false) := by
  cases a with
  | nil => rfl
  | cons x a => cases b with
    | nil => rfl
    | cons y b => simp at h
theorem splitS_yes' {a b : List Int} (h1 : 0 < a.length) (h2 : 0 < b.length) : splitS (a, b) = (((a.take 1).drop 0, (b.take 1).drop 0), (a.drop 1, b.drop 1), true) := by
  cases a with
  | nil => simp at h1
  | cons x a => cases b with
    | nil => simp at h2
    | cons y b => simp [splitS]
def ruleS (rs : List (List (List Int))) (xs : List Int) : Int × Bool :=
  match xs with
  | [] => (0, false)
  | x :: _ => if 0 ≤ x then (0, false) else if ((rs.length : Nat) : Int) ≤ - x - 1 then (0, false) else (- x - 1, true)
theorem ruleS_no1 {rs : List (List (List Int))} {xs : List Int} (h : xs.length = 0) : ruleS rs xs = (0, false) := by
  cases xs with
  | nil => rfl
  | cons x l => simp at h
theorem ruleS_no2 {rs : List (List (List Int))} {xs : List Int} {x : Int} (h : xs[0]? = some x) (h1 : x ≥ 0) : ruleS rs xs = (0, false) := by
  cases xs with
  | nil => rfl
  | cons y l => simp at h; subst h; simp only [ruleS, if_pos h1]
theorem ruleS_no3 {rs : List (List (List Int))} {xs : List Int} {x : Int} (h : xs[0]? = some x) (h1 : x < 0) (h2 : ((rs.length : Nat) : Int) ≤ - x - 1) : ruleS rs xs = (0, false) := by
  cases xs with
  | nil => rfl
  | cons y l => simp at h; subst h; simp only [ruleS, if_pos h2, ite_self]
theorem ruleS_yes {rs : List (List (List Int))} {xs : List Int} {x z : Int} (h : xs[0]? = some x) (h1 : x < 0) (hz : z = - x - 1) (h2 : ¬ ((rs.length : Nat) : Int) ≤ - x - 1) : ruleS rs xs = (z, true) := by
  cases xs with
  | nil => simp at h
  | cons y l => simp at h; subst h; subst hz; simp only [ruleS, if_neg h2, if_neg (show ¬ 0 ≤ y by omega)]
-- 13



def theseS (ok : Bool) (xs : List (List Int × List Int)) : List (List Int × List Int) × Bool := match ok with
  | true => (xs, true)
  | false => ([], false)
theorem rule_alts0 {rs : List (List (List Int))} {xs : List Int} {r : Int} (h : (r, false) = ruleS rs xs) : ([], false) = altsS rs xs := by
  cases xs with
  | nil => rfl
  | cons x l =>
    simp only [ruleS] at h
    simp only [altsS]
    split at h
    · rename_i h1; rw [if_pos h1]
    · rename_i h1
      rw [if_neg h1]
      split at h
      · rename_i h2
        have : rs[(-x - 1).toNat]? = none := List.getElem?_eq_none (by omega)
        rw [this]
      · simp at h
theorem rule_alts1 {rs : List (List (List Int))} {xs : List Int} {r : Int} (h : (r, true) = ruleS rs xs) : 0 ≤ r ∧ r < rs.length ∧ ∃ al, rs[r.toNat]? = some al := by
  cases xs with
  | nil => simp [ruleS] at h
  | cons x l =>
    simp only [ruleS] at h
    split at h
    · simp at h
    · split at h
      · simp at h
      · injection h with h1 h2
        subst h1
        exact ⟨by omega, by omega, _, List.getElem?_eq_getElem (by omega)⟩
theorem rule_alts2 {rs : List (List (List Int))} {xs : List Int} {r : Int} {al : List (List Int)} (h : (r, true) = ruleS rs xs) (ha : rs[r.toNat]? = some al) : (al, true) = altsS rs xs := by
  cases xs with
  | nil => simp [ruleS] at h
  | cons x l =>
    simp only [ruleS] at h
    split at h
    · simp at h
    · rename_i h1
      split at h
      · simp at h
      · injection h with h2 h3
        subst h2
        simp only [altsS, if_neg h1, ha]
theorem ruleS_ne {rs : List (List (List Int))} {a : List Int} {r : Int} (h : (r, true) = ruleS rs a) : 0 < a.length := by
  cases a with
  | nil => simp [ruleS] at h
  | cons x a => simp
theorem map_step {α β : Type} {f : α → β} {xs : List α} {i : Nat} {x : α} (h : xs[i]? = some x) : (xs.take (i + 1)).map f = (xs.take i).map f ++ [f x] := by
  rw [take_succ' h, List.map_append]; rfl
theorem oldS_yes' {rs : List (List (List Int))} {a b : List Int} {r : List (List Int)} {i : Nat} (h : (r, true) = altsS rs a) (hi : r.length ≤ i) : oldS rs (a, b) = ((r.take i).map (fun x => (x ++ a.drop 1, b)), true) := by
  unfold oldS; simp only [← h]
  rw [List.take_of_length_le hi]
-- 16






def fewA (ar : List (List Int)) : Nat := (ar.map fun al => 1 + al.length).sum
def fewN (rs : List (List (List Int))) : Nat := (rs.map fewA).sum
def FitR (rs : List (List (List Int))) : Prop := ∀ ar ∈ rs, ∀ al ∈ ar, al.length ≤ 140737488355328
theorem sum_succ {α : Type} {f : α → Nat} {xs : List α} {i : Nat} {x : α} (h : xs[i]? = some x) : ((xs.take (i + 1)).map f).sum = ((xs.take i).map f).sum + f x := by
  rw [take_succ' h, List.map_append, List.sum_append]; simp
theorem sum_take {α : Type} {f : α → Nat} (xs : List α) (i : Nat) : ((xs.take i).map f).sum ≤ (xs.map f).sum := by
  have h : xs.map f = (xs.take i).map f ++ (xs.drop i).map f := by rw [← List.map_append, List.take_append_drop]
  rw [h, List.sum_append]; omega
theorem few_le {rs : List (List (List Int))} {ar : List (List Int)} {al : List Int} {i j : Nat} (h1 : rs[i]? = some ar) (h2 : ar[j]? = some al) : fewN (rs.take i) + fewA (ar.take j) + (1 + al.length) ≤ fewN rs := by
  have a : fewA (ar.take (j + 1)) = fewA (ar.take j) + (1 + al.length) := sum_succ h2
  have b : fewA (ar.take (j + 1)) ≤ fewA ar := sum_take ar (j + 1)
  have c : fewN (rs.take (i + 1)) = fewN (rs.take i) + fewA ar := sum_succ h1
  have d : fewN (rs.take (i + 1)) ≤ fewN rs := sum_take rs (i + 1)
  omega
theorem sum_mem {α : Type} {f : α → Nat} : ∀ {xs : List α} {x : α}, x ∈ xs → f x ≤ (xs.map f).sum
  | y :: xs, x, h => by
    simp only [List.map_cons, List.sum_cons]
    rcases List.mem_cons.1 h with rfl | h
    · omega
    · have := sum_mem (f := f) h; omega
theorem len_sum {α : Type} {f : α → Nat} (hf : ∀ x, 1 ≤ f x) : ∀ xs : List α, xs.length ≤ (xs.map f).sum
  | [] => by simp
  | x :: xs => by simp only [List.map_cons, List.sum_cons, List.length_cons]; have := len_sum hf xs; have := hf x; omega
theorem few_small {t n : Nat} {rs : List (List (List Int))} (h : ((t + n + fewN rs : Nat) : Int) ≤ 400) : SmallR rs := by
  intro ar har
  have h1 : fewA ar ≤ fewN rs := sum_mem (f := fewA) har
  have h2 : ar.length ≤ fewA ar := len_sum (f := fun al : List Int => 1 + al.length) (fun x => by show 1 ≤ 1 + x.length; omega) ar
  refine ⟨by omega, fun al hal => ?_⟩
  have h3 : 1 + al.length ≤ fewA ar := sum_mem (f := fun al : List Int => 1 + al.length) hal
  omega
-- 18

theorem str_inj {a b : ByteArray} (h : a.toList = b.toList) : a = b := WideShapes.bytes_inj (by rw [← ByteArray.toList_eq, ← ByteArray.toList_eq, h])
theorem str_ne {a b : ByteArray} (h : a.toList ≠ b.toList) : a ≠ b := fun e => h (by rw [e])
def hasB (xs : List ByteArray) (x : ByteArray) : Bool := xs.any fun y => decide (y = x)
theorem hasB_true {xs : List ByteArray} {x : ByteArray} : hasB xs x = true ↔ x ∈ xs := by
  unfold hasB; rw [List.any_eq_true]
  exact ⟨fun ⟨y, h1, h2⟩ => of_decide_eq_true h2 ▸ h1, fun h => ⟨x, h, decide_eq_true rfl⟩⟩
theorem has_yes {xs : List ByteArray} {x y : ByteArray} {i : Nat} (h : xs[i]? = some y) (he : y.toList = x.toList) : true = hasB xs x := by
  have := str_inj he; subst this
  exact (hasB_true.2 (List.mem_of_getElem? h)).symm
theorem has_step {xs : List ByteArray} {x y : ByteArray} {i : Nat} (h : xs[i]? = some y) (he : y.toList ≠ x.toList) (hn : x ∉ xs.take i) : x ∉ xs.take (i + 1) := by
  rw [take_succ' h]; simp only [List.mem_append, List.mem_singleton, not_or]
  exact ⟨hn, fun e => str_ne he e.symm⟩
theorem has_no {xs : List ByteArray} {x : ByteArray} {i : Nat} (hn : x ∉ xs.take i) (hi : xs.length ≤ i) : false = hasB xs x := by
  rw [List.take_of_length_le hi] at hn
  cases hb : hasB xs x with
  | false => rfl
  | true => exact absurd (hasB_true.1 hb) hn
def placeB (xs : List ByteArray) (x : ByteArray) : Int := match xs.findIdx? (fun y => decide (y = x)) with
  | some i => (i : Int)
  | none => -1
theorem place_yes {xs : List ByteArray} {x y : ByteArray} {i : Nat} (h : xs[i]? = some y) (he : y.toList = x.toList) (hn : x ∉ xs.take i) : ((i : Nat) : Int) = placeB xs x := by
  have := str_inj he; subst this
  have e : xs.findIdx? (fun z => decide (z = y)) = some i := by
    obtain ⟨hl, hy⟩ := List.getElem?_eq_some_iff.1 h
    rw [List.findIdx?_eq_some_iff_getElem]
    refine ⟨hl, by simp [hy], fun j hj => ?_⟩
    have : xs[j] ≠ y := fun e => hn (by rw [← e]; exact List.mem_take_iff_getElem.2 ⟨j, by omega, rfl⟩)
    simpa using this
  unfold placeB; rw [e]
theorem place_no {xs : List ByteArray} {x : ByteArray} {i : Nat} (hn : x ∉ xs.take i) (hi : xs.length ≤ i) : -1 = placeB xs x := by
  rw [List.take_of_length_le hi] at hn
  have e : xs.findIdx? (fun z => decide (z = x)) = none := by
    rw [List.findIdx?_eq_none_iff]
    intro z hz
    have : z ≠ x := fun e => hn (e ▸ hz)
    simpa using this
  unfold placeB; rw [e]
theorem eq_caseS1 {xs ys : List ByteArray} {i : Nat} {x y : ByteArray} (h1 : xs[i]? = some x) (h2 : ys[i]? = some y) (h : x.toList ≠ y.toList) : false = decide (xs = ys) := by
  have : xs ≠ ys := fun e => str_ne h (by subst e; rw [h1] at h2; injection h2)
  simp [this]
theorem eq_caseS2 {xs ys : List ByteArray} {i : Nat} {x y : ByteArray} (ht : xs.take i = ys.take i) (h1 : xs[i]? = some x) (h2 : ys[i]? = some y) (h : x.toList = y.toList) : xs.take (i + 1) = ys.take (i + 1) := by
  rw [take_succ' h1, take_succ' h2, ht, str_inj h]
def WithinI (t r : Nat) (k : Int) : Prop := k < (t : Int) ∧ (k < 0 → - k - 1 < (r : Int))
instance (t r : Nat) (k : Int) : Decidable (WithinI t r k) := by unfold WithinI; infer_instance
theorem all_step {α : Type} {p : α → Prop} {xs : List α} {x : α} {i : Nat} (h : xs[i]? = some x) (hn : ∀ k ∈ xs.take i, p k) (hp : p x) : ∀ k ∈ xs.take (i + 1), p k := by
  rw [take_succ' h]
  intro k hk
  rcases List.mem_append.1 hk with hk | hk
  · exact hn k hk
  · rw [List.mem_singleton.1 hk]; exact hp
theorem all_no {α : Type} {p : α → Prop} [DecidablePred p] {xs : List α} {x : α} {i : Nat} (h : xs[i]? = some x) (hp : ¬ p x) : false = decide (∀ k ∈ xs, p k) :=
  (decide_eq_false fun hh => hp (hh x (List.mem_of_getElem? h))).symm
theorem all_yes {α : Type} {p : α → Prop} [DecidablePred p] {xs : List α} {i : Nat} (hn : ∀ k ∈ xs.take i, p k) (hi : xs.length ≤ i) : true = decide (∀ k ∈ xs, p k) := by
  rw [List.take_of_length_le hi] at hn
  exact (decide_eq_true hn).symm
-- 19

theorem nth1 {α : Type} {xs ys : List (List α)} {i : Nat} {x y : List α} (h : xs = ys) (h1 : xs[i]? = some x) (h2 : ys[i]? = some y) : x.length = y.length := by
  subst h; rw [h1] at h2; injection h2 with h2; rw [h2]
theorem nth2 {α : Type} {xs ys : List (List α)} {i j : Nat} {x y : List α} {a b : α} (h : xs = ys) (h1 : xs[i]? = some x) (h2 : ys[i]? = some y) (h3 : x[j]? = some a) (h4 : y[j]? = some b) : a = b := by
  subst h; rw [h1] at h2; injection h2 with h2; subst h2; rw [h3] at h4; injection h4
-- 20


def OkC (i c : Nat) : Prop := (97 ≤ c ∧ c ≤ 122) ∨ (65 ≤ c ∧ c ≤ 90) ∨ c = 95 ∨ (0 < i ∧ 48 ≤ c ∧ c ≤ 57)
instance (i c : Nat) : Decidable (OkC i c) := by unfold OkC; infer_instance
def IsNameP (s : ByteArray) : Prop := 1 ≤ s.size ∧ s.size ≤ 32 ∧ ∀ j, j < s.size → OkC j (s.data.toList[j]?.getD 0).toNat
instance (s : ByteArray) : Decidable (IsNameP s) := by unfold IsNameP; infer_instance
theorem okc_step {p : Nat → Nat → Prop} {f : Nat → Nat} {i : Nat} (hn : ∀ j, j < i → p j (f j)) (h : p i (f i)) : ∀ j, j < i + 1 → p j (f j) := fun j hj => by
  by_cases e : j = i
  · subst e; exact h
  · exact hn j (by omega)
-- 21



def LongR (x : ByteArray × List (List ByteArray)) : Prop := 30 < x.2.length ∨ ∃ a ∈ x.2, 30 < a.length
def LongP (g : List (ByteArray × List (List ByteArray))) : Prop := (∃ x ∈ g, LongR x) ∨ 60 < g.length
-- 22




def MayR (x : ByteArray × List (List ByteArray)) : Prop := IsNameP x.1 ∧ 0 < x.2.length ∧ ∀ a ∈ x.2, ∀ s ∈ a, IsNameP s
def MayP (g : List (ByteArray × List (List ByteArray))) : Prop := 0 < g.length ∧ ∀ x ∈ g, MayR x
-- 27







-- 32

def symN (tk nm : List ByteArray) (n : ByteArray) : Int := if placeB tk n < 0 then -1 - placeB nm n else placeB tk n
theorem symN_nm {tk nm : List ByteArray} {n : ByteArray} (h : placeB tk n < 0) : symN tk nm n = -1 - placeB nm n := by unfold symN; rw [if_pos h]
theorem symN_tk {tk nm : List ByteArray} {n : ByteArray} (h : 0 ≤ placeB tk n) : symN tk nm n = placeB tk n := by unfold symN; rw [if_neg (by omega)]
end Go.Proofs.Ytfemkbockhpmcaa.Sym
