/- Plain words on the program's book of a grammar: its maps. Own work. -/
import Derived.Test.YtfemkbockhpmcaaL0
import Derived.Test.YtfemkbockhpmcaaSymP
set_option linter.unusedSimpArgs false
set_option linter.unusedVariables false
namespace Go.Proofs.Ytfemkbockhpmcaa.Sym
open Go Go.Proofs Go.RowKit
abbrev strE : ByteArray → Value := fun s => .string s
abbrev tRule : Ty Rule := tPair tStr (tSlice (tSlice tStr))
def tokF (tk : List ByteArray) (s : ByteArray) : Option Value := if placeB tk s < 0 then none else some (.int .i64 (placeB tk s))
def idxS (g : List Rule) (s : ByteArray) : List Int := (g.zipIdx.filter fun p => decide (p.1.1 = s)).map fun p => (p.2 : Int)
theorem placeB_snoc (l : List ByteArray) (t s : ByteArray) : placeB (l ++ [t]) s = if placeB l s < 0 then (if t = s then (l.length : Int) else -1) else placeB l s := by
  unfold placeB
  rw [List.findIdx?_append]
  cases h : l.findIdx? (fun y => decide (y = s)) with
  | some i => simp; omega
  | none =>
    by_cases e : t = s
    · subst e; simp
    · simp [e, List.findIdx?_cons]
theorem tokF_nil : tokF [] = fun _ => none := by funext s; rfl
theorem tokF_had {tk : List ByteArray} {i : Nat} {t : ByteArray} (h : tk[i]? = some t) (hh : (tokF (tk.take i) t).isSome = true) : tokF (tk.take (i + 1)) = tokF (tk.take i) := by
  funext s
  rw [take_succ' h]
  unfold tokF at *
  rw [placeB_snoc]
  by_cases e : placeB (tk.take i) s < 0
  · rw [if_pos e]
    by_cases e2 : t = s
    · subst e2; rw [if_pos e] at hh; cases hh
    · rw [if_neg e2]; simp [e]
  · rw [if_neg e]
theorem tokF_new {tk : List ByteArray} {i : Nat} {t : ByteArray} (h : tk[i]? = some t) (hh : (tokF (tk.take i) t).isSome = false) : tokF (tk.take (i + 1)) = fun x => if x = t then some (.int .i64 (i : Int)) else tokF (tk.take i) x := by
  have hi := (List.getElem?_eq_some_iff.1 h).1
  have hl : (tk.take i).length = i := by rw [List.length_take]; omega
  funext s
  rw [take_succ' h]
  unfold tokF at *
  rw [placeB_snoc, hl]
  by_cases e2 : s = t
  · subst e2
    by_cases e : placeB (tk.take i) s < 0
    · rw [if_pos e, if_pos rfl, if_pos rfl, if_neg (by omega)]
    · rw [if_neg e] at hh; cases hh
  · rw [if_neg e2]
    by_cases e : placeB (tk.take i) s < 0
    · rw [if_pos e, if_neg (Ne.symm e2), if_pos (by omega), if_pos e]
    · rw [if_neg e]
theorem idxS_nil (s : ByteArray) : idxS [] s = [] := rfl
theorem idxS_snoc {g : List Rule} {i : Nat} {x : Rule} (h : g[i]? = some x) (s : ByteArray) : idxS (g.take (i + 1)) s = if s = x.1 then idxS (g.take i) s ++ [(i : Int)] else idxS (g.take i) s := by
  have hi := (List.getElem?_eq_some_iff.1 h).1
  have hl : (g.take i).length = i := by rw [List.length_take]; omega
  rw [take_succ' h]
  unfold idxS
  rw [List.zipIdx_append, List.filter_append, List.map_append, hl]
  by_cases e : s = x.1
  · subst e; simp
  · rw [if_neg e]; simp [Ne.symm e]
/-- The book of a grammar and tokens, in memory. -/
structure Book (G : Heap) (bk : Nat) (A : Option Addr) (n c : Nat) (m1 m2 : Nat) (g : List Rule) (tk : List ByteArray) : Prop where
  at' : At G ⟨bk, 0, none⟩ [.slice A n c, .map (some m1), .map (some m2)]
  sl : Sl tRule G A n c g
  tok : MapF G m1 strE (tokF tk)
  rul : ∃ f, MapF G m2 strE f ∧ ∀ s, (idxS g s = [] ∧ f s = none) ∨ (∃ A n c, f s = some (.slice A n c) ∧ Sl (tInt .i64) G A n c (idxS g s) ∧ idxS g s ≠ [])
theorem Book.mono {G G' : Heap} (hle : Le G G') {bk : Nat} {A : Option Addr} {n c m1 m2 : Nat} {g : List Rule} {tk : List ByteArray} (h : Book G bk A n c m1 m2 g tk) : Book G' bk A n c m1 m2 g tk := by
  obtain ⟨f, h1, h2⟩ := h.rul
  refine ⟨h.at'.mono hle, h.sl.mono hle, h.tok.mono hle, f, h1.mono hle, fun s => ?_⟩
  rcases h2 s with h3 | ⟨A, n, c, h3, h4, h5⟩
  · exact .inl h3
  · exact .inr ⟨A, n, c, h3, h4.mono hle, h5⟩
/-- The map of rules while it is made: each list in a block for itself. -/
structure RM (Gb G : Heap) (m1 m2 : Nat) (ix : ByteArray → List Int) (f : ByteArray → Option Value) (bl : ByteArray → Nat) : Prop where
  map : MapF G m2 strE f
  new : Gb m2 = none
  no : ∀ s, ix s = [] → f s = none
  yes : ∀ s, ix s ≠ [] → ∃ cap arr, f s = some (.slice (some ⟨bl s, 0, none⟩) (ix s).length cap) ∧ G (bl s) = some (.cells arr 3 (0, 0)) ∧ OwnL (tInt .i64) G (ix s) arr cap ∧ Gb (bl s) = none ∧ bl s ≠ m2 ∧ bl s ≠ m1
  inj : ∀ s s', ix s ≠ [] → ix s' ≠ [] → bl s = bl s' → s = s'
theorem OwnL.anyG {G G' : Heap} {xs : List Int} {arr : Array Value} {cap : Nat} (h : OwnL (tInt .i64) G xs arr cap) : OwnL (tInt .i64) G' xs arr cap := by
  obtain ⟨h1, h2, h3, h4⟩ := h
  refine ⟨h1, h2, h3, ?_⟩
  clear h2
  generalize arr.toList.take (xs.length * (tInt .i64).sz) = l at h4
  induction h4 with
  | nil => exact .nil
  | cons a b ih => exact .cons a ih
theorem RM.start {Gb G : Heap} {m1 m2 : Nat} (h : MapF G m2 strE (fun _ => none)) (hn : Gb m2 = none) : RM Gb G m1 m2 (idxS []) (fun _ => none) (fun _ => 0) :=
  ⟨h, hn, fun _ _ => rfl, fun s h => absurd (idxS_nil s) h, fun s _ h => absurd (idxS_nil s) h⟩
theorem RM.mono {Gb G G' : Heap} (hle : Le G G') {m1 m2 : Nat} {ix : ByteArray → List Int} {f : ByteArray → Option Value} {bl : ByteArray → Nat} (h : RM Gb G m1 m2 ix f bl) : RM Gb G' m1 m2 ix f bl :=
  ⟨h.map.mono hle, h.new, h.no, fun s hs => by obtain ⟨cap, arr, h1, h2, h3, h4⟩ := h.yes s hs; exact ⟨cap, arr, h1, hle _ _ h2, h3.anyG, h4⟩, h.inj⟩
/-- One list grows (its block may be another one then), and the map tells of it. -/
theorem RM.step {Gb G : Heap} {m1 m2 : Nat} {ix ix' : ByteArray → List Int} {f : ByteArray → Option Value} {bl : ByteArray → Nat} (h : RM Gb G m1 m2 ix f bl) (hle : Le Gb G) {s : ByteArray} {i : Int} (hix : ∀ x, ix' x = if x = s then ix x ++ [i] else ix x)
    {f1 : ByteArray → Option Value} (hm1 : MapF G m1 strE f1) (hmm : m1 ≠ m2) {z : Bool} (hz : z = decide (ix s = [])) {b' cap' : Nat} {arr' : Array Value} (hb : (z = false ∧ b' = bl s) ∨ G b' = none) (ho : OwnL (tInt .i64) G (ix s ++ [i]) arr' cap') {es : Array MapEntry} {clk : Nat}
    (hm : MapF ((((bif z then G else G.without (bl s)).add b' (.cells arr' 3 (0, 0)))).add m2 (.map es clk)) m2 strE (fun x => if x = s then some (.slice (some ⟨b', 0, none⟩) (ix s ++ [i]).length cap') else f x)) :
    RM Gb ((((bif z then G else G.without (bl s)).add b' (.cells arr' 3 (0, 0)))).add m2 (.map es clk)) m1 m2 ix' (fun x => if x = s then some (.slice (some ⟨b', 0, none⟩) (ix s ++ [i]).length cap') else f x) (fun x => if x = s then b' else bl x) ∧
    Le Gb ((((bif z then G else G.without (bl s)).add b' (.cells arr' 3 (0, 0)))).add m2 (.map es clk)) ∧
    MapF ((((bif z then G else G.without (bl s)).add b' (.cells arr' 3 (0, 0)))).add m2 (.map es clk)) m1 strE f1 := by
  have hGb' : Gb b' = none := by
    rcases hb with ⟨hz', rfl⟩ | hb
    · have : ix s ≠ [] := by intro e; rw [hz'] at hz; simp [e] at hz
      obtain ⟨_, _, _, _, _, h4, _⟩ := h.yes s this
      exact h4
    · cases e : Gb b' with
      | none => rfl
      | some o => rw [hle _ _ e] at hb; cases hb
  have hbm : b' ≠ m2 := by
    rcases hb with ⟨hz', rfl⟩ | hb
    · have : ix s ≠ [] := by intro e; rw [hz'] at hz; simp [e] at hz
      obtain ⟨_, _, _, _, _, _, h5, _⟩ := h.yes s this
      exact h5
    · intro e; obtain ⟨_, _, _, q, _⟩ := h.map; rw [← e, hb] at q; cases q
  have hbm1 : b' ≠ m1 := by
    rcases hb with ⟨hz', rfl⟩ | hb
    · have : ix s ≠ [] := by intro e; rw [hz'] at hz; simp [e] at hz
      obtain ⟨_, _, _, _, _, _, _, h5⟩ := h.yes s this
      exact h5
    · intro e; obtain ⟨_, _, _, q, _⟩ := hm1; rw [← e, hb] at q; cases q
  have hother : ∀ x, x ≠ s → ix x ≠ [] → bl x ≠ b' ∧ (z = false → bl x ≠ bl s) := fun x hx hne => by
    constructor
    · intro e
      rcases hb with ⟨hz', e2⟩ | hb
      · have : ix s ≠ [] := by intro e; rw [hz'] at hz; simp [e] at hz
        exact hx (h.inj x s hne this (e.trans e2))
      · obtain ⟨_, _, _, q, _⟩ := h.yes x hne; rw [e, hb] at q; cases q
    · intro hz' e
      have : ix s ≠ [] := by intro e; rw [hz'] at hz; simp [e] at hz
      exact hx (h.inj x s hne this e)
  have hne1 : ∀ x, ix' x ≠ [] → x ≠ s → ix x ≠ [] := fun x hx hne => by rw [hix x, if_neg hne] at hx; exact hx
  refine ⟨⟨hm, h.new, fun x hx => ?_, fun x hx => ?_, fun x y hx hy e => ?_⟩, ?_⟩
  · by_cases e : x = s
    · subst e; rw [hix x, if_pos rfl] at hx; simp at hx
    · rw [if_neg e]; rw [hix x, if_neg e] at hx; exact h.no x hx
  · by_cases e : x = s
    · subst e
      simp only [if_true]
      refine ⟨cap', arr', by rw [hix x, if_pos rfl], ?_, by rw [hix x, if_pos rfl]; exact ho.anyG, hGb', hbm, hbm1⟩
      rw [Heap.add_ne hbm, Heap.add_same]
    · simp only [if_neg e]
      obtain ⟨cap, arr, h1, h2, h3, h4, h5, h6⟩ := h.yes x (hne1 x hx e)
      obtain ⟨q1, q2⟩ := hother x e (hne1 x hx e)
      refine ⟨cap, arr, by rw [hix x, if_neg e]; exact h1, ?_, by rw [hix x, if_neg e]; exact h3.anyG, h4, h5, h6⟩
      rw [Heap.add_ne h5, Heap.add_ne q1]
      cases z with
      | true => exact h2
      | false => simp only [cond_false]; rw [Heap.without_ne (q2 rfl)]; exact h2
  · by_cases e1 : x = s <;> by_cases e2 : y = s
    · rw [e1, e2]
    · rw [if_pos e1, if_neg e2] at e; exact absurd e.symm (hother y e2 (hne1 y hy e2)).1
    · rw [if_neg e1, if_pos e2] at e; exact absurd e (hother x e1 (hne1 x hx e1)).1
    · rw [if_neg e1, if_neg e2] at e; exact h.inj x y (hne1 x hx e1) (hne1 y hy e2) e
  · refine ⟨Le.add' (Le.add' ?_ hGb' _) h.new _, ?_⟩
    · cases z with
      | true => exact hle
      | false =>
        have : ix s ≠ [] := by intro e; simp [e] at hz
        obtain ⟨_, _, _, _, _, h4, _⟩ := h.yes s this
        exact hle.without h4
    · obtain ⟨es1, clk1, l1, q1, q2⟩ := hm1
      refine ⟨es1, clk1, l1, ?_, q2⟩
      rw [Heap.add_ne hmm, Heap.add_ne (Ne.symm hbm1)]
      cases z with
      | true => exact q1
      | false =>
        have : ix s ≠ [] := by intro e; simp [e] at hz
        obtain ⟨_, _, _, _, _, _, _, h6⟩ := h.yes s this
        simp only [cond_false]; rw [Heap.without_ne (Ne.symm h6)]; exact q1
/-- What a look into it gives. -/
theorem RM.get {Gb G : Heap} {m1 m2 : Nat} {ix : ByteArray → List Int} {f : ByteArray → Option Value} {bl : ByteArray → Nat} (h : RM Gb G m1 m2 ix f bl) (s : ByteArray) :
    ∃ cap arr, (f s).getD (.slice none 0 0) = nilOr (decide (ix s = [])) (.slice (some ⟨bl s, 0, none⟩) (ix s).length cap) ∧ OwnL (tInt .i64) G (ix s) arr cap ∧
      (decide (ix s = []) = true → ix s = []) ∧ (decide (ix s = []) = false → G (bl s) = some (.cells arr 3 (0, 0)) ∧ Gb (bl s) = none ∧ bl s ≠ m2) := by
  by_cases e : ix s = []
  · refine ⟨0, #[], by rw [h.no s e, e]; rfl, by rw [e]; exact OwnL.nil _ _, fun _ => e, fun h' => by simp [e] at h'⟩
  · obtain ⟨cap, arr, h1, h2, h3, h4, h5, _⟩ := h.yes s e
    exact ⟨cap, arr, by rw [h1]; simp [e, nilOr], h3, fun h' => by simp [e] at h', fun _ => ⟨h2, h4, h5⟩⟩
/-- The map's block, after one list has grown. -/
theorem RM.mid {Gb G : Heap} {m1 m2 : Nat} {ix : ByteArray → List Int} {f : ByteArray → Option Value} {bl : ByteArray → Nat} (h : RM Gb G m1 m2 ix f bl) {s : ByteArray} {b' : Nat} {o : Obj} (hb : (decide (ix s = []) = false ∧ b' = bl s) ∨ G b' = none) :
    MapF ((bif decide (ix s = []) then G else G.without (bl s)).add b' o) m2 strE f := by
  obtain ⟨es, clk, l, q1, q2⟩ := h.map
  have hs : decide (ix s = []) = false → bl s ≠ m2 := fun e => by
    obtain ⟨_, _, _, _, _, _, h5, _⟩ := h.yes s (by simpa using e)
    exact h5
  refine ⟨es, clk, l, ?_, q2⟩
  have hbm : m2 ≠ b' := fun e => by
    rcases hb with ⟨h1, h2⟩ | h1
    · exact hs h1 (by rw [← h2, ← e])
    · rw [← e, q1] at h1; cases h1
  rw [Heap.add_ne hbm]
  cases e : decide (ix s = []) with
  | true => exact q1
  | false => simp only [cond_false]; rw [Heap.without_ne (Ne.symm (hs e))]; exact q1
/-- A base that is below stays below. -/
theorem RM.base {Gb Gd G : Heap} {m1 m2 : Nat} {ix : ByteArray → List Int} {f : ByteArray → Option Value} {bl : ByteArray → Nat} (h : RM Gb G m1 m2 ix f bl) (hd : Le Gd G) {s : ByteArray} (hs : decide (ix s = []) = false → Gd (bl s) = none) {b' : Nat} {o : Obj} (hb : (decide (ix s = []) = false ∧ b' = bl s) ∨ G b' = none) :
    Le Gd ((bif decide (ix s = []) then G else G.without (bl s)).add b' o) := by
  refine Le.add' ?_ ?_ _
  · cases e : decide (ix s = []) with
    | true => exact hd
    | false => exact hd.without (hs e)
  · rcases hb with ⟨h1, h2⟩ | h1
    · rw [h2]; exact hs h1
    · cases e : Gd b' with
      | none => rfl
      | some x => rw [hd _ _ e] at h1; cases h1
theorem open_base {Gx G1 G2 G3 : Heap} {m1 m2 bk : Nat} {o1 o2 o3 : Obj} (hl1 : Le Gx G1) (hn1 : Gx m1 = none) (hb1 : G1 m1 = some o1) (hl2 : Le G1 G2) (hn2 : G1 m2 = none) (hb2 : G2 m2 = some o2) (hl3 : Le G2 G3) (hn3 : G2 bk = none) (hb3 : G3 bk = some o3) :
    ∃ Gb, Le Gx Gb ∧ Le Gb G3 ∧ Gb m1 = none ∧ Gb m2 = none ∧ Gb bk = some o3 ∧ G3 m1 = some o1 ∧ G3 m2 = some o2 ∧ m1 ≠ m2 := by
  have e1 : bk ≠ m1 := fun e => by rw [e, hl2 _ _ hb1] at hn3; cases hn3
  have e2 : bk ≠ m2 := fun e => by rw [e, hb2] at hn3; cases hn3
  have e3 : m1 ≠ m2 := fun e => by rw [← e, hb1] at hn2; cases hn2
  have hx2 : Gx m2 = none := by
    cases e : Gx m2 with
    | none => rfl
    | some o => rw [hl1 _ _ e] at hn2; cases hn2
  refine ⟨(G3.without m2).without m1, ((((hl1.trans hl2).trans hl3).without hx2).without hn1), (Heap.without_le _ _).trans (Heap.without_le _ _), by unfold Heap.without; rw [if_pos rfl], ?_, ?_, hl3 _ _ (hl2 _ _ hb1), hl3 _ _ hb2, e3⟩
  · rw [Heap.without_ne (Ne.symm e3)]; unfold Heap.without; rw [if_pos rfl]
  · rw [Heap.without_ne e1, Heap.without_ne e2]; exact hb3
theorem base_add {Gb G0 G : Heap} {b : Nat} {o : Obj} (hle : Le Gb G0) (hl : Le G0 G) (hn : G0 b = none) (hb : G b = some o) : ∃ Gd, Le Gb Gd ∧ Le Gd G ∧ Gd b = some o ∧ ∀ k, Gb k = none → k ≠ b → Gd k = none := by
  have hbn : Gb b = none := by
    cases e : Gb b with
    | none => rfl
    | some x => rw [hle _ _ e] at hn; cases hn
  refine ⟨Gb.add b o, Heap.add_le hbn, fun k x hk => ?_, Heap.add_same _ _ _, fun k h1 h2 => by rw [Heap.add_ne h2]; exact h1⟩
  unfold Heap.add at hk
  split at hk
  · rename_i e; subst e; injection hk with hk; subst hk; exact hb
  · exact hl _ _ (hle _ _ hk)
theorem WK_freezeN {c : Ctx} {G : Heap} {S : St} {K : Act → World → Prop} (h : Nat) {ob : OB} (ho : get S.own h = some ob) (hon : ob.on = true) (hu : ob.under 0 = true) (hk : Nat.ble c.k h = true)
    (k : ∀ b G', Le G G' → G b = none → G' b = some ob.obj → WK c G' { S with own := del S.own h, fz := (h, b, ob) :: S.fz } K) : WK c G S K := by
  intro ρ a w hs
  obtain ⟨h1, h2⟩ := hs.2.freeze ho hon (Nat.le_of_ble_eq_true hk)
  have hd : ob.den ρ = ob.obj := OB.den_closed _ _ hu
  refine k (ρ h) _ (Heap.add_le h2) h2 (by rw [Heap.add_same, hd]) ρ a w ⟨hs.1, ⟨h1.has, h1.cells, h1.sep, h1.may, h1.keys, h1.inj, h1.ext, h1.g0, h1.gnew, fun p hp => ?_⟩⟩
  rcases List.mem_cons.1 hp with rfl | hp
  · exact ⟨rfl, Heap.add_same _ _ _⟩
  · exact h1.froz p hp
/-- What is read off it at the end. -/
theorem RM.read {Gb G : Heap} {m1 m2 : Nat} {ix : ByteArray → List Int} {f : ByteArray → Option Value} {bl : ByteArray → Nat} (h : RM Gb G m1 m2 ix f bl) :
    ∃ f, MapF G m2 strE f ∧ ∀ s, (ix s = [] ∧ f s = none) ∨ (∃ A n c, f s = some (.slice A n c) ∧ Sl (tInt .i64) G A n c (ix s) ∧ ix s ≠ []) := by
  refine ⟨f, h.map, fun s => ?_⟩
  by_cases e : ix s = []
  · exact .inl ⟨e, h.no s e⟩
  · obtain ⟨cap, arr, h1, h2, h3, _⟩ := h.yes s e
    exact .inr ⟨_, _, _, h1, ⟨rfl, h3.2.1, h3.2.2.1, h3.row (Le.refl _) h2⟩, e⟩
end Go.Proofs.Ytfemkbockhpmcaa.Sym
