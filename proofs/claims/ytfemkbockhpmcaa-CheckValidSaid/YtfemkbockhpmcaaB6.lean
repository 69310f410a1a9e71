/- Walks of functions that the laws of this seat reach, printed by a program of this session's. -/
import Derived.Test.YtfemkbockhpmcaaB5
set_option linter.unusedSimpArgs false
set_option linter.unusedVariables false
set_option maxHeartbeats 4000000
namespace Go.Proofs.Ytfemkbockhpmcaa.Sym
open Go Go.Proofs Go.RowKit

theorem fert_base {Gx G1 G2 : Heap} {m cg : Nat} {o1 o2 : Obj} (hl1 : Le Gx G1) (hn1 : Gx m = none) (hb1 : G1 m = some o1) (hl2 : Le G1 G2) (hn2 : G1 cg = none) (hb2 : G2 cg = some o2) :
    ∃ Gb, Le Gx Gb ∧ Le Gb G2 ∧ Gb m = none ∧ Gb cg = some o2 ∧ G2 m = some o1 := by
  have e1 : cg ≠ m := fun e => by rw [e, hb1] at hn2; cases hn2
  refine ⟨G2.without m, (hl1.trans hl2).without hn1, Heap.without_le _ _, by unfold Heap.without; rw [if_pos rfl], ?_, hl2 _ _ hb1⟩
  rw [Heap.without_ne e1]; exact hb2
/-- The fertile names: those of a rule one of whose alternatives has but tokens and fertile names. -/
inductive Fert (g : List Rule) (tk : List ByteArray) : ByteArray → Prop
  | mk (r : Rule) (a : List ByteArray) : r ∈ g → a ∈ r.2 → (∀ n ∈ a, n ∉ tk → Fert g tk n) → Fert g tk r.1
def FertC (g : List Rule) (tk : List ByteArray) (gd : ByteArray → Bool) : Prop := ∀ r ∈ g, ∀ a ∈ r.2, a.any (badB gd tk) = false → gd r.1 = true
def FertP (g : List Rule) (tk : List ByteArray) (gd : ByteArray → Bool) (i : Nat) : Prop := ∀ r ∈ g.take i, ∀ a ∈ r.2, a.any (badB gd tk) = false → gd r.1 = true
structure RndF (g : List Rule) (tk : List ByteArray) (g0 gd : ByteArray → Bool) (ag : Bool) (P : Prop) : Prop where
  le : ∀ s, g0 s = true → gd s = true
  dec : ag = true → g.countP (fun r => !gd r.1) < g.countP (fun r => !g0 r.1)
  same : ag = false → gd = g0 ∧ P
  snd : ∀ s, gd s = true → Fert g tk s
section
variable {g : List Rule} {tk : List ByteArray} {g0 gd : ByteArray → Bool} {ag : Bool} {P Q : Prop} {r k : Nat} {x : Rule} {al : List ByteArray}
theorem RndF.start (h : ∀ s, g0 s = true → Fert g tk s) (hp : P) : RndF g tk g0 g0 false P := ⟨fun _ h => h, fun h => by (cases h), fun _ => ⟨rfl, hp⟩, h⟩
theorem RndF.imp2 (h : RndF g tk g0 gd ag P) (f : gd = g0 → P → Q) : RndF g tk g0 gd ag Q := ⟨h.le, h.dec, fun e => ⟨(h.same e).1, f (h.same e).1 (h.same e).2⟩, h.snd⟩
theorem FertP_zero : FertP g tk g0 0 := fun r h => by simp at h
theorem FertP_had (hx : g[r]? = some x) (h : FertP g tk g0 r) (hg : g0 x.1 = true) : FertP g tk g0 (r + 1) := fun y hy a ha hb => by
  rw [take_succ' hx] at hy
  rcases List.mem_append.1 hy with hy | hy
  · exact h y hy a ha hb
  · rw [List.mem_singleton.1 hy]; exact hg
theorem FertP_bad (hx : g[r]? = some x) (h : FertP g tk g0 r) (hg : ∀ a ∈ x.2, a.any (badB g0 tk) = true) : FertP g tk g0 (r + 1) := fun y hy a ha hb => by
  rw [take_succ' hx] at hy
  rcases List.mem_append.1 hy with hy | hy
  · exact h y hy a ha hb
  · rw [List.mem_singleton.1 hy] at ha; rw [hg a ha] at hb; cases hb
theorem countP_lt' {α : Type} {p q : α → Bool} : ∀ {l : List α}, (∀ x ∈ l, q x = true → p x = true) → (∃ x ∈ l, p x = true ∧ q x = false) → l.countP q < l.countP p
  | [], _, h => by obtain ⟨x, hx, _⟩ := h; cases hx
  | y :: l, h1, h2 => by
    rw [List.countP_cons, List.countP_cons]
    have hle : l.countP q ≤ l.countP p := List.countP_mono_left (fun x hx => h1 x (List.mem_cons_of_mem _ hx))
    obtain ⟨x, hx, h3, h4⟩ := h2
    rcases List.mem_cons.1 hx with rfl | hx
    · rw [h3, h4]; simp; omega
    · have := countP_lt' (fun x hx => h1 x (List.mem_cons_of_mem _ hx)) ⟨x, hx, h3, h4⟩
      have h5 := h1 y List.mem_cons_self
      cases hq : q y with
      | true => rw [h5 hq]; simp; omega
      | false => simp; omega
theorem RndF.set (h : RndF g tk g0 gd ag P) (hx : g[r]? = some x) (hn : gd x.1 = false) (ha : x.2[k]? = some al) (hb : al.any (badB gd tk) = false) : RndF g tk g0 (fun s => if s = x.1 then true else gd s) true Q := by
  have hm := List.mem_of_getElem? hx
  refine ⟨fun s hs => ?_, fun _ => ?_, fun e => (by cases e), fun s hs => ?_⟩
  · show (if s = x.1 then true else gd s) = true
    split
    · rfl
    · exact h.le s hs
  · have h1 : g.countP (fun r => !(if r.1 = x.1 then true else gd r.1)) < g.countP (fun r => !gd r.1) := by
      refine countP_lt' (fun y _ hy => ?_) ⟨x, hm, by simp [hn], by simp⟩
      revert hy
      split <;> simp
    refine Nat.lt_of_lt_of_le h1 (List.countP_mono_left (fun y _ hy => ?_))
    cases e : g0 y.1 with
    | true => rw [h.le _ e] at hy; cases hy
    | false => rfl
  · by_cases e : s = x.1
    · subst e
      refine .mk x al hm (List.mem_of_getElem? ha) (fun n hn' ht => ?_)
      have h1 := List.any_eq_false.1 hb n hn'
      unfold badB at h1
      cases hg : gd n with
      | true => exact h.snd n hg
      | false =>
        have h2 : hasB tk n = true := by simpa [hg] using h1
        exact absurd (hasB_true.1 h2) ht
    · rw [if_neg e] at hs; exact h.snd s hs
theorem RndF.mu (h : RndF g tk g0 gd ag P) : g.countP (fun r => !gd r.1) + ag.toNat < g.countP (fun r => !g0 r.1) + 1 := by
  cases ag with
  | true => have := h.dec rfl; simp; omega
  | false => obtain ⟨e, _⟩ := h.same rfl; subst e; simp
theorem RndF.closed (h : RndF g tk g0 gd ag (FertP g tk g0 r)) (ha : ag = false) (hr : g.length ≤ r) : FertC g tk gd := fun y hy a hal hb => by
  obtain ⟨e, h5⟩ := h.same ha
  subst e
  exact h5 y (by rw [List.take_of_length_le hr]; exact hy) a hal hb
theorem fert_iff (hs : ∀ s, gd s = true → Fert g tk s) (hc : FertC g tk gd) : ∀ s, gd s = true ↔ Fert g tk s := fun s => by
  refine ⟨hs s, fun h => ?_⟩
  induction h with
  | mk r a h1 h2 _ ih =>
    refine hc r h1 a h2 (List.any_eq_false.2 (fun n hn => ?_))
    unfold badB
    by_cases ht : n ∈ tk
    · rw [hasB_true.2 ht]; simp
    · rw [ih n hn ht]; simp
end
abbrev sT13 := fun bk10 bk2 => ([(4, (.fn (.func 77) [(.v (.pointer (some (⟨bk10, 0, none⟩ : Addr)))), (.v (.pointer (some (⟨bk2, 0, none⟩ : Addr))))])), (3, (.v (.pointer (some (⟨bk10, 0, none⟩ : Addr))))), (1, (.v (.pointer (some (⟨bk2, 0, none⟩ : Addr)))))] : List (Nat × SV))
abbrev sT14 := fun bk2 => ([(5, (bB true)), (4, (.fn (.func 77) [(.p 2 0), (.v (.pointer (some (⟨bk2, 0, none⟩ : Addr))))])), (3, (.p 2 0)), (1, (.v (.pointer (some (⟨bk2, 0, none⟩ : Addr)))))] : List (Nat × SV))
abbrev sT15 := fun bk => ([(0, (.cells 64 [(.v (.pointer (some (⟨bk, 0, none⟩ : Addr))))]))] : List (Nat × OB))
theorem fertileP_ok {w : World} {G : Heap} (hG : Has w G) {bk : Nat} {A : Option Addr} {n c m1 m2 : Nat} {g : List Rule} {tk : List ByteArray} (hB : Book G bk A n c m1 m2 g tk) :
    Calls Try.prog 43 #[.pointer (some ⟨bk, 0, none⟩)] w (Ret w G fun v G' => ∃ mg gd, v = .map (some mg) ∧ G mg = none ∧ MapF G' mg strE (goodF gd) ∧ ∀ s, gd s = true ↔ Fert g tk s) := by
 refine enter [(.v (.pointer (some (⟨bk, 0, none⟩ : Addr))))] 44 Try.func43 rfl rfl rfl rfl hG ?_; refine WC_seq (WC_region (WL_execK htb 2 ⟨[(1, (.p 0 0))], (sT15 bk), 1, [], []⟩ ?_)); refine WL_nil (WQ_code (WC_seq (WC_region (WL_execK htb 3 ⟨[(3, (.p 2 0)), (1, (.p 0 0))], (2, (.cells 45 [(.m 1)])) :: (1, (.raw (.map #[] 0))) :: (sT15 bk), 3, [], []⟩ ?_)))); refine WL_nil (WQ_code (WC_seq (WC_region (WL_execK htb 2 ⟨[(4, (.fn (.func 77) [(.p 2 0), (.p 0 0)])), (3, (.p 2 0)), (1, (.p 0 0))], (2, (.cells 45 [(.m 1)])) :: (1, (.raw (.map #[] 0))) :: (sT15 bk), 3, [], []⟩ ?_)))); refine WL_nil (WQ_code (WC_seq (WC_seq (WC_region (WL_execK htb 1 ⟨[(5, (bB true)), (4, (.fn (.func 77) [(.p 2 0), (.p 0 0)])), (3, (.p 2 0)), (1, (.p 0 0))], (2, (.cells 45 [(.m 1)])) :: (1, (.raw (.map #[] 0))) :: (sT15 bk), 3, [], []⟩ ?_))))); refine WL_nil (WQ_code (WC_block (WK_freezeVN 0 rfl rfl rfl rfl ?_))); intro bk2 G1 hle4 hnew3 hbk2; show WK _ _ ⟨(sT14 bk2), [(2, (.cells 45 [(.m 1)])), (1, (.raw (.map #[] 0)))], 3, [], []⟩ _; replace hB := hB.mono hle4; refine WK_freezeVN 1 rfl rfl rfl rfl ?_; intro bk6 G5 hle8 hnew7 hbk6; show WK _ _ ⟨(sT14 bk2), [(2, (.cells 45 [(.v (.map (some bk6)))]))], 3, [], []⟩ _; refine WK_freezeVN 2 rfl rfl rfl rfl ?_; intro bk10 G9 hle12 hnew11 hbk10; show WK _ _ ⟨(5, (bB true)) :: (sT13 bk10 bk2), [], 3, [], []⟩ _; obtain ⟨Gb, hxb, hleb, hmn, hcgb, hq1⟩ := fert_base hle8 hnew7 hbk6 hle12 hnew11 hbk10; have hnew0 := none_of hle4 hnew7; replace hB := hB.mono hxb; have hle0 := Le.trans hle4 hxb; have hcg : At Gb ⟨bk10, 0, none⟩ [.map (some bk6)] := At.of_block hcgb; have hcb : At Gb ⟨bk2, 0, none⟩ [.pointer (some ⟨bk, 0, none⟩)] := At.of_block (hxb _ _ hbk2); have hM : MapF G9 bk6 strE (goodF (fun _ => false)) := MapF.empty hq1; have hslg := hB.sl.len'; refine WK_keep [5, 4, 3, 1] [] rfl rfl ?_; refine WC_loop (ι := Bool × (ByteArray → Bool)) (fun (ag, g0) G13 => Le Gb G13 ∧ MapF G13 bk6 strE (goodF g0) ∧ (∀ s, g0 s = true → Fert g tk s) ∧ (ag = false → FertC g tk g0)) (fun (ag, g0) => ⟨(5, (bB ag)) :: (sT13 bk10 bk2), [], 3, [], []⟩) (fun (ag, g0) => g.countP (fun r => !g0 r.1) + ag.toNat) (true, (fun _ => false)) ⟨hleb, hM, (fun s h => by cases h), (fun h => by cases h)⟩ rfl ?_; rintro ⟨ag, g0⟩ G13 hF; show WC _ _ _ _ _ ⟨(5, (bB ag)) :: (sT13 bk10 bk2), [], 3, [], []⟩ _; obtain ⟨hleb, hM, hS, hcl⟩ := hF; refine WC_seq (WC_seq (WC_region (WL_execK htb 1 ⟨(12, (bB ag)) :: (sT13 bk10 bk2), [], 3, [], []⟩ ?_))); refine WL_nil (WQ_code (WC_cond (b := ag) rfl (fun hag => ?_) (fun hag => ?_)))
 ·
  skip
  subst hag; refine WC_skip (WQ_code (WC_block (WC_seq (WC_region (WL_execK htb 1 ⟨(5, (bB false)) :: (sT13 bk10 bk2), [], 3, [], []⟩ ?_))))); refine WL_nil (WQ_code (WC_seq (WC_region (WL_op (WOp_ld htb (⟨bk2, 0, none⟩ : Addr) false 1 [.pointer (some (⟨bk, 0, none⟩ : Addr))] (by kernel_rfl) (hcb.mono hleb) rfl (by decide) ?_))))); refine WL_execK htb 3 ⟨(16, (.v (.pointer (some (((⟨bk, 0, none⟩ : Addr).add 0).add 0))))) :: (5, (bB false)) :: (sT13 bk10 bk2), [], 3, [], []⟩ ?_; refine WL_op (WOp_ld htb (((⟨bk, 0, none⟩ : Addr).add 0).add 0) false 1 [.slice A n c] (by kernel_rfl) (((hB.at'.field 0 rfl).field 0 rfl).mono hleb) rfl (by decide) ?_); refine WL_execK htb 2 ⟨(19, (iI 0)) :: (18, (iN n)) :: (17, (sS A n c)) :: (5, (bB false)) :: (sT13 bk10 bk2), [], 3, [], []⟩ ?_; refine WL_nil (WQ_code (WC_block (WK_keep [19, 18, 17, 5, 4, 3, 1] [] rfl rfl ?_))); refine WK_env ((19, (iN 0)) :: (18, (iN n)) :: (17, (sS A n c)) :: (5, (bB false)) :: (sT13 bk10 bk2)) (fun ρ => ⟨rfl, rfl, ⟨rfl, rfl, ⟨rfl, rfl, ⟨rfl, rfl, ⟨rfl, rfl, ⟨rfl, rfl, ⟨rfl, rfl, trivial⟩⟩⟩⟩⟩⟩⟩) ?_; refine WC_loop (ι := Nat × Bool × (ByteArray → Bool)) (fun (r, ag1, g1) G14 => r ≤ n ∧ Le Gb G14 ∧ MapF G14 bk6 strE (goodF g1) ∧ RndF g tk g0 g1 ag1 (FertP g tk g0 r)) (fun (r, ag1, g1) => ⟨(19, (iN r)) :: (18, (iN n)) :: (17, (sS A n c)) :: (5, (bB ag1)) :: (sT13 bk10 bk2), [], 3, [], []⟩) (fun (r, ag1, g1) => n - r) (0, false, g0) ⟨Nat.zero_le _, hleb, hM, RndF.start hS FertP_zero⟩ rfl ?_; rintro ⟨r, ag1, g1⟩ G14 hF; show WC _ _ _ _ _ ⟨(19, (iN r)) :: (18, (iN n)) :: (17, (sS A n c)) :: (5, (bB ag1)) :: (sT13 bk10 bk2), [], 3, [], []⟩ _; obtain ⟨hr, hleb, hM1, hR1⟩ := hF; refine WC_seq (WC_region (WL_execK htb 1 ⟨(20, (bB (decide ((((r : Nat) : Int) : Int) < ((n : Nat) : Int))))) :: (19, (iN r)) :: (18, (iN n)) :: (17, (sS A n c)) :: (5, (bB ag1)) :: (sT13 bk10 bk2), [], 3, [], []⟩ ?_)); refine WL_nil (WQ_code (WC_seq (WC_cond (b := (decide ((((r : Nat) : Int) : Int) < ((n : Nat) : Int)))) rfl (fun hc1 => ?_) (fun hc1 => ?_))))
  ·
   replace hc1 := of_decide_eq_true hc1; refine WC_skip (WQ_code (WC_seq (WC_block (WC_seq (WC_region ?_))))); obtain ⟨q15, rfl⟩ := hB.sl.ptr (by omega); obtain ⟨⟨x18, x20⟩, _, hx16, ⟨_, _, rfl, ⟨rfl, hn19⟩, hr21⟩, at17⟩ := hB.sl.get r (by omega); obtain ⟨A23, n24, c25, rfl, hs22⟩ := Sl.of hr21; replace hs22 : Sl (tSlice tStr) _ A23 n24 c25 x20 := hs22; have lhs22 := hs22.len'; replace at17 : At Gb (q15.add (r * 2)) [.string x18, .slice A23 n24 c25] := at17; refine WL_op (WOp_idx htb q15 n ((r : Nat) : Int) 2 (by kernel_rfl) (by omega) (by omega) ?_); refine WL_op (WOp_ld htb (q15.add (r * 2)) true 2 [.string x18, .slice A23 n24 c25] (by kernel_rfl) (at17.mono hleb) rfl (by decide) ?_); refine WL_execK htb 2 ⟨(7, (.p 3 0)) :: (19, (iN r)) :: (18, (iN n)) :: (17, (sS (some q15) n c)) :: (5, (bB ag1)) :: (sT13 bk10 bk2), [(3, (.cells 34 [(tS x18), (sS A23 n24 c25)]))], 4, [], []⟩ ?_; refine WL_nil (WQ_code (WC_seq (WC_seq (WC_region (WL_op (WOp_ld htb (⟨bk10, 0, none⟩ : Addr) false 1 [.map (some bk6)] (by kernel_rfl) (hcg.mono hleb) rfl (by decide) ?_)))))); refine WL_execK htb 2 ⟨(25, (tS x18)) :: (23, (.v (.map (some bk6)))) :: (7, (.p 3 0)) :: (19, (iN r)) :: (18, (iN n)) :: (17, (sS (some q15) n c)) :: (5, (bB ag1)) :: (sT13 bk10 bk2), [(3, (.cells 34 [(tS x18), (sS A23 n24 c25)]))], 4, [], []⟩ ?_; refine WL_op (WOp_look htb bk6 (tS x18) false 9 (.bool false) (by kernel_rfl) (keyEnc_str (kt := 9) (by kernel_rfl)) x18 (fun ρ => rfl) hM1 (v := (.bool (g1 x18))) (goodF_get g1 x18) (is := ((goodF g1 x18).isSome)) rfl ?_); show WL _ _ _ _ _ _ ⟨(26, (bB (g1 x18))) :: (25, (tS x18)) :: (23, (.v (.map (some bk6)))) :: (7, (.p 3 0)) :: (19, (iN r)) :: (18, (iN n)) :: (17, (sS (some q15) n c)) :: (5, (bB ag1)) :: (sT13 bk10 bk2), [(3, (.cells 34 [(tS x18), (sS A23 n24 c25)]))], 4, [], []⟩ _; refine WL_nil (WQ_code (WC_cond (b := (g1 x18)) rfl (fun hgd => ?_) (fun hgd => ?_)))
   ·
    skip
    refine WC_exit (WQ_then_exit (WQ_hit (WQ_code (WC_region (WL_execK htb 2 ⟨(19, (iI (IntKind.i64.wrap (((r : Nat) : Int) + 1)))) :: (18, (iN n)) :: (17, (sS (some q15) n c)) :: (5, (bB ag1)) :: (sT13 bk10 bk2), [], 4, [], []⟩ ?_))))); refine WL_nil (WK_env ((19, (iN (r + 1))) :: (18, (iN n)) :: (17, (sS (some q15) n c)) :: (5, (bB ag1)) :: (sT13 bk10 bk2)) (fun ρ => ⟨rfl, (congrArg (Value.int .i64) (by rw [wrap_id (by omega)]; first | rfl | omega)), ⟨rfl, rfl, ⟨rfl, rfl, ⟨rfl, rfl, ⟨rfl, rfl, ⟨rfl, rfl, ⟨rfl, rfl, trivial⟩⟩⟩⟩⟩⟩⟩) ?_); refine WK_keep [19, 18, 17, 5, 4, 3, 1] [] rfl rfl ?_; exact WQ_next ((r + 1), ag1, g1) (by show n - (r + 1) < n - r; omega) ⟨by omega, hleb, hM1, hR1.imp2 (fun e h => FertP_had hx16 h (by rw [← e]; exact hgd))⟩ (fun ρ a w h => h)
   ·
    skip
    refine WC_skip (WQ_code (WC_seq (WC_region (WL_execK htb 4 ⟨(30, (iI 0)) :: (29, (iN n24)) :: (28, (sS A23 n24 c25)) :: (7, (.p 3 0)) :: (19, (iN r)) :: (18, (iN n)) :: (17, (sS (some q15) n c)) :: (5, (bB ag1)) :: (sT13 bk10 bk2), [(3, (.cells 34 [(tS x18), (sS A23 n24 c25)]))], 4, [], []⟩ ?_)))); refine WL_nil (WQ_code (WC_block (WK_keep [30, 29, 28, 7, 19, 18, 17, 5, 4, 3, 1] [3] rfl rfl ?_))); refine WK_env ((30, (iN 0)) :: (29, (iN n24)) :: (28, (sS A23 n24 c25)) :: (7, (.p 3 0)) :: (19, (iN r)) :: (18, (iN n)) :: (17, (sS (some q15) n c)) :: (5, (bB ag1)) :: (sT13 bk10 bk2)) (fun ρ => ⟨rfl, rfl, ⟨rfl, rfl, ⟨rfl, rfl, ⟨rfl, rfl, ⟨rfl, rfl, ⟨rfl, rfl, ⟨rfl, rfl, ⟨rfl, rfl, ⟨rfl, rfl, ⟨rfl, rfl, ⟨rfl, rfl, trivial⟩⟩⟩⟩⟩⟩⟩⟩⟩⟩⟩) ?_; refine WC_loop (ι := Nat) (fun k G26 => k ≤ n24 ∧ Le Gb G26 ∧ MapF G26 bk6 strE (goodF g1) ∧ ∀ a ∈ x20.take k, a.any (badB g1 tk) = true) (fun k => ⟨(30, (iN k)) :: (29, (iN n24)) :: (28, (sS A23 n24 c25)) :: (7, (.p 3 0)) :: (19, (iN r)) :: (18, (iN n)) :: (17, (sS (some q15) n c)) :: (5, (bB ag1)) :: (sT13 bk10 bk2), [(3, (.cells 34 [(tS x18), (sS A23 n24 c25)]))], 4, [], []⟩) (fun k => n24 - k) (0) ⟨Nat.zero_le _, hleb, hM1, by simp⟩ rfl ?_; rintro k G26 hF; show WC _ _ _ _ _ ⟨(30, (iN k)) :: (29, (iN n24)) :: (28, (sS A23 n24 c25)) :: (7, (.p 3 0)) :: (19, (iN r)) :: (18, (iN n)) :: (17, (sS (some q15) n c)) :: (5, (bB ag1)) :: (sT13 bk10 bk2), [(3, (.cells 34 [(tS x18), (sS A23 n24 c25)]))], 4, [], []⟩ _; obtain ⟨hk, hleb, hM2, hal⟩ := hF; refine WC_seq (WC_region (WL_execK htb 1 ⟨(31, (bB (decide ((((k : Nat) : Int) : Int) < ((n24 : Nat) : Int))))) :: (30, (iN k)) :: (29, (iN n24)) :: (28, (sS A23 n24 c25)) :: (7, (.p 3 0)) :: (19, (iN r)) :: (18, (iN n)) :: (17, (sS (some q15) n c)) :: (5, (bB ag1)) :: (sT13 bk10 bk2), [(3, (.cells 34 [(tS x18), (sS A23 n24 c25)]))], 4, [], []⟩ ?_)); refine WL_nil (WQ_code (WC_seq (WC_cond (b := (decide ((((k : Nat) : Int) : Int) < ((n24 : Nat) : Int)))) rfl (fun hc2 => ?_) (fun hc2 => ?_))))
    ·
     replace hc2 := of_decide_eq_true hc2; refine WC_skip (WQ_code (WC_seq (WC_block (WC_seq (WC_region ?_))))); obtain ⟨q27, rfl⟩ := hs22.ptr (by omega); obtain ⟨x30, _, hx28, hr31, at29⟩ := hs22.get k (by omega); obtain ⟨A33, n34, c35, rfl, hs32⟩ := Sl.of hr31; replace hs32 : Sl tStr _ A33 n34 c35 x30 := hs32; have lhs32 := hs32.len'; replace at29 : At Gb (q27.add (k * 1)) [.slice A33 n34 c35] := at29; refine WL_op (WOp_idx htb q27 n24 ((k : Nat) : Int) 1 (by kernel_rfl) (by omega) (by omega) ?_); refine WL_op (WOp_ld htb (q27.add (k * 1)) false 1 [.slice A33 n34 c35] (by kernel_rfl) (at29.mono hleb) rfl (by decide) ?_); refine WL_execK htb 1 ⟨(9, (sS A33 n34 c35)) :: (30, (iN k)) :: (29, (iN n24)) :: (28, (sS (some q27) n24 c25)) :: (7, (.p 3 0)) :: (19, (iN r)) :: (18, (iN n)) :: (17, (sS (some q15) n c)) :: (5, (bB ag1)) :: (sT13 bk10 bk2), [(3, (.cells 34 [(tS x18), (sS (some q27) n24 c25)]))], 4, [], []⟩ ?_; refine WL_nil (WQ_code (WC_seq (WC_region (WL_execK htb 2 ⟨(35, (.fn (.func 77) [(.v (.pointer (some (⟨bk10, 0, none⟩ : Addr)))), (.v (.pointer (some (⟨bk2, 0, none⟩ : Addr))))])) :: (34, (sS A33 n34 c35)) :: (30, (iN k)) :: (29, (iN n24)) :: (28, (sS (some q27) n24 c25)) :: (7, (.p 3 0)) :: (19, (iN r)) :: (18, (iN n)) :: (17, (sS (some q15) n c)) :: (5, (bB ag1)) :: (sT13 bk10 bk2), [(3, (.cells 34 [(tS x18), (sS (some q27) n24 c25)]))], 4, [], []⟩ ?_)))); refine WL_op (WOp_call 78 [(sS A33 n34 c35), (.fn (.func 77) [(.v (.pointer (some (⟨bk10, 0, none⟩ : Addr)))), (.v (.pointer (some (⟨bk2, 0, none⟩ : Addr))))])] (by kernel_rfl) (goes_of Try.func78 rfl rfl) (fun ρ w hW => containsBarren_ok hW.has (hB.mono hleb) (hcg.mono hleb) (hcb.mono hleb) hM2 (hs32.mono hleb)) ?_); intro G701 v hle hΦ; replace hleb := Le.trans hleb hle; replace hM2 := hM2.mono hle; subst hΦ; refine WL_execK htb 1 ⟨(37, (bB (!(x30.any (badB g1 tk))))) :: (30, (iN k)) :: (29, (iN n24)) :: (28, (sS (some q27) n24 c25)) :: (7, (.p 3 0)) :: (19, (iN r)) :: (18, (iN n)) :: (17, (sS (some q15) n c)) :: (5, (bB ag1)) :: (sT13 bk10 bk2), [(3, (.cells 34 [(tS x18), (sS (some q27) n24 c25)]))], 4, [], []⟩ ?_; refine WL_nil (WQ_code (WC_cond (b := (!(x30.any (badB g1 tk)))) rfl (fun hd => ?_) (fun hd => ?_)))
     ·
      rw [Bool.not_eq_true'] at hd; refine WC_seq (WC_region (WL_op (WOp_ld htb (⟨bk10, 0, none⟩ : Addr) false 1 [.map (some bk6)] (by kernel_rfl) (hcg.mono hleb) rfl (by decide) ?_))); refine WL_execK htb 2 ⟨(40, (tS x18)) :: (38, (.v (.map (some bk6)))) :: (19, (iN r)) :: (18, (iN n)) :: (17, (sS (some q15) n c)) :: (sT13 bk10 bk2), [], 4, [], []⟩ ?_; refine WL_op (WOp_mapG htb bk6 (tS x18) (bB true) 9 (by kernel_rfl) (keyEnc_str (kt := 9) (by kernel_rfl)) x18 (fun ρ => rfl) (.bool true) (fun ρ => rfl) hM2 (none_of hle0 hmn) (fun p hp => by cases hp) (fun es clk hM3 => ?_)); rw [goodF_set] at hM3; replace hleb := Le.add' hleb hmn (.map es clk); refine WL_execK htb 1 ⟨(5, (bB true)) :: (19, (iN r)) :: (18, (iN n)) :: (17, (sS (some q15) n c)) :: (sT13 bk10 bk2), [], 4, [], []⟩ ?_; refine WL_nil (WQ_code (WC_exit (WQ_miss (by decide) (WQ_then_exit (WQ_then_exit (WQ_hit (WQ_blk (WQ_code (WC_region (WL_execK htb 2 ⟨(19, (iI (IntKind.i64.wrap (((r : Nat) : Int) + 1)))) :: (5, (bB true)) :: (18, (iN n)) :: (17, (sS (some q15) n c)) :: (sT13 bk10 bk2), [], 4, [], []⟩ ?_)))))))))); refine WL_nil (WK_env ((19, (iN (r + 1))) :: (5, (bB true)) :: (18, (iN n)) :: (17, (sS (some q15) n c)) :: (sT13 bk10 bk2)) (fun ρ => ⟨rfl, (congrArg (Value.int .i64) (by rw [wrap_id (by omega)]; first | rfl | omega)), ⟨rfl, rfl, ⟨rfl, rfl, ⟨rfl, rfl, ⟨rfl, rfl, ⟨rfl, rfl, ⟨rfl, rfl, trivial⟩⟩⟩⟩⟩⟩⟩) ?_); refine WK_keep [19, 18, 17, 5, 4, 3, 1] [] rfl rfl ?_; exact WQ_next ((r + 1), true, (fun x => if x = x18 then true else g1 x)) (by show n - (r + 1) < n - r; omega) ⟨by omega, hleb, hM3, hR1.set hx16 (by simpa using hgd) hx28 (by simpa using hd)⟩ (fun ρ a w h => h)
     ·
      rw [Bool.not_eq_false'] at hd; refine WC_skip (WQ_blk (WQ_code (WC_region (WL_execK htb 2 ⟨(30, (iI (IntKind.i64.wrap (((k : Nat) : Int) + 1)))) :: (29, (iN n24)) :: (28, (sS (some q27) n24 c25)) :: (7, (.p 3 0)) :: (19, (iN r)) :: (18, (iN n)) :: (17, (sS (some q15) n c)) :: (5, (bB ag1)) :: (sT13 bk10 bk2), [(3, (.cells 34 [(tS x18), (sS (some q27) n24 c25)]))], 4, [], []⟩ ?_)))); refine WL_nil (WK_env ((30, (iN (k + 1))) :: (29, (iN n24)) :: (28, (sS (some q27) n24 c25)) :: (7, (.p 3 0)) :: (19, (iN r)) :: (18, (iN n)) :: (17, (sS (some q15) n c)) :: (5, (bB ag1)) :: (sT13 bk10 bk2)) (fun ρ => ⟨rfl, (congrArg (Value.int .i64) (by rw [wrap_id (by omega)]; first | rfl | omega)), ⟨rfl, rfl, ⟨rfl, rfl, ⟨rfl, rfl, ⟨rfl, rfl, ⟨rfl, rfl, ⟨rfl, rfl, ⟨rfl, rfl, ⟨rfl, rfl, ⟨rfl, rfl, ⟨rfl, rfl, trivial⟩⟩⟩⟩⟩⟩⟩⟩⟩⟩⟩) ?_); refine WK_keep [30, 29, 28, 7, 19, 18, 17, 5, 4, 3, 1] [3] rfl rfl ?_; exact WQ_next ((k + 1)) (by show n24 - (k + 1) < n24 - k; omega) ⟨by omega, hleb, hM2, all_step hx28 hal (by simpa using hd)⟩ (fun ρ a w h => h)
    ·
     replace hc2 := of_decide_eq_false hc2; refine WC_exit (WQ_then_exit (WQ_then_exit (WQ_hit (WQ_blk (WQ_code (WC_region (WL_execK htb 2 ⟨(19, (iI (IntKind.i64.wrap (((r : Nat) : Int) + 1)))) :: (18, (iN n)) :: (17, (sS (some q15) n c)) :: (5, (bB ag1)) :: (sT13 bk10 bk2), [], 4, [], []⟩ ?_))))))); refine WL_nil ?_; have hta : x20.take k = x20 := List.take_of_length_le (by omega); rw [hta] at hal; refine WK_env ((19, (iN (r + 1))) :: (18, (iN n)) :: (17, (sS (some q15) n c)) :: (5, (bB ag1)) :: (sT13 bk10 bk2)) (fun ρ => ⟨rfl, (congrArg (Value.int .i64) (by rw [wrap_id (by omega)]; first | rfl | omega)), ⟨rfl, rfl, ⟨rfl, rfl, ⟨rfl, rfl, ⟨rfl, rfl, ⟨rfl, rfl, ⟨rfl, rfl, trivial⟩⟩⟩⟩⟩⟩⟩) ?_; refine WK_keep [19, 18, 17, 5, 4, 3, 1] [] rfl rfl ?_; exact WQ_next ((r + 1), ag1, g1) (by show n - (r + 1) < n - r; omega) ⟨by omega, hleb, hM2, hR1.imp2 (fun e h => FertP_bad hx16 h (by rw [← e]; exact hal))⟩ (fun ρ a w h => h)
  ·
   replace hc1 := of_decide_eq_false hc1; refine WC_exit (WQ_then_exit (WQ_then_exit (WQ_hit (WQ_blk (WK_keep [5, 4, 3, 1] [] rfl rfl ?_))))); exact WQ_next (ag1, g1) (by show g.countP (fun r => !g1 r.1) + ag1.toNat < g.countP (fun r => !g0 r.1) + 1; exact hR1.mu) ⟨hleb, hM1, hR1.snd, fun h => hR1.closed h (by omega)⟩ (fun ρ a w h => h)
 ·
  skip
  subst hag; refine WC_exit (WQ_then_exit (WQ_then_exit (WQ_hit (WQ_code (WC_seq (WC_region (WL_op (WOp_ld htb (⟨bk10, 0, none⟩ : Addr) false 1 [.map (some bk6)] (by kernel_rfl) (hcg.mono hleb) rfl (by decide) ?_)))))))); refine WL_execK htb 1 ⟨[(2, (.v (.map (some bk6))))], [], 3, [], []⟩ ?_; exact WL_nil (WQ_code (WC_ret (WQ_done htb [(.v (.map (some bk6)))] _ (.inl rfl) rfl (by kernel_rfl) (fun ρ w hW => ⟨bk6, g0, rfl, hnew0, hM, fert_iff hS (hcl rfl)⟩))))

end Go.Proofs.Ytfemkbockhpmcaa.Sym
