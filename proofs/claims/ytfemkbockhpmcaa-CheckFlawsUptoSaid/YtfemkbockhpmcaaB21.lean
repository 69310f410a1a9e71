/- Walks of functions that the laws of this seat reach, printed by a program of this session's. -/
import Derived.Test.YtfemkbockhpmcaaB20
set_option linter.unusedSimpArgs false
set_option linter.unusedVariables false
set_option maxHeartbeats 4000000
namespace Go.Proofs.Ytfemkbockhpmcaa.Sym
open Go Go.Proofs Go.RowKit

abbrev NB := List ByteArray
/-- The list of fertile names, as far as it is known. -/
def FOut (g : List Rule) (tk : NB) (o : NB) : Prop := (∀ s ∈ tk, s ∈ o) ∧ (∀ s ∈ o, s ∈ tk ∨ Fert g tk s)
def FertO (g : List Rule) (o : NB) : Prop := ∀ r ∈ g, ∀ a ∈ r.2, (∀ n ∈ a, n ∈ o) → r.1 ∈ o
def cntO (g : List Rule) (o : NB) : Nat := g.countP fun r => hasB o r.1
abbrev allB (o a : NB) : Bool := decide (∀ x ∈ a, hasB o x = true)
theorem allB_iff {o a : NB} : allB o a = true ↔ ∀ n ∈ a, n ∈ o := by
  unfold allB; rw [decide_eq_true_iff]
  exact ⟨fun h n hn => hasB_true.1 (h n hn), fun h n hn => hasB_true.2 (h n hn)⟩
def FPr (g : List Rule) (o : NB) (r : Nat) : Prop := ∀ x ∈ g.take r, ∀ a ∈ x.2, (∀ n ∈ a, n ∈ o) → x.1 ∈ o
def FPk (g : List Rule) (o : NB) (r : Nat) (nm : ByteArray) (al : List NB) (k : Nat) : Prop := FPr g o r ∧ ∀ a ∈ al.take k, (∀ n ∈ a, n ∈ o) → nm ∈ o
structure RndO (g : List Rule) (tk : NB) (o0 o : NB) (P : Prop) : Prop where
  snd : FOut g tk o
  sub : ∀ s ∈ o0, s ∈ o
  way : (o = o0 ∧ P) ∨ (cntO g o0 < cntO g o ∧ ¬ FertO g o0)
section
variable {g : List Rule} {tk o0 o : NB} {P Q : Prop} {r k : Nat} {nm : ByteArray} {al : List NB} {a : NB}
theorem mem_hasB {l : NB} {x : ByteArray} : hasB l x = true ↔ x ∈ l := hasB_true
theorem FOut.start : FOut g tk ([] ++ tk) := ⟨fun s h => by simpa using h, fun s h => .inl (by simpa using h)⟩
theorem RndO.start (h : FOut g tk o0) (hp : P) : RndO g tk o0 o0 P := ⟨h, fun s h => h, .inl ⟨rfl, hp⟩⟩
theorem RndO.imp (h : RndO g tk o0 o P) (f : P → Q) : RndO g tk o0 o Q := ⟨h.snd, h.sub, h.way.imp (fun h => ⟨h.1, f h.2⟩) (fun h => h)⟩
theorem RndO.imp2 (h : RndO g tk o0 o P) (f : o = o0 → P → Q) : RndO g tk o0 o Q := ⟨h.snd, h.sub, h.way.imp (fun h => ⟨h.1, f h.1 h.2⟩) (fun h => h)⟩
theorem FPr_zero : FPr g o 0 := fun x h => by simp at h
theorem FPk_zero (h : FPr g o r) : FPk g o r nm al 0 := ⟨h, fun a h => by simp at h⟩
theorem FPk_had {b : Bool} (hy : al[k]? = some a) (hR : b = hasB o nm) (hb : b = true) (e : o = o0) (h : FPk g o0 r nm al k) : FPk g o0 r nm al (k + 1) := ⟨h.1, fun x hx hn => by
  subst e
  rw [hR] at hb; exact mem_hasB.1 hb⟩
theorem FPk_not {b : Bool} (hy : al[k]? = some a) (hR : b = allB o a) (hb : b = false) (e : o = o0) (h : FPk g o0 r nm al k) : FPk g o0 r nm al (k + 1) := ⟨h.1, fun x hx hn => by
  subst e
  rw [take_succ' hy] at hx
  rcases List.mem_append.1 hx with hx | hx
  · exact h.2 x hx hn
  · rw [List.mem_singleton.1 hx] at hn
    rw [hR] at hb
    exact absurd (allB_iff.2 hn) (by rw [hb]; simp)⟩
theorem FPr_step (hx : g[r]? = some (nm, al)) (hk : al.length ≤ k) (h : FPk g o r nm al k) : FPr g o (r + 1) := fun x hm a ha hn => by
  rw [take_succ' hx] at hm
  rcases List.mem_append.1 hm with hm | hm
  · exact h.1 x hm a ha hn
  · rw [List.mem_singleton.1 hm] at ha ⊢
    exact h.2 a (by rw [List.take_of_length_le hk]; exact ha) hn
theorem cnt_mono (h : ∀ s ∈ o0, s ∈ o) : cntO g o0 ≤ cntO g o := by
  unfold cntO
  exact List.countP_mono_left fun x _ hx => mem_hasB.2 (h _ (mem_hasB.1 hx))
theorem RndO.add {b c : Bool} (h : RndO g tk o0 o P) (hx : g[r]? = some (nm, al)) (hy : al[k]? = some a) (hA : b = allB o a) (hb : b = true) (hH : c = hasB o nm) (hc : c = false) : RndO g tk o0 (o ++ [nm]) Q := by
  have hall : ∀ n ∈ a, n ∈ o := allB_iff.1 (hA.symm.trans hb)
  have hnot : nm ∉ o := fun hm => by have := mem_hasB.2 hm; rw [← hH, hc] at this; cases this
  have hgx := List.mem_of_getElem? hx
  refine ⟨⟨fun s hs => List.mem_append_left _ (h.snd.1 s hs), fun s hs => ?_⟩, fun s hs => List.mem_append_left _ (h.sub s hs), .inr ⟨?_, ?_⟩⟩
  · rcases List.mem_append.1 hs with hs | hs
    · exact h.snd.2 s hs
    · rw [List.mem_singleton.1 hs]
      exact .inr (Fert.mk (nm, al) a hgx (List.mem_of_getElem? hy) fun n hn hk => (h.snd.2 n (hall n hn)).resolve_left hk)
  · have h1 : cntO g o < cntO g (o ++ [nm]) := by
      unfold cntO
      refine countP_lt2 (fun x _ hh => ?_) ⟨(nm, al), hgx, ?_, ?_⟩ <;> first | skip
      · exact mem_hasB.2 (List.mem_append_left _ (mem_hasB.1 hh))
      · exact mem_hasB.2 (by simp)
      · cases e : hasB o nm with
        | false => rfl
        | true => exact absurd (mem_hasB.1 e) hnot
    have h2 := cnt_mono (g := g) h.sub
    omega
  · rcases h.way with ⟨e, _⟩ | ⟨_, h3⟩
    · subst e
      exact fun hf => hnot (hf (nm, al) hgx a (List.mem_of_getElem? hy) hall)
    · exact h3
theorem RndO.next {t : Nat} (h : RndO g tk o0 o (FPr g o0 r)) (hr : g.length ≤ r) (h0 : FertO g o0 ∨ t ≤ cntO g o0) : FOut g tk o ∧ (FertO g o ∨ t + 1 ≤ cntO g o) := by
  refine ⟨h.snd, ?_⟩
  rcases h.way with ⟨e, hp⟩ | ⟨h1, h2⟩
  · subst e
    left
    intro x hx a ha hn
    exact hp x (by rw [List.take_of_length_le hr]; exact hx) a ha hn
  · rcases h0 with h0 | h0
    · exact absurd h0 h2
    · exact .inr (by omega)
theorem fertO_iff {t : Nat} (h : FOut g tk o) (h0 : FertO g o ∨ t ≤ cntO g o) (ht : g.length ≤ t) : ∀ s, s ∈ o ↔ s ∈ tk ∨ Fert g tk s := by
  have hf : FertO g o := by
    rcases h0 with h0 | h0
    · exact h0
    · intro x hx a ha hn
      have h1 : cntO g o = g.length := Nat.le_antisymm List.countP_le_length (by omega)
      exact mem_hasB.1 (List.countP_eq_length.1 h1 x hx)
  intro s
  refine ⟨h.2 s, fun hs => ?_⟩
  rcases hs with hs | hs
  · exact h.1 s hs
  · induction hs with
    | mk r a h1 h2 _ ih =>
      refine hf r h1 a h2 fun n hn => ?_
      by_cases hk : n ∈ tk
      · exact h.1 n hk
      · exact ih n hn hk
end
/-- The list of names led to, as far as it is known: out is what it was when place i was come to. -/
structure LedW (g : List Rule) (n0 : ByteArray) (i : Nat) (out o : NB) (P : Prop) : Prop where
  nd : o.Nodup
  sub : ∀ x ∈ o, x ∈ n0 :: allNames g
  snd : ∀ x ∈ o, Led g x
  fst : n0 ∈ o
  pre : out <+: o
  clo : ∀ (j : Nat) (n : ByteArray), j < i → out[j]? = some n → ∀ m ∈ succL g n, m ∈ o
  p : P
def LPr (g : List Rule) (cr : ByteArray) (r : Nat) (o : NB) : Prop := ∀ x ∈ g.take r, x.1 = cr → ∀ m ∈ x.2.flatten, m ∈ o
def LPk (g : List Rule) (cr : ByteArray) (r : Nat) (al : List NB) (k : Nat) (o : NB) : Prop := LPr g cr r o ∧ ∀ a ∈ al.take k, ∀ m ∈ a, m ∈ o
def LPl (g : List Rule) (cr : ByteArray) (r : Nat) (al : List NB) (k : Nat) (a : NB) (l : Nat) (o : NB) : Prop := LPk g cr r al k o ∧ ∀ m ∈ a.take l, m ∈ o
section
variable {g : List Rule} {n0 cr nm nn : ByteArray} {i r k l : Nat} {out o : NB} {P Q : Prop} {al : List NB} {a : NB}
theorem LedW.start {r : Rule} (h : g[0]? = some r) : LedW g r.1 0 [r.1] [r.1] True :=
  ⟨by simp, fun x hx => by rw [List.mem_singleton.1 hx]; exact List.mem_cons_self, fun x hx => by rw [List.mem_singleton.1 hx]; exact Led.first r h, by simp, List.prefix_refl _, fun j n hj => by omega, trivial⟩
theorem LedW.imp (h : LedW g n0 i out o P) (f : P → Q) : LedW g n0 i out o Q := ⟨h.nd, h.sub, h.snd, h.fst, h.pre, h.clo, f h.p⟩
theorem LedW.at (h : LedW g n0 i out o P) {j : Nat} {x : ByteArray} (hx : out[j]? = some x) : o[j]? = some x := by
  obtain ⟨t, rfl⟩ := h.pre
  rw [List.getElem?_append_left (List.getElem?_eq_some_iff.1 hx).1]; exact hx
theorem LPr_zero : LPr g cr 0 o := fun x h => by simp at h
theorem LPr_no {al : List NB} (hx : g[r]? = some (nm, al)) (hn : nm ≠ cr) (h : LPr g cr r o) : LPr g cr (r + 1) o := fun x hm e => by
  rw [take_succ' hx] at hm
  rcases List.mem_append.1 hm with hm | hm
  · exact h x hm e
  · rw [List.mem_singleton.1 hm] at e; exact absurd e hn
theorem LPk_zero (h : LPr g cr r o) : LPk g cr r al 0 o := ⟨h, fun a h => by simp at h⟩
theorem LPl_zero (h : LPk g cr r al k o) : LPl g cr r al k a 0 o := ⟨h, fun a h => by simp at h⟩
theorem LPl_had (hz : a[l]? = some nn) (hm : nn ∈ o) (h : LPl g cr r al k a l o) : LPl g cr r al k a (l + 1) o := ⟨h.1, fun m hh => by
  rw [take_succ' hz] at hh
  rcases List.mem_append.1 hh with hh | hh
  · exact h.2 m hh
  · rw [List.mem_singleton.1 hh]; exact hm⟩
theorem LPk_step (hy : al[k]? = some a) (hl : a.length ≤ l) (h : LPl g cr r al k a l o) : LPk g cr r al (k + 1) o := ⟨h.1.1, fun x hx => by
  rw [take_succ' hy] at hx
  rcases List.mem_append.1 hx with hx | hx
  · exact h.1.2 x hx
  · rw [List.mem_singleton.1 hx]
    have := h.2; rw [List.take_of_length_le hl] at this; exact this⟩
theorem LPr_step (hx : g[r]? = some (nm, al)) (hk : al.length ≤ k) (h : LPk g cr r al k o) : LPr g cr (r + 1) o := fun x hm e m hh => by
  rw [take_succ' hx] at hm
  rcases List.mem_append.1 hm with hm | hm
  · exact h.1 x hm e m hh
  · rw [List.mem_singleton.1 hm] at hh
    obtain ⟨a, ha, hma⟩ := List.mem_flatten.1 hh
    exact h.2 a (by rw [List.take_of_length_le hk]; exact ha) m hma
theorem LedW.add (h : LedW g n0 i out o (LPl g cr r al k a l o)) (hc : out[i]? = some cr) (hx : g[r]? = some (cr, al)) (hy : al[k]? = some a) (hz : a[l]? = some nn) (hnew : nn ∉ o) : LedW g n0 i out (o ++ [nn]) (LPl g cr r al k a (l + 1) (o ++ [nn])) := by
  have hup : ∀ s ∈ o, s ∈ o ++ [nn] := fun s hs => List.mem_append_left _ hs
  have hcr : Led g cr := h.snd cr (List.mem_of_getElem? (h.at hc))
  have hsu : nn ∈ succL g cr := by
    unfold succL
    rw [List.mem_flatMap]
    refine ⟨(cr, al), List.mem_of_getElem? hx, ?_⟩
    rw [if_pos rfl]
    exact List.mem_flatten.2 ⟨a, List.mem_of_getElem? hy, List.mem_of_getElem? hz⟩
  refine ⟨?_, fun x hm => ?_, fun x hm => ?_, hup _ h.fst, h.pre.trans (List.prefix_append _ _), fun j n hj hn m hm => hup _ (h.clo j n hj hn m hm), ⟨⟨fun x hm e m hh => hup _ (h.p.1.1 x hm e m hh), fun x hm m hh => hup _ (h.p.1.2 x hm m hh)⟩, fun m hm => ?_⟩⟩
  · rw [List.nodup_append]
    refine ⟨h.nd, by simp, fun x hx y hy e => ?_⟩
    rw [List.mem_singleton] at hy; subst hy; subst e; exact hnew hx
  · rcases List.mem_append.1 hm with hm | hm
    · exact h.sub x hm
    · rw [List.mem_singleton.1 hm]; exact List.mem_cons_of_mem _ (succL_sub hsu)
  · rcases List.mem_append.1 hm with hm | hm
    · exact h.snd x hm
    · rw [List.mem_singleton.1 hm]; exact Led.step cr nn hcr hsu
  · rw [take_succ' hz] at hm
    rcases List.mem_append.1 hm with hm | hm
    · exact hup _ (h.p.2 m hm)
    · exact List.mem_append_right _ hm
theorem LedW.next (h : LedW g n0 i out o (LPr g cr r o)) (hc : out[i]? = some cr) (hr : g.length ≤ r) : LedW g n0 (i + 1) o o True := by
  refine ⟨h.nd, h.sub, h.snd, h.fst, List.prefix_refl _, fun j n hj hn m hm => ?_, trivial⟩
  obtain ⟨t, ht⟩ := h.pre
  by_cases e : j = i
  · subst e
    rw [h.at hc] at hn; injection hn with hn; subst hn
    unfold succL at hm
    obtain ⟨x, hx, hh⟩ := List.mem_flatMap.1 hm
    by_cases e2 : x.1 = cr
    · rw [if_pos e2] at hh
      exact h.p x (by rw [List.take_of_length_le hr]; exact hx) e2 m hh
    · rw [if_neg e2] at hh; cases hh
  · have hi := (List.getElem?_eq_some_iff.1 hc).1
    rw [← ht, List.getElem?_append_left (by omega)] at hn
    exact h.clo j n (by omega) hn m hm
theorem LedW.iff {r : Rule} (hr : g[0]? = some r) (h : LedW g r.1 i o o True) (hi : o.length ≤ i) : ∀ s, s ∈ o ↔ Led g s := fun s => by
  refine ⟨h.snd s, fun hs => ?_⟩
  induction hs with
  | first x hx => rw [hr] at hx; injection hx with hx; subst hx; exact h.fst
  | step n m _ hm ih =>
    obtain ⟨j, hj⟩ := List.getElem?_of_mem ih
    exact h.clo j n (by have := (List.getElem?_eq_some_iff.1 hj).1; omega) hj m hm
end
theorem lay_false {w : World} {G : Heap} (hG : Has w G) {b n cap : Nat} {z : Bool} {arr : Array Value} {xs : List (Int × ByteArray)} (hw : z = false → w.heap[b]? = some (.cells arr 31 (0, 0)) ∧ G b = none) (ho : OwnL (tPair (tInt .i64) tStr) G xs arr cap) (hzz : z = true → xs = []) (hn : n = xs.length)
    {kind : Int} {name : ByteArray} (h_kind : -9223372036854775808 ≤ kind ∧ kind ≤ 9223372036854775807) (h_name : name.size ≤ big) (hx : xs.length ≤ 1000000000000) (hz0 : z = false) :
    Calls Try.prog 66 #[nilOr z (.slice (some ⟨b, 0, none⟩) n cap), .int .i64 kind, .string name] w (RetT w G (fun i => z = false ∧ i = b) (tPair (tInt .i64) tStr) 31 fun ys => ys = layS xs (kind, name)) := by
 subst hz0
 refine enterT [(.ls false 0 n cap), (iI kind), (tS name)] 33 Try.func66 rfl rfl rfl rfl hG hw ?_
 refine WC_seq (WC_region ?_)
 refine WL_execS htb 1 [0, 1, 2] [0] ⟨[(0, (.ls false 0 n cap)), (1, (iI kind)), (2, (tS name))], [(0, (.lst false 31 arr))], 1, [], []⟩ (by kernel_rfl) ?_
 refine WL_nil ?_
 refine WQ_code ?_
 refine WC_seq ?_
 refine WC_seq (WC_region ?_)
 refine WL_execS htb 3 [11, 10, 9, 0, 1, 2] [0] ⟨[(11, (iI 0)), (10, (iN n)), (9, (.ls false 0 n cap)), (0, (.ls false 0 n cap)), (1, (iI kind)), (2, (tS name))], [(0, (.lst false 31 arr))], 1, [], []⟩ (by kernel_rfl) ?_
 refine WL_nil ?_
 refine WQ_code ?_
 refine WC_block ?_
 refine WK_keep [11, 10, 9, 0, 1, 2] [0] rfl rfl ?_
 refine WK_env [(11, (iN 0)), (10, (iN n)), (9, (.ls false 0 n cap)), (0, (.ls false 0 n cap)), (1, (iI kind)), (2, (tS name))] (fun ρ => ⟨rfl, rfl, ⟨rfl, rfl, ⟨rfl, rfl, ⟨rfl, rfl, ⟨rfl, rfl, ⟨rfl, rfl, trivial⟩⟩⟩⟩⟩⟩) ?_
 refine WC_loop (ι := Nat) (fun i G1 => Le G G1 ∧ (i ≤ n ∧ OwnL (tPair (tInt .i64) tStr) G1 xs arr cap ∧ (kind, name) ∉ xs.take i)) (fun i => ⟨[(11, (iN i)), (10, (iN n)), (9, (.ls false 0 n cap)), (0, (.ls false 0 n cap)), (1, (iI kind)), (2, (tS name))], [(0, (.lst false 31 arr))], 1, [], []⟩) (fun i => n - i) (0) ⟨Le.refl _, ⟨Nat.zero_le _, ho, by simp⟩⟩ rfl ?_
 rintro i G1 ⟨hle, hF⟩
 show WC _ _ _ _ _ ⟨[(11, (iN i)), (10, (iN n)), (9, (.ls false 0 n cap)), (0, (.ls false 0 n cap)), (1, (iI kind)), (2, (tS name))], [(0, (.lst false 31 arr))], 1, [], []⟩ _
 replace ho := ho.mono hle
 have hc2 := hle
 obtain ⟨hi, ho, hni⟩ := hF
 refine WC_seq (WC_region ?_)
 refine WL_execS htb 1 [12, 11, 10, 9, 0, 1, 2] [0] ⟨[(12, (bB (decide ((((i : Nat) : Int) : Int) < ((n : Nat) : Int))))), (11, (iN i)), (10, (iN n)), (9, (.ls false 0 n cap)), (0, (.ls false 0 n cap)), (1, (iI kind)), (2, (tS name))], [(0, (.lst false 31 arr))], 1, [], []⟩ (by kernel_rfl) ?_
 refine WL_nil ?_
 refine WQ_code ?_
 refine WC_seq ?_
 refine WC_cond (b := (decide ((((i : Nat) : Int) : Int) < ((n : Nat) : Int)))) rfl (fun hc => ?_) (fun hc => ?_)
 ·
  replace hc := of_decide_eq_true hc
  refine WC_skip ?_
  refine WQ_code ?_
  refine WC_seq ?_
  refine WC_block ?_
  refine WC_seq (WC_region ?_)
  refine WL_op (WOp_idxo htb 0 n ((i : Nat) : Int) 2 (by kernel_rfl) (by omega) (by omega) ?_)
  obtain ⟨⟨xk, xn⟩, _, hxi, ⟨_, _, rfl, ⟨rfl, hkb⟩, ⟨rfl, hnb⟩⟩, hat⟩ := ho.getx (i := i) (by omega)
  refine WL_op (WOp_ldo htb 0 (i * 2) true 2 [.int .i64 xk, .string xn] (by kernel_rfl) rfl hat rfl (by decide) ?_)
  refine WL_execS htb 2 [8, 11, 10, 9, 0, 1, 2] [1, 0] ⟨[(8, (.p 1 0)), (11, (iN i)), (10, (iN n)), (9, (.ls false 0 n cap)), (0, (.ls false 0 n cap)), (1, (iI kind)), (2, (tS name))], [(1, (.cells 31 [(iI xk), (tS xn)])), (0, (.lst false 31 arr))], 2, [], []⟩ (by kernel_rfl) ?_
  refine WL_nil ?_
  refine WQ_code ?_
  refine WC_seq (WC_region ?_)
  refine WL_execS htb 5 [19, 8, 11, 10, 9, 0, 1, 2] [1, 0] ⟨[(19, (bB ((xk : Int) == kind))), (8, (.p 1 0)), (11, (iN i)), (10, (iN n)), (9, (.ls false 0 n cap)), (0, (.ls false 0 n cap)), (1, (iI kind)), (2, (tS name))], [(1, (.cells 31 [(iI xk), (tS xn)])), (0, (.lst false 31 arr))], 2, [], []⟩ (by kernel_rfl) ?_
  refine WK_split 19 ((xk : Int) == kind) rfl (fun hk => ?_) (fun hk => ?_)
  ·
   replace hk := eq_of_beq hk
   refine WK_keep [19, 8, 11, 10, 9, 0, 1, 2] [1, 0] rfl rfl ?_
   refine WL_execS htb 5 [24, 11, 10, 9, 0, 1, 2] [0] ⟨[(24, (bB ((xn : ByteArray).toList == (name : ByteArray).toList))), (11, (iN i)), (10, (iN n)), (9, (.ls false 0 n cap)), (0, (.ls false 0 n cap)), (1, (iI kind)), (2, (tS name))], [(0, (.lst false 31 arr))], 2, [], []⟩ (by kernel_rfl) ?_
   refine WL_nil ?_
   refine WQ_code ?_
   refine WC_cond (b := ((xn : ByteArray).toList == (name : ByteArray).toList)) rfl (fun he => ?_) (fun he => ?_)
   ·
    replace he := eq_of_beq he
    refine WC_seq (WC_region ?_)
    refine WL_execS htb 2 [6] [0] ⟨[(6, (.ls false 0 n cap))], [(0, (.lst false 31 arr))], 2, [], []⟩ (by kernel_rfl) ?_
    refine WL_nil ?_
    refine WQ_code ?_
    refine WC_ret ?_
    refine WQ_blk_ret ?_
    refine WQ_then_ret ?_
    refine WQ_then_ret ?_
    refine WQ_blk_ret ?_
    refine WQ_then_ret ?_
    exact WQ_doneT htb _ (.inl rfl) (z := false) (h := 0) (n := n) (xs := xs) rfl (by kernel_rfl) rfl hn (fun h => by cases h) ho (lay_had hxi hk (str_inj he))
   ·
    replace he := ne_of_beq_false he
    refine WC_skip ?_
    refine WQ_blk ?_
    refine WQ_code ?_
    refine WC_region ?_
    refine WL_execS htb 2 [11, 10, 9, 0, 1, 2] [0] ⟨[(11, (iI (IntKind.i64.wrap (((i : Nat) : Int) + 1)))), (10, (iN n)), (9, (.ls false 0 n cap)), (0, (.ls false 0 n cap)), (1, (iI kind)), (2, (tS name))], [(0, (.lst false 31 arr))], 2, [], []⟩ (by kernel_rfl) ?_
    refine WL_nil ?_
    refine WK_env [(11, (iN (i + 1))), (10, (iN n)), (9, (.ls false 0 n cap)), (0, (.ls false 0 n cap)), (1, (iI kind)), (2, (tS name))] (fun ρ => ⟨rfl, (congrArg (Value.int .i64) (by rw [wrap_id (by omega)]; first | rfl | omega)), ⟨rfl, rfl, ⟨rfl, rfl, ⟨rfl, rfl, ⟨rfl, rfl, ⟨rfl, rfl, trivial⟩⟩⟩⟩⟩⟩) ?_
    refine WK_keep [11, 10, 9, 0, 1, 2] [0] rfl rfl ?_
    exact WQ_next ((i + 1)) (by show n - (i + 1) < n - i; omega) ⟨hc2, ⟨by omega, ho, lay_no hni hxi (fun h => he (by rw [h.2]))⟩⟩ (fun ρ a w h => h)
  ·
   replace hk := ne_of_beq_false hk
   refine WK_keep [19, 8, 11, 10, 9, 0, 1, 2] [1, 0] rfl rfl ?_
   refine WL_execS htb 5 [24, 11, 10, 9, 0, 1, 2] [0] ⟨[(24, (bB false)), (11, (iN i)), (10, (iN n)), (9, (.ls false 0 n cap)), (0, (.ls false 0 n cap)), (1, (iI kind)), (2, (tS name))], [(0, (.lst false 31 arr))], 2, [], []⟩ (by kernel_rfl) ?_
   refine WL_nil ?_
   refine WQ_code ?_
   refine WC_cond (b := false) rfl (fun h => by cases h) (fun _ => ?_)
   refine WC_skip ?_
   refine WQ_blk ?_
   refine WQ_code ?_
   refine WC_region ?_
   refine WL_execS htb 2 [11, 10, 9, 0, 1, 2] [0] ⟨[(11, (iI (IntKind.i64.wrap (((i : Nat) : Int) + 1)))), (10, (iN n)), (9, (.ls false 0 n cap)), (0, (.ls false 0 n cap)), (1, (iI kind)), (2, (tS name))], [(0, (.lst false 31 arr))], 2, [], []⟩ (by kernel_rfl) ?_
   refine WL_nil ?_
   refine WK_env [(11, (iN (i + 1))), (10, (iN n)), (9, (.ls false 0 n cap)), (0, (.ls false 0 n cap)), (1, (iI kind)), (2, (tS name))] (fun ρ => ⟨rfl, (congrArg (Value.int .i64) (by rw [wrap_id (by omega)]; first | rfl | omega)), ⟨rfl, rfl, ⟨rfl, rfl, ⟨rfl, rfl, ⟨rfl, rfl, ⟨rfl, rfl, trivial⟩⟩⟩⟩⟩⟩) ?_
   refine WK_keep [11, 10, 9, 0, 1, 2] [0] rfl rfl ?_
   exact WQ_next ((i + 1)) (by show n - (i + 1) < n - i; omega) ⟨hc2, ⟨by omega, ho, lay_no hni hxi (fun h => hk h.1)⟩⟩ (fun ρ a w h => h)
 ·
  replace hc := of_decide_eq_false hc
  refine WK_nx 10 ?_
  refine WC_exit ?_
  refine WQ_then_exit ?_
  refine WQ_then_exit ?_
  refine WQ_hit ?_
  refine WQ_code ?_
  refine WC_seq (WC_region ?_)
  refine WL_execS htb 5 [31, 27] [10, 0] ⟨[(31, (.s 10 1 1)), (27, (.ls false 0 n cap))], [(10, (.cells 31 [(iI kind), (tS name)])), (0, (.lst false 31 arr))], 11, [], []⟩ (by kernel_rfl) ?_
  refine WK_freezeV 10 rfl rfl rfl rfl ?_
  intro bk4 G3 hle hbk4
  replace hc2 := Le.trans hc2 hle
  replace ho := ho.mono hle
  show WK _ _ ⟨[(31, (sS (some ⟨bk4, 0, none⟩) 1 1)), (27, (.ls false 0 n cap))], [(0, (.lst false 31 arr))], 11, [], []⟩ _
  have hs5 : Sl (tPair (tInt .i64) tStr) G3 (some ⟨bk4, 0, none⟩) 1 1 [(kind, name)] := Sl.lit (cs := [.int .i64 kind, .string name]) (RepsL.cons' (rep_pair (rep_int _ (x := kind) h_kind) (rep_str _ (x := name) h_name)) .nil) hbk4 rfl (by unfold big; omega)
  have lhs5 := hs5.len'
  refine WK_nx 1 ?_
  show WL _ _ _ _ _ _ ⟨[(31, (sS (some ⟨bk4, 0, none⟩) 1 1)), (27, (.ls false 0 n cap))], [(0, (.lst false 31 arr))], 1, [], []⟩ _
  refine WL_op (WOp_append htb false 0 n cap (some ⟨bk4, 0, none⟩) 1 31 2 24 (by kernel_rfl) (by kernel_rfl) rfl rfl (tPair (tInt .i64) tStr) (xs := xs) (ys := [(kind, name)]) ho hn hzz hs5.row hs5.len rfl (by decide) (by first | omega | (simp only [List.length_append, List.length_nil, List.length_drop, List.length_take, List.length_cons]; omega)) (by unfold big; first | omega | (simp only [List.length_append, List.length_nil, List.length_drop, List.length_take, List.length_cons]; omega)) (fun z6 arr7 cap8 hz9 ho10 => ?_))
  show WL _ _ _ _ _ _ ⟨[(32, (.ls z6 1 ((xs ++ ([(kind, name)])).length) cap8)), (31, (sS (some ⟨bk4, 0, none⟩) 1 1)), (27, (.ls false 0 n cap))], [(1, (.lst z6 31 arr7))], 2, [], []⟩ _
  refine WL_execS htb 1 [6] [1] ⟨[(6, (.ls z6 1 ((xs ++ ([(kind, name)])).length) cap8))], [(1, (.lst z6 31 arr7))], 2, [], []⟩ (by kernel_rfl) ?_
  refine WL_nil ?_
  refine WQ_code ?_
  refine WC_ret ?_
  exact WQ_doneT htb _ (.inl rfl) (z := z6) (h := 1) (n := (xs ++ ([(kind, name)])).length) (xs := (xs ++ ([(kind, name)]))) rfl (by kernel_rfl) rfl rfl hz9 ho10 (lay_new hni (by omega))

theorem lay_true {w : World} {G : Heap} (hG : Has w G) {b n cap : Nat} {z : Bool} {arr : Array Value} {xs : List (Int × ByteArray)} (hw : z = false → w.heap[b]? = some (.cells arr 31 (0, 0)) ∧ G b = none) (ho : OwnL (tPair (tInt .i64) tStr) G xs arr cap) (hzz : z = true → xs = []) (hn : n = xs.length)
    {kind : Int} {name : ByteArray} (h_kind : -9223372036854775808 ≤ kind ∧ kind ≤ 9223372036854775807) (h_name : name.size ≤ big) (hx : xs.length ≤ 1000000000000) (hz0 : z = true) :
    Calls Try.prog 66 #[nilOr z (.slice (some ⟨b, 0, none⟩) n cap), .int .i64 kind, .string name] w (RetT w G (fun i => z = false ∧ i = b) (tPair (tInt .i64) tStr) 31 fun ys => ys = layS xs (kind, name)) := by
 subst hz0
 refine enterT [(.ls true 0 n cap), (iI kind), (tS name)] 33 Try.func66 rfl rfl rfl rfl hG hw ?_
 have hnil := hzz rfl
 subst hnil
 subst hn
 refine WK_env [(0, (sS none 0 0)), (1, (iI kind)), (2, (tS name))] (fun ρ => ⟨rfl, rfl, ⟨rfl, rfl, ⟨rfl, rfl, trivial⟩⟩⟩) ?_
 refine WK_keep [0, 1, 2] [] rfl rfl ?_
 refine WC_seq (WC_region ?_)
 refine WL_execS htb 1 [0, 1, 2] [] ⟨[(0, (sS none 0 0)), (1, (iI kind)), (2, (tS name))], [], 1, [], []⟩ (by kernel_rfl) ?_
 refine WL_nil ?_
 refine WQ_code ?_
 refine WC_seq ?_
 refine WC_seq (WC_region ?_)
 refine WL_execS htb 3 [11, 10, 9, 0, 1, 2] [] ⟨[(11, (iI 0)), (10, (iN 0)), (9, (sS none 0 0)), (0, (sS none 0 0)), (1, (iI kind)), (2, (tS name))], [], 1, [], []⟩ (by kernel_rfl) ?_
 refine WL_nil ?_
 refine WQ_code ?_
 refine WC_block ?_
 refine WK_keep [11, 10, 9, 0, 1, 2] [] rfl rfl ?_
 refine WK_env [(11, (iN 0)), (10, (iN 0)), (9, (sS none 0 0)), (0, (sS none 0 0)), (1, (iI kind)), (2, (tS name))] (fun ρ => ⟨rfl, rfl, ⟨rfl, rfl, ⟨rfl, rfl, ⟨rfl, rfl, ⟨rfl, rfl, ⟨rfl, rfl, trivial⟩⟩⟩⟩⟩⟩) ?_
 refine WC_loop (ι := Nat) (fun i G1 => Le G G1 ∧ (True)) (fun i => ⟨[(11, (iN i)), (10, (iN 0)), (9, (sS none 0 0)), (0, (sS none 0 0)), (1, (iI kind)), (2, (tS name))], [], 1, [], []⟩) (fun i => 0) (0) ⟨Le.refl _, trivial⟩ rfl ?_
 rintro i G1 ⟨hle, hF⟩
 show WC _ _ _ _ _ ⟨[(11, (iN i)), (10, (iN 0)), (9, (sS none 0 0)), (0, (sS none 0 0)), (1, (iI kind)), (2, (tS name))], [], 1, [], []⟩ _
 have hc2 := hle
 refine WC_seq (WC_region ?_)
 refine WL_execS htb 1 [12, 11, 10, 9, 0, 1, 2] [] ⟨[(12, (bB (decide ((((i : Nat) : Int) : Int) < ((0 : Nat) : Int))))), (11, (iN i)), (10, (iN 0)), (9, (sS none 0 0)), (0, (sS none 0 0)), (1, (iI kind)), (2, (tS name))], [], 1, [], []⟩ (by kernel_rfl) ?_
 refine WL_nil ?_
 refine WQ_code ?_
 refine WC_seq ?_
 refine WC_cond (b := (decide ((((i : Nat) : Int) : Int) < ((0 : Nat) : Int)))) rfl (fun hc => ?_) (fun hc => ?_)
 ·
  replace hc := of_decide_eq_true hc
  exfalso; omega
 ·
  replace hc := of_decide_eq_false hc
  refine WK_nx 10 ?_
  refine WC_exit ?_
  refine WQ_then_exit ?_
  refine WQ_then_exit ?_
  refine WQ_hit ?_
  refine WQ_code ?_
  refine WC_seq (WC_region ?_)
  refine WL_execS htb 5 [31, 27] [10] ⟨[(31, (.s 10 1 1)), (27, (sS none 0 0))], [(10, (.cells 31 [(iI kind), (tS name)]))], 11, [], []⟩ (by kernel_rfl) ?_
  refine WK_freezeV 10 rfl rfl rfl rfl ?_
  intro bk4 G3 hle hbk4
  replace hc2 := Le.trans hc2 hle
  show WK _ _ ⟨[(31, (sS (some ⟨bk4, 0, none⟩) 1 1)), (27, (sS none 0 0))], [], 11, [], []⟩ _
  have hs5 : Sl (tPair (tInt .i64) tStr) G3 (some ⟨bk4, 0, none⟩) 1 1 [(kind, name)] := Sl.lit (cs := [.int .i64 kind, .string name]) (RepsL.cons' (rep_pair (rep_int _ (x := kind) h_kind) (rep_str _ (x := name) h_name)) .nil) hbk4 rfl (by unfold big; omega)
  have lhs5 := hs5.len'
  refine WK_nx 1 ?_
  show WL _ _ _ _ _ _ ⟨[(31, (sS (some ⟨bk4, 0, none⟩) 1 1)), (27, (sS none 0 0))], [], 1, [], []⟩ _
  refine WK_off 31 rfl ?_
  have ho6 : OwnL (tPair (tInt .i64) tStr) G3 [] #[] 0 := OwnL.nil _ _
  refine WL_op (WOp_appendN htb true 1 0 0 (some ⟨bk4, 0, none⟩) 1 31 2 24 (by kernel_rfl) (by kernel_rfl) rfl rfl (tPair (tInt .i64) tStr) (xs := []) (ys := [(kind, name)]) ho6 rfl (fun _ => rfl) hs5.row hs5.len rfl (by decide) (by first | omega | (simp only [List.length_append, List.length_nil, List.length_drop, List.length_take, List.length_cons]; omega)) (by unfold big; first | omega | (simp only [List.length_append, List.length_nil, List.length_drop, List.length_take, List.length_cons]; omega)) (fun z7 arr8 cap9 hz10 ho11 => ?_))
  show WL _ _ _ _ _ _ ⟨[(32, (.ls z7 2 (([] ++ ([(kind, name)])).length) cap9)), (31, (sS (some ⟨bk4, 0, none⟩) 1 1)), (27, (sS none 0 0))], [(2, (.lst z7 31 arr8))], 3, [], []⟩ _
  refine WL_execS htb 1 [6] [2] ⟨[(6, (.ls z7 2 (([] ++ ([(kind, name)])).length) cap9))], [(2, (.lst z7 31 arr8))], 3, [], []⟩ (by kernel_rfl) ?_
  refine WL_nil ?_
  refine WQ_code ?_
  refine WC_ret ?_
  exact WQ_doneT htb _ (.inl rfl) (z := z7) (h := 2) (n := ([] ++ ([(kind, name)])).length) (xs := ([] ++ ([(kind, name)]))) rfl (by kernel_rfl) rfl rfl hz10 ho11 (by simp [layS])

theorem lay_ok {w : World} {G : Heap} (hG : Has w G) {b n cap : Nat} {z : Bool} {arr : Array Value} {xs : List (Int × ByteArray)} (hw : z = false → w.heap[b]? = some (.cells arr 31 (0, 0)) ∧ G b = none) (ho : OwnL (tPair (tInt .i64) tStr) G xs arr cap) (hzz : z = true → xs = []) (hn : n = xs.length)
    {kind : Int} {name : ByteArray} (h_kind : -9223372036854775808 ≤ kind ∧ kind ≤ 9223372036854775807) (h_name : name.size ≤ big) (hx : xs.length ≤ 1000000000000) :
    Calls Try.prog 66 #[nilOr z (.slice (some ⟨b, 0, none⟩) n cap), .int .i64 kind, .string name] w (RetT w G (fun i => z = false ∧ i = b) (tPair (tInt .i64) tStr) 31 fun ys => ys = layS xs (kind, name)) := by
  cases z with
  | true => exact lay_true hG hw ho hzz hn h_kind h_name hx rfl
  | false => exact lay_false hG hw ho hzz hn h_kind h_name hx rfl

theorem fertile8_ok {w : World} {G : Heap} (hG : Has w G) {g : (List (ByteArray × (List (List ByteArray))))} {A_g : Option Addr} {n_g : Nat} {c_g : Nat} {tk : (List ByteArray)} {A_tk : Option Addr} {n_tk : Nat} {c_tk : Nat} (h_g : Sl (tPair tStr (tSlice (tSlice tStr))) G A_g n_g c_g g) (h_tk : Sl tStr G A_tk n_tk c_tk tk) (hg : SmallG g) (htk : tk.length ≤ 1000) :
    Calls Try.prog 67 #[(.agg #[.slice A_g n_g c_g]), (.slice A_tk n_tk c_tk)] w (Ret w G fun v G' => ∃ (r : (List ByteArray)) (A_r : Option Addr) (n_r : Nat) (c_r : Nat), v = .slice A_r n_r c_r ∧ (Sl tStr G' A_r n_r c_r r) ∧ (∀ s, s ∈ r ↔ s ∈ tk ∨ Fert g tk s)) := by
 have lh_g := h_g.len'
 have lh_tk := h_tk.len'
 refine enter [(.agg [(sS A_g n_g c_g)]), (sS A_tk n_tk c_tk)] 50 Try.func67 rfl rfl rfl rfl hG ?_
 refine WC_seq (WC_region ?_)
 refine WL_execS htb 2 [2, 1] [0] ⟨[(2, (.p 0 0)), (1, (sS A_tk n_tk c_tk))], [(0, (.cells 24 [(sS A_g n_g c_g)]))], 1, [], []⟩ (by kernel_rfl) ?_
 refine WL_nil ?_
 refine WQ_code ?_
 refine WC_seq (WC_region ?_)
 refine WL_execS htb 1 [10, 2] [0] ⟨[(10, (sS A_tk n_tk c_tk)), (2, (.p 0 0))], [(0, (.cells 24 [(sS A_g n_g c_g)]))], 1, [], []⟩ (by kernel_rfl) ?_
 refine WK_off 9 rfl ?_
 have ho1 : OwnL tStr G [] #[] 0 := OwnL.nil _ _
 refine WL_op (WOp_appendN htb true 1 0 0 A_tk n_tk 9 1 16 (by kernel_rfl) (by kernel_rfl) rfl rfl tStr (xs := []) (ys := tk) ho1 rfl (fun _ => rfl) h_tk.row h_tk.len rfl (by decide) (by first | omega | (simp only [List.length_append, List.length_nil, List.length_drop, List.length_take, List.length_cons]; omega)) (by unfold big; first | omega | (simp only [List.length_append, List.length_nil, List.length_drop, List.length_take, List.length_cons]; omega)) (fun z2 arr3 cap4 hz5 ho6 => ?_))
 show WL _ _ _ _ _ _ ⟨[(11, (.ls z2 2 (([] ++ tk).length) cap4)), (10, (sS A_tk n_tk c_tk)), (2, (.p 0 0))], [(2, (.lst z2 9 arr3)), (0, (.cells 24 [(sS A_g n_g c_g)]))], 3, [], []⟩ _
 refine WL_execS htb 1 [5, 2] [2, 0] ⟨[(5, (.ls z2 2 (([] ++ tk).length) cap4)), (2, (.p 0 0))], [(2, (.lst z2 9 arr3)), (0, (.cells 24 [(sS A_g n_g c_g)]))], 3, [], []⟩ (by kernel_rfl) ?_
 refine WL_nil ?_
 refine WQ_code ?_
 refine WC_seq ?_
 refine WC_seq (WC_region ?_)
 refine WL_execS htb 4 [15, 14, 5, 2] [2, 0] ⟨[(15, (iI 0)), (14, (iN n_g)), (5, (.ls z2 2 (([] ++ tk).length) cap4)), (2, (.p 0 0))], [(2, (.lst z2 9 arr3)), (0, (.cells 24 [(sS A_g n_g c_g)]))], 3, [], []⟩ (by kernel_rfl) ?_
 refine WL_nil ?_
 refine WQ_code ?_
 refine WC_block ?_
 have hg1 := hg.1
 refine WK_freeze 0 rfl rfl rfl rfl ?_
 intro bk8 G7 hle hbk8
 replace h_g := h_g.mono hle
 replace ho6 := ho6.mono hle
 have hz := FZ.cons (h := 0) hbk8 rfl (FZ.nil _)
 refine WK_keep [15, 14, 5, 2] [2] rfl rfl ?_
 refine WK_env [(15, (iN 0)), (14, (iN n_g)), (5, (.ls z2 2 (([] ++ tk).length) cap4)), (2, (.p 0 0))] (fun ρ => ⟨rfl, rfl, ⟨rfl, rfl, ⟨rfl, rfl, ⟨rfl, rfl, trivial⟩⟩⟩⟩) ?_
 refine WC_loop (ι := Nat × List ByteArray × Bool × Array Value × Nat) (fun (t, out, z, arr, cap) G9 => Le G7 G9 ∧ (t ≤ n_g ∧ out.length ≤ 1000 + t * 1000000 ∧ OwnL tStr G9 out arr cap ∧ (z = true → out = []) ∧ (FOut g tk out ∧ (FertO g out ∨ t ≤ cntO g out)))) (fun (t, out, z, arr, cap) => ⟨[(15, (iN t)), (14, (iN n_g)), (5, (.ls z 2 out.length cap)), (2, (.p 0 0))], [(2, (.lst z 9 arr))], 3, [], [(0, bk8, (.cells 24 [(sS A_g n_g c_g)]))]⟩) (fun (t, out, z, arr, cap) => n_g - t) (0, ([] ++ tk), z2, arr3, cap4) ⟨Le.refl _, ⟨Nat.zero_le _, (by first | omega | (simp only [List.length_append, List.length_nil]; omega)), ho6, hz5, ⟨FOut.start, .inr (Nat.zero_le _)⟩⟩⟩ rfl ?_
 rintro ⟨t, out, z, arr, cap⟩ G9 ⟨hle, hF⟩
 show WC _ _ _ _ _ ⟨[(15, (iN t)), (14, (iN n_g)), (5, (.ls z 2 out.length cap)), (2, (.p 0 0))], [(2, (.lst z 9 arr))], 3, [], [(0, bk8, (.cells 24 [(sS A_g n_g c_g)]))]⟩ _
 replace h_g := h_g.mono hle
 replace hz := hz.mono hle
 replace ho6 := ho6.mono hle
 have hc10 := hle
 obtain ⟨hi, hlen, ho, hzz, hex⟩ := hF
 refine WC_seq (WC_region ?_)
 refine WL_execS htb 1 [16, 15, 14, 5, 2] [2] ⟨[(16, (bB (decide ((((t : Nat) : Int) : Int) < ((n_g : Nat) : Int))))), (15, (iN t)), (14, (iN n_g)), (5, (.ls z 2 out.length cap)), (2, (.p 0 0))], [(2, (.lst z 9 arr))], 3, [], [(0, bk8, (.cells 24 [(sS A_g n_g c_g)]))]⟩ (by kernel_rfl) ?_
 refine WL_nil ?_
 refine WQ_code ?_
 refine WC_seq ?_
 refine WC_cond (b := (decide ((((t : Nat) : Int) : Int) < ((n_g : Nat) : Int)))) rfl (fun hc => ?_) (fun hc => ?_)
 ·
  replace hc := of_decide_eq_true hc
  refine WC_skip ?_
  refine WQ_code ?_
  refine WC_seq ?_
  refine WC_block ?_
  refine WC_seq (WC_region ?_)
  refine WL_execS htb 4 [20, 19, 18, 15, 14, 5, 2] [2] ⟨[(20, (iI 0)), (19, (iN n_g)), (18, (sS A_g n_g c_g)), (15, (iN t)), (14, (iN n_g)), (5, (.ls z 2 out.length cap)), (2, (.p 0 0))], [(2, (.lst z 9 arr))], 3, [], [(0, bk8, (.cells 24 [(sS A_g n_g c_g)]))]⟩ (by kernel_rfl) ?_
  refine WL_nil ?_
  refine WQ_code ?_
  refine WC_block ?_
  refine WK_keep [20, 19, 18, 15, 14, 5, 2] [2] rfl rfl ?_
  refine WK_env [(20, (iN 0)), (19, (iN n_g)), (18, (sS A_g n_g c_g)), (15, (iN t)), (14, (iN n_g)), (5, (.ls z 2 out.length cap)), (2, (.p 0 0))] (fun ρ => ⟨rfl, rfl, ⟨rfl, rfl, ⟨rfl, rfl, ⟨rfl, rfl, ⟨rfl, rfl, ⟨rfl, rfl, ⟨rfl, rfl, trivial⟩⟩⟩⟩⟩⟩⟩) ?_
  refine WC_loop (ι := Nat × List ByteArray × Bool × Array Value × Nat) (fun (r, out1, z1, arr1, cap1) G11 => Le G9 G11 ∧ (r ≤ n_g ∧ out1.length ≤ 1000 + t * 1000000 + r * 1000 ∧ OwnL tStr G11 out1 arr1 cap1 ∧ (z1 = true → out1 = []) ∧ (RndO g tk out out1 (FPr g out r)))) (fun (r, out1, z1, arr1, cap1) => ⟨[(20, (iN r)), (19, (iN n_g)), (18, (sS A_g n_g c_g)), (15, (iN t)), (14, (iN n_g)), (5, (.ls z1 2 out1.length cap1)), (2, (.p 0 0))], [(2, (.lst z1 9 arr1))], 3, [], [(0, bk8, (.cells 24 [(sS A_g n_g c_g)]))]⟩) (fun (r, out1, z1, arr1, cap1) => n_g - r) (0, out, z, arr, cap) ⟨Le.refl _, ⟨Nat.zero_le _, (by first | omega | (simp only [List.length_append, List.length_nil]; omega)), ho, hzz, RndO.start hex.1 FPr_zero⟩⟩ rfl ?_
  rintro ⟨r, out1, z1, arr1, cap1⟩ G11 ⟨hle, hF⟩
  show WC _ _ _ _ _ ⟨[(20, (iN r)), (19, (iN n_g)), (18, (sS A_g n_g c_g)), (15, (iN t)), (14, (iN n_g)), (5, (.ls z1 2 out1.length cap1)), (2, (.p 0 0))], [(2, (.lst z1 9 arr1))], 3, [], [(0, bk8, (.cells 24 [(sS A_g n_g c_g)]))]⟩ _
  replace hc10 := Le.trans hc10 hle
  replace h_g := h_g.mono hle
  replace hz := hz.mono hle
  replace ho := ho.mono hle
  have hc12 := hle
  obtain ⟨hi1, hlen1, ho1, hzz1, hex1⟩ := hF
  refine WC_seq (WC_region ?_)
  refine WL_execS htb 1 [21, 20, 19, 18, 15, 14, 5, 2] [2] ⟨[(21, (bB (decide ((((r : Nat) : Int) : Int) < ((n_g : Nat) : Int))))), (20, (iN r)), (19, (iN n_g)), (18, (sS A_g n_g c_g)), (15, (iN t)), (14, (iN n_g)), (5, (.ls z1 2 out1.length cap1)), (2, (.p 0 0))], [(2, (.lst z1 9 arr1))], 3, [], [(0, bk8, (.cells 24 [(sS A_g n_g c_g)]))]⟩ (by kernel_rfl) ?_
  refine WL_nil ?_
  refine WQ_code ?_
  refine WC_seq ?_
  refine WC_cond (b := (decide ((((r : Nat) : Int) : Int) < ((n_g : Nat) : Int)))) rfl (fun hc1 => ?_) (fun hc1 => ?_)
  ·
   replace hc1 := of_decide_eq_true hc1
   refine WC_skip ?_
   refine WQ_code ?_
   refine WC_seq ?_
   refine WC_block ?_
   refine WC_seq (WC_region ?_)
   obtain ⟨q13, rfl⟩ := h_g.ptr (by omega)
   obtain ⟨⟨x16, x18⟩, _, hx14, ⟨_, _, rfl, ⟨rfl, hn17⟩, hr19⟩, at15⟩ := h_g.get r (by omega)
   obtain ⟨A21, n22, c23, rfl, hs20⟩ := Sl.of hr19
   replace hs20 : Sl (tSlice tStr) _ A21 n22 c23 x18 := hs20
   have lhs20 := hs20.len'
   replace at15 : At G11 (q13.add (r * 2)) [.string x16, .slice A21 n22 c23] := at15
   refine WL_op (WOp_idx htb q13 n_g ((r : Nat) : Int) 2 (by kernel_rfl) (by omega) (by omega) ?_)
   refine WL_op (WOp_ld htb (q13.add (r * 2)) true 2 [.string x16, .slice A21 n22 c23] (by kernel_rfl) at15 rfl (by decide) ?_)
   refine WL_execS htb 2 [7, 20, 19, 18, 15, 14, 5, 2] [3, 2] ⟨[(7, (.p 3 0)), (20, (iN r)), (19, (iN n_g)), (18, (sS (some q13) n_g c_g)), (15, (iN t)), (14, (iN n_g)), (5, (.ls z1 2 out1.length cap1)), (2, (.p 0 0))], [(3, (.cells 34 [(tS x16), (sS A21 n22 c23)])), (2, (.lst z1 9 arr1))], 4, [], [(0, bk8, (.cells 24 [(sS (some q13) n_g c_g)]))]⟩ (by kernel_rfl) ?_
   refine WL_nil ?_
   refine WQ_code ?_
   refine WC_seq (WC_region ?_)
   refine WL_execS htb 4 [27, 26, 25, 7, 20, 19, 18, 15, 14, 5, 2] [3, 2] ⟨[(27, (iI 0)), (26, (iN n22)), (25, (sS A21 n22 c23)), (7, (.p 3 0)), (20, (iN r)), (19, (iN n_g)), (18, (sS (some q13) n_g c_g)), (15, (iN t)), (14, (iN n_g)), (5, (.ls z1 2 out1.length cap1)), (2, (.p 0 0))], [(3, (.cells 34 [(tS x16), (sS A21 n22 c23)])), (2, (.lst z1 9 arr1))], 4, [], [(0, bk8, (.cells 24 [(sS (some q13) n_g c_g)]))]⟩ (by kernel_rfl) ?_
   refine WL_nil ?_
   refine WQ_code ?_
   refine WC_block ?_
   have hs1 : x18.length ≤ 1000 := (hg.2 _ (List.mem_of_getElem? hx14)).1
   refine WK_keep [27, 26, 25, 7, 20, 19, 18, 15, 14, 5, 2] [3, 2] rfl rfl ?_
   refine WK_env [(27, (iN 0)), (26, (iN n22)), (25, (sS A21 n22 c23)), (7, (.p 3 0)), (20, (iN r)), (19, (iN n_g)), (18, (sS (some q13) n_g c_g)), (15, (iN t)), (14, (iN n_g)), (5, (.ls z1 2 out1.length cap1)), (2, (.p 0 0))] (fun ρ => ⟨rfl, rfl, ⟨rfl, rfl, ⟨rfl, rfl, ⟨rfl, rfl, ⟨rfl, rfl, ⟨rfl, rfl, ⟨rfl, rfl, ⟨rfl, rfl, ⟨rfl, rfl, ⟨rfl, rfl, ⟨rfl, rfl, trivial⟩⟩⟩⟩⟩⟩⟩⟩⟩⟩⟩) ?_
   refine WC_loop (ι := Nat × List ByteArray × Bool × Array Value × Nat) (fun (k, out2, z2, arr2, cap2) G24 => Le G11 G24 ∧ (k ≤ n22 ∧ out2.length ≤ 1000 + t * 1000000 + r * 1000 + k ∧ OwnL tStr G24 out2 arr2 cap2 ∧ (z2 = true → out2 = []) ∧ (RndO g tk out out2 (FPk g out r x16 x18 k)))) (fun (k, out2, z2, arr2, cap2) => ⟨[(27, (iN k)), (26, (iN n22)), (25, (sS A21 n22 c23)), (7, (.p 3 0)), (20, (iN r)), (19, (iN n_g)), (18, (sS (some q13) n_g c_g)), (15, (iN t)), (14, (iN n_g)), (5, (.ls z2 2 out2.length cap2)), (2, (.p 0 0))], [(3, (.cells 34 [(tS x16), (sS A21 n22 c23)])), (2, (.lst z2 9 arr2))], 4, [], [(0, bk8, (.cells 24 [(sS (some q13) n_g c_g)]))]⟩) (fun (k, out2, z2, arr2, cap2) => n22 - k) (0, out1, z1, arr1, cap1) ⟨Le.refl _, ⟨Nat.zero_le _, (by first | omega | (simp only [List.length_append, List.length_nil]; omega)), ho1, hzz1, hex1.imp FPk_zero⟩⟩ rfl ?_
   rintro ⟨k, out2, z2, arr2, cap2⟩ G24 ⟨hle, hF⟩
   show WC _ _ _ _ _ ⟨[(27, (iN k)), (26, (iN n22)), (25, (sS A21 n22 c23)), (7, (.p 3 0)), (20, (iN r)), (19, (iN n_g)), (18, (sS (some q13) n_g c_g)), (15, (iN t)), (14, (iN n_g)), (5, (.ls z2 2 out2.length cap2)), (2, (.p 0 0))], [(3, (.cells 34 [(tS x16), (sS A21 n22 c23)])), (2, (.lst z2 9 arr2))], 4, [], [(0, bk8, (.cells 24 [(sS (some q13) n_g c_g)]))]⟩ _
   replace hc10 := Le.trans hc10 hle
   replace hc12 := Le.trans hc12 hle
   replace h_g := h_g.mono hle
   replace hs20 := hs20.mono hle
   replace hz := hz.mono hle
   replace ho1 := ho1.mono hle
   have hc25 := hle
   obtain ⟨hi2, hlen2, ho2, hzz2, hex2⟩ := hF
   refine WC_seq (WC_region ?_)
   refine WL_execS htb 1 [28, 27, 26, 25, 7, 20, 19, 18, 15, 14, 5, 2] [3, 2] ⟨[(28, (bB (decide ((((k : Nat) : Int) : Int) < ((n22 : Nat) : Int))))), (27, (iN k)), (26, (iN n22)), (25, (sS A21 n22 c23)), (7, (.p 3 0)), (20, (iN r)), (19, (iN n_g)), (18, (sS (some q13) n_g c_g)), (15, (iN t)), (14, (iN n_g)), (5, (.ls z2 2 out2.length cap2)), (2, (.p 0 0))], [(3, (.cells 34 [(tS x16), (sS A21 n22 c23)])), (2, (.lst z2 9 arr2))], 4, [], [(0, bk8, (.cells 24 [(sS (some q13) n_g c_g)]))]⟩ (by kernel_rfl) ?_
   refine WL_nil ?_
   refine WQ_code ?_
   refine WC_seq ?_
   refine WC_cond (b := (decide ((((k : Nat) : Int) : Int) < ((n22 : Nat) : Int)))) rfl (fun hc2 => ?_) (fun hc2 => ?_)
   ·
    replace hc2 := of_decide_eq_true hc2
    refine WC_skip ?_
    refine WQ_code ?_
    refine WC_seq ?_
    refine WC_block ?_
    refine WC_seq (WC_region ?_)
    obtain ⟨q26, rfl⟩ := hs20.ptr (by omega)
    obtain ⟨x29, _, hx27, hr30, at28⟩ := hs20.get k (by omega)
    obtain ⟨A32, n33, c34, rfl, hs31⟩ := Sl.of hr30
    replace hs31 : Sl tStr _ A32 n33 c34 x29 := hs31
    have lhs31 := hs31.len'
    replace at28 : At G24 (q26.add (k * 1)) [.slice A32 n33 c34] := at28
    refine WL_op (WOp_idx htb q26 n22 ((k : Nat) : Int) 1 (by kernel_rfl) (by omega) (by omega) ?_)
    refine WL_op (WOp_ld htb (q26.add (k * 1)) false 1 [.slice A32 n33 c34] (by kernel_rfl) at28 rfl (by decide) ?_)
    refine WL_execS htb 1 [9, 27, 26, 25, 7, 20, 19, 18, 15, 14, 5, 2] [3, 2] ⟨[(9, (sS A32 n33 c34)), (27, (iN k)), (26, (iN n22)), (25, (sS (some q26) n22 c23)), (7, (.p 3 0)), (20, (iN r)), (19, (iN n_g)), (18, (sS (some q13) n_g c_g)), (15, (iN t)), (14, (iN n_g)), (5, (.ls z2 2 out2.length cap2)), (2, (.p 0 0))], [(3, (.cells 34 [(tS x16), (sS (some q26) n22 c23)])), (2, (.lst z2 9 arr2))], 4, [], [(0, bk8, (.cells 24 [(sS (some q13) n_g c_g)]))]⟩ (by kernel_rfl) ?_
    refine WL_nil ?_
    refine WQ_code ?_
    refine WC_seq (WC_region ?_)
    refine WL_execS htb 2 [32, 31, 27, 26, 25, 7, 20, 19, 18, 15, 14, 5, 2] [3, 2] ⟨[(32, (.ls z2 2 out2.length cap2)), (31, (sS A32 n33 c34)), (27, (iN k)), (26, (iN n22)), (25, (sS (some q26) n22 c23)), (7, (.p 3 0)), (20, (iN r)), (19, (iN n_g)), (18, (sS (some q13) n_g c_g)), (15, (iN t)), (14, (iN n_g)), (5, (.ls z2 2 out2.length cap2)), (2, (.p 0 0))], [(3, (.cells 34 [(tS x16), (sS (some q26) n22 c23)])), (2, (.lst z2 9 arr2))], 4, [], [(0, bk8, (.cells 24 [(sS (some q13) n_g c_g)]))]⟩ (by kernel_rfl) ?_
    refine WL_op (WOp_callB 92 [(sS A32 n33 c34), (.ls z2 2 out2.length cap2)] (by kernel_rfl) (goes_of Try.func92 rfl rfl) (Φ := fun v => ∃ (r35 : Bool), v = .bool r35 ∧ (r35 = decide (∀ x ∈ x29, hasB out2 x = true))) 2 rfl (fun ρ w b G1 hW hρ hle hH hb => ?lend) (fun v37 hv => ?_))
    case lend =>
     subst hρ
     obtain ⟨A, n', c', e, hs⟩ := OwnL.sl (n := out2.length) ho2 hle hzz2 hb rfl
     have hsl := hs.len'
     show Calls _ _ #[.slice A32 n33 c34, nilOr z2 (.slice (some ⟨ρ 2, 0, none⟩) out2.length cap2)] w _
     rw [e]
     exact all_ok hH (xs := x29) (ys := out2) (hs31.mono hle) hs
    obtain ⟨r35, rfl, hR36⟩ := hv
    refine WL_execS htb 1 [34, 27, 26, 25, 7, 20, 19, 18, 15, 14, 5, 2] [3, 2] ⟨[(34, (bB r35)), (27, (iN k)), (26, (iN n22)), (25, (sS (some q26) n22 c23)), (7, (.p 3 0)), (20, (iN r)), (19, (iN n_g)), (18, (sS (some q13) n_g c_g)), (15, (iN t)), (14, (iN n_g)), (5, (.ls z2 2 out2.length cap2)), (2, (.p 0 0))], [(3, (.cells 34 [(tS x16), (sS (some q26) n22 c23)])), (2, (.lst z2 9 arr2))], 4, [], [(0, bk8, (.cells 24 [(sS (some q13) n_g c_g)]))]⟩ (by kernel_rfl) ?_
    refine WK_split 34 r35 rfl (fun hd => ?_) (fun hd => ?_)
    ·
     skip
     refine WK_keep [34, 27, 26, 25, 7, 20, 19, 18, 15, 14, 5, 2] [3, 2] rfl rfl ?_
     refine WL_execS htb 3 [37, 35, 34, 27, 26, 25, 7, 20, 19, 18, 15, 14, 5, 2] [3, 2] ⟨[(37, (tS x16)), (35, (.ls z2 2 out2.length cap2)), (34, (bB true)), (27, (iN k)), (26, (iN n22)), (25, (sS (some q26) n22 c23)), (7, (.p 3 0)), (20, (iN r)), (19, (iN n_g)), (18, (sS (some q13) n_g c_g)), (15, (iN t)), (14, (iN n_g)), (5, (.ls z2 2 out2.length cap2)), (2, (.p 0 0))], [(3, (.cells 34 [(tS x16), (sS (some q26) n22 c23)])), (2, (.lst z2 9 arr2))], 4, [], [(0, bk8, (.cells 24 [(sS (some q13) n_g c_g)]))]⟩ (by kernel_rfl) ?_
     refine WL_op (WOp_callB 65 [(.ls z2 2 out2.length cap2), (tS x16)] (by kernel_rfl) (goes_of Try.func65 rfl rfl) (Φ := fun v => ∃ (r38 : Bool), v = .bool r38 ∧ (r38 = hasB out2 x16)) 2 rfl (fun ρ w b G1 hW hρ hle hH hb => ?lend) (fun v40 hv => ?_))
     case lend =>
      subst hρ
      obtain ⟨A, n', c', e, hs⟩ := OwnL.sl (n := out2.length) ho2 hle hzz2 hb rfl
      have hsl := hs.len'
      show Calls _ _ #[nilOr z2 (.slice (some ⟨ρ 2, 0, none⟩) out2.length cap2), .string x16] w _
      rw [e]
      exact has_ok hH (xs := out2) (x := x16) hs hn17
     obtain ⟨r38, rfl, hR39⟩ := hv
     refine WL_execS htb 2 [40, 27, 26, 25, 7, 20, 19, 18, 15, 14, 5, 2] [3, 2] ⟨[(40, (bB (!r38))), (27, (iN k)), (26, (iN n22)), (25, (sS (some q26) n22 c23)), (7, (.p 3 0)), (20, (iN r)), (19, (iN n_g)), (18, (sS (some q13) n_g c_g)), (15, (iN t)), (14, (iN n_g)), (5, (.ls z2 2 out2.length cap2)), (2, (.p 0 0))], [(3, (.cells 34 [(tS x16), (sS (some q26) n22 c23)])), (2, (.lst z2 9 arr2))], 4, [], [(0, bk8, (.cells 24 [(sS (some q13) n_g c_g)]))]⟩ (by kernel_rfl) ?_
     refine WL_nil ?_
     refine WQ_code ?_
     refine WC_cond (b := (!r38)) rfl (fun he => ?_) (fun he => ?_)
     ·
      rw [Bool.not_eq_true'] at he
      refine WC_region ?_
      refine WL_execS htb 4 [44, 41, 27, 26, 25, 7, 20, 19, 18, 15, 14, 2] [4, 3, 2] ⟨[(44, (.s 4 1 1)), (41, (.ls z2 2 out2.length cap2)), (27, (iN k)), (26, (iN n22)), (25, (sS (some q26) n22 c23)), (7, (.p 3 0)), (20, (iN r)), (19, (iN n_g)), (18, (sS (some q13) n_g c_g)), (15, (iN t)), (14, (iN n_g)), (2, (.p 0 0))], [(4, (.cells 9 [(tS x16)])), (3, (.cells 34 [(tS x16), (sS (some q26) n22 c23)])), (2, (.lst z2 9 arr2))], 5, [], [(0, bk8, (.cells 24 [(sS (some q13) n_g c_g)]))]⟩ (by kernel_rfl) ?_
      refine WK_freezeV 4 rfl rfl rfl rfl ?_
      intro bk42 G41 hle hbk42
      replace hc10 := Le.trans hc10 hle
      replace hc12 := Le.trans hc12 hle
      replace hc25 := Le.trans hc25 hle
      replace h_g := h_g.mono hle
      replace hs20 := hs20.mono hle
      replace hz := hz.mono hle
      replace ho2 := ho2.mono hle
      show WK _ _ ⟨[(44, (sS (some ⟨bk42, 0, none⟩) 1 1)), (41, (.ls z2 2 out2.length cap2)), (27, (iN k)), (26, (iN n22)), (25, (sS (some q26) n22 c23)), (7, (.p 3 0)), (20, (iN r)), (19, (iN n_g)), (18, (sS (some q13) n_g c_g)), (15, (iN t)), (14, (iN n_g)), (2, (.p 0 0))], [(3, (.cells 34 [(tS x16), (sS (some q26) n22 c23)])), (2, (.lst z2 9 arr2))], 5, [], [(0, bk8, (.cells 24 [(sS (some q13) n_g c_g)]))]⟩ _
      have hs43 : Sl tStr G41 (some ⟨bk42, 0, none⟩) 1 1 [x16] := Sl.lit (cs := [.string x16]) (RepsL.cons' (rep_str _ (x := x16) hn17) .nil) hbk42 rfl (by unfold big; omega)
      have lhs43 := hs43.len'
      refine WL_op (WOp_append htb z2 2 out2.length cap2 (some ⟨bk42, 0, none⟩) 1 9 1 16 (by kernel_rfl) (by kernel_rfl) rfl rfl tStr (xs := out2) (ys := [x16]) ho2 rfl hzz2 hs43.row hs43.len rfl (by decide) (by first | omega | (simp only [List.length_append, List.length_nil, List.length_drop, List.length_take, List.length_cons]; omega)) (by unfold big; first | omega | (simp only [List.length_append, List.length_nil, List.length_drop, List.length_take, List.length_cons]; omega)) (fun z44 arr45 cap46 hz47 ho48 => ?_))
      show WL _ _ _ _ _ _ ⟨[(45, (.ls z44 5 ((out2 ++ ([x16])).length) cap46)), (44, (sS (some ⟨bk42, 0, none⟩) 1 1)), (41, (.ls z2 2 out2.length cap2)), (27, (iN k)), (26, (iN n22)), (25, (sS (some q26) n22 c23)), (7, (.p 3 0)), (20, (iN r)), (19, (iN n_g)), (18, (sS (some q13) n_g c_g)), (15, (iN t)), (14, (iN n_g)), (2, (.p 0 0))], [(5, (.lst z44 9 arr45)), (3, (.cells 34 [(tS x16), (sS (some q26) n22 c23)]))], 6, [], [(0, bk8, (.cells 24 [(sS (some q13) n_g c_g)]))]⟩ _
      refine WL_execS htb 1 [5, 27, 26, 25, 7, 20, 19, 18, 15, 14, 2] [5, 3] ⟨[(5, (.ls z44 5 ((out2 ++ ([x16])).length) cap46)), (27, (iN k)), (26, (iN n22)), (25, (sS (some q26) n22 c23)), (7, (.p 3 0)), (20, (iN r)), (19, (iN n_g)), (18, (sS (some q13) n_g c_g)), (15, (iN t)), (14, (iN n_g)), (2, (.p 0 0))], [(5, (.lst z44 9 arr45)), (3, (.cells 34 [(tS x16), (sS (some q26) n22 c23)]))], 6, [], [(0, bk8, (.cells 24 [(sS (some q13) n_g c_g)]))]⟩ (by kernel_rfl) ?_
      refine WL_nil ?_
      refine WQ_blk ?_
      refine WQ_code ?_
      refine WC_region ?_
      refine WL_execS htb 2 [27, 5, 26, 25, 7, 20, 19, 18, 15, 14, 2] [5, 3] ⟨[(27, (iI (IntKind.i64.wrap (((k : Nat) : Int) + 1)))), (5, (.ls z44 5 ((out2 ++ ([x16])).length) cap46)), (26, (iN n22)), (25, (sS (some q26) n22 c23)), (7, (.p 3 0)), (20, (iN r)), (19, (iN n_g)), (18, (sS (some q13) n_g c_g)), (15, (iN t)), (14, (iN n_g)), (2, (.p 0 0))], [(5, (.lst z44 9 arr45)), (3, (.cells 34 [(tS x16), (sS (some q26) n22 c23)]))], 6, [], [(0, bk8, (.cells 24 [(sS (some q13) n_g c_g)]))]⟩ (by kernel_rfl) ?_
      refine WL_nil ?_
      refine WK_env [(27, (iN (k + 1))), (5, (.ls z44 5 ((out2 ++ ([x16])).length) cap46)), (26, (iN n22)), (25, (sS (some q26) n22 c23)), (7, (.p 3 0)), (20, (iN r)), (19, (iN n_g)), (18, (sS (some q13) n_g c_g)), (15, (iN t)), (14, (iN n_g)), (2, (.p 0 0))] (fun ρ => ⟨rfl, (congrArg (Value.int .i64) (by rw [wrap_id (by omega)]; first | rfl | omega)), ⟨rfl, rfl, ⟨rfl, rfl, ⟨rfl, rfl, ⟨rfl, rfl, ⟨rfl, rfl, ⟨rfl, rfl, ⟨rfl, rfl, ⟨rfl, rfl, ⟨rfl, rfl, ⟨rfl, rfl, trivial⟩⟩⟩⟩⟩⟩⟩⟩⟩⟩⟩) ?_
      refine WK_keep [27, 26, 25, 7, 20, 19, 18, 15, 14, 5, 2] [3, 5] rfl rfl ?_
      exact WQ_nextR ((k + 1), (out2 ++ ([x16])), z44, arr45, cap46) (by show n22 - (k + 1) < n22 - k; omega) ⟨hc25, ⟨by omega, (by first | omega | (simp only [List.length_append, List.length_cons, List.length_nil]; omega)), ho48, hz47, hex2.add hx14 hx27 hR36 (by simpa using hd) hR39 (by simpa using he)⟩⟩ [(2, 5)] rfl rfl rfl rfl rfl rfl
     ·
      rw [Bool.not_eq_false'] at he
      refine WC_skip ?_
      refine WQ_blk ?_
      refine WQ_code ?_
      refine WC_region ?_
      refine WL_execS htb 2 [27, 26, 25, 7, 20, 19, 18, 15, 14, 5, 2] [3, 2] ⟨[(27, (iI (IntKind.i64.wrap (((k : Nat) : Int) + 1)))), (26, (iN n22)), (25, (sS (some q26) n22 c23)), (7, (.p 3 0)), (20, (iN r)), (19, (iN n_g)), (18, (sS (some q13) n_g c_g)), (15, (iN t)), (14, (iN n_g)), (5, (.ls z2 2 out2.length cap2)), (2, (.p 0 0))], [(3, (.cells 34 [(tS x16), (sS (some q26) n22 c23)])), (2, (.lst z2 9 arr2))], 4, [], [(0, bk8, (.cells 24 [(sS (some q13) n_g c_g)]))]⟩ (by kernel_rfl) ?_
      refine WL_nil ?_
      refine WK_env [(27, (iN (k + 1))), (26, (iN n22)), (25, (sS (some q26) n22 c23)), (7, (.p 3 0)), (20, (iN r)), (19, (iN n_g)), (18, (sS (some q13) n_g c_g)), (15, (iN t)), (14, (iN n_g)), (5, (.ls z2 2 out2.length cap2)), (2, (.p 0 0))] (fun ρ => ⟨rfl, (congrArg (Value.int .i64) (by rw [wrap_id (by omega)]; first | rfl | omega)), ⟨rfl, rfl, ⟨rfl, rfl, ⟨rfl, rfl, ⟨rfl, rfl, ⟨rfl, rfl, ⟨rfl, rfl, ⟨rfl, rfl, ⟨rfl, rfl, ⟨rfl, rfl, ⟨rfl, rfl, trivial⟩⟩⟩⟩⟩⟩⟩⟩⟩⟩⟩) ?_
      refine WK_keep [27, 26, 25, 7, 20, 19, 18, 15, 14, 5, 2] [3, 2] rfl rfl ?_
      exact WQ_next ((k + 1), out2, z2, arr2, cap2) (by show n22 - (k + 1) < n22 - k; omega) ⟨hc25, ⟨by omega, (by first | omega | (simp only [List.length_append, List.length_cons, List.length_nil]; omega)), ho2, hzz2, hex2.imp2 (FPk_had hx27 hR39 (by simpa using he))⟩⟩ (fun ρ a w h => h)
    ·
     skip
     refine WK_keep [34, 27, 26, 25, 7, 20, 19, 18, 15, 14, 5, 2] [3, 2] rfl rfl ?_
     refine WL_execS htb 6 [40, 27, 26, 25, 7, 20, 19, 18, 15, 14, 5, 2] [3, 2] ⟨[(40, (bB false)), (27, (iN k)), (26, (iN n22)), (25, (sS (some q26) n22 c23)), (7, (.p 3 0)), (20, (iN r)), (19, (iN n_g)), (18, (sS (some q13) n_g c_g)), (15, (iN t)), (14, (iN n_g)), (5, (.ls z2 2 out2.length cap2)), (2, (.p 0 0))], [(3, (.cells 34 [(tS x16), (sS (some q26) n22 c23)])), (2, (.lst z2 9 arr2))], 4, [], [(0, bk8, (.cells 24 [(sS (some q13) n_g c_g)]))]⟩ (by kernel_rfl) ?_
     refine WL_nil ?_
     refine WQ_code ?_
     refine WC_cond (b := false) rfl (fun h => by cases h) (fun _ => ?_)
     refine WC_skip ?_
     refine WQ_blk ?_
     refine WQ_code ?_
     refine WC_region ?_
     refine WL_execS htb 2 [27, 26, 25, 7, 20, 19, 18, 15, 14, 5, 2] [3, 2] ⟨[(27, (iI (IntKind.i64.wrap (((k : Nat) : Int) + 1)))), (26, (iN n22)), (25, (sS (some q26) n22 c23)), (7, (.p 3 0)), (20, (iN r)), (19, (iN n_g)), (18, (sS (some q13) n_g c_g)), (15, (iN t)), (14, (iN n_g)), (5, (.ls z2 2 out2.length cap2)), (2, (.p 0 0))], [(3, (.cells 34 [(tS x16), (sS (some q26) n22 c23)])), (2, (.lst z2 9 arr2))], 4, [], [(0, bk8, (.cells 24 [(sS (some q13) n_g c_g)]))]⟩ (by kernel_rfl) ?_
     refine WL_nil ?_
     refine WK_env [(27, (iN (k + 1))), (26, (iN n22)), (25, (sS (some q26) n22 c23)), (7, (.p 3 0)), (20, (iN r)), (19, (iN n_g)), (18, (sS (some q13) n_g c_g)), (15, (iN t)), (14, (iN n_g)), (5, (.ls z2 2 out2.length cap2)), (2, (.p 0 0))] (fun ρ => ⟨rfl, (congrArg (Value.int .i64) (by rw [wrap_id (by omega)]; first | rfl | omega)), ⟨rfl, rfl, ⟨rfl, rfl, ⟨rfl, rfl, ⟨rfl, rfl, ⟨rfl, rfl, ⟨rfl, rfl, ⟨rfl, rfl, ⟨rfl, rfl, ⟨rfl, rfl, ⟨rfl, rfl, trivial⟩⟩⟩⟩⟩⟩⟩⟩⟩⟩⟩) ?_
     refine WK_keep [27, 26, 25, 7, 20, 19, 18, 15, 14, 5, 2] [3, 2] rfl rfl ?_
     exact WQ_next ((k + 1), out2, z2, arr2, cap2) (by show n22 - (k + 1) < n22 - k; omega) ⟨hc25, ⟨by omega, (by first | omega | (simp only [List.length_append, List.length_cons, List.length_nil]; omega)), ho2, hzz2, hex2.imp2 (FPk_not hx27 hR36 (by simpa using hd))⟩⟩ (fun ρ a w h => h)
   ·
    replace hc2 := of_decide_eq_false hc2
    refine WC_exit ?_
    refine WQ_then_exit ?_
    refine WQ_then_exit ?_
    refine WQ_hit ?_
    refine WQ_blk ?_
    refine WQ_code ?_
    refine WC_region ?_
    refine WL_execS htb 2 [20, 19, 18, 15, 14, 5, 2] [2] ⟨[(20, (iI (IntKind.i64.wrap (((r : Nat) : Int) + 1)))), (19, (iN n_g)), (18, (sS (some q13) n_g c_g)), (15, (iN t)), (14, (iN n_g)), (5, (.ls z2 2 out2.length cap2)), (2, (.p 0 0))], [(2, (.lst z2 9 arr2))], 4, [], [(0, bk8, (.cells 24 [(sS (some q13) n_g c_g)]))]⟩ (by kernel_rfl) ?_
    refine WL_nil ?_
    refine WK_env [(20, (iN (r + 1))), (19, (iN n_g)), (18, (sS (some q13) n_g c_g)), (15, (iN t)), (14, (iN n_g)), (5, (.ls z2 2 out2.length cap2)), (2, (.p 0 0))] (fun ρ => ⟨rfl, (congrArg (Value.int .i64) (by rw [wrap_id (by omega)]; first | rfl | omega)), ⟨rfl, rfl, ⟨rfl, rfl, ⟨rfl, rfl, ⟨rfl, rfl, ⟨rfl, rfl, ⟨rfl, rfl, trivial⟩⟩⟩⟩⟩⟩⟩) ?_
    refine WK_keep [20, 19, 18, 15, 14, 5, 2] [2] rfl rfl ?_
    exact WQ_next ((r + 1), out2, z2, arr2, cap2) (by show n_g - (r + 1) < n_g - r; omega) ⟨hc12, ⟨by omega, (by first | omega | (simp only [List.length_append, List.length_cons, List.length_nil]; omega)), ho2, hzz2, hex2.imp (FPr_step hx14 (by omega))⟩⟩ (fun ρ a w h => h)
  ·
   replace hc1 := of_decide_eq_false hc1
   refine WC_exit ?_
   refine WQ_then_exit ?_
   refine WQ_then_exit ?_
   refine WQ_hit ?_
   refine WQ_blk ?_
   refine WQ_code ?_
   refine WC_region ?_
   refine WL_execS htb 2 [15, 14, 5, 2] [2] ⟨[(15, (iI (IntKind.i64.wrap (((t : Nat) : Int) + 1)))), (14, (iN n_g)), (5, (.ls z1 2 out1.length cap1)), (2, (.p 0 0))], [(2, (.lst z1 9 arr1))], 3, [], [(0, bk8, (.cells 24 [(sS A_g n_g c_g)]))]⟩ (by kernel_rfl) ?_
   refine WL_nil ?_
   refine WK_env [(15, (iN (t + 1))), (14, (iN n_g)), (5, (.ls z1 2 out1.length cap1)), (2, (.p 0 0))] (fun ρ => ⟨rfl, (congrArg (Value.int .i64) (by rw [wrap_id (by omega)]; first | rfl | omega)), ⟨rfl, rfl, ⟨rfl, rfl, ⟨rfl, rfl, trivial⟩⟩⟩⟩) ?_
   refine WK_keep [15, 14, 5, 2] [2] rfl rfl ?_
   exact WQ_next ((t + 1), out1, z1, arr1, cap1) (by show n_g - (t + 1) < n_g - t; omega) ⟨hc10, ⟨by omega, (by first | omega | (simp only [List.length_append, List.length_cons, List.length_nil]; omega)), ho1, hzz1, hex1.next (by omega) hex.2⟩⟩ (fun ρ a w h => h)
 ·
  replace hc := of_decide_eq_false hc
  refine WC_exit ?_
  refine WQ_then_exit ?_
  refine WQ_then_exit ?_
  refine WQ_hit ?_
  refine WQ_code ?_
  refine WC_seq (WC_region ?_)
  refine WL_execS htb 2 [4] [2] ⟨[(4, (.ls z 2 out.length cap))], [(2, (.lst z 9 arr))], 3, [], [(0, bk8, (.cells 24 [(sS A_g n_g c_g)]))]⟩ (by kernel_rfl) ?_
  refine WL_nil ?_
  refine WQ_code ?_
  refine WC_ret ?_
  refine WK_freezeL 2 rfl rfl ?_
  intro bk12 G11 hle hbk12
  replace hc10 := Le.trans hc10 hle
  replace h_g := h_g.mono hle
  replace hz := hz.mono hle
  obtain ⟨A14, n15, c16, e17, hs13⟩ := OwnL.sl (n := out.length) ho hle hzz hbk12 rfl
  refine WK_env [(4, (sS A14 n15 c16))] (fun ρ => ⟨rfl, (by exact e17), trivial⟩) ?_
  have lhs13 := hs13.len'
  exact WQ_done htb [(sS A14 n15 c16)] _ (.inl rfl) rfl (by kernel_rfl) (fun ρ w hW => ⟨out, _, _, _, rfl, hs13, fertO_iff hex.1 hex.2 (by omega)⟩)

theorem led8_ok {w : World} {G : Heap} (hG : Has w G) {g : (List (ByteArray × (List (List ByteArray))))} {A_g : Option Addr} {n_g : Nat} {c_g : Nat} (h_g : Sl (tPair tStr (tSlice (tSlice tStr))) G A_g n_g c_g g) (hg : SmallG g) :
    Calls Try.prog 68 #[(.agg #[.slice A_g n_g c_g])] w (Ret w G fun v G' => ∃ (r : (List ByteArray)) (A_r : Option Addr) (n_r : Nat) (c_r : Nat), v = .slice A_r n_r c_r ∧ (Sl tStr G' A_r n_r c_r r) ∧ (∀ s, s ∈ r ↔ Led g s)) := by
 have lh_g := h_g.len'
 refine enter [(.agg [(sS A_g n_g c_g)])] 66 Try.func68 rfl rfl rfl rfl hG ?_
 refine WC_seq (WC_region ?_)
 refine WL_execS htb 2 [1] [0] ⟨[(1, (.p 0 0))], [(0, (.cells 24 [(sS A_g n_g c_g)]))], 1, [], []⟩ (by kernel_rfl) ?_
 refine WL_nil ?_
 refine WQ_code ?_
 refine WC_seq ?_
 refine WC_seq (WC_region ?_)
 refine WL_execS htb 4 [14, 1] [0] ⟨[(14, (bB ((((n_g : Nat) : Int) : Int) == 0))), (1, (.p 0 0))], [(0, (.cells 24 [(sS A_g n_g c_g)]))], 1, [], []⟩ (by kernel_rfl) ?_
 refine WL_nil ?_
 refine WQ_code ?_
 refine WC_cond (b := ((((n_g : Nat) : Int) : Int) == 0)) rfl (fun hb0 => ?_) (fun hb0 => ?_)
 ·
  replace hb0 := eq_of_beq hb0
  refine WC_seq (WC_region ?_)
  refine WL_execS htb 1 [2] [] ⟨[(2, (sS none 0 0))], [], 1, [], []⟩ (by kernel_rfl) ?_
  refine WL_nil ?_
  refine WQ_code ?_
  refine WC_ret ?_
  refine WQ_then_ret ?_
  exact WQ_done htb [(sS none 0 0)] _ (.inl rfl) rfl (by kernel_rfl) (fun ρ w hW => ⟨[], _, _, _, rfl, (Sl.none0 _ _), (fun s => ⟨(fun h => by cases h), fun h => absurd h (led_nil (List.length_eq_zero_iff.1 (by omega)))⟩)⟩)
 ·
  replace hb0 := ne_of_beq_false hb0
  have hg1 := hg.1
  have hal := allNames_len hg
  refine WC_skip ?_
  refine WQ_code ?_
  refine WC_seq (WC_region ?_)
  refine WL_execS htb 2 [16, 1] [0] ⟨[(16, (sS A_g n_g c_g)), (1, (.p 0 0))], [(0, (.cells 24 [(sS A_g n_g c_g)]))], 1, [], []⟩ (by kernel_rfl) ?_
  obtain ⟨q1, rfl⟩ := h_g.ptr (by omega)
  obtain ⟨⟨x4, x6⟩, _, hx2, ⟨_, _, rfl, ⟨rfl, hn5⟩, hr7⟩, at3⟩ := h_g.get 0 (by omega)
  obtain ⟨A9, n10, c11, rfl, hs8⟩ := Sl.of hr7
  replace hs8 : Sl (tSlice tStr) _ A9 n10 c11 x6 := hs8
  have lhs8 := hs8.len'
  replace at3 : At G (q1.add (0 * 2)) [.string x4, .slice A9 n10 c11] := at3
  refine WL_op (WOp_idx htb q1 n_g 0 2 (by kernel_rfl) (by omega) (by omega) ?_)
  refine WL_execS htb 1 [18, 1] [0] ⟨[(18, (.v (.pointer (some ((q1.add (0 * 2)).add 0))))), (1, (.p 0 0))], [(0, (.cells 24 [(sS (some q1) n_g c_g)]))], 1, [], []⟩ (by kernel_rfl) ?_
  refine WL_op (WOp_ld htb ((q1.add (0 * 2)).add 0) false 1 [.string x4] (by kernel_rfl) (at3.field 0 rfl) rfl (by decide) ?_)
  refine WL_execS htb 2 [3, 1] [1, 0] ⟨[(3, (.s 1 1 1)), (1, (.p 0 0))], [(1, (.cells 9 [(tS x4)])), (0, (.cells 24 [(sS (some q1) n_g c_g)]))], 2, [], []⟩ (by kernel_rfl) ?_
  refine WL_nil ?_
  refine WQ_code ?_
  refine WC_seq ?_
  refine WC_seq (WC_region ?_)
  refine WL_execS htb 1 [4, 3, 1] [1, 0] ⟨[(4, (iI 0)), (3, (.s 1 1 1)), (1, (.p 0 0))], [(1, (.cells 9 [(tS x4)])), (0, (.cells 24 [(sS (some q1) n_g c_g)]))], 2, [], []⟩ (by kernel_rfl) ?_
  refine WL_nil ?_
  refine WQ_code ?_
  refine WC_block ?_
  refine WK_lst 1 [.string x4] rfl (fun ρ => rfl) ?_
  have ho12 : OwnL tStr G [x4] (([.string x4] : List Value).toArray) 1 := OwnL.lit (cs := [.string x4]) (RepsL.cons' (rep_str _ (x := x4) hn5) .nil) (by first | decide | simp [big])
  refine WK_freeze 0 rfl rfl rfl rfl ?_
  intro bk14 G13 hle hbk14
  replace h_g := h_g.mono hle
  replace ho12 := ho12.mono hle
  have hz := FZ.cons (h := 0) hbk14 rfl (FZ.nil _)
  refine WK_keep [4, 3, 1] [1] rfl rfl ?_
  refine WK_env [(4, (iN 0)), (3, (.ls false 1 (([x4]).length) 1)), (1, (.p 0 0))] (fun ρ => ⟨rfl, rfl, ⟨rfl, rfl, ⟨rfl, rfl, trivial⟩⟩⟩) ?_
  refine WC_loop (ι := Nat × List ByteArray × Array Value × Nat) (fun (i, out, arr, cap) G15 => Le G13 G15 ∧ (i ≤ out.length ∧ OwnL tStr G15 out arr cap ∧ (LedW g x4 i out out True))) (fun (i, out, arr, cap) => ⟨[(4, (iN i)), (3, (.ls false 1 out.length cap)), (1, (.p 0 0))], [(1, (.lst false 9 arr))], 2, [], [(0, bk14, (.cells 24 [(sS (some q1) n_g c_g)]))]⟩) (fun (i, out, arr, cap) => (allNames g).length + 2 - i) (0, [x4], ([.string x4] : List Value).toArray, 1) ⟨Le.refl _, ⟨Nat.zero_le _, ho12, LedW.start (r := (x4, x6)) hx2⟩⟩ rfl ?_
  rintro ⟨i, out, arr, cap⟩ G15 ⟨hle, hF⟩
  show WC _ _ _ _ _ ⟨[(4, (iN i)), (3, (.ls false 1 out.length cap)), (1, (.p 0 0))], [(1, (.lst false 9 arr))], 2, [], [(0, bk14, (.cells 24 [(sS (some q1) n_g c_g)]))]⟩ _
  replace h_g := h_g.mono hle
  replace hz := hz.mono hle
  replace ho12 := ho12.mono hle
  have hc16 := hle
  obtain ⟨hi, ho, hex⟩ := hF
  have hln := nodup_len hex.nd hex.sub; rw [List.length_cons] at hln
  refine WC_seq ?_
  refine WC_seq (WC_region ?_)
  refine WL_execS htb 4 [24, 4, 3, 1] [1] ⟨[(24, (bB (decide ((((i : Nat) : Int) : Int) < ((out.length : Nat) : Int))))), (4, (iN i)), (3, (.ls false 1 out.length cap)), (1, (.p 0 0))], [(1, (.lst false 9 arr))], 2, [], [(0, bk14, (.cells 24 [(sS (some q1) n_g c_g)]))]⟩ (by kernel_rfl) ?_
  refine WL_nil ?_
  refine WQ_code ?_
  refine WC_cond (b := (decide ((((i : Nat) : Int) : Int) < ((out.length : Nat) : Int)))) rfl (fun hc => ?_) (fun hc => ?_)
  ·
   replace hc := of_decide_eq_true hc
   refine WC_skip ?_
   refine WQ_code ?_
   refine WC_seq ?_
   refine WC_block ?_
   refine WC_seq (WC_region ?_)
   refine WL_execS htb 4 [30, 29, 28, 4, 3, 1] [1] ⟨[(30, (iI 0)), (29, (iN n_g)), (28, (sS (some q1) n_g c_g)), (4, (iN i)), (3, (.ls false 1 out.length cap)), (1, (.p 0 0))], [(1, (.lst false 9 arr))], 2, [], [(0, bk14, (.cells 24 [(sS (some q1) n_g c_g)]))]⟩ (by kernel_rfl) ?_
   refine WL_nil ?_
   refine WQ_code ?_
   refine WC_block ?_
   obtain ⟨cr, hcr⟩ : ∃ cr, out[i]? = some cr := ⟨_, List.getElem?_eq_getElem (by omega)⟩
   refine WK_keep [30, 29, 28, 4, 3, 1] [1] rfl rfl ?_
   refine WK_env [(30, (iN 0)), (29, (iN n_g)), (28, (sS (some q1) n_g c_g)), (4, (iN i)), (3, (.ls false 1 out.length cap)), (1, (.p 0 0))] (fun ρ => ⟨rfl, rfl, ⟨rfl, rfl, ⟨rfl, rfl, ⟨rfl, rfl, ⟨rfl, rfl, ⟨rfl, rfl, trivial⟩⟩⟩⟩⟩⟩) ?_
   refine WC_loop (ι := Nat × List ByteArray × Array Value × Nat) (fun (r, out1, arr1, cap1) G17 => Le G15 G17 ∧ (r ≤ n_g ∧ OwnL tStr G17 out1 arr1 cap1 ∧ (LedW g x4 i out out1 (LPr g cr r out1)))) (fun (r, out1, arr1, cap1) => ⟨[(30, (iN r)), (29, (iN n_g)), (28, (sS (some q1) n_g c_g)), (4, (iN i)), (3, (.ls false 1 out1.length cap1)), (1, (.p 0 0))], [(1, (.lst false 9 arr1))], 2, [], [(0, bk14, (.cells 24 [(sS (some q1) n_g c_g)]))]⟩) (fun (r, out1, arr1, cap1) => n_g - r) (0, out, arr, cap) ⟨Le.refl _, ⟨Nat.zero_le _, ho, hex.imp (fun _ => LPr_zero)⟩⟩ rfl ?_
   rintro ⟨r, out1, arr1, cap1⟩ G17 ⟨hle, hF⟩
   show WC _ _ _ _ _ ⟨[(30, (iN r)), (29, (iN n_g)), (28, (sS (some q1) n_g c_g)), (4, (iN i)), (3, (.ls false 1 out1.length cap1)), (1, (.p 0 0))], [(1, (.lst false 9 arr1))], 2, [], [(0, bk14, (.cells 24 [(sS (some q1) n_g c_g)]))]⟩ _
   replace hc16 := Le.trans hc16 hle
   replace h_g := h_g.mono hle
   replace hz := hz.mono hle
   replace ho := ho.mono hle
   have hc18 := hle
   obtain ⟨hi1, ho1, hex1⟩ := hF
   have hln1 := nodup_len hex1.nd hex1.sub; rw [List.length_cons] at hln1
   refine WC_seq (WC_region ?_)
   refine WL_execS htb 1 [31, 30, 29, 28, 4, 3, 1] [1] ⟨[(31, (bB (decide ((((r : Nat) : Int) : Int) < ((n_g : Nat) : Int))))), (30, (iN r)), (29, (iN n_g)), (28, (sS (some q1) n_g c_g)), (4, (iN i)), (3, (.ls false 1 out1.length cap1)), (1, (.p 0 0))], [(1, (.lst false 9 arr1))], 2, [], [(0, bk14, (.cells 24 [(sS (some q1) n_g c_g)]))]⟩ (by kernel_rfl) ?_
   refine WL_nil ?_
   refine WQ_code ?_
   refine WC_seq ?_
   refine WC_cond (b := (decide ((((r : Nat) : Int) : Int) < ((n_g : Nat) : Int)))) rfl (fun hc1 => ?_) (fun hc1 => ?_)
   ·
    replace hc1 := of_decide_eq_true hc1
    refine WC_skip ?_
    refine WQ_code ?_
    refine WC_seq ?_
    refine WC_block ?_
    refine WC_seq (WC_region ?_)
    obtain ⟨⟨x21, x23⟩, _, hx19, ⟨_, _, rfl, ⟨rfl, hn22⟩, hr24⟩, at20⟩ := h_g.get r (by omega)
    obtain ⟨A26, n27, c28, rfl, hs25⟩ := Sl.of hr24
    replace hs25 : Sl (tSlice tStr) _ A26 n27 c28 x23 := hs25
    have lhs25 := hs25.len'
    replace at20 : At G17 (q1.add (r * 2)) [.string x21, .slice A26 n27 c28] := at20
    refine WL_op (WOp_idx htb q1 n_g ((r : Nat) : Int) 2 (by kernel_rfl) (by omega) (by omega) ?_)
    refine WL_op (WOp_ld htb (q1.add (r * 2)) true 2 [.string x21, .slice A26 n27 c28] (by kernel_rfl) at20 rfl (by decide) ?_)
    refine WL_execS htb 2 [6, 30, 29, 28, 4, 3, 1] [2, 1] ⟨[(6, (.p 2 0)), (30, (iN r)), (29, (iN n_g)), (28, (sS (some q1) n_g c_g)), (4, (iN i)), (3, (.ls false 1 out1.length cap1)), (1, (.p 0 0))], [(2, (.cells 34 [(tS x21), (sS A26 n27 c28)])), (1, (.lst false 9 arr1))], 3, [], [(0, bk14, (.cells 24 [(sS (some q1) n_g c_g)]))]⟩ (by kernel_rfl) ?_
    refine WL_nil ?_
    refine WQ_code ?_
    refine WC_seq ?_
    refine WK_freeze 2 rfl rfl rfl rfl ?_
    intro bk30 G29 hle hbk30
    replace hc16 := Le.trans hc16 hle
    replace hc18 := Le.trans hc18 hle
    replace h_g := h_g.mono hle
    replace hs25 := hs25.mono hle
    replace hz := hz.mono hle
    replace ho1 := ho1.mono hle
    have hz := FZ.cons (h := 2) hbk30 rfl hz
    refine WC_seq (WC_draw mixed ?_)
    refine WD_takeL htb rfl (fun _ _ _ _ _ h => h) (Le.refl _) [0, 1, 2, 3] (fuel := 3) (listed' := bts 7 15) (S' := ⟨[(37, (iN i)), (36, (.ls false 1 out1.length cap1)), (35, (tS x21)), (34, (.p 2 0)), (6, (.p 2 0)), (30, (iN r)), (29, (iN n_g)), (28, (sS (some q1) n_g c_g)), (4, (iN i)), (3, (.ls false 1 out1.length cap1)), (1, (.p 0 0))], [(1, (.lst false 9 arr1))], 3, [], [(2, bk30, (.cells 34 [(tS x21), (sS A26 n27 c28)])), (0, bk14, (.cells 24 [(sS (some q1) n_g c_g)]))]⟩) hz (by kernel_rfl) rfl ?_
    have hle1 := hex1.pre.length_le
    have hcr1 := hex1.at hcr
    refine WD_one 4 (by rfl) (by decide +kernel) (WOp_idxo htb 1 out1.length ((i : Nat) : Int) 1 (by kernel_rfl) (by omega) (by omega) (WD_on (Le.refl _) ?_))
    refine WD_one 5 (by rfl) (by decide +kernel) (WOp_ldo htb 1 (i * 1) false 1 [.string cr] (by kernel_rfl) rfl (ho1.str' hcr1) rfl (by decide) (WD_on (Le.refl _) ?_))
    refine WD_takeL htb rfl (fun _ _ _ _ _ h => h) (Le.refl _) [6] (fuel := 0) (listed' := bts 7 127) (S' := ⟨[(40, (bB (!((x21 : ByteArray).toList == (cr : ByteArray).toList)))), (39, (tS cr)), (38, (.p 1 (i * 1))), (37, (iN i)), (36, (.ls false 1 out1.length cap1)), (35, (tS x21)), (34, (.p 2 0)), (6, (.p 2 0)), (30, (iN r)), (29, (iN n_g)), (28, (sS (some q1) n_g c_g)), (4, (iN i)), (3, (.ls false 1 out1.length cap1)), (1, (.p 0 0))], [(1, (.lst false 9 arr1))], 3, [], [(2, bk30, (.cells 34 [(tS x21), (sS A26 n27 c28)])), (0, bk14, (.cells 24 [(sS (some q1) n_g c_g)]))]⟩) hz (by kernel_rfl) rfl ?_
    refine WD_done (by decide +kernel) ?_
    refine WK_keep [40, 6, 30, 29, 28, 4, 3, 1] [1] rfl rfl ?_
    refine WQ_code ?_
    refine WC_cond (b := (!((x21 : ByteArray).toList == (cr : ByteArray).toList))) rfl (fun hne => ?_) (fun hne => ?_)
    ·
     rw [Bool.not_eq_true'] at hne
     replace hne := ne_of_beq_false hne
     refine WC_exit ?_
     refine WQ_then_exit ?_
     refine WQ_hit ?_
     refine WQ_code ?_
     refine WC_region ?_
     refine WL_execS htb 2 [30, 29, 28, 4, 3, 1] [1] ⟨[(30, (iI (IntKind.i64.wrap (((r : Nat) : Int) + 1)))), (29, (iN n_g)), (28, (sS (some q1) n_g c_g)), (4, (iN i)), (3, (.ls false 1 out1.length cap1)), (1, (.p 0 0))], [(1, (.lst false 9 arr1))], 3, [], [(2, bk30, (.cells 34 [(tS x21), (sS A26 n27 c28)])), (0, bk14, (.cells 24 [(sS (some q1) n_g c_g)]))]⟩ (by kernel_rfl) ?_
     refine WL_nil ?_
     refine WK_env [(30, (iN (r + 1))), (29, (iN n_g)), (28, (sS (some q1) n_g c_g)), (4, (iN i)), (3, (.ls false 1 out1.length cap1)), (1, (.p 0 0))] (fun ρ => ⟨rfl, (congrArg (Value.int .i64) (by rw [wrap_id (by omega)]; first | rfl | omega)), ⟨rfl, rfl, ⟨rfl, rfl, ⟨rfl, rfl, ⟨rfl, rfl, ⟨rfl, rfl, trivial⟩⟩⟩⟩⟩⟩) ?_
     refine WK_dropfz 1 ?_
     show WK _ _ ⟨_, _, _, _, [(0, bk14, (.cells 24 [(sS (some q1) n_g c_g)]))]⟩ _
     refine WK_keep [30, 29, 28, 4, 3, 1] [1] rfl rfl ?_
     exact WQ_next ((r + 1), out1, arr1, cap1) (by show n_g - (r + 1) < n_g - r; omega) ⟨hc18, ⟨(by omega), ho1, hex1.imp (LPr_no hx19 (fun e => hne (by rw [e])))⟩⟩ (fun ρ a w h => h)
    ·
     rw [Bool.not_eq_false'] at hne
     replace hne := eq_of_beq hne
     have hcn : x21 = cr := bytes_eq (by simpa using hne)
     refine WC_skip ?_
     refine WQ_code ?_
     refine WC_seq (WC_region ?_)
     refine WL_execS htb 4 [44, 43, 42, 30, 29, 28, 4, 3, 1] [1] ⟨[(44, (iI 0)), (43, (iN n27)), (42, (sS A26 n27 c28)), (30, (iN r)), (29, (iN n_g)), (28, (sS (some q1) n_g c_g)), (4, (iN i)), (3, (.ls false 1 out1.length cap1)), (1, (.p 0 0))], [(1, (.lst false 9 arr1))], 3, [], [(2, bk30, (.cells 34 [(tS x21), (sS A26 n27 c28)])), (0, bk14, (.cells 24 [(sS (some q1) n_g c_g)]))]⟩ (by kernel_rfl) ?_
     refine WL_nil ?_
     refine WQ_code ?_
     refine WC_block ?_
     refine WK_keep [44, 43, 42, 30, 29, 28, 4, 3, 1] [1] rfl rfl ?_
     refine WK_env [(44, (iN 0)), (43, (iN n27)), (42, (sS A26 n27 c28)), (30, (iN r)), (29, (iN n_g)), (28, (sS (some q1) n_g c_g)), (4, (iN i)), (3, (.ls false 1 out1.length cap1)), (1, (.p 0 0))] (fun ρ => ⟨rfl, rfl, ⟨rfl, rfl, ⟨rfl, rfl, ⟨rfl, rfl, ⟨rfl, rfl, ⟨rfl, rfl, ⟨rfl, rfl, ⟨rfl, rfl, ⟨rfl, rfl, trivial⟩⟩⟩⟩⟩⟩⟩⟩⟩) ?_
     refine WC_loop (ι := Nat × List ByteArray × Array Value × Nat) (fun (k, out2, arr2, cap2) G31 => Le G29 G31 ∧ (k ≤ n27 ∧ OwnL tStr G31 out2 arr2 cap2 ∧ (LedW g x4 i out out2 (LPk g cr r x23 k out2)))) (fun (k, out2, arr2, cap2) => ⟨[(44, (iN k)), (43, (iN n27)), (42, (sS A26 n27 c28)), (30, (iN r)), (29, (iN n_g)), (28, (sS (some q1) n_g c_g)), (4, (iN i)), (3, (.ls false 1 out2.length cap2)), (1, (.p 0 0))], [(1, (.lst false 9 arr2))], 3, [], [(2, bk30, (.cells 34 [(tS x21), (sS A26 n27 c28)])), (0, bk14, (.cells 24 [(sS (some q1) n_g c_g)]))]⟩) (fun (k, out2, arr2, cap2) => n27 - k) (0, out1, arr1, cap1) ⟨Le.refl _, ⟨Nat.zero_le _, ho1, hex1.imp LPk_zero⟩⟩ rfl ?_
     rintro ⟨k, out2, arr2, cap2⟩ G31 ⟨hle, hF⟩
     show WC _ _ _ _ _ ⟨[(44, (iN k)), (43, (iN n27)), (42, (sS A26 n27 c28)), (30, (iN r)), (29, (iN n_g)), (28, (sS (some q1) n_g c_g)), (4, (iN i)), (3, (.ls false 1 out2.length cap2)), (1, (.p 0 0))], [(1, (.lst false 9 arr2))], 3, [], [(2, bk30, (.cells 34 [(tS x21), (sS A26 n27 c28)])), (0, bk14, (.cells 24 [(sS (some q1) n_g c_g)]))]⟩ _
     replace hc16 := Le.trans hc16 hle
     replace hc18 := Le.trans hc18 hle
     replace h_g := h_g.mono hle
     replace hs25 := hs25.mono hle
     replace hz := hz.mono hle
     replace ho1 := ho1.mono hle
     have hc32 := hle
     obtain ⟨hi2, ho2, hex2⟩ := hF
     have hln2 := nodup_len hex2.nd hex2.sub; rw [List.length_cons] at hln2
     refine WC_seq (WC_region ?_)
     refine WL_execS htb 1 [45, 44, 43, 42, 30, 29, 28, 4, 3, 1] [1] ⟨[(45, (bB (decide ((((k : Nat) : Int) : Int) < ((n27 : Nat) : Int))))), (44, (iN k)), (43, (iN n27)), (42, (sS A26 n27 c28)), (30, (iN r)), (29, (iN n_g)), (28, (sS (some q1) n_g c_g)), (4, (iN i)), (3, (.ls false 1 out2.length cap2)), (1, (.p 0 0))], [(1, (.lst false 9 arr2))], 3, [], [(2, bk30, (.cells 34 [(tS x21), (sS A26 n27 c28)])), (0, bk14, (.cells 24 [(sS (some q1) n_g c_g)]))]⟩ (by kernel_rfl) ?_
     refine WL_nil ?_
     refine WQ_code ?_
     refine WC_seq ?_
     refine WC_cond (b := (decide ((((k : Nat) : Int) : Int) < ((n27 : Nat) : Int)))) rfl (fun hc2 => ?_) (fun hc2 => ?_)
     ·
      replace hc2 := of_decide_eq_true hc2
      refine WC_skip ?_
      refine WQ_code ?_
      refine WC_seq ?_
      refine WC_block ?_
      refine WC_seq (WC_region ?_)
      obtain ⟨q33, rfl⟩ := hs25.ptr (by omega)
      obtain ⟨x36, _, hx34, hr37, at35⟩ := hs25.get k (by omega)
      obtain ⟨A39, n40, c41, rfl, hs38⟩ := Sl.of hr37
      replace hs38 : Sl tStr _ A39 n40 c41 x36 := hs38
      have lhs38 := hs38.len'
      replace at35 : At G31 (q33.add (k * 1)) [.slice A39 n40 c41] := at35
      refine WL_op (WOp_idx htb q33 n27 ((k : Nat) : Int) 1 (by kernel_rfl) (by omega) (by omega) ?_)
      refine WL_op (WOp_ld htb (q33.add (k * 1)) false 1 [.slice A39 n40 c41] (by kernel_rfl) at35 rfl (by decide) ?_)
      refine WL_execS htb 1 [8, 44, 43, 42, 30, 29, 28, 4, 3, 1] [1] ⟨[(8, (sS A39 n40 c41)), (44, (iN k)), (43, (iN n27)), (42, (sS (some q33) n27 c28)), (30, (iN r)), (29, (iN n_g)), (28, (sS (some q1) n_g c_g)), (4, (iN i)), (3, (.ls false 1 out2.length cap2)), (1, (.p 0 0))], [(1, (.lst false 9 arr2))], 3, [], [(2, bk30, (.cells 34 [(tS x21), (sS (some q33) n27 c28)])), (0, bk14, (.cells 24 [(sS (some q1) n_g c_g)]))]⟩ (by kernel_rfl) ?_
      refine WL_nil ?_
      refine WQ_code ?_
      refine WC_seq (WC_region ?_)
      refine WL_execS htb 3 [50, 49, 48, 44, 43, 42, 30, 29, 28, 4, 3, 1] [1] ⟨[(50, (iI 0)), (49, (iN n40)), (48, (sS A39 n40 c41)), (44, (iN k)), (43, (iN n27)), (42, (sS (some q33) n27 c28)), (30, (iN r)), (29, (iN n_g)), (28, (sS (some q1) n_g c_g)), (4, (iN i)), (3, (.ls false 1 out2.length cap2)), (1, (.p 0 0))], [(1, (.lst false 9 arr2))], 3, [], [(2, bk30, (.cells 34 [(tS x21), (sS (some q33) n27 c28)])), (0, bk14, (.cells 24 [(sS (some q1) n_g c_g)]))]⟩ (by kernel_rfl) ?_
      refine WL_nil ?_
      refine WQ_code ?_
      refine WC_block ?_
      refine WK_keep [50, 49, 48, 44, 43, 42, 30, 29, 28, 4, 3, 1] [1] rfl rfl ?_
      refine WK_env [(50, (iN 0)), (49, (iN n40)), (48, (sS A39 n40 c41)), (44, (iN k)), (43, (iN n27)), (42, (sS (some q33) n27 c28)), (30, (iN r)), (29, (iN n_g)), (28, (sS (some q1) n_g c_g)), (4, (iN i)), (3, (.ls false 1 out2.length cap2)), (1, (.p 0 0))] (fun ρ => ⟨rfl, rfl, ⟨rfl, rfl, ⟨rfl, rfl, ⟨rfl, rfl, ⟨rfl, rfl, ⟨rfl, rfl, ⟨rfl, rfl, ⟨rfl, rfl, ⟨rfl, rfl, ⟨rfl, rfl, ⟨rfl, rfl, ⟨rfl, rfl, trivial⟩⟩⟩⟩⟩⟩⟩⟩⟩⟩⟩⟩) ?_
      refine WC_loop (ι := Nat × List ByteArray × Array Value × Nat) (fun (l, out3, arr3, cap3) G42 => Le G31 G42 ∧ (l ≤ n40 ∧ OwnL tStr G42 out3 arr3 cap3 ∧ (LedW g x4 i out out3 (LPl g cr r x23 k x36 l out3)))) (fun (l, out3, arr3, cap3) => ⟨[(50, (iN l)), (49, (iN n40)), (48, (sS A39 n40 c41)), (44, (iN k)), (43, (iN n27)), (42, (sS (some q33) n27 c28)), (30, (iN r)), (29, (iN n_g)), (28, (sS (some q1) n_g c_g)), (4, (iN i)), (3, (.ls false 1 out3.length cap3)), (1, (.p 0 0))], [(1, (.lst false 9 arr3))], 3, [], [(2, bk30, (.cells 34 [(tS x21), (sS (some q33) n27 c28)])), (0, bk14, (.cells 24 [(sS (some q1) n_g c_g)]))]⟩) (fun (l, out3, arr3, cap3) => n40 - l) (0, out2, arr2, cap2) ⟨Le.refl _, ⟨Nat.zero_le _, ho2, hex2.imp LPl_zero⟩⟩ rfl ?_
      rintro ⟨l, out3, arr3, cap3⟩ G42 ⟨hle, hF⟩
      show WC _ _ _ _ _ ⟨[(50, (iN l)), (49, (iN n40)), (48, (sS A39 n40 c41)), (44, (iN k)), (43, (iN n27)), (42, (sS (some q33) n27 c28)), (30, (iN r)), (29, (iN n_g)), (28, (sS (some q1) n_g c_g)), (4, (iN i)), (3, (.ls false 1 out3.length cap3)), (1, (.p 0 0))], [(1, (.lst false 9 arr3))], 3, [], [(2, bk30, (.cells 34 [(tS x21), (sS (some q33) n27 c28)])), (0, bk14, (.cells 24 [(sS (some q1) n_g c_g)]))]⟩ _
      replace hc16 := Le.trans hc16 hle
      replace hc18 := Le.trans hc18 hle
      replace hc32 := Le.trans hc32 hle
      replace h_g := h_g.mono hle
      replace hs25 := hs25.mono hle
      replace hs38 := hs38.mono hle
      replace hz := hz.mono hle
      replace ho2 := ho2.mono hle
      have hc43 := hle
      obtain ⟨hi3, ho3, hex3⟩ := hF
      have hln3 := nodup_len hex3.nd hex3.sub; rw [List.length_cons] at hln3
      refine WC_seq (WC_region ?_)
      refine WL_execS htb 1 [51, 50, 49, 48, 44, 43, 42, 30, 29, 28, 4, 3, 1] [1] ⟨[(51, (bB (decide ((((l : Nat) : Int) : Int) < ((n40 : Nat) : Int))))), (50, (iN l)), (49, (iN n40)), (48, (sS A39 n40 c41)), (44, (iN k)), (43, (iN n27)), (42, (sS (some q33) n27 c28)), (30, (iN r)), (29, (iN n_g)), (28, (sS (some q1) n_g c_g)), (4, (iN i)), (3, (.ls false 1 out3.length cap3)), (1, (.p 0 0))], [(1, (.lst false 9 arr3))], 3, [], [(2, bk30, (.cells 34 [(tS x21), (sS (some q33) n27 c28)])), (0, bk14, (.cells 24 [(sS (some q1) n_g c_g)]))]⟩ (by kernel_rfl) ?_
      refine WL_nil ?_
      refine WQ_code ?_
      refine WC_seq ?_
      refine WC_cond (b := (decide ((((l : Nat) : Int) : Int) < ((n40 : Nat) : Int)))) rfl (fun hc3 => ?_) (fun hc3 => ?_)
      ·
       replace hc3 := of_decide_eq_true hc3
       refine WC_skip ?_
       refine WQ_code ?_
       refine WC_seq ?_
       refine WC_block ?_
       refine WC_seq (WC_region ?_)
       obtain ⟨q44, rfl⟩ := hs38.ptr (by omega)
       obtain ⟨x47, _, hx45, ⟨rfl, hn48⟩, at46⟩ := hs38.get l (by omega)
       replace at46 : At G42 (q44.add (l * 1)) [.string x47] := at46
       refine WL_op (WOp_idx htb q44 n40 ((l : Nat) : Int) 1 (by kernel_rfl) (by omega) (by omega) ?_)
       refine WL_op (WOp_ld htb (q44.add (l * 1)) false 1 [.string x47] (by kernel_rfl) at46 rfl (by decide) ?_)
       refine WL_execS htb 1 [10, 50, 49, 48, 44, 43, 42, 30, 29, 28, 4, 3, 1] [1] ⟨[(10, (tS x47)), (50, (iN l)), (49, (iN n40)), (48, (sS (some q44) n40 c41)), (44, (iN k)), (43, (iN n27)), (42, (sS (some q33) n27 c28)), (30, (iN r)), (29, (iN n_g)), (28, (sS (some q1) n_g c_g)), (4, (iN i)), (3, (.ls false 1 out3.length cap3)), (1, (.p 0 0))], [(1, (.lst false 9 arr3))], 3, [], [(2, bk30, (.cells 34 [(tS x21), (sS (some q33) n27 c28)])), (0, bk14, (.cells 24 [(sS (some q1) n_g c_g)]))]⟩ (by kernel_rfl) ?_
       refine WL_nil ?_
       refine WQ_code ?_
       refine WC_seq (WC_region ?_)
       refine WL_execS htb 2 [55, 54, 10, 50, 49, 48, 44, 43, 42, 30, 29, 28, 4, 3, 1] [1] ⟨[(55, (tS x47)), (54, (.ls false 1 out3.length cap3)), (10, (tS x47)), (50, (iN l)), (49, (iN n40)), (48, (sS (some q44) n40 c41)), (44, (iN k)), (43, (iN n27)), (42, (sS (some q33) n27 c28)), (30, (iN r)), (29, (iN n_g)), (28, (sS (some q1) n_g c_g)), (4, (iN i)), (3, (.ls false 1 out3.length cap3)), (1, (.p 0 0))], [(1, (.lst false 9 arr3))], 3, [], [(2, bk30, (.cells 34 [(tS x21), (sS (some q33) n27 c28)])), (0, bk14, (.cells 24 [(sS (some q1) n_g c_g)]))]⟩ (by kernel_rfl) ?_
       refine WL_op (WOp_callB 65 [(.ls false 1 out3.length cap3), (tS x47)] (by kernel_rfl) (goes_of Try.func65 rfl rfl) (Φ := fun v => ∃ (r49 : Bool), v = .bool r49 ∧ (r49 = hasB out3 x47)) 1 rfl (fun ρ w b G1 hW hρ hle hH hb => ?lend) (fun v51 hv => ?_))
       case lend =>
        subst hρ
        obtain ⟨A, n', c', e, hs⟩ := OwnL.sl (n := out3.length) ho3 hle (fun h => by cases h) hb rfl
        have hsl := hs.len'
        show Calls _ _ #[nilOr false (.slice (some ⟨ρ 1, 0, none⟩) out3.length cap3), .string x47] w _
        rw [e]
        exact has_ok hH (xs := out3) (x := x47) hs hn48
       obtain ⟨r49, rfl, hR50⟩ := hv
       refine WL_execS htb 1 [57, 10, 50, 49, 48, 44, 43, 42, 30, 29, 28, 4, 3, 1] [1] ⟨[(57, (bB (!r49))), (10, (tS x47)), (50, (iN l)), (49, (iN n40)), (48, (sS (some q44) n40 c41)), (44, (iN k)), (43, (iN n27)), (42, (sS (some q33) n27 c28)), (30, (iN r)), (29, (iN n_g)), (28, (sS (some q1) n_g c_g)), (4, (iN i)), (3, (.ls false 1 out3.length cap3)), (1, (.p 0 0))], [(1, (.lst false 9 arr3))], 3, [], [(2, bk30, (.cells 34 [(tS x21), (sS (some q33) n27 c28)])), (0, bk14, (.cells 24 [(sS (some q1) n_g c_g)]))]⟩ (by kernel_rfl) ?_
       refine WL_nil ?_
       refine WQ_code ?_
       refine WC_cond (b := (!r49)) rfl (fun hd => ?_) (fun hd => ?_)
       ·
        rw [Bool.not_eq_true'] at hd
        refine WC_region ?_
        refine WL_execS htb 3 [60, 58, 50, 49, 48, 44, 43, 42, 30, 29, 28, 4, 1] [3, 1] ⟨[(60, (.s 3 1 1)), (58, (.ls false 1 out3.length cap3)), (50, (iN l)), (49, (iN n40)), (48, (sS (some q44) n40 c41)), (44, (iN k)), (43, (iN n27)), (42, (sS (some q33) n27 c28)), (30, (iN r)), (29, (iN n_g)), (28, (sS (some q1) n_g c_g)), (4, (iN i)), (1, (.p 0 0))], [(3, (.cells 9 [(tS x47)])), (1, (.lst false 9 arr3))], 4, [], [(2, bk30, (.cells 34 [(tS x21), (sS (some q33) n27 c28)])), (0, bk14, (.cells 24 [(sS (some q1) n_g c_g)]))]⟩ (by kernel_rfl) ?_
        refine WK_freezeV 3 rfl rfl rfl rfl ?_
        intro bk53 G52 hle hbk53
        replace hc16 := Le.trans hc16 hle
        replace hc18 := Le.trans hc18 hle
        replace hc32 := Le.trans hc32 hle
        replace hc43 := Le.trans hc43 hle
        replace h_g := h_g.mono hle
        replace hs25 := hs25.mono hle
        replace hs38 := hs38.mono hle
        replace hz := hz.mono hle
        replace ho3 := ho3.mono hle
        show WK _ _ ⟨[(60, (sS (some ⟨bk53, 0, none⟩) 1 1)), (58, (.ls false 1 out3.length cap3)), (50, (iN l)), (49, (iN n40)), (48, (sS (some q44) n40 c41)), (44, (iN k)), (43, (iN n27)), (42, (sS (some q33) n27 c28)), (30, (iN r)), (29, (iN n_g)), (28, (sS (some q1) n_g c_g)), (4, (iN i)), (1, (.p 0 0))], [(1, (.lst false 9 arr3))], 4, [], [(2, bk30, (.cells 34 [(tS x21), (sS (some q33) n27 c28)])), (0, bk14, (.cells 24 [(sS (some q1) n_g c_g)]))]⟩ _
        have hs54 : Sl tStr G52 (some ⟨bk53, 0, none⟩) 1 1 [x47] := Sl.lit (cs := [.string x47]) (RepsL.cons' (rep_str _ (x := x47) hn48) .nil) hbk53 rfl (by unfold big; omega)
        have lhs54 := hs54.len'
        refine WL_op (WOp_append htb false 1 out3.length cap3 (some ⟨bk53, 0, none⟩) 1 9 1 16 (by kernel_rfl) (by kernel_rfl) rfl rfl tStr (xs := out3) (ys := [x47]) ho3 rfl (fun h => by cases h) hs54.row hs54.len rfl (by decide) (by first | omega | (simp only [List.length_append, List.length_nil, List.length_drop, List.length_take, List.length_cons]; omega)) (by unfold big; first | omega | (simp only [List.length_append, List.length_nil, List.length_drop, List.length_take, List.length_cons]; omega)) (fun z55 arr56 cap57 hz58 ho59 => ?_))
        show WL _ _ _ _ _ _ ⟨[(61, (.ls z55 4 ((out3 ++ ([x47])).length) cap57)), (60, (sS (some ⟨bk53, 0, none⟩) 1 1)), (58, (.ls false 1 out3.length cap3)), (50, (iN l)), (49, (iN n40)), (48, (sS (some q44) n40 c41)), (44, (iN k)), (43, (iN n27)), (42, (sS (some q33) n27 c28)), (30, (iN r)), (29, (iN n_g)), (28, (sS (some q1) n_g c_g)), (4, (iN i)), (1, (.p 0 0))], [(4, (.lst z55 9 arr56))], 5, [], [(2, bk30, (.cells 34 [(tS x21), (sS (some q33) n27 c28)])), (0, bk14, (.cells 24 [(sS (some q1) n_g c_g)]))]⟩ _
        refine WL_execS htb 1 [3, 50, 49, 48, 44, 43, 42, 30, 29, 28, 4, 1] [4] ⟨[(3, (.ls z55 4 ((out3 ++ ([x47])).length) cap57)), (50, (iN l)), (49, (iN n40)), (48, (sS (some q44) n40 c41)), (44, (iN k)), (43, (iN n27)), (42, (sS (some q33) n27 c28)), (30, (iN r)), (29, (iN n_g)), (28, (sS (some q1) n_g c_g)), (4, (iN i)), (1, (.p 0 0))], [(4, (.lst z55 9 arr56))], 5, [], [(2, bk30, (.cells 34 [(tS x21), (sS (some q33) n27 c28)])), (0, bk14, (.cells 24 [(sS (some q1) n_g c_g)]))]⟩ (by kernel_rfl) ?_
        refine WL_nil ?_
        refine WQ_blk ?_
        refine WQ_code ?_
        refine WC_region ?_
        refine WL_execS htb 2 [50, 3, 49, 48, 44, 43, 42, 30, 29, 28, 4, 1] [4] ⟨[(50, (iI (IntKind.i64.wrap (((l : Nat) : Int) + 1)))), (3, (.ls z55 4 ((out3 ++ ([x47])).length) cap57)), (49, (iN n40)), (48, (sS (some q44) n40 c41)), (44, (iN k)), (43, (iN n27)), (42, (sS (some q33) n27 c28)), (30, (iN r)), (29, (iN n_g)), (28, (sS (some q1) n_g c_g)), (4, (iN i)), (1, (.p 0 0))], [(4, (.lst z55 9 arr56))], 5, [], [(2, bk30, (.cells 34 [(tS x21), (sS (some q33) n27 c28)])), (0, bk14, (.cells 24 [(sS (some q1) n_g c_g)]))]⟩ (by kernel_rfl) ?_
        refine WL_nil ?_
        obtain rfl : z55 = false := by (cases z55 with | false => rfl | true => (have hnil := hz58 rfl; simp at hnil))
        have hnew : x47 ∉ out3 := fun hm => by (have h5 := hR50.trans (hasB_true.2 hm); rw [h5] at hd; cases hd)
        refine WK_env [(50, (iN (l + 1))), (3, (.ls false 4 ((out3 ++ ([x47])).length) cap57)), (49, (iN n40)), (48, (sS (some q44) n40 c41)), (44, (iN k)), (43, (iN n27)), (42, (sS (some q33) n27 c28)), (30, (iN r)), (29, (iN n_g)), (28, (sS (some q1) n_g c_g)), (4, (iN i)), (1, (.p 0 0))] (fun ρ => ⟨rfl, (congrArg (Value.int .i64) (by rw [wrap_id (by omega)]; first | rfl | omega)), ⟨rfl, rfl, ⟨rfl, rfl, ⟨rfl, rfl, ⟨rfl, rfl, ⟨rfl, rfl, ⟨rfl, rfl, ⟨rfl, rfl, ⟨rfl, rfl, ⟨rfl, rfl, ⟨rfl, rfl, ⟨rfl, rfl, trivial⟩⟩⟩⟩⟩⟩⟩⟩⟩⟩⟩⟩) ?_
        refine WK_keep [50, 49, 48, 44, 43, 42, 30, 29, 28, 4, 3, 1] [4] rfl rfl ?_
        exact WQ_nextR ((l + 1), (out3 ++ ([x47])), arr56, cap57) (by show n40 - (l + 1) < n40 - l; omega) ⟨hc43, ⟨(by omega), ho59, hex3.add hcr (hcn ▸ hx19) hx34 hx45 hnew⟩⟩ [(1, 4)] rfl rfl rfl rfl rfl rfl
       ·
        rw [Bool.not_eq_false'] at hd
        refine WC_skip ?_
        refine WQ_blk ?_
        refine WQ_code ?_
        refine WC_region ?_
        refine WL_execS htb 2 [50, 49, 48, 44, 43, 42, 30, 29, 28, 4, 3, 1] [1] ⟨[(50, (iI (IntKind.i64.wrap (((l : Nat) : Int) + 1)))), (49, (iN n40)), (48, (sS (some q44) n40 c41)), (44, (iN k)), (43, (iN n27)), (42, (sS (some q33) n27 c28)), (30, (iN r)), (29, (iN n_g)), (28, (sS (some q1) n_g c_g)), (4, (iN i)), (3, (.ls false 1 out3.length cap3)), (1, (.p 0 0))], [(1, (.lst false 9 arr3))], 3, [], [(2, bk30, (.cells 34 [(tS x21), (sS (some q33) n27 c28)])), (0, bk14, (.cells 24 [(sS (some q1) n_g c_g)]))]⟩ (by kernel_rfl) ?_
        refine WL_nil ?_
        have hold : x47 ∈ out3 := hasB_true.1 (hR50.symm.trans (by simpa using hd))
        refine WK_env [(50, (iN (l + 1))), (49, (iN n40)), (48, (sS (some q44) n40 c41)), (44, (iN k)), (43, (iN n27)), (42, (sS (some q33) n27 c28)), (30, (iN r)), (29, (iN n_g)), (28, (sS (some q1) n_g c_g)), (4, (iN i)), (3, (.ls false 1 out3.length cap3)), (1, (.p 0 0))] (fun ρ => ⟨rfl, (congrArg (Value.int .i64) (by rw [wrap_id (by omega)]; first | rfl | omega)), ⟨rfl, rfl, ⟨rfl, rfl, ⟨rfl, rfl, ⟨rfl, rfl, ⟨rfl, rfl, ⟨rfl, rfl, ⟨rfl, rfl, ⟨rfl, rfl, ⟨rfl, rfl, ⟨rfl, rfl, ⟨rfl, rfl, trivial⟩⟩⟩⟩⟩⟩⟩⟩⟩⟩⟩⟩) ?_
        refine WK_keep [50, 49, 48, 44, 43, 42, 30, 29, 28, 4, 3, 1] [1] rfl rfl ?_
        exact WQ_next ((l + 1), out3, arr3, cap3) (by show n40 - (l + 1) < n40 - l; omega) ⟨hc43, ⟨(by omega), ho3, hex3.imp (LPl_had hx45 hold)⟩⟩ (fun ρ a w h => h)
      ·
       replace hc3 := of_decide_eq_false hc3
       refine WC_exit ?_
       refine WQ_then_exit ?_
       refine WQ_then_exit ?_
       refine WQ_hit ?_
       refine WQ_blk ?_
       refine WQ_code ?_
       refine WC_region ?_
       refine WL_execS htb 2 [44, 43, 42, 30, 29, 28, 4, 3, 1] [1] ⟨[(44, (iI (IntKind.i64.wrap (((k : Nat) : Int) + 1)))), (43, (iN n27)), (42, (sS (some q33) n27 c28)), (30, (iN r)), (29, (iN n_g)), (28, (sS (some q1) n_g c_g)), (4, (iN i)), (3, (.ls false 1 out3.length cap3)), (1, (.p 0 0))], [(1, (.lst false 9 arr3))], 3, [], [(2, bk30, (.cells 34 [(tS x21), (sS (some q33) n27 c28)])), (0, bk14, (.cells 24 [(sS (some q1) n_g c_g)]))]⟩ (by kernel_rfl) ?_
       refine WL_nil ?_
       refine WK_env [(44, (iN (k + 1))), (43, (iN n27)), (42, (sS (some q33) n27 c28)), (30, (iN r)), (29, (iN n_g)), (28, (sS (some q1) n_g c_g)), (4, (iN i)), (3, (.ls false 1 out3.length cap3)), (1, (.p 0 0))] (fun ρ => ⟨rfl, (congrArg (Value.int .i64) (by rw [wrap_id (by omega)]; first | rfl | omega)), ⟨rfl, rfl, ⟨rfl, rfl, ⟨rfl, rfl, ⟨rfl, rfl, ⟨rfl, rfl, ⟨rfl, rfl, ⟨rfl, rfl, ⟨rfl, rfl, trivial⟩⟩⟩⟩⟩⟩⟩⟩⟩) ?_
       refine WK_keep [44, 43, 42, 30, 29, 28, 4, 3, 1] [1] rfl rfl ?_
       exact WQ_next ((k + 1), out3, arr3, cap3) (by show n27 - (k + 1) < n27 - k; omega) ⟨hc32, ⟨(by omega), ho3, hex3.imp (LPk_step hx34 (by omega))⟩⟩ (fun ρ a w h => h)
     ·
      replace hc2 := of_decide_eq_false hc2
      refine WC_exit ?_
      refine WQ_then_exit ?_
      refine WQ_then_exit ?_
      refine WQ_hit ?_
      refine WQ_blk ?_
      refine WQ_code ?_
      refine WC_region ?_
      refine WL_execS htb 2 [30, 29, 28, 4, 3, 1] [1] ⟨[(30, (iI (IntKind.i64.wrap (((r : Nat) : Int) + 1)))), (29, (iN n_g)), (28, (sS (some q1) n_g c_g)), (4, (iN i)), (3, (.ls false 1 out2.length cap2)), (1, (.p 0 0))], [(1, (.lst false 9 arr2))], 3, [], [(2, bk30, (.cells 34 [(tS x21), (sS A26 n27 c28)])), (0, bk14, (.cells 24 [(sS (some q1) n_g c_g)]))]⟩ (by kernel_rfl) ?_
      refine WL_nil ?_
      refine WK_env [(30, (iN (r + 1))), (29, (iN n_g)), (28, (sS (some q1) n_g c_g)), (4, (iN i)), (3, (.ls false 1 out2.length cap2)), (1, (.p 0 0))] (fun ρ => ⟨rfl, (congrArg (Value.int .i64) (by rw [wrap_id (by omega)]; first | rfl | omega)), ⟨rfl, rfl, ⟨rfl, rfl, ⟨rfl, rfl, ⟨rfl, rfl, ⟨rfl, rfl, trivial⟩⟩⟩⟩⟩⟩) ?_
      refine WK_dropfz 1 ?_
      show WK _ _ ⟨_, _, _, _, [(0, bk14, (.cells 24 [(sS (some q1) n_g c_g)]))]⟩ _
      refine WK_keep [30, 29, 28, 4, 3, 1] [1] rfl rfl ?_
      exact WQ_next ((r + 1), out2, arr2, cap2) (by show n_g - (r + 1) < n_g - r; omega) ⟨hc18, ⟨(by omega), ho2, hex2.imp (LPr_step hx19 (by omega))⟩⟩ (fun ρ a w h => h)
   ·
    replace hc1 := of_decide_eq_false hc1
    have hpl := hex1.pre.length_le
    refine WC_exit ?_
    refine WQ_then_exit ?_
    refine WQ_then_exit ?_
    refine WQ_hit ?_
    refine WQ_blk ?_
    refine WQ_code ?_
    refine WC_region ?_
    refine WL_execS htb 3 [4, 3, 1] [1] ⟨[(4, (iI (IntKind.i64.wrap (((i : Nat) : Int) + 1)))), (3, (.ls false 1 out1.length cap1)), (1, (.p 0 0))], [(1, (.lst false 9 arr1))], 2, [], [(0, bk14, (.cells 24 [(sS (some q1) n_g c_g)]))]⟩ (by kernel_rfl) ?_
    refine WL_nil ?_
    refine WK_env [(4, (iN (i + 1))), (3, (.ls false 1 out1.length cap1)), (1, (.p 0 0))] (fun ρ => ⟨rfl, (congrArg (Value.int .i64) (by rw [wrap_id (by omega)]; first | rfl | omega)), ⟨rfl, rfl, ⟨rfl, rfl, trivial⟩⟩⟩) ?_
    refine WK_keep [4, 3, 1] [1] rfl rfl ?_
    exact WQ_next ((i + 1), out1, arr1, cap1) (by show (allNames g).length + 2 - (i + 1) < (allNames g).length + 2 - i; omega) ⟨hc16, ⟨(by omega), ho1, hex1.next hcr (by omega)⟩⟩ (fun ρ a w h => h)
  ·
   replace hc := of_decide_eq_false hc
   refine WC_exit ?_
   refine WQ_then_exit ?_
   refine WQ_then_exit ?_
   refine WQ_hit ?_
   refine WQ_code ?_
   refine WC_seq (WC_region ?_)
   refine WL_execS htb 2 [2] [1] ⟨[(2, (.ls false 1 out.length cap))], [(1, (.lst false 9 arr))], 2, [], [(0, bk14, (.cells 24 [(sS (some q1) n_g c_g)]))]⟩ (by kernel_rfl) ?_
   refine WL_nil ?_
   refine WQ_code ?_
   refine WC_ret ?_
   refine WK_freezeL 1 rfl rfl ?_
   intro bk18 G17 hle hbk18
   replace hc16 := Le.trans hc16 hle
   replace h_g := h_g.mono hle
   replace hz := hz.mono hle
   obtain ⟨A20, n21, c22, e23, hs19⟩ := OwnL.sl (n := out.length) ho hle (fun h => by cases h) hbk18 rfl
   refine WK_env [(2, (sS A20 n21 c22))] (fun ρ => ⟨rfl, (by exact e23), trivial⟩) ?_
   have lhs19 := hs19.len'
   exact WQ_done htb [(sS A20 n21 c22)] _ (.inl rfl) rfl (by kernel_rfl) (fun ρ w hW => ⟨out, _, _, _, rfl, hs19, hex.iff (r := (x4, x6)) hx2 (by omega)⟩)

end Go.Proofs.Ytfemkbockhpmcaa.Sym
