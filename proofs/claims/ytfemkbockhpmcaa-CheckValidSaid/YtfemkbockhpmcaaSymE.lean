/- The symbolic layer, fifth part: freezing of lists, other names for handles, make, elements of one's own rows. Own work. -/
import Derived.Test.YtfemkbockhpmcaaSymD
set_option linter.unusedSimpArgs false
set_option linter.unusedVariables false
namespace Go.Proofs.Ytfemkbockhpmcaa.Sym
open Go

/-! ### 14. A list of one's own is frozen -/
mutual
def SV.instN (h b : Nat) : SV → SV
  | .v x => .v x
  | .p k off => .p k off
  | .s k n c => bif Nat.beq k h then .v (.slice (some ⟨b, 0, none⟩) n c) else .s k n c
  | .ls z k n c => bif Nat.beq k h then .v (nilOr z (.slice (some ⟨b, 0, none⟩) n c)) else .ls z k n c
  | .m k => .m k
  | .agg l => .agg (SV.instNL h b l)
  | .tup l => .tup (SV.instNL h b l)
  | .fn f l => .fn f (SV.instNL h b l)
def SV.instNL (h b : Nat) : List SV → List SV
  | [] => []
  | x :: l => x.instN h b :: SV.instNL h b l
end
mutual
theorem SV.instN_den {ρ : Nat → Nat} {h b : Nat} (hb : ρ h = b) : ∀ x : SV, (x.instN h b).den ρ = x.den ρ
  | .v _ => rfl
  | .p k off => rfl
  | .s k n c => by
    simp only [SV.instN]
    cases hk : Nat.beq k h with
    | true => have := Nat.eq_of_beq_eq_true hk; subst this; simp only [cond_true, SV.den, hb]
    | false => rfl
  | .ls z k n c => by
    simp only [SV.instN]
    cases hk : Nat.beq k h with
    | true => have := Nat.eq_of_beq_eq_true hk; subst this; simp only [cond_true, SV.den, hb, nilOr]
    | false => rfl
  | .m k => rfl
  | .agg l => by simp only [SV.instN, SV.den, SV.instNL_den hb l]
  | .tup l => by simp only [SV.instN, SV.den, SV.instNL_den hb l]
  | .fn f l => by simp only [SV.instN, SV.den, SV.instNL_den hb l]
theorem SV.instNL_den {ρ : Nat → Nat} {h b : Nat} (hb : ρ h = b) : ∀ l : List SV, SV.denL ρ (SV.instNL h b l) = SV.denL ρ l
  | [] => rfl
  | x :: l => by simp only [SV.instNL, SV.denL, SV.instN_den hb x, SV.instNL_den hb l]
end
def OB.instN (h b : Nat) : OB → OB
  | .cells T l => .cells T (SV.instNL h b l)
  | x => x
theorem OB.instN_on (h b : Nat) (x : OB) : (x.instN h b).on = x.on := by cases x <;> rfl
theorem OB.instN_den {ρ : Nat → Nat} {h b : Nat} (hb : ρ h = b) (x : OB) : (x.instN h b).den ρ = x.den ρ := by
  cases x with
  | cells T l => simp only [OB.instN, OB.den, SV.instNL_den hb l]
  | _ => rfl
def St.instN (S : St) (h b : Nat) : St :=
  { env := S.env.map fun p => (p.1, p.2.instN h b), own := (del S.own h).map fun p => (p.1, p.2.instN h b), nx := S.nx, ds := S.ds, fz := S.fz }
theorem WSat.instN {c : Ctx} {ρ : Nat → Nat} {G : Heap} {own : List (Nat × OB)} {fz : List (Nat × Nat × OB)} {w : World} (h1 : WSat c ρ G own fz w) (h : Nat) : WSat c ρ G (own.map fun p => (p.1, p.2.instN h (ρ h))) fz w := by
  have hmem : ∀ p ∈ own.map (fun p => (p.1, p.2.instN h (ρ h))), ∃ q ∈ own, p = (q.1, q.2.instN h (ρ h)) := fun p hp => by
    obtain ⟨q, hq, rfl⟩ := List.mem_map.1 hp; exact ⟨q, hq, rfl⟩
  refine ⟨h1.has, fun p hp hon => ?_, fun p hp hon => ?_, fun p hp hon => ?_, ?_, fun p hp q hq => ?_, h1.ext, h1.g0, h1.gnew, h1.froz⟩
  · obtain ⟨q, hq, rfl⟩ := hmem p hp
    simp only [OB.instN_den rfl]
    simp only [OB.instN_on] at hon
    exact h1.cells q hq hon
  · obtain ⟨q, hq, rfl⟩ := hmem p hp
    simp only [OB.instN_on] at hon
    exact h1.sep q hq hon
  · obtain ⟨q, hq, rfl⟩ := hmem p hp
    simp only [OB.instN_on] at hon
    exact h1.may q hq hon
  · have e : (own.map fun p => (p.1, p.2.instN h (ρ h))).map (·.1) = own.map (·.1) := by simp
    rw [e]; exact h1.keys
  · obtain ⟨p', hp', rfl⟩ := hmem p hp
    obtain ⟨q', hq', rfl⟩ := hmem q hq
    simp only [OB.instN_on]
    exact h1.inj p' hp' q' hq'
theorem ASat.instN {c : Ctx} {ρ : Nat → Nat} {env : List (Nat × SV)} {ds : List Nat} {a : Act} (hA : ASat c ρ env ds a) (h : Nat) : ASat c ρ (env.map fun p => (p.1, p.2.instN h (ρ h))) ds a := by
  refine ⟨hA.size, fun t x hx => ?_, hA.defs⟩
  rw [get_map] at hx
  obtain ⟨y, hy, rfl⟩ := Option.map_eq_some_iff.1 hx
  rw [hA.slot t y hy, SV.instN_den rfl]
theorem WSat.del {c : Ctx} {ρ : Nat → Nat} {G : Heap} {own : List (Nat × OB)} {fz : List (Nat × Nat × OB)} {w : World} (h : WSat c ρ G own fz w) (t : Nat) : WSat c ρ G (del own t) fz w :=
  ⟨h.has, fun p hp => h.cells p (del_sub hp), fun p hp => h.sep p (del_sub hp), fun p hp => h.may p (del_sub hp), del_nodup h.keys, fun p hp q hq => h.inj p (del_sub hp) q (del_sub hq), h.ext, h.g0, h.gnew, h.froz⟩

/-- A list of one's own is never written again. -/
theorem WK_freezeL {c : Ctx} {G : Heap} {S : St} {K : Act → World → Prop} (h : Nat) {z : Bool} {e : TypeId} {arr : Array Value} (ho : get S.own h = some (.lst z e arr)) (hk : Nat.ble c.k h = true)
    (k : ∀ b G', Le G G' → (z = false → G' b = some (.cells arr e (0, 0))) → WK c G' (S.instN h b) K) : WK c G S K := by
  intro ρ a w hs
  cases z with
  | true => exact k (ρ h) G (Le.refl G) (fun h => by cases h) ρ a w ⟨hs.1.instN h, (hs.2.del h).instN h⟩
  | false =>
    obtain ⟨h1, h2⟩ := hs.2.freeze ho rfl (Nat.le_of_ble_eq_true hk)
    exact k (ρ h) _ (Heap.add_le h2) (fun _ => Heap.add_same _ _ _) ρ a w ⟨hs.1.instN h, h1.instN h⟩
/-- What is to be known of it then. -/
theorem OwnL.frozen {α : Type} {d : Ty α} {G G' : Heap} {xs : List α} {arr : Array Value} {cap : Nat} {z : Bool} {e b : Nat} (k : OwnL d G xs arr cap) (hle : Le G G') (hz : z = true → xs = []) (hb : z = false → G' b = some (.cells arr e (0, 0))) :
    ∃ A c0, nilOr z (.slice (some ⟨b, 0, none⟩) xs.length cap) = .slice A xs.length c0 ∧ xs.length ≤ c0 ∧ c0 ≤ big ∧ Row d G' A xs := by
  cases z with
  | true => have := hz rfl; subst this; exact ⟨none, 0, rfl, Nat.le_refl _, Nat.zero_le _, Row.nil d G' none⟩
  | false => exact ⟨_, cap, rfl, k.2.1, k.2.2.1, k.row hle (hb rfl)⟩
/-- The same for a row that was laid by a literal. -/
theorem Row.lit {α : Type} {d : Ty α} {G : Heap} {xs : List α} {cs : List Value} {b T : Nat} {fr : Nat × Nat} (h : RepsL d G xs cs) (hb : G b = some (.cells cs.toArray T fr)) : Row d G (some ⟨b, 0, none⟩) xs := by
  intro i x hx
  obtain ⟨c, h1, h2⟩ := h.get i x hx
  refine ⟨_, c, rfl, h1, ?_⟩
  rw [add_lit']
  exact ⟨_, T, fr, hb, rfl, fun j v hj => by have := h2 j v hj; simpa using this⟩

/-! ### 15. Other names for handles -/
mutual
def SV.ren (σ : Nat → Nat) : SV → SV
  | .v x => .v x
  | .p k off => .p (σ k) off
  | .s k n c => .s (σ k) n c
  | .ls z k n c => .ls z (σ k) n c
  | .m k => .m (σ k)
  | .agg l => .agg (SV.renL σ l)
  | .tup l => .tup (SV.renL σ l)
  | .fn f l => .fn f (SV.renL σ l)
def SV.renL (σ : Nat → Nat) : List SV → List SV
  | [] => []
  | x :: l => x.ren σ :: SV.renL σ l
end
mutual
theorem SV.ren_den (ρ σ : Nat → Nat) : ∀ x : SV, (x.ren σ).den ρ = x.den fun k => ρ (σ k)
  | .v _ => rfl
  | .p k off => rfl
  | .s k n c => rfl
  | .ls z k n c => rfl
  | .m k => rfl
  | .agg l => by simp only [SV.ren, SV.den, SV.renL_den ρ σ l]
  | .tup l => by simp only [SV.ren, SV.den, SV.renL_den ρ σ l]
  | .fn f l => by simp only [SV.ren, SV.den, SV.renL_den ρ σ l]
theorem SV.renL_den (ρ σ : Nat → Nat) : ∀ l : List SV, SV.denL ρ (SV.renL σ l) = SV.denL (fun k => ρ (σ k)) l
  | [] => rfl
  | x :: l => by simp only [SV.renL, SV.denL, SV.ren_den ρ σ x, SV.renL_den ρ σ l]
end
def OB.ren (σ : Nat → Nat) : OB → OB
  | .cells T l => .cells T (SV.renL σ l)
  | x => x
theorem OB.ren_on (σ : Nat → Nat) (x : OB) : (x.ren σ).on = x.on := by cases x <;> rfl
theorem OB.ren_den (ρ σ : Nat → Nat) (x : OB) : (x.ren σ).den ρ = x.den fun k => ρ (σ k) := by
  cases x with
  | cells T l => simp only [OB.ren, OB.den, SV.renL_den ρ σ l]
  | _ => rfl
def sig (l : List (Nat × Nat)) (h : Nat) : Nat := (get l h).getD h
def keysOK (own : List (Nat × OB)) : List Nat → Bool
  | [] => true
  | t :: l => Nat.beq ((l.filter fun u => Nat.beq u t).length) 0 && keysOK own l
theorem keysOK_ok {own : List (Nat × OB)} : ∀ {l : List Nat}, keysOK own l = true → l.Nodup
  | [], _ => List.nodup_nil
  | t :: l, h => by
    simp only [keysOK, Bool.and_eq_true] at h
    refine List.nodup_cons.2 ⟨fun hm => ?_, keysOK_ok h.2⟩
    have hnil := List.eq_nil_of_length_eq_zero (Nat.eq_of_beq_eq_true h.1)
    have : t ∈ l.filter fun u => Nat.beq u t := List.mem_filter.2 ⟨hm, Nat.beq_refl t⟩
    rw [hnil] at this; cases this
theorem Sat.ren {c : Ctx} {ρ : Nat → Nat} {G : Heap} {S T : St} {a : Act} {w : World} (l : List (Nat × Nat)) (hs : Sat c ρ G S a w)
    (he : S.env = T.env.map fun p => (p.1, p.2.ren (sig l))) (ho : S.own = T.own.map fun p => (sig l p.1, p.2.ren (sig l))) (hd : S.ds = T.ds.map (sig l)) (hz : S.fz = T.fz.map fun p => (sig l p.1, p.2.1, p.2.2.ren (sig l)))
    (hk : keysOK T.own (T.own.map (·.1)) = true) (hl : (l.all fun p => Nat.ble c.k p.2) = true) : Sat c (fun k => ρ (sig l k)) G T a w := by
  obtain ⟨hA, hW⟩ := hs
  have hmem : ∀ p ∈ T.own, (sig l p.1, p.2.ren (sig l)) ∈ S.own := fun p hp => by rw [ho]; exact List.mem_map.2 ⟨p, hp, rfl⟩
  have hnd := keysOK_ok hk
  have hnd2 : (T.own.map fun p => sig l p.1).Nodup := by
    have := hW.keys
    rw [ho, List.map_map] at this
    exact this
  have hinj : ∀ p ∈ T.own, ∀ q ∈ T.own, sig l p.1 = sig l q.1 → p.1 = q.1 := by
    intro p hp q hq e
    have key : ∀ {L : List (Nat × OB)}, (L.map fun p => sig l p.1).Nodup → p ∈ L → q ∈ L → p.1 = q.1 := by
      intro L hL hp hq
      induction L with
      | nil => cases hp
      | cons r L ih =>
        simp only [List.map_cons, List.nodup_cons] at hL
        rcases List.mem_cons.1 hp with hp1 | hp1 <;> rcases List.mem_cons.1 hq with hq1 | hq1
        · rw [hp1, hq1]
        · exact absurd (by rw [← hp1, e]; exact List.mem_map.2 ⟨q, hq1, rfl⟩) hL.1
        · exact absurd (by rw [← hq1, ← e]; exact List.mem_map.2 ⟨p, hp1, rfl⟩) hL.1
        · exact ih hL.2 hp1 hq1
    exact key hnd2 hp hq
  refine ⟨⟨hA.size, fun t x hx => ?_, ?_⟩, ⟨hW.has, fun p hp hon => ?_, fun p hp hon => ?_, fun p hp hon => ?_, hnd, fun p hp q hq hpo hqo e => ?_, hW.ext, hW.g0, hW.gnew, fun p hp => ?_⟩⟩
  · have : get S.env t = some (x.ren (sig l)) := by rw [he, get_map, hx]; rfl
    rw [hA.slot t _ this, SV.ren_den]
  · rw [hA.defs, hd]; simp [dsOf]
  · have := hW.cells _ (hmem p hp) (by simpa [OB.ren_on] using hon)
    simp only [OB.ren_den] at this; exact this
  · exact hW.sep _ (hmem p hp) (by simpa [OB.ren_on] using hon)
  · rcases hW.may _ (hmem p hp) (by simpa [OB.ren_on] using hon) with h | h
    · exact .inl h
    · refine .inr ⟨h.1, ?_⟩
      have h2 := h.2
      simp only at h2
      unfold sig at h2
      cases hg : get l p.1 with
      | none => rw [hg] at h2; exact h2
      | some u =>
        rw [hg] at h2
        have := List.all_eq_true.1 hl _ (get_mem hg)
        have := Nat.le_of_ble_eq_true this
        simp only [Option.getD_some] at h2
        omega
  · exact hinj p hp q hq (hW.inj _ (hmem p hp) _ (hmem q hq) (by simpa [OB.ren_on] using hpo) (by simpa [OB.ren_on] using hqo) e)
  · have : (sig l p.1, p.2.1, p.2.2.ren (sig l)) ∈ S.fz := by rw [hz]; exact List.mem_map.2 ⟨p, hp, rfl⟩
    obtain ⟨h1, h2⟩ := hW.froz _ this
    simp only [OB.ren_den] at h2
    exact ⟨h1, h2⟩
theorem WQ_nextR {ι : Type} {Q : Exit → Act → World → Prop} {c : Ctx} {G : Heap} {S : St} {F : ι → Heap → Prop} {T : ι → St} {μ : ι → Nat} {n : Nat} (i : ι) (hμ : μ i < n) (hF : F i G) (l : List (Nat × Nat))
    (he : S.env = (T i).env.map fun p => (p.1, p.2.ren (sig l))) (ho : S.own = (T i).own.map fun p => (sig l p.1, p.2.ren (sig l))) (hd : S.ds = (T i).ds.map (sig l)) (hz : S.fz = (T i).fz.map fun p => (sig l p.1, p.2.1, p.2.2.ren (sig l)))
    (hk : keysOK (T i).own ((T i).own.map (·.1)) = true) (hl : (l.all fun p => Nat.ble c.k p.2) = true) : WQ (Exit.then (LI c F T μ n) Q) .normal c G S :=
  fun ρ a w hs => ⟨i, G, _, hμ, hF, hs.ren l he ho hd hz hk hl⟩
/-- The same, in the midst of a walk. -/
theorem WK_ren {c : Ctx} {G : Heap} {S T : St} {K : Act → World → Prop} (l : List (Nat × Nat))
    (he : S.env = T.env.map fun p => (p.1, p.2.ren (sig l))) (ho : S.own = T.own.map fun p => (sig l p.1, p.2.ren (sig l))) (hd : S.ds = T.ds.map (sig l)) (hz : S.fz = T.fz.map fun p => (sig l p.1, p.2.1, p.2.2.ren (sig l)))
    (hk : keysOK T.own (T.own.map (·.1)) = true) (hl : (l.all fun p => Nat.ble c.k p.2) = true) (k : WK c G T K) : WK c G S K := fun ρ a w hs => k _ a w (hs.ren l he ho hd hz hk hl)
/-! ### 16. A row of cells that was laid by a literal becomes a list -/
mutual
def SV.toLs (h : Nat) : SV → SV
  | .s k n c => bif Nat.beq k h then .ls false k n c else .s k n c
  | .agg l => .agg (SV.toLsL h l)
  | .tup l => .tup (SV.toLsL h l)
  | x => x
def SV.toLsL (h : Nat) : List SV → List SV
  | [] => []
  | x :: l => x.toLs h :: SV.toLsL h l
end
mutual
theorem SV.toLs_den (ρ : Nat → Nat) (h : Nat) : ∀ x : SV, (x.toLs h).den ρ = x.den ρ
  | .v _ => rfl
  | .p k off => rfl
  | .s k n c => by
    simp only [SV.toLs]
    cases Nat.beq k h <;> rfl
  | .ls z k n c => rfl
  | .m k => rfl
  | .agg l => by simp only [SV.toLs, SV.den, SV.toLsL_den ρ h l]
  | .tup l => by simp only [SV.toLs, SV.den, SV.toLsL_den ρ h l]
  | .fn f l => rfl
theorem SV.toLsL_den (ρ : Nat → Nat) (h : Nat) : ∀ l : List SV, SV.denL ρ (SV.toLsL h l) = SV.denL ρ l
  | [] => rfl
  | x :: l => by simp only [SV.toLsL, SV.denL, SV.toLs_den ρ h x, SV.toLsL_den ρ h l]
end
theorem WK_lst {c : Ctx} {G : Heap} {S : St} {K : Act → World → Prop} (h : Nat) {T : TypeId} {l : List SV} (cs : List Value) (ho : get S.own h = some (.cells T l)) (hc : ∀ ρ, SV.denL ρ l = cs)
    (k : WK c G { S with env := S.env.map fun p => (p.1, p.2.toLs h), own := set S.own h (.lst false T cs.toArray) } K) : WK c G S K := by
  intro ρ a w hs
  have hm := get_mem ho
  refine k ρ a w ⟨⟨hs.1.size, fun t x hx => ?_, hs.1.defs⟩, hs.2.put ho rfl ?_ (Ext.refl _ _)⟩
  · rw [get_map] at hx
    obtain ⟨y, hy, rfl⟩ := Option.map_eq_some_iff.1 hx
    rw [hs.1.slot t y hy, SV.toLs_den]
  · have := hs.2.cells _ hm rfl
    simp only [OB.den, hc ρ] at this
    exact this

/-! ### 17. make; elements of one's own rows -/
section
variable {P : Program} {r : Option Nat} {ops : Array Oper} {Q : Exit → Act → World → Prop} {c : Ctx} {G : Heap} {S S' : St} {tb : Tbl} {K : Act → World → Prop}

def mkC (tb : Tbl) (N : Nat) (ops : List Oper) (S : St) (o : Oper) : Option (Int × TypeId × Nat × Nat × Value) :=
  match wantS ops S.env o, dstOK N o.dst with
  | some true, true => match o.op with
    | .makeSlice t x y => match get tb t, evalO S.env x, evalO S.env y with
      | some T, some (.v (.int .i64 n)), some (.v (.int .i64 m)) => match T.desc with
        | .slice e => match get tb e with
          | some E => bif Nat.beq E.zero.cells.size E.size then some (n, e, E.size, E.bytes, E.zero) else none
          | none => none
        | _ => none
      | _, _, _ => none
    | _ => none
  | _, _ => none
/-- The length and the capacity are the same number. -/
def mkEq (S : St) (o : Oper) : Prop := match o.op with
  | .makeSlice _ x y => evalO S.env x = evalO S.env y
  | _ => False
theorem reps_zero {α : Type} {d : Ty α} {G : Heap} {z0 : α} {zc : List Value} (h : d.rep G z0 zc) : ∀ n, RepsL d G (List.replicate n z0) ((List.range (n * d.sz)).map fun k => zc[k % d.sz]?.getD undef)
  | 0 => by simp; exact .nil
  | n + 1 => by
    have ih := reps_zero h n
    have e : ((List.range ((n + 1) * d.sz)).map fun k => zc[k % d.sz]?.getD undef) = ((List.range (n * d.sz)).map fun k => zc[k % d.sz]?.getD undef) ++ zc := by
      rw [Nat.succ_mul, List.range_add, List.map_append, List.map_map]
      congr 1
      apply List.ext_getElem?
      intro i
      by_cases hi : i < d.sz
      · have hl : i < zc.length := by rw [d.len h]; exact hi
        simp [hi, Nat.mod_eq_of_lt hi, List.getElem?_eq_getElem hl]
      · have hl : zc.length ≤ i := by rw [d.len h]; omega
        simp [hi, List.getElem?_eq_none hl]
    rw [e, List.replicate_succ']
    have h1 : RepsL d G [z0] zc := by have := RepsL.cons h (RepsL.nil (d := d) (G := G)); simpa using this
    exact ih.append h1
theorem WOp_make (htb : TblOK P tb) {o : Oper} (n : Nat) (e : TypeId) (sz bytes : Nat) (zv : Value) (hC : mkC tb c.N ops.toList S o = some ((n : Int), e, sz, bytes, zv)) (hq : mkEq S o) (hf : S.fresh = true)
    {α : Type} (d : Ty α) (z0 : α) (hz : d.rep G z0 zv.cells.toList) (hsz : d.sz = sz) (hn : bytes * n ≤ 281474976710656) (hb : n ≤ big)
    (k : ∀ arr, OwnL d G (List.replicate n z0) arr n → WK c G (putU { S with own := (S.nx, .lst false e arr) :: S.own, nx := S.nx + 1 } o.dst (.ls false S.nx n n)) K) : WOp P r ops Q c G S o K := by
  intro ρ a w hs
  unfold mkC at hC
  split at hC
  · rename_i hw hd
    split at hC
    · rename_i t x y hop
      split at hC
      · rename_i T n' m' ht hx hy
        split at hC
        · rename_i e' hdesc
          split at hC
          · rename_i E he
            cases hzz : Nat.beq E.zero.cells.size E.size with
            | false => rw [hzz] at hC; cases hC
            | true =>
              rw [hzz] at hC
              simp only [cond_true, Option.some.injEq, Prod.mk.injEq] at hC
              obtain ⟨rfl, rfl, rfl, rfl, rfl⟩ := hC
              have hq' : evalO S.env x = evalO S.env y := by unfold mkEq at hq; rw [hop] at hq; exact hq
              rw [hx, hy] at hq'
              have hmn : m' = (n : Int) := by injection hq' with h1; injection h1 with h2; injection h2 with _ h3; exact h3.symm
              subst hmn
              have hzs := Nat.eq_of_beq_eq_true hzz
              have hu := (htb.at ht).2
              rw [hdesc] at hu
              obtain ⟨j, hj1, hj2, hj3, hj4⟩ := run_typeInfo_TI (htb.at he) w
              have hwr : IntKind.i64.wrap ((n : Nat) : Int) = (n : Int) := by
                unfold big at hb
                rw [IntWalk.i64_left, IntWalk.wrap64_in _ (by omega)]
              obtain ⟨arr, harr⟩ : ∃ arr : Array Value, arr = ((List.range (n * E.size)).map fun k => E.zero.cells.toList[k % E.size]?.getD undef).toArray := ⟨_, rfl⟩
              have hrun : (Instr.makeSlice t (.int .i64 n) (.int .i64 n)).run P w = .ok (.slice (some ⟨w.heap.size, 0, none⟩) n n) (w.alloc (.cells arr e')) := by
                have hnn : ((E.bytes : Int) * (n : Int) > 2 ^ 48) = False := by
                  rw [eq_iff_iff, iff_false, ← Int.natCast_mul]
                  generalize E.bytes * n = q at hn
                  omega
                have hneg : ((n : Int) < 0) = False := by rw [eq_iff_iff, iff_false]; omega
                unfold Instr.makeSlice
                simp only [Sem.run_bind, run_underlying hu, Result.andThen_ok, asInt, asIntOf, Sem.run_pure, hj1, hj4, hwr, hnn, hneg, decide_false, Bool.or_self, Bool.false_or]
                simp only [Int.lt_irrefl, decide_false, Bool.or_self, Bool.false_eq_true, if_false, Sem.run_bind, run_askRoom, Result.andThen_ok, Int.toNat_natCast, run_sizeOf_TI (htb.at he)]
                by_cases h0 : n * E.size = 0
                · rw [if_pos h0]
                  have : (#[] : Array Value) = arr := by rw [harr, h0]; rfl
                  simp only [Sem.run_bind, Sem.run_pure, Result.andThen_ok, newRow, run_newObj, h0]
                  have e2 : (Array.range 0).map (fun k => (#[] : Array Value)[k % (#[] : Array Value).size]!) = arr := by
                    rw [← this]; simp
                  rw [e2]; rfl
                · rw [if_neg h0]
                  simp only [Sem.run_bind, run_zeroValue_TI (htb.at he), Sem.run_pure, Result.andThen_ok, newRow, run_newObj]
                  have e2 : (Array.range (n * E.size)).map (fun k => E.zero.cells[k % E.zero.cells.size]!) = arr := by
                    rw [harr]
                    apply Array.ext'
                    simp only [Array.toList_map, Array.toList_range]
                    apply List.map_congr_left
                    intro k _
                    have hp : 0 < E.size := Nat.pos_of_ne_zero fun e => h0 (by rw [e, Nat.mul_zero])
                    have hlt : k % E.size < E.zero.cells.size := by rw [hzs]; exact Nat.mod_lt _ hp
                    rw [hzs, getElem!_pos E.zero.cells (k % E.size) hlt]
                    simp [hlt]
                  rw [e2]; rfl
              have hW := hs.2.new hf (ob := .lst false e' arr) rfl
              have hA := hs.1.re hf (upd_lt ρ S.nx w.heap.size)
              have hput := putU_ok (c := c) (S := { S with own := (S.nx, .lst false e' arr) :: S.own, nx := S.nx + 1 }) (x := .ls false S.nx n n) (dst := o.dst) hA hd
              show if _ then _ else _
              rw [if_pos (wantS_ok hs.1 hw)]
              refine ⟨fun f _ => trivial, ?_⟩
              show Oper.uponIn (WF r) 0 P o a K Q (Sem.run P (Oper.semAt r a.eval o) w)
              rw [Oper.semAt_eq r _ o (by rw [hop]; intro cl e; cases e)]
              obtain ⟨dst, op, type, pos, after, guard⟩ := o
              simp only at hop; subst hop
              have e1 : a.eval x = .int .i64 n := by rw [evalO_ok hs.1 hx]; simp only [SV.den]
              have e2 : a.eval y = .int .i64 n := by rw [evalO_ok hs.1 hy]; simp only [SV.den]
              simp only [execOp, Sem.run_bind, e1, e2, hrun, Result.andThen_ok, Sem.run_pure]
              refine k arr ⟨by rw [harr]; simp [hsz], by simp, hb, ?_⟩ (upd ρ S.nx w.heap.size) _ _ ⟨?_, by rw [hput.2.1, hput.2.2]; exact hW⟩
              · rw [harr, List.length_replicate, hsz]
                have := reps_zero hz n
                rw [hsz] at this
                rw [List.toList_toArray, List.take_of_length_le (by simp)]
                exact this
              · have hden : (SV.ls false S.nx n n).den (upd ρ S.nx w.heap.size) = .slice (some ⟨w.heap.size, 0, none⟩) n n := by simp only [SV.den, upd_same]; rfl
                rw [← hden]; exact hput.1
          · cases hC
        · cases hC
      · cases hC
    · cases hC
  · cases hC

/-- x[i]'s address, x a list of one's own. -/
def idxoC (tb : Tbl) (N : Nat) (ops : List Oper) (S : St) (o : Oper) : Option (Nat × Nat × Int × Nat) :=
  match wantS ops S.env o, dstOK N o.dst with
  | some true, true => match o.op with
    | .indexAddr t x ix => match evalO S.env x, evalO S.env ix, get tb t with
      | some (.ls false h n _), some (.v (.int _ i)), some T => match T.desc with
        | .slice e => match get tb e with
          | some E => some (h, n, i, E.size)
          | none => none
        | _ => none
      | _, _, _ => none
    | _ => none
  | _, _ => none
theorem WOp_idxo (htb : TblOK P tb) {o : Oper} (h n : Nat) (i : Int) (sz : Nat) (hC : idxoC tb c.N ops.toList S o = some (h, n, i, sz)) (h0 : 0 ≤ i) (h1 : i < n)
    (k : WK c G (putU S o.dst (.p h (i.toNat * sz))) K) : WOp P r ops Q c G S o K := by
  unfold idxoC at hC
  split at hC
  · rename_i hw hd
    split at hC
    · rename_i t x ix hop
      split at hC
      · rename_i h' n' cp kd i' T hx hi ht
        split at hC
        · rename_i e hdesc
          split at hC
          · rename_i E he
            simp only [Option.some.injEq, Prod.mk.injEq] at hC
            obtain ⟨rfl, rfl, rfl, rfl⟩ := hC
            refine WOp_val hw hd (by rw [hop]; intro cl e; cases e) (fun ρ a w hs => ?_) k
            have hu := (htb.at ht).2
            rw [hdesc] at hu
            obtain ⟨dst, op, type, pos, after, guard⟩ := o
            simp only at hop; subst hop
            simp [execOp, Instr.indexAt, evalO_ok hs.1 hx, evalO_ok hs.1 hi, SV.den, asIntOf, run_underlying hu, h0, h1, run_sizeOf_TI (htb.at he), add_lit']
          · cases hC
        · cases hC
      · cases hC
    · cases hC
  · cases hC
/-- A load from a list of one's own. -/
def ldoC (tb : Tbl) (N : Nat) (ops : List Oper) (S : St) (o : Oper) : Option (Nat × Nat × Bool × Nat) :=
  match wantS ops S.env o, dstOK N o.dst with
  | some true, true => match o.op with
    | .load t x => match evalO S.env x, get tb t with
      | some (.p h off), some T => some (h, off, T.agg, T.size)
      | _, _ => none
    | _ => none
  | _, _ => none
theorem WOp_ldo (htb : TblOK P tb) {o : Oper} (h off : Nat) (agg : Bool) (sz : Nat) (cs : List Value) (hC : ldoC tb c.N ops.toList S o = some (h, off, agg, sz)) {e : TypeId} {arr : Array Value} (hg : get S.own h = some (.lst false e arr))
    (ha : ∀ j v, cs[j]? = some v → arr[off + j]? = some v) (hl : cs.length = sz) (hs0 : sz ≠ 0) (k : WK c G (putU S o.dst (ldV agg cs)) K) : WOp P r ops Q c G S o K := by
  unfold ldoC at hC
  split at hC
  · rename_i hw hd
    split at hC
    · rename_i t x hop
      split at hC
      · rename_i h' off' T hx ht
        simp only [Option.some.injEq, Prod.mk.injEq] at hC
        obtain ⟨rfl, rfl, rfl, rfl⟩ := hC
        refine WOp_val hw hd (by rw [hop]; intro cl e; cases e) (fun ρ a w hs => ?_) k
        have hb := hs.2.cells _ (get_mem hg) rfl
        simp only [OB.den] at hb
        have hcell : ∀ j v, cs[j]? = some v → w.cell? ((⟨ρ h', off', none⟩ : Addr).add j) = some v := fun j v hj => by
          rw [add_lit']; simp [World.cell?, hb, ha j v hj]
        obtain ⟨dst, op, type, pos, after, guard⟩ := o
        simp only at hop; subst hop
        have hrun : (loadVar t ⟨ρ h', off', none⟩).run P w = .ok ((ldV T.agg cs).den ρ) w := by
          cases hag : T.agg with
          | true =>
            have := run_loadVar_cells (htb.at ht) (w := w) hl hcell hag
            simpa only [ldV, SV.den, denL_map_v] using this
          | false =>
            match cs, hl, hcell with
            | [], hl, _ => exact absurd hl.symm hs0
            | v :: l, hl, hcell =>
              have := run_loadVar_cell (htb.at ht) (w := w) (q := ⟨ρ h', off', none⟩) (v := v) (by have := hcell 0 v rfl; simpa [Addr.add] using this) hag
              simpa only [ldV, SV.den] using this
        simp only [execOp, Instr.loadAt, Sem.run_bind, evalO_ok hs.1 hx, SV.den, Instr.sureAddr, Sem.run_pure, Result.andThen_ok, hrun]
      · cases hC
    · cases hC
  · cases hC
/-- A store into a list of one's own. -/
def stoC (tb : Tbl) (ops : List Oper) (S : St) (o : Oper) : Option (Nat × Nat × List SV) :=
  match wantS ops S.env o, o.dst with
  | some true, none => match o.op with
    | .store t x y => match evalO S.env x, evalO S.env y, get tb t with
      | some (.p h off), some q, some T => match q.cells with
        | some cs => bif Nat.beq cs.length T.size && SV.oneL cs then some (h, off, cs) else none
        | none => none
      | _, _, _ => none
    | _ => none
  | _, _ => none
end
/-- An element is set. -/
theorem RepsL.set {α : Type} {d : Ty α} {G : Heap} {xs : List α} {cs : List Value} (k : RepsL d G xs cs) {i : Nat} (hi : i < xs.length) {y : α} {vs : List Value} (hy : d.rep G y vs) :
    RepsL d G (xs.set i y) (cs.take (i * d.sz) ++ vs ++ cs.drop (i * d.sz + vs.length)) := by
  have h1 := k.take i
  have h2 := k.drop (i + 1)
  have h3 : RepsL d G [y] vs := by have := RepsL.cons hy (RepsL.nil (d := d) (G := G)); simpa using this
  have := (h1.append h3).append h2
  rw [d.len hy]
  rw [show i * d.sz + d.sz = (i + 1) * d.sz by rw [Nat.succ_mul]]
  rw [List.set_eq_take_append_cons_drop, if_pos hi]
  simpa using this
theorem OwnL.set {α : Type} {d : Ty α} {G : Heap} {xs : List α} {arr : Array Value} {cap : Nat} (k : OwnL d G xs arr cap) {i : Nat} (hi : i < xs.length) {y : α} {vs : List Value} (hy : d.rep G y vs) :
    OwnL d G (xs.set i y) (arr.toList.take (i * d.sz) ++ vs ++ arr.toList.drop (i * d.sz + vs.length)).toArray cap ∧ i * d.sz + vs.length ≤ arr.size := by
  have hv := d.len hy
  have hle : (i + 1) * d.sz ≤ xs.length * d.sz := Nat.mul_le_mul_right _ hi
  have hle2 : xs.length * d.sz ≤ cap * d.sz := Nat.mul_le_mul_right _ k.2.1
  rw [Nat.succ_mul] at hle
  have hsz := k.1
  refine ⟨⟨?_, by simpa using k.2.1, k.2.2.1, ?_⟩, by omega⟩
  · simp only [List.size_toArray, List.length_append, List.length_take, List.length_drop, Array.length_toList]; omega
  · have := k.2.2.2.set hi hy
    simp only [List.length_set]
    have e : (arr.toList.take (xs.length * d.sz)).take (i * d.sz) = arr.toList.take (i * d.sz) := by rw [List.take_take, Nat.min_eq_left (by omega)]
    have e2 : (arr.toList.take (i * d.sz) ++ vs ++ arr.toList.drop (i * d.sz + vs.length)).take (xs.length * d.sz) = arr.toList.take (i * d.sz) ++ vs ++ (arr.toList.take (xs.length * d.sz)).drop (i * d.sz + vs.length) := by
      have hl : (arr.toList.take (i * d.sz) ++ vs).length = i * d.sz + vs.length := by
        simp only [List.length_append, List.length_take, Array.length_toList]; omega
      rw [List.take_append, hl, List.take_of_length_le (by rw [hl]; omega), List.drop_take]
    rw [e] at this
    rw [e2]; exact this
/-- An element's cells. -/
theorem OwnL.at {α : Type} {d : Ty α} {G : Heap} {xs : List α} {arr : Array Value} {cap : Nat} (k : OwnL d G xs arr cap) {i : Nat} (hi : i < xs.length) : ∃ cs, d.rep G xs[i] cs ∧ ∀ j v, cs[j]? = some v → arr[i * d.sz + j]? = some v := by
  obtain ⟨c, h1, h2⟩ := k.2.2.2.get i _ (List.getElem?_eq_getElem hi)
  refine ⟨c, h1, fun j v hj => ?_⟩
  have := h2 j v hj
  rw [List.getElem?_take] at this
  split at this
  · simpa using this
  · cases this
/-- A shorter list in the same row. -/
theorem OwnL.take {α : Type} {d : Ty α} {G : Heap} {xs : List α} {arr : Array Value} {cap : Nat} (k : OwnL d G xs arr cap) (n : Nat) : OwnL d G (xs.take n) arr cap := by
  refine ⟨k.1, by rw [List.length_take]; have := k.2.1; omega, k.2.2.1, ?_⟩
  have := k.2.2.2.take n
  rw [List.take_take] at this
  rw [List.length_take, ← Nat.mul_min_mul_right] at *; exact this
theorem wrap_id {n : Int} (h : -9223372036854775808 ≤ n ∧ n ≤ 9223372036854775807) : IntKind.i64.wrap n = n := by rw [IntWalk.i64_left, IntWalk.wrap64_in _ h]
end Go.Proofs.Ytfemkbockhpmcaa.Sym
