/- The symbolic layer, seventh part: a slice as one fact, ways that come together again, append to nil. Own work. -/
import Derived.Test.YtfemkbockhpmcaaSymF
set_option linter.unusedSimpArgs false
set_option linter.unusedVariables false
namespace Go.Proofs.Ytfemkbockhpmcaa.Sym
open Go Go.Proofs Go.RowKit
/-! ### 22. A slice that stands for a list, as one fact -/
structure Sl {α : Type} (d : Ty α) (G : Heap) (A : Option Addr) (n c : Nat) (xs : List α) : Prop where
  len : n = xs.length
  cap : n ≤ c
  top : c ≤ big
  row : Row d G A xs
theorem Sl.mono {α : Type} {d : Ty α} {G G' : Heap} (h : Le G G') {A : Option Addr} {n c : Nat} {xs : List α} (k : Sl d G A n c xs) : Sl d G' A n c xs := ⟨k.len, k.cap, k.top, k.row.mono h⟩
theorem Sl.none0 {α : Type} (d : Ty α) (G : Heap) : Sl d G none 0 0 ([] : List α) := ⟨rfl, Nat.le_refl _, Nat.zero_le _, Row.nil d G none⟩
theorem Sl.nil' {α : Type} {d : Ty α} {G : Heap} {xs : List α} {A : Option Addr} {n c : Nat} (h : Sl d G A n c xs) (hA : A = none) : xs = [] := by
  cases xs with
  | nil => rfl
  | cons x l => obtain ⟨q, cs, h1, _⟩ := h.row 0 x rfl; rw [hA] at h1; cases h1
theorem Sl.ptr {α : Type} {d : Ty α} {G : Heap} {A : Option Addr} {n c : Nat} {xs : List α} (h : Sl d G A n c xs) (h0 : 0 < n) : ∃ q, A = some q := by
  rw [h.len] at h0
  obtain ⟨q, cs, h1, _⟩ := h.row.at 0 h0
  exact ⟨q, h1⟩
theorem Sl.get {α : Type} {d : Ty α} {G : Heap} {q : Addr} {n c : Nat} {xs : List α} (h : Sl d G (some q) n c xs) (i : Nat) (hi : i < n) :
    ∃ x cs, xs[i]? = some x ∧ d.rep G x cs ∧ At G (q.add (i * d.sz)) cs := by
  rw [h.len] at hi
  obtain ⟨p, cs, h1, h2, h3⟩ := h.row.at i hi
  injection h1 with h1; subst h1
  exact ⟨xs[i], cs, List.getElem?_eq_getElem hi, h2, h3⟩
theorem Sl.getk {α : Type} {d : Ty α} {G : Heap} {q : Addr} {n c : Nat} {xs : List α} (h : Sl d G (some q) n c xs) {i : Nat} {x : α} (hx : xs[i]? = some x) :
    ∃ cs, d.rep G x cs ∧ At G (q.add (i * d.sz)) cs := by
  obtain ⟨p, cs, h1, h2, h3⟩ := h.row i x hx
  injection h1 with h1; subst h1
  exact ⟨cs, h2, h3⟩
theorem Sl.from {α : Type} {d : Ty α} {G : Heap} {A : Option Addr} {n c : Nat} {xs : List α} (h : Sl d G A n c xs) (lo : Nat) (hl : lo ≤ n) {A' : Option Addr} (hA : sliceAddr A c lo d.sz = A') : Sl d G A' (n - lo) (c - lo) (xs.drop lo) := by
  subst hA
  have hc := h.cap; have ht := h.top; have hn := h.len
  refine ⟨by rw [List.length_drop, hn], by omega, by omega, ?_⟩
  exact h.row.slice lo (by omega) (by omega)
theorem Sl.part {α : Type} {d : Ty α} {G : Heap} {A : Option Addr} {n c : Nat} {xs : List α} (h : Sl d G A n c xs) (lo hi : Nat) (hl : lo ≤ hi) (hh : hi ≤ n) {A' : Option Addr} (hA : sliceAddr A c lo d.sz = A') : Sl d G A' (hi - lo) (c - lo) ((xs.take hi).drop lo) := by
  subst hA
  have hc := h.cap; have ht := h.top; have hn := h.len
  refine ⟨by rw [List.length_drop, List.length_take]; omega, by omega, by omega, ?_⟩
  exact h.row.cut lo hi (by omega) hl (by omega)
theorem Sl.len' {α : Type} {d : Ty α} {G : Heap} {A : Option Addr} {n c : Nat} {xs : List α} (h : Sl d G A n c xs) : n = xs.length ∧ n ≤ c ∧ c ≤ 9223372036854775807 := ⟨h.len, h.cap, h.top⟩
theorem Sl.reps {α : Type} {d : Ty α} {G : Heap} {A : Option Addr} {n c : Nat} {xs : List α} (h : Sl d G A n c xs) : (tSlice d).rep G xs [.slice A n c] := by
  obtain ⟨h1, h2, h3, h4⟩ := h
  subst h1
  exact ⟨_, rfl, A, c, rfl, h2, h3, h4⟩
theorem Sl.of {α : Type} {d : Ty α} {G : Heap} {xs : List α} {cs : List Value} (h : (tSlice d).rep G xs cs) : ∃ A n c, cs = [.slice A n c] ∧ Sl d G A n c xs := by
  obtain ⟨v, h1, A, c, h2, h3, h4, h5⟩ := h
  subst h1; subst h2
  exact ⟨A, _, c, rfl, rfl, h3, h4, h5⟩
theorem bd_of {x : Int} (h : IntKind.i64.wrap x = x) : -9223372036854775808 ≤ x ∧ x ≤ 9223372036854775807 := by
  have := IntWalk.i64_left x
  rw [this] at h
  rw [← h]
  unfold RowKit.wrap64
  omega
theorem rep_int (G : Heap) {x : Int} (h : -9223372036854775808 ≤ x ∧ x ≤ 9223372036854775807) : (tInt .i64).rep G x [.int .i64 x] := ⟨rfl, wrap_id h⟩
theorem rep_str (G : Heap) {x : ByteArray} (h : x.size ≤ big) : tStr.rep G x [.string x] := ⟨rfl, h⟩
theorem rep_pair {α β : Type} {d : Ty α} {e : Ty β} {G : Heap} {x : α} {y : β} {c1 c2 : List Value} (h1 : d.rep G x c1) (h2 : e.rep G y c2) : (tPair d e).rep G (x, y) (c1 ++ c2) := ⟨c1, c2, rfl, h1, h2⟩
theorem notInt_i64 {x : Int} (h : -9223372036854775808 ≤ x ∧ x ≤ 9223372036854775807) : notInt .i64 x = - x - 1 := by
  unfold notInt
  have e : (BitVec.ofInt IntKind.i64.bits (if IntKind.i64.signed then -1 else IntKind.i64.max)) ^^^ (BitVec.ofInt IntKind.i64.bits x) = ~~~ (BitVec.ofInt 64 x) := by
    show (BitVec.ofInt 64 (-1)) ^^^ (BitVec.ofInt 64 x) = ~~~ (BitVec.ofInt 64 x)
    rw [show (BitVec.ofInt 64 (-1)) = BitVec.allOnes 64 by decide]
    exact BitVec.allOnes_xor
  rw [e]
  have t : ((~~~ (BitVec.ofInt 64 x)).toNat : Int) = 18446744073709551615 - x % 18446744073709551616 := by
    rw [BitVec.toNat_not, BitVec.toNat_ofInt]
    omega
  show IntKind.i64.wrap ((~~~ (BitVec.ofInt 64 x)).toNat : Int) = _
  rw [t, IntWalk.i64_left]
  unfold RowKit.wrap64
  omega
/-- A list of one's own, frozen. -/
theorem OwnL.sl {α : Type} {d : Ty α} {G G' : Heap} {xs : List α} {arr : Array Value} {cap : Nat} {z : Bool} {e b n : Nat} (k : OwnL d G xs arr cap) (hle : Le G G') (hz : z = true → xs = []) (hb : z = false → G' b = some (.cells arr e (0, 0))) (hn : n = xs.length) :
    ∃ A n' c, nilOr z (.slice (some ⟨b, 0, none⟩) n cap) = .slice A n' c ∧ Sl d G' A n' c xs := by
  subst hn
  obtain ⟨A, c, h1, h2, h3, h4⟩ := k.frozen hle hz hb
  exact ⟨A, _, c, h1, rfl, h2, h3, h4⟩
/-- A literal row, frozen. -/
theorem Sl.lit {α : Type} {d : Ty α} {G : Heap} {xs : List α} {cs : List Value} {b T n : Nat} {fr : Nat × Nat} (h : RepsL d G xs cs) (hb : G b = some (.cells cs.toArray T fr)) (hn : n = xs.length) (hbig : n ≤ big) : Sl d G (some ⟨b, 0, none⟩) n n xs :=
  ⟨hn, Nat.le_refl _, hbig, Row.lit h hb⟩
theorem RepsL.cons' {α : Type} {d : Ty α} {G : Heap} {x : α} {xs : List α} {c cs : List Value} (h : d.rep G x c) (k : RepsL d G xs cs) : RepsL d G (x :: xs) (c ++ cs) := .cons h k
section
variable {P : Program} {r : Option Nat} {ops : Array Oper} {Q : Exit → Act → World → Prop} {c : Ctx} {G Gs : Heap} {S S' : St} {tb : Tbl} {K : Act → World → Prop}
/-! ### 23. Ways that come together again -/
theorem WD_join {ι : Type} {fuel : Nat} {listed : Array Bool} (F : ι → Heap → Prop) (T : ι → St) (fuel' : Nat) (listed' : Array Bool) (cont : ∀ x G', F x G' → WD P r ops Q c G' fuel' listed' G' (T x))
    (now : (∀ x G', F x G' → WD P r ops Q c G' fuel' listed' G' (T x)) → WD P r ops Q c Gs fuel listed G S) : WD P r ops Q c Gs fuel listed G S := now cont
theorem WD_three {fuel : Nat} (i j k : Nat) {listed : Array Bool} {o p q : Oper} (hi : ops[i]? = some o) (hj : ops[j]? = some p) (hk : ops[k]? = some q) (hr : Region.ready .any ops listed = [i, j, k])
    (k1 : WOp P r ops Q c G S o fun a w => Has w Gs ∧ wpAnyH' P r ops Q (fun w' => Has w' Gs) fuel (listed.setIfInBounds i true) a w)
    (k2 : WOp P r ops Q c G S p fun a w => Has w Gs ∧ wpAnyH' P r ops Q (fun w' => Has w' Gs) fuel (listed.setIfInBounds j true) a w)
    (k3 : WOp P r ops Q c G S q fun a w => Has w Gs ∧ wpAnyH' P r ops Q (fun w' => Has w' Gs) fuel (listed.setIfInBounds k true) a w) : WD P r ops Q c Gs (fuel + 1) listed G S := by
  intro ρ a w hs
  refine ⟨(fun h => by rw [hr] at h; cases h), fun m hm => ?_⟩
  rw [hr] at hm
  simp only [List.mem_cons, List.not_mem_nil, or_false] at hm
  rcases hm with rfl | rfl | rfl
  · unfold wpOpIn; simp only [hi]; exact k1 ρ a w hs
  · unfold wpOpIn; simp only [hj]; exact k2 ρ a w hs
  · unfold wpOpIn; simp only [hk]; exact k3 ρ a w hs
/-! ### 24. append to nil -/
/-- The same where append is given nil: a handle for what comes of it is named. -/
def apN (hh : Nat) (tb : Tbl) (N : Nat) (ops : List Oper) (S : St) (o : Oper) : Option (Bool × Nat × Nat × Nat × Option Addr × Nat × Nat × Nat × Nat) :=
  match wantS ops S.env o, dstOK N o.dst with
  | some true, true => match o.op with
    | .call cl => match cl.callee, cl.args.toList, cl.argTypes.toList with
      | .builtin .append, [s, x], [t, u] => bif Nat.beq t u then match get tb t with
        | some T => match T.desc with
          | .slice e => match get tb e with
            | some E => match evalO S.env s, evalO S.env x with
              | some (.v (.slice none 0 0)), some (.v (.slice A m _)) => bif Nat.beq E.zero.cells.size E.size then some (true, hh, 0, 0, A, m, e, E.size, E.bytes) else none
              | _, _ => none
            | none => none
          | _ => none
        | none => none
        else none
      | _, _, _ => none
    | _ => none
  | _, _ => none
theorem WOp_appendN (htb : TblOK P tb) {o : Oper} (z : Bool) (h n cap : Nat) (A : Option Addr) (m e sz bytes : Nat) (hC : apN h tb c.N ops.toList S o = some (z, h, n, cap, A, m, e, sz, bytes)) (hf : S.fresh = true) (hk : (Nat.ble c.k h || Nat.blt S.nx c.k) = true)
    {arr : Array Value} (hg : get S.own h = some (.lst z e arr)) {α : Type} (d : Ty α) {xs ys : List α} (ho : OwnL d G xs arr cap) (hn : n = xs.length) (hz : z = true → xs = []) (hR : Row d G A ys) (hm : m = ys.length)
    (hsz : d.sz = sz) (hs0 : d.sz ≠ 0) (hbd : (xs.length + ys.length) * bytes ≤ 140737488355328) (h63 : xs.length + ys.length ≤ big)
    (k : ∀ z' arr' cap', (z' = true → xs ++ ys = []) → OwnL d G (xs ++ ys) arr' cap' → WK c G (putU { S with own := (S.nx, .lst z' e arr') :: del S.own h, nx := S.nx + 1 } o.dst (.ls z' S.nx (xs ++ ys).length cap')) K) : WOp P r ops Q c G S o K := by
  intro ρ a w hs
  unfold apN at hC
  split at hC
  · rename_i hw hd
    split at hC
    · rename_i cl hop
      split at hC
      · rename_i s x t u hcal hargs htys
        cases htu : Nat.beq t u with
        | false => rw [htu] at hC; cases hC
        | true =>
          rw [htu] at hC
          simp only [cond_true] at hC
          have htu' := Nat.eq_of_beq_eq_true htu
          subst htu'
          split at hC
          · rename_i T hT
            split at hC
            · rename_i e' hdesc
              split at hC
              · rename_i E hE
                split at hC
                · rename_i A0 m0 c20 hes hex
                  cases hzz : Nat.beq E.zero.cells.size E.size with
                  | false => rw [hzz] at hC; cases hC
                  | true =>
                    rw [hzz] at hC
                    simp only [cond_true, Option.some.injEq, Prod.mk.injEq] at hC
                    obtain ⟨rfl, -, rfl, rfl, rfl, rfl, rfl, rfl, rfl⟩ := hC
                    have hx0 : xs = [] := hz rfl
                    subst hx0
                    have hown := hs.2.cells _ (get_mem hg)
                    obtain ⟨z', g', arr', cap', w', hr, h1, h2, h3, h4⟩ := run_append_L (P := P) htb hT hdesc hE (Nat.eq_of_beq_eq_true hzz) d hsz hs0 (ty := o.type) (z := true) (g := ρ h) (c2 := c20) hs.2.has
                      (fun hz' => hown (by simp [OB.on, hz'])) ho hz hR hm hbd h63
                    show if _ then _ else _
                    rw [if_pos (wantS_ok hs.1 hw)]
                    refine ⟨fun f _ => trivial, ?_⟩
                    show Oper.uponIn (WF r) 0 P o a K Q (Sem.run P (Oper.semAt r a.eval o) w)
                    rw [Oper.semAt_eq r _ o (by rw [hop]; intro cl e; cases e)]
                    obtain ⟨dst, op, type, pos, after, guard⟩ := o
                    simp only at hop; subst hop
                    obtain ⟨callee, args, at_⟩ := cl
                    simp only at hcal hargs htys
                    have ha' : args = #[s, x] := by rw [← Array.toArray_toList (xs := args), hargs]
                    have ht' : at_ = #[t, t] := by rw [← Array.toArray_toList (xs := at_), htys]
                    subst hcal; subst ha'; subst ht'
                    have e1 : a.eval s = nilOr true (.slice (some ⟨ρ h, 0, none⟩) ([] : List α).length 0) := by rw [evalO_ok hs.1 hes]; simp only [SV.den]; rfl
                    have e2 : a.eval x = .slice A0 m0 c20 := by rw [evalO_ok hs.1 hex]; simp only [SV.den]
                    simp only [execOp, resolve, invoke, builtin, Sem.run_bind, Sem.run_pure, Result.andThen_ok, List.map_toArray, List.map_cons, List.map_nil, e1, e2]
                    simp only at hr
                    rw [hr]
                    simp only [Result.andThen_ok]
                    have hW' := hs.2.swap (ob' := .lst z' e' arr') (w' := w') hf hg rfl (g := g') (h3.mono (fun b hb => ⟨by simp [OB.on, hb.1], hb.2⟩)) (fun hon => by
                      have hz' : z' = false := by simpa [OB.on] using hon
                      obtain ⟨h5, h6⟩ := h4 hz'
                      refine ⟨h5, h6.imp (fun h7 => ⟨by simp [OB.on, h7.1], h7.2⟩) id⟩) ((Bool.or_eq_true_iff.1 hk).imp Nat.le_of_ble_eq_true (fun h => by simpa using h))
                    have hA' : ASat c (upd ρ S.nx g') S.env S.ds a := hs.1.re hf (upd_lt ρ S.nx g')
                    have := putU_ok (c := c) (S := { S with own := (S.nx, .lst z' e' arr') :: del S.own h, nx := S.nx + 1 }) (x := .ls z' S.nx (([] : List α) ++ ys).length cap') (dst := dst) hA' hd
                    refine k z' arr' cap' h2 h1 (upd ρ S.nx g') _ w' ⟨?_, by rw [this.2.1, this.2.2]; exact hW'⟩
                    have hden : (SV.ls z' S.nx (([] : List α) ++ ys).length cap').den (upd ρ S.nx g') = nilOr z' (.slice (some ⟨g', 0, none⟩) (([] : List α) ++ ys).length cap') := by simp only [SV.den, upd_same]; rfl
                    rw [← hden]; exact this.1
                · cases hC
              · cases hC
            · cases hC
          · cases hC
      · cases hC
    · cases hC
  · cases hC
theorem wpAnyH'_up {H H' : World → Prop} (hh : ∀ w, H' w → H w) : ∀ (fuel : Nat) (listed : Array Bool) (a : Act) (w : World), wpAnyH' P r ops Q H' fuel listed a w → wpAnyH' P r ops Q H fuel listed a w
  | 0, _, _, _, h => h
  | fuel + 1, _, _, _, h => ⟨h.1, fun i hi => wpOpIn_mono (fun a' w' h' => ⟨hh _ h'.1, wpAnyH'_up hh fuel _ a' w' h'.2⟩) (h.2 i hi)⟩
/-- From here on more of the memory is known not to change. -/
theorem WD_up {fuel : Nat} {listed : Array Bool} (hle : Le Gs G) (k : WD P r ops Q c G fuel listed G S) : WD P r ops Q c Gs fuel listed G S := fun ρ a w hs =>
  wpAnyH'_up (fun w h b o hb => h b o (hle b o hb)) fuel listed a w (k ρ a w hs)
end
end Go.Proofs.Ytfemkbockhpmcaa.Sym
