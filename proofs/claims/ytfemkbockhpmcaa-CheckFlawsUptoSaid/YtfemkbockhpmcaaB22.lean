/- Walks of functions that the laws of this seat reach, printed by a program of this session's. -/
import Derived.Test.YtfemkbockhpmcaaB21
set_option linter.unusedSimpArgs false
set_option linter.unusedVariables false
set_option maxHeartbeats 4000000
namespace Go.Proofs.Ytfemkbockhpmcaa.Sym
open Go Go.Proofs Go.RowKit

noncomputable def gdS (g : List Rule) (tk : List ByteArray) : ByteArray → Bool := fun s => @decide (Fert g tk s) (Classical.propDecidable _)
noncomputable def nrS (g : List Rule) : ByteArray → Bool := fun s => @decide (Led g s) (Classical.propDecidable _)
section
variable {g : List Rule} {tk : List ByteArray} {i : Nat} {n : ByteArray} {r : Rule} {out ys : List Flaw} {P L : List (Bool × Flaw)} {f : Flaw}
theorem map_fst (h : (g.map Prod.fst)[i]? = some n) : ∃ r, g[i]? = some r ∧ r.1 = n := by
  rw [List.getElem?_map] at h
  cases e : g[i]? with
  | none => rw [e] at h; cases h
  | some r => rw [e] at h; injection h with h; exact ⟨r, rfl, h⟩
theorem rl_yes (hy : ys = layS out f) (h : out = tellL (P ++ L.take i)) (hL : L[i]? = some (true, f)) : ys = tellL (P ++ L.take (i + 1)) := by rw [tell_step hL, hy, h]; rfl
theorem rl_no (h : out = tellL (P ++ L.take i)) (hL : L[i]? = some (false, f)) : out = tellL (P ++ L.take (i + 1)) := by rw [tell_step hL, h]; rfl
theorem idx_take (h : g[i]? = some r) : decide (((idxS g r.1)[0]?.getD 0) < (i : Int)) = hasB ((g.map Prod.fst).take i) r.1 := by
  rw [Bool.eq_iff_iff, decide_eq_true_iff, hasB_true]
  obtain ⟨y, h1, h2⟩ := idx_first g 0 r.1 i r h rfl
  have h1' : (idxS g r.1)[0]? = some y := h1
  rw [h1']
  constructor
  · intro hlt
    obtain ⟨j, x, e1, e2, e3⟩ := mem_idxS (List.mem_of_getElem? h1')
    have hlt' : y < (i : Int) := hlt
    have hj := (List.getElem?_eq_some_iff.1 e2).1
    rw [List.mem_take_iff_getElem]
    refine ⟨j, by rw [List.length_map]; omega, ?_⟩
    rw [List.getElem_map]
    rw [List.getElem?_eq_getElem hj] at e2; injection e2 with e2; rw [e2]; exact e3
  · intro hm
    rw [List.mem_take_iff_getElem] at hm
    obtain ⟨j, hj, e⟩ := hm
    rw [List.getElem_map] at e
    rw [List.length_map] at hj
    obtain ⟨y', h3, h4⟩ := idx_first g 0 r.1 j g[j] (List.getElem?_eq_getElem (by omega)) e
    have h3' : (idxS g r.1)[0]? = some y' := h3
    rw [h1'] at h3'; injection h3' with h3'
    show y < (i : Int)
    omega
theorem cand1_y1 {b : Bool} (h : g[i]? = some r) (hn : r.1 = n) (hT : b = hasB tk n) (hb : b = true) : (cand1 g tk)[i]? = some (true, (1, n)) := by
  subst hn; rw [cand1_get h, ← hT, hb]; rfl
theorem cand1_y2 {b : Bool} (h : g[i]? = some r) (hn : r.1 = n) (hT : b = hasB (((g.map Prod.fst).take i).drop 0) n) (hb : b = true) : (cand1 g tk)[i]? = some (true, (1, n)) := by
  subst hn; rw [cand1_get h, idx_take h]
  rw [List.drop_zero] at hT
  rw [← hT, hb]; simp
theorem cand1_n {b c : Bool} (h : g[i]? = some r) (hn : r.1 = n) (hT : b = hasB tk n) (hb : b = false) (hT2 : c = hasB (((g.map Prod.fst).take i).drop 0) n) (hc : c = false) : (cand1 g tk)[i]? = some (false, (1, n)) := by
  subst hn; rw [cand1_get h, idx_take h]
  rw [List.drop_zero] at hT2
  rw [← hT, ← hT2, hb, hc]; rfl
theorem idx_none : decide ((idxS g n).length = 0) = !hasB (g.map Prod.fst) n := by
  rw [Bool.eq_iff_iff, decide_eq_true_iff, Bool.not_eq_true']
  constructor
  · intro h
    cases e : hasB (g.map Prod.fst) n with
    | false => rfl
    | true =>
      exfalso
      obtain ⟨x, hx, hxn⟩ := List.mem_map.1 (hasB_true.1 e)
      obtain ⟨j, hj⟩ := List.getElem?_of_mem hx
      obtain ⟨y, h1, _⟩ := idx_first g 0 n j x hj hxn
      have h1' : (idxS g n)[0]? = some y := h1
      rw [List.length_eq_zero_iff.1 h] at h1'; cases h1'
  · intro h
    rcases Nat.eq_zero_or_pos (idxS g n).length with h0 | h0
    · exact h0
    · exfalso
      obtain ⟨j, x, _, e2, e3⟩ := mem_idxS (List.mem_of_getElem? (List.getElem?_eq_getElem h0))
      have : n ∈ g.map Prod.fst := List.mem_map.2 ⟨x, List.mem_of_getElem? e2, e3⟩
      rw [hasB_true.2 this] at h; cases h
theorem c2_snoc {L : List ByteArray} : tellL (P ++ cand2N g tk (L ++ [n])) = if (!hasB tk n && !hasB (g.map Prod.fst) n) = true then layS (tellL (P ++ cand2N g tk L)) (2, n) else tellL (P ++ cand2N g tk L) := by
  have e : cand2N g tk (L ++ [n]) = cand2N g tk L ++ [(!hasB tk n && decide ((idxS g n).length = 0), (2, n))] := by unfold cand2N; rw [List.map_append]; rfl
  rw [e, ← List.append_assoc, tellL_snoc, idx_none]
theorem c2_yes {L : List ByteArray} {b c : Bool} (h1 : b = hasB (g.map Prod.fst) n) (hb : b = false) (h2 : c = hasB tk n) (hc : c = false) : tellL (P ++ cand2N g tk (L ++ [n])) = layS (tellL (P ++ cand2N g tk L)) (2, n) := by
  rw [c2_snoc, ← h1, ← h2, hb, hc]; rfl
theorem c2_no1 {L : List ByteArray} {c : Bool} (h2 : c = hasB tk n) (hc : c = true) : tellL (P ++ cand2N g tk (L ++ [n])) = tellL (P ++ cand2N g tk L) := by
  rw [c2_snoc, ← h2, hc]; rfl
theorem c2_no2 {L : List ByteArray} {b : Bool} (h1 : b = hasB (g.map Prod.fst) n) (hb : b = true) : tellL (P ++ cand2N g tk (L ++ [n])) = tellL (P ++ cand2N g tk L) := by
  rw [c2_snoc, ← h1, hb]; simp
theorem allNames_succ (h : g[i]? = some r) : allNames (g.take (i + 1)) = allNames (g.take i) ++ r.2.flatten := by
  unfold allNames
  rw [take_succ' h, List.flatMap_append]; simp
theorem gd_has {good : List ByteArray} (hG : ∀ s, s ∈ good ↔ s ∈ tk ∨ Fert g tk s) : (!gdS g tk n && !hasB tk n) = !hasB good n := by
  rw [Bool.eq_iff_iff]
  simp only [Bool.and_eq_true, Bool.not_eq_true', ← Bool.not_eq_true, hasB_true, hG]
  unfold gdS
  rw [@decide_eq_true_iff _ (Classical.propDecidable _)]
  constructor
  · rintro ⟨h1, h2⟩ (h | h)
    · exact h2 h
    · exact h1 h
  · intro h
    exact ⟨fun h1 => h (.inr h1), fun h1 => h (.inl h1)⟩
theorem cand3_gen {good : List ByteArray} (h : g[i]? = some r) (hn : r.1 = n) (hG : ∀ s, s ∈ good ↔ s ∈ tk ∨ Fert g tk s) : (cand3 g tk (gdS g tk))[i]? = some (!hasB good n, (3, n)) := by
  subst hn
  unfold cand3; rw [List.getElem?_map, h, Option.map_some, gd_has hG]
theorem cand3_y {good : List ByteArray} {b : Bool} (h : g[i]? = some r) (hn : r.1 = n) (hG : ∀ s, s ∈ good ↔ s ∈ tk ∨ Fert g tk s) (hT : b = hasB good n) (hb : b = false) : (cand3 g tk (gdS g tk))[i]? = some (true, (3, n)) := by
  rw [cand3_gen h hn hG, ← hT, hb]; rfl
theorem cand3_n {good : List ByteArray} {b : Bool} (h : g[i]? = some r) (hn : r.1 = n) (hG : ∀ s, s ∈ good ↔ s ∈ tk ∨ Fert g tk s) (hT : b = hasB good n) (hb : b = true) : (cand3 g tk (gdS g tk))[i]? = some (false, (3, n)) := by
  rw [cand3_gen h hn hG, ← hT, hb]; rfl
theorem cand4_gen {near : List ByteArray} (h : g[i]? = some r) (hn : r.1 = n) (hG : ∀ s, s ∈ near ↔ Led g s) : (cand4 g (nrS g))[i]? = some (!hasB near n, (4, n)) := by
  subst hn
  have e : nrS g r.1 = hasB near r.1 := by rw [Bool.eq_iff_iff, hasB_true, hG]; unfold nrS; rw [@decide_eq_true_iff _ (Classical.propDecidable _)]
  unfold cand4; rw [List.getElem?_map, h, Option.map_some, e]
theorem cand4_y {near : List ByteArray} {b : Bool} (h : g[i]? = some r) (hn : r.1 = n) (hG : ∀ s, s ∈ near ↔ Led g s) (hT : b = hasB near n) (hb : b = false) : (cand4 g (nrS g))[i]? = some (true, (4, n)) := by
  rw [cand4_gen h hn hG, ← hT, hb]; rfl
theorem cand4_n {near : List ByteArray} {b : Bool} (h : g[i]? = some r) (hn : r.1 = n) (hG : ∀ s, s ∈ near ↔ Led g s) (hT : b = hasB near n) (hb : b = true) : (cand4 g (nrS g))[i]? = some (false, (4, n)) := by
  rw [cand4_gen h hn hG, ← hT, hb]; rfl
end
theorem flaws8_ok {w : World} {G : Heap} (hG : Has w G) {g : (List (ByteArray × (List (List ByteArray))))} {A_g : Option Addr} {n_g : Nat} {c_g : Nat} {tk : (List ByteArray)} {A_tk : Option Addr} {n_tk : Nat} {c_tk : Nat} (h_g : Sl (tPair tStr (tSlice (tSlice tStr))) G A_g n_g c_g g) (h_tk : Sl tStr G A_tk n_tk c_tk tk) (hg : SmallG g) (htk : tk.length ≤ 1000) :
    Calls Try.prog 31 #[(.agg #[.slice A_g n_g c_g]), (.slice A_tk n_tk c_tk)] w (Ret w G fun v G' => ∃ (A_r : Option Addr) (n_r : Nat) (c_r : Nat), v = .slice A_r n_r c_r ∧ (Sl (tPair (tInt .i64) tStr) G' A_r n_r c_r (flawsL g tk)) ∧ (True)) := by
 have lh_g := h_g.len'
 have lh_tk := h_tk.len'
 refine enter [(.agg [(sS A_g n_g c_g)]), (sS A_tk n_tk c_tk)] 114 Try.func31 rfl rfl rfl rfl hG ?_
 have hg1 := hg.1
 refine WC_seq (WC_region ?_)
 refine WL_execS htb 2 [2, 1] [0] ⟨[(2, (.p 0 0)), (1, (sS A_tk n_tk c_tk))], [(0, (.cells 24 [(sS A_g n_g c_g)]))], 1, [], []⟩ (by kernel_rfl) ?_
 refine WL_nil ?_
 refine WQ_code ?_
 refine WC_seq (WC_region ?_)
 refine WL_execS htb 1 [5, 2, 1] [0] ⟨[(5, (sS none 0 0)), (2, (.p 0 0)), (1, (sS A_tk n_tk c_tk))], [(0, (.cells 24 [(sS A_g n_g c_g)]))], 1, [], []⟩ (by kernel_rfl) ?_
 refine WL_nil ?_
 refine WQ_code ?_
 refine WC_seq (WC_region ?_)
 refine WL_execS htb 1 [21, 5, 2, 1] [0] ⟨[(21, (.agg [(sS A_g n_g c_g)])), (5, (sS none 0 0)), (2, (.p 0 0)), (1, (sS A_tk n_tk c_tk))], [(0, (.cells 24 [(sS A_g n_g c_g)]))], 1, [], []⟩ (by kernel_rfl) ?_
 refine WL_op (WOp_call 18 [(.agg [(sS A_g n_g c_g)])] (by kernel_rfl) (goes_of Try.func18 rfl rfl) (fun ρ w hW => names_ok hW.has (g := g) h_g (by omega)) ?_)
 intro G1 v hle hΦ
 replace h_g := h_g.mono hle
 replace h_tk := h_tk.mono hle
 obtain ⟨A_r1, n_r1, c_r1, rfl, h_r1, hR2⟩ := hΦ
 have lh_r1 := h_r1.len'
 refine WL_execS htb 1 [6, 5, 2, 1] [0] ⟨[(6, (sS A_r1 n_r1 c_r1)), (5, (sS none 0 0)), (2, (.p 0 0)), (1, (sS A_tk n_tk c_tk))], [(0, (.cells 24 [(sS A_g n_g c_g)]))], 1, [], []⟩ (by kernel_rfl) ?_
 refine WL_nil ?_
 refine WQ_code ?_
 refine WC_seq ?_
 refine WC_seq (WC_region ?_)
 refine WL_execS htb 3 [25, 24, 23, 6, 5, 2, 1] [0] ⟨[(25, (iI 0)), (24, (iN n_r1)), (23, (sS A_r1 n_r1 c_r1)), (6, (sS A_r1 n_r1 c_r1)), (5, (sS none 0 0)), (2, (.p 0 0)), (1, (sS A_tk n_tk c_tk))], [(0, (.cells 24 [(sS A_g n_g c_g)]))], 1, [], []⟩ (by kernel_rfl) ?_
 refine WL_nil ?_
 refine WQ_code ?_
 refine WC_block ?_
 refine WK_freeze 0 rfl rfl rfl rfl ?_
 intro bk4 G3 hle hbk4
 replace h_g := h_g.mono hle
 replace h_tk := h_tk.mono hle
 replace h_r1 := h_r1.mono hle
 have hz := FZ.cons (h := 0) hbk4 rfl (FZ.nil _)
 refine WK_off 31 rfl ?_
 refine WK_env [(25, (iI 0)), (24, (iN n_r1)), (23, (sS A_r1 n_r1 c_r1)), (6, (sS A_r1 n_r1 c_r1)), (5, (.ls true 1 0 0)), (2, (.p 0 0)), (1, (sS A_tk n_tk c_tk))] (fun ρ => ⟨rfl, rfl, ⟨rfl, rfl, ⟨rfl, rfl, ⟨rfl, rfl, ⟨rfl, rfl, ⟨rfl, rfl, ⟨rfl, rfl, trivial⟩⟩⟩⟩⟩⟩⟩) ?_
 have hnl := h_r1.len'; rw [List.length_map] at hnl
 refine WK_keep [25, 24, 23, 6, 5, 2, 1] [1] rfl rfl ?_
 refine WK_env [(25, (iN 0)), (24, (iN n_r1)), (23, (sS A_r1 n_r1 c_r1)), (6, (sS A_r1 n_r1 c_r1)), (5, (.ls true 1 (([] : List (Int × ByteArray)).length) 0)), (2, (.p 0 0)), (1, (sS A_tk n_tk c_tk))] (fun ρ => ⟨rfl, rfl, ⟨rfl, rfl, ⟨rfl, rfl, ⟨rfl, rfl, ⟨rfl, rfl, ⟨rfl, rfl, ⟨rfl, rfl, trivial⟩⟩⟩⟩⟩⟩⟩) ?_
 refine WC_loop (ι := Nat × List (Int × ByteArray) × Bool × Array Value × Nat) (fun (i, out, z, arr, cap) G5 => Le G3 G5 ∧ (i ≤ n_r1 ∧ out.length ≤ i ∧ OwnL (tPair (tInt .i64) tStr) G5 out arr cap ∧ (z = true → out = []) ∧ (out = tellL ([] ++ (cand1 g tk).take i)))) (fun (i, out, z, arr, cap) => ⟨[(25, (iN i)), (24, (iN n_r1)), (23, (sS A_r1 n_r1 c_r1)), (6, (sS A_r1 n_r1 c_r1)), (5, (.ls z 1 out.length cap)), (2, (.p 0 0)), (1, (sS A_tk n_tk c_tk))], [(1, (.lst z 31 arr))], 2, [], [(0, bk4, (.cells 24 [(sS A_g n_g c_g)]))]⟩) (fun (i, out, z, arr, cap) => n_r1 - i) (0, ([] : List (Int × ByteArray)), true, #[], 0) ⟨Le.refl _, ⟨Nat.zero_le _, (by first | omega | (simp only [List.length_append, List.length_nil]; omega)), OwnL.nil _ _, fun _ => rfl, (by simp; rfl)⟩⟩ rfl ?_
 rintro ⟨i, out, z, arr, cap⟩ G5 ⟨hle, hF⟩
 show WC _ _ _ _ _ ⟨[(25, (iN i)), (24, (iN n_r1)), (23, (sS A_r1 n_r1 c_r1)), (6, (sS A_r1 n_r1 c_r1)), (5, (.ls z 1 out.length cap)), (2, (.p 0 0)), (1, (sS A_tk n_tk c_tk))], [(1, (.lst z 31 arr))], 2, [], [(0, bk4, (.cells 24 [(sS A_g n_g c_g)]))]⟩ _
 replace h_g := h_g.mono hle
 replace h_tk := h_tk.mono hle
 replace h_r1 := h_r1.mono hle
 replace hz := hz.mono hle
 have hc6 := hle
 obtain ⟨hi, hlen, ho, hzz, hex⟩ := hF
 refine WC_seq (WC_region ?_)
 refine WL_execS htb 1 [26, 25, 24, 23, 6, 5, 2, 1] [1] ⟨[(26, (bB (decide ((((i : Nat) : Int) : Int) < ((n_r1 : Nat) : Int))))), (25, (iN i)), (24, (iN n_r1)), (23, (sS A_r1 n_r1 c_r1)), (6, (sS A_r1 n_r1 c_r1)), (5, (.ls z 1 out.length cap)), (2, (.p 0 0)), (1, (sS A_tk n_tk c_tk))], [(1, (.lst z 31 arr))], 2, [], [(0, bk4, (.cells 24 [(sS A_g n_g c_g)]))]⟩ (by kernel_rfl) ?_
 refine WL_nil ?_
 refine WQ_code ?_
 refine WC_seq ?_
 refine WC_cond (b := (decide ((((i : Nat) : Int) : Int) < ((n_r1 : Nat) : Int)))) rfl (fun hc => ?_) (fun hc => ?_)
 ·
  replace hc := of_decide_eq_true hc
  refine WC_skip ?_
  refine WQ_code ?_
  refine WC_seq ?_
  refine WC_block ?_
  refine WC_seq (WC_region ?_)
  refine WL_execS htb 1 [27, 25, 24, 23, 6, 5, 2, 1] [1] ⟨[(27, (iN i)), (25, (iN i)), (24, (iN n_r1)), (23, (sS A_r1 n_r1 c_r1)), (6, (sS A_r1 n_r1 c_r1)), (5, (.ls z 1 out.length cap)), (2, (.p 0 0)), (1, (sS A_tk n_tk c_tk))], [(1, (.lst z 31 arr))], 2, [], [(0, bk4, (.cells 24 [(sS A_g n_g c_g)]))]⟩ (by kernel_rfl) ?_
  obtain ⟨q7, rfl⟩ := h_r1.ptr (by omega)
  obtain ⟨x10, _, hx8, ⟨rfl, hn11⟩, at9⟩ := h_r1.get i (by omega)
  replace at9 : At G5 (q7.add (i * 1)) [.string x10] := at9
  refine WL_op (WOp_idx htb q7 n_r1 ((i : Nat) : Int) 1 (by kernel_rfl) (by omega) (by omega) ?_)
  refine WL_op (WOp_ld htb (q7.add (i * 1)) false 1 [.string x10] (by kernel_rfl) at9 rfl (by decide) ?_)
  refine WL_execS htb 2 [8, 7, 25, 24, 23, 6, 5, 2, 1] [1] ⟨[(8, (tS x10)), (7, (iN i)), (25, (iN i)), (24, (iN n_r1)), (23, (sS (some q7) n_r1 c_r1)), (6, (sS (some q7) n_r1 c_r1)), (5, (.ls z 1 out.length cap)), (2, (.p 0 0)), (1, (sS A_tk n_tk c_tk))], [(1, (.lst z 31 arr))], 2, [], [(0, bk4, (.cells 24 [(sS A_g n_g c_g)]))]⟩ (by kernel_rfl) ?_
  refine WL_nil ?_
  refine WQ_code ?_
  refine WC_seq (WC_region ?_)
  refine WL_execS htb 2 [31, 30, 8, 7, 25, 24, 23, 6, 5, 2, 1] [1] ⟨[(31, (tS x10)), (30, (sS A_tk n_tk c_tk)), (8, (tS x10)), (7, (iN i)), (25, (iN i)), (24, (iN n_r1)), (23, (sS (some q7) n_r1 c_r1)), (6, (sS (some q7) n_r1 c_r1)), (5, (.ls z 1 out.length cap)), (2, (.p 0 0)), (1, (sS A_tk n_tk c_tk))], [(1, (.lst z 31 arr))], 2, [], [(0, bk4, (.cells 24 [(sS A_g n_g c_g)]))]⟩ (by kernel_rfl) ?_
  refine WL_op (WOp_call 65 [(sS A_tk n_tk c_tk), (tS x10)] (by kernel_rfl) (goes_of Try.func65 rfl rfl) (fun ρ w hW => has_ok hW.has (xs := tk) (x := x10) h_tk hn11) ?_)
  intro G2 v hle hΦ
  replace hc6 := Le.trans hc6 hle
  replace h_g := h_g.mono hle
  replace h_tk := h_tk.mono hle
  replace h_r1 := h_r1.mono hle
  replace hz := hz.mono hle
  replace ho := ho.mono hle
  obtain ⟨r12, rfl, hR13⟩ := hΦ
  refine WL_execS htb 1 [33, 8, 7, 25, 24, 23, 6, 5, 2, 1] [1] ⟨[(33, (bB r12)), (8, (tS x10)), (7, (iN i)), (25, (iN i)), (24, (iN n_r1)), (23, (sS (some q7) n_r1 c_r1)), (6, (sS (some q7) n_r1 c_r1)), (5, (.ls z 1 out.length cap)), (2, (.p 0 0)), (1, (sS A_tk n_tk c_tk))], [(1, (.lst z 31 arr))], 2, [], [(0, bk4, (.cells 24 [(sS A_g n_g c_g)]))]⟩ (by kernel_rfl) ?_
  obtain ⟨gr, hgr, hgn⟩ := map_fst hx8
  refine WK_split 33 r12 rfl (fun hd => ?_) (fun hd => ?_)
  ·
   skip
   refine WK_keep [33, 8, 7, 25, 24, 23, 6, 5, 2, 1] [1] rfl rfl ?_
   refine WL_execS htb 6 [39, 8, 25, 24, 23, 6, 5, 2, 1] [1] ⟨[(39, (bB true)), (8, (tS x10)), (25, (iN i)), (24, (iN n_r1)), (23, (sS (some q7) n_r1 c_r1)), (6, (sS (some q7) n_r1 c_r1)), (5, (.ls z 1 out.length cap)), (2, (.p 0 0)), (1, (sS A_tk n_tk c_tk))], [(1, (.lst z 31 arr))], 2, [], [(0, bk4, (.cells 24 [(sS A_g n_g c_g)]))]⟩ (by kernel_rfl) ?_
   refine WL_nil ?_
   refine WQ_code ?_
   refine WC_cond (b := true) rfl (fun _ => ?_) (fun h => by cases h)
   refine WC_region ?_
   refine WL_execS htb 2 [41, 40, 25, 24, 23, 6, 2, 1] [1] ⟨[(41, (tS x10)), (40, (.ls z 1 out.length cap)), (25, (iN i)), (24, (iN n_r1)), (23, (sS (some q7) n_r1 c_r1)), (6, (sS (some q7) n_r1 c_r1)), (2, (.p 0 0)), (1, (sS A_tk n_tk c_tk))], [(1, (.lst z 31 arr))], 2, [], [(0, bk4, (.cells 24 [(sS A_g n_g c_g)]))]⟩ (by kernel_rfl) ?_
   refine WL_op (WOp_callT 66 [(.ls z 1 out.length cap), (iI 1), (tS x10)] (by kernel_rfl) (goes_of Try.func66 rfl rfl) (by kernel_rfl) 1 rfl rfl (fun ρ w b hW hρ hb => by (subst hρ; exact lay_ok hW.has hb ho hzz rfl (by omega) hn11 (by omega))) (fun G14 z15 arr16 cap17 ys18 hle hz19 ho20 hy21 => ?_))
   replace hc6 := Le.trans hc6 hle
   replace h_g := h_g.mono hle
   replace h_tk := h_tk.mono hle
   replace h_r1 := h_r1.mono hle
   replace hz := hz.mono hle
   have hy21l : ys18.length ≤ out.length + 1 := by (rw [hy21]; exact layS_len _ _)
   show WL _ _ _ _ _ _ ⟨[(42, (.ls z15 2 ys18.length cap17)), (41, (tS x10)), (40, (.ls z 1 out.length cap)), (25, (iN i)), (24, (iN n_r1)), (23, (sS (some q7) n_r1 c_r1)), (6, (sS (some q7) n_r1 c_r1)), (2, (.p 0 0)), (1, (sS A_tk n_tk c_tk))], [(2, (.lst z15 31 arr16))], 3, [], [(0, bk4, (.cells 24 [(sS A_g n_g c_g)]))]⟩ _
   refine WL_execS htb 1 [5, 25, 24, 23, 6, 2, 1] [2] ⟨[(5, (.ls z15 2 ys18.length cap17)), (25, (iN i)), (24, (iN n_r1)), (23, (sS (some q7) n_r1 c_r1)), (6, (sS (some q7) n_r1 c_r1)), (2, (.p 0 0)), (1, (sS A_tk n_tk c_tk))], [(2, (.lst z15 31 arr16))], 3, [], [(0, bk4, (.cells 24 [(sS A_g n_g c_g)]))]⟩ (by kernel_rfl) ?_
   refine WL_nil ?_
   refine WQ_blk ?_
   refine WQ_code ?_
   refine WC_region ?_
   refine WL_execS htb 2 [25, 5, 24, 23, 6, 2, 1] [2] ⟨[(25, (iI (IntKind.i64.wrap (((i : Nat) : Int) + 1)))), (5, (.ls z15 2 ys18.length cap17)), (24, (iN n_r1)), (23, (sS (some q7) n_r1 c_r1)), (6, (sS (some q7) n_r1 c_r1)), (2, (.p 0 0)), (1, (sS A_tk n_tk c_tk))], [(2, (.lst z15 31 arr16))], 3, [], [(0, bk4, (.cells 24 [(sS A_g n_g c_g)]))]⟩ (by kernel_rfl) ?_
   refine WL_nil ?_
   refine WK_env [(25, (iN (i + 1))), (5, (.ls z15 2 ys18.length cap17)), (24, (iN n_r1)), (23, (sS (some q7) n_r1 c_r1)), (6, (sS (some q7) n_r1 c_r1)), (2, (.p 0 0)), (1, (sS A_tk n_tk c_tk))] (fun ρ => ⟨rfl, (congrArg (Value.int .i64) (by rw [wrap_id (by omega)]; first | rfl | omega)), ⟨rfl, rfl, ⟨rfl, rfl, ⟨rfl, rfl, ⟨rfl, rfl, ⟨rfl, rfl, ⟨rfl, rfl, trivial⟩⟩⟩⟩⟩⟩⟩) ?_
   refine WK_keep [25, 24, 23, 6, 5, 2, 1] [2] rfl rfl ?_
   exact WQ_nextR ((i + 1), ys18, z15, arr16, cap17) (by show n_r1 - (i + 1) < n_r1 - i; omega) ⟨hc6, ⟨by omega, (by first | omega | (simp only [List.length_append, List.length_cons, List.length_nil]; omega)), ho20, hz19, rl_yes hy21 hex (cand1_y1 hgr hgn hR13 (by simpa using hd))⟩⟩ [(1, 2)] rfl rfl rfl rfl rfl rfl
  ·
   skip
   refine WK_keep [33, 8, 7, 25, 24, 23, 6, 5, 2, 1] [1] rfl rfl ?_
   refine WL_execS htb 2 [35, 34, 33, 8, 25, 24, 23, 6, 5, 2, 1] [1] ⟨[(35, (iN i)), (34, (sS (some q7) n_r1 c_r1)), (33, (bB false)), (8, (tS x10)), (25, (iN i)), (24, (iN n_r1)), (23, (sS (some q7) n_r1 c_r1)), (6, (sS (some q7) n_r1 c_r1)), (5, (.ls z 1 out.length cap)), (2, (.p 0 0)), (1, (sS A_tk n_tk c_tk))], [(1, (.lst z 31 arr))], 2, [], [(0, bk4, (.cells 24 [(sS A_g n_g c_g)]))]⟩ (by kernel_rfl) ?_
   obtain ⟨A14, hA15⟩ : ∃ A, sliceAddr (some q7) c_r1 0 1 = A := ⟨_, rfl⟩
   have hs16 := h_r1.part 0 i (by omega) (by omega) hA15
   refine WL_op (WOp_sl htb (some q7) n_r1 c_r1 0 i 1 (by kernel_rfl) (by omega) (by omega) hA15 ?_)
   have lhs16 := hs16.len'
   refine WL_execS htb 1 [37, 36, 33, 8, 25, 24, 23, 6, 5, 2, 1] [1] ⟨[(37, (tS x10)), (36, (sS A14 (i - 0) (c_r1 - 0))), (33, (bB false)), (8, (tS x10)), (25, (iN i)), (24, (iN n_r1)), (23, (sS (some q7) n_r1 c_r1)), (6, (sS (some q7) n_r1 c_r1)), (5, (.ls z 1 out.length cap)), (2, (.p 0 0)), (1, (sS A_tk n_tk c_tk))], [(1, (.lst z 31 arr))], 2, [], [(0, bk4, (.cells 24 [(sS A_g n_g c_g)]))]⟩ (by kernel_rfl) ?_
   refine WL_op (WOp_call 65 [(sS A14 (i - 0) (c_r1 - 0)), (tS x10)] (by kernel_rfl) (goes_of Try.func65 rfl rfl) (fun ρ w hW => has_ok hW.has (xs := (((g.map Prod.fst).take i).drop 0)) (x := x10) hs16 hn11) ?_)
   intro G3 v hle hΦ
   replace hc6 := Le.trans hc6 hle
   replace h_g := h_g.mono hle
   replace h_tk := h_tk.mono hle
   replace h_r1 := h_r1.mono hle
   replace hs16 := hs16.mono hle
   replace hz := hz.mono hle
   replace ho := ho.mono hle
   obtain ⟨r17, rfl, hR18⟩ := hΦ
   refine WL_execS htb 1 [39, 8, 25, 24, 23, 6, 5, 2, 1] [1] ⟨[(39, (bB r17)), (8, (tS x10)), (25, (iN i)), (24, (iN n_r1)), (23, (sS (some q7) n_r1 c_r1)), (6, (sS (some q7) n_r1 c_r1)), (5, (.ls z 1 out.length cap)), (2, (.p 0 0)), (1, (sS A_tk n_tk c_tk))], [(1, (.lst z 31 arr))], 2, [], [(0, bk4, (.cells 24 [(sS A_g n_g c_g)]))]⟩ (by kernel_rfl) ?_
   refine WL_nil ?_
   refine WQ_code ?_
   refine WC_cond (b := r17) rfl (fun he => ?_) (fun he => ?_)
   ·
    skip
    refine WC_region ?_
    refine WL_execS htb 2 [41, 40, 25, 24, 23, 6, 2, 1] [1] ⟨[(41, (tS x10)), (40, (.ls z 1 out.length cap)), (25, (iN i)), (24, (iN n_r1)), (23, (sS (some q7) n_r1 c_r1)), (6, (sS (some q7) n_r1 c_r1)), (2, (.p 0 0)), (1, (sS A_tk n_tk c_tk))], [(1, (.lst z 31 arr))], 2, [], [(0, bk4, (.cells 24 [(sS A_g n_g c_g)]))]⟩ (by kernel_rfl) ?_
    refine WL_op (WOp_callT 66 [(.ls z 1 out.length cap), (iI 1), (tS x10)] (by kernel_rfl) (goes_of Try.func66 rfl rfl) (by kernel_rfl) 1 rfl rfl (fun ρ w b hW hρ hb => by (subst hρ; exact lay_ok hW.has hb ho hzz rfl (by omega) hn11 (by omega))) (fun G19 z20 arr21 cap22 ys23 hle hz24 ho25 hy26 => ?_))
    replace hc6 := Le.trans hc6 hle
    replace h_g := h_g.mono hle
    replace h_tk := h_tk.mono hle
    replace h_r1 := h_r1.mono hle
    replace hz := hz.mono hle
    have hy26l : ys23.length ≤ out.length + 1 := by (rw [hy26]; exact layS_len _ _)
    show WL _ _ _ _ _ _ ⟨[(42, (.ls z20 2 ys23.length cap22)), (41, (tS x10)), (40, (.ls z 1 out.length cap)), (25, (iN i)), (24, (iN n_r1)), (23, (sS (some q7) n_r1 c_r1)), (6, (sS (some q7) n_r1 c_r1)), (2, (.p 0 0)), (1, (sS A_tk n_tk c_tk))], [(2, (.lst z20 31 arr21))], 3, [], [(0, bk4, (.cells 24 [(sS A_g n_g c_g)]))]⟩ _
    refine WL_execS htb 1 [5, 25, 24, 23, 6, 2, 1] [2] ⟨[(5, (.ls z20 2 ys23.length cap22)), (25, (iN i)), (24, (iN n_r1)), (23, (sS (some q7) n_r1 c_r1)), (6, (sS (some q7) n_r1 c_r1)), (2, (.p 0 0)), (1, (sS A_tk n_tk c_tk))], [(2, (.lst z20 31 arr21))], 3, [], [(0, bk4, (.cells 24 [(sS A_g n_g c_g)]))]⟩ (by kernel_rfl) ?_
    refine WL_nil ?_
    refine WQ_blk ?_
    refine WQ_code ?_
    refine WC_region ?_
    refine WL_execS htb 2 [25, 5, 24, 23, 6, 2, 1] [2] ⟨[(25, (iI (IntKind.i64.wrap (((i : Nat) : Int) + 1)))), (5, (.ls z20 2 ys23.length cap22)), (24, (iN n_r1)), (23, (sS (some q7) n_r1 c_r1)), (6, (sS (some q7) n_r1 c_r1)), (2, (.p 0 0)), (1, (sS A_tk n_tk c_tk))], [(2, (.lst z20 31 arr21))], 3, [], [(0, bk4, (.cells 24 [(sS A_g n_g c_g)]))]⟩ (by kernel_rfl) ?_
    refine WL_nil ?_
    refine WK_env [(25, (iN (i + 1))), (5, (.ls z20 2 ys23.length cap22)), (24, (iN n_r1)), (23, (sS (some q7) n_r1 c_r1)), (6, (sS (some q7) n_r1 c_r1)), (2, (.p 0 0)), (1, (sS A_tk n_tk c_tk))] (fun ρ => ⟨rfl, (congrArg (Value.int .i64) (by rw [wrap_id (by omega)]; first | rfl | omega)), ⟨rfl, rfl, ⟨rfl, rfl, ⟨rfl, rfl, ⟨rfl, rfl, ⟨rfl, rfl, ⟨rfl, rfl, trivial⟩⟩⟩⟩⟩⟩⟩) ?_
    refine WK_keep [25, 24, 23, 6, 5, 2, 1] [2] rfl rfl ?_
    exact WQ_nextR ((i + 1), ys23, z20, arr21, cap22) (by show n_r1 - (i + 1) < n_r1 - i; omega) ⟨hc6, ⟨by omega, (by first | omega | (simp only [List.length_append, List.length_cons, List.length_nil]; omega)), ho25, hz24, rl_yes hy26 hex (cand1_y2 hgr hgn hR18 (by simpa using he))⟩⟩ [(1, 2)] rfl rfl rfl rfl rfl rfl
   ·
    skip
    refine WC_skip ?_
    refine WQ_blk ?_
    refine WQ_code ?_
    refine WC_region ?_
    refine WL_execS htb 2 [25, 24, 23, 6, 5, 2, 1] [1] ⟨[(25, (iI (IntKind.i64.wrap (((i : Nat) : Int) + 1)))), (24, (iN n_r1)), (23, (sS (some q7) n_r1 c_r1)), (6, (sS (some q7) n_r1 c_r1)), (5, (.ls z 1 out.length cap)), (2, (.p 0 0)), (1, (sS A_tk n_tk c_tk))], [(1, (.lst z 31 arr))], 2, [], [(0, bk4, (.cells 24 [(sS A_g n_g c_g)]))]⟩ (by kernel_rfl) ?_
    refine WL_nil ?_
    refine WK_env [(25, (iN (i + 1))), (24, (iN n_r1)), (23, (sS (some q7) n_r1 c_r1)), (6, (sS (some q7) n_r1 c_r1)), (5, (.ls z 1 out.length cap)), (2, (.p 0 0)), (1, (sS A_tk n_tk c_tk))] (fun ρ => ⟨rfl, (congrArg (Value.int .i64) (by rw [wrap_id (by omega)]; first | rfl | omega)), ⟨rfl, rfl, ⟨rfl, rfl, ⟨rfl, rfl, ⟨rfl, rfl, ⟨rfl, rfl, ⟨rfl, rfl, trivial⟩⟩⟩⟩⟩⟩⟩) ?_
    refine WK_keep [25, 24, 23, 6, 5, 2, 1] [1] rfl rfl ?_
    exact WQ_next ((i + 1), out, z, arr, cap) (by show n_r1 - (i + 1) < n_r1 - i; omega) ⟨hc6, ⟨by omega, (by first | omega | (simp only [List.length_append, List.length_cons, List.length_nil]; omega)), ho, hzz, rl_no hex (cand1_n hgr hgn hR13 (by simpa using hd) hR18 (by simpa using he))⟩⟩ (fun ρ a w h => h)
 ·
  replace hc := of_decide_eq_false hc
  rw [List.take_of_length_le (show (cand1 g tk).length ≤ i by rw [cand1_len]; omega), List.nil_append] at hex
  refine WC_exit ?_
  refine WQ_then_exit ?_
  refine WQ_then_exit ?_
  refine WQ_hit ?_
  refine WQ_code ?_
  refine WC_seq ?_
  refine WC_seq (WC_region ?_)
  refine WL_execS htb 4 [47, 46, 45, 6, 5, 2, 1] [1] ⟨[(47, (iI 0)), (46, (iN n_g)), (45, (sS A_g n_g c_g)), (6, (sS A_r1 n_r1 c_r1)), (5, (.ls z 1 out.length cap)), (2, (.p 0 0)), (1, (sS A_tk n_tk c_tk))], [(1, (.lst z 31 arr))], 2, [], [(0, bk4, (.cells 24 [(sS A_g n_g c_g)]))]⟩ (by kernel_rfl) ?_
  refine WL_nil ?_
  refine WQ_code ?_
  refine WC_block ?_
  refine WK_keep [47, 46, 45, 6, 5, 2, 1] [1] rfl rfl ?_
  refine WK_env [(47, (iN 0)), (46, (iN n_g)), (45, (sS A_g n_g c_g)), (6, (sS A_r1 n_r1 c_r1)), (5, (.ls z 1 out.length cap)), (2, (.p 0 0)), (1, (sS A_tk n_tk c_tk))] (fun ρ => ⟨rfl, rfl, ⟨rfl, rfl, ⟨rfl, rfl, ⟨rfl, rfl, ⟨rfl, rfl, ⟨rfl, rfl, ⟨rfl, rfl, trivial⟩⟩⟩⟩⟩⟩⟩) ?_
  refine WC_loop (ι := Nat × List (Int × ByteArray) × Bool × Array Value × Nat) (fun (r, out1, z1, arr1, cap1) G7 => Le G5 G7 ∧ (r ≤ n_g ∧ out1.length ≤ 1000 + r * 1000000 ∧ OwnL (tPair (tInt .i64) tStr) G7 out1 arr1 cap1 ∧ (z1 = true → out1 = []) ∧ (out1 = tellL (cand1 g tk ++ cand2N g tk (allNames (g.take r)))))) (fun (r, out1, z1, arr1, cap1) => ⟨[(47, (iN r)), (46, (iN n_g)), (45, (sS A_g n_g c_g)), (6, (sS A_r1 n_r1 c_r1)), (5, (.ls z1 1 out1.length cap1)), (2, (.p 0 0)), (1, (sS A_tk n_tk c_tk))], [(1, (.lst z1 31 arr1))], 2, [], [(0, bk4, (.cells 24 [(sS A_g n_g c_g)]))]⟩) (fun (r, out1, z1, arr1, cap1) => n_g - r) (0, out, z, arr, cap) ⟨Le.refl _, ⟨Nat.zero_le _, (by first | omega | (simp only [List.length_append, List.length_nil]; omega)), ho, hzz, (by rw [hex]; simp [allNames, cand2N])⟩⟩ rfl ?_
  rintro ⟨r, out1, z1, arr1, cap1⟩ G7 ⟨hle, hF⟩
  show WC _ _ _ _ _ ⟨[(47, (iN r)), (46, (iN n_g)), (45, (sS A_g n_g c_g)), (6, (sS A_r1 n_r1 c_r1)), (5, (.ls z1 1 out1.length cap1)), (2, (.p 0 0)), (1, (sS A_tk n_tk c_tk))], [(1, (.lst z1 31 arr1))], 2, [], [(0, bk4, (.cells 24 [(sS A_g n_g c_g)]))]⟩ _
  replace hc6 := Le.trans hc6 hle
  replace h_g := h_g.mono hle
  replace h_tk := h_tk.mono hle
  replace h_r1 := h_r1.mono hle
  replace hz := hz.mono hle
  replace ho := ho.mono hle
  have hc8 := hle
  obtain ⟨hi1, hlen1, ho1, hzz1, hex1⟩ := hF
  refine WC_seq (WC_region ?_)
  refine WL_execS htb 1 [48, 47, 46, 45, 6, 5, 2, 1] [1] ⟨[(48, (bB (decide ((((r : Nat) : Int) : Int) < ((n_g : Nat) : Int))))), (47, (iN r)), (46, (iN n_g)), (45, (sS A_g n_g c_g)), (6, (sS A_r1 n_r1 c_r1)), (5, (.ls z1 1 out1.length cap1)), (2, (.p 0 0)), (1, (sS A_tk n_tk c_tk))], [(1, (.lst z1 31 arr1))], 2, [], [(0, bk4, (.cells 24 [(sS A_g n_g c_g)]))]⟩ (by kernel_rfl) ?_
  refine WL_nil ?_
  refine WQ_code ?_
  refine WC_seq ?_
  refine WC_cond (b := (decide ((((r : Nat) : Int) : Int) < ((n_g : Nat) : Int)))) rfl (fun hc1 => ?_) (fun hc1 => ?_)
  ·
   replace hc1 := of_decide_eq_true hc1
   refine WC_skip ?_
   refine WQ_code ?_
   refine WC_seq ?_
   refine WC_block ?_
   refine WC_seq (WC_region ?_)
   obtain ⟨q9, rfl⟩ := h_g.ptr (by omega)
   obtain ⟨⟨x12, x14⟩, _, hx10, ⟨_, _, rfl, ⟨rfl, hn13⟩, hr15⟩, at11⟩ := h_g.get r (by omega)
   obtain ⟨A17, n18, c19, rfl, hs16⟩ := Sl.of hr15
   replace hs16 : Sl (tSlice tStr) _ A17 n18 c19 x14 := hs16
   have lhs16 := hs16.len'
   replace at11 : At G7 (q9.add (r * 2)) [.string x12, .slice A17 n18 c19] := at11
   refine WL_op (WOp_idx htb q9 n_g ((r : Nat) : Int) 2 (by kernel_rfl) (by omega) (by omega) ?_)
   refine WL_op (WOp_ld htb (q9.add (r * 2)) true 2 [.string x12, .slice A17 n18 c19] (by kernel_rfl) at11 rfl (by decide) ?_)
   refine WL_execS htb 2 [10, 47, 46, 45, 6, 5, 2, 1] [2, 1] ⟨[(10, (.p 2 0)), (47, (iN r)), (46, (iN n_g)), (45, (sS (some q9) n_g c_g)), (6, (sS A_r1 n_r1 c_r1)), (5, (.ls z1 1 out1.length cap1)), (2, (.p 0 0)), (1, (sS A_tk n_tk c_tk))], [(2, (.cells 34 [(tS x12), (sS A17 n18 c19)])), (1, (.lst z1 31 arr1))], 3, [], [(0, bk4, (.cells 24 [(sS (some q9) n_g c_g)]))]⟩ (by kernel_rfl) ?_
   refine WL_nil ?_
   refine WQ_code ?_
   refine WC_seq (WC_region ?_)
   refine WL_execS htb 4 [54, 53, 52, 47, 46, 45, 6, 5, 2, 1] [1] ⟨[(54, (iI 0)), (53, (iN n18)), (52, (sS A17 n18 c19)), (47, (iN r)), (46, (iN n_g)), (45, (sS (some q9) n_g c_g)), (6, (sS A_r1 n_r1 c_r1)), (5, (.ls z1 1 out1.length cap1)), (2, (.p 0 0)), (1, (sS A_tk n_tk c_tk))], [(1, (.lst z1 31 arr1))], 3, [], [(0, bk4, (.cells 24 [(sS (some q9) n_g c_g)]))]⟩ (by kernel_rfl) ?_
   refine WL_nil ?_
   refine WQ_code ?_
   refine WC_block ?_
   have hs1 : x14.length ≤ 1000 := (hg.2 _ (List.mem_of_getElem? hx10)).1
   refine WK_keep [54, 53, 52, 47, 46, 45, 6, 5, 2, 1] [1] rfl rfl ?_
   refine WK_env [(54, (iN 0)), (53, (iN n18)), (52, (sS A17 n18 c19)), (47, (iN r)), (46, (iN n_g)), (45, (sS (some q9) n_g c_g)), (6, (sS A_r1 n_r1 c_r1)), (5, (.ls z1 1 out1.length cap1)), (2, (.p 0 0)), (1, (sS A_tk n_tk c_tk))] (fun ρ => ⟨rfl, rfl, ⟨rfl, rfl, ⟨rfl, rfl, ⟨rfl, rfl, ⟨rfl, rfl, ⟨rfl, rfl, ⟨rfl, rfl, ⟨rfl, rfl, ⟨rfl, rfl, ⟨rfl, rfl, trivial⟩⟩⟩⟩⟩⟩⟩⟩⟩⟩) ?_
   refine WC_loop (ι := Nat × List (Int × ByteArray) × Bool × Array Value × Nat) (fun (k, out2, z2, arr2, cap2) G20 => Le G7 G20 ∧ (k ≤ n18 ∧ out2.length ≤ 1000 + r * 1000000 + k * 1000 ∧ OwnL (tPair (tInt .i64) tStr) G20 out2 arr2 cap2 ∧ (z2 = true → out2 = []) ∧ (out2 = tellL (cand1 g tk ++ cand2N g tk (allNames (g.take r) ++ (x14.take k).flatten))))) (fun (k, out2, z2, arr2, cap2) => ⟨[(54, (iN k)), (53, (iN n18)), (52, (sS A17 n18 c19)), (47, (iN r)), (46, (iN n_g)), (45, (sS (some q9) n_g c_g)), (6, (sS A_r1 n_r1 c_r1)), (5, (.ls z2 1 out2.length cap2)), (2, (.p 0 0)), (1, (sS A_tk n_tk c_tk))], [(1, (.lst z2 31 arr2))], 3, [], [(0, bk4, (.cells 24 [(sS (some q9) n_g c_g)]))]⟩) (fun (k, out2, z2, arr2, cap2) => n18 - k) (0, out1, z1, arr1, cap1) ⟨Le.refl _, ⟨Nat.zero_le _, (by first | omega | (simp only [List.length_append, List.length_nil]; omega)), ho1, hzz1, (by rw [hex1]; simp)⟩⟩ rfl ?_
   rintro ⟨k, out2, z2, arr2, cap2⟩ G20 ⟨hle, hF⟩
   show WC _ _ _ _ _ ⟨[(54, (iN k)), (53, (iN n18)), (52, (sS A17 n18 c19)), (47, (iN r)), (46, (iN n_g)), (45, (sS (some q9) n_g c_g)), (6, (sS A_r1 n_r1 c_r1)), (5, (.ls z2 1 out2.length cap2)), (2, (.p 0 0)), (1, (sS A_tk n_tk c_tk))], [(1, (.lst z2 31 arr2))], 3, [], [(0, bk4, (.cells 24 [(sS (some q9) n_g c_g)]))]⟩ _
   replace hc6 := Le.trans hc6 hle
   replace hc8 := Le.trans hc8 hle
   replace h_g := h_g.mono hle
   replace h_tk := h_tk.mono hle
   replace h_r1 := h_r1.mono hle
   replace hs16 := hs16.mono hle
   replace hz := hz.mono hle
   replace ho1 := ho1.mono hle
   have hc21 := hle
   obtain ⟨hi2, hlen2, ho2, hzz2, hex2⟩ := hF
   refine WC_seq (WC_region ?_)
   refine WL_execS htb 1 [55, 54, 53, 52, 47, 46, 45, 6, 5, 2, 1] [1] ⟨[(55, (bB (decide ((((k : Nat) : Int) : Int) < ((n18 : Nat) : Int))))), (54, (iN k)), (53, (iN n18)), (52, (sS A17 n18 c19)), (47, (iN r)), (46, (iN n_g)), (45, (sS (some q9) n_g c_g)), (6, (sS A_r1 n_r1 c_r1)), (5, (.ls z2 1 out2.length cap2)), (2, (.p 0 0)), (1, (sS A_tk n_tk c_tk))], [(1, (.lst z2 31 arr2))], 3, [], [(0, bk4, (.cells 24 [(sS (some q9) n_g c_g)]))]⟩ (by kernel_rfl) ?_
   refine WL_nil ?_
   refine WQ_code ?_
   refine WC_seq ?_
   refine WC_cond (b := (decide ((((k : Nat) : Int) : Int) < ((n18 : Nat) : Int)))) rfl (fun hc2 => ?_) (fun hc2 => ?_)
   ·
    replace hc2 := of_decide_eq_true hc2
    refine WC_skip ?_
    refine WQ_code ?_
    refine WC_seq ?_
    refine WC_block ?_
    refine WC_seq (WC_region ?_)
    obtain ⟨q22, rfl⟩ := hs16.ptr (by omega)
    obtain ⟨x25, _, hx23, hr26, at24⟩ := hs16.get k (by omega)
    obtain ⟨A28, n29, c30, rfl, hs27⟩ := Sl.of hr26
    replace hs27 : Sl tStr _ A28 n29 c30 x25 := hs27
    have lhs27 := hs27.len'
    replace at24 : At G20 (q22.add (k * 1)) [.slice A28 n29 c30] := at24
    refine WL_op (WOp_idx htb q22 n18 ((k : Nat) : Int) 1 (by kernel_rfl) (by omega) (by omega) ?_)
    refine WL_op (WOp_ld htb (q22.add (k * 1)) false 1 [.slice A28 n29 c30] (by kernel_rfl) at24 rfl (by decide) ?_)
    refine WL_execS htb 1 [12, 54, 53, 52, 47, 46, 45, 6, 5, 2, 1] [1] ⟨[(12, (sS A28 n29 c30)), (54, (iN k)), (53, (iN n18)), (52, (sS (some q22) n18 c19)), (47, (iN r)), (46, (iN n_g)), (45, (sS (some q9) n_g c_g)), (6, (sS A_r1 n_r1 c_r1)), (5, (.ls z2 1 out2.length cap2)), (2, (.p 0 0)), (1, (sS A_tk n_tk c_tk))], [(1, (.lst z2 31 arr2))], 3, [], [(0, bk4, (.cells 24 [(sS (some q9) n_g c_g)]))]⟩ (by kernel_rfl) ?_
    refine WL_nil ?_
    refine WQ_code ?_
    refine WC_seq (WC_region ?_)
    refine WL_execS htb 3 [60, 59, 58, 54, 53, 52, 47, 46, 45, 6, 5, 2, 1] [1] ⟨[(60, (iI 0)), (59, (iN n29)), (58, (sS A28 n29 c30)), (54, (iN k)), (53, (iN n18)), (52, (sS (some q22) n18 c19)), (47, (iN r)), (46, (iN n_g)), (45, (sS (some q9) n_g c_g)), (6, (sS A_r1 n_r1 c_r1)), (5, (.ls z2 1 out2.length cap2)), (2, (.p 0 0)), (1, (sS A_tk n_tk c_tk))], [(1, (.lst z2 31 arr2))], 3, [], [(0, bk4, (.cells 24 [(sS (some q9) n_g c_g)]))]⟩ (by kernel_rfl) ?_
    refine WL_nil ?_
    refine WQ_code ?_
    refine WC_block ?_
    have hs2 : x25.length ≤ 1000 := (hg.2 _ (List.mem_of_getElem? hx10)).2 _ (List.mem_of_getElem? hx23)
    refine WK_keep [60, 59, 58, 54, 53, 52, 47, 46, 45, 6, 5, 2, 1] [1] rfl rfl ?_
    refine WK_env [(60, (iN 0)), (59, (iN n29)), (58, (sS A28 n29 c30)), (54, (iN k)), (53, (iN n18)), (52, (sS (some q22) n18 c19)), (47, (iN r)), (46, (iN n_g)), (45, (sS (some q9) n_g c_g)), (6, (sS A_r1 n_r1 c_r1)), (5, (.ls z2 1 out2.length cap2)), (2, (.p 0 0)), (1, (sS A_tk n_tk c_tk))] (fun ρ => ⟨rfl, rfl, ⟨rfl, rfl, ⟨rfl, rfl, ⟨rfl, rfl, ⟨rfl, rfl, ⟨rfl, rfl, ⟨rfl, rfl, ⟨rfl, rfl, ⟨rfl, rfl, ⟨rfl, rfl, ⟨rfl, rfl, ⟨rfl, rfl, ⟨rfl, rfl, trivial⟩⟩⟩⟩⟩⟩⟩⟩⟩⟩⟩⟩⟩) ?_
    refine WC_loop (ι := Nat × List (Int × ByteArray) × Bool × Array Value × Nat) (fun (l, out3, z3, arr3, cap3) G31 => Le G20 G31 ∧ (l ≤ n29 ∧ out3.length ≤ 1000 + r * 1000000 + k * 1000 + l ∧ OwnL (tPair (tInt .i64) tStr) G31 out3 arr3 cap3 ∧ (z3 = true → out3 = []) ∧ (out3 = tellL (cand1 g tk ++ cand2N g tk (allNames (g.take r) ++ (x14.take k).flatten ++ x25.take l))))) (fun (l, out3, z3, arr3, cap3) => ⟨[(60, (iN l)), (59, (iN n29)), (58, (sS A28 n29 c30)), (54, (iN k)), (53, (iN n18)), (52, (sS (some q22) n18 c19)), (47, (iN r)), (46, (iN n_g)), (45, (sS (some q9) n_g c_g)), (6, (sS A_r1 n_r1 c_r1)), (5, (.ls z3 1 out3.length cap3)), (2, (.p 0 0)), (1, (sS A_tk n_tk c_tk))], [(1, (.lst z3 31 arr3))], 3, [], [(0, bk4, (.cells 24 [(sS (some q9) n_g c_g)]))]⟩) (fun (l, out3, z3, arr3, cap3) => n29 - l) (0, out2, z2, arr2, cap2) ⟨Le.refl _, ⟨Nat.zero_le _, (by first | omega | (simp only [List.length_append, List.length_nil]; omega)), ho2, hzz2, (by rw [hex2]; simp)⟩⟩ rfl ?_
    rintro ⟨l, out3, z3, arr3, cap3⟩ G31 ⟨hle, hF⟩
    show WC _ _ _ _ _ ⟨[(60, (iN l)), (59, (iN n29)), (58, (sS A28 n29 c30)), (54, (iN k)), (53, (iN n18)), (52, (sS (some q22) n18 c19)), (47, (iN r)), (46, (iN n_g)), (45, (sS (some q9) n_g c_g)), (6, (sS A_r1 n_r1 c_r1)), (5, (.ls z3 1 out3.length cap3)), (2, (.p 0 0)), (1, (sS A_tk n_tk c_tk))], [(1, (.lst z3 31 arr3))], 3, [], [(0, bk4, (.cells 24 [(sS (some q9) n_g c_g)]))]⟩ _
    replace hc6 := Le.trans hc6 hle
    replace hc8 := Le.trans hc8 hle
    replace hc21 := Le.trans hc21 hle
    replace h_g := h_g.mono hle
    replace h_tk := h_tk.mono hle
    replace h_r1 := h_r1.mono hle
    replace hs16 := hs16.mono hle
    replace hs27 := hs27.mono hle
    replace hz := hz.mono hle
    replace ho2 := ho2.mono hle
    have hc32 := hle
    obtain ⟨hi3, hlen3, ho3, hzz3, hex3⟩ := hF
    refine WC_seq (WC_region ?_)
    refine WL_execS htb 1 [61, 60, 59, 58, 54, 53, 52, 47, 46, 45, 6, 5, 2, 1] [1] ⟨[(61, (bB (decide ((((l : Nat) : Int) : Int) < ((n29 : Nat) : Int))))), (60, (iN l)), (59, (iN n29)), (58, (sS A28 n29 c30)), (54, (iN k)), (53, (iN n18)), (52, (sS (some q22) n18 c19)), (47, (iN r)), (46, (iN n_g)), (45, (sS (some q9) n_g c_g)), (6, (sS A_r1 n_r1 c_r1)), (5, (.ls z3 1 out3.length cap3)), (2, (.p 0 0)), (1, (sS A_tk n_tk c_tk))], [(1, (.lst z3 31 arr3))], 3, [], [(0, bk4, (.cells 24 [(sS (some q9) n_g c_g)]))]⟩ (by kernel_rfl) ?_
    refine WL_nil ?_
    refine WQ_code ?_
    refine WC_seq ?_
    refine WC_cond (b := (decide ((((l : Nat) : Int) : Int) < ((n29 : Nat) : Int)))) rfl (fun hc3 => ?_) (fun hc3 => ?_)
    ·
     replace hc3 := of_decide_eq_true hc3
     refine WC_skip ?_
     refine WQ_code ?_
     refine WC_seq ?_
     refine WC_block ?_
     refine WC_seq (WC_region ?_)
     obtain ⟨q33, rfl⟩ := hs27.ptr (by omega)
     obtain ⟨x36, _, hx34, ⟨rfl, hn37⟩, at35⟩ := hs27.get l (by omega)
     replace at35 : At G31 (q33.add (l * 1)) [.string x36] := at35
     refine WL_op (WOp_idx htb q33 n29 ((l : Nat) : Int) 1 (by kernel_rfl) (by omega) (by omega) ?_)
     refine WL_op (WOp_ld htb (q33.add (l * 1)) false 1 [.string x36] (by kernel_rfl) at35 rfl (by decide) ?_)
     refine WL_execS htb 1 [14, 60, 59, 58, 54, 53, 52, 47, 46, 45, 6, 5, 2, 1] [1] ⟨[(14, (tS x36)), (60, (iN l)), (59, (iN n29)), (58, (sS (some q33) n29 c30)), (54, (iN k)), (53, (iN n18)), (52, (sS (some q22) n18 c19)), (47, (iN r)), (46, (iN n_g)), (45, (sS (some q9) n_g c_g)), (6, (sS A_r1 n_r1 c_r1)), (5, (.ls z3 1 out3.length cap3)), (2, (.p 0 0)), (1, (sS A_tk n_tk c_tk))], [(1, (.lst z3 31 arr3))], 3, [], [(0, bk4, (.cells 24 [(sS (some q9) n_g c_g)]))]⟩ (by kernel_rfl) ?_
     refine WL_nil ?_
     refine WQ_code ?_
     refine WC_seq (WC_region ?_)
     refine WL_execS htb 2 [65, 64, 14, 60, 59, 58, 54, 53, 52, 47, 46, 45, 6, 5, 2, 1] [1] ⟨[(65, (tS x36)), (64, (sS A_r1 n_r1 c_r1)), (14, (tS x36)), (60, (iN l)), (59, (iN n29)), (58, (sS (some q33) n29 c30)), (54, (iN k)), (53, (iN n18)), (52, (sS (some q22) n18 c19)), (47, (iN r)), (46, (iN n_g)), (45, (sS (some q9) n_g c_g)), (6, (sS A_r1 n_r1 c_r1)), (5, (.ls z3 1 out3.length cap3)), (2, (.p 0 0)), (1, (sS A_tk n_tk c_tk))], [(1, (.lst z3 31 arr3))], 3, [], [(0, bk4, (.cells 24 [(sS (some q9) n_g c_g)]))]⟩ (by kernel_rfl) ?_
     refine WL_op (WOp_call 65 [(sS A_r1 n_r1 c_r1), (tS x36)] (by kernel_rfl) (goes_of Try.func65 rfl rfl) (fun ρ w hW => has_ok hW.has (xs := (g.map Prod.fst)) (x := x36) h_r1 hn37) ?_)
     intro G2 v hle hΦ
     replace hc6 := Le.trans hc6 hle
     replace hc8 := Le.trans hc8 hle
     replace hc21 := Le.trans hc21 hle
     replace hc32 := Le.trans hc32 hle
     replace h_g := h_g.mono hle
     replace h_tk := h_tk.mono hle
     replace h_r1 := h_r1.mono hle
     replace hs16 := hs16.mono hle
     replace hs27 := hs27.mono hle
     replace hz := hz.mono hle
     replace ho3 := ho3.mono hle
     obtain ⟨r38, rfl, hR39⟩ := hΦ
     refine WL_execS htb 2 [68, 14, 60, 59, 58, 54, 53, 52, 47, 46, 45, 6, 5, 2, 1] [1] ⟨[(68, (bB (!r38))), (14, (tS x36)), (60, (iN l)), (59, (iN n29)), (58, (sS (some q33) n29 c30)), (54, (iN k)), (53, (iN n18)), (52, (sS (some q22) n18 c19)), (47, (iN r)), (46, (iN n_g)), (45, (sS (some q9) n_g c_g)), (6, (sS A_r1 n_r1 c_r1)), (5, (.ls z3 1 out3.length cap3)), (2, (.p 0 0)), (1, (sS A_tk n_tk c_tk))], [(1, (.lst z3 31 arr3))], 3, [], [(0, bk4, (.cells 24 [(sS (some q9) n_g c_g)]))]⟩ (by kernel_rfl) ?_
     refine WK_split 68 (!r38) rfl (fun hd => ?_) (fun hd => ?_)
     ·
      rw [Bool.not_eq_true'] at hd
      refine WK_keep [68, 14, 60, 59, 58, 54, 53, 52, 47, 46, 45, 6, 5, 2, 1] [1] rfl rfl ?_
      refine WL_execS htb 2 [70, 69, 68, 14, 60, 59, 58, 54, 53, 52, 47, 46, 45, 6, 5, 2, 1] [1] ⟨[(70, (tS x36)), (69, (sS A_tk n_tk c_tk)), (68, (bB true)), (14, (tS x36)), (60, (iN l)), (59, (iN n29)), (58, (sS (some q33) n29 c30)), (54, (iN k)), (53, (iN n18)), (52, (sS (some q22) n18 c19)), (47, (iN r)), (46, (iN n_g)), (45, (sS (some q9) n_g c_g)), (6, (sS A_r1 n_r1 c_r1)), (5, (.ls z3 1 out3.length cap3)), (2, (.p 0 0)), (1, (sS A_tk n_tk c_tk))], [(1, (.lst z3 31 arr3))], 3, [], [(0, bk4, (.cells 24 [(sS (some q9) n_g c_g)]))]⟩ (by kernel_rfl) ?_
      refine WL_op (WOp_call 65 [(sS A_tk n_tk c_tk), (tS x36)] (by kernel_rfl) (goes_of Try.func65 rfl rfl) (fun ρ w hW => has_ok hW.has (xs := tk) (x := x36) h_tk hn37) ?_)
      intro G3 v hle hΦ
      replace hc6 := Le.trans hc6 hle
      replace hc8 := Le.trans hc8 hle
      replace hc21 := Le.trans hc21 hle
      replace hc32 := Le.trans hc32 hle
      replace h_g := h_g.mono hle
      replace h_tk := h_tk.mono hle
      replace h_r1 := h_r1.mono hle
      replace hs16 := hs16.mono hle
      replace hs27 := hs27.mono hle
      replace hz := hz.mono hle
      replace ho3 := ho3.mono hle
      obtain ⟨r40, rfl, hR41⟩ := hΦ
      refine WL_execS htb 2 [73, 14, 60, 59, 58, 54, 53, 52, 47, 46, 45, 6, 5, 2, 1] [1] ⟨[(73, (bB (!r40))), (14, (tS x36)), (60, (iN l)), (59, (iN n29)), (58, (sS (some q33) n29 c30)), (54, (iN k)), (53, (iN n18)), (52, (sS (some q22) n18 c19)), (47, (iN r)), (46, (iN n_g)), (45, (sS (some q9) n_g c_g)), (6, (sS A_r1 n_r1 c_r1)), (5, (.ls z3 1 out3.length cap3)), (2, (.p 0 0)), (1, (sS A_tk n_tk c_tk))], [(1, (.lst z3 31 arr3))], 3, [], [(0, bk4, (.cells 24 [(sS (some q9) n_g c_g)]))]⟩ (by kernel_rfl) ?_
      refine WL_nil ?_
      refine WQ_code ?_
      refine WC_cond (b := (!r40)) rfl (fun he => ?_) (fun he => ?_)
      ·
       rw [Bool.not_eq_true'] at he
       refine WC_region ?_
       refine WL_execS htb 2 [75, 74, 60, 59, 58, 54, 53, 52, 47, 46, 45, 6, 2, 1] [1] ⟨[(75, (tS x36)), (74, (.ls z3 1 out3.length cap3)), (60, (iN l)), (59, (iN n29)), (58, (sS (some q33) n29 c30)), (54, (iN k)), (53, (iN n18)), (52, (sS (some q22) n18 c19)), (47, (iN r)), (46, (iN n_g)), (45, (sS (some q9) n_g c_g)), (6, (sS A_r1 n_r1 c_r1)), (2, (.p 0 0)), (1, (sS A_tk n_tk c_tk))], [(1, (.lst z3 31 arr3))], 3, [], [(0, bk4, (.cells 24 [(sS (some q9) n_g c_g)]))]⟩ (by kernel_rfl) ?_
       refine WL_op (WOp_callT 66 [(.ls z3 1 out3.length cap3), (iI 2), (tS x36)] (by kernel_rfl) (goes_of Try.func66 rfl rfl) (by kernel_rfl) 1 rfl rfl (fun ρ w b hW hρ hb => by (subst hρ; exact lay_ok hW.has hb ho3 hzz3 rfl (by omega) hn37 (by omega))) (fun G42 z43 arr44 cap45 ys46 hle hz47 ho48 hy49 => ?_))
       replace hc6 := Le.trans hc6 hle
       replace hc8 := Le.trans hc8 hle
       replace hc21 := Le.trans hc21 hle
       replace hc32 := Le.trans hc32 hle
       replace h_g := h_g.mono hle
       replace h_tk := h_tk.mono hle
       replace h_r1 := h_r1.mono hle
       replace hs16 := hs16.mono hle
       replace hs27 := hs27.mono hle
       replace hz := hz.mono hle
       have hy49l : ys46.length ≤ out3.length + 1 := by (rw [hy49]; exact layS_len _ _)
       show WL _ _ _ _ _ _ ⟨[(76, (.ls z43 3 ys46.length cap45)), (75, (tS x36)), (74, (.ls z3 1 out3.length cap3)), (60, (iN l)), (59, (iN n29)), (58, (sS (some q33) n29 c30)), (54, (iN k)), (53, (iN n18)), (52, (sS (some q22) n18 c19)), (47, (iN r)), (46, (iN n_g)), (45, (sS (some q9) n_g c_g)), (6, (sS A_r1 n_r1 c_r1)), (2, (.p 0 0)), (1, (sS A_tk n_tk c_tk))], [(3, (.lst z43 31 arr44))], 4, [], [(0, bk4, (.cells 24 [(sS (some q9) n_g c_g)]))]⟩ _
       refine WL_execS htb 1 [5, 60, 59, 58, 54, 53, 52, 47, 46, 45, 6, 2, 1] [3] ⟨[(5, (.ls z43 3 ys46.length cap45)), (60, (iN l)), (59, (iN n29)), (58, (sS (some q33) n29 c30)), (54, (iN k)), (53, (iN n18)), (52, (sS (some q22) n18 c19)), (47, (iN r)), (46, (iN n_g)), (45, (sS (some q9) n_g c_g)), (6, (sS A_r1 n_r1 c_r1)), (2, (.p 0 0)), (1, (sS A_tk n_tk c_tk))], [(3, (.lst z43 31 arr44))], 4, [], [(0, bk4, (.cells 24 [(sS (some q9) n_g c_g)]))]⟩ (by kernel_rfl) ?_
       refine WL_nil ?_
       refine WQ_blk ?_
       refine WQ_code ?_
       refine WC_region ?_
       refine WL_execS htb 2 [60, 5, 59, 58, 54, 53, 52, 47, 46, 45, 6, 2, 1] [3] ⟨[(60, (iI (IntKind.i64.wrap (((l : Nat) : Int) + 1)))), (5, (.ls z43 3 ys46.length cap45)), (59, (iN n29)), (58, (sS (some q33) n29 c30)), (54, (iN k)), (53, (iN n18)), (52, (sS (some q22) n18 c19)), (47, (iN r)), (46, (iN n_g)), (45, (sS (some q9) n_g c_g)), (6, (sS A_r1 n_r1 c_r1)), (2, (.p 0 0)), (1, (sS A_tk n_tk c_tk))], [(3, (.lst z43 31 arr44))], 4, [], [(0, bk4, (.cells 24 [(sS (some q9) n_g c_g)]))]⟩ (by kernel_rfl) ?_
       refine WL_nil ?_
       refine WK_env [(60, (iN (l + 1))), (5, (.ls z43 3 ys46.length cap45)), (59, (iN n29)), (58, (sS (some q33) n29 c30)), (54, (iN k)), (53, (iN n18)), (52, (sS (some q22) n18 c19)), (47, (iN r)), (46, (iN n_g)), (45, (sS (some q9) n_g c_g)), (6, (sS A_r1 n_r1 c_r1)), (2, (.p 0 0)), (1, (sS A_tk n_tk c_tk))] (fun ρ => ⟨rfl, (congrArg (Value.int .i64) (by rw [wrap_id (by omega)]; first | rfl | omega)), ⟨rfl, rfl, ⟨rfl, rfl, ⟨rfl, rfl, ⟨rfl, rfl, ⟨rfl, rfl, ⟨rfl, rfl, ⟨rfl, rfl, ⟨rfl, rfl, ⟨rfl, rfl, ⟨rfl, rfl, ⟨rfl, rfl, ⟨rfl, rfl, trivial⟩⟩⟩⟩⟩⟩⟩⟩⟩⟩⟩⟩⟩) ?_
       refine WK_keep [60, 59, 58, 54, 53, 52, 47, 46, 45, 6, 5, 2, 1] [3] rfl rfl ?_
       exact WQ_nextR ((l + 1), ys46, z43, arr44, cap45) (by show n29 - (l + 1) < n29 - l; omega) ⟨hc32, ⟨by omega, (by first | omega | (simp only [List.length_append, List.length_cons, List.length_nil]; omega)), ho48, hz47, (by rw [hy49, hex3, take_succ' hx34, ← List.append_assoc (allNames _ ++ _)]; exact (c2_yes hR39 (by simpa using hd) hR41 (by simpa using he)).symm)⟩⟩ [(1, 3)] rfl rfl rfl rfl rfl rfl
      ·
       rw [Bool.not_eq_false'] at he
       refine WC_skip ?_
       refine WQ_blk ?_
       refine WQ_code ?_
       refine WC_region ?_
       refine WL_execS htb 2 [60, 59, 58, 54, 53, 52, 47, 46, 45, 6, 5, 2, 1] [1] ⟨[(60, (iI (IntKind.i64.wrap (((l : Nat) : Int) + 1)))), (59, (iN n29)), (58, (sS (some q33) n29 c30)), (54, (iN k)), (53, (iN n18)), (52, (sS (some q22) n18 c19)), (47, (iN r)), (46, (iN n_g)), (45, (sS (some q9) n_g c_g)), (6, (sS A_r1 n_r1 c_r1)), (5, (.ls z3 1 out3.length cap3)), (2, (.p 0 0)), (1, (sS A_tk n_tk c_tk))], [(1, (.lst z3 31 arr3))], 3, [], [(0, bk4, (.cells 24 [(sS (some q9) n_g c_g)]))]⟩ (by kernel_rfl) ?_
       refine WL_nil ?_
       refine WK_env [(60, (iN (l + 1))), (59, (iN n29)), (58, (sS (some q33) n29 c30)), (54, (iN k)), (53, (iN n18)), (52, (sS (some q22) n18 c19)), (47, (iN r)), (46, (iN n_g)), (45, (sS (some q9) n_g c_g)), (6, (sS A_r1 n_r1 c_r1)), (5, (.ls z3 1 out3.length cap3)), (2, (.p 0 0)), (1, (sS A_tk n_tk c_tk))] (fun ρ => ⟨rfl, (congrArg (Value.int .i64) (by rw [wrap_id (by omega)]; first | rfl | omega)), ⟨rfl, rfl, ⟨rfl, rfl, ⟨rfl, rfl, ⟨rfl, rfl, ⟨rfl, rfl, ⟨rfl, rfl, ⟨rfl, rfl, ⟨rfl, rfl, ⟨rfl, rfl, ⟨rfl, rfl, ⟨rfl, rfl, ⟨rfl, rfl, trivial⟩⟩⟩⟩⟩⟩⟩⟩⟩⟩⟩⟩⟩) ?_
       refine WK_keep [60, 59, 58, 54, 53, 52, 47, 46, 45, 6, 5, 2, 1] [1] rfl rfl ?_
       exact WQ_next ((l + 1), out3, z3, arr3, cap3) (by show n29 - (l + 1) < n29 - l; omega) ⟨hc32, ⟨by omega, (by first | omega | (simp only [List.length_append, List.length_cons, List.length_nil]; omega)), ho3, hzz3, (by rw [hex3, take_succ' hx34, ← List.append_assoc (allNames _ ++ _)]; exact (c2_no1 hR41 (by simpa using he)).symm)⟩⟩ (fun ρ a w h => h)
     ·
      rw [Bool.not_eq_false'] at hd
      refine WK_keep [68, 14, 60, 59, 58, 54, 53, 52, 47, 46, 45, 6, 5, 2, 1] [1] rfl rfl ?_
      refine WL_execS htb 5 [73, 14, 60, 59, 58, 54, 53, 52, 47, 46, 45, 6, 5, 2, 1] [1] ⟨[(73, (bB false)), (14, (tS x36)), (60, (iN l)), (59, (iN n29)), (58, (sS (some q33) n29 c30)), (54, (iN k)), (53, (iN n18)), (52, (sS (some q22) n18 c19)), (47, (iN r)), (46, (iN n_g)), (45, (sS (some q9) n_g c_g)), (6, (sS A_r1 n_r1 c_r1)), (5, (.ls z3 1 out3.length cap3)), (2, (.p 0 0)), (1, (sS A_tk n_tk c_tk))], [(1, (.lst z3 31 arr3))], 3, [], [(0, bk4, (.cells 24 [(sS (some q9) n_g c_g)]))]⟩ (by kernel_rfl) ?_
      refine WL_nil ?_
      refine WQ_code ?_
      refine WC_cond (b := false) rfl (fun h => by cases h) (fun _ => ?_)
      refine WC_skip ?_
      refine WQ_blk ?_
      refine WQ_code ?_
      refine WC_region ?_
      refine WL_execS htb 2 [60, 59, 58, 54, 53, 52, 47, 46, 45, 6, 5, 2, 1] [1] ⟨[(60, (iI (IntKind.i64.wrap (((l : Nat) : Int) + 1)))), (59, (iN n29)), (58, (sS (some q33) n29 c30)), (54, (iN k)), (53, (iN n18)), (52, (sS (some q22) n18 c19)), (47, (iN r)), (46, (iN n_g)), (45, (sS (some q9) n_g c_g)), (6, (sS A_r1 n_r1 c_r1)), (5, (.ls z3 1 out3.length cap3)), (2, (.p 0 0)), (1, (sS A_tk n_tk c_tk))], [(1, (.lst z3 31 arr3))], 3, [], [(0, bk4, (.cells 24 [(sS (some q9) n_g c_g)]))]⟩ (by kernel_rfl) ?_
      refine WL_nil ?_
      refine WK_env [(60, (iN (l + 1))), (59, (iN n29)), (58, (sS (some q33) n29 c30)), (54, (iN k)), (53, (iN n18)), (52, (sS (some q22) n18 c19)), (47, (iN r)), (46, (iN n_g)), (45, (sS (some q9) n_g c_g)), (6, (sS A_r1 n_r1 c_r1)), (5, (.ls z3 1 out3.length cap3)), (2, (.p 0 0)), (1, (sS A_tk n_tk c_tk))] (fun ρ => ⟨rfl, (congrArg (Value.int .i64) (by rw [wrap_id (by omega)]; first | rfl | omega)), ⟨rfl, rfl, ⟨rfl, rfl, ⟨rfl, rfl, ⟨rfl, rfl, ⟨rfl, rfl, ⟨rfl, rfl, ⟨rfl, rfl, ⟨rfl, rfl, ⟨rfl, rfl, ⟨rfl, rfl, ⟨rfl, rfl, ⟨rfl, rfl, trivial⟩⟩⟩⟩⟩⟩⟩⟩⟩⟩⟩⟩⟩) ?_
      refine WK_keep [60, 59, 58, 54, 53, 52, 47, 46, 45, 6, 5, 2, 1] [1] rfl rfl ?_
      exact WQ_next ((l + 1), out3, z3, arr3, cap3) (by show n29 - (l + 1) < n29 - l; omega) ⟨hc32, ⟨by omega, (by first | omega | (simp only [List.length_append, List.length_cons, List.length_nil]; omega)), ho3, hzz3, (by rw [hex3, take_succ' hx34, ← List.append_assoc (allNames _ ++ _)]; exact (c2_no2 hR39 (by simpa using hd)).symm)⟩⟩ (fun ρ a w h => h)
    ·
     replace hc3 := of_decide_eq_false hc3
     refine WC_exit ?_
     refine WQ_then_exit ?_
     refine WQ_then_exit ?_
     refine WQ_hit ?_
     refine WQ_blk ?_
     refine WQ_code ?_
     refine WC_region ?_
     refine WL_execS htb 2 [54, 53, 52, 47, 46, 45, 6, 5, 2, 1] [1] ⟨[(54, (iI (IntKind.i64.wrap (((k : Nat) : Int) + 1)))), (53, (iN n18)), (52, (sS (some q22) n18 c19)), (47, (iN r)), (46, (iN n_g)), (45, (sS (some q9) n_g c_g)), (6, (sS A_r1 n_r1 c_r1)), (5, (.ls z3 1 out3.length cap3)), (2, (.p 0 0)), (1, (sS A_tk n_tk c_tk))], [(1, (.lst z3 31 arr3))], 3, [], [(0, bk4, (.cells 24 [(sS (some q9) n_g c_g)]))]⟩ (by kernel_rfl) ?_
     refine WL_nil ?_
     refine WK_env [(54, (iN (k + 1))), (53, (iN n18)), (52, (sS (some q22) n18 c19)), (47, (iN r)), (46, (iN n_g)), (45, (sS (some q9) n_g c_g)), (6, (sS A_r1 n_r1 c_r1)), (5, (.ls z3 1 out3.length cap3)), (2, (.p 0 0)), (1, (sS A_tk n_tk c_tk))] (fun ρ => ⟨rfl, (congrArg (Value.int .i64) (by rw [wrap_id (by omega)]; first | rfl | omega)), ⟨rfl, rfl, ⟨rfl, rfl, ⟨rfl, rfl, ⟨rfl, rfl, ⟨rfl, rfl, ⟨rfl, rfl, ⟨rfl, rfl, ⟨rfl, rfl, ⟨rfl, rfl, trivial⟩⟩⟩⟩⟩⟩⟩⟩⟩⟩) ?_
     refine WK_keep [54, 53, 52, 47, 46, 45, 6, 5, 2, 1] [1] rfl rfl ?_
     exact WQ_next ((k + 1), out3, z3, arr3, cap3) (by show n18 - (k + 1) < n18 - k; omega) ⟨hc21, ⟨by omega, (by first | omega | (simp only [List.length_append, List.length_cons, List.length_nil]; omega)), ho3, hzz3, (by rw [hex3, List.take_of_length_le (show x25.length ≤ l by omega), take_succ' hx23, List.flatten_append]; simp)⟩⟩ (fun ρ a w h => h)
   ·
    replace hc2 := of_decide_eq_false hc2
    refine WC_exit ?_
    refine WQ_then_exit ?_
    refine WQ_then_exit ?_
    refine WQ_hit ?_
    refine WQ_blk ?_
    refine WQ_code ?_
    refine WC_region ?_
    refine WL_execS htb 2 [47, 46, 45, 6, 5, 2, 1] [1] ⟨[(47, (iI (IntKind.i64.wrap (((r : Nat) : Int) + 1)))), (46, (iN n_g)), (45, (sS (some q9) n_g c_g)), (6, (sS A_r1 n_r1 c_r1)), (5, (.ls z2 1 out2.length cap2)), (2, (.p 0 0)), (1, (sS A_tk n_tk c_tk))], [(1, (.lst z2 31 arr2))], 3, [], [(0, bk4, (.cells 24 [(sS (some q9) n_g c_g)]))]⟩ (by kernel_rfl) ?_
    refine WL_nil ?_
    refine WK_env [(47, (iN (r + 1))), (46, (iN n_g)), (45, (sS (some q9) n_g c_g)), (6, (sS A_r1 n_r1 c_r1)), (5, (.ls z2 1 out2.length cap2)), (2, (.p 0 0)), (1, (sS A_tk n_tk c_tk))] (fun ρ => ⟨rfl, (congrArg (Value.int .i64) (by rw [wrap_id (by omega)]; first | rfl | omega)), ⟨rfl, rfl, ⟨rfl, rfl, ⟨rfl, rfl, ⟨rfl, rfl, ⟨rfl, rfl, ⟨rfl, rfl, trivial⟩⟩⟩⟩⟩⟩⟩) ?_
    refine WK_keep [47, 46, 45, 6, 5, 2, 1] [1] rfl rfl ?_
    exact WQ_next ((r + 1), out2, z2, arr2, cap2) (by show n_g - (r + 1) < n_g - r; omega) ⟨hc8, ⟨by omega, (by first | omega | (simp only [List.length_append, List.length_cons, List.length_nil]; omega)), ho2, hzz2, (by rw [hex2, List.take_of_length_le (show x14.length ≤ k by omega), allNames_succ hx10])⟩⟩ (fun ρ a w h => h)
  ·
   replace hc1 := of_decide_eq_false hc1
   rw [List.take_of_length_le (show g.length ≤ r by omega)] at hex1
   refine WC_exit ?_
   refine WQ_then_exit ?_
   refine WQ_then_exit ?_
   refine WQ_hit ?_
   refine WQ_code ?_
   refine WC_seq (WC_region ?_)
   refine WL_execS htb 2 [81, 80, 6, 5, 2] [1] ⟨[(81, (sS A_tk n_tk c_tk)), (80, (.agg [(sS A_g n_g c_g)])), (6, (sS A_r1 n_r1 c_r1)), (5, (.ls z1 1 out1.length cap1)), (2, (.p 0 0))], [(1, (.lst z1 31 arr1))], 2, [], [(0, bk4, (.cells 24 [(sS A_g n_g c_g)]))]⟩ (by kernel_rfl) ?_
   refine WL_op (WOp_call 67 [(.agg [(sS A_g n_g c_g)]), (sS A_tk n_tk c_tk)] (by kernel_rfl) (goes_of Try.func67 rfl rfl) (fun ρ w hW => fertile8_ok hW.has (g := g) (tk := tk) h_g h_tk hg htk) ?_)
   intro G2 v hle hΦ
   replace hc6 := Le.trans hc6 hle
   replace hc8 := Le.trans hc8 hle
   replace h_g := h_g.mono hle
   replace h_tk := h_tk.mono hle
   replace h_r1 := h_r1.mono hle
   replace hz := hz.mono hle
   replace ho1 := ho1.mono hle
   obtain ⟨r9, A_r9, n_r9, c_r9, rfl, h_r9, hR10⟩ := hΦ
   have lh_r9 := h_r9.len'
   refine WL_execS htb 1 [15, 6, 5, 2] [1] ⟨[(15, (sS A_r9 n_r9 c_r9)), (6, (sS A_r1 n_r1 c_r1)), (5, (.ls z1 1 out1.length cap1)), (2, (.p 0 0))], [(1, (.lst z1 31 arr1))], 2, [], [(0, bk4, (.cells 24 [(sS A_g n_g c_g)]))]⟩ (by kernel_rfl) ?_
   refine WL_nil ?_
   refine WQ_code ?_
   refine WC_seq ?_
   refine WC_seq (WC_region ?_)
   refine WL_execS htb 3 [85, 84, 83, 15, 6, 5, 2] [1] ⟨[(85, (iI 0)), (84, (iN n_r1)), (83, (sS A_r1 n_r1 c_r1)), (15, (sS A_r9 n_r9 c_r9)), (6, (sS A_r1 n_r1 c_r1)), (5, (.ls z1 1 out1.length cap1)), (2, (.p 0 0))], [(1, (.lst z1 31 arr1))], 2, [], [(0, bk4, (.cells 24 [(sS A_g n_g c_g)]))]⟩ (by kernel_rfl) ?_
   refine WL_nil ?_
   refine WQ_code ?_
   refine WC_block ?_
   refine WK_keep [85, 84, 83, 15, 6, 5, 2] [1] rfl rfl ?_
   refine WK_env [(85, (iN 0)), (84, (iN n_r1)), (83, (sS A_r1 n_r1 c_r1)), (15, (sS A_r9 n_r9 c_r9)), (6, (sS A_r1 n_r1 c_r1)), (5, (.ls z1 1 out1.length cap1)), (2, (.p 0 0))] (fun ρ => ⟨rfl, rfl, ⟨rfl, rfl, ⟨rfl, rfl, ⟨rfl, rfl, ⟨rfl, rfl, ⟨rfl, rfl, ⟨rfl, rfl, trivial⟩⟩⟩⟩⟩⟩⟩) ?_
   refine WC_loop (ι := Nat × List (Int × ByteArray) × Bool × Array Value × Nat) (fun (p, out4, z4, arr4, cap4) G11 => Le G2 G11 ∧ (p ≤ n_r1 ∧ out4.length ≤ 1001001000 + p ∧ OwnL (tPair (tInt .i64) tStr) G11 out4 arr4 cap4 ∧ (z4 = true → out4 = []) ∧ (out4 = tellL (cand1 g tk ++ cand2N g tk (allNames g) ++ (cand3 g tk (gdS g tk)).take p)))) (fun (p, out4, z4, arr4, cap4) => ⟨[(85, (iN p)), (84, (iN n_r1)), (83, (sS A_r1 n_r1 c_r1)), (15, (sS A_r9 n_r9 c_r9)), (6, (sS A_r1 n_r1 c_r1)), (5, (.ls z4 1 out4.length cap4)), (2, (.p 0 0))], [(1, (.lst z4 31 arr4))], 2, [], [(0, bk4, (.cells 24 [(sS A_g n_g c_g)]))]⟩) (fun (p, out4, z4, arr4, cap4) => n_r1 - p) (0, out1, z1, arr1, cap1) ⟨Le.refl _, ⟨Nat.zero_le _, (by first | omega | (simp only [List.length_append, List.length_nil]; omega)), ho1, hzz1, (by rw [hex1]; simp)⟩⟩ rfl ?_
   rintro ⟨p, out4, z4, arr4, cap4⟩ G11 ⟨hle, hF⟩
   show WC _ _ _ _ _ ⟨[(85, (iN p)), (84, (iN n_r1)), (83, (sS A_r1 n_r1 c_r1)), (15, (sS A_r9 n_r9 c_r9)), (6, (sS A_r1 n_r1 c_r1)), (5, (.ls z4 1 out4.length cap4)), (2, (.p 0 0))], [(1, (.lst z4 31 arr4))], 2, [], [(0, bk4, (.cells 24 [(sS A_g n_g c_g)]))]⟩ _
   replace hc6 := Le.trans hc6 hle
   replace hc8 := Le.trans hc8 hle
   replace h_g := h_g.mono hle
   replace h_r1 := h_r1.mono hle
   replace h_r9 := h_r9.mono hle
   replace hz := hz.mono hle
   replace ho1 := ho1.mono hle
   have hc12 := hle
   obtain ⟨hi4, hlen4, ho4, hzz4, hex4⟩ := hF
   refine WC_seq (WC_region ?_)
   refine WL_execS htb 1 [86, 85, 84, 83, 15, 6, 5, 2] [1] ⟨[(86, (bB (decide ((((p : Nat) : Int) : Int) < ((n_r1 : Nat) : Int))))), (85, (iN p)), (84, (iN n_r1)), (83, (sS A_r1 n_r1 c_r1)), (15, (sS A_r9 n_r9 c_r9)), (6, (sS A_r1 n_r1 c_r1)), (5, (.ls z4 1 out4.length cap4)), (2, (.p 0 0))], [(1, (.lst z4 31 arr4))], 2, [], [(0, bk4, (.cells 24 [(sS A_g n_g c_g)]))]⟩ (by kernel_rfl) ?_
   refine WL_nil ?_
   refine WQ_code ?_
   refine WC_seq ?_
   refine WC_cond (b := (decide ((((p : Nat) : Int) : Int) < ((n_r1 : Nat) : Int)))) rfl (fun hc4 => ?_) (fun hc4 => ?_)
   ·
    replace hc4 := of_decide_eq_true hc4
    refine WC_skip ?_
    refine WQ_code ?_
    refine WC_seq ?_
    refine WC_block ?_
    refine WC_seq (WC_region ?_)
    obtain ⟨q13, rfl⟩ := h_r1.ptr (by omega)
    obtain ⟨x16, _, hx14, ⟨rfl, hn17⟩, at15⟩ := h_r1.get p (by omega)
    replace at15 : At G11 (q13.add (p * 1)) [.string x16] := at15
    refine WL_op (WOp_idx htb q13 n_r1 ((p : Nat) : Int) 1 (by kernel_rfl) (by omega) (by omega) ?_)
    refine WL_op (WOp_ld htb (q13.add (p * 1)) false 1 [.string x16] (by kernel_rfl) at15 rfl (by decide) ?_)
    refine WL_execS htb 1 [17, 85, 84, 83, 15, 6, 5, 2] [1] ⟨[(17, (tS x16)), (85, (iN p)), (84, (iN n_r1)), (83, (sS (some q13) n_r1 c_r1)), (15, (sS A_r9 n_r9 c_r9)), (6, (sS (some q13) n_r1 c_r1)), (5, (.ls z4 1 out4.length cap4)), (2, (.p 0 0))], [(1, (.lst z4 31 arr4))], 2, [], [(0, bk4, (.cells 24 [(sS A_g n_g c_g)]))]⟩ (by kernel_rfl) ?_
    refine WL_nil ?_
    refine WQ_code ?_
    refine WC_seq (WC_region ?_)
    refine WL_execS htb 2 [90, 89, 17, 85, 84, 83, 15, 6, 5, 2] [1] ⟨[(90, (tS x16)), (89, (sS A_r9 n_r9 c_r9)), (17, (tS x16)), (85, (iN p)), (84, (iN n_r1)), (83, (sS (some q13) n_r1 c_r1)), (15, (sS A_r9 n_r9 c_r9)), (6, (sS (some q13) n_r1 c_r1)), (5, (.ls z4 1 out4.length cap4)), (2, (.p 0 0))], [(1, (.lst z4 31 arr4))], 2, [], [(0, bk4, (.cells 24 [(sS A_g n_g c_g)]))]⟩ (by kernel_rfl) ?_
    refine WL_op (WOp_call 65 [(sS A_r9 n_r9 c_r9), (tS x16)] (by kernel_rfl) (goes_of Try.func65 rfl rfl) (fun ρ w hW => has_ok hW.has (xs := r9) (x := x16) h_r9 hn17) ?_)
    intro G3 v hle hΦ
    replace hc6 := Le.trans hc6 hle
    replace hc8 := Le.trans hc8 hle
    replace hc12 := Le.trans hc12 hle
    replace h_g := h_g.mono hle
    replace h_r1 := h_r1.mono hle
    replace h_r9 := h_r9.mono hle
    replace hz := hz.mono hle
    replace ho4 := ho4.mono hle
    obtain ⟨r18, rfl, hR19⟩ := hΦ
    refine WL_execS htb 1 [92, 17, 85, 84, 83, 15, 6, 5, 2] [1] ⟨[(92, (bB (!r18))), (17, (tS x16)), (85, (iN p)), (84, (iN n_r1)), (83, (sS (some q13) n_r1 c_r1)), (15, (sS A_r9 n_r9 c_r9)), (6, (sS (some q13) n_r1 c_r1)), (5, (.ls z4 1 out4.length cap4)), (2, (.p 0 0))], [(1, (.lst z4 31 arr4))], 2, [], [(0, bk4, (.cells 24 [(sS A_g n_g c_g)]))]⟩ (by kernel_rfl) ?_
    refine WL_nil ?_
    refine WQ_code ?_
    obtain ⟨gr, hgr, hgn⟩ := map_fst hx14
    refine WC_cond (b := (!r18)) rfl (fun hd => ?_) (fun hd => ?_)
    ·
     rw [Bool.not_eq_true'] at hd
     refine WC_region ?_
     refine WL_execS htb 2 [94, 93, 85, 84, 83, 15, 6, 2] [1] ⟨[(94, (tS x16)), (93, (.ls z4 1 out4.length cap4)), (85, (iN p)), (84, (iN n_r1)), (83, (sS (some q13) n_r1 c_r1)), (15, (sS A_r9 n_r9 c_r9)), (6, (sS (some q13) n_r1 c_r1)), (2, (.p 0 0))], [(1, (.lst z4 31 arr4))], 2, [], [(0, bk4, (.cells 24 [(sS A_g n_g c_g)]))]⟩ (by kernel_rfl) ?_
     refine WL_op (WOp_callT 66 [(.ls z4 1 out4.length cap4), (iI 3), (tS x16)] (by kernel_rfl) (goes_of Try.func66 rfl rfl) (by kernel_rfl) 1 rfl rfl (fun ρ w b hW hρ hb => by (subst hρ; exact lay_ok hW.has hb ho4 hzz4 rfl (by omega) hn17 (by omega))) (fun G20 z21 arr22 cap23 ys24 hle hz25 ho26 hy27 => ?_))
     replace hc6 := Le.trans hc6 hle
     replace hc8 := Le.trans hc8 hle
     replace hc12 := Le.trans hc12 hle
     replace h_g := h_g.mono hle
     replace h_r1 := h_r1.mono hle
     replace h_r9 := h_r9.mono hle
     replace hz := hz.mono hle
     have hy27l : ys24.length ≤ out4.length + 1 := by (rw [hy27]; exact layS_len _ _)
     show WL _ _ _ _ _ _ ⟨[(95, (.ls z21 2 ys24.length cap23)), (94, (tS x16)), (93, (.ls z4 1 out4.length cap4)), (85, (iN p)), (84, (iN n_r1)), (83, (sS (some q13) n_r1 c_r1)), (15, (sS A_r9 n_r9 c_r9)), (6, (sS (some q13) n_r1 c_r1)), (2, (.p 0 0))], [(2, (.lst z21 31 arr22))], 3, [], [(0, bk4, (.cells 24 [(sS A_g n_g c_g)]))]⟩ _
     refine WL_execS htb 1 [5, 85, 84, 83, 15, 6, 2] [2] ⟨[(5, (.ls z21 2 ys24.length cap23)), (85, (iN p)), (84, (iN n_r1)), (83, (sS (some q13) n_r1 c_r1)), (15, (sS A_r9 n_r9 c_r9)), (6, (sS (some q13) n_r1 c_r1)), (2, (.p 0 0))], [(2, (.lst z21 31 arr22))], 3, [], [(0, bk4, (.cells 24 [(sS A_g n_g c_g)]))]⟩ (by kernel_rfl) ?_
     refine WL_nil ?_
     refine WQ_blk ?_
     refine WQ_code ?_
     refine WC_region ?_
     refine WL_execS htb 2 [85, 5, 84, 83, 15, 6, 2] [2] ⟨[(85, (iI (IntKind.i64.wrap (((p : Nat) : Int) + 1)))), (5, (.ls z21 2 ys24.length cap23)), (84, (iN n_r1)), (83, (sS (some q13) n_r1 c_r1)), (15, (sS A_r9 n_r9 c_r9)), (6, (sS (some q13) n_r1 c_r1)), (2, (.p 0 0))], [(2, (.lst z21 31 arr22))], 3, [], [(0, bk4, (.cells 24 [(sS A_g n_g c_g)]))]⟩ (by kernel_rfl) ?_
     refine WL_nil ?_
     refine WK_env [(85, (iN (p + 1))), (5, (.ls z21 2 ys24.length cap23)), (84, (iN n_r1)), (83, (sS (some q13) n_r1 c_r1)), (15, (sS A_r9 n_r9 c_r9)), (6, (sS (some q13) n_r1 c_r1)), (2, (.p 0 0))] (fun ρ => ⟨rfl, (congrArg (Value.int .i64) (by rw [wrap_id (by omega)]; first | rfl | omega)), ⟨rfl, rfl, ⟨rfl, rfl, ⟨rfl, rfl, ⟨rfl, rfl, ⟨rfl, rfl, ⟨rfl, rfl, trivial⟩⟩⟩⟩⟩⟩⟩) ?_
     refine WK_keep [85, 84, 83, 15, 6, 5, 2] [2] rfl rfl ?_
     exact WQ_nextR ((p + 1), ys24, z21, arr22, cap23) (by show n_r1 - (p + 1) < n_r1 - p; omega) ⟨hc12, ⟨by omega, (by first | omega | (simp only [List.length_append, List.length_cons, List.length_nil]; omega)), ho26, hz25, rl_yes hy27 hex4 (cand3_y hgr hgn hR10 hR19 (by simpa using hd))⟩⟩ [(1, 2)] rfl rfl rfl rfl rfl rfl
    ·
     rw [Bool.not_eq_false'] at hd
     refine WC_skip ?_
     refine WQ_blk ?_
     refine WQ_code ?_
     refine WC_region ?_
     refine WL_execS htb 2 [85, 84, 83, 15, 6, 5, 2] [1] ⟨[(85, (iI (IntKind.i64.wrap (((p : Nat) : Int) + 1)))), (84, (iN n_r1)), (83, (sS (some q13) n_r1 c_r1)), (15, (sS A_r9 n_r9 c_r9)), (6, (sS (some q13) n_r1 c_r1)), (5, (.ls z4 1 out4.length cap4)), (2, (.p 0 0))], [(1, (.lst z4 31 arr4))], 2, [], [(0, bk4, (.cells 24 [(sS A_g n_g c_g)]))]⟩ (by kernel_rfl) ?_
     refine WL_nil ?_
     refine WK_env [(85, (iN (p + 1))), (84, (iN n_r1)), (83, (sS (some q13) n_r1 c_r1)), (15, (sS A_r9 n_r9 c_r9)), (6, (sS (some q13) n_r1 c_r1)), (5, (.ls z4 1 out4.length cap4)), (2, (.p 0 0))] (fun ρ => ⟨rfl, (congrArg (Value.int .i64) (by rw [wrap_id (by omega)]; first | rfl | omega)), ⟨rfl, rfl, ⟨rfl, rfl, ⟨rfl, rfl, ⟨rfl, rfl, ⟨rfl, rfl, ⟨rfl, rfl, trivial⟩⟩⟩⟩⟩⟩⟩) ?_
     refine WK_keep [85, 84, 83, 15, 6, 5, 2] [1] rfl rfl ?_
     exact WQ_next ((p + 1), out4, z4, arr4, cap4) (by show n_r1 - (p + 1) < n_r1 - p; omega) ⟨hc12, ⟨by omega, (by first | omega | (simp only [List.length_append, List.length_cons, List.length_nil]; omega)), ho4, hzz4, rl_no hex4 (cand3_n hgr hgn hR10 hR19 (by simpa using hd))⟩⟩ (fun ρ a w h => h)
   ·
    replace hc4 := of_decide_eq_false hc4
    rw [List.take_of_length_le (show (cand3 g tk (gdS g tk)).length ≤ p by rw [cand3_len]; omega)] at hex4
    refine WC_exit ?_
    refine WQ_then_exit ?_
    refine WQ_then_exit ?_
    refine WQ_hit ?_
    refine WQ_code ?_
    refine WC_seq (WC_region ?_)
    refine WL_execS htb 1 [97, 6, 5] [1] ⟨[(97, (.agg [(sS A_g n_g c_g)])), (6, (sS A_r1 n_r1 c_r1)), (5, (.ls z4 1 out4.length cap4))], [(1, (.lst z4 31 arr4))], 2, [], [(0, bk4, (.cells 24 [(sS A_g n_g c_g)]))]⟩ (by kernel_rfl) ?_
    refine WL_op (WOp_call 68 [(.agg [(sS A_g n_g c_g)])] (by kernel_rfl) (goes_of Try.func68 rfl rfl) (fun ρ w hW => led8_ok hW.has (g := g) h_g hg) ?_)
    intro G3 v hle hΦ
    replace hc6 := Le.trans hc6 hle
    replace hc8 := Le.trans hc8 hle
    replace hc12 := Le.trans hc12 hle
    replace h_g := h_g.mono hle
    replace h_r1 := h_r1.mono hle
    replace hz := hz.mono hle
    replace ho4 := ho4.mono hle
    obtain ⟨r13, A_r13, n_r13, c_r13, rfl, h_r13, hR14⟩ := hΦ
    have lh_r13 := h_r13.len'
    refine WL_execS htb 1 [18, 6, 5] [1] ⟨[(18, (sS A_r13 n_r13 c_r13)), (6, (sS A_r1 n_r1 c_r1)), (5, (.ls z4 1 out4.length cap4))], [(1, (.lst z4 31 arr4))], 2, [], [(0, bk4, (.cells 24 [(sS A_g n_g c_g)]))]⟩ (by kernel_rfl) ?_
    refine WL_nil ?_
    refine WQ_code ?_
    refine WC_seq ?_
    refine WC_seq (WC_region ?_)
    refine WL_execS htb 3 [101, 100, 99, 18, 5] [1] ⟨[(101, (iI 0)), (100, (iN n_r1)), (99, (sS A_r1 n_r1 c_r1)), (18, (sS A_r13 n_r13 c_r13)), (5, (.ls z4 1 out4.length cap4))], [(1, (.lst z4 31 arr4))], 2, [], [(0, bk4, (.cells 24 [(sS A_g n_g c_g)]))]⟩ (by kernel_rfl) ?_
    refine WL_nil ?_
    refine WQ_code ?_
    refine WC_block ?_
    refine WK_keep [101, 100, 99, 18, 5] [1] rfl rfl ?_
    refine WK_env [(101, (iN 0)), (100, (iN n_r1)), (99, (sS A_r1 n_r1 c_r1)), (18, (sS A_r13 n_r13 c_r13)), (5, (.ls z4 1 out4.length cap4))] (fun ρ => ⟨rfl, rfl, ⟨rfl, rfl, ⟨rfl, rfl, ⟨rfl, rfl, ⟨rfl, rfl, trivial⟩⟩⟩⟩⟩) ?_
    refine WC_loop (ι := Nat × List (Int × ByteArray) × Bool × Array Value × Nat) (fun (q, out5, z5, arr5, cap5) G15 => Le G3 G15 ∧ (q ≤ n_r1 ∧ out5.length ≤ 1001002000 + q ∧ OwnL (tPair (tInt .i64) tStr) G15 out5 arr5 cap5 ∧ (z5 = true → out5 = []) ∧ (out5 = tellL (cand1 g tk ++ cand2N g tk (allNames g) ++ cand3 g tk (gdS g tk) ++ (cand4 g (nrS g)).take q)))) (fun (q, out5, z5, arr5, cap5) => ⟨[(101, (iN q)), (100, (iN n_r1)), (99, (sS A_r1 n_r1 c_r1)), (18, (sS A_r13 n_r13 c_r13)), (5, (.ls z5 1 out5.length cap5))], [(1, (.lst z5 31 arr5))], 2, [], [(0, bk4, (.cells 24 [(sS A_g n_g c_g)]))]⟩) (fun (q, out5, z5, arr5, cap5) => n_r1 - q) (0, out4, z4, arr4, cap4) ⟨Le.refl _, ⟨Nat.zero_le _, (by first | omega | (simp only [List.length_append, List.length_nil]; omega)), ho4, hzz4, (by rw [hex4]; simp)⟩⟩ rfl ?_
    rintro ⟨q, out5, z5, arr5, cap5⟩ G15 ⟨hle, hF⟩
    show WC _ _ _ _ _ ⟨[(101, (iN q)), (100, (iN n_r1)), (99, (sS A_r1 n_r1 c_r1)), (18, (sS A_r13 n_r13 c_r13)), (5, (.ls z5 1 out5.length cap5))], [(1, (.lst z5 31 arr5))], 2, [], [(0, bk4, (.cells 24 [(sS A_g n_g c_g)]))]⟩ _
    replace hc6 := Le.trans hc6 hle
    replace hc8 := Le.trans hc8 hle
    replace hc12 := Le.trans hc12 hle
    replace h_g := h_g.mono hle
    replace h_r1 := h_r1.mono hle
    replace h_r13 := h_r13.mono hle
    replace hz := hz.mono hle
    replace ho4 := ho4.mono hle
    have hc16 := hle
    obtain ⟨hi5, hlen5, ho5, hzz5, hex5⟩ := hF
    refine WC_seq (WC_region ?_)
    refine WL_execS htb 1 [102, 101, 100, 99, 18, 5] [1] ⟨[(102, (bB (decide ((((q : Nat) : Int) : Int) < ((n_r1 : Nat) : Int))))), (101, (iN q)), (100, (iN n_r1)), (99, (sS A_r1 n_r1 c_r1)), (18, (sS A_r13 n_r13 c_r13)), (5, (.ls z5 1 out5.length cap5))], [(1, (.lst z5 31 arr5))], 2, [], [(0, bk4, (.cells 24 [(sS A_g n_g c_g)]))]⟩ (by kernel_rfl) ?_
    refine WL_nil ?_
    refine WQ_code ?_
    refine WC_seq ?_
    refine WC_cond (b := (decide ((((q : Nat) : Int) : Int) < ((n_r1 : Nat) : Int)))) rfl (fun hc5 => ?_) (fun hc5 => ?_)
    ·
     replace hc5 := of_decide_eq_true hc5
     refine WC_skip ?_
     refine WQ_code ?_
     refine WC_seq ?_
     refine WC_block ?_
     refine WC_seq (WC_region ?_)
     obtain ⟨q17, rfl⟩ := h_r1.ptr (by omega)
     obtain ⟨x20, _, hx18, ⟨rfl, hn21⟩, at19⟩ := h_r1.get q (by omega)
     replace at19 : At G15 (q17.add (q * 1)) [.string x20] := at19
     refine WL_op (WOp_idx htb q17 n_r1 ((q : Nat) : Int) 1 (by kernel_rfl) (by omega) (by omega) ?_)
     refine WL_op (WOp_ld htb (q17.add (q * 1)) false 1 [.string x20] (by kernel_rfl) at19 rfl (by decide) ?_)
     refine WL_execS htb 1 [20, 101, 100, 99, 18, 5] [1] ⟨[(20, (tS x20)), (101, (iN q)), (100, (iN n_r1)), (99, (sS (some q17) n_r1 c_r1)), (18, (sS A_r13 n_r13 c_r13)), (5, (.ls z5 1 out5.length cap5))], [(1, (.lst z5 31 arr5))], 2, [], [(0, bk4, (.cells 24 [(sS A_g n_g c_g)]))]⟩ (by kernel_rfl) ?_
     refine WL_nil ?_
     refine WQ_code ?_
     refine WC_seq (WC_region ?_)
     refine WL_execS htb 2 [106, 105, 20, 101, 100, 99, 18, 5] [1] ⟨[(106, (tS x20)), (105, (sS A_r13 n_r13 c_r13)), (20, (tS x20)), (101, (iN q)), (100, (iN n_r1)), (99, (sS (some q17) n_r1 c_r1)), (18, (sS A_r13 n_r13 c_r13)), (5, (.ls z5 1 out5.length cap5))], [(1, (.lst z5 31 arr5))], 2, [], [(0, bk4, (.cells 24 [(sS A_g n_g c_g)]))]⟩ (by kernel_rfl) ?_
     refine WL_op (WOp_call 65 [(sS A_r13 n_r13 c_r13), (tS x20)] (by kernel_rfl) (goes_of Try.func65 rfl rfl) (fun ρ w hW => has_ok hW.has (xs := r13) (x := x20) h_r13 hn21) ?_)
     intro G4 v hle hΦ
     replace hc6 := Le.trans hc6 hle
     replace hc8 := Le.trans hc8 hle
     replace hc12 := Le.trans hc12 hle
     replace hc16 := Le.trans hc16 hle
     replace h_g := h_g.mono hle
     replace h_r1 := h_r1.mono hle
     replace h_r13 := h_r13.mono hle
     replace hz := hz.mono hle
     replace ho5 := ho5.mono hle
     obtain ⟨r22, rfl, hR23⟩ := hΦ
     refine WL_execS htb 1 [108, 20, 101, 100, 99, 18, 5] [1] ⟨[(108, (bB (!r22))), (20, (tS x20)), (101, (iN q)), (100, (iN n_r1)), (99, (sS (some q17) n_r1 c_r1)), (18, (sS A_r13 n_r13 c_r13)), (5, (.ls z5 1 out5.length cap5))], [(1, (.lst z5 31 arr5))], 2, [], [(0, bk4, (.cells 24 [(sS A_g n_g c_g)]))]⟩ (by kernel_rfl) ?_
     refine WL_nil ?_
     refine WQ_code ?_
     obtain ⟨gr, hgr, hgn⟩ := map_fst hx18
     refine WC_cond (b := (!r22)) rfl (fun hd => ?_) (fun hd => ?_)
     ·
      rw [Bool.not_eq_true'] at hd
      refine WC_region ?_
      refine WL_execS htb 2 [110, 109, 101, 100, 99, 18] [1] ⟨[(110, (tS x20)), (109, (.ls z5 1 out5.length cap5)), (101, (iN q)), (100, (iN n_r1)), (99, (sS (some q17) n_r1 c_r1)), (18, (sS A_r13 n_r13 c_r13))], [(1, (.lst z5 31 arr5))], 2, [], [(0, bk4, (.cells 24 [(sS A_g n_g c_g)]))]⟩ (by kernel_rfl) ?_
      refine WL_op (WOp_callT 66 [(.ls z5 1 out5.length cap5), (iI 4), (tS x20)] (by kernel_rfl) (goes_of Try.func66 rfl rfl) (by kernel_rfl) 1 rfl rfl (fun ρ w b hW hρ hb => by (subst hρ; exact lay_ok hW.has hb ho5 hzz5 rfl (by omega) hn21 (by omega))) (fun G24 z25 arr26 cap27 ys28 hle hz29 ho30 hy31 => ?_))
      replace hc6 := Le.trans hc6 hle
      replace hc8 := Le.trans hc8 hle
      replace hc12 := Le.trans hc12 hle
      replace hc16 := Le.trans hc16 hle
      replace h_g := h_g.mono hle
      replace h_r1 := h_r1.mono hle
      replace h_r13 := h_r13.mono hle
      replace hz := hz.mono hle
      have hy31l : ys28.length ≤ out5.length + 1 := by (rw [hy31]; exact layS_len _ _)
      show WL _ _ _ _ _ _ ⟨[(111, (.ls z25 2 ys28.length cap27)), (110, (tS x20)), (109, (.ls z5 1 out5.length cap5)), (101, (iN q)), (100, (iN n_r1)), (99, (sS (some q17) n_r1 c_r1)), (18, (sS A_r13 n_r13 c_r13))], [(2, (.lst z25 31 arr26))], 3, [], [(0, bk4, (.cells 24 [(sS A_g n_g c_g)]))]⟩ _
      refine WL_execS htb 1 [5, 101, 100, 99, 18] [2] ⟨[(5, (.ls z25 2 ys28.length cap27)), (101, (iN q)), (100, (iN n_r1)), (99, (sS (some q17) n_r1 c_r1)), (18, (sS A_r13 n_r13 c_r13))], [(2, (.lst z25 31 arr26))], 3, [], [(0, bk4, (.cells 24 [(sS A_g n_g c_g)]))]⟩ (by kernel_rfl) ?_
      refine WL_nil ?_
      refine WQ_blk ?_
      refine WQ_code ?_
      refine WC_region ?_
      refine WL_execS htb 2 [101, 5, 100, 99, 18] [2] ⟨[(101, (iI (IntKind.i64.wrap (((q : Nat) : Int) + 1)))), (5, (.ls z25 2 ys28.length cap27)), (100, (iN n_r1)), (99, (sS (some q17) n_r1 c_r1)), (18, (sS A_r13 n_r13 c_r13))], [(2, (.lst z25 31 arr26))], 3, [], [(0, bk4, (.cells 24 [(sS A_g n_g c_g)]))]⟩ (by kernel_rfl) ?_
      refine WL_nil ?_
      refine WK_env [(101, (iN (q + 1))), (5, (.ls z25 2 ys28.length cap27)), (100, (iN n_r1)), (99, (sS (some q17) n_r1 c_r1)), (18, (sS A_r13 n_r13 c_r13))] (fun ρ => ⟨rfl, (congrArg (Value.int .i64) (by rw [wrap_id (by omega)]; first | rfl | omega)), ⟨rfl, rfl, ⟨rfl, rfl, ⟨rfl, rfl, ⟨rfl, rfl, trivial⟩⟩⟩⟩⟩) ?_
      refine WK_keep [101, 100, 99, 18, 5] [2] rfl rfl ?_
      exact WQ_nextR ((q + 1), ys28, z25, arr26, cap27) (by show n_r1 - (q + 1) < n_r1 - q; omega) ⟨hc16, ⟨by omega, (by first | omega | (simp only [List.length_append, List.length_cons, List.length_nil]; omega)), ho30, hz29, rl_yes hy31 hex5 (cand4_y hgr hgn hR14 hR23 (by simpa using hd))⟩⟩ [(1, 2)] rfl rfl rfl rfl rfl rfl
     ·
      rw [Bool.not_eq_false'] at hd
      refine WC_skip ?_
      refine WQ_blk ?_
      refine WQ_code ?_
      refine WC_region ?_
      refine WL_execS htb 2 [101, 100, 99, 18, 5] [1] ⟨[(101, (iI (IntKind.i64.wrap (((q : Nat) : Int) + 1)))), (100, (iN n_r1)), (99, (sS (some q17) n_r1 c_r1)), (18, (sS A_r13 n_r13 c_r13)), (5, (.ls z5 1 out5.length cap5))], [(1, (.lst z5 31 arr5))], 2, [], [(0, bk4, (.cells 24 [(sS A_g n_g c_g)]))]⟩ (by kernel_rfl) ?_
      refine WL_nil ?_
      refine WK_env [(101, (iN (q + 1))), (100, (iN n_r1)), (99, (sS (some q17) n_r1 c_r1)), (18, (sS A_r13 n_r13 c_r13)), (5, (.ls z5 1 out5.length cap5))] (fun ρ => ⟨rfl, (congrArg (Value.int .i64) (by rw [wrap_id (by omega)]; first | rfl | omega)), ⟨rfl, rfl, ⟨rfl, rfl, ⟨rfl, rfl, ⟨rfl, rfl, trivial⟩⟩⟩⟩⟩) ?_
      refine WK_keep [101, 100, 99, 18, 5] [1] rfl rfl ?_
      exact WQ_next ((q + 1), out5, z5, arr5, cap5) (by show n_r1 - (q + 1) < n_r1 - q; omega) ⟨hc16, ⟨by omega, (by first | omega | (simp only [List.length_append, List.length_cons, List.length_nil]; omega)), ho5, hzz5, rl_no hex5 (cand4_n hgr hgn hR14 hR23 (by simpa using hd))⟩⟩ (fun ρ a w h => h)
    ·
     replace hc5 := of_decide_eq_false hc5
     rw [List.take_of_length_le (show (cand4 g (nrS g)).length ≤ q by rw [cand4_len]; omega)] at hex5
     refine WC_exit ?_
     refine WQ_then_exit ?_
     refine WQ_then_exit ?_
     refine WQ_hit ?_
     refine WQ_code ?_
     refine WC_seq (WC_region ?_)
     refine WL_execS htb 2 [4] [1] ⟨[(4, (.ls z5 1 out5.length cap5))], [(1, (.lst z5 31 arr5))], 2, [], [(0, bk4, (.cells 24 [(sS A_g n_g c_g)]))]⟩ (by kernel_rfl) ?_
     refine WL_nil ?_
     refine WQ_code ?_
     refine WC_ret ?_
     refine WK_freezeL 1 rfl rfl ?_
     intro bk18 G17 hle hbk18
     replace hc6 := Le.trans hc6 hle
     replace hc8 := Le.trans hc8 hle
     replace hc12 := Le.trans hc12 hle
     replace hc16 := Le.trans hc16 hle
     replace h_g := h_g.mono hle
     replace hz := hz.mono hle
     obtain ⟨A20, n21, c22, e23, hs19⟩ := OwnL.sl (n := out5.length) ho5 hle hzz5 hbk18 rfl
     refine WK_env [(4, (sS A20 n21 c22))] (fun ρ => ⟨rfl, (by exact e23), trivial⟩) ?_
     have lhs19 := hs19.len'
     exact WQ_done htb [(sS A20 n21 c22)] _ (.inl rfl) rfl (by kernel_rfl) (fun ρ w hW => ⟨_, _, _, rfl, (by rw [((show (flawsL g tk) = out5 from hex5.symm) : (flawsL g tk) = out5)]; exact hs19), trivial⟩)

end Go.Proofs.Ytfemkbockhpmcaa.Sym
