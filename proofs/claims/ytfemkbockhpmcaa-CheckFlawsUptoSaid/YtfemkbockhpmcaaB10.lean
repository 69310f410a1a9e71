/- Walks of functions that the laws of this seat reach, printed by a program of this session's. -/
import Derived.Test.YtfemkbockhpmcaaB9
set_option linter.unusedSimpArgs false
set_option linter.unusedVariables false
set_option maxHeartbeats 4000000
namespace Go.Proofs.Ytfemkbockhpmcaa.Sym
open Go Go.Proofs Go.RowKit

theorem tell_step {P L : List (Bool × Flaw)} {i : Nat} {b : Bool} {f : Flaw} (h : L[i]? = some (b, f)) : tellL (P ++ L.take (i + 1)) = tellS b (tellL (P ++ L.take i)) f := by
  rw [take_succ' h, ← List.append_assoc, tellL_snoc]; rfl
theorem cand1_len {g : List Rule} {tk : List ByteArray} : (cand1 g tk).length = g.length := by unfold cand1; simp
theorem cand2N_len {g : List Rule} {tk l : List ByteArray} : (cand2N g tk l).length = l.length := by unfold cand2N; simp
theorem cand3_len {g : List Rule} {tk : List ByteArray} {gd : ByteArray → Bool} : (cand3 g tk gd).length = g.length := by unfold cand3; simp
theorem cand4_len {g : List Rule} {nr : ByteArray → Bool} : (cand4 g nr).length = g.length := by unfold cand4; simp
theorem allNames_take_len (g : List Rule) (r : Nat) : (allNames (g.take r)).length ≤ (allNames g).length := by
  have h : allNames g = allNames (g.take r) ++ allNames (g.drop r) := by unfold allNames; rw [← List.flatMap_append, List.take_append_drop]
  rw [h, List.length_append]; omega
theorem cand1_get {g : List Rule} {tk : List ByteArray} {i : Nat} {x : Rule} (h : g[i]? = some x) : (cand1 g tk)[i]? = some (hasB tk x.1 || decide (((idxS g x.1)[0]?.getD 0) < (i : Int)), (1, x.1)) := by
  unfold cand1
  rw [List.getElem?_map, List.getElem?_zipIdx, h]; simp
theorem cand1_a {g : List Rule} {tk : List ByteArray} {i : Nat} {x : Rule} (h : g[i]? = some x) (hh : hasB tk x.1 = true) : (cand1 g tk)[i]? = some (true, (1, x.1)) := by rw [cand1_get h, hh]; rfl
theorem cand1_b {g : List Rule} {tk : List ByteArray} {i : Nat} {x : Rule} {k : Int} (h : g[i]? = some x) (hh : hasB tk x.1 = false) (hk : (idxS g x.1)[0]? = some k) : (cand1 g tk)[i]? = some (decide (k < (i : Int)), (1, x.1)) := by rw [cand1_get h, hh, hk]; rfl
theorem idxS_pos {g : List Rule} {i : Nat} {x : Rule} (h : g[i]? = some x) : 0 < (idxS g x.1).length := by
  unfold idxS
  rw [List.length_map, List.length_pos_iff_exists_mem]
  exact ⟨(x, i), List.mem_filter.2 ⟨List.mem_zipIdx_iff_getElem?.2 h, by simp⟩⟩
theorem cand2_a {g : List Rule} {tk l : List ByteArray} {i : Nat} {x : ByteArray} {ni : Nat} (h : l[i]? = some x) (hh : hasB tk x = false) (hn : ni = (idxS g x).length) : (cand2N g tk l)[i]? = some (((ni : Nat) : Int) == 0, (2, x)) := by
  unfold cand2N
  rw [List.getElem?_map, h, hn]
  simp only [Option.map_some, hh, Bool.not_false, Bool.true_and]
  congr 2
  by_cases e : (idxS g x).length = 0
  · rw [e]; rfl
  · rw [decide_eq_false e]; symm; simpa using e
theorem cand2_b {g : List Rule} {tk l : List ByteArray} {i : Nat} {x : ByteArray} (h : l[i]? = some x) (hh : hasB tk x = true) : (cand2N g tk l)[i]? = some (false, (2, x)) := by
  unfold cand2N
  rw [List.getElem?_map, h]; simp [hh]
theorem cand2_round {P : List (Bool × Flaw)} {g : List Rule} {tk : List ByteArray} {r : Nat} {x : Rule} (h : g[r]? = some x) : tellL (P ++ cand2N g tk (allNames (g.take (r + 1)))) = tellL (P ++ cand2N g tk (allNames (g.take r)) ++ cand2N g tk x.2.flatten) := by
  have e : allNames (g.take (r + 1)) = allNames (g.take r) ++ x.2.flatten := by
    unfold allNames
    rw [take_succ' h, List.flatMap_append]; simp
  rw [e]
  unfold cand2N
  rw [List.map_append, List.append_assoc]
theorem cand3_a {g : List Rule} {tk : List ByteArray} {gd : ByteArray → Bool} {i : Nat} {x : Rule} (h : g[i]? = some x) (hh : gd x.1 = false) : (cand3 g tk gd)[i]? = some (!hasB tk x.1, (3, x.1)) := by
  unfold cand3; rw [List.getElem?_map, h]; simp [hh]
theorem cand3_b {g : List Rule} {tk : List ByteArray} {gd : ByteArray → Bool} {i : Nat} {x : Rule} (h : g[i]? = some x) (hh : gd x.1 = true) : (cand3 g tk gd)[i]? = some (false, (3, x.1)) := by
  unfold cand3; rw [List.getElem?_map, h]; simp [hh]
theorem cand4_a {g : List Rule} {nr : ByteArray → Bool} {i : Nat} {x : Rule} (h : g[i]? = some x) : (cand4 g nr)[i]? = some (!nr x.1, (4, x.1)) := by
  unfold cand4; rw [List.getElem?_map, h]; rfl
theorem flawsP_ok {w : World} {G : Heap} (hG : Has w G) {g : (List (ByteArray × (List (List ByteArray))))} {A_g : Option Addr} {n_g : Nat} {c_g : Nat} {tk : (List ByteArray)} {A_tk : Option Addr} {n_tk : Nat} {c_tk : Nat} (h_g : Sl (tPair tStr (tSlice (tSlice tStr))) G A_g n_g c_g g) (h_tk : Sl tStr G A_tk n_tk c_tk tk) (hgl : g.length ≤ 100000) (hal : (allNames g).length ≤ 100000) (htk : tk.length ≤ 1000000) :
    Calls Try.prog 16 #[(.agg #[.slice A_g n_g c_g]), (.slice A_tk n_tk c_tk)] w (Ret w G fun v G' => ∃ A n c gd nr, v = .slice A n c ∧ Sl tFlaw G' A n c (tellL (flawsC g tk gd nr)) ∧ (∀ s, gd s = true ↔ Fert g tk s) ∧ (∀ s, nr s = true ↔ Led g s)) := by
 have lh_g := h_g.len'
 have lh_tk := h_tk.len'
 refine enter [(.agg [(sS A_g n_g c_g)]), (sS A_tk n_tk c_tk)] 136 Try.func16 rfl rfl rfl rfl hG ?_
 refine WC_seq (WC_region ?_)
 refine WL_execS htb 2 [2, 1] [0] ⟨[(2, (.p 0 0)), (1, (sS A_tk n_tk c_tk))], [(0, (.cells 24 [(sS A_g n_g c_g)]))], 1, [], []⟩ (by kernel_rfl) ?_
 refine WL_nil ?_
 refine WQ_code ?_
 refine WC_seq (WC_region ?_)
 refine WL_execS htb 2 [22, 21, 2] [0] ⟨[(22, (sS A_tk n_tk c_tk)), (21, (.agg [(sS A_g n_g c_g)])), (2, (.p 0 0))], [(0, (.cells 24 [(sS A_g n_g c_g)]))], 1, [], []⟩ (by kernel_rfl) ?_
 refine WL_op (WOp_call 39 [(.agg [(sS A_g n_g c_g)]), (sS A_tk n_tk c_tk)] (by kernel_rfl) (goes_of Try.func39 rfl rfl) (fun ρ w hW => open_ok hW.has h_g h_tk (by omega) (by omega)) ?_)
 intro G701 v hle hΦ; have hle_o := hle
 replace h_g := h_g.mono hle
 replace h_tk := h_tk.mono hle
 obtain ⟨bk, Ab, nb, cb, m1, m2, rfl, hB⟩ := hΦ
 refine WL_execS htb 1 [5, 2] [0] ⟨[(5, (.v (.pointer (some (⟨bk, 0, none⟩ : Addr))))), (2, (.p 0 0))], [(0, (.cells 24 [(sS A_g n_g c_g)]))], 1, [], []⟩ (by kernel_rfl) ?_
 refine WL_nil ?_
 refine WQ_code ?_
 refine WC_seq (WC_region ?_)
 refine WL_execS htb 3 [6, 5, 2] [2, 1, 0] ⟨[(6, (.p 2 0)), (5, (.v (.pointer (some (⟨bk, 0, none⟩ : Addr))))), (2, (.p 0 0))], [(2, (.cells 66 [(.m 1)])), (1, (.raw (.map #[] 0))), (0, (.cells 24 [(sS A_g n_g c_g)]))], 3, [], []⟩ (by kernel_rfl) ?_
 refine WL_nil ?_
 refine WQ_code ?_
 refine WC_seq (WC_region ?_)
 refine WL_execS htb 1 [7, 6, 5, 2] [3, 2, 1, 0] ⟨[(7, (.p 3 0)), (6, (.p 2 0)), (5, (.v (.pointer (some (⟨bk, 0, none⟩ : Addr))))), (2, (.p 0 0))], [(3, (.cells 28 [(sS none 0 0)])), (2, (.cells 66 [(.m 1)])), (1, (.raw (.map #[] 0))), (0, (.cells 24 [(sS A_g n_g c_g)]))], 4, [], []⟩ (by kernel_rfl) ?_
 refine WL_nil ?_
 refine WQ_code ?_
 refine WC_seq (WC_region ?_)
 refine WL_execS htb 2 [8, 7, 5, 2] [3, 2, 1, 0] ⟨[(8, (.fn (.func 40) [(.p 2 0), (.p 3 0)])), (7, (.p 3 0)), (5, (.v (.pointer (some (⟨bk, 0, none⟩ : Addr))))), (2, (.p 0 0))], [(3, (.cells 28 [(sS none 0 0)])), (2, (.cells 66 [(.m 1)])), (1, (.raw (.map #[] 0))), (0, (.cells 24 [(sS A_g n_g c_g)]))], 4, [], []⟩ (by kernel_rfl) ?_
 refine WL_nil ?_
 refine WQ_code ?_
 refine WC_seq ?_
 refine WC_seq (WC_region ?_)
 refine WL_execS htb 4 [29, 28, 27, 8, 7, 5, 2] [3, 2, 1, 0] ⟨[(29, (iI 0)), (28, (iN n_g)), (27, (sS A_g n_g c_g)), (8, (.fn (.func 40) [(.p 2 0), (.p 3 0)])), (7, (.p 3 0)), (5, (.v (.pointer (some (⟨bk, 0, none⟩ : Addr))))), (2, (.p 0 0))], [(3, (.cells 28 [(sS none 0 0)])), (2, (.cells 66 [(.m 1)])), (1, (.raw (.map #[] 0))), (0, (.cells 24 [(sS A_g n_g c_g)]))], 4, [], []⟩ (by kernel_rfl) ?_
 refine WL_nil ?_
 refine WQ_code ?_
 refine WC_block ?_
 refine WK_freeze 0 rfl rfl rfl rfl ?_
 intro bk2 G1 hle hbk2; have hle_f := hle
 replace h_g := h_g.mono hle
 replace hB := hB.mono hle
 have hz := FZ.cons (h := 0) hbk2 rfl (FZ.nil _)
 refine WK_freezeVN 1 rfl rfl rfl rfl ?_
 intro bk4 G3 hle6 hnew5 hbk4
 show WK _ _ ⟨[(29, (iI 0)), (28, (iN n_g)), (27, (sS A_g n_g c_g)), (8, (.fn (.func 40) [(.p 2 0), (.p 3 0)])), (7, (.p 3 0)), (5, (.v (.pointer (some (⟨bk, 0, none⟩ : Addr))))), (2, (.p 0 0))], [(3, (.cells 28 [(sS none 0 0)])), (2, (.cells 66 [(.v (.map (some bk4)))]))], 4, [], [(0, bk2, (.cells 24 [(sS A_g n_g c_g)]))]⟩ _
 refine WK_freezeVN 2 rfl rfl rfl rfl ?_
 intro bk8 G7 hle10 hnew9 hbk8
 show WK _ _ ⟨[(29, (iI 0)), (28, (iN n_g)), (27, (sS A_g n_g c_g)), (8, (.fn (.func 40) [(.v (.pointer (some (⟨bk8, 0, none⟩ : Addr)))), (.p 3 0)])), (7, (.p 3 0)), (5, (.v (.pointer (some (⟨bk, 0, none⟩ : Addr))))), (2, (.p 0 0))], [(3, (.cells 28 [(sS none 0 0)]))], 4, [], [(0, bk2, (.cells 24 [(sS A_g n_g c_g)]))]⟩ _
 refine WK_freezeVN 3 rfl rfl rfl rfl ?_
 intro bk12 G11 hle14 hnew13 hbk12
 show WK _ _ ⟨[(29, (iI 0)), (28, (iN n_g)), (27, (sS A_g n_g c_g)), (8, (.fn (.func 40) [(.v (.pointer (some (⟨bk8, 0, none⟩ : Addr)))), (.v (.pointer (some (⟨bk12, 0, none⟩ : Addr))))])), (7, (.v (.pointer (some (⟨bk12, 0, none⟩ : Addr))))), (5, (.v (.pointer (some (⟨bk, 0, none⟩ : Addr))))), (2, (.p 0 0))], [], 4, [], [(0, bk2, (.cells 24 [(sS A_g n_g c_g)]))]⟩ _
 obtain ⟨Gb, hxb, hc6b, hT⟩ := Tell.start hle6 hnew5 hbk4 hle10 hnew9 hbk8 hle14 hnew13 hbk12
 replace h_g := h_g.mono hxb
 replace hB := hB.mono hxb
 have hc6 : At Gb ⟨bk8, 0, none⟩ [.map (some bk4)] := At.of_block hc6b
 have hleb := hT.le
 have hfz : Gb bk2 ≠ none := fun e => by (rw [hxb _ _ hbk2] at e; cases e)
 have hle0 : Le G Gb := Le.trans (Le.trans hle_o hle_f) hxb
 have hxz := hxb
 refine WK_keep [29, 28, 27, 8, 7, 5, 2] [] rfl rfl ?_
 refine WK_env [(29, (iN 0)), (28, (iN n_g)), (27, (sS A_g n_g c_g)), (8, (.fn (.func 40) [(.v (.pointer (some (⟨bk8, 0, none⟩ : Addr)))), (.v (.pointer (some (⟨bk12, 0, none⟩ : Addr))))])), (7, (.v (.pointer (some (⟨bk12, 0, none⟩ : Addr))))), (5, (.v (.pointer (some (⟨bk, 0, none⟩ : Addr))))), (2, (.p 0 0))] (fun ρ => ⟨rfl, rfl, ⟨rfl, rfl, ⟨rfl, rfl, ⟨rfl, rfl, ⟨rfl, rfl, ⟨rfl, rfl, ⟨rfl, rfl, trivial⟩⟩⟩⟩⟩⟩⟩) ?_
 refine WC_loop (ι := Nat × Bool × Nat × Nat × Array Value) (fun (i, z, bl, cap, arr) G15 => i ≤ n_g ∧ Tell Gb G15 bk4 bk12 (tellL (([] : List (Bool × Flaw)) ++ ((cand1 g tk)).take i)) z bl cap arr) (fun (i, z, bl, cap, arr) => ⟨[(29, (iN i)), (28, (iN n_g)), (27, (sS A_g n_g c_g)), (8, (.fn (.func 40) [(.v (.pointer (some (⟨bk8, 0, none⟩ : Addr)))), (.v (.pointer (some (⟨bk12, 0, none⟩ : Addr))))])), (7, (.v (.pointer (some (⟨bk12, 0, none⟩ : Addr))))), (5, (.v (.pointer (some (⟨bk, 0, none⟩ : Addr))))), (2, (.p 0 0))], [], 4, [], [(0, bk2, (.cells 24 [(sS A_g n_g c_g)]))]⟩) (fun (i, z, bl, cap, arr) => n_g - i) (0, _, _, _, _) ⟨Nat.zero_le _, (by rw [List.take_zero, List.append_nil]; exact hT)⟩ rfl ?_
 rintro ⟨i, z, bl, cap, arr⟩ G15 hF
 show WC _ _ _ _ _ ⟨[(29, (iN i)), (28, (iN n_g)), (27, (sS A_g n_g c_g)), (8, (.fn (.func 40) [(.v (.pointer (some (⟨bk8, 0, none⟩ : Addr)))), (.v (.pointer (some (⟨bk12, 0, none⟩ : Addr))))])), (7, (.v (.pointer (some (⟨bk12, 0, none⟩ : Addr))))), (5, (.v (.pointer (some (⟨bk, 0, none⟩ : Addr))))), (2, (.p 0 0))], [], 4, [], [(0, bk2, (.cells 24 [(sS A_g n_g c_g)]))]⟩ _
 obtain ⟨hi, hT⟩ := hF
 have hleb := hT.le
 have hol : (tellL (([] : List (Bool × Flaw)) ++ ((cand1 g tk)).take i)).length ≤ 1000000 := Nat.le_trans (tellL_len _) (by simp only [List.length_append, List.length_take, List.length_nil, cand1_len, cand2N_len, cand3_len, cand4_len]; omega)
 refine WC_seq (WC_region ?_)
 refine WL_execS htb 1 [30, 29, 28, 27, 8, 7, 5, 2] [] ⟨[(30, (bB (decide ((((i : Nat) : Int) : Int) < ((n_g : Nat) : Int))))), (29, (iN i)), (28, (iN n_g)), (27, (sS A_g n_g c_g)), (8, (.fn (.func 40) [(.v (.pointer (some (⟨bk8, 0, none⟩ : Addr)))), (.v (.pointer (some (⟨bk12, 0, none⟩ : Addr))))])), (7, (.v (.pointer (some (⟨bk12, 0, none⟩ : Addr))))), (5, (.v (.pointer (some (⟨bk, 0, none⟩ : Addr))))), (2, (.p 0 0))], [], 4, [], [(0, bk2, (.cells 24 [(sS A_g n_g c_g)]))]⟩ (by kernel_rfl) ?_
 refine WL_nil ?_
 refine WQ_code ?_
 refine WC_seq ?_
 refine WC_cond (b := (decide ((((i : Nat) : Int) : Int) < ((n_g : Nat) : Int)))) rfl (fun hc => ?_) (fun hc => ?_)
 ·
  replace hc := of_decide_eq_true hc
  refine WC_skip ?_
  refine WQ_code ?_
  refine WC_seq ?_
  refine WC_block ?_
  refine WC_seq (WC_region ?_)
  refine WL_execS htb 1 [31, 29, 28, 27, 8, 7, 5, 2] [] ⟨[(31, (iN i)), (29, (iN i)), (28, (iN n_g)), (27, (sS A_g n_g c_g)), (8, (.fn (.func 40) [(.v (.pointer (some (⟨bk8, 0, none⟩ : Addr)))), (.v (.pointer (some (⟨bk12, 0, none⟩ : Addr))))])), (7, (.v (.pointer (some (⟨bk12, 0, none⟩ : Addr))))), (5, (.v (.pointer (some (⟨bk, 0, none⟩ : Addr))))), (2, (.p 0 0))], [], 4, [], [(0, bk2, (.cells 24 [(sS A_g n_g c_g)]))]⟩ (by kernel_rfl) ?_
  obtain ⟨q16, rfl⟩ := h_g.ptr (by omega)
  obtain ⟨⟨x19, x21⟩, _, hx17, ⟨_, _, rfl, ⟨rfl, hn20⟩, hr22⟩, at18⟩ := h_g.get i (by omega)
  obtain ⟨A24, n25, c26, rfl, hs23⟩ := Sl.of hr22
  replace hs23 : Sl (tSlice tStr) _ A24 n25 c26 x21 := hs23
  have lhs23 := hs23.len'
  replace at18 : At Gb (q16.add (i * 2)) [.string x19, .slice A24 n25 c26] := at18
  refine WL_op (WOp_idx htb q16 n_g ((i : Nat) : Int) 2 (by kernel_rfl) (by omega) (by omega) ?_)
  refine WL_op (WOp_ld htb (q16.add (i * 2)) true 2 [.string x19, .slice A24 n25 c26] (by kernel_rfl) (at18.mono hleb) rfl (by decide) ?_)
  refine WL_execS htb 3 [9, 10, 29, 28, 27, 8, 7, 5, 2] [4] ⟨[(9, (iN i)), (10, (.p 4 0)), (29, (iN i)), (28, (iN n_g)), (27, (sS (some q16) n_g c_g)), (8, (.fn (.func 40) [(.v (.pointer (some (⟨bk8, 0, none⟩ : Addr)))), (.v (.pointer (some (⟨bk12, 0, none⟩ : Addr))))])), (7, (.v (.pointer (some (⟨bk12, 0, none⟩ : Addr))))), (5, (.v (.pointer (some (⟨bk, 0, none⟩ : Addr))))), (2, (.p 0 0))], [(4, (.cells 34 [(tS x19), (sS A24 n25 c26)]))], 5, [], [(0, bk2, (.cells 24 [(sS (some q16) n_g c_g)]))]⟩ (by kernel_rfl) ?_
  refine WL_nil ?_
  refine WQ_code ?_
  have hTx := hT
  refine WK_freezeN 4 rfl rfl rfl rfl ?_
  intro bk28 G27 hle hnew29 hbk28
  have hle30 := hle
  replace hleb := Le.trans hleb hle
  replace hT := hT.mono hle
  show WK _ _ ⟨[(9, (iN i)), (10, (.p 4 0)), (29, (iN i)), (28, (iN n_g)), (27, (sS (some q16) n_g c_g)), (8, (.fn (.func 40) [(.v (.pointer (some (⟨bk8, 0, none⟩ : Addr)))), (.v (.pointer (some (⟨bk12, 0, none⟩ : Addr))))])), (7, (.v (.pointer (some (⟨bk12, 0, none⟩ : Addr))))), (5, (.v (.pointer (some (⟨bk, 0, none⟩ : Addr))))), (2, (.p 0 0))], [], 5, [], [(4, bk28, (.cells 34 [(tS x19), (sS A24 n25 c26)])), (0, bk2, (.cells 24 [(sS (some q16) n_g c_g)]))]⟩ _
  obtain ⟨Gd, hbd, hdb, hT⟩ := Tell.more hTx hle30 hnew29 hbk28
  have hz : FZ Gd [(4, bk28, (.cells 34 [(tS x19), (sS A24 n25 c26)])), (0, bk2, (.cells 24 [(sS (some q16) n_g c_g)]))] := FZ.cons (h := 4) hdb rfl (FZ.cons (h := 0) (hbd _ _ (hxz _ _ hbk2)) rfl (FZ.nil _))
  have hfzb : Gd bk28 ≠ none := fun e => by (rw [hdb] at e; cases e)
  have hfzd : Gd bk2 ≠ none := fun e => by (rw [hbd _ _ (hxz _ _ hbk2)] at e; cases e)
  refine WC_drawG mixed Gd ?_
  refine WD_takeL htb rfl (fun _ _ _ _ _ h => h) hT.le [0, 1, 2, 3, 18, 19] (fuel := 15) (listed' := bts 21 786447) (S' := ⟨[(53, (tS x19)), (52, (.p 4 0)), (37, (tS x19)), (36, (.p 4 0)), (35, (.v (.pointer (some (⟨bk, 0, none⟩ : Addr))))), (34, (.fn (.func 40) [(.v (.pointer (some (⟨bk8, 0, none⟩ : Addr)))), (.v (.pointer (some (⟨bk12, 0, none⟩ : Addr))))])), (9, (iN i)), (10, (.p 4 0)), (29, (iN i)), (28, (iN n_g)), (27, (sS (some q16) n_g c_g)), (8, (.fn (.func 40) [(.v (.pointer (some (⟨bk8, 0, none⟩ : Addr)))), (.v (.pointer (some (⟨bk12, 0, none⟩ : Addr))))])), (7, (.v (.pointer (some (⟨bk12, 0, none⟩ : Addr))))), (5, (.v (.pointer (some (⟨bk, 0, none⟩ : Addr))))), (2, (.p 0 0))], [], 5, [], [(4, bk28, (.cells 34 [(tS x19), (sS A24 n25 c26)])), (0, bk2, (.cells 24 [(sS (some q16) n_g c_g)]))]⟩) hz (by kernel_rfl) rfl ?_
  refine WD_one 4 (by rfl) (by decide +kernel) (WOp_call 41 [(.v (.pointer (some (⟨bk, 0, none⟩ : Addr)))), (tS x19)] (by kernel_rfl) (goes_of Try.func41 rfl rfl) (fun ρ w hW => isToken_ok hW.has (hB.mono hleb) (s := x19)) ?_)
  intro G702 v hle hΦ
  replace hleb := Le.trans hleb hle
  replace hT := hT.mono hle
  subst hΦ
  refine WD_on hT.le ?_
  refine WD_takeL htb rfl (fun _ _ _ _ _ h => h) hT.le [5] (fuel := 13) (listed' := bts 21 786495) (S' := ⟨[(39, (bB (hasB tk x19))), (38, (bB (hasB tk x19))), (53, (tS x19)), (52, (.p 4 0)), (37, (tS x19)), (36, (.p 4 0)), (35, (.v (.pointer (some (⟨bk, 0, none⟩ : Addr))))), (34, (.fn (.func 40) [(.v (.pointer (some (⟨bk8, 0, none⟩ : Addr)))), (.v (.pointer (some (⟨bk12, 0, none⟩ : Addr))))])), (9, (iN i)), (10, (.p 4 0)), (29, (iN i)), (28, (iN n_g)), (27, (sS (some q16) n_g c_g)), (8, (.fn (.func 40) [(.v (.pointer (some (⟨bk8, 0, none⟩ : Addr)))), (.v (.pointer (some (⟨bk12, 0, none⟩ : Addr))))])), (7, (.v (.pointer (some (⟨bk12, 0, none⟩ : Addr))))), (5, (.v (.pointer (some (⟨bk, 0, none⟩ : Addr))))), (2, (.p 0 0))], [], 5, [], [(4, bk28, (.cells 34 [(tS x19), (sS A24 n25 c26)])), (0, bk2, (.cells 24 [(sS (some q16) n_g c_g)]))]⟩) hz (by kernel_rfl) rfl ?_
  refine WK_split 39 (hasB tk x19) rfl (fun hh => ?_) (fun hh => ?_)
  ·
   skip
   refine WK_keep [39, 38, 53, 52, 37, 36, 35, 34, 9, 10, 29, 28, 27, 8, 7, 5, 2] [] rfl rfl ?_
   refine WD_takeL htb rfl (fun _ _ _ _ _ h => h) hT.le [6, 7, 8, 9, 10, 11, 12, 13, 14, 15, 16, 17] (fuel := 1) (listed' := bts 21 1048575) (S' := ⟨[(51, (bB true)), (50, (.v (undef))), (49, (.v (undef))), (48, (.v (undef))), (47, (.v (undef))), (46, (.v (undef))), (45, (.v (undef))), (44, (.v (undef))), (43, (.v (undef))), (42, (.v (undef))), (41, (.v (undef))), (40, (.v (undef))), (39, (bB true)), (38, (bB (hasB tk x19))), (53, (tS x19)), (52, (.p 4 0)), (37, (tS x19)), (36, (.p 4 0)), (35, (.v (.pointer (some (⟨bk, 0, none⟩ : Addr))))), (34, (.fn (.func 40) [(.v (.pointer (some (⟨bk8, 0, none⟩ : Addr)))), (.v (.pointer (some (⟨bk12, 0, none⟩ : Addr))))])), (9, (iN i)), (10, (.p 4 0)), (29, (iN i)), (28, (iN n_g)), (27, (sS (some q16) n_g c_g)), (8, (.fn (.func 40) [(.v (.pointer (some (⟨bk8, 0, none⟩ : Addr)))), (.v (.pointer (some (⟨bk12, 0, none⟩ : Addr))))])), (7, (.v (.pointer (some (⟨bk12, 0, none⟩ : Addr))))), (5, (.v (.pointer (some (⟨bk, 0, none⟩ : Addr))))), (2, (.p 0 0))], [], 5, [], [(4, bk28, (.cells 34 [(tS x19), (sS A24 n25 c26)])), (0, bk2, (.cells 24 [(sS (some q16) n_g c_g)]))]⟩) hz (by kernel_rfl) rfl ?_
   refine WD_one 20 (by rfl) (by decide +kernel) (WOp_callG 40 [(bB true), (iI 1), (tS x19), (.v (.pointer (some (⟨bk8, 0, none⟩ : Addr)))), (.v (.pointer (some (⟨bk12, 0, none⟩ : Addr))))] (by kernel_rfl) (goes_of Try.func40 rfl rfl) (Le.trans hle0 hbd) hT.le (fun b h => h) (fun p hp => by (rcases List.mem_cons.1 hp with rfl | hp; exact hfzb; rcases List.mem_cons.1 hp with rfl | hp; exact hfzd; cases hp)) (fun ρ w hW => tell_ok hW.has (hc6.mono hbd) hT (by omega) (by omega) hn20) (fun G31 v hlen hΦn => (WD_on hlen ?_)))
   obtain ⟨z', bl', cap', arr', hT⟩ := hΦn
   have hleb := Le.trans (hbd) hT.le
   refine WD_done (by decide +kernel) ?_
   refine WK_keep [29, 28, 27, 8, 7, 5, 2] [] rfl rfl ?_
   refine WQ_blk ?_
   refine WQ_code ?_
   refine WC_region ?_
   refine WL_execS htb 2 [29, 28, 27, 8, 7, 5, 2] [] ⟨[(29, (iI (IntKind.i64.wrap (((i : Nat) : Int) + 1)))), (28, (iN n_g)), (27, (sS (some q16) n_g c_g)), (8, (.fn (.func 40) [(.v (.pointer (some (⟨bk8, 0, none⟩ : Addr)))), (.v (.pointer (some (⟨bk12, 0, none⟩ : Addr))))])), (7, (.v (.pointer (some (⟨bk12, 0, none⟩ : Addr))))), (5, (.v (.pointer (some (⟨bk, 0, none⟩ : Addr))))), (2, (.p 0 0))], [], 5, [], [(4, bk28, (.cells 34 [(tS x19), (sS A24 n25 c26)])), (0, bk2, (.cells 24 [(sS (some q16) n_g c_g)]))]⟩ (by kernel_rfl) ?_
   refine WL_nil ?_
   refine WK_env [(29, (iN (i + 1))), (28, (iN n_g)), (27, (sS (some q16) n_g c_g)), (8, (.fn (.func 40) [(.v (.pointer (some (⟨bk8, 0, none⟩ : Addr)))), (.v (.pointer (some (⟨bk12, 0, none⟩ : Addr))))])), (7, (.v (.pointer (some (⟨bk12, 0, none⟩ : Addr))))), (5, (.v (.pointer (some (⟨bk, 0, none⟩ : Addr))))), (2, (.p 0 0))] (fun ρ => ⟨rfl, (congrArg (Value.int .i64) (by rw [wrap_id (by omega)]; first | rfl | omega)), ⟨rfl, rfl, ⟨rfl, rfl, ⟨rfl, rfl, ⟨rfl, rfl, ⟨rfl, rfl, ⟨rfl, rfl, trivial⟩⟩⟩⟩⟩⟩⟩) ?_
   refine WK_keep [29, 28, 27, 8, 7, 5, 2] [] rfl rfl ?_
   refine WK_dropfz 1 ?_
   show WK _ _ ⟨_, _, _, _, [(0, bk2, (.cells 24 [(sS (some q16) n_g c_g)]))]⟩ _
   exact WQ_next ((i + 1), _, _, _, _) (by show n_g - (i + 1) < n_g - i; omega) ⟨by omega, (by rw [tell_step (cand1_a hx17 hh)]; exact hT.weaken hbd)⟩ (fun ρ a w h => h)
  ·
   skip
   refine WK_keep [39, 38, 53, 52, 37, 36, 35, 34, 9, 10, 29, 28, 27, 8, 7, 5, 2] [] rfl rfl ?_
   obtain ⟨fr, hfr, hrs⟩ := hB.rul
   obtain ⟨Ai, ni, ci, hvi, hsi⟩ := book_get hrs x19
   have lhsi := hsi.len'
   have hip := idxS_pos hx17
   change 0 < (idxS g x19).length at hip
   refine WD_takeL htb rfl (fun _ _ _ _ _ h => h) hT.le [6, 7, 8, 10, 11, 15] (fuel := 7) (listed' := bts 21 822783) (S' := ⟨[(49, (iN i)), (45, (tS x19)), (44, (.p 4 0)), (42, (.v (.pointer (some ((⟨bk, 0, none⟩ : Addr).add 2))))), (41, (.v (.pointer (some (⟨bk, 0, none⟩ : Addr))))), (40, (.v (.pointer (some (⟨bk, 0, none⟩ : Addr))))), (39, (bB false)), (38, (bB (hasB tk x19))), (53, (tS x19)), (52, (.p 4 0)), (37, (tS x19)), (36, (.p 4 0)), (35, (.v (.pointer (some (⟨bk, 0, none⟩ : Addr))))), (34, (.fn (.func 40) [(.v (.pointer (some (⟨bk8, 0, none⟩ : Addr)))), (.v (.pointer (some (⟨bk12, 0, none⟩ : Addr))))])), (9, (iN i)), (10, (.p 4 0)), (29, (iN i)), (28, (iN n_g)), (27, (sS (some q16) n_g c_g)), (8, (.fn (.func 40) [(.v (.pointer (some (⟨bk8, 0, none⟩ : Addr)))), (.v (.pointer (some (⟨bk12, 0, none⟩ : Addr))))])), (7, (.v (.pointer (some (⟨bk12, 0, none⟩ : Addr))))), (5, (.v (.pointer (some (⟨bk, 0, none⟩ : Addr))))), (2, (.p 0 0))], [], 5, [], [(4, bk28, (.cells 34 [(tS x19), (sS A24 n25 c26)])), (0, bk2, (.cells 24 [(sS (some q16) n_g c_g)]))]⟩) hz (by kernel_rfl) rfl ?_
   refine WD_ld htb 9 (by rfl) rfl (by decide +kernel) (fun _ _ _ _ _ h => h) hT.le ((⟨bk, 0, none⟩ : Addr).add 2) false 1 [.map (some m2)] (by kernel_rfl) ((hB.at'.field 2 rfl).mono hbd) rfl (by decide) ?_
   refine WD_one 12 (by rfl) (by decide +kernel) (WOp_look htb m2 (tS x19) false 9 (.slice none 0 0) (by kernel_rfl) (keyEnc_str (kt := 9) (by kernel_rfl)) x19 (fun ρ => rfl) (hfr.mono (Le.trans hbd hT.le)) (v := (.slice Ai ni ci)) hvi (is := ((fr x19).isSome)) rfl (WD_on hT.le ?_))
   show WD _ _ _ _ _ _ _ _ _ ⟨[(46, (sS Ai ni ci)), (43, (.v (.map (some m2)))), (49, (iN i)), (45, (tS x19)), (44, (.p 4 0)), (42, (.v (.pointer (some ((⟨bk, 0, none⟩ : Addr).add 2))))), (41, (.v (.pointer (some (⟨bk, 0, none⟩ : Addr))))), (40, (.v (.pointer (some (⟨bk, 0, none⟩ : Addr))))), (39, (bB false)), (38, (bB (hasB tk x19))), (53, (tS x19)), (52, (.p 4 0)), (37, (tS x19)), (36, (.p 4 0)), (35, (.v (.pointer (some (⟨bk, 0, none⟩ : Addr))))), (34, (.fn (.func 40) [(.v (.pointer (some (⟨bk8, 0, none⟩ : Addr)))), (.v (.pointer (some (⟨bk12, 0, none⟩ : Addr))))])), (9, (iN i)), (10, (.p 4 0)), (29, (iN i)), (28, (iN n_g)), (27, (sS (some q16) n_g c_g)), (8, (.fn (.func 40) [(.v (.pointer (some (⟨bk8, 0, none⟩ : Addr)))), (.v (.pointer (some (⟨bk12, 0, none⟩ : Addr))))])), (7, (.v (.pointer (some (⟨bk12, 0, none⟩ : Addr))))), (5, (.v (.pointer (some (⟨bk, 0, none⟩ : Addr))))), (2, (.p 0 0))], [], 5, [], [(4, bk28, (.cells 34 [(tS x19), (sS A24 n25 c26)])), (0, bk2, (.cells 24 [(sS (some q16) n_g c_g)]))]⟩
   obtain ⟨q31, rfl⟩ := hsi.ptr (by omega)
   obtain ⟨x34, _, hx32, ⟨rfl, hn35⟩, at33⟩ := hsi.get 0 (by omega)
   have bdhn35 : -9223372036854775808 ≤ x34 ∧ x34 ≤ 9223372036854775807 := bd_of hn35
   replace at33 : At Gb (q31.add (0 * 1)) [.int .i64 x34] := at33
   refine WD_idx htb 13 (by rfl) rfl (by decide +kernel) (fun _ _ _ _ _ h => h) hT.le q31 ni 0 1 (by kernel_rfl) (by omega) (by omega) ?_
   refine WD_ld htb 14 (by rfl) rfl (by decide +kernel) (fun _ _ _ _ _ h => h) hT.le (q31.add (0 * 1)) false 1 [.int .i64 x34] (by kernel_rfl) (at33.mono hbd) rfl (by decide) ?_
   refine WD_takeL htb rfl (fun _ _ _ _ _ h => h) hT.le [16, 17] (fuel := 1) (listed' := bts 21 1048575) (S' := ⟨[(51, (bB (decide ((x34 : Int) < ((i : Nat) : Int))))), (50, (bB (decide ((x34 : Int) < ((i : Nat) : Int))))), (48, (iI x34)), (47, (.v (.pointer (some (q31.add (0 * 1)))))), (46, (sS (some q31) ni ci)), (43, (.v (.map (some m2)))), (49, (iN i)), (45, (tS x19)), (44, (.p 4 0)), (42, (.v (.pointer (some ((⟨bk, 0, none⟩ : Addr).add 2))))), (41, (.v (.pointer (some (⟨bk, 0, none⟩ : Addr))))), (40, (.v (.pointer (some (⟨bk, 0, none⟩ : Addr))))), (39, (bB false)), (38, (bB (hasB tk x19))), (53, (tS x19)), (52, (.p 4 0)), (37, (tS x19)), (36, (.p 4 0)), (35, (.v (.pointer (some (⟨bk, 0, none⟩ : Addr))))), (34, (.fn (.func 40) [(.v (.pointer (some (⟨bk8, 0, none⟩ : Addr)))), (.v (.pointer (some (⟨bk12, 0, none⟩ : Addr))))])), (9, (iN i)), (10, (.p 4 0)), (29, (iN i)), (28, (iN n_g)), (27, (sS (some q16) n_g c_g)), (8, (.fn (.func 40) [(.v (.pointer (some (⟨bk8, 0, none⟩ : Addr)))), (.v (.pointer (some (⟨bk12, 0, none⟩ : Addr))))])), (7, (.v (.pointer (some (⟨bk12, 0, none⟩ : Addr))))), (5, (.v (.pointer (some (⟨bk, 0, none⟩ : Addr))))), (2, (.p 0 0))], [], 5, [], [(4, bk28, (.cells 34 [(tS x19), (sS A24 n25 c26)])), (0, bk2, (.cells 24 [(sS (some q16) n_g c_g)]))]⟩) hz (by kernel_rfl) rfl ?_
   refine WD_one 20 (by rfl) (by decide +kernel) (WOp_callG 40 [(bB (decide ((x34 : Int) < ((i : Nat) : Int)))), (iI 1), (tS x19), (.v (.pointer (some (⟨bk8, 0, none⟩ : Addr)))), (.v (.pointer (some (⟨bk12, 0, none⟩ : Addr))))] (by kernel_rfl) (goes_of Try.func40 rfl rfl) (Le.trans hle0 hbd) hT.le (fun b h => h) (fun p hp => by (rcases List.mem_cons.1 hp with rfl | hp; exact hfzb; rcases List.mem_cons.1 hp with rfl | hp; exact hfzd; cases hp)) (fun ρ w hW => tell_ok hW.has (hc6.mono hbd) hT (by omega) (by omega) hn20) (fun G36 v hlen hΦn => (WD_on hlen ?_)))
   obtain ⟨z', bl', cap', arr', hT⟩ := hΦn
   have hleb := Le.trans (hbd) hT.le
   refine WD_done (by decide +kernel) ?_
   refine WK_keep [29, 28, 27, 8, 7, 5, 2] [] rfl rfl ?_
   refine WQ_blk ?_
   refine WQ_code ?_
   refine WC_region ?_
   refine WL_execS htb 2 [29, 28, 27, 8, 7, 5, 2] [] ⟨[(29, (iI (IntKind.i64.wrap (((i : Nat) : Int) + 1)))), (28, (iN n_g)), (27, (sS (some q16) n_g c_g)), (8, (.fn (.func 40) [(.v (.pointer (some (⟨bk8, 0, none⟩ : Addr)))), (.v (.pointer (some (⟨bk12, 0, none⟩ : Addr))))])), (7, (.v (.pointer (some (⟨bk12, 0, none⟩ : Addr))))), (5, (.v (.pointer (some (⟨bk, 0, none⟩ : Addr))))), (2, (.p 0 0))], [], 5, [], [(4, bk28, (.cells 34 [(tS x19), (sS A24 n25 c26)])), (0, bk2, (.cells 24 [(sS (some q16) n_g c_g)]))]⟩ (by kernel_rfl) ?_
   refine WL_nil ?_
   refine WK_env [(29, (iN (i + 1))), (28, (iN n_g)), (27, (sS (some q16) n_g c_g)), (8, (.fn (.func 40) [(.v (.pointer (some (⟨bk8, 0, none⟩ : Addr)))), (.v (.pointer (some (⟨bk12, 0, none⟩ : Addr))))])), (7, (.v (.pointer (some (⟨bk12, 0, none⟩ : Addr))))), (5, (.v (.pointer (some (⟨bk, 0, none⟩ : Addr))))), (2, (.p 0 0))] (fun ρ => ⟨rfl, (congrArg (Value.int .i64) (by rw [wrap_id (by omega)]; first | rfl | omega)), ⟨rfl, rfl, ⟨rfl, rfl, ⟨rfl, rfl, ⟨rfl, rfl, ⟨rfl, rfl, ⟨rfl, rfl, trivial⟩⟩⟩⟩⟩⟩⟩) ?_
   refine WK_keep [29, 28, 27, 8, 7, 5, 2] [] rfl rfl ?_
   refine WK_dropfz 1 ?_
   show WK _ _ ⟨_, _, _, _, [(0, bk2, (.cells 24 [(sS (some q16) n_g c_g)]))]⟩ _
   exact WQ_next ((i + 1), _, _, _, _) (by show n_g - (i + 1) < n_g - i; omega) ⟨by omega, (by rw [tell_step (cand1_b hx17 hh hx32)]; exact hT.weaken hbd)⟩ (fun ρ a w h => h)
 ·
  replace hc := of_decide_eq_false hc
  rw [List.take_of_length_le (by rw [cand1_len]; omega), List.nil_append] at hT
  refine WC_exit ?_
  refine WQ_then_exit ?_
  refine WQ_then_exit ?_
  refine WQ_hit ?_
  refine WQ_code ?_
  refine WC_seq ?_
  refine WC_seq (WC_region ?_)
  refine WL_execS htb 4 [59, 58, 57, 8, 7, 5, 2] [] ⟨[(59, (iI 0)), (58, (iN n_g)), (57, (sS A_g n_g c_g)), (8, (.fn (.func 40) [(.v (.pointer (some (⟨bk8, 0, none⟩ : Addr)))), (.v (.pointer (some (⟨bk12, 0, none⟩ : Addr))))])), (7, (.v (.pointer (some (⟨bk12, 0, none⟩ : Addr))))), (5, (.v (.pointer (some (⟨bk, 0, none⟩ : Addr))))), (2, (.p 0 0))], [], 4, [], [(0, bk2, (.cells 24 [(sS A_g n_g c_g)]))]⟩ (by kernel_rfl) ?_
  refine WL_nil ?_
  refine WQ_code ?_
  refine WC_block ?_
  refine WK_keep [59, 58, 57, 8, 7, 5, 2] [] rfl rfl ?_
  refine WK_env [(59, (iN 0)), (58, (iN n_g)), (57, (sS A_g n_g c_g)), (8, (.fn (.func 40) [(.v (.pointer (some (⟨bk8, 0, none⟩ : Addr)))), (.v (.pointer (some (⟨bk12, 0, none⟩ : Addr))))])), (7, (.v (.pointer (some (⟨bk12, 0, none⟩ : Addr))))), (5, (.v (.pointer (some (⟨bk, 0, none⟩ : Addr))))), (2, (.p 0 0))] (fun ρ => ⟨rfl, rfl, ⟨rfl, rfl, ⟨rfl, rfl, ⟨rfl, rfl, ⟨rfl, rfl, ⟨rfl, rfl, ⟨rfl, rfl, trivial⟩⟩⟩⟩⟩⟩⟩) ?_
  refine WC_loop (ι := Nat × Bool × Nat × Nat × Array Value) (fun (r, z, bl, cap, arr) G16 => r ≤ n_g ∧ Tell Gb G16 bk4 bk12 (tellL (cand1 g tk ++ cand2N g tk (allNames (g.take r)))) z bl cap arr) (fun (r, z, bl, cap, arr) => ⟨[(59, (iN r)), (58, (iN n_g)), (57, (sS A_g n_g c_g)), (8, (.fn (.func 40) [(.v (.pointer (some (⟨bk8, 0, none⟩ : Addr)))), (.v (.pointer (some (⟨bk12, 0, none⟩ : Addr))))])), (7, (.v (.pointer (some (⟨bk12, 0, none⟩ : Addr))))), (5, (.v (.pointer (some (⟨bk, 0, none⟩ : Addr))))), (2, (.p 0 0))], [], 4, [], [(0, bk2, (.cells 24 [(sS A_g n_g c_g)]))]⟩) (fun (r, z, bl, cap, arr) => n_g - r) (0, _, _, _, _) ⟨Nat.zero_le _, (by rw [List.take_zero]; show Tell _ _ _ _ (tellL (_ ++ [])) _ _ _ _; rw [List.append_nil]; exact hT)⟩ rfl ?_
  rintro ⟨r, z, bl, cap, arr⟩ G16 hF
  show WC _ _ _ _ _ ⟨[(59, (iN r)), (58, (iN n_g)), (57, (sS A_g n_g c_g)), (8, (.fn (.func 40) [(.v (.pointer (some (⟨bk8, 0, none⟩ : Addr)))), (.v (.pointer (some (⟨bk12, 0, none⟩ : Addr))))])), (7, (.v (.pointer (some (⟨bk12, 0, none⟩ : Addr))))), (5, (.v (.pointer (some (⟨bk, 0, none⟩ : Addr))))), (2, (.p 0 0))], [], 4, [], [(0, bk2, (.cells 24 [(sS A_g n_g c_g)]))]⟩ _
  obtain ⟨hr, hT⟩ := hF
  have hleb := hT.le
  have han := allNames_take_len g r
  refine WC_seq (WC_region ?_)
  refine WL_execS htb 1 [60, 59, 58, 57, 8, 7, 5, 2] [] ⟨[(60, (bB (decide ((((r : Nat) : Int) : Int) < ((n_g : Nat) : Int))))), (59, (iN r)), (58, (iN n_g)), (57, (sS A_g n_g c_g)), (8, (.fn (.func 40) [(.v (.pointer (some (⟨bk8, 0, none⟩ : Addr)))), (.v (.pointer (some (⟨bk12, 0, none⟩ : Addr))))])), (7, (.v (.pointer (some (⟨bk12, 0, none⟩ : Addr))))), (5, (.v (.pointer (some (⟨bk, 0, none⟩ : Addr))))), (2, (.p 0 0))], [], 4, [], [(0, bk2, (.cells 24 [(sS A_g n_g c_g)]))]⟩ (by kernel_rfl) ?_
  refine WL_nil ?_
  refine WQ_code ?_
  refine WC_seq ?_
  refine WC_cond (b := (decide ((((r : Nat) : Int) : Int) < ((n_g : Nat) : Int)))) rfl (fun hc => ?_) (fun hc => ?_)
  ·
   replace hc := of_decide_eq_true hc
   refine WC_skip ?_
   refine WQ_code ?_
   refine WC_seq ?_
   refine WC_block ?_
   refine WC_seq (WC_region ?_)
   obtain ⟨q17, rfl⟩ := h_g.ptr (by omega)
   obtain ⟨⟨x20, x22⟩, _, hx18, ⟨_, _, rfl, ⟨rfl, hn21⟩, hr23⟩, at19⟩ := h_g.get r (by omega)
   obtain ⟨A25, n26, c27, rfl, hs24⟩ := Sl.of hr23
   replace hs24 : Sl (tSlice tStr) _ A25 n26 c27 x22 := hs24
   have lhs24 := hs24.len'
   replace at19 : At Gb (q17.add (r * 2)) [.string x20, .slice A25 n26 c27] := at19
   have hfl : x22.flatten.length ≤ (allNames g).length := flat_le_all (List.mem_of_getElem? hx18)
   refine WL_op (WOp_idx htb q17 n_g ((r : Nat) : Int) 2 (by kernel_rfl) (by omega) (by omega) ?_)
   refine WL_op (WOp_ld htb (q17.add (r * 2)) true 2 [.string x20, .slice A25 n26 c27] (by kernel_rfl) (at19.mono hleb) rfl (by decide) ?_)
   refine WL_execS htb 2 [12, 59, 58, 57, 8, 7, 5, 2] [4] ⟨[(12, (.p 4 0)), (59, (iN r)), (58, (iN n_g)), (57, (sS (some q17) n_g c_g)), (8, (.fn (.func 40) [(.v (.pointer (some (⟨bk8, 0, none⟩ : Addr)))), (.v (.pointer (some (⟨bk12, 0, none⟩ : Addr))))])), (7, (.v (.pointer (some (⟨bk12, 0, none⟩ : Addr))))), (5, (.v (.pointer (some (⟨bk, 0, none⟩ : Addr))))), (2, (.p 0 0))], [(4, (.cells 34 [(tS x20), (sS A25 n26 c27)]))], 5, [], [(0, bk2, (.cells 24 [(sS (some q17) n_g c_g)]))]⟩ (by kernel_rfl) ?_
   refine WL_nil ?_
   refine WQ_code ?_
   refine WC_seq (WC_region ?_)
   refine WL_execS htb 2 [64, 59, 58, 57, 8, 7, 5, 2] [] ⟨[(64, (sS A25 n26 c27)), (59, (iN r)), (58, (iN n_g)), (57, (sS (some q17) n_g c_g)), (8, (.fn (.func 40) [(.v (.pointer (some (⟨bk8, 0, none⟩ : Addr)))), (.v (.pointer (some (⟨bk12, 0, none⟩ : Addr))))])), (7, (.v (.pointer (some (⟨bk12, 0, none⟩ : Addr))))), (5, (.v (.pointer (some (⟨bk, 0, none⟩ : Addr))))), (2, (.p 0 0))], [], 5, [], [(0, bk2, (.cells 24 [(sS (some q17) n_g c_g)]))]⟩ (by kernel_rfl) ?_
   refine WL_op (WOp_callW 42 [(sS A25 n26 c27)] (by kernel_rfl) (goes_of Try.func42 rfl rfl) hT.le (fun ρ w hW hb => concat_ok hb (xss := x22) hs24 (by omega)) (fun H29 G28 v hb2 hl1 hl2 h4 hΦ => ?_))
   obtain ⟨Ar, nr0, cr, rfl, hr0, _⟩ := hΦ
   replace hT := hT.callW hl1 hl2 h4
   have hleb := hT.le
   have hGb := hb2
   have h_g := h_g.mono hb2
   have hB := hB.mono hb2
   have hs24 := hs24.mono hb2
   have at19 := at19.mono hb2
   have hc6 := hc6.mono hb2
   have hfz : H29 bk2 ≠ none := fun e => hfz (by (cases e2 : Gb bk2 with | none => rfl | some o => (rw [hb2 _ _ e2] at e; cases e)))
   have hle0 := Le.trans hle0 hb2
   have lhr0 := hr0.len'
   show WL _ _ _ _ _ _ ⟨[(65, (sS Ar nr0 cr)), (64, (sS A25 n26 c27)), (59, (iN r)), (58, (iN n_g)), (57, (sS (some q17) n_g c_g)), (8, (.fn (.func 40) [(.v (.pointer (some (⟨bk8, 0, none⟩ : Addr)))), (.v (.pointer (some (⟨bk12, 0, none⟩ : Addr))))])), (7, (.v (.pointer (some (⟨bk12, 0, none⟩ : Addr))))), (5, (.v (.pointer (some (⟨bk, 0, none⟩ : Addr))))), (2, (.p 0 0))], [], 5, [], [(0, bk2, (.cells 24 [(sS (some q17) n_g c_g)]))]⟩ _
   refine WL_execS htb 2 [67, 66, 65, 59, 58, 57, 8, 7, 5, 2] [] ⟨[(67, (iI 0)), (66, (iN nr0)), (65, (sS Ar nr0 cr)), (59, (iN r)), (58, (iN n_g)), (57, (sS (some q17) n_g c_g)), (8, (.fn (.func 40) [(.v (.pointer (some (⟨bk8, 0, none⟩ : Addr)))), (.v (.pointer (some (⟨bk12, 0, none⟩ : Addr))))])), (7, (.v (.pointer (some (⟨bk12, 0, none⟩ : Addr))))), (5, (.v (.pointer (some (⟨bk, 0, none⟩ : Addr))))), (2, (.p 0 0))], [], 5, [], [(0, bk2, (.cells 24 [(sS (some q17) n_g c_g)]))]⟩ (by kernel_rfl) ?_
   refine WL_nil ?_
   refine WQ_code ?_
   refine WC_block ?_
   refine WK_keep [67, 66, 65, 59, 58, 57, 8, 7, 5, 2] [] rfl rfl ?_
   refine WK_env [(67, (iN 0)), (66, (iN nr0)), (65, (sS Ar nr0 cr)), (59, (iN r)), (58, (iN n_g)), (57, (sS (some q17) n_g c_g)), (8, (.fn (.func 40) [(.v (.pointer (some (⟨bk8, 0, none⟩ : Addr)))), (.v (.pointer (some (⟨bk12, 0, none⟩ : Addr))))])), (7, (.v (.pointer (some (⟨bk12, 0, none⟩ : Addr))))), (5, (.v (.pointer (some (⟨bk, 0, none⟩ : Addr))))), (2, (.p 0 0))] (fun ρ => ⟨rfl, rfl, ⟨rfl, rfl, ⟨rfl, rfl, ⟨rfl, rfl, ⟨rfl, rfl, ⟨rfl, rfl, ⟨rfl, rfl, ⟨rfl, rfl, ⟨rfl, rfl, ⟨rfl, rfl, trivial⟩⟩⟩⟩⟩⟩⟩⟩⟩⟩) ?_
   refine WC_loop (ι := Nat × Bool × Nat × Nat × Array Value) (fun (l, z, bl, cap, arr) G30 => l ≤ nr0 ∧ Tell H29 G30 bk4 bk12 (tellL ((cand1 g tk ++ cand2N g tk (allNames (g.take r))) ++ ((cand2N g tk x22.flatten)).take l)) z bl cap arr) (fun (l, z, bl, cap, arr) => ⟨[(67, (iN l)), (66, (iN nr0)), (65, (sS Ar nr0 cr)), (59, (iN r)), (58, (iN n_g)), (57, (sS (some q17) n_g c_g)), (8, (.fn (.func 40) [(.v (.pointer (some (⟨bk8, 0, none⟩ : Addr)))), (.v (.pointer (some (⟨bk12, 0, none⟩ : Addr))))])), (7, (.v (.pointer (some (⟨bk12, 0, none⟩ : Addr))))), (5, (.v (.pointer (some (⟨bk, 0, none⟩ : Addr))))), (2, (.p 0 0))], [], 5, [], [(0, bk2, (.cells 24 [(sS (some q17) n_g c_g)]))]⟩) (fun (l, z, bl, cap, arr) => nr0 - l) (0, _, _, _, _) ⟨Nat.zero_le _, (by rw [List.take_zero, List.append_nil]; exact hT)⟩ rfl ?_
   rintro ⟨l, z, bl, cap, arr⟩ G30 hF
   show WC _ _ _ _ _ ⟨[(67, (iN l)), (66, (iN nr0)), (65, (sS Ar nr0 cr)), (59, (iN r)), (58, (iN n_g)), (57, (sS (some q17) n_g c_g)), (8, (.fn (.func 40) [(.v (.pointer (some (⟨bk8, 0, none⟩ : Addr)))), (.v (.pointer (some (⟨bk12, 0, none⟩ : Addr))))])), (7, (.v (.pointer (some (⟨bk12, 0, none⟩ : Addr))))), (5, (.v (.pointer (some (⟨bk, 0, none⟩ : Addr))))), (2, (.p 0 0))], [], 5, [], [(0, bk2, (.cells 24 [(sS (some q17) n_g c_g)]))]⟩ _
   obtain ⟨hl, hT⟩ := hF
   have hleb := hT.le
   have hol : (tellL ((cand1 g tk ++ cand2N g tk (allNames (g.take r))) ++ ((cand2N g tk x22.flatten)).take l)).length ≤ 1000000 := Nat.le_trans (tellL_len _) (by simp only [List.length_append, List.length_take, List.length_nil, cand1_len, cand2N_len, cand3_len, cand4_len]; omega)
   refine WC_seq (WC_region ?_)
   refine WL_execS htb 1 [68, 67, 66, 65, 59, 58, 57, 8, 7, 5, 2] [] ⟨[(68, (bB (decide ((((l : Nat) : Int) : Int) < ((nr0 : Nat) : Int))))), (67, (iN l)), (66, (iN nr0)), (65, (sS Ar nr0 cr)), (59, (iN r)), (58, (iN n_g)), (57, (sS (some q17) n_g c_g)), (8, (.fn (.func 40) [(.v (.pointer (some (⟨bk8, 0, none⟩ : Addr)))), (.v (.pointer (some (⟨bk12, 0, none⟩ : Addr))))])), (7, (.v (.pointer (some (⟨bk12, 0, none⟩ : Addr))))), (5, (.v (.pointer (some (⟨bk, 0, none⟩ : Addr))))), (2, (.p 0 0))], [], 5, [], [(0, bk2, (.cells 24 [(sS (some q17) n_g c_g)]))]⟩ (by kernel_rfl) ?_
   refine WL_nil ?_
   refine WQ_code ?_
   refine WC_seq ?_
   refine WC_cond (b := (decide ((((l : Nat) : Int) : Int) < ((nr0 : Nat) : Int)))) rfl (fun hcl => ?_) (fun hcl => ?_)
   ·
    replace hcl := of_decide_eq_true hcl
    refine WC_skip ?_
    refine WQ_code ?_
    refine WC_seq ?_
    refine WC_block ?_
    refine WC_seq (WC_region ?_)
    obtain ⟨q31, rfl⟩ := hr0.ptr (by omega)
    obtain ⟨x34, _, hx32, ⟨rfl, hn35⟩, at33⟩ := hr0.get l (by omega)
    replace at33 : At H29 (q31.add (l * 1)) [.string x34] := at33
    refine WL_op (WOp_idx htb q31 nr0 ((l : Nat) : Int) 1 (by kernel_rfl) (by omega) (by omega) ?_)
    refine WL_op (WOp_ld htb (q31.add (l * 1)) false 1 [.string x34] (by kernel_rfl) (at33.mono hleb) rfl (by decide) ?_)
    refine WL_execS htb 1 [14, 67, 66, 65, 59, 58, 57, 8, 7, 5, 2] [] ⟨[(14, (tS x34)), (67, (iN l)), (66, (iN nr0)), (65, (sS (some q31) nr0 cr)), (59, (iN r)), (58, (iN n_g)), (57, (sS (some q17) n_g c_g)), (8, (.fn (.func 40) [(.v (.pointer (some (⟨bk8, 0, none⟩ : Addr)))), (.v (.pointer (some (⟨bk12, 0, none⟩ : Addr))))])), (7, (.v (.pointer (some (⟨bk12, 0, none⟩ : Addr))))), (5, (.v (.pointer (some (⟨bk, 0, none⟩ : Addr))))), (2, (.p 0 0))], [], 5, [], [(0, bk2, (.cells 24 [(sS (some q17) n_g c_g)]))]⟩ (by kernel_rfl) ?_
    refine WL_nil ?_
    refine WQ_code ?_
    refine WC_region ?_
    refine WL_execS htb 3 [73, 72, 71, 14, 67, 66, 65, 59, 58, 57, 8, 7, 5, 2] [] ⟨[(73, (tS x34)), (72, (.v (.pointer (some (⟨bk, 0, none⟩ : Addr))))), (71, (.fn (.func 40) [(.v (.pointer (some (⟨bk8, 0, none⟩ : Addr)))), (.v (.pointer (some (⟨bk12, 0, none⟩ : Addr))))])), (14, (tS x34)), (67, (iN l)), (66, (iN nr0)), (65, (sS (some q31) nr0 cr)), (59, (iN r)), (58, (iN n_g)), (57, (sS (some q17) n_g c_g)), (8, (.fn (.func 40) [(.v (.pointer (some (⟨bk8, 0, none⟩ : Addr)))), (.v (.pointer (some (⟨bk12, 0, none⟩ : Addr))))])), (7, (.v (.pointer (some (⟨bk12, 0, none⟩ : Addr))))), (5, (.v (.pointer (some (⟨bk, 0, none⟩ : Addr))))), (2, (.p 0 0))], [], 5, [], [(0, bk2, (.cells 24 [(sS (some q17) n_g c_g)]))]⟩ (by kernel_rfl) ?_
    refine WL_op (WOp_call 41 [(.v (.pointer (some (⟨bk, 0, none⟩ : Addr)))), (tS x34)] (by kernel_rfl) (goes_of Try.func41 rfl rfl) (fun ρ w hW => isToken_ok hW.has (hB.mono hleb) (s := x34)) ?_)
    intro G702 v hle hΦ
    replace hleb := Le.trans hleb hle
    replace hT := hT.mono hle
    subst hΦ
    refine WL_execS htb 2 [76, 71, 14, 67, 66, 65, 59, 58, 57, 8, 7, 5, 2] [] ⟨[(76, (bB (!(hasB tk x34)))), (71, (.fn (.func 40) [(.v (.pointer (some (⟨bk8, 0, none⟩ : Addr)))), (.v (.pointer (some (⟨bk12, 0, none⟩ : Addr))))])), (14, (tS x34)), (67, (iN l)), (66, (iN nr0)), (65, (sS (some q31) nr0 cr)), (59, (iN r)), (58, (iN n_g)), (57, (sS (some q17) n_g c_g)), (8, (.fn (.func 40) [(.v (.pointer (some (⟨bk8, 0, none⟩ : Addr)))), (.v (.pointer (some (⟨bk12, 0, none⟩ : Addr))))])), (7, (.v (.pointer (some (⟨bk12, 0, none⟩ : Addr))))), (5, (.v (.pointer (some (⟨bk, 0, none⟩ : Addr))))), (2, (.p 0 0))], [], 5, [], [(0, bk2, (.cells 24 [(sS (some q17) n_g c_g)]))]⟩ (by kernel_rfl) ?_
    refine WK_split 76 (!(hasB tk x34)) rfl (fun hh => ?_) (fun hh => ?_)
    ·
     rw [Bool.not_eq_true'] at hh
     refine WK_keep [76, 71, 14, 67, 66, 65, 59, 58, 57, 8, 7, 5, 2] [] rfl rfl ?_
     obtain ⟨fr, hfr, hrs⟩ := hB.rul
     obtain ⟨Ai, ni, ci, hvi, hsi⟩ := book_get hrs x34
     have lhsi := hsi.len'
     refine WL_execS htb 3 [79, 76, 71, 14, 67, 66, 65, 59, 58, 57, 8, 7, 5, 2] [] ⟨[(79, (.v (.pointer (some ((⟨bk, 0, none⟩ : Addr).add 2))))), (76, (bB true)), (71, (.fn (.func 40) [(.v (.pointer (some (⟨bk8, 0, none⟩ : Addr)))), (.v (.pointer (some (⟨bk12, 0, none⟩ : Addr))))])), (14, (tS x34)), (67, (iN l)), (66, (iN nr0)), (65, (sS (some q31) nr0 cr)), (59, (iN r)), (58, (iN n_g)), (57, (sS (some q17) n_g c_g)), (8, (.fn (.func 40) [(.v (.pointer (some (⟨bk8, 0, none⟩ : Addr)))), (.v (.pointer (some (⟨bk12, 0, none⟩ : Addr))))])), (7, (.v (.pointer (some (⟨bk12, 0, none⟩ : Addr))))), (5, (.v (.pointer (some (⟨bk, 0, none⟩ : Addr))))), (2, (.p 0 0))], [], 5, [], [(0, bk2, (.cells 24 [(sS (some q17) n_g c_g)]))]⟩ (by kernel_rfl) ?_
     refine WL_op (WOp_ld htb ((⟨bk, 0, none⟩ : Addr).add 2) false 1 [.map (some m2)] (by kernel_rfl) ((hB.at'.field 2 rfl).mono hleb) rfl (by decide) ?_)
     refine WL_execS htb 1 [81, 80, 76, 71, 14, 67, 66, 65, 59, 58, 57, 8, 7, 5, 2] [] ⟨[(81, (tS x34)), (80, (.v (.map (some m2)))), (76, (bB true)), (71, (.fn (.func 40) [(.v (.pointer (some (⟨bk8, 0, none⟩ : Addr)))), (.v (.pointer (some (⟨bk12, 0, none⟩ : Addr))))])), (14, (tS x34)), (67, (iN l)), (66, (iN nr0)), (65, (sS (some q31) nr0 cr)), (59, (iN r)), (58, (iN n_g)), (57, (sS (some q17) n_g c_g)), (8, (.fn (.func 40) [(.v (.pointer (some (⟨bk8, 0, none⟩ : Addr)))), (.v (.pointer (some (⟨bk12, 0, none⟩ : Addr))))])), (7, (.v (.pointer (some (⟨bk12, 0, none⟩ : Addr))))), (5, (.v (.pointer (some (⟨bk, 0, none⟩ : Addr))))), (2, (.p 0 0))], [], 5, [], [(0, bk2, (.cells 24 [(sS (some q17) n_g c_g)]))]⟩ (by kernel_rfl) ?_
     refine WL_op (WOp_look htb m2 (tS x34) false 9 (.slice none 0 0) (by kernel_rfl) (keyEnc_str (kt := 9) (by kernel_rfl)) x34 (fun ρ => rfl) (hfr.mono hleb) (v := (.slice Ai ni ci)) hvi (is := ((fr x34).isSome)) rfl ?_)
     show WL _ _ _ _ _ _ ⟨[(82, (sS Ai ni ci)), (81, (tS x34)), (80, (.v (.map (some m2)))), (76, (bB true)), (71, (.fn (.func 40) [(.v (.pointer (some (⟨bk8, 0, none⟩ : Addr)))), (.v (.pointer (some (⟨bk12, 0, none⟩ : Addr))))])), (14, (tS x34)), (67, (iN l)), (66, (iN nr0)), (65, (sS (some q31) nr0 cr)), (59, (iN r)), (58, (iN n_g)), (57, (sS (some q17) n_g c_g)), (8, (.fn (.func 40) [(.v (.pointer (some (⟨bk8, 0, none⟩ : Addr)))), (.v (.pointer (some (⟨bk12, 0, none⟩ : Addr))))])), (7, (.v (.pointer (some (⟨bk12, 0, none⟩ : Addr))))), (5, (.v (.pointer (some (⟨bk, 0, none⟩ : Addr))))), (2, (.p 0 0))], [], 5, [], [(0, bk2, (.cells 24 [(sS (some q17) n_g c_g)]))]⟩ _
     refine WL_execS htb 4 [86, 85, 71, 67, 66, 65, 59, 58, 57, 8, 7, 5, 2] [] ⟨[(86, (tS x34)), (85, (bB ((((ni : Nat) : Int) : Int) == 0))), (71, (.fn (.func 40) [(.v (.pointer (some (⟨bk8, 0, none⟩ : Addr)))), (.v (.pointer (some (⟨bk12, 0, none⟩ : Addr))))])), (67, (iN l)), (66, (iN nr0)), (65, (sS (some q31) nr0 cr)), (59, (iN r)), (58, (iN n_g)), (57, (sS (some q17) n_g c_g)), (8, (.fn (.func 40) [(.v (.pointer (some (⟨bk8, 0, none⟩ : Addr)))), (.v (.pointer (some (⟨bk12, 0, none⟩ : Addr))))])), (7, (.v (.pointer (some (⟨bk12, 0, none⟩ : Addr))))), (5, (.v (.pointer (some (⟨bk, 0, none⟩ : Addr))))), (2, (.p 0 0))], [], 5, [], [(0, bk2, (.cells 24 [(sS (some q17) n_g c_g)]))]⟩ (by kernel_rfl) ?_
     refine WL_op (WOp_callG 40 [(bB ((((ni : Nat) : Int) : Int) == 0)), (iI 2), (tS x34), (.v (.pointer (some (⟨bk8, 0, none⟩ : Addr)))), (.v (.pointer (some (⟨bk12, 0, none⟩ : Addr))))] (by kernel_rfl) (goes_of Try.func40 rfl rfl) hle0 hT.le (fun b h => h) (fun p hp => by (rcases List.mem_cons.1 hp with rfl | hp; exact hfz; cases hp)) (fun ρ w hW => tell_ok hW.has hc6 hT (by omega) (by omega) hn35) (fun G36 v hlen hΦn => ?_))
     obtain ⟨z', bl', cap', arr', hT⟩ := hΦn
     have hleb := Le.trans (Le.refl _) hT.le
     refine WL_nil ?_
     refine WQ_blk ?_
     refine WQ_code ?_
     refine WC_region ?_
     refine WL_execS htb 2 [67, 66, 65, 59, 58, 57, 8, 7, 5, 2] [] ⟨[(67, (iI (IntKind.i64.wrap (((l : Nat) : Int) + 1)))), (66, (iN nr0)), (65, (sS (some q31) nr0 cr)), (59, (iN r)), (58, (iN n_g)), (57, (sS (some q17) n_g c_g)), (8, (.fn (.func 40) [(.v (.pointer (some (⟨bk8, 0, none⟩ : Addr)))), (.v (.pointer (some (⟨bk12, 0, none⟩ : Addr))))])), (7, (.v (.pointer (some (⟨bk12, 0, none⟩ : Addr))))), (5, (.v (.pointer (some (⟨bk, 0, none⟩ : Addr))))), (2, (.p 0 0))], [], 5, [], [(0, bk2, (.cells 24 [(sS (some q17) n_g c_g)]))]⟩ (by kernel_rfl) ?_
     refine WL_nil ?_
     refine WK_env [(67, (iN (l + 1))), (66, (iN nr0)), (65, (sS (some q31) nr0 cr)), (59, (iN r)), (58, (iN n_g)), (57, (sS (some q17) n_g c_g)), (8, (.fn (.func 40) [(.v (.pointer (some (⟨bk8, 0, none⟩ : Addr)))), (.v (.pointer (some (⟨bk12, 0, none⟩ : Addr))))])), (7, (.v (.pointer (some (⟨bk12, 0, none⟩ : Addr))))), (5, (.v (.pointer (some (⟨bk, 0, none⟩ : Addr))))), (2, (.p 0 0))] (fun ρ => ⟨rfl, (congrArg (Value.int .i64) (by rw [wrap_id (by omega)]; first | rfl | omega)), ⟨rfl, rfl, ⟨rfl, rfl, ⟨rfl, rfl, ⟨rfl, rfl, ⟨rfl, rfl, ⟨rfl, rfl, ⟨rfl, rfl, ⟨rfl, rfl, ⟨rfl, rfl, trivial⟩⟩⟩⟩⟩⟩⟩⟩⟩⟩) ?_
     refine WK_keep [67, 66, 65, 59, 58, 57, 8, 7, 5, 2] [] rfl rfl ?_
     exact WQ_next ((l + 1), _, _, _, _) (by show nr0 - (l + 1) < nr0 - l; omega) ⟨by omega, (by rw [tell_step (cand2_a hx32 (by simpa using hh) lhsi.1)]; exact hT)⟩ (fun ρ a w h => h)
    ·
     rw [Bool.not_eq_false'] at hh
     refine WK_keep [76, 71, 14, 67, 66, 65, 59, 58, 57, 8, 7, 5, 2] [] rfl rfl ?_
     refine WL_execS htb 10 [86, 85, 71, 67, 66, 65, 59, 58, 57, 8, 7, 5, 2] [] ⟨[(86, (tS x34)), (85, (bB false)), (71, (.fn (.func 40) [(.v (.pointer (some (⟨bk8, 0, none⟩ : Addr)))), (.v (.pointer (some (⟨bk12, 0, none⟩ : Addr))))])), (67, (iN l)), (66, (iN nr0)), (65, (sS (some q31) nr0 cr)), (59, (iN r)), (58, (iN n_g)), (57, (sS (some q17) n_g c_g)), (8, (.fn (.func 40) [(.v (.pointer (some (⟨bk8, 0, none⟩ : Addr)))), (.v (.pointer (some (⟨bk12, 0, none⟩ : Addr))))])), (7, (.v (.pointer (some (⟨bk12, 0, none⟩ : Addr))))), (5, (.v (.pointer (some (⟨bk, 0, none⟩ : Addr))))), (2, (.p 0 0))], [], 5, [], [(0, bk2, (.cells 24 [(sS (some q17) n_g c_g)]))]⟩ (by kernel_rfl) ?_
     refine WL_op (WOp_callG 40 [(bB false), (iI 2), (tS x34), (.v (.pointer (some (⟨bk8, 0, none⟩ : Addr)))), (.v (.pointer (some (⟨bk12, 0, none⟩ : Addr))))] (by kernel_rfl) (goes_of Try.func40 rfl rfl) hle0 hT.le (fun b h => h) (fun p hp => by (rcases List.mem_cons.1 hp with rfl | hp; exact hfz; cases hp)) (fun ρ w hW => tell_ok hW.has hc6 hT (by omega) (by omega) hn35) (fun G36 v hlen hΦn => ?_))
     obtain ⟨z', bl', cap', arr', hT⟩ := hΦn
     have hleb := Le.trans (Le.refl _) hT.le
     refine WL_nil ?_
     refine WQ_blk ?_
     refine WQ_code ?_
     refine WC_region ?_
     refine WL_execS htb 2 [67, 66, 65, 59, 58, 57, 8, 7, 5, 2] [] ⟨[(67, (iI (IntKind.i64.wrap (((l : Nat) : Int) + 1)))), (66, (iN nr0)), (65, (sS (some q31) nr0 cr)), (59, (iN r)), (58, (iN n_g)), (57, (sS (some q17) n_g c_g)), (8, (.fn (.func 40) [(.v (.pointer (some (⟨bk8, 0, none⟩ : Addr)))), (.v (.pointer (some (⟨bk12, 0, none⟩ : Addr))))])), (7, (.v (.pointer (some (⟨bk12, 0, none⟩ : Addr))))), (5, (.v (.pointer (some (⟨bk, 0, none⟩ : Addr))))), (2, (.p 0 0))], [], 5, [], [(0, bk2, (.cells 24 [(sS (some q17) n_g c_g)]))]⟩ (by kernel_rfl) ?_
     refine WL_nil ?_
     refine WK_env [(67, (iN (l + 1))), (66, (iN nr0)), (65, (sS (some q31) nr0 cr)), (59, (iN r)), (58, (iN n_g)), (57, (sS (some q17) n_g c_g)), (8, (.fn (.func 40) [(.v (.pointer (some (⟨bk8, 0, none⟩ : Addr)))), (.v (.pointer (some (⟨bk12, 0, none⟩ : Addr))))])), (7, (.v (.pointer (some (⟨bk12, 0, none⟩ : Addr))))), (5, (.v (.pointer (some (⟨bk, 0, none⟩ : Addr))))), (2, (.p 0 0))] (fun ρ => ⟨rfl, (congrArg (Value.int .i64) (by rw [wrap_id (by omega)]; first | rfl | omega)), ⟨rfl, rfl, ⟨rfl, rfl, ⟨rfl, rfl, ⟨rfl, rfl, ⟨rfl, rfl, ⟨rfl, rfl, ⟨rfl, rfl, ⟨rfl, rfl, ⟨rfl, rfl, trivial⟩⟩⟩⟩⟩⟩⟩⟩⟩⟩) ?_
     refine WK_keep [67, 66, 65, 59, 58, 57, 8, 7, 5, 2] [] rfl rfl ?_
     exact WQ_next ((l + 1), _, _, _, _) (by show nr0 - (l + 1) < nr0 - l; omega) ⟨by omega, (by rw [tell_step (cand2_b hx32 (by simpa using hh))]; exact hT)⟩ (fun ρ a w h => h)
   ·
    replace hcl := of_decide_eq_false hcl
    have hta : (cand2N g tk x22.flatten).take l = (cand2N g tk x22.flatten) := List.take_of_length_le (by rw [cand2N_len]; omega)
    rw [hta] at hT
    refine WC_exit ?_
    refine WQ_then_exit ?_
    refine WQ_then_exit ?_
    refine WQ_hit ?_
    refine WQ_blk ?_
    refine WQ_code ?_
    refine WC_region ?_
    refine WL_execS htb 2 [59, 58, 57, 8, 7, 5, 2] [] ⟨[(59, (iI (IntKind.i64.wrap (((r : Nat) : Int) + 1)))), (58, (iN n_g)), (57, (sS (some q17) n_g c_g)), (8, (.fn (.func 40) [(.v (.pointer (some (⟨bk8, 0, none⟩ : Addr)))), (.v (.pointer (some (⟨bk12, 0, none⟩ : Addr))))])), (7, (.v (.pointer (some (⟨bk12, 0, none⟩ : Addr))))), (5, (.v (.pointer (some (⟨bk, 0, none⟩ : Addr))))), (2, (.p 0 0))], [], 5, [], [(0, bk2, (.cells 24 [(sS (some q17) n_g c_g)]))]⟩ (by kernel_rfl) ?_
    refine WL_nil ?_
    refine WK_env [(59, (iN (r + 1))), (58, (iN n_g)), (57, (sS (some q17) n_g c_g)), (8, (.fn (.func 40) [(.v (.pointer (some (⟨bk8, 0, none⟩ : Addr)))), (.v (.pointer (some (⟨bk12, 0, none⟩ : Addr))))])), (7, (.v (.pointer (some (⟨bk12, 0, none⟩ : Addr))))), (5, (.v (.pointer (some (⟨bk, 0, none⟩ : Addr))))), (2, (.p 0 0))] (fun ρ => ⟨rfl, (congrArg (Value.int .i64) (by rw [wrap_id (by omega)]; first | rfl | omega)), ⟨rfl, rfl, ⟨rfl, rfl, ⟨rfl, rfl, ⟨rfl, rfl, ⟨rfl, rfl, ⟨rfl, rfl, trivial⟩⟩⟩⟩⟩⟩⟩) ?_
    refine WK_keep [59, 58, 57, 8, 7, 5, 2] [] rfl rfl ?_
    exact WQ_next ((r + 1), _, _, _, _) (by show n_g - (r + 1) < n_g - r; omega) ⟨by omega, (by rw [cand2_round hx18]; exact hT.weaken hGb)⟩ (fun ρ a w h => h)
  ·
   replace hc := of_decide_eq_false hc
   rw [List.take_of_length_le (by omega)] at hT
   refine WC_exit ?_
   refine WQ_then_exit ?_
   refine WQ_then_exit ?_
   refine WQ_hit ?_
   refine WQ_code ?_
   refine WC_seq (WC_region ?_)
   refine WL_execS htb 1 [90, 8, 7, 5, 2] [] ⟨[(90, (.v (.pointer (some (⟨bk, 0, none⟩ : Addr))))), (8, (.fn (.func 40) [(.v (.pointer (some (⟨bk8, 0, none⟩ : Addr)))), (.v (.pointer (some (⟨bk12, 0, none⟩ : Addr))))])), (7, (.v (.pointer (some (⟨bk12, 0, none⟩ : Addr))))), (5, (.v (.pointer (some (⟨bk, 0, none⟩ : Addr))))), (2, (.p 0 0))], [], 4, [], [(0, bk2, (.cells 24 [(sS A_g n_g c_g)]))]⟩ (by kernel_rfl) ?_
   refine WL_op (WOp_callW 43 [(.v (.pointer (some (⟨bk, 0, none⟩ : Addr))))] (by kernel_rfl) (goes_of Try.func43 rfl rfl) hT.le (fun ρ w hW hb => fertileP_ok hb hB) (fun H18 G17 v hb2 hl1 hl2 h4 hΦ => ?_))
   obtain ⟨mg, gd, rfl, _, hMg, hgd⟩ := hΦ
   replace hT := hT.callW hl1 hl2 h4
   have hleb := hT.le
   have h_g := h_g.mono hb2
   have hB := hB.mono hb2
   have hc6 := hc6.mono hb2
   have hfz : H18 bk2 ≠ none := fun e => hfz (by (cases e2 : Gb bk2 with | none => rfl | some o => (rw [hb2 _ _ e2] at e; cases e)))
   have hle0 := Le.trans hle0 hb2
   have hxz := Le.trans hxz hb2
   show WL _ _ _ _ _ _ ⟨[(91, (.v (.map (some mg)))), (90, (.v (.pointer (some (⟨bk, 0, none⟩ : Addr))))), (8, (.fn (.func 40) [(.v (.pointer (some (⟨bk8, 0, none⟩ : Addr)))), (.v (.pointer (some (⟨bk12, 0, none⟩ : Addr))))])), (7, (.v (.pointer (some (⟨bk12, 0, none⟩ : Addr))))), (5, (.v (.pointer (some (⟨bk, 0, none⟩ : Addr))))), (2, (.p 0 0))], [], 4, [], [(0, bk2, (.cells 24 [(sS A_g n_g c_g)]))]⟩ _
   refine WL_execS htb 1 [92, 91, 8, 7, 5, 2] [] ⟨[(92, (.v (.pointer (some (⟨bk, 0, none⟩ : Addr))))), (91, (.v (.map (some mg)))), (8, (.fn (.func 40) [(.v (.pointer (some (⟨bk8, 0, none⟩ : Addr)))), (.v (.pointer (some (⟨bk12, 0, none⟩ : Addr))))])), (7, (.v (.pointer (some (⟨bk12, 0, none⟩ : Addr))))), (5, (.v (.pointer (some (⟨bk, 0, none⟩ : Addr))))), (2, (.p 0 0))], [], 4, [], [(0, bk2, (.cells 24 [(sS A_g n_g c_g)]))]⟩ (by kernel_rfl) ?_
   refine WL_op (WOp_callW 44 [(.v (.pointer (some (⟨bk, 0, none⟩ : Addr))))] (by kernel_rfl) (goes_of Try.func44 rfl rfl) hT.le (fun ρ w hW hb => ledP_ok hb hB hgl hal) (fun H20 G19 v hb2 hl1 hl2 h4 hΦ => ?_))
   obtain ⟨mn, nr, rfl, _, hMn, hnr⟩ := hΦ
   replace hT := hT.callW hl1 hl2 h4
   have hleb := hT.le
   have h_g := h_g.mono hb2
   have hB := hB.mono hb2
   have hMg := hMg.mono hb2
   have hc6 := hc6.mono hb2
   have hfz : H20 bk2 ≠ none := fun e => hfz (by (cases e2 : H18 bk2 with | none => rfl | some o => (rw [hb2 _ _ e2] at e; cases e)))
   have hle0 := Le.trans hle0 hb2
   have hxz := Le.trans hxz hb2
   show WL _ _ _ _ _ _ ⟨[(93, (.v (.map (some mn)))), (92, (.v (.pointer (some (⟨bk, 0, none⟩ : Addr))))), (91, (.v (.map (some mg)))), (8, (.fn (.func 40) [(.v (.pointer (some (⟨bk8, 0, none⟩ : Addr)))), (.v (.pointer (some (⟨bk12, 0, none⟩ : Addr))))])), (7, (.v (.pointer (some (⟨bk12, 0, none⟩ : Addr))))), (5, (.v (.pointer (some (⟨bk, 0, none⟩ : Addr))))), (2, (.p 0 0))], [], 4, [], [(0, bk2, (.cells 24 [(sS A_g n_g c_g)]))]⟩ _
   refine WL_execS htb 2 [16, 15, 8, 7, 5, 2] [] ⟨[(16, (.v (.map (some mn)))), (15, (.v (.map (some mg)))), (8, (.fn (.func 40) [(.v (.pointer (some (⟨bk8, 0, none⟩ : Addr)))), (.v (.pointer (some (⟨bk12, 0, none⟩ : Addr))))])), (7, (.v (.pointer (some (⟨bk12, 0, none⟩ : Addr))))), (5, (.v (.pointer (some (⟨bk, 0, none⟩ : Addr))))), (2, (.p 0 0))], [], 4, [], [(0, bk2, (.cells 24 [(sS A_g n_g c_g)]))]⟩ (by kernel_rfl) ?_
   refine WL_nil ?_
   refine WQ_code ?_
   refine WC_seq ?_
   refine WC_seq (WC_region ?_)
   refine WL_execS htb 4 [97, 96, 95, 16, 15, 8, 7, 5, 2] [] ⟨[(97, (iI 0)), (96, (iN n_g)), (95, (sS A_g n_g c_g)), (16, (.v (.map (some mn)))), (15, (.v (.map (some mg)))), (8, (.fn (.func 40) [(.v (.pointer (some (⟨bk8, 0, none⟩ : Addr)))), (.v (.pointer (some (⟨bk12, 0, none⟩ : Addr))))])), (7, (.v (.pointer (some (⟨bk12, 0, none⟩ : Addr))))), (5, (.v (.pointer (some (⟨bk, 0, none⟩ : Addr))))), (2, (.p 0 0))], [], 4, [], [(0, bk2, (.cells 24 [(sS A_g n_g c_g)]))]⟩ (by kernel_rfl) ?_
   refine WL_nil ?_
   refine WQ_code ?_
   refine WC_block ?_
   refine WK_keep [97, 96, 95, 16, 15, 8, 7, 5, 2] [] rfl rfl ?_
   refine WK_env [(97, (iN 0)), (96, (iN n_g)), (95, (sS A_g n_g c_g)), (16, (.v (.map (some mn)))), (15, (.v (.map (some mg)))), (8, (.fn (.func 40) [(.v (.pointer (some (⟨bk8, 0, none⟩ : Addr)))), (.v (.pointer (some (⟨bk12, 0, none⟩ : Addr))))])), (7, (.v (.pointer (some (⟨bk12, 0, none⟩ : Addr))))), (5, (.v (.pointer (some (⟨bk, 0, none⟩ : Addr))))), (2, (.p 0 0))] (fun ρ => ⟨rfl, rfl, ⟨rfl, rfl, ⟨rfl, rfl, ⟨rfl, rfl, ⟨rfl, rfl, ⟨rfl, rfl, ⟨rfl, rfl, ⟨rfl, rfl, ⟨rfl, rfl, trivial⟩⟩⟩⟩⟩⟩⟩⟩⟩) ?_
   refine WC_loop (ι := Nat × Bool × Nat × Nat × Array Value) (fun (p, z, bl, cap, arr) G21 => p ≤ n_g ∧ Tell H20 G21 bk4 bk12 (tellL ((cand1 g tk ++ cand2N g tk (allNames g)) ++ ((cand3 g tk gd)).take p)) z bl cap arr) (fun (p, z, bl, cap, arr) => ⟨[(97, (iN p)), (96, (iN n_g)), (95, (sS A_g n_g c_g)), (16, (.v (.map (some mn)))), (15, (.v (.map (some mg)))), (8, (.fn (.func 40) [(.v (.pointer (some (⟨bk8, 0, none⟩ : Addr)))), (.v (.pointer (some (⟨bk12, 0, none⟩ : Addr))))])), (7, (.v (.pointer (some (⟨bk12, 0, none⟩ : Addr))))), (5, (.v (.pointer (some (⟨bk, 0, none⟩ : Addr))))), (2, (.p 0 0))], [], 4, [], [(0, bk2, (.cells 24 [(sS A_g n_g c_g)]))]⟩) (fun (p, z, bl, cap, arr) => n_g - p) (0, _, _, _, _) ⟨Nat.zero_le _, (by rw [List.take_zero, List.append_nil]; exact hT)⟩ rfl ?_
   rintro ⟨p, z, bl, cap, arr⟩ G21 hF
   show WC _ _ _ _ _ ⟨[(97, (iN p)), (96, (iN n_g)), (95, (sS A_g n_g c_g)), (16, (.v (.map (some mn)))), (15, (.v (.map (some mg)))), (8, (.fn (.func 40) [(.v (.pointer (some (⟨bk8, 0, none⟩ : Addr)))), (.v (.pointer (some (⟨bk12, 0, none⟩ : Addr))))])), (7, (.v (.pointer (some (⟨bk12, 0, none⟩ : Addr))))), (5, (.v (.pointer (some (⟨bk, 0, none⟩ : Addr))))), (2, (.p 0 0))], [], 4, [], [(0, bk2, (.cells 24 [(sS A_g n_g c_g)]))]⟩ _
   obtain ⟨hp, hT⟩ := hF
   have hleb := hT.le
   have hol : (tellL ((cand1 g tk ++ cand2N g tk (allNames g)) ++ ((cand3 g tk gd)).take p)).length ≤ 1000000 := Nat.le_trans (tellL_len _) (by simp only [List.length_append, List.length_take, List.length_nil, cand1_len, cand2N_len, cand3_len, cand4_len]; omega)
   refine WC_seq (WC_region ?_)
   refine WL_execS htb 1 [98, 97, 96, 95, 16, 15, 8, 7, 5, 2] [] ⟨[(98, (bB (decide ((((p : Nat) : Int) : Int) < ((n_g : Nat) : Int))))), (97, (iN p)), (96, (iN n_g)), (95, (sS A_g n_g c_g)), (16, (.v (.map (some mn)))), (15, (.v (.map (some mg)))), (8, (.fn (.func 40) [(.v (.pointer (some (⟨bk8, 0, none⟩ : Addr)))), (.v (.pointer (some (⟨bk12, 0, none⟩ : Addr))))])), (7, (.v (.pointer (some (⟨bk12, 0, none⟩ : Addr))))), (5, (.v (.pointer (some (⟨bk, 0, none⟩ : Addr))))), (2, (.p 0 0))], [], 4, [], [(0, bk2, (.cells 24 [(sS A_g n_g c_g)]))]⟩ (by kernel_rfl) ?_
   refine WL_nil ?_
   refine WQ_code ?_
   refine WC_seq ?_
   refine WC_cond (b := (decide ((((p : Nat) : Int) : Int) < ((n_g : Nat) : Int)))) rfl (fun hc => ?_) (fun hc => ?_)
   ·
    replace hc := of_decide_eq_true hc
    refine WC_skip ?_
    refine WQ_code ?_
    refine WC_seq ?_
    refine WC_block ?_
    refine WC_seq (WC_region ?_)
    obtain ⟨q22, rfl⟩ := h_g.ptr (by omega)
    obtain ⟨⟨x25, x27⟩, _, hx23, ⟨_, _, rfl, ⟨rfl, hn26⟩, hr28⟩, at24⟩ := h_g.get p (by omega)
    obtain ⟨A30, n31, c32, rfl, hs29⟩ := Sl.of hr28
    replace hs29 : Sl (tSlice tStr) _ A30 n31 c32 x27 := hs29
    have lhs29 := hs29.len'
    replace at24 : At H20 (q22.add (p * 2)) [.string x25, .slice A30 n31 c32] := at24
    refine WL_op (WOp_idx htb q22 n_g ((p : Nat) : Int) 2 (by kernel_rfl) (by omega) (by omega) ?_)
    refine WL_op (WOp_ld htb (q22.add (p * 2)) true 2 [.string x25, .slice A30 n31 c32] (by kernel_rfl) (at24.mono hleb) rfl (by decide) ?_)
    refine WL_execS htb 2 [18, 97, 96, 95, 16, 15, 8, 7, 5, 2] [4] ⟨[(18, (.p 4 0)), (97, (iN p)), (96, (iN n_g)), (95, (sS (some q22) n_g c_g)), (16, (.v (.map (some mn)))), (15, (.v (.map (some mg)))), (8, (.fn (.func 40) [(.v (.pointer (some (⟨bk8, 0, none⟩ : Addr)))), (.v (.pointer (some (⟨bk12, 0, none⟩ : Addr))))])), (7, (.v (.pointer (some (⟨bk12, 0, none⟩ : Addr))))), (5, (.v (.pointer (some (⟨bk, 0, none⟩ : Addr))))), (2, (.p 0 0))], [(4, (.cells 34 [(tS x25), (sS A30 n31 c32)]))], 5, [], [(0, bk2, (.cells 24 [(sS (some q22) n_g c_g)]))]⟩ (by kernel_rfl) ?_
    refine WL_nil ?_
    refine WQ_code ?_
    have hTx := hT
    refine WK_freezeN 4 rfl rfl rfl rfl ?_
    intro bk34 G33 hle hnew35 hbk34
    have hle36 := hle
    replace hleb := Le.trans hleb hle
    replace hT := hT.mono hle
    show WK _ _ ⟨[(18, (.p 4 0)), (97, (iN p)), (96, (iN n_g)), (95, (sS (some q22) n_g c_g)), (16, (.v (.map (some mn)))), (15, (.v (.map (some mg)))), (8, (.fn (.func 40) [(.v (.pointer (some (⟨bk8, 0, none⟩ : Addr)))), (.v (.pointer (some (⟨bk12, 0, none⟩ : Addr))))])), (7, (.v (.pointer (some (⟨bk12, 0, none⟩ : Addr))))), (5, (.v (.pointer (some (⟨bk, 0, none⟩ : Addr))))), (2, (.p 0 0))], [], 5, [], [(4, bk34, (.cells 34 [(tS x25), (sS A30 n31 c32)])), (0, bk2, (.cells 24 [(sS (some q22) n_g c_g)]))]⟩ _
    obtain ⟨Gd, hbd, hdb, hT⟩ := Tell.more hTx hle36 hnew35 hbk34
    have hz : FZ Gd [(4, bk34, (.cells 34 [(tS x25), (sS A30 n31 c32)])), (0, bk2, (.cells 24 [(sS (some q22) n_g c_g)]))] := FZ.cons (h := 4) hdb rfl (FZ.cons (h := 0) (hbd _ _ (hxz _ _ hbk2)) rfl (FZ.nil _))
    have hfzb : Gd bk34 ≠ none := fun e => by (rw [hdb] at e; cases e)
    have hfzd : Gd bk2 ≠ none := fun e => by (rw [hbd _ _ (hxz _ _ hbk2)] at e; cases e)
    refine WC_drawG mixed Gd ?_
    refine WD_takeL htb rfl (fun _ _ _ _ _ h => h) hT.le [0, 1, 2, 3, 13, 14] (fuel := 10) (listed' := bts 16 24591) (S' := ⟨[(115, (tS x25)), (114, (.p 4 0)), (104, (tS x25)), (103, (.p 4 0)), (102, (.v (.map (some mg)))), (101, (.fn (.func 40) [(.v (.pointer (some (⟨bk8, 0, none⟩ : Addr)))), (.v (.pointer (some (⟨bk12, 0, none⟩ : Addr))))])), (18, (.p 4 0)), (97, (iN p)), (96, (iN n_g)), (95, (sS (some q22) n_g c_g)), (16, (.v (.map (some mn)))), (15, (.v (.map (some mg)))), (8, (.fn (.func 40) [(.v (.pointer (some (⟨bk8, 0, none⟩ : Addr)))), (.v (.pointer (some (⟨bk12, 0, none⟩ : Addr))))])), (7, (.v (.pointer (some (⟨bk12, 0, none⟩ : Addr))))), (5, (.v (.pointer (some (⟨bk, 0, none⟩ : Addr))))), (2, (.p 0 0))], [], 5, [], [(4, bk34, (.cells 34 [(tS x25), (sS A30 n31 c32)])), (0, bk2, (.cells 24 [(sS (some q22) n_g c_g)]))]⟩) hz (by kernel_rfl) rfl ?_
    refine WD_one 4 (by rfl) (by decide +kernel) (WOp_look htb mg (tS x25) false 9 (.bool false) (by kernel_rfl) (keyEnc_str (kt := 9) (by kernel_rfl)) x25 (fun ρ => rfl) (hMg.mono (Le.trans hbd hT.le)) (v := (.bool (gd x25))) (goodF_get gd x25) (is := ((goodF gd x25).isSome)) rfl (WD_on hT.le ?_))
    show WD _ _ _ _ _ _ _ _ _ ⟨[(105, (bB (gd x25))), (115, (tS x25)), (114, (.p 4 0)), (104, (tS x25)), (103, (.p 4 0)), (102, (.v (.map (some mg)))), (101, (.fn (.func 40) [(.v (.pointer (some (⟨bk8, 0, none⟩ : Addr)))), (.v (.pointer (some (⟨bk12, 0, none⟩ : Addr))))])), (18, (.p 4 0)), (97, (iN p)), (96, (iN n_g)), (95, (sS (some q22) n_g c_g)), (16, (.v (.map (some mn)))), (15, (.v (.map (some mg)))), (8, (.fn (.func 40) [(.v (.pointer (some (⟨bk8, 0, none⟩ : Addr)))), (.v (.pointer (some (⟨bk12, 0, none⟩ : Addr))))])), (7, (.v (.pointer (some (⟨bk12, 0, none⟩ : Addr))))), (5, (.v (.pointer (some (⟨bk, 0, none⟩ : Addr))))), (2, (.p 0 0))], [], 5, [], [(4, bk34, (.cells 34 [(tS x25), (sS A30 n31 c32)])), (0, bk2, (.cells 24 [(sS (some q22) n_g c_g)]))]⟩
    refine WD_takeL htb rfl (fun _ _ _ _ _ h => h) hT.le [5, 6] (fuel := 7) (listed' := bts 16 24703) (S' := ⟨[(107, (bB (!(gd x25)))), (106, (bB (!(gd x25)))), (105, (bB (gd x25))), (115, (tS x25)), (114, (.p 4 0)), (104, (tS x25)), (103, (.p 4 0)), (102, (.v (.map (some mg)))), (101, (.fn (.func 40) [(.v (.pointer (some (⟨bk8, 0, none⟩ : Addr)))), (.v (.pointer (some (⟨bk12, 0, none⟩ : Addr))))])), (18, (.p 4 0)), (97, (iN p)), (96, (iN n_g)), (95, (sS (some q22) n_g c_g)), (16, (.v (.map (some mn)))), (15, (.v (.map (some mg)))), (8, (.fn (.func 40) [(.v (.pointer (some (⟨bk8, 0, none⟩ : Addr)))), (.v (.pointer (some (⟨bk12, 0, none⟩ : Addr))))])), (7, (.v (.pointer (some (⟨bk12, 0, none⟩ : Addr))))), (5, (.v (.pointer (some (⟨bk, 0, none⟩ : Addr))))), (2, (.p 0 0))], [], 5, [], [(4, bk34, (.cells 34 [(tS x25), (sS A30 n31 c32)])), (0, bk2, (.cells 24 [(sS (some q22) n_g c_g)]))]⟩) hz (by kernel_rfl) rfl ?_
    refine WK_split 107 (!(gd x25)) rfl (fun hh => ?_) (fun hh => ?_)
    ·
     rw [Bool.not_eq_true'] at hh
     refine WK_keep [107, 106, 105, 115, 114, 104, 103, 102, 101, 18, 97, 96, 95, 16, 15, 8, 7, 5, 2] [] rfl rfl ?_
     refine WD_takeL htb rfl (fun _ _ _ _ _ h => h) hT.le [7, 8, 9] (fuel := 4) (listed' := bts 16 25599) (S' := ⟨[(110, (tS x25)), (109, (.p 4 0)), (108, (.v (.pointer (some (⟨bk, 0, none⟩ : Addr))))), (107, (bB true)), (106, (bB (!(gd x25)))), (105, (bB (gd x25))), (115, (tS x25)), (114, (.p 4 0)), (104, (tS x25)), (103, (.p 4 0)), (102, (.v (.map (some mg)))), (101, (.fn (.func 40) [(.v (.pointer (some (⟨bk8, 0, none⟩ : Addr)))), (.v (.pointer (some (⟨bk12, 0, none⟩ : Addr))))])), (18, (.p 4 0)), (97, (iN p)), (96, (iN n_g)), (95, (sS (some q22) n_g c_g)), (16, (.v (.map (some mn)))), (15, (.v (.map (some mg)))), (8, (.fn (.func 40) [(.v (.pointer (some (⟨bk8, 0, none⟩ : Addr)))), (.v (.pointer (some (⟨bk12, 0, none⟩ : Addr))))])), (7, (.v (.pointer (some (⟨bk12, 0, none⟩ : Addr))))), (5, (.v (.pointer (some (⟨bk, 0, none⟩ : Addr))))), (2, (.p 0 0))], [], 5, [], [(4, bk34, (.cells 34 [(tS x25), (sS A30 n31 c32)])), (0, bk2, (.cells 24 [(sS (some q22) n_g c_g)]))]⟩) hz (by kernel_rfl) rfl ?_
     refine WD_one 10 (by rfl) (by decide +kernel) (WOp_call 41 [(.v (.pointer (some (⟨bk, 0, none⟩ : Addr)))), (tS x25)] (by kernel_rfl) (goes_of Try.func41 rfl rfl) (fun ρ w hW => isToken_ok hW.has (hB.mono hleb) (s := x25)) ?_)
     intro G702 v hle hΦ
     replace hleb := Le.trans hleb hle
     replace hT := hT.mono hle
     subst hΦ
     refine WD_on hT.le ?_
     refine WD_takeL htb rfl (fun _ _ _ _ _ h => h) hT.le [11, 12] (fuel := 1) (listed' := bts 16 32767) (S' := ⟨[(113, (bB (!(hasB tk x25)))), (112, (bB (!(hasB tk x25)))), (111, (bB (hasB tk x25))), (110, (tS x25)), (109, (.p 4 0)), (108, (.v (.pointer (some (⟨bk, 0, none⟩ : Addr))))), (107, (bB true)), (106, (bB (!(gd x25)))), (105, (bB (gd x25))), (115, (tS x25)), (114, (.p 4 0)), (104, (tS x25)), (103, (.p 4 0)), (102, (.v (.map (some mg)))), (101, (.fn (.func 40) [(.v (.pointer (some (⟨bk8, 0, none⟩ : Addr)))), (.v (.pointer (some (⟨bk12, 0, none⟩ : Addr))))])), (18, (.p 4 0)), (97, (iN p)), (96, (iN n_g)), (95, (sS (some q22) n_g c_g)), (16, (.v (.map (some mn)))), (15, (.v (.map (some mg)))), (8, (.fn (.func 40) [(.v (.pointer (some (⟨bk8, 0, none⟩ : Addr)))), (.v (.pointer (some (⟨bk12, 0, none⟩ : Addr))))])), (7, (.v (.pointer (some (⟨bk12, 0, none⟩ : Addr))))), (5, (.v (.pointer (some (⟨bk, 0, none⟩ : Addr))))), (2, (.p 0 0))], [], 5, [], [(4, bk34, (.cells 34 [(tS x25), (sS A30 n31 c32)])), (0, bk2, (.cells 24 [(sS (some q22) n_g c_g)]))]⟩) hz (by kernel_rfl) rfl ?_
     refine WD_one 15 (by rfl) (by decide +kernel) (WOp_callG 40 [(bB (!(hasB tk x25))), (iI 3), (tS x25), (.v (.pointer (some (⟨bk8, 0, none⟩ : Addr)))), (.v (.pointer (some (⟨bk12, 0, none⟩ : Addr))))] (by kernel_rfl) (goes_of Try.func40 rfl rfl) (Le.trans hle0 hbd) hT.le (fun b h => h) (fun p hp => by (rcases List.mem_cons.1 hp with rfl | hp; exact hfzb; rcases List.mem_cons.1 hp with rfl | hp; exact hfzd; cases hp)) (fun ρ w hW => tell_ok hW.has (hc6.mono hbd) hT (by omega) (by omega) hn26) (fun G37 v hlen hΦn => (WD_on hlen ?_)))
     obtain ⟨z', bl', cap', arr', hT⟩ := hΦn
     have hleb := Le.trans (hbd) hT.le
     refine WD_done (by decide +kernel) ?_
     refine WK_keep [97, 96, 95, 16, 15, 8, 7, 5, 2] [] rfl rfl ?_
     refine WQ_blk ?_
     refine WQ_code ?_
     refine WC_region ?_
     refine WL_execS htb 2 [97, 96, 95, 16, 15, 8, 7, 5, 2] [] ⟨[(97, (iI (IntKind.i64.wrap (((p : Nat) : Int) + 1)))), (96, (iN n_g)), (95, (sS (some q22) n_g c_g)), (16, (.v (.map (some mn)))), (15, (.v (.map (some mg)))), (8, (.fn (.func 40) [(.v (.pointer (some (⟨bk8, 0, none⟩ : Addr)))), (.v (.pointer (some (⟨bk12, 0, none⟩ : Addr))))])), (7, (.v (.pointer (some (⟨bk12, 0, none⟩ : Addr))))), (5, (.v (.pointer (some (⟨bk, 0, none⟩ : Addr))))), (2, (.p 0 0))], [], 5, [], [(4, bk34, (.cells 34 [(tS x25), (sS A30 n31 c32)])), (0, bk2, (.cells 24 [(sS (some q22) n_g c_g)]))]⟩ (by kernel_rfl) ?_
     refine WL_nil ?_
     refine WK_env [(97, (iN (p + 1))), (96, (iN n_g)), (95, (sS (some q22) n_g c_g)), (16, (.v (.map (some mn)))), (15, (.v (.map (some mg)))), (8, (.fn (.func 40) [(.v (.pointer (some (⟨bk8, 0, none⟩ : Addr)))), (.v (.pointer (some (⟨bk12, 0, none⟩ : Addr))))])), (7, (.v (.pointer (some (⟨bk12, 0, none⟩ : Addr))))), (5, (.v (.pointer (some (⟨bk, 0, none⟩ : Addr))))), (2, (.p 0 0))] (fun ρ => ⟨rfl, (congrArg (Value.int .i64) (by rw [wrap_id (by omega)]; first | rfl | omega)), ⟨rfl, rfl, ⟨rfl, rfl, ⟨rfl, rfl, ⟨rfl, rfl, ⟨rfl, rfl, ⟨rfl, rfl, ⟨rfl, rfl, ⟨rfl, rfl, trivial⟩⟩⟩⟩⟩⟩⟩⟩⟩) ?_
     refine WK_keep [97, 96, 95, 16, 15, 8, 7, 5, 2] [] rfl rfl ?_
     refine WK_dropfz 1 ?_
     show WK _ _ ⟨_, _, _, _, [(0, bk2, (.cells 24 [(sS (some q22) n_g c_g)]))]⟩ _
     exact WQ_next ((p + 1), _, _, _, _) (by show n_g - (p + 1) < n_g - p; omega) ⟨by omega, (by rw [tell_step (cand3_a hx23 (by simpa using hh))]; exact hT.weaken hbd)⟩ (fun ρ a w h => h)
    ·
     rw [Bool.not_eq_false'] at hh
     refine WK_keep [107, 106, 105, 115, 114, 104, 103, 102, 101, 18, 97, 96, 95, 16, 15, 8, 7, 5, 2] [] rfl rfl ?_
     refine WD_takeL htb rfl (fun _ _ _ _ _ h => h) hT.le [7, 8, 9, 10, 11, 12] (fuel := 1) (listed' := bts 16 32767) (S' := ⟨[(113, (bB false)), (112, (.v (undef))), (111, (.v (undef))), (110, (.v (undef))), (109, (.v (undef))), (108, (.v (undef))), (107, (bB false)), (106, (bB (!(gd x25)))), (105, (bB (gd x25))), (115, (tS x25)), (114, (.p 4 0)), (104, (tS x25)), (103, (.p 4 0)), (102, (.v (.map (some mg)))), (101, (.fn (.func 40) [(.v (.pointer (some (⟨bk8, 0, none⟩ : Addr)))), (.v (.pointer (some (⟨bk12, 0, none⟩ : Addr))))])), (18, (.p 4 0)), (97, (iN p)), (96, (iN n_g)), (95, (sS (some q22) n_g c_g)), (16, (.v (.map (some mn)))), (15, (.v (.map (some mg)))), (8, (.fn (.func 40) [(.v (.pointer (some (⟨bk8, 0, none⟩ : Addr)))), (.v (.pointer (some (⟨bk12, 0, none⟩ : Addr))))])), (7, (.v (.pointer (some (⟨bk12, 0, none⟩ : Addr))))), (5, (.v (.pointer (some (⟨bk, 0, none⟩ : Addr))))), (2, (.p 0 0))], [], 5, [], [(4, bk34, (.cells 34 [(tS x25), (sS A30 n31 c32)])), (0, bk2, (.cells 24 [(sS (some q22) n_g c_g)]))]⟩) hz (by kernel_rfl) rfl ?_
     refine WD_one 15 (by rfl) (by decide +kernel) (WOp_callG 40 [(bB false), (iI 3), (tS x25), (.v (.pointer (some (⟨bk8, 0, none⟩ : Addr)))), (.v (.pointer (some (⟨bk12, 0, none⟩ : Addr))))] (by kernel_rfl) (goes_of Try.func40 rfl rfl) (Le.trans hle0 hbd) hT.le (fun b h => h) (fun p hp => by (rcases List.mem_cons.1 hp with rfl | hp; exact hfzb; rcases List.mem_cons.1 hp with rfl | hp; exact hfzd; cases hp)) (fun ρ w hW => tell_ok hW.has (hc6.mono hbd) hT (by omega) (by omega) hn26) (fun G37 v hlen hΦn => (WD_on hlen ?_)))
     obtain ⟨z', bl', cap', arr', hT⟩ := hΦn
     have hleb := Le.trans (hbd) hT.le
     refine WD_done (by decide +kernel) ?_
     refine WK_keep [97, 96, 95, 16, 15, 8, 7, 5, 2] [] rfl rfl ?_
     refine WQ_blk ?_
     refine WQ_code ?_
     refine WC_region ?_
     refine WL_execS htb 2 [97, 96, 95, 16, 15, 8, 7, 5, 2] [] ⟨[(97, (iI (IntKind.i64.wrap (((p : Nat) : Int) + 1)))), (96, (iN n_g)), (95, (sS (some q22) n_g c_g)), (16, (.v (.map (some mn)))), (15, (.v (.map (some mg)))), (8, (.fn (.func 40) [(.v (.pointer (some (⟨bk8, 0, none⟩ : Addr)))), (.v (.pointer (some (⟨bk12, 0, none⟩ : Addr))))])), (7, (.v (.pointer (some (⟨bk12, 0, none⟩ : Addr))))), (5, (.v (.pointer (some (⟨bk, 0, none⟩ : Addr))))), (2, (.p 0 0))], [], 5, [], [(4, bk34, (.cells 34 [(tS x25), (sS A30 n31 c32)])), (0, bk2, (.cells 24 [(sS (some q22) n_g c_g)]))]⟩ (by kernel_rfl) ?_
     refine WL_nil ?_
     refine WK_env [(97, (iN (p + 1))), (96, (iN n_g)), (95, (sS (some q22) n_g c_g)), (16, (.v (.map (some mn)))), (15, (.v (.map (some mg)))), (8, (.fn (.func 40) [(.v (.pointer (some (⟨bk8, 0, none⟩ : Addr)))), (.v (.pointer (some (⟨bk12, 0, none⟩ : Addr))))])), (7, (.v (.pointer (some (⟨bk12, 0, none⟩ : Addr))))), (5, (.v (.pointer (some (⟨bk, 0, none⟩ : Addr))))), (2, (.p 0 0))] (fun ρ => ⟨rfl, (congrArg (Value.int .i64) (by rw [wrap_id (by omega)]; first | rfl | omega)), ⟨rfl, rfl, ⟨rfl, rfl, ⟨rfl, rfl, ⟨rfl, rfl, ⟨rfl, rfl, ⟨rfl, rfl, ⟨rfl, rfl, ⟨rfl, rfl, trivial⟩⟩⟩⟩⟩⟩⟩⟩⟩) ?_
     refine WK_keep [97, 96, 95, 16, 15, 8, 7, 5, 2] [] rfl rfl ?_
     refine WK_dropfz 1 ?_
     show WK _ _ ⟨_, _, _, _, [(0, bk2, (.cells 24 [(sS (some q22) n_g c_g)]))]⟩ _
     exact WQ_next ((p + 1), _, _, _, _) (by show n_g - (p + 1) < n_g - p; omega) ⟨by omega, (by rw [tell_step (cand3_b hx23 (by simpa using hh))]; exact hT.weaken hbd)⟩ (fun ρ a w h => h)
   ·
    replace hc := of_decide_eq_false hc
    rw [List.take_of_length_le (by unfold cand3; rw [List.length_map]; omega)] at hT
    refine WC_exit ?_
    refine WQ_then_exit ?_
    refine WQ_then_exit ?_
    refine WQ_hit ?_
    refine WQ_code ?_
    refine WC_seq ?_
    refine WC_seq (WC_region ?_)
    refine WL_execS htb 4 [121, 120, 119, 16, 8, 7] [] ⟨[(121, (iI 0)), (120, (iN n_g)), (119, (sS A_g n_g c_g)), (16, (.v (.map (some mn)))), (8, (.fn (.func 40) [(.v (.pointer (some (⟨bk8, 0, none⟩ : Addr)))), (.v (.pointer (some (⟨bk12, 0, none⟩ : Addr))))])), (7, (.v (.pointer (some (⟨bk12, 0, none⟩ : Addr)))))], [], 4, [], [(0, bk2, (.cells 24 [(sS A_g n_g c_g)]))]⟩ (by kernel_rfl) ?_
    refine WL_nil ?_
    refine WQ_code ?_
    refine WC_block ?_
    refine WK_keep [121, 120, 119, 16, 8, 7] [] rfl rfl ?_
    refine WK_env [(121, (iN 0)), (120, (iN n_g)), (119, (sS A_g n_g c_g)), (16, (.v (.map (some mn)))), (8, (.fn (.func 40) [(.v (.pointer (some (⟨bk8, 0, none⟩ : Addr)))), (.v (.pointer (some (⟨bk12, 0, none⟩ : Addr))))])), (7, (.v (.pointer (some (⟨bk12, 0, none⟩ : Addr)))))] (fun ρ => ⟨rfl, rfl, ⟨rfl, rfl, ⟨rfl, rfl, ⟨rfl, rfl, ⟨rfl, rfl, ⟨rfl, rfl, trivial⟩⟩⟩⟩⟩⟩) ?_
    refine WC_loop (ι := Nat × Bool × Nat × Nat × Array Value) (fun (q, z, bl, cap, arr) G22 => q ≤ n_g ∧ Tell H20 G22 bk4 bk12 (tellL (((cand1 g tk ++ cand2N g tk (allNames g)) ++ (cand3 g tk gd)) ++ ((cand4 g nr)).take q)) z bl cap arr) (fun (q, z, bl, cap, arr) => ⟨[(121, (iN q)), (120, (iN n_g)), (119, (sS A_g n_g c_g)), (16, (.v (.map (some mn)))), (8, (.fn (.func 40) [(.v (.pointer (some (⟨bk8, 0, none⟩ : Addr)))), (.v (.pointer (some (⟨bk12, 0, none⟩ : Addr))))])), (7, (.v (.pointer (some (⟨bk12, 0, none⟩ : Addr)))))], [], 4, [], [(0, bk2, (.cells 24 [(sS A_g n_g c_g)]))]⟩) (fun (q, z, bl, cap, arr) => n_g - q) (0, _, _, _, _) ⟨Nat.zero_le _, (by rw [List.take_zero, List.append_nil]; exact hT)⟩ rfl ?_
    rintro ⟨q, z, bl, cap, arr⟩ G22 hF
    show WC _ _ _ _ _ ⟨[(121, (iN q)), (120, (iN n_g)), (119, (sS A_g n_g c_g)), (16, (.v (.map (some mn)))), (8, (.fn (.func 40) [(.v (.pointer (some (⟨bk8, 0, none⟩ : Addr)))), (.v (.pointer (some (⟨bk12, 0, none⟩ : Addr))))])), (7, (.v (.pointer (some (⟨bk12, 0, none⟩ : Addr)))))], [], 4, [], [(0, bk2, (.cells 24 [(sS A_g n_g c_g)]))]⟩ _
    obtain ⟨hq, hT⟩ := hF
    have hleb := hT.le
    have hol : (tellL (((cand1 g tk ++ cand2N g tk (allNames g)) ++ (cand3 g tk gd)) ++ ((cand4 g nr)).take q)).length ≤ 1000000 := Nat.le_trans (tellL_len _) (by simp only [List.length_append, List.length_take, List.length_nil, cand1_len, cand2N_len, cand3_len, cand4_len]; omega)
    refine WC_seq (WC_region ?_)
    refine WL_execS htb 1 [122, 121, 120, 119, 16, 8, 7] [] ⟨[(122, (bB (decide ((((q : Nat) : Int) : Int) < ((n_g : Nat) : Int))))), (121, (iN q)), (120, (iN n_g)), (119, (sS A_g n_g c_g)), (16, (.v (.map (some mn)))), (8, (.fn (.func 40) [(.v (.pointer (some (⟨bk8, 0, none⟩ : Addr)))), (.v (.pointer (some (⟨bk12, 0, none⟩ : Addr))))])), (7, (.v (.pointer (some (⟨bk12, 0, none⟩ : Addr)))))], [], 4, [], [(0, bk2, (.cells 24 [(sS A_g n_g c_g)]))]⟩ (by kernel_rfl) ?_
    refine WL_nil ?_
    refine WQ_code ?_
    refine WC_seq ?_
    refine WC_cond (b := (decide ((((q : Nat) : Int) : Int) < ((n_g : Nat) : Int)))) rfl (fun hc => ?_) (fun hc => ?_)
    ·
     replace hc := of_decide_eq_true hc
     refine WC_skip ?_
     refine WQ_code ?_
     refine WC_seq ?_
     refine WC_block ?_
     refine WC_seq (WC_region ?_)
     obtain ⟨q23, rfl⟩ := h_g.ptr (by omega)
     obtain ⟨⟨x26, x28⟩, _, hx24, ⟨_, _, rfl, ⟨rfl, hn27⟩, hr29⟩, at25⟩ := h_g.get q (by omega)
     obtain ⟨A31, n32, c33, rfl, hs30⟩ := Sl.of hr29
     replace hs30 : Sl (tSlice tStr) _ A31 n32 c33 x28 := hs30
     have lhs30 := hs30.len'
     replace at25 : At H20 (q23.add (q * 2)) [.string x26, .slice A31 n32 c33] := at25
     refine WL_op (WOp_idx htb q23 n_g ((q : Nat) : Int) 2 (by kernel_rfl) (by omega) (by omega) ?_)
     refine WL_op (WOp_ld htb (q23.add (q * 2)) true 2 [.string x26, .slice A31 n32 c33] (by kernel_rfl) (at25.mono hleb) rfl (by decide) ?_)
     refine WL_execS htb 2 [20, 121, 120, 119, 16, 8, 7] [4] ⟨[(20, (.p 4 0)), (121, (iN q)), (120, (iN n_g)), (119, (sS (some q23) n_g c_g)), (16, (.v (.map (some mn)))), (8, (.fn (.func 40) [(.v (.pointer (some (⟨bk8, 0, none⟩ : Addr)))), (.v (.pointer (some (⟨bk12, 0, none⟩ : Addr))))])), (7, (.v (.pointer (some (⟨bk12, 0, none⟩ : Addr)))))], [(4, (.cells 34 [(tS x26), (sS A31 n32 c33)]))], 5, [], [(0, bk2, (.cells 24 [(sS (some q23) n_g c_g)]))]⟩ (by kernel_rfl) ?_
     refine WL_nil ?_
     refine WQ_code ?_
     refine WC_region ?_
     refine WL_execS htb 4 [128, 126, 125, 20, 121, 120, 119, 16, 8, 7] [4] ⟨[(128, (tS x26)), (126, (.v (.map (some mn)))), (125, (.fn (.func 40) [(.v (.pointer (some (⟨bk8, 0, none⟩ : Addr)))), (.v (.pointer (some (⟨bk12, 0, none⟩ : Addr))))])), (20, (.p 4 0)), (121, (iN q)), (120, (iN n_g)), (119, (sS (some q23) n_g c_g)), (16, (.v (.map (some mn)))), (8, (.fn (.func 40) [(.v (.pointer (some (⟨bk8, 0, none⟩ : Addr)))), (.v (.pointer (some (⟨bk12, 0, none⟩ : Addr))))])), (7, (.v (.pointer (some (⟨bk12, 0, none⟩ : Addr)))))], [(4, (.cells 34 [(tS x26), (sS A31 n32 c33)]))], 5, [], [(0, bk2, (.cells 24 [(sS (some q23) n_g c_g)]))]⟩ (by kernel_rfl) ?_
     refine WL_op (WOp_look htb mn (tS x26) false 9 (.bool false) (by kernel_rfl) (keyEnc_str (kt := 9) (by kernel_rfl)) x26 (fun ρ => rfl) (hMn.mono hleb) (v := (.bool (nr x26))) (goodF_get nr x26) (is := ((goodF nr x26).isSome)) rfl ?_)
     show WL _ _ _ _ _ _ ⟨[(129, (bB (nr x26))), (128, (tS x26)), (126, (.v (.map (some mn)))), (125, (.fn (.func 40) [(.v (.pointer (some (⟨bk8, 0, none⟩ : Addr)))), (.v (.pointer (some (⟨bk12, 0, none⟩ : Addr))))])), (20, (.p 4 0)), (121, (iN q)), (120, (iN n_g)), (119, (sS (some q23) n_g c_g)), (16, (.v (.map (some mn)))), (8, (.fn (.func 40) [(.v (.pointer (some (⟨bk8, 0, none⟩ : Addr)))), (.v (.pointer (some (⟨bk12, 0, none⟩ : Addr))))])), (7, (.v (.pointer (some (⟨bk12, 0, none⟩ : Addr)))))], [(4, (.cells 34 [(tS x26), (sS A31 n32 c33)]))], 5, [], [(0, bk2, (.cells 24 [(sS (some q23) n_g c_g)]))]⟩ _
     refine WL_execS htb 3 [132, 130, 125, 121, 120, 119, 16, 8, 7] [] ⟨[(132, (tS x26)), (130, (bB (!(nr x26)))), (125, (.fn (.func 40) [(.v (.pointer (some (⟨bk8, 0, none⟩ : Addr)))), (.v (.pointer (some (⟨bk12, 0, none⟩ : Addr))))])), (121, (iN q)), (120, (iN n_g)), (119, (sS (some q23) n_g c_g)), (16, (.v (.map (some mn)))), (8, (.fn (.func 40) [(.v (.pointer (some (⟨bk8, 0, none⟩ : Addr)))), (.v (.pointer (some (⟨bk12, 0, none⟩ : Addr))))])), (7, (.v (.pointer (some (⟨bk12, 0, none⟩ : Addr)))))], [], 5, [], [(0, bk2, (.cells 24 [(sS (some q23) n_g c_g)]))]⟩ (by kernel_rfl) ?_
     refine WL_op (WOp_callG 40 [(bB (!(nr x26))), (iI 4), (tS x26), (.v (.pointer (some (⟨bk8, 0, none⟩ : Addr)))), (.v (.pointer (some (⟨bk12, 0, none⟩ : Addr))))] (by kernel_rfl) (goes_of Try.func40 rfl rfl) hle0 hT.le (fun b h => h) (fun p hp => by (rcases List.mem_cons.1 hp with rfl | hp; exact hfz; cases hp)) (fun ρ w hW => tell_ok hW.has hc6 hT (by omega) (by omega) hn27) (fun G34 v hlen hΦn => ?_))
     obtain ⟨z', bl', cap', arr', hT⟩ := hΦn
     have hleb := Le.trans (Le.refl _) hT.le
     refine WL_nil ?_
     refine WQ_blk ?_
     refine WQ_code ?_
     refine WC_region ?_
     refine WL_execS htb 2 [121, 120, 119, 16, 8, 7] [] ⟨[(121, (iI (IntKind.i64.wrap (((q : Nat) : Int) + 1)))), (120, (iN n_g)), (119, (sS (some q23) n_g c_g)), (16, (.v (.map (some mn)))), (8, (.fn (.func 40) [(.v (.pointer (some (⟨bk8, 0, none⟩ : Addr)))), (.v (.pointer (some (⟨bk12, 0, none⟩ : Addr))))])), (7, (.v (.pointer (some (⟨bk12, 0, none⟩ : Addr)))))], [], 5, [], [(0, bk2, (.cells 24 [(sS (some q23) n_g c_g)]))]⟩ (by kernel_rfl) ?_
     refine WL_nil ?_
     refine WK_env [(121, (iN (q + 1))), (120, (iN n_g)), (119, (sS (some q23) n_g c_g)), (16, (.v (.map (some mn)))), (8, (.fn (.func 40) [(.v (.pointer (some (⟨bk8, 0, none⟩ : Addr)))), (.v (.pointer (some (⟨bk12, 0, none⟩ : Addr))))])), (7, (.v (.pointer (some (⟨bk12, 0, none⟩ : Addr)))))] (fun ρ => ⟨rfl, (congrArg (Value.int .i64) (by rw [wrap_id (by omega)]; first | rfl | omega)), ⟨rfl, rfl, ⟨rfl, rfl, ⟨rfl, rfl, ⟨rfl, rfl, ⟨rfl, rfl, trivial⟩⟩⟩⟩⟩⟩) ?_
     refine WK_keep [121, 120, 119, 16, 8, 7] [] rfl rfl ?_
     exact WQ_next ((q + 1), _, _, _, _) (by show n_g - (q + 1) < n_g - q; omega) ⟨by omega, (by rw [tell_step (cand4_a hx24)]; exact hT)⟩ (fun ρ a w h => h)
    ·
     replace hc := of_decide_eq_false hc
     rw [List.take_of_length_le (by unfold cand4; rw [List.length_map]; omega)] at hT
     refine WC_exit ?_
     refine WQ_then_exit ?_
     refine WQ_then_exit ?_
     refine WQ_hit ?_
     refine WQ_code ?_
     refine WC_seq (WC_region ?_)
     have hat7 : At _ ⟨bk12, 0, none⟩ [_] := At.of_block hT.cell
     obtain ⟨Ao, no, co, eo, hso⟩ := OwnL.sl (n := (tellL ((cand1 g tk ++ cand2N g tk (allNames g)) ++ (cand3 g tk gd) ++ cand4 g nr)).length) hT.own (Le.refl _) hT.nil (fun hz => (hT.blk hz).1) rfl
     rw [eo] at hat7
     refine WL_op (WOp_ld htb (⟨bk12, 0, none⟩ : Addr) false 1 [.slice Ao no co] (by kernel_rfl) hat7 rfl (by decide) ?_)
     refine WL_execS htb 1 [4] [] ⟨[(4, (sS Ao no co))], [], 4, [], [(0, bk2, (.cells 24 [(sS A_g n_g c_g)]))]⟩ (by kernel_rfl) ?_
     refine WL_nil ?_
     refine WQ_code ?_
     refine WC_ret ?_
     exact WQ_done htb [(sS Ao no co)] _ (.inl rfl) rfl (by kernel_rfl) (fun ρ w hW => ⟨Ao, no, co, gd, nr, rfl, hso, hgd, hnr⟩)

end Go.Proofs.Ytfemkbockhpmcaa.Sym
