/- Walks of functions that the laws of this seat reach, printed by a program of this session's. -/
import Derived.Test.YtfemkbockhpmcaaB3
set_option linter.unusedSimpArgs false
set_option linter.unusedVariables false
set_option maxHeartbeats 4000000
namespace Go.Proofs.Ytfemkbockhpmcaa.Sym
open Go Go.Proofs Go.RowKit

theorem none_of {G G' : Heap} (h : Le G G') {b : Nat} (hb : G' b = none) : G b = none := by
  cases e : G b with
  | none => rfl
  | some o => rw [h _ _ e] at hb; cases hb
theorem idxS_len (g : List Rule) (s : ByteArray) : (idxS g s).length ≤ g.length := by
  unfold idxS
  rw [List.length_map]
  exact Nat.le_trans (List.length_filter_le _ _) (by simp)
theorem open_ok {w : World} {G : Heap} (hG : Has w G) {g : (List (ByteArray × (List (List ByteArray))))} {A_g : Option Addr} {n_g : Nat} {c_g : Nat} {tk : (List ByteArray)} {A_tk : Option Addr} {n_tk : Nat} {c_tk : Nat} (h_g : Sl (tPair tStr (tSlice (tSlice tStr))) G A_g n_g c_g g) (h_tk : Sl tStr G A_tk n_tk c_tk tk) (hg : g.length ≤ 1000000) (htk : tk.length ≤ 1000000) :
    Calls Try.prog 39 #[(.agg #[.slice A_g n_g c_g]), (.slice A_tk n_tk c_tk)] w (Ret w G fun v G' => ∃ bk A n c m1 m2, v = .pointer (some ⟨bk, 0, none⟩) ∧ Book G' bk A n c m1 m2 g tk) := by
 have lh_g := h_g.len'
 have lh_tk := h_tk.len'
 refine enter [(.agg [(sS A_g n_g c_g)]), (sS A_tk n_tk c_tk)] 68 Try.func39 rfl rfl rfl rfl hG ?_
 refine WC_seq (WC_region ?_)
 refine WL_execS htb 2 [2, 1] [0] ⟨[(2, (.p 0 0)), (1, (sS A_tk n_tk c_tk))], [(0, (.cells 24 [(sS A_g n_g c_g)]))], 1, [], []⟩ (by kernel_rfl) ?_
 refine WL_nil ?_
 refine WQ_code ?_
 refine WC_seq (WC_region ?_)
 refine WL_execS htb 6 [5, 2, 1] [3, 2, 1, 0] ⟨[(5, (.p 3 0)), (2, (.p 0 0)), (1, (sS A_tk n_tk c_tk))], [(3, (.cells 71 [(sS A_g n_g c_g), (.m 1), (.m 2)])), (2, (.raw (.map #[] 0))), (1, (.raw (.map #[] 0))), (0, (.cells 24 [(sS A_g n_g c_g)]))], 4, [], []⟩ (by kernel_rfl) ?_
 refine WL_nil ?_
 refine WQ_code ?_
 refine WC_seq ?_
 refine WC_seq (WC_region ?_)
 refine WL_execS htb 3 [19, 18, 17, 5, 2] [3, 2, 1, 0] ⟨[(19, (iI 0)), (18, (iN n_tk)), (17, (sS A_tk n_tk c_tk)), (5, (.p 3 0)), (2, (.p 0 0))], [(3, (.cells 71 [(sS A_g n_g c_g), (.m 1), (.m 2)])), (2, (.raw (.map #[] 0))), (1, (.raw (.map #[] 0))), (0, (.cells 24 [(sS A_g n_g c_g)]))], 4, [], []⟩ (by kernel_rfl) ?_
 refine WL_nil ?_
 refine WQ_code ?_
 refine WC_block ?_
 refine WK_freeze 0 rfl rfl rfl rfl ?_
 intro bk2 G1 hle hbk2
 replace h_g := h_g.mono hle
 replace h_tk := h_tk.mono hle
 have hz := FZ.cons (h := 0) hbk2 rfl (FZ.nil _)
 have hle00 := hle
 refine WK_freezeVN 1 rfl rfl rfl rfl ?_
 intro bk4 G3 hle6 hnew5 hbk4
 show WK _ _ ⟨[(19, (iI 0)), (18, (iN n_tk)), (17, (sS A_tk n_tk c_tk)), (5, (.p 3 0)), (2, (.p 0 0))], [(3, (.cells 71 [(sS A_g n_g c_g), (.v (.map (some bk4))), (.m 2)])), (2, (.raw (.map #[] 0)))], 4, [], [(0, bk2, (.cells 24 [(sS A_g n_g c_g)]))]⟩ _
 refine WK_freezeVN 2 rfl rfl rfl rfl ?_
 intro bk8 G7 hle10 hnew9 hbk8
 show WK _ _ ⟨[(19, (iI 0)), (18, (iN n_tk)), (17, (sS A_tk n_tk c_tk)), (5, (.p 3 0)), (2, (.p 0 0))], [(3, (.cells 71 [(sS A_g n_g c_g), (.v (.map (some bk4))), (.v (.map (some bk8)))]))], 4, [], [(0, bk2, (.cells 24 [(sS A_g n_g c_g)]))]⟩ _
 refine WK_freezeVN 3 rfl rfl rfl rfl ?_
 intro bk12 G11 hle14 hnew13 hbk12
 show WK _ _ ⟨[(19, (iI 0)), (18, (iN n_tk)), (17, (sS A_tk n_tk c_tk)), (5, (.v (.pointer (some (⟨bk12, 0, none⟩ : Addr))))), (2, (.p 0 0))], [], 4, [], [(0, bk2, (.cells 24 [(sS A_g n_g c_g)]))]⟩ _
 obtain ⟨Gb, hxb, hleb, hm1n, hm2n, hbkb, hq1, hq2, hmm⟩ := open_base hle6 hnew5 hbk4 hle10 hnew9 hbk8 hle14 hnew13 hbk12
 replace h_g := h_g.mono hxb
 replace h_tk := h_tk.mono hxb
 have hle0 := Le.trans hle00 hxb
 have hbat : At Gb ⟨bk12, 0, none⟩ [.slice A_g n_g c_g, .map (some bk4), .map (some bk8)] := At.of_block hbkb
 have hfz1 : bk2 ≠ bk4 := fun e => by (have h5 := hxb _ _ hbk2; rw [e, hm1n] at h5; cases h5)
 have hfz2 : bk2 ≠ bk8 := fun e => by (have h5 := hxb _ _ hbk2; rw [e, hm2n] at h5; cases h5)
 have hM1 : MapF G11 bk4 strE (tokF (tk.take 0)) := by (rw [List.take_zero, tokF_nil]; exact MapF.empty hq1)
 have hM2 : MapF G11 bk8 strE (fun _ => none) := MapF.empty hq2
 refine WK_keep [19, 18, 17, 5, 2] [] rfl rfl ?_
 refine WK_env [(19, (iN 0)), (18, (iN n_tk)), (17, (sS A_tk n_tk c_tk)), (5, (.v (.pointer (some (⟨bk12, 0, none⟩ : Addr))))), (2, (.p 0 0))] (fun ρ => ⟨rfl, rfl, ⟨rfl, rfl, ⟨rfl, rfl, ⟨rfl, rfl, ⟨rfl, rfl, trivial⟩⟩⟩⟩⟩) ?_
 refine WC_loop (ι := Nat) (fun i G15 => i ≤ n_tk ∧ Le Gb G15 ∧ MapF G15 bk4 strE (tokF (tk.take i)) ∧ MapF G15 bk8 strE (fun _ => none)) (fun i => ⟨[(19, (iN i)), (18, (iN n_tk)), (17, (sS A_tk n_tk c_tk)), (5, (.v (.pointer (some (⟨bk12, 0, none⟩ : Addr))))), (2, (.p 0 0))], [], 4, [], [(0, bk2, (.cells 24 [(sS A_g n_g c_g)]))]⟩) (fun i => n_tk - i) (0) ⟨Nat.zero_le _, hleb, hM1, hM2⟩ rfl ?_
 rintro i G15 hF
 show WC _ _ _ _ _ ⟨[(19, (iN i)), (18, (iN n_tk)), (17, (sS A_tk n_tk c_tk)), (5, (.v (.pointer (some (⟨bk12, 0, none⟩ : Addr))))), (2, (.p 0 0))], [], 4, [], [(0, bk2, (.cells 24 [(sS A_g n_g c_g)]))]⟩ _
 obtain ⟨hi, hleb, hM1, hM2⟩ := hF
 refine WC_seq (WC_region ?_)
 refine WL_execS htb 1 [20, 19, 18, 17, 5, 2] [] ⟨[(20, (bB (decide ((((i : Nat) : Int) : Int) < ((n_tk : Nat) : Int))))), (19, (iN i)), (18, (iN n_tk)), (17, (sS A_tk n_tk c_tk)), (5, (.v (.pointer (some (⟨bk12, 0, none⟩ : Addr))))), (2, (.p 0 0))], [], 4, [], [(0, bk2, (.cells 24 [(sS A_g n_g c_g)]))]⟩ (by kernel_rfl) ?_
 refine WL_nil ?_
 refine WQ_code ?_
 refine WC_seq ?_
 refine WC_cond (b := (decide ((((i : Nat) : Int) : Int) < ((n_tk : Nat) : Int)))) rfl (fun hc => ?_) (fun hc => ?_)
 ·
  replace hc := of_decide_eq_true hc
  refine WC_skip ?_
  refine WQ_code ?_
  refine WC_seq ?_
  refine WC_block ?_
  refine WC_seq (WC_region ?_)
  refine WL_execS htb 1 [21, 19, 18, 17, 5, 2] [] ⟨[(21, (iN i)), (19, (iN i)), (18, (iN n_tk)), (17, (sS A_tk n_tk c_tk)), (5, (.v (.pointer (some (⟨bk12, 0, none⟩ : Addr))))), (2, (.p 0 0))], [], 4, [], [(0, bk2, (.cells 24 [(sS A_g n_g c_g)]))]⟩ (by kernel_rfl) ?_
  obtain ⟨q16, rfl⟩ := h_tk.ptr (by omega)
  obtain ⟨x19, _, hx17, ⟨rfl, hn20⟩, at18⟩ := h_tk.get i (by omega)
  replace at18 : At Gb (q16.add (i * 1)) [.string x19] := at18
  refine WL_op (WOp_idx htb q16 n_tk ((i : Nat) : Int) 1 (by kernel_rfl) (by omega) (by omega) ?_)
  refine WL_op (WOp_ld htb (q16.add (i * 1)) false 1 [.string x19] (by kernel_rfl) (at18.mono hleb) rfl (by decide) ?_)
  refine WL_execS htb 2 [7, 6, 19, 18, 17, 5, 2] [] ⟨[(7, (tS x19)), (6, (iN i)), (19, (iN i)), (18, (iN n_tk)), (17, (sS (some q16) n_tk c_tk)), (5, (.v (.pointer (some (⟨bk12, 0, none⟩ : Addr))))), (2, (.p 0 0))], [], 4, [], [(0, bk2, (.cells 24 [(sS A_g n_g c_g)]))]⟩ (by kernel_rfl) ?_
  refine WL_nil ?_
  refine WQ_code ?_
  refine WC_seq (WC_region ?_)
  refine WL_execS htb 3 [27, 7, 6, 19, 18, 17, 5, 2] [] ⟨[(27, (.v (.pointer (some ((⟨bk12, 0, none⟩ : Addr).add 1))))), (7, (tS x19)), (6, (iN i)), (19, (iN i)), (18, (iN n_tk)), (17, (sS (some q16) n_tk c_tk)), (5, (.v (.pointer (some (⟨bk12, 0, none⟩ : Addr))))), (2, (.p 0 0))], [], 4, [], [(0, bk2, (.cells 24 [(sS A_g n_g c_g)]))]⟩ (by kernel_rfl) ?_
  refine WL_op (WOp_ld htb ((⟨bk12, 0, none⟩ : Addr).add 1) false 1 [.map (some bk4)] (by kernel_rfl) ((hbat.field 1 rfl).mono hleb) rfl (by decide) ?_)
  refine WL_execS htb 1 [29, 28, 7, 6, 19, 18, 17, 5, 2] [] ⟨[(29, (tS x19)), (28, (.v (.map (some bk4)))), (7, (tS x19)), (6, (iN i)), (19, (iN i)), (18, (iN n_tk)), (17, (sS (some q16) n_tk c_tk)), (5, (.v (.pointer (some (⟨bk12, 0, none⟩ : Addr))))), (2, (.p 0 0))], [], 4, [], [(0, bk2, (.cells 24 [(sS A_g n_g c_g)]))]⟩ (by kernel_rfl) ?_
  refine WL_op (WOp_look htb bk4 (tS x19) true 9 (.int .i64 0) (by kernel_rfl) (keyEnc_str (kt := 9) (by kernel_rfl)) x19 (fun ρ => rfl) hM1 (v := ((tokF (tk.take i) x19).getD (.int .i64 0))) rfl (is := ((tokF (tk.take i) x19).isSome)) rfl ?_)
  show WL _ _ _ _ _ _ ⟨[(30, (.tup [(.v (((tokF (tk.take i) x19).getD (.int .i64 0)))), (bB ((tokF (tk.take i) x19).isSome))])), (29, (tS x19)), (28, (.v (.map (some bk4)))), (7, (tS x19)), (6, (iN i)), (19, (iN i)), (18, (iN n_tk)), (17, (sS (some q16) n_tk c_tk)), (5, (.v (.pointer (some (⟨bk12, 0, none⟩ : Addr))))), (2, (.p 0 0))], [], 4, [], [(0, bk2, (.cells 24 [(sS A_g n_g c_g)]))]⟩ _
  refine WL_execS htb 5 [9, 7, 6, 19, 18, 17, 5, 2] [] ⟨[(9, (bB ((tokF (tk.take i) x19).isSome))), (7, (tS x19)), (6, (iN i)), (19, (iN i)), (18, (iN n_tk)), (17, (sS (some q16) n_tk c_tk)), (5, (.v (.pointer (some (⟨bk12, 0, none⟩ : Addr))))), (2, (.p 0 0))], [], 4, [], [(0, bk2, (.cells 24 [(sS A_g n_g c_g)]))]⟩ (by kernel_rfl) ?_
  refine WL_nil ?_
  refine WQ_code ?_
  refine WC_seq (WC_region ?_)
  refine WL_execS htb 2 [34, 7, 6, 19, 18, 17, 5, 2] [] ⟨[(34, (bB (!((tokF (tk.take i) x19).isSome)))), (7, (tS x19)), (6, (iN i)), (19, (iN i)), (18, (iN n_tk)), (17, (sS (some q16) n_tk c_tk)), (5, (.v (.pointer (some (⟨bk12, 0, none⟩ : Addr))))), (2, (.p 0 0))], [], 4, [], [(0, bk2, (.cells 24 [(sS A_g n_g c_g)]))]⟩ (by kernel_rfl) ?_
  refine WL_nil ?_
  refine WQ_code ?_
  refine WC_cond (b := (!((tokF (tk.take i) x19).isSome))) rfl (fun hd => ?_) (fun hd => ?_)
  ·
   rw [Bool.not_eq_true'] at hd
   refine WC_region ?_
   refine WL_execS htb 3 [37, 7, 6, 19, 18, 17, 5, 2] [] ⟨[(37, (.v (.pointer (some ((⟨bk12, 0, none⟩ : Addr).add 1))))), (7, (tS x19)), (6, (iN i)), (19, (iN i)), (18, (iN n_tk)), (17, (sS (some q16) n_tk c_tk)), (5, (.v (.pointer (some (⟨bk12, 0, none⟩ : Addr))))), (2, (.p 0 0))], [], 4, [], [(0, bk2, (.cells 24 [(sS A_g n_g c_g)]))]⟩ (by kernel_rfl) ?_
   refine WL_op (WOp_ld htb ((⟨bk12, 0, none⟩ : Addr).add 1) false 1 [.map (some bk4)] (by kernel_rfl) ((hbat.field 1 rfl).mono hleb) rfl (by decide) ?_)
   refine WL_execS htb 2 [40, 39, 38, 19, 18, 17, 5, 2] [] ⟨[(40, (iN i)), (39, (tS x19)), (38, (.v (.map (some bk4)))), (19, (iN i)), (18, (iN n_tk)), (17, (sS (some q16) n_tk c_tk)), (5, (.v (.pointer (some (⟨bk12, 0, none⟩ : Addr))))), (2, (.p 0 0))], [], 4, [], [(0, bk2, (.cells 24 [(sS A_g n_g c_g)]))]⟩ (by kernel_rfl) ?_
   refine WL_op (WOp_mapG htb bk4 (tS x19) (iN i) 9 (by kernel_rfl) (keyEnc_str (kt := 9) (by kernel_rfl)) x19 (fun ρ => rfl) (.int .i64 ((i : Nat) : Int)) (fun ρ => rfl) hM1 (none_of hle0 hm1n) (fun p hp => by (rcases List.mem_cons.1 hp with rfl | hp; exact hfz1; cases hp)) (fun es clk hM1' => ?_))
   have hM2' := hM2.add (Ne.symm hmm) (.map es clk)
   replace hleb := Le.add' hleb hm1n (.map es clk)
   refine WL_nil ?_
   refine WQ_blk ?_
   refine WQ_code ?_
   refine WC_region ?_
   refine WL_execS htb 2 [19, 18, 17, 5, 2] [] ⟨[(19, (iI (IntKind.i64.wrap (((i : Nat) : Int) + 1)))), (18, (iN n_tk)), (17, (sS (some q16) n_tk c_tk)), (5, (.v (.pointer (some (⟨bk12, 0, none⟩ : Addr))))), (2, (.p 0 0))], [], 4, [], [(0, bk2, (.cells 24 [(sS A_g n_g c_g)]))]⟩ (by kernel_rfl) ?_
   refine WL_nil ?_
   refine WK_env [(19, (iN (i + 1))), (18, (iN n_tk)), (17, (sS (some q16) n_tk c_tk)), (5, (.v (.pointer (some (⟨bk12, 0, none⟩ : Addr))))), (2, (.p 0 0))] (fun ρ => ⟨rfl, (congrArg (Value.int .i64) (by rw [wrap_id (by omega)]; first | rfl | omega)), ⟨rfl, rfl, ⟨rfl, rfl, ⟨rfl, rfl, ⟨rfl, rfl, trivial⟩⟩⟩⟩⟩) ?_
   refine WK_keep [19, 18, 17, 5, 2] [] rfl rfl ?_
   exact WQ_next ((i + 1)) (by show n_tk - (i + 1) < n_tk - i; omega) ⟨by omega, hleb, (by rw [tokF_new hx17 (by simpa using hd)]; exact hM1'), hM2'⟩ (fun ρ a w h => h)
  ·
   rw [Bool.not_eq_false'] at hd
   refine WC_skip ?_
   refine WQ_blk ?_
   refine WQ_code ?_
   refine WC_region ?_
   refine WL_execS htb 2 [19, 18, 17, 5, 2] [] ⟨[(19, (iI (IntKind.i64.wrap (((i : Nat) : Int) + 1)))), (18, (iN n_tk)), (17, (sS (some q16) n_tk c_tk)), (5, (.v (.pointer (some (⟨bk12, 0, none⟩ : Addr))))), (2, (.p 0 0))], [], 4, [], [(0, bk2, (.cells 24 [(sS A_g n_g c_g)]))]⟩ (by kernel_rfl) ?_
   refine WL_nil ?_
   refine WK_env [(19, (iN (i + 1))), (18, (iN n_tk)), (17, (sS (some q16) n_tk c_tk)), (5, (.v (.pointer (some (⟨bk12, 0, none⟩ : Addr))))), (2, (.p 0 0))] (fun ρ => ⟨rfl, (congrArg (Value.int .i64) (by rw [wrap_id (by omega)]; first | rfl | omega)), ⟨rfl, rfl, ⟨rfl, rfl, ⟨rfl, rfl, ⟨rfl, rfl, trivial⟩⟩⟩⟩⟩) ?_
   refine WK_keep [19, 18, 17, 5, 2] [] rfl rfl ?_
   exact WQ_next ((i + 1)) (by show n_tk - (i + 1) < n_tk - i; omega) ⟨by omega, hleb, (by rw [tokF_had hx17 (by simpa using hd)]; exact hM1), hM2⟩ (fun ρ a w h => h)
 ·
  replace hc := of_decide_eq_false hc
  have htk' : tk.take i = tk := List.take_of_length_le (by omega)
  rw [htk'] at hM1
  refine WC_exit ?_
  refine WQ_then_exit ?_
  refine WQ_then_exit ?_
  refine WQ_hit ?_
  refine WQ_code ?_
  refine WC_seq ?_
  refine WC_seq (WC_region ?_)
  refine WL_execS htb 4 [45, 44, 43, 5] [] ⟨[(45, (iI 0)), (44, (iN n_g)), (43, (sS A_g n_g c_g)), (5, (.v (.pointer (some (⟨bk12, 0, none⟩ : Addr)))))], [], 4, [], [(0, bk2, (.cells 24 [(sS A_g n_g c_g)]))]⟩ (by kernel_rfl) ?_
  refine WL_nil ?_
  refine WQ_code ?_
  refine WC_block ?_
  have hRM := RM.start (m1 := bk4) hM2 hm2n
  refine WK_keep [45, 44, 43, 5] [] rfl rfl ?_
  refine WK_env [(45, (iN 0)), (44, (iN n_g)), (43, (sS A_g n_g c_g)), (5, (.v (.pointer (some (⟨bk12, 0, none⟩ : Addr)))))] (fun ρ => ⟨rfl, rfl, ⟨rfl, rfl, ⟨rfl, rfl, ⟨rfl, rfl, trivial⟩⟩⟩⟩) ?_
  refine WC_loop (ι := Nat × (ByteArray → Option Value) × (ByteArray → Nat)) (fun (j, f, bl) G16 => j ≤ n_g ∧ Le Gb G16 ∧ MapF G16 bk4 strE (tokF tk) ∧ RM Gb G16 bk4 bk8 (idxS (g.take j)) f bl) (fun (j, f, bl) => ⟨[(45, (iN j)), (44, (iN n_g)), (43, (sS A_g n_g c_g)), (5, (.v (.pointer (some (⟨bk12, 0, none⟩ : Addr)))))], [], 4, [], [(0, bk2, (.cells 24 [(sS A_g n_g c_g)]))]⟩) (fun (j, f, bl) => n_g - j) (0, (fun _ => none), (fun _ => 0)) ⟨Nat.zero_le _, hleb, hM1, (by rw [List.take_zero]; exact hRM)⟩ rfl ?_
  rintro ⟨j, f, bl⟩ G16 hF
  show WC _ _ _ _ _ ⟨[(45, (iN j)), (44, (iN n_g)), (43, (sS A_g n_g c_g)), (5, (.v (.pointer (some (⟨bk12, 0, none⟩ : Addr)))))], [], 4, [], [(0, bk2, (.cells 24 [(sS A_g n_g c_g)]))]⟩ _
  obtain ⟨hj, hleb, hM1, hRM⟩ := hF
  refine WC_seq (WC_region ?_)
  refine WL_execS htb 1 [46, 45, 44, 43, 5] [] ⟨[(46, (bB (decide ((((j : Nat) : Int) : Int) < ((n_g : Nat) : Int))))), (45, (iN j)), (44, (iN n_g)), (43, (sS A_g n_g c_g)), (5, (.v (.pointer (some (⟨bk12, 0, none⟩ : Addr)))))], [], 4, [], [(0, bk2, (.cells 24 [(sS A_g n_g c_g)]))]⟩ (by kernel_rfl) ?_
  refine WL_nil ?_
  refine WQ_code ?_
  refine WC_seq ?_
  refine WC_cond (b := (decide ((((j : Nat) : Int) : Int) < ((n_g : Nat) : Int)))) rfl (fun hc2 => ?_) (fun hc2 => ?_)
  ·
   replace hc2 := of_decide_eq_true hc2
   refine WC_skip ?_
   refine WQ_code ?_
   refine WC_seq ?_
   refine WC_block ?_
   refine WC_seq (WC_region ?_)
   refine WL_execS htb 1 [47, 45, 44, 43, 5] [] ⟨[(47, (iN j)), (45, (iN j)), (44, (iN n_g)), (43, (sS A_g n_g c_g)), (5, (.v (.pointer (some (⟨bk12, 0, none⟩ : Addr)))))], [], 4, [], [(0, bk2, (.cells 24 [(sS A_g n_g c_g)]))]⟩ (by kernel_rfl) ?_
   obtain ⟨q17, rfl⟩ := h_g.ptr (by omega)
   obtain ⟨⟨x20, x22⟩, _, hx18, ⟨_, _, rfl, ⟨rfl, hn21⟩, hr23⟩, at19⟩ := h_g.get j (by omega)
   obtain ⟨A25, n26, c27, rfl, hs24⟩ := Sl.of hr23
   replace hs24 : Sl (tSlice tStr) _ A25 n26 c27 x22 := hs24
   have lhs24 := hs24.len'
   replace at19 : At Gb (q17.add (j * 2)) [.string x20, .slice A25 n26 c27] := at19
   refine WL_op (WOp_idx htb q17 n_g ((j : Nat) : Int) 2 (by kernel_rfl) (by omega) (by omega) ?_)
   refine WL_op (WOp_ld htb (q17.add (j * 2)) true 2 [.string x20, .slice A25 n26 c27] (by kernel_rfl) (at19.mono hleb) rfl (by decide) ?_)
   refine WL_execS htb 3 [10, 11, 45, 44, 43, 5] [4] ⟨[(10, (iN j)), (11, (.p 4 0)), (45, (iN j)), (44, (iN n_g)), (43, (sS (some q17) n_g c_g)), (5, (.v (.pointer (some (⟨bk12, 0, none⟩ : Addr)))))], [(4, (.cells 34 [(tS x20), (sS A25 n26 c27)]))], 5, [], [(0, bk2, (.cells 24 [(sS (some q17) n_g c_g)]))]⟩ (by kernel_rfl) ?_
   refine WL_nil ?_
   refine WQ_code ?_
   have hlebx := hleb
   have hRMx := hRM
   refine WK_freezeN 4 rfl rfl rfl rfl ?_
   intro bk29 G28 hle hnew30 hbk29
   have hle31 := hle
   replace hleb := Le.trans hleb hle
   replace hM1 := hM1.mono hle
   replace hRM := hRM.mono hle
   show WK _ _ ⟨[(10, (iN j)), (11, (.p 4 0)), (45, (iN j)), (44, (iN n_g)), (43, (sS (some q17) n_g c_g)), (5, (.v (.pointer (some (⟨bk12, 0, none⟩ : Addr)))))], [], 5, [], [(4, bk29, (.cells 34 [(tS x20), (sS A25 n26 c27)])), (0, bk2, (.cells 24 [(sS (some q17) n_g c_g)]))]⟩ _
   obtain ⟨Gd, hbd, hdG, hdb, hdn⟩ := base_add hlebx hle31 hnew30 hbk29
   have hz : FZ Gd [(4, bk29, (.cells 34 [(tS x20), (sS A25 n26 c27)])), (0, bk2, (.cells 24 [(sS (some q17) n_g c_g)]))] := FZ.cons (h := 4) hdb rfl (FZ.cons (h := 0) (hbd _ _ (hxb _ _ hbk2)) rfl (FZ.nil _))
   refine WC_drawG mixed Gd ?_
   refine WD_takeL htb rfl (fun _ _ _ _ _ h => h) hdG [0, 1, 2, 4, 5, 6, 7, 8, 10, 11, 13] (fuel := 6) (listed' := bts 17 11767) (S' := ⟨[(63, (iN j)), (61, (tS x20)), (60, (.p 4 0)), (58, (.v (.pointer (some ((⟨bk12, 0, none⟩ : Addr).add 2))))), (57, (.v (.pointer (some (⟨bk12, 0, none⟩ : Addr))))), (56, (.v (.pointer (some (⟨bk12, 0, none⟩ : Addr))))), (55, (tS x20)), (54, (.p 4 0)), (52, (.v (.pointer (some ((⟨bk12, 0, none⟩ : Addr).add 2))))), (51, (.v (.pointer (some (⟨bk12, 0, none⟩ : Addr))))), (50, (.v (.pointer (some (⟨bk12, 0, none⟩ : Addr))))), (10, (iN j)), (11, (.p 4 0)), (45, (iN j)), (44, (iN n_g)), (43, (sS (some q17) n_g c_g)), (5, (.v (.pointer (some (⟨bk12, 0, none⟩ : Addr)))))], [], 5, [], [(4, bk29, (.cells 34 [(tS x20), (sS A25 n26 c27)])), (0, bk2, (.cells 24 [(sS (some q17) n_g c_g)]))]⟩) hz (by kernel_rfl) rfl ?_
   refine WD_ld htb 3 (by rfl) rfl (by decide +kernel) (fun _ _ _ _ _ h => h) hdG ((⟨bk12, 0, none⟩ : Addr).add 2) false 1 [.map (some bk8)] (by kernel_rfl) ((hbat.field 2 rfl).mono hbd) rfl (by decide) ?_
   refine WD_ld htb 9 (by rfl) rfl (by decide +kernel) (fun _ _ _ _ _ h => h) hdG ((⟨bk12, 0, none⟩ : Addr).add 2) false 1 [.map (some bk8)] (by kernel_rfl) ((hbat.field 2 rfl).mono hbd) rfl (by decide) ?_
   refine WD_two 12 14 (by rfl) (by rfl) (by decide +kernel) ?_ ?_
   ·
    skip
    refine WOp_look htb bk8 (tS x20) false 9 (.slice none 0 0) (by kernel_rfl) (keyEnc_str (kt := 9) (by kernel_rfl)) x20 (fun ρ => rfl) hRM.map (v := ((f x20).getD (.slice none 0 0))) rfl (is := ((f x20).isSome)) rfl (WD_on hdG ?_)
    show WD _ _ _ _ _ _ _ _ _ ⟨[(62, (.v (((f x20).getD (.slice none 0 0))))), (59, (.v (.map (some bk8)))), (53, (.v (.map (some bk8)))), (63, (iN j)), (61, (tS x20)), (60, (.p 4 0)), (58, (.v (.pointer (some ((⟨bk12, 0, none⟩ : Addr).add 2))))), (57, (.v (.pointer (some (⟨bk12, 0, none⟩ : Addr))))), (56, (.v (.pointer (some (⟨bk12, 0, none⟩ : Addr))))), (55, (tS x20)), (54, (.p 4 0)), (52, (.v (.pointer (some ((⟨bk12, 0, none⟩ : Addr).add 2))))), (51, (.v (.pointer (some (⟨bk12, 0, none⟩ : Addr))))), (50, (.v (.pointer (some (⟨bk12, 0, none⟩ : Addr))))), (10, (iN j)), (11, (.p 4 0)), (45, (iN j)), (44, (iN n_g)), (43, (sS (some q17) n_g c_g)), (5, (.v (.pointer (some (⟨bk12, 0, none⟩ : Addr)))))], [], 5, [], [(4, bk29, (.cells 34 [(tS x20), (sS A25 n26 c27)])), (0, bk2, (.cells 24 [(sS (some q17) n_g c_g)]))]⟩
    refine WD_one 14 (by rfl) (by decide +kernel) (WOp_step htb (S' := ⟨[(64, (.s 5 1 1)), (62, (.v (((f x20).getD (.slice none 0 0))))), (59, (.v (.map (some bk8)))), (53, (.v (.map (some bk8)))), (63, (iN j)), (61, (tS x20)), (60, (.p 4 0)), (58, (.v (.pointer (some ((⟨bk12, 0, none⟩ : Addr).add 2))))), (57, (.v (.pointer (some (⟨bk12, 0, none⟩ : Addr))))), (56, (.v (.pointer (some (⟨bk12, 0, none⟩ : Addr))))), (55, (tS x20)), (54, (.p 4 0)), (52, (.v (.pointer (some ((⟨bk12, 0, none⟩ : Addr).add 2))))), (51, (.v (.pointer (some (⟨bk12, 0, none⟩ : Addr))))), (50, (.v (.pointer (some (⟨bk12, 0, none⟩ : Addr))))), (10, (iN j)), (11, (.p 4 0)), (45, (iN j)), (44, (iN n_g)), (43, (sS (some q17) n_g c_g)), (5, (.v (.pointer (some (⟨bk12, 0, none⟩ : Addr)))))], [(5, (.cells 3 [(iN j)]))], 6, [], [(4, bk29, (.cells 34 [(tS x20), (sS A25 n26 c27)])), (0, bk2, (.cells 24 [(sS (some q17) n_g c_g)]))]⟩) (by kernel_rfl) (WD_on hdG ?_))
    refine WK_freezeV 5 rfl rfl rfl rfl ?_
    intro bk33 G32 hle hbk33
    replace hleb := Le.trans hleb hle
    replace hM1 := hM1.mono hle
    replace hRM := hRM.mono hle
    replace hdG := Le.trans hdG hle
    show WK _ _ ⟨[(64, (sS (some ⟨bk33, 0, none⟩) 1 1)), (62, (.v (((f x20).getD (.slice none 0 0))))), (59, (.v (.map (some bk8)))), (53, (.v (.map (some bk8)))), (63, (iN j)), (61, (tS x20)), (60, (.p 4 0)), (58, (.v (.pointer (some ((⟨bk12, 0, none⟩ : Addr).add 2))))), (57, (.v (.pointer (some (⟨bk12, 0, none⟩ : Addr))))), (56, (.v (.pointer (some (⟨bk12, 0, none⟩ : Addr))))), (55, (tS x20)), (54, (.p 4 0)), (52, (.v (.pointer (some ((⟨bk12, 0, none⟩ : Addr).add 2))))), (51, (.v (.pointer (some (⟨bk12, 0, none⟩ : Addr))))), (50, (.v (.pointer (some (⟨bk12, 0, none⟩ : Addr))))), (10, (iN j)), (11, (.p 4 0)), (45, (iN j)), (44, (iN n_g)), (43, (sS (some q17) n_g c_g)), (5, (.v (.pointer (some (⟨bk12, 0, none⟩ : Addr)))))], [], 6, [], [(4, bk29, (.cells 34 [(tS x20), (sS A25 n26 c27)])), (0, bk2, (.cells 24 [(sS (some q17) n_g c_g)]))]⟩ _
    have hs34 : Sl (tInt .i64) G32 (some ⟨bk33, 0, none⟩) 1 1 [((j : Nat) : Int)] := Sl.lit (cs := [.int .i64 ((j : Nat) : Int)]) (RepsL.cons' (rep_int _ (x := ((j : Nat) : Int)) (by omega)) .nil) hbk33 rfl (by unfold big; omega)
    have lhs34 := hs34.len'
    obtain ⟨capx, arrx, hgv, hgo, hge, hgb⟩ := hRM.get x20
    have hixl := idxS_len (g.take j) x20; rw [List.length_take] at hixl
    have hnb : decide ((idxS (g.take j) x20) = []) = false → bk29 ≠ bl x20 := fun hzz e => by (have h5 := hdG _ _ hdb; rw [e, (hgb hzz).1] at h5; simp [OB.obj, OB.den] at h5)
    have hn0 : decide ((idxS (g.take j) x20) = []) = false → bk2 ≠ bl x20 := fun hzz e => by (have h5 := hxb _ _ hbk2; rw [e, (hgb hzz).2.1] at h5; cases h5)
    refine WD_one 15 (by rfl) (by decide +kernel) (WOp_appendG htb ((f x20).getD (.slice none 0 0)) (some ⟨bk33, 0, none⟩) 1 3 1 8 (by kernel_rfl) (decide ((idxS (g.take j) x20) = [])) (bl x20) capx (arr := arrx) (fun hzz => ⟨(hgb hzz).1, none_of hle0 (hgb hzz).2.1, (fun p hp => by (rcases List.mem_cons.1 hp with rfl | hp; exact hnb hzz; rcases List.mem_cons.1 hp with rfl | hp; exact hn0 hzz; cases hp))⟩) (tInt .i64) (xs := (idxS (g.take j) x20)) (ys := [((j : Nat) : Int)]) hgv hgo hge hs34.row rfl (by simp) rfl (by decide) (by simp only [List.length_cons, List.length_nil]; omega) (by unfold big; simp only [List.length_cons, List.length_nil]; omega) (fun b' arr' cap' hbb hoo => (WD_on (RM.base hRM hdG (fun hzz => hdn _ (hgb hzz).2.1 (Ne.symm (hnb hzz))) hbb) ?_)))
    show WD _ _ _ _ _ _ _ _ _ ⟨[(65, (sS (some ⟨b', 0, none⟩) (((idxS (g.take j) x20) ++ [((j : Nat) : Int)]).length) cap')), (64, (sS (some ⟨bk33, 0, none⟩) 1 1)), (62, (.v (((f x20).getD (.slice none 0 0))))), (59, (.v (.map (some bk8)))), (53, (.v (.map (some bk8)))), (63, (iN j)), (61, (tS x20)), (60, (.p 4 0)), (58, (.v (.pointer (some ((⟨bk12, 0, none⟩ : Addr).add 2))))), (57, (.v (.pointer (some (⟨bk12, 0, none⟩ : Addr))))), (56, (.v (.pointer (some (⟨bk12, 0, none⟩ : Addr))))), (55, (tS x20)), (54, (.p 4 0)), (52, (.v (.pointer (some ((⟨bk12, 0, none⟩ : Addr).add 2))))), (51, (.v (.pointer (some (⟨bk12, 0, none⟩ : Addr))))), (50, (.v (.pointer (some (⟨bk12, 0, none⟩ : Addr))))), (10, (iN j)), (11, (.p 4 0)), (45, (iN j)), (44, (iN n_g)), (43, (sS (some q17) n_g c_g)), (5, (.v (.pointer (some (⟨bk12, 0, none⟩ : Addr)))))], [], 6, [], [(4, bk29, (.cells 34 [(tS x20), (sS A25 n26 c27)])), (0, bk2, (.cells 24 [(sS (some q17) n_g c_g)]))]⟩
    have hdm : bk29 ≠ bk8 := fun e => by (obtain ⟨_, _, _, q5, _⟩ := hRM.map; have h5 := hdG _ _ hdb; rw [e, q5] at h5; simp [OB.obj, OB.den] at h5)
    have hdG2 := RM.base hRM hdG (fun hzz => hdn _ (hgb hzz).2.1 (Ne.symm (hnb hzz))) (o := .cells arr' 3 (0, 0)) hbb
    refine WD_one 16 (by rfl) (by decide +kernel) (WOp_mapG htb bk8 (tS x20) (sS (some ⟨b', 0, none⟩) (((idxS (g.take j) x20) ++ [((j : Nat) : Int)]).length) cap') 9 (by kernel_rfl) (keyEnc_str (kt := 9) (by kernel_rfl)) x20 (fun ρ => rfl) (.slice (some ⟨b', 0, none⟩) ((idxS (g.take j) x20) ++ [((j : Nat) : Int)]).length cap') (fun ρ => rfl) (hRM.mid hbb) (none_of hle0 hm2n) (fun p hp => by (rcases List.mem_cons.1 hp with rfl | hp; exact hdm; rcases List.mem_cons.1 hp with rfl | hp; exact hfz2; cases hp)) (fun es clk hmm2 => WD_on (Le.add' hdG2 (hdn _ hm2n (Ne.symm hdm)) _) ?_))
    obtain ⟨hRM', hleb', hM1'⟩ := hRM.step hleb (ix' := idxS (g.take (j + 1))) (fun s => idxS_snoc hx18 s) hM1 hmm rfl hbb hoo hmm2
    refine WD_done (by decide +kernel) ?_
    refine WK_keep [45, 44, 43, 5] [] rfl rfl ?_
    refine WQ_blk ?_
    refine WQ_code ?_
    refine WC_region ?_
    refine WL_execS htb 2 [45, 44, 43, 5] [] ⟨[(45, (iI (IntKind.i64.wrap (((j : Nat) : Int) + 1)))), (44, (iN n_g)), (43, (sS (some q17) n_g c_g)), (5, (.v (.pointer (some (⟨bk12, 0, none⟩ : Addr)))))], [], 6, [], [(4, bk29, (.cells 34 [(tS x20), (sS A25 n26 c27)])), (0, bk2, (.cells 24 [(sS (some q17) n_g c_g)]))]⟩ (by kernel_rfl) ?_
    refine WL_nil ?_
    refine WK_env [(45, (iN (j + 1))), (44, (iN n_g)), (43, (sS (some q17) n_g c_g)), (5, (.v (.pointer (some (⟨bk12, 0, none⟩ : Addr)))))] (fun ρ => ⟨rfl, (congrArg (Value.int .i64) (by rw [wrap_id (by omega)]; first | rfl | omega)), ⟨rfl, rfl, ⟨rfl, rfl, ⟨rfl, rfl, trivial⟩⟩⟩⟩) ?_
    refine WK_keep [45, 44, 43, 5] [] rfl rfl ?_
    refine WK_dropfz 1 ?_
    show WK _ _ ⟨_, _, _, _, [(0, bk2, (.cells 24 [(sS (some q17) n_g c_g)]))]⟩ _
    exact WQ_next ((j + 1), _, _) (by show n_g - (j + 1) < n_g - j; omega) ⟨by omega, hleb', hM1', hRM'⟩ (fun ρ a w h => h)
   ·
    skip
    refine WOp_step htb (S' := ⟨[(64, (.s 5 1 1)), (59, (.v (.map (some bk8)))), (53, (.v (.map (some bk8)))), (63, (iN j)), (61, (tS x20)), (60, (.p 4 0)), (58, (.v (.pointer (some ((⟨bk12, 0, none⟩ : Addr).add 2))))), (57, (.v (.pointer (some (⟨bk12, 0, none⟩ : Addr))))), (56, (.v (.pointer (some (⟨bk12, 0, none⟩ : Addr))))), (55, (tS x20)), (54, (.p 4 0)), (52, (.v (.pointer (some ((⟨bk12, 0, none⟩ : Addr).add 2))))), (51, (.v (.pointer (some (⟨bk12, 0, none⟩ : Addr))))), (50, (.v (.pointer (some (⟨bk12, 0, none⟩ : Addr))))), (10, (iN j)), (11, (.p 4 0)), (45, (iN j)), (44, (iN n_g)), (43, (sS (some q17) n_g c_g)), (5, (.v (.pointer (some (⟨bk12, 0, none⟩ : Addr)))))], [(5, (.cells 3 [(iN j)]))], 6, [], [(4, bk29, (.cells 34 [(tS x20), (sS A25 n26 c27)])), (0, bk2, (.cells 24 [(sS (some q17) n_g c_g)]))]⟩) (by kernel_rfl) (WD_on hdG ?_)
    refine WD_one 12 (by rfl) (by decide +kernel) (WOp_look htb bk8 (tS x20) false 9 (.slice none 0 0) (by kernel_rfl) (keyEnc_str (kt := 9) (by kernel_rfl)) x20 (fun ρ => rfl) hRM.map (v := ((f x20).getD (.slice none 0 0))) rfl (is := ((f x20).isSome)) rfl (WD_on hdG ?_))
    show WD _ _ _ _ _ _ _ _ _ ⟨[(62, (.v (((f x20).getD (.slice none 0 0))))), (64, (.s 5 1 1)), (59, (.v (.map (some bk8)))), (53, (.v (.map (some bk8)))), (63, (iN j)), (61, (tS x20)), (60, (.p 4 0)), (58, (.v (.pointer (some ((⟨bk12, 0, none⟩ : Addr).add 2))))), (57, (.v (.pointer (some (⟨bk12, 0, none⟩ : Addr))))), (56, (.v (.pointer (some (⟨bk12, 0, none⟩ : Addr))))), (55, (tS x20)), (54, (.p 4 0)), (52, (.v (.pointer (some ((⟨bk12, 0, none⟩ : Addr).add 2))))), (51, (.v (.pointer (some (⟨bk12, 0, none⟩ : Addr))))), (50, (.v (.pointer (some (⟨bk12, 0, none⟩ : Addr))))), (10, (iN j)), (11, (.p 4 0)), (45, (iN j)), (44, (iN n_g)), (43, (sS (some q17) n_g c_g)), (5, (.v (.pointer (some (⟨bk12, 0, none⟩ : Addr)))))], [(5, (.cells 3 [(iN j)]))], 6, [], [(4, bk29, (.cells 34 [(tS x20), (sS A25 n26 c27)])), (0, bk2, (.cells 24 [(sS (some q17) n_g c_g)]))]⟩
    refine WK_freezeV 5 rfl rfl rfl rfl ?_
    intro bk33 G32 hle hbk33
    replace hleb := Le.trans hleb hle
    replace hM1 := hM1.mono hle
    replace hRM := hRM.mono hle
    replace hdG := Le.trans hdG hle
    show WK _ _ ⟨[(62, (.v (((f x20).getD (.slice none 0 0))))), (64, (sS (some ⟨bk33, 0, none⟩) 1 1)), (59, (.v (.map (some bk8)))), (53, (.v (.map (some bk8)))), (63, (iN j)), (61, (tS x20)), (60, (.p 4 0)), (58, (.v (.pointer (some ((⟨bk12, 0, none⟩ : Addr).add 2))))), (57, (.v (.pointer (some (⟨bk12, 0, none⟩ : Addr))))), (56, (.v (.pointer (some (⟨bk12, 0, none⟩ : Addr))))), (55, (tS x20)), (54, (.p 4 0)), (52, (.v (.pointer (some ((⟨bk12, 0, none⟩ : Addr).add 2))))), (51, (.v (.pointer (some (⟨bk12, 0, none⟩ : Addr))))), (50, (.v (.pointer (some (⟨bk12, 0, none⟩ : Addr))))), (10, (iN j)), (11, (.p 4 0)), (45, (iN j)), (44, (iN n_g)), (43, (sS (some q17) n_g c_g)), (5, (.v (.pointer (some (⟨bk12, 0, none⟩ : Addr)))))], [], 6, [], [(4, bk29, (.cells 34 [(tS x20), (sS A25 n26 c27)])), (0, bk2, (.cells 24 [(sS (some q17) n_g c_g)]))]⟩ _
    have hs34 : Sl (tInt .i64) G32 (some ⟨bk33, 0, none⟩) 1 1 [((j : Nat) : Int)] := Sl.lit (cs := [.int .i64 ((j : Nat) : Int)]) (RepsL.cons' (rep_int _ (x := ((j : Nat) : Int)) (by omega)) .nil) hbk33 rfl (by unfold big; omega)
    have lhs34 := hs34.len'
    obtain ⟨capx, arrx, hgv, hgo, hge, hgb⟩ := hRM.get x20
    have hixl := idxS_len (g.take j) x20; rw [List.length_take] at hixl
    have hnb : decide ((idxS (g.take j) x20) = []) = false → bk29 ≠ bl x20 := fun hzz e => by (have h5 := hdG _ _ hdb; rw [e, (hgb hzz).1] at h5; simp [OB.obj, OB.den] at h5)
    have hn0 : decide ((idxS (g.take j) x20) = []) = false → bk2 ≠ bl x20 := fun hzz e => by (have h5 := hxb _ _ hbk2; rw [e, (hgb hzz).2.1] at h5; cases h5)
    refine WD_one 15 (by rfl) (by decide +kernel) (WOp_appendG htb ((f x20).getD (.slice none 0 0)) (some ⟨bk33, 0, none⟩) 1 3 1 8 (by kernel_rfl) (decide ((idxS (g.take j) x20) = [])) (bl x20) capx (arr := arrx) (fun hzz => ⟨(hgb hzz).1, none_of hle0 (hgb hzz).2.1, (fun p hp => by (rcases List.mem_cons.1 hp with rfl | hp; exact hnb hzz; rcases List.mem_cons.1 hp with rfl | hp; exact hn0 hzz; cases hp))⟩) (tInt .i64) (xs := (idxS (g.take j) x20)) (ys := [((j : Nat) : Int)]) hgv hgo hge hs34.row rfl (by simp) rfl (by decide) (by simp only [List.length_cons, List.length_nil]; omega) (by unfold big; simp only [List.length_cons, List.length_nil]; omega) (fun b' arr' cap' hbb hoo => (WD_on (RM.base hRM hdG (fun hzz => hdn _ (hgb hzz).2.1 (Ne.symm (hnb hzz))) hbb) ?_)))
    show WD _ _ _ _ _ _ _ _ _ ⟨[(65, (sS (some ⟨b', 0, none⟩) (((idxS (g.take j) x20) ++ [((j : Nat) : Int)]).length) cap')), (62, (.v (((f x20).getD (.slice none 0 0))))), (64, (sS (some ⟨bk33, 0, none⟩) 1 1)), (59, (.v (.map (some bk8)))), (53, (.v (.map (some bk8)))), (63, (iN j)), (61, (tS x20)), (60, (.p 4 0)), (58, (.v (.pointer (some ((⟨bk12, 0, none⟩ : Addr).add 2))))), (57, (.v (.pointer (some (⟨bk12, 0, none⟩ : Addr))))), (56, (.v (.pointer (some (⟨bk12, 0, none⟩ : Addr))))), (55, (tS x20)), (54, (.p 4 0)), (52, (.v (.pointer (some ((⟨bk12, 0, none⟩ : Addr).add 2))))), (51, (.v (.pointer (some (⟨bk12, 0, none⟩ : Addr))))), (50, (.v (.pointer (some (⟨bk12, 0, none⟩ : Addr))))), (10, (iN j)), (11, (.p 4 0)), (45, (iN j)), (44, (iN n_g)), (43, (sS (some q17) n_g c_g)), (5, (.v (.pointer (some (⟨bk12, 0, none⟩ : Addr)))))], [], 6, [], [(4, bk29, (.cells 34 [(tS x20), (sS A25 n26 c27)])), (0, bk2, (.cells 24 [(sS (some q17) n_g c_g)]))]⟩
    have hdm : bk29 ≠ bk8 := fun e => by (obtain ⟨_, _, _, q5, _⟩ := hRM.map; have h5 := hdG _ _ hdb; rw [e, q5] at h5; simp [OB.obj, OB.den] at h5)
    have hdG2 := RM.base hRM hdG (fun hzz => hdn _ (hgb hzz).2.1 (Ne.symm (hnb hzz))) (o := .cells arr' 3 (0, 0)) hbb
    refine WD_one 16 (by rfl) (by decide +kernel) (WOp_mapG htb bk8 (tS x20) (sS (some ⟨b', 0, none⟩) (((idxS (g.take j) x20) ++ [((j : Nat) : Int)]).length) cap') 9 (by kernel_rfl) (keyEnc_str (kt := 9) (by kernel_rfl)) x20 (fun ρ => rfl) (.slice (some ⟨b', 0, none⟩) ((idxS (g.take j) x20) ++ [((j : Nat) : Int)]).length cap') (fun ρ => rfl) (hRM.mid hbb) (none_of hle0 hm2n) (fun p hp => by (rcases List.mem_cons.1 hp with rfl | hp; exact hdm; rcases List.mem_cons.1 hp with rfl | hp; exact hfz2; cases hp)) (fun es clk hmm2 => WD_on (Le.add' hdG2 (hdn _ hm2n (Ne.symm hdm)) _) ?_))
    obtain ⟨hRM', hleb', hM1'⟩ := hRM.step hleb (ix' := idxS (g.take (j + 1))) (fun s => idxS_snoc hx18 s) hM1 hmm rfl hbb hoo hmm2
    refine WD_done (by decide +kernel) ?_
    refine WK_keep [45, 44, 43, 5] [] rfl rfl ?_
    refine WQ_blk ?_
    refine WQ_code ?_
    refine WC_region ?_
    refine WL_execS htb 2 [45, 44, 43, 5] [] ⟨[(45, (iI (IntKind.i64.wrap (((j : Nat) : Int) + 1)))), (44, (iN n_g)), (43, (sS (some q17) n_g c_g)), (5, (.v (.pointer (some (⟨bk12, 0, none⟩ : Addr)))))], [], 6, [], [(4, bk29, (.cells 34 [(tS x20), (sS A25 n26 c27)])), (0, bk2, (.cells 24 [(sS (some q17) n_g c_g)]))]⟩ (by kernel_rfl) ?_
    refine WL_nil ?_
    refine WK_env [(45, (iN (j + 1))), (44, (iN n_g)), (43, (sS (some q17) n_g c_g)), (5, (.v (.pointer (some (⟨bk12, 0, none⟩ : Addr)))))] (fun ρ => ⟨rfl, (congrArg (Value.int .i64) (by rw [wrap_id (by omega)]; first | rfl | omega)), ⟨rfl, rfl, ⟨rfl, rfl, ⟨rfl, rfl, trivial⟩⟩⟩⟩) ?_
    refine WK_keep [45, 44, 43, 5] [] rfl rfl ?_
    refine WK_dropfz 1 ?_
    show WK _ _ ⟨_, _, _, _, [(0, bk2, (.cells 24 [(sS (some q17) n_g c_g)]))]⟩ _
    exact WQ_next ((j + 1), _, _) (by show n_g - (j + 1) < n_g - j; omega) ⟨by omega, hleb', hM1', hRM'⟩ (fun ρ a w h => h)
  ·
   replace hc2 := of_decide_eq_false hc2
   refine WC_exit ?_
   refine WQ_then_exit ?_
   refine WQ_then_exit ?_
   refine WQ_hit ?_
   refine WQ_code ?_
   refine WC_seq (WC_region ?_)
   refine WL_execS htb 2 [4] [] ⟨[(4, (.v (.pointer (some (⟨bk12, 0, none⟩ : Addr)))))], [], 4, [], [(0, bk2, (.cells 24 [(sS A_g n_g c_g)]))]⟩ (by kernel_rfl) ?_
   refine WL_nil ?_
   refine WQ_code ?_
   refine WC_ret ?_
   have hta : g.take j = g := List.take_of_length_le (by omega)
   rw [hta] at hRM
   exact WQ_done htb [(.v (.pointer (some (⟨bk12, 0, none⟩ : Addr))))] _ (.inl rfl) rfl (by kernel_rfl) (fun ρ w hW => ⟨bk12, _, _, _, bk4, bk8, rfl, ⟨hbat.mono hleb, h_g.mono hleb, hM1, hRM.read⟩⟩)

end Go.Proofs.Ytfemkbockhpmcaa.Sym
