/- Walks of functions that the laws of this seat reach, printed by a program of this session's. -/
import Derived.Test.YtbpajkjolhoflaaT15
set_option linter.unusedSimpArgs false
set_option linter.unusedVariables false
set_option maxHeartbeats 4000000
namespace Go.Proofs.Ytbpajkjolhoflaa.Sym
open Go Go.Proofs Go.RowKit





def fewA (ar : List (List Int)) : Nat := (ar.map fun al => 1 + al.length).sum
def fewN (rs : List (List (List Int))) : Nat := (rs.map fewA).sum
def FitR (rs : List (List (List Int))) : Prop := ∀ ar ∈ rs, ∀ al ∈ ar, al.length ≤ 140737488355328
theorem sum_succ {α : Type} {f : α → Nat} {xs : List α} {i : Nat} {x : α} (h : xs[i]? = some x) : ((xs.take (i + 1)).map f).sum = ((xs.take i).map f).sum + f x := by
  rw [take_succ' h, List.map_append, List.sum_append]; simp
theorem sum_take {α : Type} {f : α → Nat} (xs : List α) (i : Nat) : ((xs.take i).map f).sum ≤ (xs.map f).sum := by
  have h : xs.map f = (xs.take i).map f ++ (xs.drop i).map f := by rw [← List.map_append, List.take_append_drop]
  rw [h, List.sum_append]; omega
theorem few_le {rs : List (List (List Int))} {ar : List (List Int)} {al : List Int} {i j : Nat} (h1 : rs[i]? = some ar) (h2 : ar[j]? = some al) : fewN (rs.take i) + fewA (ar.take j) + (1 + al.length) ≤ fewN rs := by
  have a : fewA (ar.take (j + 1)) = fewA (ar.take j) + (1 + al.length) := sum_succ h2
  have b : fewA (ar.take (j + 1)) ≤ fewA ar := sum_take ar (j + 1)
  have c : fewN (rs.take (i + 1)) = fewN (rs.take i) + fewA ar := sum_succ h1
  have d : fewN (rs.take (i + 1)) ≤ fewN rs := sum_take rs (i + 1)
  omega
theorem sum_mem {α : Type} {f : α → Nat} : ∀ {xs : List α} {x : α}, x ∈ xs → f x ≤ (xs.map f).sum
  | y :: xs, x, h => by
    simp only [List.map_cons, List.sum_cons]
    rcases List.mem_cons.1 h with rfl | h
    · omega
    · have := sum_mem (f := f) h; omega
theorem len_sum {α : Type} {f : α → Nat} (hf : ∀ x, 1 ≤ f x) : ∀ xs : List α, xs.length ≤ (xs.map f).sum
  | [] => by simp
  | x :: xs => by simp only [List.map_cons, List.sum_cons, List.length_cons]; have := len_sum hf xs; have := hf x; omega
theorem few_small {t n : Nat} {rs : List (List (List Int))} (h : ((t + n + fewN rs : Nat) : Int) ≤ 400) : SmallR rs := by
  intro ar har
  have h1 : fewA ar ≤ fewN rs := sum_mem (f := fewA) har
  have h2 : ar.length ≤ fewA ar := len_sum (f := fun al : List Int => 1 + al.length) (fun x => by show 1 ≤ 1 + x.length; omega) ar
  refine ⟨by omega, fun al hal => ?_⟩
  have h3 : 1 + al.length ≤ fewA ar := sum_mem (f := fun al : List Int => 1 + al.length) hal
  omega
theorem few_ok {w : World} {G : Heap} (hG : Has w G) {tk : (List ByteArray)} {A_tk : Option Addr} {n_tk : Nat} {c_tk : Nat} {nm : (List ByteArray)} {A_nm : Option Addr} {n_nm : Nat} {c_nm : Nat} {rs : (List (List (List Int)))} {A_rs : Option Addr} {n_rs : Nat} {c_rs : Nat} {most : Int} (h_tk : Sl tStr G A_tk n_tk c_tk tk) (h_nm : Sl tStr G A_nm n_nm c_nm nm) (h_rs : Sl (tSlice (tSlice (tInt .i64))) G A_rs n_rs c_rs rs) (h_most : -9223372036854775808 ≤ most ∧ most ≤ 9223372036854775807) (hB1 : tk.length ≤ 140737488355328) (hB2 : nm.length ≤ 140737488355328) (hB3 : FitR rs) (hm : most ≤ 1000000) :
    Calls Try.prog 27 #[(.agg #[.slice A_tk n_tk c_tk, .slice A_nm n_nm c_nm, .slice A_rs n_rs c_rs]), (.int .i64 most)] w (Ret w G fun v G' => ∃ (b : Bool), v = .bool b ∧ (b = decide (((tk.length + nm.length + fewN rs : Nat) : Int) ≤ most))) := by
  have lh_tk := h_tk.len'
  have lh_nm := h_nm.len'
  have lh_rs := h_rs.len'
  refine enter [(.agg [(sS A_tk n_tk c_tk), (sS A_nm n_nm c_nm), (sS A_rs n_rs c_rs)]), (iI most)] 43 Try.func27 rfl rfl rfl rfl hG ?_
  refine WC_seq (WC_region ?_)
  refine WL_execS htb 2 [2, 1] [0] ⟨[(2, (.p 0 0)), (1, (iI most))], [(0, (.cells 35 [(sS A_tk n_tk c_tk), (sS A_nm n_nm c_nm), (sS A_rs n_rs c_rs)]))], 1, [], []⟩ (by kernel_rfl) ?_
  refine WL_nil ?_
  refine WQ_code ?_
  refine WC_seq (WC_region ?_)
  refine WL_execS htb 8 [5, 2, 1] [0] ⟨[(5, (iI (IntKind.i64.wrap (((n_tk : Nat) : Int) + ((n_nm : Nat) : Int))))), (2, (.p 0 0)), (1, (iI most))], [(0, (.cells 35 [(sS A_tk n_tk c_tk), (sS A_nm n_nm c_nm), (sS A_rs n_rs c_rs)]))], 1, [], []⟩ (by kernel_rfl) ?_
  refine WL_nil ?_
  refine WQ_code ?_
  refine WC_seq ?_
  refine WC_seq (WC_region ?_)
  refine WL_execS htb 4 [20, 19, 18, 5, 1] [] ⟨[(20, (iI 0)), (19, (iN n_rs)), (18, (sS A_rs n_rs c_rs)), (5, (iI (IntKind.i64.wrap (((n_tk : Nat) : Int) + ((n_nm : Nat) : Int))))), (1, (iI most))], [], 1, [], []⟩ (by kernel_rfl) ?_
  refine WL_nil ?_
  refine WQ_code ?_
  refine WC_block ?_
  refine WK_env [(20, (iI 0)), (19, (iN n_rs)), (18, (sS A_rs n_rs c_rs)), (5, (iN (tk.length + nm.length))), (1, (iI most))] (fun ρ => ⟨rfl, rfl, ⟨rfl, rfl, ⟨rfl, rfl, ⟨rfl, (congrArg (Value.int .i64) (by rw [wrap_id (by omega)]; omega)), ⟨rfl, rfl, trivial⟩⟩⟩⟩⟩) ?_
  refine WK_env [(20, (iI 0)), (19, (iN n_rs)), (18, (sS A_rs n_rs c_rs)), (5, (iN (tk.length + nm.length + fewN (rs.take 0)))), (1, (iI most))] (fun ρ => ⟨rfl, rfl, ⟨rfl, rfl, ⟨rfl, rfl, ⟨rfl, rfl, ⟨rfl, rfl, trivial⟩⟩⟩⟩⟩) ?_
  refine WK_keep [20, 19, 18, 5, 1] [] rfl rfl ?_
  refine WK_env [(20, (iN 0)), (19, (iN n_rs)), (18, (sS A_rs n_rs c_rs)), (5, (iN (tk.length + nm.length + fewN (rs.take 0)))), (1, (iI most))] (fun ρ => ⟨rfl, rfl, ⟨rfl, rfl, ⟨rfl, rfl, ⟨rfl, rfl, ⟨rfl, rfl, trivial⟩⟩⟩⟩⟩) ?_
  refine WC_loop (ι := Nat) (fun i G1 => Le G G1 ∧ (i ≤ n_rs ∧ (tk.length + nm.length + fewN (rs.take i) ≤ tk.length + nm.length ∨ ((tk.length + nm.length + fewN (rs.take i) : Nat) : Int) ≤ most))) (fun i => ⟨[(20, (iN i)), (19, (iN n_rs)), (18, (sS A_rs n_rs c_rs)), (5, (iN (tk.length + nm.length + fewN (rs.take i)))), (1, (iI most))], [], 1, [], []⟩) (fun i => n_rs - i) (0) ⟨Le.refl _, ⟨Nat.zero_le _, .inl (Nat.le_refl _)⟩⟩ rfl ?_
  rintro i G1 ⟨hle, hF⟩
  show WC _ _ _ _ _ ⟨[(20, (iN i)), (19, (iN n_rs)), (18, (sS A_rs n_rs c_rs)), (5, (iN (tk.length + nm.length + fewN (rs.take i)))), (1, (iI most))], [], 1, [], []⟩ _
  replace h_rs := h_rs.mono hle
  have hc2 := hle
  obtain ⟨hi, hs0⟩ := hF
  refine WC_seq (WC_region ?_)
  refine WL_execS htb 1 [21, 20, 19, 18, 5, 1] [] ⟨[(21, (bB (decide ((((i : Nat) : Int) : Int) < ((n_rs : Nat) : Int))))), (20, (iN i)), (19, (iN n_rs)), (18, (sS A_rs n_rs c_rs)), (5, (iN (tk.length + nm.length + fewN (rs.take i)))), (1, (iI most))], [], 1, [], []⟩ (by kernel_rfl) ?_
  refine WL_nil ?_
  refine WQ_code ?_
  refine WC_seq ?_
  refine WC_cond (b := (decide ((((i : Nat) : Int) : Int) < ((n_rs : Nat) : Int)))) rfl (fun hc => ?_) (fun hc => ?_)
  · replace hc := of_decide_eq_true hc
    refine WC_skip ?_
    refine WQ_code ?_
    refine WC_seq ?_
    refine WC_block ?_
    refine WC_seq (WC_region ?_)
    obtain ⟨q3, rfl⟩ := h_rs.ptr (by omega)
    obtain ⟨x6, _, hx4, hr7, at5⟩ := h_rs.get i (by omega)
    obtain ⟨A9, n10, c11, rfl, hs8⟩ := Sl.of hr7
    replace hs8 : Sl (tSlice (tInt .i64)) _ A9 n10 c11 x6 := hs8
    have lhs8 := hs8.len'
    replace at5 : At G1 (q3.add (i * 1)) [.slice A9 n10 c11] := at5
    refine WL_op (WOp_idx htb q3 n_rs ((i : Nat) : Int) 1 (by kernel_rfl) (by omega) (by omega) ?_)
    refine WL_op (WOp_ld htb (q3.add (i * 1)) false 1 [.slice A9 n10 c11] (by kernel_rfl) at5 rfl (by decide) ?_)
    refine WL_execS htb 1 [7, 20, 19, 18, 5, 1] [] ⟨[(7, (sS A9 n10 c11)), (20, (iN i)), (19, (iN n_rs)), (18, (sS (some q3) n_rs c_rs)), (5, (iN (tk.length + nm.length + fewN (rs.take i)))), (1, (iI most))], [], 1, [], []⟩ (by kernel_rfl) ?_
    refine WL_nil ?_
    refine WQ_code ?_
    refine WC_seq (WC_region ?_)
    refine WL_execS htb 3 [26, 25, 24, 20, 19, 18, 5, 1] [] ⟨[(26, (iI 0)), (25, (iN n10)), (24, (sS A9 n10 c11)), (20, (iN i)), (19, (iN n_rs)), (18, (sS (some q3) n_rs c_rs)), (5, (iN (tk.length + nm.length + fewN (rs.take i)))), (1, (iI most))], [], 1, [], []⟩ (by kernel_rfl) ?_
    refine WL_nil ?_
    refine WQ_code ?_
    refine WC_block ?_
    refine WK_env [(26, (iI 0)), (25, (iN n10)), (24, (sS A9 n10 c11)), (20, (iN i)), (19, (iN n_rs)), (18, (sS (some q3) n_rs c_rs)), (5, (iN (tk.length + nm.length + fewN (rs.take i) + fewA (x6.take 0)))), (1, (iI most))] (fun ρ => ⟨rfl, rfl, ⟨rfl, rfl, ⟨rfl, rfl, ⟨rfl, rfl, ⟨rfl, rfl, ⟨rfl, rfl, ⟨rfl, rfl, ⟨rfl, rfl, trivial⟩⟩⟩⟩⟩⟩⟩⟩) ?_
    refine WK_keep [26, 25, 24, 20, 19, 18, 5, 1] [] rfl rfl ?_
    refine WK_env [(26, (iN 0)), (25, (iN n10)), (24, (sS A9 n10 c11)), (20, (iN i)), (19, (iN n_rs)), (18, (sS (some q3) n_rs c_rs)), (5, (iN (tk.length + nm.length + fewN (rs.take i) + fewA (x6.take 0)))), (1, (iI most))] (fun ρ => ⟨rfl, rfl, ⟨rfl, rfl, ⟨rfl, rfl, ⟨rfl, rfl, ⟨rfl, rfl, ⟨rfl, rfl, ⟨rfl, rfl, ⟨rfl, rfl, trivial⟩⟩⟩⟩⟩⟩⟩⟩) ?_
    refine WC_loop (ι := Nat) (fun j G12 => Le G1 G12 ∧ (j ≤ n10 ∧ (tk.length + nm.length + fewN (rs.take i) + fewA (x6.take j) ≤ tk.length + nm.length ∨ ((tk.length + nm.length + fewN (rs.take i) + fewA (x6.take j) : Nat) : Int) ≤ most))) (fun j => ⟨[(26, (iN j)), (25, (iN n10)), (24, (sS A9 n10 c11)), (20, (iN i)), (19, (iN n_rs)), (18, (sS (some q3) n_rs c_rs)), (5, (iN (tk.length + nm.length + fewN (rs.take i) + fewA (x6.take j)))), (1, (iI most))], [], 1, [], []⟩) (fun j => n10 - j) (0) ⟨Le.refl _, ⟨Nat.zero_le _, hs0⟩⟩ rfl ?_
    rintro j G12 ⟨hle, hF⟩
    show WC _ _ _ _ _ ⟨[(26, (iN j)), (25, (iN n10)), (24, (sS A9 n10 c11)), (20, (iN i)), (19, (iN n_rs)), (18, (sS (some q3) n_rs c_rs)), (5, (iN (tk.length + nm.length + fewN (rs.take i) + fewA (x6.take j)))), (1, (iI most))], [], 1, [], []⟩ _
    replace hc2 := Le.trans hc2 hle
    replace h_rs := h_rs.mono hle
    replace hs8 := hs8.mono hle
    have hc13 := hle
    obtain ⟨hj, hs1⟩ := hF
    refine WC_seq (WC_region ?_)
    refine WL_execS htb 1 [27, 26, 25, 24, 20, 19, 18, 5, 1] [] ⟨[(27, (bB (decide ((((j : Nat) : Int) : Int) < ((n10 : Nat) : Int))))), (26, (iN j)), (25, (iN n10)), (24, (sS A9 n10 c11)), (20, (iN i)), (19, (iN n_rs)), (18, (sS (some q3) n_rs c_rs)), (5, (iN (tk.length + nm.length + fewN (rs.take i) + fewA (x6.take j)))), (1, (iI most))], [], 1, [], []⟩ (by kernel_rfl) ?_
    refine WL_nil ?_
    refine WQ_code ?_
    refine WC_seq ?_
    refine WC_cond (b := (decide ((((j : Nat) : Int) : Int) < ((n10 : Nat) : Int)))) rfl (fun hd => ?_) (fun hd => ?_)
    · replace hd := of_decide_eq_true hd
      refine WC_skip ?_
      refine WQ_code ?_
      refine WC_seq ?_
      refine WC_block ?_
      refine WC_seq (WC_region ?_)
      obtain ⟨q14, rfl⟩ := hs8.ptr (by omega)
      obtain ⟨x17, _, hx15, hr18, at16⟩ := hs8.get j (by omega)
      obtain ⟨A20, n21, c22, rfl, hs19⟩ := Sl.of hr18
      replace hs19 : Sl (tInt .i64) _ A20 n21 c22 x17 := hs19
      have lhs19 := hs19.len'
      replace at16 : At G12 (q14.add (j * 1)) [.slice A20 n21 c22] := at16
      refine WL_op (WOp_idx htb q14 n10 ((j : Nat) : Int) 1 (by kernel_rfl) (by omega) (by omega) ?_)
      refine WL_op (WOp_ld htb (q14.add (j * 1)) false 1 [.slice A20 n21 c22] (by kernel_rfl) at16 rfl (by decide) ?_)
      refine WL_execS htb 1 [9, 26, 25, 24, 20, 19, 18, 5, 1] [] ⟨[(9, (sS A20 n21 c22)), (26, (iN j)), (25, (iN n10)), (24, (sS (some q14) n10 c11)), (20, (iN i)), (19, (iN n_rs)), (18, (sS (some q3) n_rs c_rs)), (5, (iN (tk.length + nm.length + fewN (rs.take i) + fewA (x6.take j)))), (1, (iI most))], [], 1, [], []⟩ (by kernel_rfl) ?_
      refine WL_nil ?_
      refine WQ_code ?_
      refine WC_seq (WC_region ?_)
      refine WL_execS htb 6 [5, 26, 25, 24, 20, 19, 18, 1] [] ⟨[(5, (iI (IntKind.i64.wrap (((tk.length + nm.length + fewN (rs.take i) + fewA (x6.take j) : Nat) : Int) + (IntKind.i64.wrap (1 + ((n21 : Nat) : Int))))))), (26, (iN j)), (25, (iN n10)), (24, (sS (some q14) n10 c11)), (20, (iN i)), (19, (iN n_rs)), (18, (sS (some q3) n_rs c_rs)), (1, (iI most))], [], 1, [], []⟩ (by kernel_rfl) ?_
      refine WL_nil ?_
      refine WQ_code ?_
      refine WC_seq (WC_region ?_)
      refine WL_execS htb 3 [37, 5, 26, 25, 24, 20, 19, 18, 1] [] ⟨[(37, (bB (decide (((IntKind.i64.wrap (((tk.length + nm.length + fewN (rs.take i) + fewA (x6.take j) : Nat) : Int) + (IntKind.i64.wrap (1 + ((n21 : Nat) : Int))))) : Int) > most)))), (5, (iI (IntKind.i64.wrap (((tk.length + nm.length + fewN (rs.take i) + fewA (x6.take j) : Nat) : Int) + (IntKind.i64.wrap (1 + ((n21 : Nat) : Int))))))), (26, (iN j)), (25, (iN n10)), (24, (sS (some q14) n10 c11)), (20, (iN i)), (19, (iN n_rs)), (18, (sS (some q3) n_rs c_rs)), (1, (iI most))], [], 1, [], []⟩ (by kernel_rfl) ?_
      refine WL_nil ?_
      refine WQ_code ?_
      have hfit := hB3 _ (List.mem_of_getElem? hx4) _ (List.mem_of_getElem? hx15)
      have hsj := sum_succ (f := fun al => 1 + al.length) hx15
      have hle0 := few_le hx4 hx15
      change fewA (x6.take (j + 1)) = fewA (x6.take j) + (1 + x17.length) at hsj
      have hw1 : IntKind.i64.wrap (1 + ((n21 : Nat) : Int)) = 1 + ((n21 : Nat) : Int) := wrap_id (by omega)
      have hw2 : IntKind.i64.wrap (((tk.length + nm.length + fewN (rs.take i) + fewA (x6.take j) : Nat) : Int) + IntKind.i64.wrap (1 + ((n21 : Nat) : Int))) = ((tk.length + nm.length + fewN (rs.take i) + fewA (x6.take (j + 1)) : Nat) : Int) := by rw [hw1, wrap_id (by omega)]; omega
      refine WC_cond (b := (decide (((IntKind.i64.wrap (((tk.length + nm.length + fewN (rs.take i) + fewA (x6.take j) : Nat) : Int) + (IntKind.i64.wrap (1 + ((n21 : Nat) : Int))))) : Int) > most))) rfl (fun he => ?_) (fun he => ?_)
      · replace he := of_decide_eq_true he
        rw [hw2] at he
        refine WC_seq (WC_region ?_)
        refine WL_execS htb 1 [4] [] ⟨[(4, (bB false))], [], 1, [], []⟩ (by kernel_rfl) ?_
        refine WL_nil ?_
        refine WQ_code ?_
        refine WC_ret ?_
        refine WQ_blk_ret ?_
        refine WQ_then_ret ?_
        refine WQ_then_ret ?_
        refine WQ_blk_ret ?_
        refine WQ_blk_ret ?_
        refine WQ_then_ret ?_
        refine WQ_then_ret ?_
        refine WQ_blk_ret ?_
        refine WQ_then_ret ?_
        exact WQ_done htb [(bB false)] _ (.inl rfl) rfl (by kernel_rfl) (fun ρ w hW => ⟨false, rfl, (decide_eq_false (by omega)).symm⟩)
      · replace he := of_decide_eq_false he
        rw [hw2] at he
        refine WC_skip ?_
        refine WQ_blk ?_
        refine WQ_code ?_
        refine WC_region ?_
        refine WL_execS htb 2 [26, 5, 25, 24, 20, 19, 18, 1] [] ⟨[(26, (iI (IntKind.i64.wrap (((j : Nat) : Int) + 1)))), (5, (iI (IntKind.i64.wrap (((tk.length + nm.length + fewN (rs.take i) + fewA (x6.take j) : Nat) : Int) + (IntKind.i64.wrap (1 + ((n21 : Nat) : Int))))))), (25, (iN n10)), (24, (sS (some q14) n10 c11)), (20, (iN i)), (19, (iN n_rs)), (18, (sS (some q3) n_rs c_rs)), (1, (iI most))], [], 1, [], []⟩ (by kernel_rfl) ?_
        refine WL_nil ?_
        refine WK_env [(26, (iN (j + 1))), (5, (iI (IntKind.i64.wrap (((tk.length + nm.length + fewN (rs.take i) + fewA (x6.take j) : Nat) : Int) + (IntKind.i64.wrap (1 + ((n21 : Nat) : Int))))))), (25, (iN n10)), (24, (sS (some q14) n10 c11)), (20, (iN i)), (19, (iN n_rs)), (18, (sS (some q3) n_rs c_rs)), (1, (iI most))] (fun ρ => ⟨rfl, (congrArg (Value.int .i64) (by rw [wrap_id (by omega)]; first | rfl | omega)), ⟨rfl, rfl, ⟨rfl, rfl, ⟨rfl, rfl, ⟨rfl, rfl, ⟨rfl, rfl, ⟨rfl, rfl, ⟨rfl, rfl, trivial⟩⟩⟩⟩⟩⟩⟩⟩) ?_
        refine WK_env [(26, (iN (j + 1))), (5, (iN (tk.length + nm.length + fewN (rs.take i) + fewA (x6.take (j + 1))))), (25, (iN n10)), (24, (sS (some q14) n10 c11)), (20, (iN i)), (19, (iN n_rs)), (18, (sS (some q3) n_rs c_rs)), (1, (iI most))] (fun ρ => ⟨rfl, rfl, ⟨rfl, (congrArg (Value.int .i64) hw2), ⟨rfl, rfl, ⟨rfl, rfl, ⟨rfl, rfl, ⟨rfl, rfl, ⟨rfl, rfl, ⟨rfl, rfl, trivial⟩⟩⟩⟩⟩⟩⟩⟩) ?_
        refine WK_keep [26, 25, 24, 20, 19, 18, 5, 1] [] rfl rfl ?_
        exact WQ_next ((j + 1)) (by show n10 - (j + 1) < n10 - j; omega) ⟨hc13, ⟨by omega, .inr (by omega)⟩⟩ (fun ρ a w h => h)
    · replace hd := of_decide_eq_false hd
      refine WC_exit ?_
      refine WQ_then_exit ?_
      refine WQ_then_exit ?_
      refine WQ_hit ?_
      refine WQ_blk ?_
      refine WQ_code ?_
      refine WC_region ?_
      refine WL_execS htb 2 [20, 19, 18, 5, 1] [] ⟨[(20, (iI (IntKind.i64.wrap (((i : Nat) : Int) + 1)))), (19, (iN n_rs)), (18, (sS (some q3) n_rs c_rs)), (5, (iN (tk.length + nm.length + fewN (rs.take i) + fewA (x6.take j)))), (1, (iI most))], [], 1, [], []⟩ (by kernel_rfl) ?_
      refine WL_nil ?_
      have hsi := sum_succ (f := fewA) hx4
      change fewN (rs.take (i + 1)) = fewN (rs.take i) + fewA x6 at hsi
      have htk : x6.take j = x6 := List.take_of_length_le (by omega)
      rw [htk] at hs1
      refine WK_env [(20, (iN (i + 1))), (19, (iN n_rs)), (18, (sS (some q3) n_rs c_rs)), (5, (iN (tk.length + nm.length + fewN (rs.take i) + fewA (x6.take j)))), (1, (iI most))] (fun ρ => ⟨rfl, (congrArg (Value.int .i64) (by rw [wrap_id (by omega)]; first | rfl | omega)), ⟨rfl, rfl, ⟨rfl, rfl, ⟨rfl, rfl, ⟨rfl, rfl, trivial⟩⟩⟩⟩⟩) ?_
      refine WK_env [(20, (iN (i + 1))), (19, (iN n_rs)), (18, (sS (some q3) n_rs c_rs)), (5, (iN (tk.length + nm.length + fewN (rs.take (i + 1))))), (1, (iI most))] (fun ρ => ⟨rfl, rfl, ⟨rfl, rfl, ⟨rfl, rfl, ⟨rfl, (congrArg (Value.int .i64) (by rw [htk, hsi]; omega)), ⟨rfl, rfl, trivial⟩⟩⟩⟩⟩) ?_
      refine WK_keep [20, 19, 18, 5, 1] [] rfl rfl ?_
      exact WQ_next ((i + 1)) (by show n_rs - (i + 1) < n_rs - i; omega) ⟨hc2, ⟨by omega, by rw [hsi]; omega⟩⟩ (fun ρ a w h => h)
  · replace hc := of_decide_eq_false hc
    refine WC_exit ?_
    refine WQ_then_exit ?_
    refine WQ_then_exit ?_
    refine WQ_hit ?_
    refine WQ_code ?_
    refine WC_seq (WC_region ?_)
    refine WL_execS htb 4 [4] [] ⟨[(4, (bB (decide ((((tk.length + nm.length + fewN (rs.take i) : Nat) : Int) : Int) ≤ most))))], [], 1, [], []⟩ (by kernel_rfl) ?_
    refine WL_nil ?_
    refine WQ_code ?_
    refine WC_ret ?_
    exact WQ_done htb [(bB (decide ((((tk.length + nm.length + fewN (rs.take i) : Nat) : Int) : Int) ≤ most)))] _ (.inl rfl) rfl (by kernel_rfl) (fun ρ w hW => ⟨(decide ((((tk.length + nm.length + fewN (rs.take i) : Nat) : Int) : Int) ≤ most)), rfl, by rw [List.take_of_length_le (by omega)]⟩)

end Go.Proofs.Ytbpajkjolhoflaa.Sym
