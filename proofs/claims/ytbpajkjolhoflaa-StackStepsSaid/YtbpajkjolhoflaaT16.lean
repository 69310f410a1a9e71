/- Walks of functions that the laws of this seat reach, printed by a program of this session's. -/
import Derived.Test.YtbpajkjolhoflaaT15
set_option linter.unusedSimpArgs false
set_option linter.unusedVariables false
set_option maxHeartbeats 4000000
namespace Go.Proofs.Ytbpajkjolhoflaa.Sym
open Go Go.Proofs Go.RowKit





def fewA (ar : List (List Int)) : Nat := (ar.map fun al => 1 + al.length).sum
def fewN (rs : List (List (List Int))) : Nat := (rs.map fewA).sum
def FitR (rs : List (List (List Int))) : Prop := ∀ ar ∈ rs, ∀ al ∈ ar, al.length ≤ 140737488355328
theorem sum_succ {α : Type} {f : α → Nat} {xs : List α} {i : Nat} {x : α} (h : xs[i]? = some x) : ((xs.take (i + 1)).map f).sum = ((xs.take i).map f).sum + f x := by
  rw [take_succ' h, List.map_append, List.sum_append]; simp
theorem sum_take {α : Type} {f : α → Nat} (xs : List α) (i : Nat) : ((xs.take i).map f).sum ≤ (xs.map f).sum := by
  have h : xs.map f = (xs.take i).map f ++ (xs.drop i).map f := by rw [← List.map_append, List.take_append_drop]
  rw [h, List.sum_append]; omega
theorem few_le {rs : List (List (List Int))} {ar : List (List Int)} {al : List Int} {i j : Nat} (h1 : rs[i]? = some ar) (h2 : ar[j]? = some al) : fewN (rs.take i) + fewA (ar.take j) + (1 + al.length) ≤ fewN rs := by
  have a : fewA (ar.take (j + 1)) = fewA (ar.take j) + (1 + al.length) := sum_succ h2
  have b : fewA (ar.take (j + 1)) ≤ fewA ar := sum_take ar (j + 1)
  have c : fewN (rs.take (i + 1)) = fewN (rs.take i) + fewA ar := sum_succ h1
  have d : fewN (rs.take (i + 1)) ≤ fewN rs := sum_take rs (i + 1)
  omega
theorem sum_mem {α : Type} {f : α → Nat} : ∀ {xs : List α} {x : α}, x ∈ xs → f x ≤ (xs.map f).sum
  | y :: xs, x, h => by
    simp only [List.map_cons, List.sum_cons]
    rcases List.mem_cons.1 h with rfl | h
    · omega
    · have := sum_mem (f := f) h; omega
theorem len_sum {α : Type} {f : α → Nat} (hf : ∀ x, 1 ≤ f x) : ∀ xs : List α, xs.length ≤ (xs.map f).sum
  | [] => by simp
  | x :: xs => by simp only [List.map_cons, List.sum_cons, List.length_cons]; have := len_sum hf xs; have := hf x; omega
theorem few_small {t n : Nat} {rs : List (List (List Int))} (h : ((t + n + fewN rs : Nat) : Int) ≤ 400) : SmallR rs := by
  intro ar har
  have h1 : fewA ar ≤ fewN rs := sum_mem (f := fewA) har
  have h2 : ar.length ≤ fewA ar := len_sum (f := fun al : List Int => 1 + al.length) (fun x => by show 1 ≤ 1 + x.length; omega) ar
  refine ⟨by omega, fun al hal => ?_⟩
  have h3 : 1 + al.length ≤ fewA ar := sum_mem (f := fun al : List Int => 1 + al.length) hal
  omega
theorem few_ok {w : World} {G : Heap} (hG : Has w G) {tk : (List ByteArray)} {A_tk : Option Addr} {n_tk : Nat} {c_tk : Nat} {nm : (List ByteArray)} {A_nm : Option Addr} {n_nm : Nat} {c_nm : Nat} {rs : (List (List (List Int)))} {A_rs : Option Addr} {n_rs : Nat} {c_rs : Nat} {most : Int} (h_tk : Sl tStr G A_tk n_tk c_tk tk) (h_nm : Sl tStr G A_nm n_nm c_nm nm) (h_rs : Sl (tSlice (tSlice (tInt .i64))) G A_rs n_rs c_rs rs) (h_most : -9223372036854775808 ≤ most ∧ most ≤ 9223372036854775807) (hB1 : tk.length ≤ 140737488355328) (hB2 : nm.length ≤ 140737488355328) (hB3 : FitR rs) (hm : most ≤ 1000000) :
    Calls Try.prog 27 #[(.agg #[.slice A_tk n_tk c_tk, .slice A_nm n_nm c_nm, .slice A_rs n_rs c_rs]), (.int .i64 most)] w (Ret w G fun v G' => ∃ (b : Bool), v = .bool b ∧ (b = decide (((tk.length + nm.length + fewN rs : Nat) : Int) ≤ most))) := by
  have lh_tk := h_tk.len'
  have lh_nm := h_nm.len'
  have lh_rs := h_rs.len'
  refine enter [(.agg [(.v (.slice A_tk n_tk c_tk)), (.v (.slice A_nm n_nm c_nm)), (.v (.slice A_rs n_rs c_rs))]), (.v (.int .i64 most))] 43 Try.func27 rfl rfl rfl rfl hG ?_
  refine WC_seq (WC_region ?_)
  refine WL_execS htb 2 [4, 2, 1] [0] ⟨[(4, (.v (.bool false))), (2, (.p 0 0)), (1, (.v (.int .i64 most)))], [(0, (.cells 35 [(.v (.slice A_tk n_tk c_tk)), (.v (.slice A_nm n_nm c_nm)), (.v (.slice A_rs n_rs c_rs))]))], 1, [], []⟩ (by kernel_rfl) ?_
  refine WL_nil ?_
  refine WQ_code ?_
  refine WC_seq (WC_region ?_)
  refine WL_execS htb 8 [5, 4, 2, 1] [0] ⟨[(5, (.v (.int .i64 (IntKind.i64.wrap (((n_tk : Nat) : Int) + ((n_nm : Nat) : Int)))))), (4, (.v (.bool false))), (2, (.p 0 0)), (1, (.v (.int .i64 most)))], [(0, (.cells 35 [(.v (.slice A_tk n_tk c_tk)), (.v (.slice A_nm n_nm c_nm)), (.v (.slice A_rs n_rs c_rs))]))], 1, [], []⟩ (by kernel_rfl) ?_
  refine WL_nil ?_
  refine WQ_code ?_
  refine WC_seq ?_
  refine WC_seq (WC_region ?_)
  refine WL_execS htb 4 [20, 19, 18, 5, 4, 1] [] ⟨[(20, (.v (.int .i64 0))), (19, (.v (.int .i64 ((n_rs : Nat) : Int)))), (18, (.v (.slice A_rs n_rs c_rs))), (5, (.v (.int .i64 (IntKind.i64.wrap (((n_tk : Nat) : Int) + ((n_nm : Nat) : Int)))))), (4, (.v (.bool false))), (1, (.v (.int .i64 most)))], [], 1, [], []⟩ (by kernel_rfl) ?_
  refine WL_nil ?_
  refine WQ_code ?_
  refine WC_block ?_
  refine WK_env [(20, (.v (.int .i64 0))), (19, (.v (.int .i64 ((n_rs : Nat) : Int)))), (18, (.v (.slice A_rs n_rs c_rs))), (5, (.v (.int .i64 ((tk.length + nm.length : Nat) : Int)))), (4, (.v (.bool false))), (1, (.v (.int .i64 most)))] (fun ρ => ⟨rfl, rfl, ⟨rfl, rfl, ⟨rfl, rfl, ⟨rfl, (congrArg (Value.int .i64) (by rw [wrap_id (by omega)]; omega)), ⟨rfl, rfl, ⟨rfl, rfl, trivial⟩⟩⟩⟩⟩⟩) ?_
  refine WK_env [(20, (.v (.int .i64 0))), (19, (.v (.int .i64 ((n_rs : Nat) : Int)))), (18, (.v (.slice A_rs n_rs c_rs))), (5, (.v (.int .i64 ((tk.length + nm.length + fewN (rs.take 0) : Nat) : Int)))), (4, (.v (.bool false))), (1, (.v (.int .i64 most)))] (fun ρ => ⟨rfl, rfl, ⟨rfl, rfl, ⟨rfl, rfl, ⟨rfl, rfl, ⟨rfl, rfl, ⟨rfl, rfl, trivial⟩⟩⟩⟩⟩⟩) ?_
  refine WK_keep [20, 19, 18, 5, 4, 1] [] rfl rfl ?_
  refine WK_env [(20, (.v (.int .i64 ((0 : Nat) : Int)))), (19, (.v (.int .i64 ((n_rs : Nat) : Int)))), (18, (.v (.slice A_rs n_rs c_rs))), (5, (.v (.int .i64 ((tk.length + nm.length + fewN (rs.take 0) : Nat) : Int)))), (4, (.v (.bool false))), (1, (.v (.int .i64 most)))] (fun ρ => ⟨rfl, rfl, ⟨rfl, rfl, ⟨rfl, rfl, ⟨rfl, rfl, ⟨rfl, rfl, ⟨rfl, rfl, trivial⟩⟩⟩⟩⟩⟩) ?_
  refine WC_loop (ι := Nat) (fun i G1 => Le G G1 ∧ (i ≤ n_rs ∧ (tk.length + nm.length + fewN (rs.take i) ≤ tk.length + nm.length ∨ ((tk.length + nm.length + fewN (rs.take i) : Nat) : Int) ≤ most))) (fun i => ⟨[(20, (.v (.int .i64 ((i : Nat) : Int)))), (19, (.v (.int .i64 ((n_rs : Nat) : Int)))), (18, (.v (.slice A_rs n_rs c_rs))), (5, (.v (.int .i64 ((tk.length + nm.length + fewN (rs.take i) : Nat) : Int)))), (4, (.v (.bool false))), (1, (.v (.int .i64 most)))], [], 1, [], []⟩) (fun i => n_rs - i) (0) ⟨Le.refl _, ⟨Nat.zero_le _, .inl (Nat.le_refl _)⟩⟩ rfl ?_
  rintro i G1 ⟨hle, hF⟩
  show WC _ _ _ _ _ ⟨[(20, (.v (.int .i64 ((i : Nat) : Int)))), (19, (.v (.int .i64 ((n_rs : Nat) : Int)))), (18, (.v (.slice A_rs n_rs c_rs))), (5, (.v (.int .i64 ((tk.length + nm.length + fewN (rs.take i) : Nat) : Int)))), (4, (.v (.bool false))), (1, (.v (.int .i64 most)))], [], 1, [], []⟩ _
  replace h_tk := h_tk.mono hle
  replace h_nm := h_nm.mono hle
  replace h_rs := h_rs.mono hle
  have hc2 := hle
  obtain ⟨hi, hs0⟩ := hF
  refine WC_seq (WC_region ?_)
  refine WL_execS htb 1 [21, 20, 19, 18, 5, 4, 1] [] ⟨[(21, (.v (.bool (decide ((((i : Nat) : Int) : Int) < ((n_rs : Nat) : Int)))))), (20, (.v (.int .i64 ((i : Nat) : Int)))), (19, (.v (.int .i64 ((n_rs : Nat) : Int)))), (18, (.v (.slice A_rs n_rs c_rs))), (5, (.v (.int .i64 ((tk.length + nm.length + fewN (rs.take i) : Nat) : Int)))), (4, (.v (.bool false))), (1, (.v (.int .i64 most)))], [], 1, [], []⟩ (by kernel_rfl) ?_
  refine WL_nil ?_
  refine WQ_code ?_
  refine WC_seq ?_
  refine WC_cond (b := (decide ((((i : Nat) : Int) : Int) < ((n_rs : Nat) : Int)))) rfl (fun hc => ?_) (fun hc => ?_)
  · replace hc := of_decide_eq_true hc
    refine WC_skip ?_
    refine WQ_code ?_
    refine WC_seq ?_
    refine WC_block ?_
    refine WC_seq (WC_region ?_)
    obtain ⟨q3, rfl⟩ := h_rs.ptr (by omega)
    obtain ⟨x6, _, hx4, hr7, at5⟩ := h_rs.get i (by omega)
    obtain ⟨A9, n10, c11, rfl, hs8⟩ := Sl.of hr7
    have lhs8 := hs8.len'
    replace at5 : At G1 (q3.add (i * 1)) [.slice A9 n10 c11] := at5
    refine WL_op (WOp_idx htb q3 n_rs ((i : Nat) : Int) 1 (by kernel_rfl) (by omega) (by omega) ?_)
    refine WL_op (WOp_ld htb (q3.add (i * 1)) false 1 [.slice A9 n10 c11] (by kernel_rfl) at5 rfl (by decide) ?_)
    refine WL_execS htb 1 [7, 23, 22, 21, 20, 19, 18, 5, 4, 1] [] ⟨[(7, (.v (.slice A9 n10 c11))), (23, (.v (.slice A9 n10 c11))), (22, (.v (.pointer (some (q3.add (i * 1)))))), (21, (.v (.bool (decide ((((i : Nat) : Int) : Int) < ((n_rs : Nat) : Int)))))), (20, (.v (.int .i64 ((i : Nat) : Int)))), (19, (.v (.int .i64 ((n_rs : Nat) : Int)))), (18, (.v (.slice (some q3) n_rs c_rs))), (5, (.v (.int .i64 ((tk.length + nm.length + fewN (rs.take i) : Nat) : Int)))), (4, (.v (.bool false))), (1, (.v (.int .i64 most)))], [], 1, [], []⟩ (by kernel_rfl) ?_
    refine WL_nil ?_
    refine WQ_code ?_
    refine WC_seq (WC_region ?_)
    refine WL_execS htb 3 [26, 25, 24, 7, 23, 22, 21, 20, 19, 18, 5, 4, 1] [] ⟨[(26, (.v (.int .i64 0))), (25, (.v (.int .i64 ((n10 : Nat) : Int)))), (24, (.v (.slice A9 n10 c11))), (7, (.v (.slice A9 n10 c11))), (23, (.v (.slice A9 n10 c11))), (22, (.v (.pointer (some (q3.add (i * 1)))))), (21, (.v (.bool (decide ((((i : Nat) : Int) : Int) < ((n_rs : Nat) : Int)))))), (20, (.v (.int .i64 ((i : Nat) : Int)))), (19, (.v (.int .i64 ((n_rs : Nat) : Int)))), (18, (.v (.slice (some q3) n_rs c_rs))), (5, (.v (.int .i64 ((tk.length + nm.length + fewN (rs.take i) : Nat) : Int)))), (4, (.v (.bool false))), (1, (.v (.int .i64 most)))], [], 1, [], []⟩ (by kernel_rfl) ?_
    refine WL_nil ?_
    refine WQ_code ?_
    refine WC_block ?_
    refine WK_env [(26, (.v (.int .i64 0))), (25, (.v (.int .i64 ((n10 : Nat) : Int)))), (24, (.v (.slice A9 n10 c11))), (7, (.v (.slice A9 n10 c11))), (23, (.v (.slice A9 n10 c11))), (22, (.v (.pointer (some (q3.add (i * 1)))))), (21, (.v (.bool (decide ((((i : Nat) : Int) : Int) < ((n_rs : Nat) : Int)))))), (20, (.v (.int .i64 ((i : Nat) : Int)))), (19, (.v (.int .i64 ((n_rs : Nat) : Int)))), (18, (.v (.slice (some q3) n_rs c_rs))), (5, (.v (.int .i64 ((tk.length + nm.length + fewN (rs.take i) + fewA (x6.take 0) : Nat) : Int)))), (4, (.v (.bool false))), (1, (.v (.int .i64 most)))] (fun ρ => ⟨rfl, rfl, ⟨rfl, rfl, ⟨rfl, rfl, ⟨rfl, rfl, ⟨rfl, rfl, ⟨rfl, rfl, ⟨rfl, rfl, ⟨rfl, rfl, ⟨rfl, rfl, ⟨rfl, rfl, ⟨rfl, rfl, ⟨rfl, rfl, ⟨rfl, rfl, trivial⟩⟩⟩⟩⟩⟩⟩⟩⟩⟩⟩⟩⟩) ?_
    refine WK_keep [26, 25, 24, 7, 23, 22, 21, 20, 19, 18, 5, 4, 1] [] rfl rfl ?_
    refine WK_env [(26, (.v (.int .i64 ((0 : Nat) : Int)))), (25, (.v (.int .i64 ((n10 : Nat) : Int)))), (24, (.v (.slice A9 n10 c11))), (7, (.v (.slice A9 n10 c11))), (23, (.v (.slice A9 n10 c11))), (22, (.v (.pointer (some (q3.add (i * 1)))))), (21, (.v (.bool (decide ((((i : Nat) : Int) : Int) < ((n_rs : Nat) : Int)))))), (20, (.v (.int .i64 ((i : Nat) : Int)))), (19, (.v (.int .i64 ((n_rs : Nat) : Int)))), (18, (.v (.slice (some q3) n_rs c_rs))), (5, (.v (.int .i64 ((tk.length + nm.length + fewN (rs.take i) + fewA (x6.take 0) : Nat) : Int)))), (4, (.v (.bool false))), (1, (.v (.int .i64 most)))] (fun ρ => ⟨rfl, rfl, ⟨rfl, rfl, ⟨rfl, rfl, ⟨rfl, rfl, ⟨rfl, rfl, ⟨rfl, rfl, ⟨rfl, rfl, ⟨rfl, rfl, ⟨rfl, rfl, ⟨rfl, rfl, ⟨rfl, rfl, ⟨rfl, rfl, ⟨rfl, rfl, trivial⟩⟩⟩⟩⟩⟩⟩⟩⟩⟩⟩⟩⟩) ?_
    refine WC_loop (ι := Nat) (fun j G12 => Le G1 G12 ∧ (j ≤ n10 ∧ (tk.length + nm.length + fewN (rs.take i) + fewA (x6.take j) ≤ tk.length + nm.length ∨ ((tk.length + nm.length + fewN (rs.take i) + fewA (x6.take j) : Nat) : Int) ≤ most))) (fun j => ⟨[(26, (.v (.int .i64 ((j : Nat) : Int)))), (25, (.v (.int .i64 ((n10 : Nat) : Int)))), (24, (.v (.slice A9 n10 c11))), (7, (.v (.slice A9 n10 c11))), (23, (.v (.slice A9 n10 c11))), (22, (.v (.pointer (some (q3.add (i * 1)))))), (21, (.v (.bool (decide ((((i : Nat) : Int) : Int) < ((n_rs : Nat) : Int)))))), (20, (.v (.int .i64 ((i : Nat) : Int)))), (19, (.v (.int .i64 ((n_rs : Nat) : Int)))), (18, (.v (.slice (some q3) n_rs c_rs))), (5, (.v (.int .i64 ((tk.length + nm.length + fewN (rs.take i) + fewA (x6.take j) : Nat) : Int)))), (4, (.v (.bool false))), (1, (.v (.int .i64 most)))], [], 1, [], []⟩) (fun j => n10 - j) (0) ⟨Le.refl _, ⟨Nat.zero_le _, hs0⟩⟩ rfl ?_
    rintro j G12 ⟨hle, hF⟩
    show WC _ _ _ _ _ ⟨[(26, (.v (.int .i64 ((j : Nat) : Int)))), (25, (.v (.int .i64 ((n10 : Nat) : Int)))), (24, (.v (.slice A9 n10 c11))), (7, (.v (.slice A9 n10 c11))), (23, (.v (.slice A9 n10 c11))), (22, (.v (.pointer (some (q3.add (i * 1)))))), (21, (.v (.bool (decide ((((i : Nat) : Int) : Int) < ((n_rs : Nat) : Int)))))), (20, (.v (.int .i64 ((i : Nat) : Int)))), (19, (.v (.int .i64 ((n_rs : Nat) : Int)))), (18, (.v (.slice (some q3) n_rs c_rs))), (5, (.v (.int .i64 ((tk.length + nm.length + fewN (rs.take i) + fewA (x6.take j) : Nat) : Int)))), (4, (.v (.bool false))), (1, (.v (.int .i64 most)))], [], 1, [], []⟩ _
    replace hc2 := Le.trans hc2 hle
    replace h_tk := h_tk.mono hle
    replace h_nm := h_nm.mono hle
    replace h_rs := h_rs.mono hle
    replace hs8 := hs8.mono hle
    replace at5 := at5.mono hle
    have hc13 := hle
    obtain ⟨hj, hs1⟩ := hF
    refine WC_seq (WC_region ?_)
    refine WL_execS htb 1 [27, 26, 25, 24, 7, 23, 22, 21, 20, 19, 18, 5, 4, 1] [] ⟨[(27, (.v (.bool (decide ((((j : Nat) : Int) : Int) < ((n10 : Nat) : Int)))))), (26, (.v (.int .i64 ((j : Nat) : Int)))), (25, (.v (.int .i64 ((n10 : Nat) : Int)))), (24, (.v (.slice A9 n10 c11))), (7, (.v (.slice A9 n10 c11))), (23, (.v (.slice A9 n10 c11))), (22, (.v (.pointer (some (q3.add (i * 1)))))), (21, (.v (.bool (decide ((((i : Nat) : Int) : Int) < ((n_rs : Nat) : Int)))))), (20, (.v (.int .i64 ((i : Nat) : Int)))), (19, (.v (.int .i64 ((n_rs : Nat) : Int)))), (18, (.v (.slice (some q3) n_rs c_rs))), (5, (.v (.int .i64 ((tk.length + nm.length + fewN (rs.take i) + fewA (x6.take j) : Nat) : Int)))), (4, (.v (.bool false))), (1, (.v (.int .i64 most)))], [], 1, [], []⟩ (by kernel_rfl) ?_
    refine WL_nil ?_
    refine WQ_code ?_
    refine WC_seq ?_
    refine WC_cond (b := (decide ((((j : Nat) : Int) : Int) < ((n10 : Nat) : Int)))) rfl (fun hd => ?_) (fun hd => ?_)
    · replace hd := of_decide_eq_true hd
      refine WC_skip ?_
      refine WQ_code ?_
      refine WC_seq ?_
      refine WC_block ?_
      refine WC_seq (WC_region ?_)
      obtain ⟨q14, rfl⟩ := hs8.ptr (by omega)
      obtain ⟨x17, _, hx15, hr18, at16⟩ := hs8.get j (by omega)
      obtain ⟨A20, n21, c22, rfl, hs19⟩ := Sl.of hr18
      have lhs19 := hs19.len'
      replace at16 : At G12 (q14.add (j * 1)) [.slice A20 n21 c22] := at16
      refine WL_op (WOp_idx htb q14 n10 ((j : Nat) : Int) 1 (by kernel_rfl) (by omega) (by omega) ?_)
      refine WL_op (WOp_ld htb (q14.add (j * 1)) false 1 [.slice A20 n21 c22] (by kernel_rfl) at16 rfl (by decide) ?_)
      refine WL_execS htb 1 [9, 29, 28, 27, 26, 25, 24, 7, 23, 22, 21, 20, 19, 18, 5, 4, 1] [] ⟨[(9, (.v (.slice A20 n21 c22))), (29, (.v (.slice A20 n21 c22))), (28, (.v (.pointer (some (q14.add (j * 1)))))), (27, (.v (.bool (decide ((((j : Nat) : Int) : Int) < ((n10 : Nat) : Int)))))), (26, (.v (.int .i64 ((j : Nat) : Int)))), (25, (.v (.int .i64 ((n10 : Nat) : Int)))), (24, (.v (.slice (some q14) n10 c11))), (7, (.v (.slice (some q14) n10 c11))), (23, (.v (.slice (some q14) n10 c11))), (22, (.v (.pointer (some (q3.add (i * 1)))))), (21, (.v (.bool (decide ((((i : Nat) : Int) : Int) < ((n_rs : Nat) : Int)))))), (20, (.v (.int .i64 ((i : Nat) : Int)))), (19, (.v (.int .i64 ((n_rs : Nat) : Int)))), (18, (.v (.slice (some q3) n_rs c_rs))), (5, (.v (.int .i64 ((tk.length + nm.length + fewN (rs.take i) + fewA (x6.take j) : Nat) : Int)))), (4, (.v (.bool false))), (1, (.v (.int .i64 most)))], [], 1, [], []⟩ (by kernel_rfl) ?_
      refine WL_nil ?_
      refine WQ_code ?_
      refine WC_seq (WC_region ?_)
      refine WL_execS htb 6 [5, 34, 33, 32, 31, 30, 9, 29, 28, 27, 26, 25, 24, 7, 23, 22, 21, 20, 19, 18, 4, 1] [] ⟨[(5, (.v (.int .i64 (IntKind.i64.wrap (((tk.length + nm.length + fewN (rs.take i) + fewA (x6.take j) : Nat) : Int) + (IntKind.i64.wrap (1 + ((n21 : Nat) : Int)))))))), (34, (.v (.int .i64 (IntKind.i64.wrap (((tk.length + nm.length + fewN (rs.take i) + fewA (x6.take j) : Nat) : Int) + (IntKind.i64.wrap (1 + ((n21 : Nat) : Int)))))))), (33, (.v (.int .i64 (IntKind.i64.wrap (1 + ((n21 : Nat) : Int)))))), (32, (.v (.int .i64 ((n21 : Nat) : Int)))), (31, (.v (.slice A20 n21 c22))), (30, (.v (.int .i64 ((tk.length + nm.length + fewN (rs.take i) + fewA (x6.take j) : Nat) : Int)))), (9, (.v (.slice A20 n21 c22))), (29, (.v (.slice A20 n21 c22))), (28, (.v (.pointer (some (q14.add (j * 1)))))), (27, (.v (.bool (decide ((((j : Nat) : Int) : Int) < ((n10 : Nat) : Int)))))), (26, (.v (.int .i64 ((j : Nat) : Int)))), (25, (.v (.int .i64 ((n10 : Nat) : Int)))), (24, (.v (.slice (some q14) n10 c11))), (7, (.v (.slice (some q14) n10 c11))), (23, (.v (.slice (some q14) n10 c11))), (22, (.v (.pointer (some (q3.add (i * 1)))))), (21, (.v (.bool (decide ((((i : Nat) : Int) : Int) < ((n_rs : Nat) : Int)))))), (20, (.v (.int .i64 ((i : Nat) : Int)))), (19, (.v (.int .i64 ((n_rs : Nat) : Int)))), (18, (.v (.slice (some q3) n_rs c_rs))), (4, (.v (.bool false))), (1, (.v (.int .i64 most)))], [], 1, [], []⟩ (by kernel_rfl) ?_
      refine WL_nil ?_
      refine WQ_code ?_
      refine WC_seq (WC_region ?_)
      refine WL_execS htb 3 [37, 36, 35, 5, 34, 33, 32, 31, 30, 9, 29, 28, 27, 26, 25, 24, 7, 23, 22, 21, 20, 19, 18, 4, 1] [] ⟨[(37, (.v (.bool (decide (((IntKind.i64.wrap (((tk.length + nm.length + fewN (rs.take i) + fewA (x6.take j) : Nat) : Int) + (IntKind.i64.wrap (1 + ((n21 : Nat) : Int))))) : Int) > most))))), (36, (.v (.int .i64 most))), (35, (.v (.int .i64 (IntKind.i64.wrap (((tk.length + nm.length + fewN (rs.take i) + fewA (x6.take j) : Nat) : Int) + (IntKind.i64.wrap (1 + ((n21 : Nat) : Int)))))))), (5, (.v (.int .i64 (IntKind.i64.wrap (((tk.length + nm.length + fewN (rs.take i) + fewA (x6.take j) : Nat) : Int) + (IntKind.i64.wrap (1 + ((n21 : Nat) : Int)))))))), (34, (.v (.int .i64 (IntKind.i64.wrap (((tk.length + nm.length + fewN (rs.take i) + fewA (x6.take j) : Nat) : Int) + (IntKind.i64.wrap (1 + ((n21 : Nat) : Int)))))))), (33, (.v (.int .i64 (IntKind.i64.wrap (1 + ((n21 : Nat) : Int)))))), (32, (.v (.int .i64 ((n21 : Nat) : Int)))), (31, (.v (.slice A20 n21 c22))), (30, (.v (.int .i64 ((tk.length + nm.length + fewN (rs.take i) + fewA (x6.take j) : Nat) : Int)))), (9, (.v (.slice A20 n21 c22))), (29, (.v (.slice A20 n21 c22))), (28, (.v (.pointer (some (q14.add (j * 1)))))), (27, (.v (.bool (decide ((((j : Nat) : Int) : Int) < ((n10 : Nat) : Int)))))), (26, (.v (.int .i64 ((j : Nat) : Int)))), (25, (.v (.int .i64 ((n10 : Nat) : Int)))), (24, (.v (.slice (some q14) n10 c11))), (7, (.v (.slice (some q14) n10 c11))), (23, (.v (.slice (some q14) n10 c11))), (22, (.v (.pointer (some (q3.add (i * 1)))))), (21, (.v (.bool (decide ((((i : Nat) : Int) : Int) < ((n_rs : Nat) : Int)))))), (20, (.v (.int .i64 ((i : Nat) : Int)))), (19, (.v (.int .i64 ((n_rs : Nat) : Int)))), (18, (.v (.slice (some q3) n_rs c_rs))), (4, (.v (.bool false))), (1, (.v (.int .i64 most)))], [], 1, [], []⟩ (by kernel_rfl) ?_
      refine WL_nil ?_
      refine WQ_code ?_
      have hfit := hB3 _ (List.mem_of_getElem? hx4) _ (List.mem_of_getElem? hx15)
      have hsj := sum_succ (f := fun al => 1 + al.length) hx15
      have hle0 := few_le hx4 hx15
      change fewA (x6.take (j + 1)) = fewA (x6.take j) + (1 + x17.length) at hsj
      have hw1 : IntKind.i64.wrap (1 + ((n21 : Nat) : Int)) = 1 + ((n21 : Nat) : Int) := wrap_id (by omega)
      have hw2 : IntKind.i64.wrap (((tk.length + nm.length + fewN (rs.take i) + fewA (x6.take j) : Nat) : Int) + IntKind.i64.wrap (1 + ((n21 : Nat) : Int))) = ((tk.length + nm.length + fewN (rs.take i) + fewA (x6.take (j + 1)) : Nat) : Int) := by rw [hw1, wrap_id (by omega)]; omega
      refine WC_cond (b := (decide (((IntKind.i64.wrap (((tk.length + nm.length + fewN (rs.take i) + fewA (x6.take j) : Nat) : Int) + (IntKind.i64.wrap (1 + ((n21 : Nat) : Int))))) : Int) > most))) rfl (fun he => ?_) (fun he => ?_)
      · replace he := of_decide_eq_true he
        rw [hw2] at he
        refine WC_seq (WC_region ?_)
        refine WL_execS htb 1 [4, 37, 36, 35, 5, 34, 33, 32, 31, 30, 9, 29, 28, 27, 26, 25, 24, 7, 23, 22, 21, 20, 19, 18, 1] [] ⟨[(4, (.v (.bool false))), (37, (.v (.bool (decide (((IntKind.i64.wrap (((tk.length + nm.length + fewN (rs.take i) + fewA (x6.take j) : Nat) : Int) + (IntKind.i64.wrap (1 + ((n21 : Nat) : Int))))) : Int) > most))))), (36, (.v (.int .i64 most))), (35, (.v (.int .i64 (IntKind.i64.wrap (((tk.length + nm.length + fewN (rs.take i) + fewA (x6.take j) : Nat) : Int) + (IntKind.i64.wrap (1 + ((n21 : Nat) : Int)))))))), (5, (.v (.int .i64 (IntKind.i64.wrap (((tk.length + nm.length + fewN (rs.take i) + fewA (x6.take j) : Nat) : Int) + (IntKind.i64.wrap (1 + ((n21 : Nat) : Int)))))))), (34, (.v (.int .i64 (IntKind.i64.wrap (((tk.length + nm.length + fewN (rs.take i) + fewA (x6.take j) : Nat) : Int) + (IntKind.i64.wrap (1 + ((n21 : Nat) : Int)))))))), (33, (.v (.int .i64 (IntKind.i64.wrap (1 + ((n21 : Nat) : Int)))))), (32, (.v (.int .i64 ((n21 : Nat) : Int)))), (31, (.v (.slice A20 n21 c22))), (30, (.v (.int .i64 ((tk.length + nm.length + fewN (rs.take i) + fewA (x6.take j) : Nat) : Int)))), (9, (.v (.slice A20 n21 c22))), (29, (.v (.slice A20 n21 c22))), (28, (.v (.pointer (some (q14.add (j * 1)))))), (27, (.v (.bool (decide ((((j : Nat) : Int) : Int) < ((n10 : Nat) : Int)))))), (26, (.v (.int .i64 ((j : Nat) : Int)))), (25, (.v (.int .i64 ((n10 : Nat) : Int)))), (24, (.v (.slice (some q14) n10 c11))), (7, (.v (.slice (some q14) n10 c11))), (23, (.v (.slice (some q14) n10 c11))), (22, (.v (.pointer (some (q3.add (i * 1)))))), (21, (.v (.bool (decide ((((i : Nat) : Int) : Int) < ((n_rs : Nat) : Int)))))), (20, (.v (.int .i64 ((i : Nat) : Int)))), (19, (.v (.int .i64 ((n_rs : Nat) : Int)))), (18, (.v (.slice (some q3) n_rs c_rs))), (1, (.v (.int .i64 most)))], [], 1, [], []⟩ (by kernel_rfl) ?_
        refine WL_nil ?_
        refine WQ_code ?_
        refine WC_ret ?_
        refine WQ_blk_ret ?_
        refine WQ_then_ret ?_
        refine WQ_then_ret ?_
        refine WQ_blk_ret ?_
        refine WQ_blk_ret ?_
        refine WQ_then_ret ?_
        refine WQ_then_ret ?_
        refine WQ_blk_ret ?_
        refine WQ_then_ret ?_
        exact WQ_done htb [(.v (.bool false))] _ (.inl rfl) rfl (by kernel_rfl) (fun ρ w hW => ⟨false, rfl, (decide_eq_false (by omega)).symm⟩)
      · replace he := of_decide_eq_false he
        rw [hw2] at he
        refine WC_skip ?_
        refine WQ_blk ?_
        refine WQ_code ?_
        refine WC_region ?_
        refine WL_execS htb 2 [26, 38, 37, 36, 35, 5, 34, 33, 32, 31, 30, 9, 29, 28, 27, 25, 24, 7, 23, 22, 21, 20, 19, 18, 4, 1] [] ⟨[(26, (.v (.int .i64 (IntKind.i64.wrap (((j : Nat) : Int) + 1))))), (38, (.v (.int .i64 (IntKind.i64.wrap (((j : Nat) : Int) + 1))))), (37, (.v (.bool (decide (((IntKind.i64.wrap (((tk.length + nm.length + fewN (rs.take i) + fewA (x6.take j) : Nat) : Int) + (IntKind.i64.wrap (1 + ((n21 : Nat) : Int))))) : Int) > most))))), (36, (.v (.int .i64 most))), (35, (.v (.int .i64 (IntKind.i64.wrap (((tk.length + nm.length + fewN (rs.take i) + fewA (x6.take j) : Nat) : Int) + (IntKind.i64.wrap (1 + ((n21 : Nat) : Int)))))))), (5, (.v (.int .i64 (IntKind.i64.wrap (((tk.length + nm.length + fewN (rs.take i) + fewA (x6.take j) : Nat) : Int) + (IntKind.i64.wrap (1 + ((n21 : Nat) : Int)))))))), (34, (.v (.int .i64 (IntKind.i64.wrap (((tk.length + nm.length + fewN (rs.take i) + fewA (x6.take j) : Nat) : Int) + (IntKind.i64.wrap (1 + ((n21 : Nat) : Int)))))))), (33, (.v (.int .i64 (IntKind.i64.wrap (1 + ((n21 : Nat) : Int)))))), (32, (.v (.int .i64 ((n21 : Nat) : Int)))), (31, (.v (.slice A20 n21 c22))), (30, (.v (.int .i64 ((tk.length + nm.length + fewN (rs.take i) + fewA (x6.take j) : Nat) : Int)))), (9, (.v (.slice A20 n21 c22))), (29, (.v (.slice A20 n21 c22))), (28, (.v (.pointer (some (q14.add (j * 1)))))), (27, (.v (.bool (decide ((((j : Nat) : Int) : Int) < ((n10 : Nat) : Int)))))), (25, (.v (.int .i64 ((n10 : Nat) : Int)))), (24, (.v (.slice (some q14) n10 c11))), (7, (.v (.slice (some q14) n10 c11))), (23, (.v (.slice (some q14) n10 c11))), (22, (.v (.pointer (some (q3.add (i * 1)))))), (21, (.v (.bool (decide ((((i : Nat) : Int) : Int) < ((n_rs : Nat) : Int)))))), (20, (.v (.int .i64 ((i : Nat) : Int)))), (19, (.v (.int .i64 ((n_rs : Nat) : Int)))), (18, (.v (.slice (some q3) n_rs c_rs))), (4, (.v (.bool false))), (1, (.v (.int .i64 most)))], [], 1, [], []⟩ (by kernel_rfl) ?_
        refine WL_nil ?_
        refine WK_env [(26, (.v (.int .i64 ((j + 1 : Nat) : Int)))), (38, (.v (.int .i64 (IntKind.i64.wrap (((j : Nat) : Int) + 1))))), (37, (.v (.bool (decide (((IntKind.i64.wrap (((tk.length + nm.length + fewN (rs.take i) + fewA (x6.take j) : Nat) : Int) + (IntKind.i64.wrap (1 + ((n21 : Nat) : Int))))) : Int) > most))))), (36, (.v (.int .i64 most))), (35, (.v (.int .i64 (IntKind.i64.wrap (((tk.length + nm.length + fewN (rs.take i) + fewA (x6.take j) : Nat) : Int) + (IntKind.i64.wrap (1 + ((n21 : Nat) : Int)))))))), (5, (.v (.int .i64 (IntKind.i64.wrap (((tk.length + nm.length + fewN (rs.take i) + fewA (x6.take j) : Nat) : Int) + (IntKind.i64.wrap (1 + ((n21 : Nat) : Int)))))))), (34, (.v (.int .i64 (IntKind.i64.wrap (((tk.length + nm.length + fewN (rs.take i) + fewA (x6.take j) : Nat) : Int) + (IntKind.i64.wrap (1 + ((n21 : Nat) : Int)))))))), (33, (.v (.int .i64 (IntKind.i64.wrap (1 + ((n21 : Nat) : Int)))))), (32, (.v (.int .i64 ((n21 : Nat) : Int)))), (31, (.v (.slice A20 n21 c22))), (30, (.v (.int .i64 ((tk.length + nm.length + fewN (rs.take i) + fewA (x6.take j) : Nat) : Int)))), (9, (.v (.slice A20 n21 c22))), (29, (.v (.slice A20 n21 c22))), (28, (.v (.pointer (some (q14.add (j * 1)))))), (27, (.v (.bool (decide ((((j : Nat) : Int) : Int) < ((n10 : Nat) : Int)))))), (25, (.v (.int .i64 ((n10 : Nat) : Int)))), (24, (.v (.slice (some q14) n10 c11))), (7, (.v (.slice (some q14) n10 c11))), (23, (.v (.slice (some q14) n10 c11))), (22, (.v (.pointer (some (q3.add (i * 1)))))), (21, (.v (.bool (decide ((((i : Nat) : Int) : Int) < ((n_rs : Nat) : Int)))))), (20, (.v (.int .i64 ((i : Nat) : Int)))), (19, (.v (.int .i64 ((n_rs : Nat) : Int)))), (18, (.v (.slice (some q3) n_rs c_rs))), (4, (.v (.bool false))), (1, (.v (.int .i64 most)))] (fun ρ => ⟨rfl, (congrArg (Value.int .i64) (by rw [wrap_id (by omega)]; first | rfl | omega)), ⟨rfl, rfl, ⟨rfl, rfl, ⟨rfl, rfl, ⟨rfl, rfl, ⟨rfl, rfl, ⟨rfl, rfl, ⟨rfl, rfl, ⟨rfl, rfl, ⟨rfl, rfl, ⟨rfl, rfl, ⟨rfl, rfl, ⟨rfl, rfl, ⟨rfl, rfl, ⟨rfl, rfl, ⟨rfl, rfl, ⟨rfl, rfl, ⟨rfl, rfl, ⟨rfl, rfl, ⟨rfl, rfl, ⟨rfl, rfl, ⟨rfl, rfl, ⟨rfl, rfl, ⟨rfl, rfl, ⟨rfl, rfl, ⟨rfl, rfl, trivial⟩⟩⟩⟩⟩⟩⟩⟩⟩⟩⟩⟩⟩⟩⟩⟩⟩⟩⟩⟩⟩⟩⟩⟩⟩⟩) ?_
        refine WK_env [(26, (.v (.int .i64 ((j + 1 : Nat) : Int)))), (38, (.v (.int .i64 (IntKind.i64.wrap (((j : Nat) : Int) + 1))))), (37, (.v (.bool (decide (((IntKind.i64.wrap (((tk.length + nm.length + fewN (rs.take i) + fewA (x6.take j) : Nat) : Int) + (IntKind.i64.wrap (1 + ((n21 : Nat) : Int))))) : Int) > most))))), (36, (.v (.int .i64 most))), (35, (.v (.int .i64 (IntKind.i64.wrap (((tk.length + nm.length + fewN (rs.take i) + fewA (x6.take j) : Nat) : Int) + (IntKind.i64.wrap (1 + ((n21 : Nat) : Int)))))))), (5, (.v (.int .i64 ((tk.length + nm.length + fewN (rs.take i) + fewA (x6.take (j + 1)) : Nat) : Int)))), (34, (.v (.int .i64 (IntKind.i64.wrap (((tk.length + nm.length + fewN (rs.take i) + fewA (x6.take j) : Nat) : Int) + (IntKind.i64.wrap (1 + ((n21 : Nat) : Int)))))))), (33, (.v (.int .i64 (IntKind.i64.wrap (1 + ((n21 : Nat) : Int)))))), (32, (.v (.int .i64 ((n21 : Nat) : Int)))), (31, (.v (.slice A20 n21 c22))), (30, (.v (.int .i64 ((tk.length + nm.length + fewN (rs.take i) + fewA (x6.take j) : Nat) : Int)))), (9, (.v (.slice A20 n21 c22))), (29, (.v (.slice A20 n21 c22))), (28, (.v (.pointer (some (q14.add (j * 1)))))), (27, (.v (.bool (decide ((((j : Nat) : Int) : Int) < ((n10 : Nat) : Int)))))), (25, (.v (.int .i64 ((n10 : Nat) : Int)))), (24, (.v (.slice (some q14) n10 c11))), (7, (.v (.slice (some q14) n10 c11))), (23, (.v (.slice (some q14) n10 c11))), (22, (.v (.pointer (some (q3.add (i * 1)))))), (21, (.v (.bool (decide ((((i : Nat) : Int) : Int) < ((n_rs : Nat) : Int)))))), (20, (.v (.int .i64 ((i : Nat) : Int)))), (19, (.v (.int .i64 ((n_rs : Nat) : Int)))), (18, (.v (.slice (some q3) n_rs c_rs))), (4, (.v (.bool false))), (1, (.v (.int .i64 most)))] (fun ρ => ⟨rfl, rfl, ⟨rfl, rfl, ⟨rfl, rfl, ⟨rfl, rfl, ⟨rfl, rfl, ⟨rfl, (congrArg (Value.int .i64) hw2), ⟨rfl, rfl, ⟨rfl, rfl, ⟨rfl, rfl, ⟨rfl, rfl, ⟨rfl, rfl, ⟨rfl, rfl, ⟨rfl, rfl, ⟨rfl, rfl, ⟨rfl, rfl, ⟨rfl, rfl, ⟨rfl, rfl, ⟨rfl, rfl, ⟨rfl, rfl, ⟨rfl, rfl, ⟨rfl, rfl, ⟨rfl, rfl, ⟨rfl, rfl, ⟨rfl, rfl, ⟨rfl, rfl, ⟨rfl, rfl, trivial⟩⟩⟩⟩⟩⟩⟩⟩⟩⟩⟩⟩⟩⟩⟩⟩⟩⟩⟩⟩⟩⟩⟩⟩⟩⟩) ?_
        refine WK_keep [26, 25, 24, 7, 23, 22, 21, 20, 19, 18, 5, 4, 1] [] rfl rfl ?_
        refine WK_env [(26, (.v (.int .i64 (((j + 1) : Nat) : Int)))), (25, (.v (.int .i64 ((n10 : Nat) : Int)))), (24, (.v (.slice (some q14) n10 c11))), (7, (.v (.slice (some q14) n10 c11))), (23, (.v (.slice (some q14) n10 c11))), (22, (.v (.pointer (some (q3.add (i * 1)))))), (21, (.v (.bool (decide ((((i : Nat) : Int) : Int) < ((n_rs : Nat) : Int)))))), (20, (.v (.int .i64 ((i : Nat) : Int)))), (19, (.v (.int .i64 ((n_rs : Nat) : Int)))), (18, (.v (.slice (some q3) n_rs c_rs))), (5, (.v (.int .i64 ((tk.length + nm.length + fewN (rs.take i) + fewA (x6.take (j + 1)) : Nat) : Int)))), (4, (.v (.bool false))), (1, (.v (.int .i64 most)))] (fun ρ => ⟨rfl, rfl, ⟨rfl, rfl, ⟨rfl, rfl, ⟨rfl, rfl, ⟨rfl, rfl, ⟨rfl, rfl, ⟨rfl, rfl, ⟨rfl, rfl, ⟨rfl, rfl, ⟨rfl, rfl, ⟨rfl, rfl, ⟨rfl, rfl, ⟨rfl, rfl, trivial⟩⟩⟩⟩⟩⟩⟩⟩⟩⟩⟩⟩⟩) ?_
        exact WQ_next ((j + 1)) (by show n10 - (j + 1) < n10 - j; omega) ⟨hc13, ⟨by omega, .inr (by omega)⟩⟩ (fun ρ a w h => h)
    · replace hd := of_decide_eq_false hd
      refine WC_exit ?_
      refine WQ_then_exit ?_
      refine WQ_then_exit ?_
      refine WQ_hit ?_
      refine WQ_blk ?_
      refine WQ_code ?_
      refine WC_region ?_
      refine WL_execS htb 2 [20, 39, 27, 26, 25, 24, 7, 23, 22, 21, 19, 18, 5, 4, 1] [] ⟨[(20, (.v (.int .i64 (IntKind.i64.wrap (((i : Nat) : Int) + 1))))), (39, (.v (.int .i64 (IntKind.i64.wrap (((i : Nat) : Int) + 1))))), (27, (.v (.bool (decide ((((j : Nat) : Int) : Int) < ((n10 : Nat) : Int)))))), (26, (.v (.int .i64 ((j : Nat) : Int)))), (25, (.v (.int .i64 ((n10 : Nat) : Int)))), (24, (.v (.slice A9 n10 c11))), (7, (.v (.slice A9 n10 c11))), (23, (.v (.slice A9 n10 c11))), (22, (.v (.pointer (some (q3.add (i * 1)))))), (21, (.v (.bool (decide ((((i : Nat) : Int) : Int) < ((n_rs : Nat) : Int)))))), (19, (.v (.int .i64 ((n_rs : Nat) : Int)))), (18, (.v (.slice (some q3) n_rs c_rs))), (5, (.v (.int .i64 ((tk.length + nm.length + fewN (rs.take i) + fewA (x6.take j) : Nat) : Int)))), (4, (.v (.bool false))), (1, (.v (.int .i64 most)))], [], 1, [], []⟩ (by kernel_rfl) ?_
      refine WL_nil ?_
      have hsi := sum_succ (f := fewA) hx4
      change fewN (rs.take (i + 1)) = fewN (rs.take i) + fewA x6 at hsi
      have htk : x6.take j = x6 := List.take_of_length_le (by omega)
      rw [htk] at hs1
      refine WK_env [(20, (.v (.int .i64 ((i + 1 : Nat) : Int)))), (39, (.v (.int .i64 (IntKind.i64.wrap (((i : Nat) : Int) + 1))))), (27, (.v (.bool (decide ((((j : Nat) : Int) : Int) < ((n10 : Nat) : Int)))))), (26, (.v (.int .i64 ((j : Nat) : Int)))), (25, (.v (.int .i64 ((n10 : Nat) : Int)))), (24, (.v (.slice A9 n10 c11))), (7, (.v (.slice A9 n10 c11))), (23, (.v (.slice A9 n10 c11))), (22, (.v (.pointer (some (q3.add (i * 1)))))), (21, (.v (.bool (decide ((((i : Nat) : Int) : Int) < ((n_rs : Nat) : Int)))))), (19, (.v (.int .i64 ((n_rs : Nat) : Int)))), (18, (.v (.slice (some q3) n_rs c_rs))), (5, (.v (.int .i64 ((tk.length + nm.length + fewN (rs.take i) + fewA (x6.take j) : Nat) : Int)))), (4, (.v (.bool false))), (1, (.v (.int .i64 most)))] (fun ρ => ⟨rfl, (congrArg (Value.int .i64) (by rw [wrap_id (by omega)]; first | rfl | omega)), ⟨rfl, rfl, ⟨rfl, rfl, ⟨rfl, rfl, ⟨rfl, rfl, ⟨rfl, rfl, ⟨rfl, rfl, ⟨rfl, rfl, ⟨rfl, rfl, ⟨rfl, rfl, ⟨rfl, rfl, ⟨rfl, rfl, ⟨rfl, rfl, ⟨rfl, rfl, ⟨rfl, rfl, trivial⟩⟩⟩⟩⟩⟩⟩⟩⟩⟩⟩⟩⟩⟩⟩) ?_
      refine WK_env [(20, (.v (.int .i64 ((i + 1 : Nat) : Int)))), (39, (.v (.int .i64 (IntKind.i64.wrap (((i : Nat) : Int) + 1))))), (27, (.v (.bool (decide ((((j : Nat) : Int) : Int) < ((n10 : Nat) : Int)))))), (26, (.v (.int .i64 ((j : Nat) : Int)))), (25, (.v (.int .i64 ((n10 : Nat) : Int)))), (24, (.v (.slice A9 n10 c11))), (7, (.v (.slice A9 n10 c11))), (23, (.v (.slice A9 n10 c11))), (22, (.v (.pointer (some (q3.add (i * 1)))))), (21, (.v (.bool (decide ((((i : Nat) : Int) : Int) < ((n_rs : Nat) : Int)))))), (19, (.v (.int .i64 ((n_rs : Nat) : Int)))), (18, (.v (.slice (some q3) n_rs c_rs))), (5, (.v (.int .i64 ((tk.length + nm.length + fewN (rs.take (i + 1)) : Nat) : Int)))), (4, (.v (.bool false))), (1, (.v (.int .i64 most)))] (fun ρ => ⟨rfl, rfl, ⟨rfl, rfl, ⟨rfl, rfl, ⟨rfl, rfl, ⟨rfl, rfl, ⟨rfl, rfl, ⟨rfl, rfl, ⟨rfl, rfl, ⟨rfl, rfl, ⟨rfl, rfl, ⟨rfl, rfl, ⟨rfl, rfl, ⟨rfl, (congrArg (Value.int .i64) (by rw [htk, hsi]; omega)), ⟨rfl, rfl, ⟨rfl, rfl, trivial⟩⟩⟩⟩⟩⟩⟩⟩⟩⟩⟩⟩⟩⟩⟩) ?_
      refine WK_keep [20, 19, 18, 5, 4, 1] [] rfl rfl ?_
      refine WK_env [(20, (.v (.int .i64 (((i + 1) : Nat) : Int)))), (19, (.v (.int .i64 ((n_rs : Nat) : Int)))), (18, (.v (.slice (some q3) n_rs c_rs))), (5, (.v (.int .i64 ((tk.length + nm.length + fewN (rs.take (i + 1)) : Nat) : Int)))), (4, (.v (.bool false))), (1, (.v (.int .i64 most)))] (fun ρ => ⟨rfl, rfl, ⟨rfl, rfl, ⟨rfl, rfl, ⟨rfl, rfl, ⟨rfl, rfl, ⟨rfl, rfl, trivial⟩⟩⟩⟩⟩⟩) ?_
      exact WQ_next ((i + 1)) (by show n_rs - (i + 1) < n_rs - i; omega) ⟨hc2, ⟨by omega, by rw [hsi]; omega⟩⟩ (fun ρ a w h => h)
  · replace hc := of_decide_eq_false hc
    refine WC_exit ?_
    refine WQ_then_exit ?_
    refine WQ_then_exit ?_
    refine WQ_hit ?_
    refine WQ_code ?_
    refine WC_seq (WC_region ?_)
    refine WL_execS htb 4 [4] [] ⟨[(4, (.v (.bool (decide ((((tk.length + nm.length + fewN (rs.take i) : Nat) : Int) : Int) ≤ most)))))], [], 1, [], []⟩ (by kernel_rfl) ?_
    refine WL_nil ?_
    refine WQ_code ?_
    refine WC_ret ?_
    exact WQ_done htb [(.v (.bool (decide ((((tk.length + nm.length + fewN (rs.take i) : Nat) : Int) : Int) ≤ most))))] _ (.inl rfl) rfl (by kernel_rfl) (fun ρ w hW => ⟨(decide ((((tk.length + nm.length + fewN (rs.take i) : Nat) : Int) : Int) ≤ most)), rfl, by rw [List.take_of_length_le (by omega)]⟩)

theorem big_ok {w : World} {G : Heap} (hG : Has w G) {tk : (List ByteArray)} {A_tk : Option Addr} {n_tk : Nat} {c_tk : Nat} {nm : (List ByteArray)} {A_nm : Option Addr} {n_nm : Nat} {c_nm : Nat} {rs : (List (List (List Int)))} {A_rs : Option Addr} {n_rs : Nat} {c_rs : Nat} {tk2 : (List ByteArray)} {A_tk2 : Option Addr} {n_tk2 : Nat} {c_tk2 : Nat} {nm2 : (List ByteArray)} {A_nm2 : Option Addr} {n_nm2 : Nat} {c_nm2 : Nat} {rs2 : (List (List (List Int)))} {A_rs2 : Option Addr} {n_rs2 : Nat} {c_rs2 : Nat} {a : (List Int)} {A_a : Option Addr} {n_a : Nat} {c_a : Nat} {b : (List Int)} {A_b : Option Addr} {n_b : Nat} {c_b : Nat} (h_tk : Sl tStr G A_tk n_tk c_tk tk) (h_nm : Sl tStr G A_nm n_nm c_nm nm) (h_rs : Sl (tSlice (tSlice (tInt .i64))) G A_rs n_rs c_rs rs) (h_tk2 : Sl tStr G A_tk2 n_tk2 c_tk2 tk2) (h_nm2 : Sl tStr G A_nm2 n_nm2 c_nm2 nm2) (h_rs2 : Sl (tSlice (tSlice (tInt .i64))) G A_rs2 n_rs2 c_rs2 rs2) (h_a : Sl (tInt .i64) G A_a n_a c_a a) (h_b : Sl (tInt .i64) G A_b n_b c_b b) (hB1 : tk.length ≤ 140737488355328) (hB2 : nm.length ≤ 140737488355328) (hB3 : FitR rs) (hB4 : tk2.length ≤ 140737488355328) (hB5 : nm2.length ≤ 140737488355328) (hB6 : FitR rs2) :
    Calls Try.prog 16 #[(.agg #[.slice A_tk n_tk c_tk, .slice A_nm n_nm c_nm, .slice A_rs n_rs c_rs]), (.agg #[.slice A_tk2 n_tk2 c_tk2, .slice A_nm2 n_nm2 c_nm2, .slice A_rs2 n_rs2 c_rs2]), (.agg #[.slice A_a n_a c_a, .slice A_b n_b c_b])] w (Ret w G fun v G' => ∃ (r : Bool), v = .bool r ∧ (r = false → SmallR rs ∧ SmallR rs2 ∧ a.length ≤ 300 ∧ b.length ≤ 300)) := by
  have lh_tk := h_tk.len'
  have lh_nm := h_nm.len'
  have lh_rs := h_rs.len'
  have lh_tk2 := h_tk2.len'
  have lh_nm2 := h_nm2.len'
  have lh_rs2 := h_rs2.len'
  have lh_a := h_a.len'
  have lh_b := h_b.len'
  refine enter [(.agg [(.v (.slice A_tk n_tk c_tk)), (.v (.slice A_nm n_nm c_nm)), (.v (.slice A_rs n_rs c_rs))]), (.agg [(.v (.slice A_tk2 n_tk2 c_tk2)), (.v (.slice A_nm2 n_nm2 c_nm2)), (.v (.slice A_rs2 n_rs2 c_rs2))]), (.agg [(.v (.slice A_a n_a c_a)), (.v (.slice A_b n_b c_b))])] 27 Try.func16 rfl rfl rfl rfl hG ?_
  refine WC_seq (WC_region ?_)
  refine WL_execS htb 4 [6, 5, 4, 3] [2, 1, 0] ⟨[(6, (.v (.bool false))), (5, (.p 2 0)), (4, (.p 1 0)), (3, (.p 0 0))], [(2, (.cells 24 [(.v (.slice A_a n_a c_a)), (.v (.slice A_b n_b c_b))])), (1, (.cells 35 [(.v (.slice A_tk2 n_tk2 c_tk2)), (.v (.slice A_nm2 n_nm2 c_nm2)), (.v (.slice A_rs2 n_rs2 c_rs2))])), (0, (.cells 35 [(.v (.slice A_tk n_tk c_tk)), (.v (.slice A_nm n_nm c_nm)), (.v (.slice A_rs n_rs c_rs))]))], 3, [], []⟩ (by kernel_rfl) ?_
  refine WL_nil ?_
  refine WQ_code ?_
  refine WC_seq (WC_region ?_)
  refine WL_execS htb 1 [7, 6, 5, 4] [2, 1] ⟨[(7, (.agg [(.v (.slice A_tk n_tk c_tk)), (.v (.slice A_nm n_nm c_nm)), (.v (.slice A_rs n_rs c_rs))])), (6, (.v (.bool false))), (5, (.p 2 0)), (4, (.p 1 0))], [(2, (.cells 24 [(.v (.slice A_a n_a c_a)), (.v (.slice A_b n_b c_b))])), (1, (.cells 35 [(.v (.slice A_tk2 n_tk2 c_tk2)), (.v (.slice A_nm2 n_nm2 c_nm2)), (.v (.slice A_rs2 n_rs2 c_rs2))]))], 3, [], []⟩ (by kernel_rfl) ?_
  refine WL_op (WOp_call 27 [(.agg [(.v (.slice A_tk n_tk c_tk)), (.v (.slice A_nm n_nm c_nm)), (.v (.slice A_rs n_rs c_rs))]), (.v (.int .i64 400))] (by kernel_rfl) (goes_of Try.func27 rfl rfl) (fun ρ w hW => few_ok hW.has (tk := tk) (nm := nm) (rs := rs) (most := 400) h_tk h_nm h_rs (by omega) hB1 hB2 hB3 (by omega)) ?_)
  intro G1 v hle hΦ
  replace h_tk := h_tk.mono hle
  replace h_nm := h_nm.mono hle
  replace h_rs := h_rs.mono hle
  replace h_tk2 := h_tk2.mono hle
  replace h_nm2 := h_nm2.mono hle
  replace h_rs2 := h_rs2.mono hle
  replace h_a := h_a.mono hle
  replace h_b := h_b.mono hle
  obtain ⟨r1, rfl, hR2⟩ := hΦ
  refine WL_execS htb 2 [10, 6, 5, 4] [2, 1] ⟨[(10, (.v (.bool (!r1)))), (6, (.v (.bool false))), (5, (.p 2 0)), (4, (.p 1 0))], [(2, (.cells 24 [(.v (.slice A_a n_a c_a)), (.v (.slice A_b n_b c_b))])), (1, (.cells 35 [(.v (.slice A_tk2 n_tk2 c_tk2)), (.v (.slice A_nm2 n_nm2 c_nm2)), (.v (.slice A_rs2 n_rs2 c_rs2))]))], 3, [], []⟩ (by kernel_rfl) ?_
  refine WK_split 10 (!r1) rfl (fun hc0 => ?_) (fun hc0 => ?_)
  · rw [Bool.not_eq_true'] at hc0
    refine WK_keep [10, 6, 5, 4] [2, 1] rfl rfl ?_
    refine WL_execS htb 17 [6] [] ⟨[(6, (.v (.bool true)))], [], 3, [], []⟩ (by kernel_rfl) ?_
    refine WL_nil ?_
    refine WQ_code ?_
    refine WC_ret ?_
    exact WQ_done htb [(.v (.bool true))] _ (.inl rfl) rfl (by kernel_rfl) (fun ρ w hW => ⟨true, rfl, fun h => by cases h⟩)
  · rw [Bool.not_eq_false'] at hc0
    refine WK_keep [10, 6, 5, 4] [2, 1] rfl rfl ?_
    refine WL_execS htb 1 [11, 10, 6, 5] [2] ⟨[(11, (.agg [(.v (.slice A_tk2 n_tk2 c_tk2)), (.v (.slice A_nm2 n_nm2 c_nm2)), (.v (.slice A_rs2 n_rs2 c_rs2))])), (10, (.v (.bool false))), (6, (.v (.bool false))), (5, (.p 2 0))], [(2, (.cells 24 [(.v (.slice A_a n_a c_a)), (.v (.slice A_b n_b c_b))]))], 3, [], []⟩ (by kernel_rfl) ?_
    refine WL_op (WOp_call 27 [(.agg [(.v (.slice A_tk2 n_tk2 c_tk2)), (.v (.slice A_nm2 n_nm2 c_nm2)), (.v (.slice A_rs2 n_rs2 c_rs2))]), (.v (.int .i64 400))] (by kernel_rfl) (goes_of Try.func27 rfl rfl) (fun ρ w hW => few_ok hW.has (tk := tk2) (nm := nm2) (rs := rs2) (most := 400) h_tk2 h_nm2 h_rs2 (by omega) hB4 hB5 hB6 (by omega)) ?_)
    intro G2 v hle hΦ
    replace h_tk := h_tk.mono hle
    replace h_nm := h_nm.mono hle
    replace h_rs := h_rs.mono hle
    replace h_tk2 := h_tk2.mono hle
    replace h_nm2 := h_nm2.mono hle
    replace h_rs2 := h_rs2.mono hle
    replace h_a := h_a.mono hle
    replace h_b := h_b.mono hle
    obtain ⟨r3, rfl, hR4⟩ := hΦ
    refine WL_execS htb 3 [15, 6, 5] [2] ⟨[(15, (.v (.bool (!r3)))), (6, (.v (.bool false))), (5, (.p 2 0))], [(2, (.cells 24 [(.v (.slice A_a n_a c_a)), (.v (.slice A_b n_b c_b))]))], 3, [], []⟩ (by kernel_rfl) ?_
    have hs1 := few_small (of_decide_eq_true (hR2.symm.trans (by simpa using hc0)))
    refine WK_split 15 (!r3) rfl (fun hc1 => ?_) (fun hc1 => ?_)
    · rw [Bool.not_eq_true'] at hc1
      refine WK_keep [15, 6, 5] [2] rfl rfl ?_
      refine WL_execS htb 12 [6] [] ⟨[(6, (.v (.bool true)))], [], 3, [], []⟩ (by kernel_rfl) ?_
      refine WL_nil ?_
      refine WQ_code ?_
      refine WC_ret ?_
      exact WQ_done htb [(.v (.bool true))] _ (.inl rfl) rfl (by kernel_rfl) (fun ρ w hW => ⟨true, rfl, fun h => by cases h⟩)
    · rw [Bool.not_eq_false'] at hc1
      refine WK_keep [15, 6, 5] [2] rfl rfl ?_
      refine WL_execS htb 6 [21, 6, 5] [2] ⟨[(21, (.v (.bool (decide ((((n_a : Nat) : Int) : Int) > 300))))), (6, (.v (.bool false))), (5, (.p 2 0))], [(2, (.cells 24 [(.v (.slice A_a n_a c_a)), (.v (.slice A_b n_b c_b))]))], 3, [], []⟩ (by kernel_rfl) ?_
      have hs2 := few_small (of_decide_eq_true (hR4.symm.trans (by simpa using hc1)))
      refine WK_split 21 (decide ((((n_a : Nat) : Int) : Int) > 300)) rfl (fun hc2 => ?_) (fun hc2 => ?_)
      · replace hc2 := of_decide_eq_true hc2
        refine WK_keep [21, 6, 5] [2] rfl rfl ?_
        refine WL_execS htb 6 [6] [] ⟨[(6, (.v (.bool true)))], [], 3, [], []⟩ (by kernel_rfl) ?_
        refine WL_nil ?_
        refine WQ_code ?_
        refine WC_ret ?_
        exact WQ_done htb [(.v (.bool true))] _ (.inl rfl) rfl (by kernel_rfl) (fun ρ w hW => ⟨true, rfl, fun h => by cases h⟩)
      · replace hc2 := of_decide_eq_false hc2
        refine WK_keep [21, 6, 5] [2] rfl rfl ?_
        refine WL_execS htb 6 [6] [] ⟨[(6, (.v (.bool (decide ((((n_b : Nat) : Int) : Int) > 300)))))], [], 3, [], []⟩ (by kernel_rfl) ?_
        refine WL_nil ?_
        refine WQ_code ?_
        refine WC_ret ?_
        exact WQ_done htb [(.v (.bool (decide ((((n_b : Nat) : Int) : Int) > 300))))] _ (.inl rfl) rfl (by kernel_rfl) (fun ρ w hW => ⟨(decide ((((n_b : Nat) : Int) : Int) > 300)), rfl, fun h => ⟨hs1, hs2, by omega, by have := of_decide_eq_false h; omega⟩⟩)

end Go.Proofs.Ytbpajkjolhoflaa.Sym
