/- Walks of functions that the laws of this seat reach, printed by a program of this session's. -/
import Derived.Test.YtfemkbockhpmcaaB11
import Derived.Test.YtfemkbockhpmcaaSymR
set_option linter.unusedSimpArgs false
set_option linter.unusedVariables false
set_option maxHeartbeats 4000000
namespace Go.Proofs.Ytfemkbockhpmcaa.Sym
open Go Go.Proofs Go.RowKit

def longA (a : List ByteArray) : Bool := decide (30 < a.length)
def longR (x : ByteArray × List (List ByteArray)) : Bool := decide (30 < x.2.length) || x.2.any longA
def bareR (x : ByteArray × List (List ByteArray)) : Bool := decide (x.2.length = 0)
theorem longA_eq {a : List ByteArray} {n : Nat} (h : n = a.length) : decide (((n : Nat) : Int) > 30) = longA a := by unfold longA; rw [← h]; exact decide_eq_decide.2 (by omega)
theorem longR_t {nm : ByteArray} {al : List (List ByteArray)} (h : 30 < al.length) : true = longR (nm, al) := by unfold longR; rw [decide_eq_true h]; rfl
theorem longR_f {nm : ByteArray} {al : List (List ByteArray)} (h : ¬ 30 < al.length) : al.any longA = longR (nm, al) := by unfold longR; rw [decide_eq_false h]; rfl
theorem bareR_eq {nm : ByteArray} {al : List (List ByteArray)} {n : Nat} (h : n = al.length) : (((n : Nat) : Int) == 0) = bareR (nm, al) := by
  unfold bareR; subst h
  cases al with
  | nil => rfl
  | cons a l => rw [decide_eq_false (by simp)]; exact beq_eq_false_iff_ne.2 (by simp only [List.length_cons]; omega)
theorem longR_iff (x : ByteArray × List (List ByteArray)) : longR x = true ↔ LongR x := by
  simp [longR, LongR, longA]
theorem longG_f {g : List (ByteArray × List (List ByteArray))} (h : ¬ 60 < g.length) : g.any longR = true ↔ LongP g := by
  rw [List.any_eq_true]
  exact ⟨fun ⟨x, hx, hl⟩ => .inl ⟨x, hx, (longR_iff x).1 hl⟩, fun h' => h'.elim (fun ⟨x, hx, hl⟩ => ⟨x, hx, (longR_iff x).2 hl⟩) (fun h' => absurd h' h)⟩
theorem clone_ok {w : World} {G : Heap} (hG : Has w G) {xs : (List ByteArray)} {A_xs : Option Addr} {n_xs : Nat} {c_xs : Nat} (h_xs : Sl tStr G A_xs n_xs c_xs xs) (hb : xs.length ≤ 1000000) :
    Calls Try.prog 47 #[(.slice A_xs n_xs c_xs)] w (Ret w G fun v G' => ∃ (A_ys : Option Addr) (n_ys : Nat) (c_ys : Nat), v = .slice A_ys n_ys c_ys ∧ (Sl tStr G' A_ys n_ys c_ys xs) ∧ (True)) := by
 have lh_xs := h_xs.len'
 refine enter [(sS A_xs n_xs c_xs)] 8 Try.func47 rfl rfl rfl rfl hG ?_
 obtain rfl | ⟨q1, rfl⟩ : A_xs = none ∨ ∃ q, A_xs = some q := by cases A_xs <;> simp
 ·
  skip
  have hx0 := h_xs.nil'
  refine WC_seq (WC_region ?_)
  refine WL_execS htb 1 [0] [] ⟨[(0, (sS none n_xs c_xs))], [], 0, [], []⟩ (by kernel_rfl) ?_
  refine WL_nil ?_
  refine WQ_code ?_
  refine WC_seq ?_
  refine WC_seq (WC_region ?_)
  refine WL_execS htb 2 [4, 0] [] ⟨[(4, (bB true)), (0, (sS none n_xs c_xs))], [], 0, [], []⟩ (by kernel_rfl) ?_
  refine WL_nil ?_
  refine WQ_code ?_
  refine WC_cond (b := true) rfl (fun _ => ?_) (fun h => by cases h)
  refine WC_seq (WC_region ?_)
  refine WL_execS htb 1 [2] [] ⟨[(2, (sS none 0 0))], [], 0, [], []⟩ (by kernel_rfl) ?_
  refine WL_nil ?_
  refine WQ_code ?_
  refine WC_ret ?_
  refine WQ_then_ret ?_
  exact WQ_done htb [(sS none 0 0)] _ (.inl rfl) rfl (by kernel_rfl) (fun ρ w hW => ⟨_, _, _, rfl, (by rw [(hx0 rfl : xs = [])]; exact (Sl.none0 _ _)), trivial⟩)
 ·
  skip
  refine WC_seq (WC_region ?_)
  refine WL_execS htb 1 [0] [] ⟨[(0, (sS (some q1) n_xs c_xs))], [], 0, [], []⟩ (by kernel_rfl) ?_
  refine WL_nil ?_
  refine WQ_code ?_
  refine WC_seq ?_
  refine WC_seq (WC_region ?_)
  refine WL_execS htb 2 [4, 0] [] ⟨[(4, (bB false)), (0, (sS (some q1) n_xs c_xs))], [], 0, [], []⟩ (by kernel_rfl) ?_
  refine WL_nil ?_
  refine WQ_code ?_
  refine WC_cond (b := false) rfl (fun h => by cases h) (fun _ => ?_)
  refine WC_skip ?_
  refine WQ_code ?_
  refine WC_seq (WC_region ?_)
  refine WL_execS htb 2 [6, 5] [0] ⟨[(6, (sS (some q1) n_xs c_xs)), (5, (.s 0 0 0))], [(0, (.cells 9 []))], 1, [], []⟩ (by kernel_rfl) ?_
  refine WK_lst 0 [] rfl (fun ρ => rfl) ?_
  have ho2 : OwnL tStr G [] (([] : List Value).toArray) 0 := OwnL.lit (cs := []) .nil (by first | decide | simp [big])
  refine WL_op (WOp_append htb false 0 0 0 (some q1) n_xs 9 1 16 (by kernel_rfl) (by kernel_rfl) rfl rfl tStr (xs := []) (ys := xs) ho2 rfl (fun h => by cases h) h_xs.row h_xs.len rfl (by decide) (by first | omega | (simp only [List.length_append, List.length_nil, List.length_drop, List.length_take, List.length_cons]; omega)) (by unfold big; first | omega | (simp only [List.length_append, List.length_nil, List.length_drop, List.length_take, List.length_cons]; omega)) (fun z3 arr4 cap5 hz6 ho7 => ?_))
  show WL _ _ _ _ _ _ ⟨[(7, (.ls z3 1 (([] ++ xs).length) cap5)), (6, (sS (some q1) n_xs c_xs)), (5, (.ls false 0 0 0))], [(1, (.lst z3 9 arr4))], 2, [], []⟩ _
  refine WL_execS htb 1 [2] [1] ⟨[(2, (.ls z3 1 (([] ++ xs).length) cap5))], [(1, (.lst z3 9 arr4))], 2, [], []⟩ (by kernel_rfl) ?_
  refine WL_nil ?_
  refine WQ_code ?_
  refine WC_ret ?_
  refine WK_freezeL 1 rfl rfl ?_
  intro bk9 G8 hle hbk9
  obtain ⟨A11, n12, c13, e14, hs10⟩ := OwnL.sl (n := ([] ++ xs).length) ho7 hle hz6 hbk9 rfl
  refine WK_env [(2, (sS A11 n12 c13))] (fun ρ => ⟨rfl, (by exact e14), trivial⟩) ?_
  have lhs10 := hs10.len'
  exact WQ_done htb [(sS A11 n12 c13)] _ (.inl rfl) rfl (by kernel_rfl) (fun ρ w hW => ⟨_, _, _, rfl, (by rw [(by simp : xs = ([] ++ xs))]; exact hs10), trivial⟩)

theorem longAlt_ok {w : World} {G : Heap} (hG : Has w G) {a : (List ByteArray)} {A_a : Option Addr} {n_a : Nat} {c_a : Nat} (h_a : Sl tStr G A_a n_a c_a a) :
    Calls Try.prog 85 #[(.slice A_a n_a c_a)] w (Ret w G fun v G' => ∃ (b : Bool), v = .bool b ∧ (b = longA a)) := by
 have lh_a := h_a.len'
 refine enter [(sS A_a n_a c_a)] 6 Try.func85 rfl rfl rfl rfl hG ?_
 refine WC_seq (WC_region ?_)
 refine WL_execS htb 1 [0] [] ⟨[(0, (sS A_a n_a c_a))], [], 0, [], []⟩ (by kernel_rfl) ?_
 refine WL_nil ?_
 refine WQ_code ?_
 refine WC_seq (WC_region ?_)
 refine WL_execS htb 4 [2] [] ⟨[(2, (bB (decide ((((n_a : Nat) : Int) : Int) > 30))))], [], 0, [], []⟩ (by kernel_rfl) ?_
 refine WL_nil ?_
 refine WQ_code ?_
 refine WC_ret ?_
 exact WQ_done htb [(bB (decide ((((n_a : Nat) : Int) : Int) > 30)))] _ (.inl rfl) rfl (by kernel_rfl) (fun ρ w hW => ⟨(decide ((((n_a : Nat) : Int) : Int) > 30)), rfl, longA_eq h_a.len⟩)

theorem indexLongAlt_ok {w : World} {G : Heap} (hG : Has w G) {xs : List (List ByteArray)} {A_xs : Option Addr} {n_xs c_xs : Nat} (h_xs : Sl (tSlice tStr) G A_xs n_xs c_xs xs) :
    Calls Try.prog 95 #[.slice A_xs n_xs c_xs, .func (.func 85) #[] #[]] w (Ret w G fun v G' => ∃ r : Int, v = .int .i64 r ∧ decide (r ≥ 0) = xs.any longA) := by
 have lh_xs := h_xs.len'
 refine enter [(sS A_xs n_xs c_xs), (.fn (.func 85) [])] 19 Try.func95 rfl rfl rfl rfl hG ?_
 refine WC_seq (WC_region ?_)
 refine WL_execS htb 1 [0, 1] [] ⟨[(0, (sS A_xs n_xs c_xs)), (1, (.fn (.func 85) []))], [], 0, [], []⟩ (by kernel_rfl) ?_
 refine WL_nil ?_
 refine WQ_code ?_
 refine WC_seq ?_
 refine WC_seq (WC_region ?_)
 refine WL_execS htb 3 [8, 7, 0, 1] [] ⟨[(8, (iI 0)), (7, (iN n_xs)), (0, (sS A_xs n_xs c_xs)), (1, (.fn (.func 85) []))], [], 0, [], []⟩ (by kernel_rfl) ?_
 refine WL_nil ?_
 refine WQ_code ?_
 refine WC_block ?_
 refine WK_keep [8, 7, 0, 1] [] rfl rfl ?_
 refine WK_env [(8, (iN 0)), (7, (iN n_xs)), (0, (sS A_xs n_xs c_xs)), (1, (.fn (.func 85) []))] (fun ρ => ⟨rfl, rfl, ⟨rfl, rfl, ⟨rfl, rfl, ⟨rfl, rfl, trivial⟩⟩⟩⟩) ?_
 refine WC_loop (ι := Nat) (fun i G1 => Le G G1 ∧ (i ≤ n_xs ∧ (xs.take i).any longA = false)) (fun i => ⟨[(8, (iN i)), (7, (iN n_xs)), (0, (sS A_xs n_xs c_xs)), (1, (.fn (.func 85) []))], [], 0, [], []⟩) (fun i => n_xs - i) (0) ⟨Le.refl _, ⟨Nat.zero_le _, rfl⟩⟩ rfl ?_
 rintro i G1 ⟨hle, hF⟩
 show WC _ _ _ _ _ ⟨[(8, (iN i)), (7, (iN n_xs)), (0, (sS A_xs n_xs c_xs)), (1, (.fn (.func 85) []))], [], 0, [], []⟩ _
 replace h_xs := h_xs.mono hle
 have hc2 := hle
 obtain ⟨hi, hn⟩ := hF
 refine WC_seq (WC_region ?_)
 refine WL_execS htb 1 [9, 8, 7, 0, 1] [] ⟨[(9, (bB (decide ((((i : Nat) : Int) : Int) < ((n_xs : Nat) : Int))))), (8, (iN i)), (7, (iN n_xs)), (0, (sS A_xs n_xs c_xs)), (1, (.fn (.func 85) []))], [], 0, [], []⟩ (by kernel_rfl) ?_
 refine WL_nil ?_
 refine WQ_code ?_
 refine WC_seq ?_
 refine WC_cond (b := (decide ((((i : Nat) : Int) : Int) < ((n_xs : Nat) : Int)))) rfl (fun hc => ?_) (fun hc => ?_)
 ·
  replace hc := of_decide_eq_true hc
  refine WC_skip ?_
  refine WQ_code ?_
  refine WC_seq ?_
  refine WC_block ?_
  refine WC_seq (WC_region ?_)
  refine WL_execS htb 2 [5, 8, 7, 0, 1] [] ⟨[(5, (iN i)), (8, (iN i)), (7, (iN n_xs)), (0, (sS A_xs n_xs c_xs)), (1, (.fn (.func 85) []))], [], 0, [], []⟩ (by kernel_rfl) ?_
  refine WL_nil ?_
  refine WQ_code ?_
  refine WC_seq (WC_region ?_)
  refine WL_execS htb 3 [13, 12, 11, 5, 8, 7, 0, 1] [] ⟨[(13, (iN i)), (12, (sS A_xs n_xs c_xs)), (11, (.fn (.func 85) [])), (5, (iN i)), (8, (iN i)), (7, (iN n_xs)), (0, (sS A_xs n_xs c_xs)), (1, (.fn (.func 85) []))], [], 0, [], []⟩ (by kernel_rfl) ?_
  obtain ⟨q3, rfl⟩ := h_xs.ptr (by omega)
  obtain ⟨x6, _, hx4, hr7, at5⟩ := h_xs.get i (by omega)
  obtain ⟨A9, n10, c11, rfl, hs8⟩ := Sl.of hr7
  replace hs8 : Sl tStr _ A9 n10 c11 x6 := hs8
  have lhs8 := hs8.len'
  replace at5 : At G1 (q3.add (i * 1)) [.slice A9 n10 c11] := at5
  refine WL_op (WOp_idx htb q3 n_xs ((i : Nat) : Int) 1 (by kernel_rfl) (by omega) (by omega) ?_)
  refine WL_op (WOp_ld htb (q3.add (i * 1)) false 1 [.slice A9 n10 c11] (by kernel_rfl) at5 rfl (by decide) ?_)
  refine WL_op (WOp_call 85 [(sS A9 n10 c11)] (by kernel_rfl) (goes_of Try.func85 rfl rfl) (fun ρ w hW => longAlt_ok hW.has (a := x6) hs8) ?_)
  intro G701 v hle hΦ
  replace hc2 := Le.trans hc2 hle
  replace h_xs := h_xs.mono hle
  replace hs8 := hs8.mono hle
  replace at5 := at5.mono hle
  obtain ⟨r12, rfl, hR13⟩ := hΦ
  refine WL_nil ?_
  refine WQ_code ?_
  refine WC_cond (b := r12) rfl (fun hd => ?_) (fun hd => ?_)
  ·
   skip
   refine WC_seq (WC_region ?_)
   refine WL_execS htb 2 [4] [] ⟨[(4, (iN i))], [], 0, [], []⟩ (by kernel_rfl) ?_
   refine WL_nil ?_
   refine WQ_code ?_
   refine WC_ret ?_
   refine WQ_blk_ret ?_
   refine WQ_then_ret ?_
   refine WQ_then_ret ?_
   refine WQ_blk_ret ?_
   refine WQ_then_ret ?_
   exact WQ_done htb [(iN i)] _ (.inl rfl) rfl (by kernel_rfl) (fun ρ w hW => ⟨_, rfl, any_hit hx4 (hR13.symm.trans hd)⟩)
  ·
   skip
   refine WC_skip ?_
   refine WQ_blk ?_
   refine WQ_code ?_
   refine WC_region ?_
   refine WL_execS htb 2 [8, 7, 0, 1] [] ⟨[(8, (iI (IntKind.i64.wrap (((i : Nat) : Int) + 1)))), (7, (iN n_xs)), (0, (sS (some q3) n_xs c_xs)), (1, (.fn (.func 85) []))], [], 0, [], []⟩ (by kernel_rfl) ?_
   refine WL_nil ?_
   refine WK_env [(8, (iN (i + 1))), (7, (iN n_xs)), (0, (sS (some q3) n_xs c_xs)), (1, (.fn (.func 85) []))] (fun ρ => ⟨rfl, (congrArg (Value.int .i64) (by rw [wrap_id (by omega)]; first | rfl | omega)), ⟨rfl, rfl, ⟨rfl, rfl, ⟨rfl, rfl, trivial⟩⟩⟩⟩) ?_
   refine WK_keep [8, 7, 0, 1] [] rfl rfl ?_
   exact WQ_next ((i + 1)) (by show n_xs - (i + 1) < n_xs - i; omega) ⟨hc2, ⟨by omega, any_miss hx4 hn (hR13.symm.trans hd)⟩⟩ (fun ρ a w h => h)
 ·
  replace hc := of_decide_eq_false hc
  refine WC_exit ?_
  refine WQ_then_exit ?_
  refine WQ_then_exit ?_
  refine WQ_hit ?_
  refine WQ_code ?_
  refine WC_seq (WC_region ?_)
  refine WL_execS htb 1 [4] [] ⟨[(4, (iI (-1)))], [], 0, [], []⟩ (by kernel_rfl) ?_
  refine WL_nil ?_
  refine WQ_code ?_
  refine WC_ret ?_
  exact WQ_done htb [(iI (-1))] _ (.inl rfl) rfl (by kernel_rfl) (fun ρ w hW => ⟨_, rfl, any_none hn (by omega)⟩)

theorem containsLongAlt_ok {w : World} {G : Heap} (hG : Has w G) {xs : List (List ByteArray)} {A_xs : Option Addr} {n_xs c_xs : Nat} (h_xs : Sl (tSlice tStr) G A_xs n_xs c_xs xs) :
    Calls Try.prog 84 #[.slice A_xs n_xs c_xs, .func (.func 85) #[] #[]] w (Ret w G fun v G' => v = .bool (xs.any longA)) := by
 have lh_xs := h_xs.len'
 refine enter [(sS A_xs n_xs c_xs), (.fn (.func 85) [])] 9 Try.func84 rfl rfl rfl rfl hG ?_
 refine WC_seq (WC_region ?_)
 refine WL_execS htb 1 [0, 1] [] ⟨[(0, (sS A_xs n_xs c_xs)), (1, (.fn (.func 85) []))], [], 0, [], []⟩ (by kernel_rfl) ?_
 refine WL_nil ?_
 refine WQ_code ?_
 refine WC_seq (WC_region ?_)
 refine WL_execS htb 2 [6, 5] [] ⟨[(6, (.fn (.func 85) [])), (5, (sS A_xs n_xs c_xs))], [], 0, [], []⟩ (by kernel_rfl) ?_
 refine WL_op (WOp_call 95 [(sS A_xs n_xs c_xs), (.fn (.func 85) [])] (by kernel_rfl) (goes_of Try.func95 rfl rfl) (fun ρ w hW => indexLongAlt_ok hW.has h_xs) ?_)
 intro G701 v hle hΦ
 replace h_xs := h_xs.mono hle
 obtain ⟨r, rfl, hr⟩ := hΦ
 refine WL_execS htb 2 [4] [] ⟨[(4, (bB (decide ((r : Int) ≥ 0))))], [], 0, [], []⟩ (by kernel_rfl) ?_
 refine WL_nil ?_
 refine WQ_code ?_
 refine WC_ret ?_
 exact WQ_done htb [(bB (decide ((r : Int) ≥ 0)))] _ (.inl rfl) rfl (by kernel_rfl) (fun ρ w hW => (by rw [← hr]; rfl))

theorem longRule_ok {w : World} {G : Heap} (hG : Has w G) {nm : ByteArray} {al : (List (List ByteArray))} {A_al : Option Addr} {n_al : Nat} {c_al : Nat} (h_nm : nm.size ≤ big) (h_al : Sl (tSlice tStr) G A_al n_al c_al al) :
    Calls Try.prog 83 #[(.agg #[.string nm, .slice A_al n_al c_al])] w (Ret w G fun v G' => ∃ (b : Bool), v = .bool b ∧ (b = longR (nm, al))) := by
 have lh_al := h_al.len'
 refine enter [(.agg [(tS nm), (sS A_al n_al c_al)])] 12 Try.func83 rfl rfl rfl rfl hG ?_
 refine WC_seq (WC_region ?_)
 refine WL_execS htb 2 [1] [0] ⟨[(1, (.p 0 0))], [(0, (.cells 34 [(tS nm), (sS A_al n_al c_al)]))], 1, [], []⟩ (by kernel_rfl) ?_
 refine WL_nil ?_
 refine WQ_code ?_
 refine WC_seq (WC_region ?_)
 refine WL_execS htb 5 [7, 1] [0] ⟨[(7, (bB (decide ((((n_al : Nat) : Int) : Int) > 30)))), (1, (.p 0 0))], [(0, (.cells 34 [(tS nm), (sS A_al n_al c_al)]))], 1, [], []⟩ (by kernel_rfl) ?_
 refine WK_split 7 (decide ((((n_al : Nat) : Int) : Int) > 30)) rfl (fun hd => ?_) (fun hd => ?_)
 ·
  replace hd := of_decide_eq_true hd
  refine WK_keep [7, 1] [0] rfl rfl ?_
  refine WL_execS htb 5 [2] [] ⟨[(2, (bB true))], [], 1, [], []⟩ (by kernel_rfl) ?_
  refine WL_nil ?_
  refine WQ_code ?_
  refine WC_ret ?_
  exact WQ_done htb [(bB true)] _ (.inl rfl) rfl (by kernel_rfl) (fun ρ w hW => ⟨true, rfl, longR_t (by rw [← h_al.len]; omega)⟩)
 ·
  replace hd := of_decide_eq_false hd
  refine WK_keep [7, 1] [0] rfl rfl ?_
  refine WL_execS htb 2 [9, 7] [] ⟨[(9, (sS A_al n_al c_al)), (7, (bB false))], [], 1, [], []⟩ (by kernel_rfl) ?_
  refine WL_op (WOp_call 84 [(sS A_al n_al c_al), (.fn (.func 85) [])] (by kernel_rfl) (goes_of Try.func84 rfl rfl) (fun ρ w hW => containsLongAlt_ok hW.has h_al) ?_)
  intro G1 v hle hΦ
  replace h_al := h_al.mono hle
  subst hΦ
  refine WL_execS htb 2 [2] [] ⟨[(2, (bB (al.any longA)))], [], 1, [], []⟩ (by kernel_rfl) ?_
  refine WL_nil ?_
  refine WQ_code ?_
  refine WC_ret ?_
  exact WQ_done htb [(bB (al.any longA))] _ (.inl rfl) rfl (by kernel_rfl) (fun ρ w hW => ⟨(al.any longA), rfl, longR_f (by rw [← h_al.len]; omega)⟩)

theorem indexLongRule_ok {w : World} {G : Heap} (hG : Has w G) {xs : List (ByteArray × (List (List ByteArray)))} {A_xs : Option Addr} {n_xs c_xs : Nat} (h_xs : Sl (tPair tStr (tSlice (tSlice tStr))) G A_xs n_xs c_xs xs) :
    Calls Try.prog 82 #[.slice A_xs n_xs c_xs, .func (.func 83) #[] #[]] w (Ret w G fun v G' => ∃ r : Int, v = .int .i64 r ∧ decide (r ≥ 0) = xs.any longR) := by
 have lh_xs := h_xs.len'
 refine enter [(sS A_xs n_xs c_xs), (.fn (.func 83) [])] 19 Try.func82 rfl rfl rfl rfl hG ?_
 refine WC_seq (WC_region ?_)
 refine WL_execS htb 1 [0, 1] [] ⟨[(0, (sS A_xs n_xs c_xs)), (1, (.fn (.func 83) []))], [], 0, [], []⟩ (by kernel_rfl) ?_
 refine WL_nil ?_
 refine WQ_code ?_
 refine WC_seq ?_
 refine WC_seq (WC_region ?_)
 refine WL_execS htb 3 [8, 7, 0, 1] [] ⟨[(8, (iI 0)), (7, (iN n_xs)), (0, (sS A_xs n_xs c_xs)), (1, (.fn (.func 83) []))], [], 0, [], []⟩ (by kernel_rfl) ?_
 refine WL_nil ?_
 refine WQ_code ?_
 refine WC_block ?_
 refine WK_keep [8, 7, 0, 1] [] rfl rfl ?_
 refine WK_env [(8, (iN 0)), (7, (iN n_xs)), (0, (sS A_xs n_xs c_xs)), (1, (.fn (.func 83) []))] (fun ρ => ⟨rfl, rfl, ⟨rfl, rfl, ⟨rfl, rfl, ⟨rfl, rfl, trivial⟩⟩⟩⟩) ?_
 refine WC_loop (ι := Nat) (fun i G1 => Le G G1 ∧ (i ≤ n_xs ∧ (xs.take i).any longR = false)) (fun i => ⟨[(8, (iN i)), (7, (iN n_xs)), (0, (sS A_xs n_xs c_xs)), (1, (.fn (.func 83) []))], [], 0, [], []⟩) (fun i => n_xs - i) (0) ⟨Le.refl _, ⟨Nat.zero_le _, rfl⟩⟩ rfl ?_
 rintro i G1 ⟨hle, hF⟩
 show WC _ _ _ _ _ ⟨[(8, (iN i)), (7, (iN n_xs)), (0, (sS A_xs n_xs c_xs)), (1, (.fn (.func 83) []))], [], 0, [], []⟩ _
 replace h_xs := h_xs.mono hle
 have hc2 := hle
 obtain ⟨hi, hn⟩ := hF
 refine WC_seq (WC_region ?_)
 refine WL_execS htb 1 [9, 8, 7, 0, 1] [] ⟨[(9, (bB (decide ((((i : Nat) : Int) : Int) < ((n_xs : Nat) : Int))))), (8, (iN i)), (7, (iN n_xs)), (0, (sS A_xs n_xs c_xs)), (1, (.fn (.func 83) []))], [], 0, [], []⟩ (by kernel_rfl) ?_
 refine WL_nil ?_
 refine WQ_code ?_
 refine WC_seq ?_
 refine WC_cond (b := (decide ((((i : Nat) : Int) : Int) < ((n_xs : Nat) : Int)))) rfl (fun hc => ?_) (fun hc => ?_)
 ·
  replace hc := of_decide_eq_true hc
  refine WC_skip ?_
  refine WQ_code ?_
  refine WC_seq ?_
  refine WC_block ?_
  refine WC_seq (WC_region ?_)
  refine WL_execS htb 2 [5, 8, 7, 0, 1] [] ⟨[(5, (iN i)), (8, (iN i)), (7, (iN n_xs)), (0, (sS A_xs n_xs c_xs)), (1, (.fn (.func 83) []))], [], 0, [], []⟩ (by kernel_rfl) ?_
  refine WL_nil ?_
  refine WQ_code ?_
  refine WC_seq (WC_region ?_)
  refine WL_execS htb 3 [13, 12, 11, 5, 8, 7, 0, 1] [] ⟨[(13, (iN i)), (12, (sS A_xs n_xs c_xs)), (11, (.fn (.func 83) [])), (5, (iN i)), (8, (iN i)), (7, (iN n_xs)), (0, (sS A_xs n_xs c_xs)), (1, (.fn (.func 83) []))], [], 0, [], []⟩ (by kernel_rfl) ?_
  obtain ⟨q3, rfl⟩ := h_xs.ptr (by omega)
  obtain ⟨⟨x6, x8⟩, _, hx4, ⟨_, _, rfl, ⟨rfl, hn7⟩, hr9⟩, at5⟩ := h_xs.get i (by omega)
  obtain ⟨A11, n12, c13, rfl, hs10⟩ := Sl.of hr9
  replace hs10 : Sl (tSlice tStr) _ A11 n12 c13 x8 := hs10
  have lhs10 := hs10.len'
  replace at5 : At G1 (q3.add (i * 2)) [.string x6, .slice A11 n12 c13] := at5
  refine WL_op (WOp_idx htb q3 n_xs ((i : Nat) : Int) 2 (by kernel_rfl) (by omega) (by omega) ?_)
  refine WL_op (WOp_ld htb (q3.add (i * 2)) true 2 [.string x6, .slice A11 n12 c13] (by kernel_rfl) at5 rfl (by decide) ?_)
  refine WL_op (WOp_call 83 [(.agg [(tS x6), (sS A11 n12 c13)])] (by kernel_rfl) (goes_of Try.func83 rfl rfl) (fun ρ w hW => longRule_ok hW.has (nm := x6) (al := x8) hn7 hs10) ?_)
  intro G701 v hle hΦ
  replace hc2 := Le.trans hc2 hle
  replace h_xs := h_xs.mono hle
  replace hs10 := hs10.mono hle
  replace at5 := at5.mono hle
  obtain ⟨r14, rfl, hR15⟩ := hΦ
  refine WL_nil ?_
  refine WQ_code ?_
  refine WC_cond (b := r14) rfl (fun hd => ?_) (fun hd => ?_)
  ·
   skip
   refine WC_seq (WC_region ?_)
   refine WL_execS htb 2 [4] [] ⟨[(4, (iN i))], [], 0, [], []⟩ (by kernel_rfl) ?_
   refine WL_nil ?_
   refine WQ_code ?_
   refine WC_ret ?_
   refine WQ_blk_ret ?_
   refine WQ_then_ret ?_
   refine WQ_then_ret ?_
   refine WQ_blk_ret ?_
   refine WQ_then_ret ?_
   exact WQ_done htb [(iN i)] _ (.inl rfl) rfl (by kernel_rfl) (fun ρ w hW => ⟨_, rfl, any_hit hx4 (hR15.symm.trans hd)⟩)
  ·
   skip
   refine WC_skip ?_
   refine WQ_blk ?_
   refine WQ_code ?_
   refine WC_region ?_
   refine WL_execS htb 2 [8, 7, 0, 1] [] ⟨[(8, (iI (IntKind.i64.wrap (((i : Nat) : Int) + 1)))), (7, (iN n_xs)), (0, (sS (some q3) n_xs c_xs)), (1, (.fn (.func 83) []))], [], 0, [], []⟩ (by kernel_rfl) ?_
   refine WL_nil ?_
   refine WK_env [(8, (iN (i + 1))), (7, (iN n_xs)), (0, (sS (some q3) n_xs c_xs)), (1, (.fn (.func 83) []))] (fun ρ => ⟨rfl, (congrArg (Value.int .i64) (by rw [wrap_id (by omega)]; first | rfl | omega)), ⟨rfl, rfl, ⟨rfl, rfl, ⟨rfl, rfl, trivial⟩⟩⟩⟩) ?_
   refine WK_keep [8, 7, 0, 1] [] rfl rfl ?_
   exact WQ_next ((i + 1)) (by show n_xs - (i + 1) < n_xs - i; omega) ⟨hc2, ⟨by omega, any_miss hx4 hn (hR15.symm.trans hd)⟩⟩ (fun ρ a w h => h)
 ·
  replace hc := of_decide_eq_false hc
  refine WC_exit ?_
  refine WQ_then_exit ?_
  refine WQ_then_exit ?_
  refine WQ_hit ?_
  refine WQ_code ?_
  refine WC_seq (WC_region ?_)
  refine WL_execS htb 1 [4] [] ⟨[(4, (iI (-1)))], [], 0, [], []⟩ (by kernel_rfl) ?_
  refine WL_nil ?_
  refine WQ_code ?_
  refine WC_ret ?_
  exact WQ_done htb [(iI (-1))] _ (.inl rfl) rfl (by kernel_rfl) (fun ρ w hW => ⟨_, rfl, any_none hn (by omega)⟩)

theorem containsLongRule_ok {w : World} {G : Heap} (hG : Has w G) {xs : List (ByteArray × (List (List ByteArray)))} {A_xs : Option Addr} {n_xs c_xs : Nat} (h_xs : Sl (tPair tStr (tSlice (tSlice tStr))) G A_xs n_xs c_xs xs) :
    Calls Try.prog 51 #[.slice A_xs n_xs c_xs, .func (.func 83) #[] #[]] w (Ret w G fun v G' => v = .bool (xs.any longR)) := by
 have lh_xs := h_xs.len'
 refine enter [(sS A_xs n_xs c_xs), (.fn (.func 83) [])] 9 Try.func51 rfl rfl rfl rfl hG ?_
 refine WC_seq (WC_region ?_)
 refine WL_execS htb 1 [0, 1] [] ⟨[(0, (sS A_xs n_xs c_xs)), (1, (.fn (.func 83) []))], [], 0, [], []⟩ (by kernel_rfl) ?_
 refine WL_nil ?_
 refine WQ_code ?_
 refine WC_seq (WC_region ?_)
 refine WL_execS htb 2 [6, 5] [] ⟨[(6, (.fn (.func 83) [])), (5, (sS A_xs n_xs c_xs))], [], 0, [], []⟩ (by kernel_rfl) ?_
 refine WL_op (WOp_call 82 [(sS A_xs n_xs c_xs), (.fn (.func 83) [])] (by kernel_rfl) (goes_of Try.func82 rfl rfl) (fun ρ w hW => indexLongRule_ok hW.has h_xs) ?_)
 intro G701 v hle hΦ
 replace h_xs := h_xs.mono hle
 obtain ⟨r, rfl, hr⟩ := hΦ
 refine WL_execS htb 2 [4] [] ⟨[(4, (bB (decide ((r : Int) ≥ 0))))], [], 0, [], []⟩ (by kernel_rfl) ?_
 refine WL_nil ?_
 refine WQ_code ?_
 refine WC_ret ?_
 exact WQ_done htb [(bB (decide ((r : Int) ≥ 0)))] _ (.inl rfl) rfl (by kernel_rfl) (fun ρ w hW => (by rw [← hr]; rfl))

theorem bare_ok {w : World} {G : Heap} (hG : Has w G) {nm : ByteArray} {al : (List (List ByteArray))} {A_al : Option Addr} {n_al : Nat} {c_al : Nat} (h_nm : nm.size ≤ big) (h_al : Sl (tSlice tStr) G A_al n_al c_al al) :
    Calls Try.prog 52 #[(.agg #[.string nm, .slice A_al n_al c_al])] w (Ret w G fun v G' => ∃ (b : Bool), v = .bool b ∧ (b = bareR (nm, al))) := by
 have lh_al := h_al.len'
 refine enter [(.agg [(tS nm), (sS A_al n_al c_al)])] 7 Try.func52 rfl rfl rfl rfl hG ?_
 refine WC_seq (WC_region ?_)
 refine WL_execS htb 2 [1] [0] ⟨[(1, (.p 0 0))], [(0, (.cells 34 [(tS nm), (sS A_al n_al c_al)]))], 1, [], []⟩ (by kernel_rfl) ?_
 refine WL_nil ?_
 refine WQ_code ?_
 refine WC_seq (WC_region ?_)
 refine WL_execS htb 5 [2] [] ⟨[(2, (bB ((((n_al : Nat) : Int) : Int) == 0)))], [], 1, [], []⟩ (by kernel_rfl) ?_
 refine WL_nil ?_
 refine WQ_code ?_
 refine WC_ret ?_
 exact WQ_done htb [(bB ((((n_al : Nat) : Int) : Int) == 0))] _ (.inl rfl) rfl (by kernel_rfl) (fun ρ w hW => ⟨((((n_al : Nat) : Int) : Int) == 0), rfl, bareR_eq h_al.len⟩)

theorem indexBare_ok {w : World} {G : Heap} (hG : Has w G) {xs : List (ByteArray × (List (List ByteArray)))} {A_xs : Option Addr} {n_xs c_xs : Nat} (h_xs : Sl (tPair tStr (tSlice (tSlice tStr))) G A_xs n_xs c_xs xs) :
    Calls Try.prog 82 #[.slice A_xs n_xs c_xs, .func (.func 52) #[] #[]] w (Ret w G fun v G' => ∃ r : Int, v = .int .i64 r ∧ decide (r ≥ 0) = xs.any bareR) := by
 have lh_xs := h_xs.len'
 refine enter [(sS A_xs n_xs c_xs), (.fn (.func 52) [])] 19 Try.func82 rfl rfl rfl rfl hG ?_
 refine WC_seq (WC_region ?_)
 refine WL_execS htb 1 [0, 1] [] ⟨[(0, (sS A_xs n_xs c_xs)), (1, (.fn (.func 52) []))], [], 0, [], []⟩ (by kernel_rfl) ?_
 refine WL_nil ?_
 refine WQ_code ?_
 refine WC_seq ?_
 refine WC_seq (WC_region ?_)
 refine WL_execS htb 3 [8, 7, 0, 1] [] ⟨[(8, (iI 0)), (7, (iN n_xs)), (0, (sS A_xs n_xs c_xs)), (1, (.fn (.func 52) []))], [], 0, [], []⟩ (by kernel_rfl) ?_
 refine WL_nil ?_
 refine WQ_code ?_
 refine WC_block ?_
 refine WK_keep [8, 7, 0, 1] [] rfl rfl ?_
 refine WK_env [(8, (iN 0)), (7, (iN n_xs)), (0, (sS A_xs n_xs c_xs)), (1, (.fn (.func 52) []))] (fun ρ => ⟨rfl, rfl, ⟨rfl, rfl, ⟨rfl, rfl, ⟨rfl, rfl, trivial⟩⟩⟩⟩) ?_
 refine WC_loop (ι := Nat) (fun i G1 => Le G G1 ∧ (i ≤ n_xs ∧ (xs.take i).any bareR = false)) (fun i => ⟨[(8, (iN i)), (7, (iN n_xs)), (0, (sS A_xs n_xs c_xs)), (1, (.fn (.func 52) []))], [], 0, [], []⟩) (fun i => n_xs - i) (0) ⟨Le.refl _, ⟨Nat.zero_le _, rfl⟩⟩ rfl ?_
 rintro i G1 ⟨hle, hF⟩
 show WC _ _ _ _ _ ⟨[(8, (iN i)), (7, (iN n_xs)), (0, (sS A_xs n_xs c_xs)), (1, (.fn (.func 52) []))], [], 0, [], []⟩ _
 replace h_xs := h_xs.mono hle
 have hc2 := hle
 obtain ⟨hi, hn⟩ := hF
 refine WC_seq (WC_region ?_)
 refine WL_execS htb 1 [9, 8, 7, 0, 1] [] ⟨[(9, (bB (decide ((((i : Nat) : Int) : Int) < ((n_xs : Nat) : Int))))), (8, (iN i)), (7, (iN n_xs)), (0, (sS A_xs n_xs c_xs)), (1, (.fn (.func 52) []))], [], 0, [], []⟩ (by kernel_rfl) ?_
 refine WL_nil ?_
 refine WQ_code ?_
 refine WC_seq ?_
 refine WC_cond (b := (decide ((((i : Nat) : Int) : Int) < ((n_xs : Nat) : Int)))) rfl (fun hc => ?_) (fun hc => ?_)
 ·
  replace hc := of_decide_eq_true hc
  refine WC_skip ?_
  refine WQ_code ?_
  refine WC_seq ?_
  refine WC_block ?_
  refine WC_seq (WC_region ?_)
  refine WL_execS htb 2 [5, 8, 7, 0, 1] [] ⟨[(5, (iN i)), (8, (iN i)), (7, (iN n_xs)), (0, (sS A_xs n_xs c_xs)), (1, (.fn (.func 52) []))], [], 0, [], []⟩ (by kernel_rfl) ?_
  refine WL_nil ?_
  refine WQ_code ?_
  refine WC_seq (WC_region ?_)
  refine WL_execS htb 3 [13, 12, 11, 5, 8, 7, 0, 1] [] ⟨[(13, (iN i)), (12, (sS A_xs n_xs c_xs)), (11, (.fn (.func 52) [])), (5, (iN i)), (8, (iN i)), (7, (iN n_xs)), (0, (sS A_xs n_xs c_xs)), (1, (.fn (.func 52) []))], [], 0, [], []⟩ (by kernel_rfl) ?_
  obtain ⟨q3, rfl⟩ := h_xs.ptr (by omega)
  obtain ⟨⟨x6, x8⟩, _, hx4, ⟨_, _, rfl, ⟨rfl, hn7⟩, hr9⟩, at5⟩ := h_xs.get i (by omega)
  obtain ⟨A11, n12, c13, rfl, hs10⟩ := Sl.of hr9
  replace hs10 : Sl (tSlice tStr) _ A11 n12 c13 x8 := hs10
  have lhs10 := hs10.len'
  replace at5 : At G1 (q3.add (i * 2)) [.string x6, .slice A11 n12 c13] := at5
  refine WL_op (WOp_idx htb q3 n_xs ((i : Nat) : Int) 2 (by kernel_rfl) (by omega) (by omega) ?_)
  refine WL_op (WOp_ld htb (q3.add (i * 2)) true 2 [.string x6, .slice A11 n12 c13] (by kernel_rfl) at5 rfl (by decide) ?_)
  refine WL_op (WOp_call 52 [(.agg [(tS x6), (sS A11 n12 c13)])] (by kernel_rfl) (goes_of Try.func52 rfl rfl) (fun ρ w hW => bare_ok hW.has (nm := x6) (al := x8) hn7 hs10) ?_)
  intro G701 v hle hΦ
  replace hc2 := Le.trans hc2 hle
  replace h_xs := h_xs.mono hle
  replace hs10 := hs10.mono hle
  replace at5 := at5.mono hle
  obtain ⟨r14, rfl, hR15⟩ := hΦ
  refine WL_nil ?_
  refine WQ_code ?_
  refine WC_cond (b := r14) rfl (fun hd => ?_) (fun hd => ?_)
  ·
   skip
   refine WC_seq (WC_region ?_)
   refine WL_execS htb 2 [4] [] ⟨[(4, (iN i))], [], 0, [], []⟩ (by kernel_rfl) ?_
   refine WL_nil ?_
   refine WQ_code ?_
   refine WC_ret ?_
   refine WQ_blk_ret ?_
   refine WQ_then_ret ?_
   refine WQ_then_ret ?_
   refine WQ_blk_ret ?_
   refine WQ_then_ret ?_
   exact WQ_done htb [(iN i)] _ (.inl rfl) rfl (by kernel_rfl) (fun ρ w hW => ⟨_, rfl, any_hit hx4 (hR15.symm.trans hd)⟩)
  ·
   skip
   refine WC_skip ?_
   refine WQ_blk ?_
   refine WQ_code ?_
   refine WC_region ?_
   refine WL_execS htb 2 [8, 7, 0, 1] [] ⟨[(8, (iI (IntKind.i64.wrap (((i : Nat) : Int) + 1)))), (7, (iN n_xs)), (0, (sS (some q3) n_xs c_xs)), (1, (.fn (.func 52) []))], [], 0, [], []⟩ (by kernel_rfl) ?_
   refine WL_nil ?_
   refine WK_env [(8, (iN (i + 1))), (7, (iN n_xs)), (0, (sS (some q3) n_xs c_xs)), (1, (.fn (.func 52) []))] (fun ρ => ⟨rfl, (congrArg (Value.int .i64) (by rw [wrap_id (by omega)]; first | rfl | omega)), ⟨rfl, rfl, ⟨rfl, rfl, ⟨rfl, rfl, trivial⟩⟩⟩⟩) ?_
   refine WK_keep [8, 7, 0, 1] [] rfl rfl ?_
   exact WQ_next ((i + 1)) (by show n_xs - (i + 1) < n_xs - i; omega) ⟨hc2, ⟨by omega, any_miss hx4 hn (hR15.symm.trans hd)⟩⟩ (fun ρ a w h => h)
 ·
  replace hc := of_decide_eq_false hc
  refine WC_exit ?_
  refine WQ_then_exit ?_
  refine WQ_then_exit ?_
  refine WQ_hit ?_
  refine WQ_code ?_
  refine WC_seq (WC_region ?_)
  refine WL_execS htb 1 [4] [] ⟨[(4, (iI (-1)))], [], 0, [], []⟩ (by kernel_rfl) ?_
  refine WL_nil ?_
  refine WQ_code ?_
  refine WC_ret ?_
  exact WQ_done htb [(iI (-1))] _ (.inl rfl) rfl (by kernel_rfl) (fun ρ w hW => ⟨_, rfl, any_none hn (by omega)⟩)

theorem containsBare_ok {w : World} {G : Heap} (hG : Has w G) {xs : List (ByteArray × (List (List ByteArray)))} {A_xs : Option Addr} {n_xs c_xs : Nat} (h_xs : Sl (tPair tStr (tSlice (tSlice tStr))) G A_xs n_xs c_xs xs) :
    Calls Try.prog 51 #[.slice A_xs n_xs c_xs, .func (.func 52) #[] #[]] w (Ret w G fun v G' => v = .bool (xs.any bareR)) := by
 have lh_xs := h_xs.len'
 refine enter [(sS A_xs n_xs c_xs), (.fn (.func 52) [])] 9 Try.func51 rfl rfl rfl rfl hG ?_
 refine WC_seq (WC_region ?_)
 refine WL_execS htb 1 [0, 1] [] ⟨[(0, (sS A_xs n_xs c_xs)), (1, (.fn (.func 52) []))], [], 0, [], []⟩ (by kernel_rfl) ?_
 refine WL_nil ?_
 refine WQ_code ?_
 refine WC_seq (WC_region ?_)
 refine WL_execS htb 2 [6, 5] [] ⟨[(6, (.fn (.func 52) [])), (5, (sS A_xs n_xs c_xs))], [], 0, [], []⟩ (by kernel_rfl) ?_
 refine WL_op (WOp_call 82 [(sS A_xs n_xs c_xs), (.fn (.func 52) [])] (by kernel_rfl) (goes_of Try.func82 rfl rfl) (fun ρ w hW => indexBare_ok hW.has h_xs) ?_)
 intro G701 v hle hΦ
 replace h_xs := h_xs.mono hle
 obtain ⟨r, rfl, hr⟩ := hΦ
 refine WL_execS htb 2 [4] [] ⟨[(4, (bB (decide ((r : Int) ≥ 0))))], [], 0, [], []⟩ (by kernel_rfl) ?_
 refine WL_nil ?_
 refine WQ_code ?_
 refine WC_ret ?_
 exact WQ_done htb [(bB (decide ((r : Int) ≥ 0)))] _ (.inl rfl) rfl (by kernel_rfl) (fun ρ w hW => (by rw [← hr]; rfl))

theorem longG_ok {w : World} {G : Heap} (hG : Has w G) {g : (List (ByteArray × (List (List ByteArray))))} {A_g : Option Addr} {n_g : Nat} {c_g : Nat} (h_g : Sl (tPair tStr (tSlice (tSlice tStr))) G A_g n_g c_g g) :
    Calls Try.prog 53 #[(.agg #[.slice A_g n_g c_g])] w (Ret w G fun v G' => ∃ (b : Bool), v = .bool b ∧ (b = true ↔ LongP g)) := by
 have lh_g := h_g.len'
 refine enter [(.agg [(sS A_g n_g c_g)])] 12 Try.func53 rfl rfl rfl rfl hG ?_
 refine WC_seq (WC_region ?_)
 refine WL_execS htb 2 [1] [0] ⟨[(1, (.p 0 0))], [(0, (.cells 24 [(sS A_g n_g c_g)]))], 1, [], []⟩ (by kernel_rfl) ?_
 refine WL_nil ?_
 refine WQ_code ?_
 refine WC_seq (WC_region ?_)
 refine WL_execS htb 5 [7, 1] [0] ⟨[(7, (bB (decide ((((n_g : Nat) : Int) : Int) > 60)))), (1, (.p 0 0))], [(0, (.cells 24 [(sS A_g n_g c_g)]))], 1, [], []⟩ (by kernel_rfl) ?_
 refine WK_split 7 (decide ((((n_g : Nat) : Int) : Int) > 60)) rfl (fun hd => ?_) (fun hd => ?_)
 ·
  replace hd := of_decide_eq_true hd
  refine WK_keep [7, 1] [0] rfl rfl ?_
  refine WL_execS htb 5 [2] [] ⟨[(2, (bB true))], [], 1, [], []⟩ (by kernel_rfl) ?_
  refine WL_nil ?_
  refine WQ_code ?_
  refine WC_ret ?_
  exact WQ_done htb [(bB true)] _ (.inl rfl) rfl (by kernel_rfl) (fun ρ w hW => ⟨true, rfl, ⟨fun _ => .inr (by rw [← h_g.len]; omega), fun _ => rfl⟩⟩)
 ·
  replace hd := of_decide_eq_false hd
  refine WK_keep [7, 1] [0] rfl rfl ?_
  refine WL_execS htb 2 [9, 7] [] ⟨[(9, (sS A_g n_g c_g)), (7, (bB false))], [], 1, [], []⟩ (by kernel_rfl) ?_
  refine WL_op (WOp_call 51 [(sS A_g n_g c_g), (.fn (.func 83) [])] (by kernel_rfl) (goes_of Try.func51 rfl rfl) (fun ρ w hW => containsLongRule_ok hW.has h_g) ?_)
  intro G1 v hle hΦ
  replace h_g := h_g.mono hle
  subst hΦ
  refine WL_execS htb 2 [2] [] ⟨[(2, (bB (g.any longR)))], [], 1, [], []⟩ (by kernel_rfl) ?_
  refine WL_nil ?_
  refine WQ_code ?_
  refine WC_ret ?_
  exact WQ_done htb [(bB (g.any longR))] _ (.inl rfl) rfl (by kernel_rfl) (fun ρ w hW => ⟨(g.any longR), rfl, longG_f (by rw [← h_g.len]; omega)⟩)

end Go.Proofs.Ytfemkbockhpmcaa.Sym
