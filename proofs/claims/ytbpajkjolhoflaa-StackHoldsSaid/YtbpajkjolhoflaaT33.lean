/- Walks of functions that the laws of this seat reach, printed by a program of this session's. -/
import Derived.Test.YtbpajkjolhoflaaT32
import Derived.Test.YtbpajkjolhoflaaSymL
import Derived.Test.YtbpajkjolhoflaaPl
import Derived.Laws.Strings
import Derived.WideShapes
set_option linter.unusedSimpArgs false
set_option linter.unusedVariables false
set_option maxHeartbeats 4000000
namespace Go.Proofs.Ytbpajkjolhoflaa.Sym
open Go Go.Proofs Go.RowKit

def SmallC (tk nm : List ByteArray) (rs : List (List (List Int))) : Prop := tk.length ≤ 1000 ∧ nm.length ≤ 1000 ∧ ∀ ar ∈ rs, ar.length ≤ 1000 ∧ ∀ al ∈ ar, al.length ≤ 1000
theorem smallC_big {tk nm : List ByteArray} {rs : List (List (List Int))} (h : SmallC tk nm rs) : nm.length ≤ 1000000 ∧ ∀ ar ∈ rs, ar.length ≤ 1000000 ∧ ∀ al ∈ ar, al.length ≤ 1000000 :=
  ⟨by have := h.2.1; omega, fun ar har => ⟨by have := (h.2.2 ar har).1; omega, fun al hal => by have := (h.2.2 ar har).2 al hal; omega⟩⟩
theorem smallC_back {tk nm : List ByteArray} {rs : List (List (List Int))} {g : List Rule} (h : SmallC tk nm rs) (hb : backS tk nm rs = some g) : SmallG g := by
  obtain ⟨h1, h2⟩ := back_sizes hb h.2.2
  exact ⟨by have := h.2.1; omega, h2⟩
theorem valid_ok {w : World} {G : Heap} (hG : Has w G) {tk : (List ByteArray)} {A_tk : Option Addr} {n_tk : Nat} {c_tk : Nat} {nm : (List ByteArray)} {A_nm : Option Addr} {n_nm : Nat} {c_nm : Nat} {rs : (List (List (List Int)))} {A_rs : Option Addr} {n_rs : Nat} {c_rs : Nat} (h_tk : Sl tStr G A_tk n_tk c_tk tk) (h_nm : Sl tStr G A_nm n_nm c_nm nm) (h_rs : Sl (tSlice (tSlice (tInt .i64))) G A_rs n_rs c_rs rs) (hB : SmallC tk nm rs) :
    Calls Try.prog 28 #[(.agg #[.slice A_tk n_tk c_tk, .slice A_nm n_nm c_nm, .slice A_rs n_rs c_rs])] w (Ret w G fun v G' => ∃ (r : Int), v = .int .i64 r ∧ (-9223372036854775808 ≤ r ∧ r ≤ 9223372036854775807) ∧ (r = 0 → ∃ g, backS tk nm rs = some g)) := by
  have lh_tk := h_tk.len'
  have lh_nm := h_nm.len'
  have lh_rs := h_rs.len'
  refine enter [(.agg [(sS A_tk n_tk c_tk), (sS A_nm n_nm c_nm), (sS A_rs n_rs c_rs)])] 28 Try.func28 rfl rfl rfl rfl hG ?_
  refine WC_seq (WC_region ?_)
  refine WL_execS htb 2 [1] [0] ⟨[(1, (.p 0 0))], [(0, (.cells 35 [(sS A_tk n_tk c_tk), (sS A_nm n_nm c_nm), (sS A_rs n_rs c_rs)]))], 1, [], []⟩ (by kernel_rfl) ?_
  refine WL_nil ?_
  refine WQ_code ?_
  refine WC_seq (WC_region ?_)
  refine WL_execS htb 1 [7, 1] [0] ⟨[(7, (.agg [(sS A_tk n_tk c_tk), (sS A_nm n_nm c_nm), (sS A_rs n_rs c_rs)])), (1, (.p 0 0))], [(0, (.cells 35 [(sS A_tk n_tk c_tk), (sS A_nm n_nm c_nm), (sS A_rs n_rs c_rs)]))], 1, [], []⟩ (by kernel_rfl) ?_
  refine WL_op (WOp_call 49 [(.agg [(sS A_tk n_tk c_tk), (sS A_nm n_nm c_nm), (sS A_rs n_rs c_rs)])] (by kernel_rfl) (goes_of Try.func49 rfl rfl) (fun ρ w hW => back_ok hW.has (tk := tk) (nm := nm) (rs := rs) h_tk h_nm h_rs (smallC_big hB)) ?_)
  intro G1 v hle hΦ
  replace h_tk := h_tk.mono hle
  replace h_nm := h_nm.mono hle
  replace h_rs := h_rs.mono hle
  obtain ⟨r1, A_r1, n_r1, c_r1, r2, rfl, h_r1, h_r2, hR3⟩ := hΦ
  have lh_r1 := h_r1.len'
  refine WL_execS htb 6 [4, 3, 1] [1, 0] ⟨[(4, (iI r2)), (3, (.p 1 0)), (1, (.p 0 0))], [(1, (.cells 78 [(sS A_r1 n_r1 c_r1)])), (0, (.cells 35 [(sS A_tk n_tk c_tk), (sS A_nm n_nm c_nm), (sS A_rs n_rs c_rs)]))], 2, [], []⟩ (by kernel_rfl) ?_
  refine WL_nil ?_
  refine WQ_code ?_
  refine WC_seq ?_
  refine WC_seq (WC_region ?_)
  refine WL_execS htb 2 [12, 3, 1] [1, 0] ⟨[(12, (bB ((r2 : Int) != 0))), (3, (.p 1 0)), (1, (.p 0 0))], [(1, (.cells 78 [(sS A_r1 n_r1 c_r1)])), (0, (.cells 35 [(sS A_tk n_tk c_tk), (sS A_nm n_nm c_nm), (sS A_rs n_rs c_rs)]))], 2, [], []⟩ (by kernel_rfl) ?_
  refine WL_nil ?_
  refine WQ_code ?_
  refine WC_cond (b := ((r2 : Int) != 0)) rfl (fun ha => ?_) (fun ha => ?_)
  · replace ha := bne_iff_ne.1 ha
    refine WC_seq (WC_region ?_)
    refine WL_execS htb 1 [2] [] ⟨[(2, (iI 80))], [], 2, [], []⟩ (by kernel_rfl) ?_
    refine WL_nil ?_
    refine WQ_code ?_
    refine WC_ret ?_
    refine WQ_then_ret ?_
    exact WQ_done htb [(iI 80)] _ (.inl rfl) rfl (by kernel_rfl) (fun ρ w hW => ⟨80, rfl, (by omega), (fun h => by cases h)⟩)
  · replace ha := (bne_eq_false_iff_eq.1) ha
    have hbk : backS tk nm rs = some r1 := by (rcases hR3 with h | h; exact h.1; exact absurd (h.2.2.symm.trans (by simpa using ha)) (by decide))
    have hsg : SmallG r1 := smallC_back hB hbk
    refine WC_skip ?_
    refine WQ_code ?_
    refine WC_seq (WC_region ?_)
    refine WL_execS htb 3 [16, 14, 1] [0] ⟨[(16, (sS A_tk n_tk c_tk)), (14, (.agg [(sS A_r1 n_r1 c_r1)])), (1, (.p 0 0))], [(0, (.cells 35 [(sS A_tk n_tk c_tk), (sS A_nm n_nm c_nm), (sS A_rs n_rs c_rs)]))], 2, [], []⟩ (by kernel_rfl) ?_
    refine WL_op (WOp_call 50 [(.agg [(sS A_r1 n_r1 c_r1)]), (sS A_tk n_tk c_tk)] (by kernel_rfl) (goes_of Try.func50 rfl rfl) (fun ρ w hW => number_ok hW.has (g := r1) (tk := tk) h_r1 h_tk hsg hB.1) ?_)
    intro G2 v hle hΦ
    replace h_tk := h_tk.mono hle
    replace h_nm := h_nm.mono hle
    replace h_rs := h_rs.mono hle
    replace h_r1 := h_r1.mono hle
    obtain ⟨r4, A_r4, n_r4, c_r4, r5, A_r5, n_r5, c_r5, r6, A_r6, n_r6, c_r6, r7, rfl, h_r4, h_r5, h_r6, h_r7, hR8⟩ := hΦ
    have lh_r4 := h_r4.len'
    have lh_r5 := h_r5.len'
    have lh_r6 := h_r6.len'
    refine WL_execS htb 6 [4, 5, 1] [2, 0] ⟨[(4, (iI r7)), (5, (.p 2 0)), (1, (.p 0 0))], [(2, (.cells 35 [(sS A_r4 n_r4 c_r4), (sS A_r5 n_r5 c_r5), (sS A_r6 n_r6 c_r6)])), (0, (.cells 35 [(sS A_tk n_tk c_tk), (sS A_nm n_nm c_nm), (sS A_rs n_rs c_rs)]))], 3, [], []⟩ (by kernel_rfl) ?_
    refine WL_nil ?_
    refine WQ_code ?_
    refine WC_seq ?_
    refine WC_seq (WC_region ?_)
    refine WL_execS htb 3 [22, 5, 1] [2, 0] ⟨[(22, (bB ((r7 : Int) != 0))), (5, (.p 2 0)), (1, (.p 0 0))], [(2, (.cells 35 [(sS A_r4 n_r4 c_r4), (sS A_r5 n_r5 c_r5), (sS A_r6 n_r6 c_r6)])), (0, (.cells 35 [(sS A_tk n_tk c_tk), (sS A_nm n_nm c_nm), (sS A_rs n_rs c_rs)]))], 3, [], []⟩ (by kernel_rfl) ?_
    refine WK_split 22 ((r7 : Int) != 0) rfl (fun hd => ?_) (fun hd => ?_)
    · replace hd := bne_iff_ne.1 hd
      refine WK_keep [22, 5, 1] [2, 0] rfl rfl ?_
      refine WL_execS htb 5 [27] [] ⟨[(27, (bB true))], [], 3, [], []⟩ (by kernel_rfl) ?_
      refine WL_nil ?_
      refine WQ_code ?_
      refine WC_cond (b := true) rfl (fun _ => ?_) (fun h => by cases h)
      refine WC_seq (WC_region ?_)
      refine WL_execS htb 1 [2] [] ⟨[(2, (iI 80))], [], 3, [], []⟩ (by kernel_rfl) ?_
      refine WL_nil ?_
      refine WQ_code ?_
      refine WC_ret ?_
      refine WQ_then_ret ?_
      exact WQ_done htb [(iI 80)] _ (.inl rfl) rfl (by kernel_rfl) (fun ρ w hW => ⟨80, rfl, (by omega), (fun h => by cases h)⟩)
    · replace hd := (bne_eq_false_iff_eq.1) hd
      refine WK_keep [22, 5, 1] [2, 0] rfl rfl ?_
      refine WL_execS htb 2 [24, 23, 22] [] ⟨[(24, (.agg [(sS A_r4 n_r4 c_r4), (sS A_r5 n_r5 c_r5), (sS A_r6 n_r6 c_r6)])), (23, (.agg [(sS A_tk n_tk c_tk), (sS A_nm n_nm c_nm), (sS A_rs n_rs c_rs)])), (22, (bB false))], [], 3, [], []⟩ (by kernel_rfl) ?_
      refine WL_op (WOp_call 51 [(.agg [(sS A_tk n_tk c_tk), (sS A_nm n_nm c_nm), (sS A_rs n_rs c_rs)]), (.agg [(sS A_r4 n_r4 c_r4), (sS A_r5 n_r5 c_r5), (sS A_r6 n_r6 c_r6)])] (by kernel_rfl) (goes_of Try.func51 rfl rfl) (fun ρ w hW => sameCfg_ok hW.has (tk := tk) (nm := nm) (rs := rs) (tk2 := r4) (nm2 := r5) (rs2 := r6) h_tk h_nm h_rs h_r4 h_r5 h_r6) ?_)
      intro G3 v hle hΦ
      replace h_tk := h_tk.mono hle
      replace h_nm := h_nm.mono hle
      replace h_rs := h_rs.mono hle
      replace h_r4 := h_r4.mono hle
      replace h_r5 := h_r5.mono hle
      replace h_r6 := h_r6.mono hle
      obtain ⟨r9, rfl, hR10⟩ := hΦ
      refine WL_execS htb 2 [27] [] ⟨[(27, (bB (!r9)))], [], 3, [], []⟩ (by kernel_rfl) ?_
      refine WL_nil ?_
      refine WQ_code ?_
      refine WC_cond (b := (!r9)) rfl (fun he => ?_) (fun he => ?_)
      · rw [Bool.not_eq_true'] at he
        refine WC_seq (WC_region ?_)
        refine WL_execS htb 1 [2] [] ⟨[(2, (iI 80))], [], 3, [], []⟩ (by kernel_rfl) ?_
        refine WL_nil ?_
        refine WQ_code ?_
        refine WC_ret ?_
        refine WQ_then_ret ?_
        exact WQ_done htb [(iI 80)] _ (.inl rfl) rfl (by kernel_rfl) (fun ρ w hW => ⟨80, rfl, (by omega), (fun h => by cases h)⟩)
      · rw [Bool.not_eq_false'] at he
        refine WC_skip ?_
        refine WQ_code ?_
        refine WC_seq (WC_region ?_)
        refine WL_execS htb 1 [2] [] ⟨[(2, (iI 0))], [], 3, [], []⟩ (by kernel_rfl) ?_
        refine WL_nil ?_
        refine WQ_code ?_
        refine WC_ret ?_
        exact WQ_done htb [(iI 0)] _ (.inl rfl) rfl (by kernel_rfl) (fun ρ w hW => ⟨0, rfl, (by omega), (fun _ => ⟨_, hbk⟩)⟩)

end Go.Proofs.Ytbpajkjolhoflaa.Sym
