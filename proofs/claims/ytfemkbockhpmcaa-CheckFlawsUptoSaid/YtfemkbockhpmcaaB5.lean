/- Walks of functions that the laws of this seat reach, printed by a program of this session's. -/
import Derived.Test.YtfemkbockhpmcaaB4
set_option linter.unusedSimpArgs false
set_option linter.unusedVariables false
set_option maxHeartbeats 4000000
namespace Go.Proofs.Ytfemkbockhpmcaa.Sym
open Go Go.Proofs Go.RowKit

def goodF (gd : ByteArray → Bool) (s : ByteArray) : Option Value := if gd s then some (.bool true) else none
theorem goodF_get (gd : ByteArray → Bool) (s : ByteArray) : (goodF gd s).getD (.bool false) = .bool (gd s) := by unfold goodF; cases gd s <;> rfl
theorem goodF_set (gd : ByteArray → Bool) (s : ByteArray) : (fun x => if x = s then some (.bool true) else goodF gd x) = goodF (fun x => if x = s then true else gd x) := by
  funext x; unfold goodF
  by_cases e : x = s
  · simp [e]
  · simp [e]
/-- Neither fertile, as far as is known, nor a token. -/
def badB (gd : ByteArray → Bool) (tk : List ByteArray) (s : ByteArray) : Bool := !gd s && !hasB tk s
section
variable {α : Type} {p : α → Bool} {xs : List α} {i : Nat} {x : α}
theorem any_hit (hx : xs[i]? = some x) (h : p x = true) : decide (((i : Nat) : Int) ≥ 0) = xs.any p := by
  rw [decide_eq_true (by omega)]; exact (List.any_eq_true.2 ⟨x, List.mem_of_getElem? hx, h⟩).symm
theorem any_miss (hx : xs[i]? = some x) (h : (xs.take i).any p = false) (hn : p x = false) : (xs.take (i + 1)).any p = false := by
  rw [take_succ' hx, List.any_append, h]; simp [hn]
theorem any_none (h : (xs.take i).any p = false) (hi : xs.length ≤ i) : decide ((-1 : Int) ≥ 0) = xs.any p := by
  rw [List.take_of_length_le hi] at h; rw [h]; rfl
end
theorem barren_ok {w : World} {G : Heap} (hG : Has w G) {bk : Nat} {A : Option Addr} {n c m1 m2 : Nat} {g : List Rule} {tk : List ByteArray} (hB : Book G bk A n c m1 m2 g tk) {cg cb mg : Nat} {gd : ByteArray → Bool} (hcg : At G ⟨cg, 0, none⟩ [.map (some mg)]) (hcb : At G ⟨cb, 0, none⟩ [.pointer (some ⟨bk, 0, none⟩)]) (hmg : MapF G mg strE (goodF gd)) {s : ByteArray} :
    Calls Try.prog 77 #[.string s, .pointer (some ⟨cg, 0, none⟩), .pointer (some ⟨cb, 0, none⟩)] w (Ret w G fun v G' => v = .bool (badB gd tk s)) := by
 refine enter [(tS s), (.v (.pointer (some (⟨cg, 0, none⟩ : Addr)))), (.v (.pointer (some (⟨cb, 0, none⟩ : Addr))))] 15 Try.func77 rfl rfl rfl rfl hG ?_
 refine WC_seq (WC_region ?_)
 refine WL_execS htb 1 [0, 1, 2] [] ⟨[(0, (tS s)), (1, (.v (.pointer (some (⟨cg, 0, none⟩ : Addr))))), (2, (.v (.pointer (some (⟨cb, 0, none⟩ : Addr)))))], [], 0, [], []⟩ (by kernel_rfl) ?_
 refine WL_nil ?_
 refine WQ_code ?_
 refine WC_seq (WC_region ?_)
 refine WL_op (WOp_ld htb (⟨cg, 0, none⟩ : Addr) false 1 [.map (some mg)] (by kernel_rfl) hcg rfl (by decide) ?_)
 refine WL_execS htb 1 [6, 5, 0, 2] [] ⟨[(6, (tS s)), (5, (.v (.map (some mg)))), (0, (tS s)), (2, (.v (.pointer (some (⟨cb, 0, none⟩ : Addr)))))], [], 0, [], []⟩ (by kernel_rfl) ?_
 refine WL_op (WOp_look htb mg (tS s) false 9 (.bool false) (by kernel_rfl) (keyEnc_str (kt := 9) (by kernel_rfl)) s (fun ρ => rfl) hmg (v := (.bool (gd s))) (goodF_get gd s) (is := ((goodF gd s).isSome)) rfl ?_)
 show WL _ _ _ _ _ _ ⟨[(7, (bB (gd s))), (6, (tS s)), (5, (.v (.map (some mg)))), (0, (tS s)), (2, (.v (.pointer (some (⟨cb, 0, none⟩ : Addr)))))], [], 0, [], []⟩ _
 refine WL_execS htb 2 [9, 0, 2] [] ⟨[(9, (bB (!(gd s)))), (0, (tS s)), (2, (.v (.pointer (some (⟨cb, 0, none⟩ : Addr)))))], [], 0, [], []⟩ (by kernel_rfl) ?_
 refine WK_split 9 (!(gd s)) rfl (fun hd => ?_) (fun hd => ?_)
 ·
  rw [Bool.not_eq_true'] at hd
  refine WK_keep [9, 0, 2] [] rfl rfl ?_
  refine WL_op (WOp_ld htb (⟨cb, 0, none⟩ : Addr) false 1 [.pointer (some (⟨bk, 0, none⟩ : Addr))] (by kernel_rfl) hcb rfl (by decide) ?_)
  refine WL_execS htb 1 [11, 10, 9] [] ⟨[(11, (tS s)), (10, (.v (.pointer (some (⟨bk, 0, none⟩ : Addr))))), (9, (bB true))], [], 0, [], []⟩ (by kernel_rfl) ?_
  refine WL_op (WOp_call 41 [(.v (.pointer (some (⟨bk, 0, none⟩ : Addr)))), (tS s)] (by kernel_rfl) (goes_of Try.func41 rfl rfl) (fun ρ w hW => isToken_ok hW.has hB (s := s)) ?_)
  intro G701 v hle hΦ
  subst hΦ
  refine WL_execS htb 3 [4] [] ⟨[(4, (bB (!(hasB tk s))))], [], 0, [], []⟩ (by kernel_rfl) ?_
  refine WL_nil ?_
  refine WQ_code ?_
  refine WC_ret ?_
  exact WQ_done htb [(bB (!(hasB tk s)))] _ (.inl rfl) rfl (by kernel_rfl) (fun ρ w hW => (by rw [badB, show gd s = false by simpa using hd]; rfl))
 ·
  rw [Bool.not_eq_false'] at hd
  refine WK_keep [9, 0, 2] [] rfl rfl ?_
  refine WL_execS htb 6 [4] [] ⟨[(4, (bB false))], [], 0, [], []⟩ (by kernel_rfl) ?_
  refine WL_nil ?_
  refine WQ_code ?_
  refine WC_ret ?_
  exact WQ_done htb [(bB false)] _ (.inl rfl) rfl (by kernel_rfl) (fun ρ w hW => (by rw [badB, show gd s = true by simpa using hd]; rfl))

theorem indexBarren_ok {w : World} {G : Heap} (hG : Has w G) {bk : Nat} {A : Option Addr} {n c m1 m2 : Nat} {g : List Rule} {tk : List ByteArray} (hB : Book G bk A n c m1 m2 g tk) {cg cb mg : Nat} {gd : ByteArray → Bool} (hcg : At G ⟨cg, 0, none⟩ [.map (some mg)]) (hcb : At G ⟨cb, 0, none⟩ [.pointer (some ⟨bk, 0, none⟩)]) (hmg : MapF G mg strE (goodF gd)) {xs : List ByteArray} {A_xs : Option Addr} {n_xs c_xs : Nat} (h_xs : Sl tStr G A_xs n_xs c_xs xs) :
    Calls Try.prog 93 #[.slice A_xs n_xs c_xs, (.func (.func 77) #[] #[.pointer (some ⟨cg, 0, none⟩), .pointer (some ⟨cb, 0, none⟩)])] w (Ret w G fun v G' => ∃ r : Int, v = .int .i64 r ∧ decide (r ≥ 0) = xs.any (badB gd tk)) := by
 have lh_xs := h_xs.len'
 refine enter [(sS A_xs n_xs c_xs), (.fn (.func 77) [(.v (.pointer (some (⟨cg, 0, none⟩ : Addr)))), (.v (.pointer (some (⟨cb, 0, none⟩ : Addr))))])] 19 Try.func93 rfl rfl rfl rfl hG ?_
 refine WC_seq (WC_region ?_)
 refine WL_execS htb 1 [0, 1] [] ⟨[(0, (sS A_xs n_xs c_xs)), (1, (.fn (.func 77) [(.v (.pointer (some (⟨cg, 0, none⟩ : Addr)))), (.v (.pointer (some (⟨cb, 0, none⟩ : Addr))))]))], [], 0, [], []⟩ (by kernel_rfl) ?_
 refine WL_nil ?_
 refine WQ_code ?_
 refine WC_seq ?_
 refine WC_seq (WC_region ?_)
 refine WL_execS htb 3 [8, 7, 0, 1] [] ⟨[(8, (iI 0)), (7, (iN n_xs)), (0, (sS A_xs n_xs c_xs)), (1, (.fn (.func 77) [(.v (.pointer (some (⟨cg, 0, none⟩ : Addr)))), (.v (.pointer (some (⟨cb, 0, none⟩ : Addr))))]))], [], 0, [], []⟩ (by kernel_rfl) ?_
 refine WL_nil ?_
 refine WQ_code ?_
 refine WC_block ?_
 refine WK_keep [8, 7, 0, 1] [] rfl rfl ?_
 refine WK_env [(8, (iN 0)), (7, (iN n_xs)), (0, (sS A_xs n_xs c_xs)), (1, (.fn (.func 77) [(.v (.pointer (some (⟨cg, 0, none⟩ : Addr)))), (.v (.pointer (some (⟨cb, 0, none⟩ : Addr))))]))] (fun ρ => ⟨rfl, rfl, ⟨rfl, rfl, ⟨rfl, rfl, ⟨rfl, rfl, trivial⟩⟩⟩⟩) ?_
 refine WC_loop (ι := Nat) (fun i G1 => Le G G1 ∧ (i ≤ n_xs ∧ (xs.take i).any (badB gd tk) = false)) (fun i => ⟨[(8, (iN i)), (7, (iN n_xs)), (0, (sS A_xs n_xs c_xs)), (1, (.fn (.func 77) [(.v (.pointer (some (⟨cg, 0, none⟩ : Addr)))), (.v (.pointer (some (⟨cb, 0, none⟩ : Addr))))]))], [], 0, [], []⟩) (fun i => n_xs - i) (0) ⟨Le.refl _, ⟨Nat.zero_le _, rfl⟩⟩ rfl ?_
 rintro i G1 ⟨hle, hF⟩
 show WC _ _ _ _ _ ⟨[(8, (iN i)), (7, (iN n_xs)), (0, (sS A_xs n_xs c_xs)), (1, (.fn (.func 77) [(.v (.pointer (some (⟨cg, 0, none⟩ : Addr)))), (.v (.pointer (some (⟨cb, 0, none⟩ : Addr))))]))], [], 0, [], []⟩ _
 replace h_xs := h_xs.mono hle
 replace hB := hB.mono hle
 replace hcg := hcg.mono hle
 replace hcb := hcb.mono hle
 replace hmg := hmg.mono hle
 have hc2 := hle
 obtain ⟨hi, hn⟩ := hF
 refine WC_seq (WC_region ?_)
 refine WL_execS htb 1 [9, 8, 7, 0, 1] [] ⟨[(9, (bB (decide ((((i : Nat) : Int) : Int) < ((n_xs : Nat) : Int))))), (8, (iN i)), (7, (iN n_xs)), (0, (sS A_xs n_xs c_xs)), (1, (.fn (.func 77) [(.v (.pointer (some (⟨cg, 0, none⟩ : Addr)))), (.v (.pointer (some (⟨cb, 0, none⟩ : Addr))))]))], [], 0, [], []⟩ (by kernel_rfl) ?_
 refine WL_nil ?_
 refine WQ_code ?_
 refine WC_seq ?_
 refine WC_cond (b := (decide ((((i : Nat) : Int) : Int) < ((n_xs : Nat) : Int)))) rfl (fun hc => ?_) (fun hc => ?_)
 ·
  replace hc := of_decide_eq_true hc
  refine WC_skip ?_
  refine WQ_code ?_
  refine WC_seq ?_
  refine WC_block ?_
  refine WC_seq (WC_region ?_)
  refine WL_execS htb 2 [5, 8, 7, 0, 1] [] ⟨[(5, (iN i)), (8, (iN i)), (7, (iN n_xs)), (0, (sS A_xs n_xs c_xs)), (1, (.fn (.func 77) [(.v (.pointer (some (⟨cg, 0, none⟩ : Addr)))), (.v (.pointer (some (⟨cb, 0, none⟩ : Addr))))]))], [], 0, [], []⟩ (by kernel_rfl) ?_
  refine WL_nil ?_
  refine WQ_code ?_
  refine WC_seq (WC_region ?_)
  refine WL_execS htb 3 [13, 12, 11, 5, 8, 7, 0, 1] [] ⟨[(13, (iN i)), (12, (sS A_xs n_xs c_xs)), (11, (.fn (.func 77) [(.v (.pointer (some (⟨cg, 0, none⟩ : Addr)))), (.v (.pointer (some (⟨cb, 0, none⟩ : Addr))))])), (5, (iN i)), (8, (iN i)), (7, (iN n_xs)), (0, (sS A_xs n_xs c_xs)), (1, (.fn (.func 77) [(.v (.pointer (some (⟨cg, 0, none⟩ : Addr)))), (.v (.pointer (some (⟨cb, 0, none⟩ : Addr))))]))], [], 0, [], []⟩ (by kernel_rfl) ?_
  obtain ⟨q3, rfl⟩ := h_xs.ptr (by omega)
  obtain ⟨x6, _, hx4, ⟨rfl, hn7⟩, at5⟩ := h_xs.get i (by omega)
  replace at5 : At G1 (q3.add (i * 1)) [.string x6] := at5
  refine WL_op (WOp_idx htb q3 n_xs ((i : Nat) : Int) 1 (by kernel_rfl) (by omega) (by omega) ?_)
  refine WL_op (WOp_ld htb (q3.add (i * 1)) false 1 [.string x6] (by kernel_rfl) at5 rfl (by decide) ?_)
  refine WL_op (WOp_call 77 [(tS x6), (.v (.pointer (some (⟨cg, 0, none⟩ : Addr)))), (.v (.pointer (some (⟨cb, 0, none⟩ : Addr))))] (by kernel_rfl) (goes_of Try.func77 rfl rfl) (fun ρ w hW => barren_ok hW.has hB hcg hcb hmg (s := x6)) ?_)
  intro G701 v hle hΦ
  replace hc2 := Le.trans hc2 hle
  replace h_xs := h_xs.mono hle
  replace hB := hB.mono hle
  replace hcg := hcg.mono hle
  replace hcb := hcb.mono hle
  replace hmg := hmg.mono hle
  replace at5 := at5.mono hle
  subst hΦ
  refine WL_nil ?_
  refine WQ_code ?_
  refine WC_cond (b := (badB gd tk x6)) rfl (fun hd => ?_) (fun hd => ?_)
  ·
   skip
   refine WC_seq (WC_region ?_)
   refine WL_execS htb 2 [4] [] ⟨[(4, (iN i))], [], 0, [], []⟩ (by kernel_rfl) ?_
   refine WL_nil ?_
   refine WQ_code ?_
   refine WC_ret ?_
   refine WQ_blk_ret ?_
   refine WQ_then_ret ?_
   refine WQ_then_ret ?_
   refine WQ_blk_ret ?_
   refine WQ_then_ret ?_
   exact WQ_done htb [(iN i)] _ (.inl rfl) rfl (by kernel_rfl) (fun ρ w hW => ⟨_, rfl, any_hit hx4 hd⟩)
  ·
   skip
   refine WC_skip ?_
   refine WQ_blk ?_
   refine WQ_code ?_
   refine WC_region ?_
   refine WL_execS htb 2 [8, 7, 0, 1] [] ⟨[(8, (iI (IntKind.i64.wrap (((i : Nat) : Int) + 1)))), (7, (iN n_xs)), (0, (sS (some q3) n_xs c_xs)), (1, (.fn (.func 77) [(.v (.pointer (some (⟨cg, 0, none⟩ : Addr)))), (.v (.pointer (some (⟨cb, 0, none⟩ : Addr))))]))], [], 0, [], []⟩ (by kernel_rfl) ?_
   refine WL_nil ?_
   refine WK_env [(8, (iN (i + 1))), (7, (iN n_xs)), (0, (sS (some q3) n_xs c_xs)), (1, (.fn (.func 77) [(.v (.pointer (some (⟨cg, 0, none⟩ : Addr)))), (.v (.pointer (some (⟨cb, 0, none⟩ : Addr))))]))] (fun ρ => ⟨rfl, (congrArg (Value.int .i64) (by rw [wrap_id (by omega)]; first | rfl | omega)), ⟨rfl, rfl, ⟨rfl, rfl, ⟨rfl, rfl, trivial⟩⟩⟩⟩) ?_
   refine WK_keep [8, 7, 0, 1] [] rfl rfl ?_
   exact WQ_next ((i + 1)) (by show n_xs - (i + 1) < n_xs - i; omega) ⟨hc2, ⟨by omega, any_miss hx4 hn hd⟩⟩ (fun ρ a w h => h)
 ·
  replace hc := of_decide_eq_false hc
  refine WC_exit ?_
  refine WQ_then_exit ?_
  refine WQ_then_exit ?_
  refine WQ_hit ?_
  refine WQ_code ?_
  refine WC_seq (WC_region ?_)
  refine WL_execS htb 1 [4] [] ⟨[(4, (iI (-1)))], [], 0, [], []⟩ (by kernel_rfl) ?_
  refine WL_nil ?_
  refine WQ_code ?_
  refine WC_ret ?_
  exact WQ_done htb [(iI (-1))] _ (.inl rfl) rfl (by kernel_rfl) (fun ρ w hW => ⟨_, rfl, any_none hn (by omega)⟩)

theorem containsBarren_ok {w : World} {G : Heap} (hG : Has w G) {bk : Nat} {A : Option Addr} {n c m1 m2 : Nat} {g : List Rule} {tk : List ByteArray} (hB : Book G bk A n c m1 m2 g tk) {cg cb mg : Nat} {gd : ByteArray → Bool} (hcg : At G ⟨cg, 0, none⟩ [.map (some mg)]) (hcb : At G ⟨cb, 0, none⟩ [.pointer (some ⟨bk, 0, none⟩)]) (hmg : MapF G mg strE (goodF gd)) {xs : List ByteArray} {A_xs : Option Addr} {n_xs c_xs : Nat} (h_xs : Sl tStr G A_xs n_xs c_xs xs) :
    Calls Try.prog 78 #[.slice A_xs n_xs c_xs, (.func (.func 77) #[] #[.pointer (some ⟨cg, 0, none⟩), .pointer (some ⟨cb, 0, none⟩)])] w (Ret w G fun v G' => v = .bool (xs.any (badB gd tk))) := by
 have lh_xs := h_xs.len'
 refine enter [(sS A_xs n_xs c_xs), (.fn (.func 77) [(.v (.pointer (some (⟨cg, 0, none⟩ : Addr)))), (.v (.pointer (some (⟨cb, 0, none⟩ : Addr))))])] 9 Try.func78 rfl rfl rfl rfl hG ?_
 refine WC_seq (WC_region ?_)
 refine WL_execS htb 1 [0, 1] [] ⟨[(0, (sS A_xs n_xs c_xs)), (1, (.fn (.func 77) [(.v (.pointer (some (⟨cg, 0, none⟩ : Addr)))), (.v (.pointer (some (⟨cb, 0, none⟩ : Addr))))]))], [], 0, [], []⟩ (by kernel_rfl) ?_
 refine WL_nil ?_
 refine WQ_code ?_
 refine WC_seq (WC_region ?_)
 refine WL_execS htb 2 [6, 5] [] ⟨[(6, (.fn (.func 77) [(.v (.pointer (some (⟨cg, 0, none⟩ : Addr)))), (.v (.pointer (some (⟨cb, 0, none⟩ : Addr))))])), (5, (sS A_xs n_xs c_xs))], [], 0, [], []⟩ (by kernel_rfl) ?_
 refine WL_op (WOp_call 93 [(sS A_xs n_xs c_xs), (.fn (.func 77) [(.v (.pointer (some (⟨cg, 0, none⟩ : Addr)))), (.v (.pointer (some (⟨cb, 0, none⟩ : Addr))))])] (by kernel_rfl) (goes_of Try.func93 rfl rfl) (fun ρ w hW => indexBarren_ok hW.has hB hcg hcb hmg h_xs) ?_)
 intro G701 v hle hΦ
 replace h_xs := h_xs.mono hle
 obtain ⟨r, rfl, hr⟩ := hΦ
 refine WL_execS htb 2 [4] [] ⟨[(4, (bB (decide ((r : Int) ≥ 0))))], [], 0, [], []⟩ (by kernel_rfl) ?_
 refine WL_nil ?_
 refine WQ_code ?_
 refine WC_ret ?_
 exact WQ_done htb [(bB (decide ((r : Int) ≥ 0)))] _ (.inl rfl) rfl (by kernel_rfl) (fun ρ w hW => (by rw [← hr]; rfl))

end Go.Proofs.Ytfemkbockhpmcaa.Sym
