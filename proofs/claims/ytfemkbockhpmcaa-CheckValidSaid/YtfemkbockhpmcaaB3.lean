/- Walks of functions that the laws of this seat reach, printed by a program of this session's. -/
import Derived.Test.YtfemkbockhpmcaaB2
import Derived.Test.YtfemkbockhpmcaaPb
set_option linter.unusedSimpArgs false
set_option linter.unusedVariables false
set_option maxHeartbeats 4000000
namespace Go.Proofs.Ytfemkbockhpmcaa.Sym
open Go Go.Proofs Go.RowKit

theorem placeB_neg {tk : List ByteArray} {s : ByteArray} : placeB tk s < 0 ↔ s ∉ tk := by
  unfold placeB
  cases h : tk.findIdx? (fun y => decide (y = s)) with
  | none =>
    rw [List.findIdx?_eq_none_iff] at h
    simp only [true_iff, show ((-1 : Int) < 0) from by decide]
    intro hm; have := h s hm; simp at this
  | some i =>
    obtain ⟨h1, h2, _⟩ := List.findIdx?_eq_some_iff_getElem.1 h
    have : s ∈ tk := by rw [← of_decide_eq_true h2]; exact List.getElem_mem h1
    simp [this]
theorem tokF_is {tk : List ByteArray} {s : ByteArray} : (tokF tk s).isSome = hasB tk s := by
  unfold tokF
  cases hh : hasB tk s with
  | true =>
    have h1 := hasB_true.1 hh
    rw [if_neg (fun h => placeB_neg.1 h h1)]; rfl
  | false =>
    have h1 : s ∉ tk := fun h => by rw [hasB_true.2 h] at hh; cases hh
    rw [if_pos (placeB_neg.2 h1)]; rfl
theorem isToken_ok {w : World} {G : Heap} (hG : Has w G) {bk : Nat} {A : Option Addr} {n c m1 m2 : Nat} {g : List Rule} {tk : List ByteArray} (hB : Book G bk A n c m1 m2 g tk) {s : ByteArray} :
    Calls Try.prog 41 #[.pointer (some ⟨bk, 0, none⟩), .string s] w (Ret w G fun v G' => v = .bool (hasB tk s)) := by
 refine enter [(.v (.pointer (some (⟨bk, 0, none⟩ : Addr)))), (tS s)] 17 Try.func41 rfl rfl rfl rfl hG ?_; refine WC_seq (WC_region (WL_execK htb 1 ⟨[(0, (.v (.pointer (some (⟨bk, 0, none⟩ : Addr))))), (1, (tS s))], [], 0, [], []⟩ ?_)); refine WL_nil (WQ_code (WC_seq (WC_region (WL_execK htb 3 ⟨[(10, (.v (.pointer (some ((⟨bk, 0, none⟩ : Addr).add 1))))), (1, (tS s))], [], 0, [], []⟩ ?_)))); refine WL_op (WOp_ld htb ((⟨bk, 0, none⟩ : Addr).add 1) false 1 [.map (some m1)] (by kernel_rfl) (hB.at'.field 1 rfl) rfl (by decide) ?_); refine WL_execK htb 1 ⟨[(12, (tS s)), (11, (.v (.map (some m1))))], [], 0, [], []⟩ ?_; refine WL_op (WOp_look htb m1 (tS s) true 9 (.int .i64 0) (by kernel_rfl) (keyEnc_str (kt := 9) (by kernel_rfl)) s (fun ρ => rfl) hB.tok (v := ((tokF tk s).getD (.int .i64 0))) rfl (is := ((tokF tk s).isSome)) rfl ?_); show WL _ _ _ _ _ _ ⟨[(13, (.tup [(.v (((tokF tk s).getD (.int .i64 0)))), (bB ((tokF tk s).isSome))])), (12, (tS s)), (11, (.v (.map (some m1))))], [], 0, [], []⟩ _; refine WL_execK htb 5 ⟨[(6, (bB ((tokF tk s).isSome)))], [], 0, [], []⟩ ?_; refine WL_nil (WQ_code (WC_seq (WC_region (WL_execK htb 2 ⟨[(4, (bB ((tokF tk s).isSome)))], [], 0, [], []⟩ ?_)))); exact WL_nil (WQ_code (WC_ret (WQ_done htb [(bB ((tokF tk s).isSome))] _ (.inl rfl) rfl (by kernel_rfl) (fun ρ w hW => (by rw [← tokF_is]; rfl)))))

end Go.Proofs.Ytfemkbockhpmcaa.Sym
