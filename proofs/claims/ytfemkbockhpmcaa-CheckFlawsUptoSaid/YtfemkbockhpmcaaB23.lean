/- Walks of functions that the laws of this seat reach, printed by a program of this session's. -/
import Derived.Test.YtfemkbockhpmcaaB22
set_option linter.unusedSimpArgs false
set_option linter.unusedVariables false
set_option maxHeartbeats 4000000
namespace Go.Proofs.Ytfemkbockhpmcaa.Sym
open Go Go.Proofs Go.RowKit

section
variable {g : List Rule} {tk : List ByteArray}
theorem big_small (h : bigN g tk ≤ 600) : g.length ≤ 600 ∧ (allNames g).length ≤ 600 ∧ tk.length ≤ 600 ∧ SmallG g := by
  unfold bigN at h
  have key : ∀ (g : List Rule), (allNames g).length ≤ (g.map bigR).sum ∧ ∀ x ∈ g, bigR x ≤ (g.map bigR).sum := by
    intro g
    induction g with
    | nil => exact ⟨by simp [allNames], fun x hx => by cases hx⟩
    | cons y g ih =>
      have e : allNames (y :: g) = y.2.flatten ++ allNames g := by unfold allNames; rw [List.flatMap_cons]
      refine ⟨?_, fun x hx => ?_⟩
      · rw [e, List.length_append, List.map_cons, List.sum_cons]
        have : y.2.flatten.length ≤ bigR y := by unfold bigR; omega
        omega
      · rw [List.map_cons, List.sum_cons]
        rcases List.mem_cons.1 hx with rfl | hx
        · omega
        · have := ih.2 x hx; omega
  obtain ⟨h1, h2⟩ := key g
  have flat : ∀ (l : List (List ByteArray)) (a : List ByteArray), a ∈ l → a.length ≤ l.flatten.length := by
    intro l
    induction l with
    | nil => intro a ha; cases ha
    | cons b l ih =>
      intro a ha
      rw [List.flatten_cons, List.length_append]
      rcases List.mem_cons.1 ha with rfl | ha
      · omega
      · have := ih a ha; omega
  refine ⟨by omega, by omega, by omega, by omega, fun x hx => ?_⟩
  have h3 : x.2.length + x.2.flatten.length ≤ (g.map bigR).sum := h2 x hx
  refine ⟨by omega, fun a ha => ?_⟩
  have h4 := flat x.2 a ha
  omega
end
theorem checkFlaws_ok {w : World} {G : Heap} (hG : Has w G) {g : (List (ByteArray × (List (List ByteArray))))} {A_g : Option Addr} {n_g : Nat} {c_g : Nat} {tk : (List ByteArray)} {A_tk : Option Addr} {n_tk : Nat} {c_tk : Nat} (h_g : Sl (tPair tStr (tSlice (tSlice tStr))) G A_g n_g c_g g) (h_tk : Sl tStr G A_tk n_tk c_tk tk) (hb : bigN g tk ≤ 4000000000000000000) :
    Calls Try.prog 10 #[(.agg #[.slice A_g n_g c_g]), (.slice A_tk n_tk c_tk)] w (Ret w G fun v G' => ∃ (b : Bool), v = .bool b ∧ (b = true)) := by
 have lh_g := h_g.len'
 have lh_tk := h_tk.len'
 refine enter [(.agg [(sS A_g n_g c_g)]), (sS A_tk n_tk c_tk)] 21 Try.func10 rfl rfl rfl rfl hG ?_
 refine WC_seq (WC_region ?_)
 refine WL_execS htb 2 [2, 1] [0] ⟨[(2, (.p 0 0)), (1, (sS A_tk n_tk c_tk))], [(0, (.cells 24 [(sS A_g n_g c_g)]))], 1, [], []⟩ (by kernel_rfl) ?_
 refine WL_nil ?_
 refine WQ_code ?_
 refine WC_seq (WC_region ?_)
 refine WL_op (WOp_call 14 [] (by kernel_rfl) (goes_of Try.func14 rfl rfl) (fun ρ w hW => live8_ok hW.has) ?_)
 intro G701 v hle hΦ
 replace h_g := h_g.mono hle
 replace h_tk := h_tk.mono hle
 subst hΦ
 refine WL_execS htb 1 [5, 2, 1] [0] ⟨[(5, (bB true)), (2, (.p 0 0)), (1, (sS A_tk n_tk c_tk))], [(0, (.cells 24 [(sS A_g n_g c_g)]))], 1, [], []⟩ (by kernel_rfl) ?_
 refine WL_nil ?_
 refine WQ_code ?_
 refine WC_seq ?_
 refine WC_seq (WC_region ?_)
 refine WL_execS htb 2 [8, 7, 5, 2, 1] [0] ⟨[(8, (sS A_tk n_tk c_tk)), (7, (.agg [(sS A_g n_g c_g)])), (5, (bB true)), (2, (.p 0 0)), (1, (sS A_tk n_tk c_tk))], [(0, (.cells 24 [(sS A_g n_g c_g)]))], 1, [], []⟩ (by kernel_rfl) ?_
 refine WL_op (WOp_call 15 [(.agg [(sS A_g n_g c_g)]), (sS A_tk n_tk c_tk)] (by kernel_rfl) (goes_of Try.func15 rfl rfl) (fun ρ w hW => big8_ok hW.has (g := g) (tk := tk) h_g h_tk) ?_)
 intro G702 v hle hΦ
 replace h_g := h_g.mono hle
 replace h_tk := h_tk.mono hle
 obtain ⟨r1, rfl, hR2⟩ := hΦ
 refine WL_nil ?_
 refine WQ_code ?_
 refine WC_cond (b := r1) rfl (fun hbig => ?_) (fun hbig => ?_)
 ·
  skip
  refine WC_seq (WC_region ?_)
  refine WL_execS htb 2 [4] [] ⟨[(4, (bB true))], [], 1, [], []⟩ (by kernel_rfl) ?_
  refine WL_nil ?_
  refine WQ_code ?_
  refine WC_ret ?_
  refine WQ_then_ret ?_
  exact WQ_done htb [(bB true)] _ (.inl rfl) rfl (by kernel_rfl) (fun ρ w hW => ⟨true, rfl, rfl⟩)
 ·
  skip
  obtain ⟨hgl, hal, htl, hsg⟩ := big_small (hR2 hb (by simpa using hbig))
  refine WC_skip ?_
  refine WQ_code ?_
  refine WK_keep [5, 2, 1] [0] rfl rfl ?_
  refine WK_freeze 0 rfl rfl rfl rfl ?_
  intro bk4 G3 hle hbk4
  replace h_g := h_g.mono hle
  replace h_tk := h_tk.mono hle
  have hz := FZ.cons (h := 0) hbk4 rfl (FZ.nil _)
  refine WC_seq (WC_draw mixed ?_)
  refine WD_takeL htb rfl (fun _ _ _ _ _ h => h) (Le.refl _) [0, 1, 2, 3, 5, 6] (fuel := 5) (listed' := bts 11 111) (S' := ⟨[(17, (sS A_tk n_tk c_tk)), (16, (.agg [(sS A_g n_g c_g)])), (14, (sS A_tk n_tk c_tk)), (13, (.agg [(sS A_g n_g c_g)])), (12, (bB true)), (11, (bB true)), (5, (bB true)), (2, (.p 0 0)), (1, (sS A_tk n_tk c_tk))], [], 1, [], [(0, bk4, (.cells 24 [(sS A_g n_g c_g)]))]⟩) hz (by kernel_rfl) rfl ?_
  refine WD_one 4 (by rfl) (by decide +kernel) (WOp_call 16 [(.agg [(sS A_g n_g c_g)]), (sS A_tk n_tk c_tk)] (by kernel_rfl) (goes_of Try.func16 rfl rfl) (fun ρ w hW => flawsP_ok hW.has (g := g) (tk := tk) h_g h_tk (by omega) (by omega) (by omega)) ?_)
  intro G703 v hle hΦ
  replace h_g := h_g.mono hle
  replace h_tk := h_tk.mono hle
  replace hz := hz.mono hle
  obtain ⟨Af5, nf6, cf7, gd, nr, rfl, hsf8, hgd, hnr⟩ := hΦ
  rw [flawsL_of hgd hnr] at hsf8
  clear hgd hnr
  have lhsf8 := hsf8.len'
  refine WD_on hle ?_
  refine WD_up hle ?_
  refine WD_one 7 (by rfl) (by decide +kernel) (WOp_call 31 [(.agg [(sS A_g n_g c_g)]), (sS A_tk n_tk c_tk)] (by kernel_rfl) (goes_of Try.func31 rfl rfl) (fun ρ w hW => flaws8_ok hW.has (g := g) (tk := tk) h_g h_tk hsg (by omega)) ?_)
  intro G704 v hle hΦ
  replace h_g := h_g.mono hle
  replace h_tk := h_tk.mono hle
  replace hsf8 := hsf8.mono hle
  replace hz := hz.mono hle
  obtain ⟨A_r9, n_r9, c_r9, rfl, h_r9, hR10⟩ := hΦ
  have lh_r9 := h_r9.len'
  refine WD_on hle ?_
  refine WD_up hle ?_
  refine WD_one 8 (by rfl) (by decide +kernel) (WOp_call 19 [(sS Af5 nf6 cf7), (sS A_r9 n_r9 c_r9)] (by kernel_rfl) (goes_of Try.func19 rfl rfl) (fun ρ w hW => sameFlaws_ok hW.has (xs := (flawsL g tk)) (ys := (flawsL g tk)) hsf8 h_r9) ?_)
  intro G705 v hle hΦ
  replace h_g := h_g.mono hle
  replace h_tk := h_tk.mono hle
  replace hsf8 := hsf8.mono hle
  replace h_r9 := h_r9.mono hle
  replace hz := hz.mono hle
  obtain ⟨r11, rfl, hR12⟩ := hΦ
  refine WD_on hle ?_
  refine WD_up hle ?_
  replace hR12 := hR12.trans (show _ = true from decide_eq_true rfl)
  obtain rfl := hR12
  refine WD_takeL htb rfl (fun _ _ _ _ _ h => h) (Le.refl _) [9, 10] (fuel := 0) (listed' := bts 11 2047) (S' := ⟨[(4, (bB true)), (20, (bB true)), (19, (bB true)), (18, (sS A_r9 n_r9 c_r9)), (15, (sS Af5 nf6 cf7)), (17, (sS A_tk n_tk c_tk)), (16, (.agg [(sS A_g n_g c_g)])), (14, (sS A_tk n_tk c_tk)), (13, (.agg [(sS A_g n_g c_g)])), (12, (bB true)), (11, (bB true)), (5, (bB true)), (2, (.p 0 0)), (1, (sS A_tk n_tk c_tk))], [], 1, [], [(0, bk4, (.cells 24 [(sS A_g n_g c_g)]))]⟩) hz (by kernel_rfl) rfl ?_
  refine WD_done (by decide +kernel) ?_
  refine WK_keep [4] [] rfl rfl ?_
  refine WQ_code ?_
  refine WC_ret ?_
  exact WQ_done htb [(bB true)] _ (.inl rfl) rfl (by kernel_rfl) (fun ρ w hW => ⟨true, rfl, rfl⟩)

end Go.Proofs.Ytfemkbockhpmcaa.Sym
