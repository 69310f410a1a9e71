/- Walks of functions that the laws of this seat reach, printed by a program of this session's. -/
import Derived.Test.YtfemkbockhpmcaaB16
set_option linter.unusedSimpArgs false
set_option linter.unusedVariables false
set_option maxHeartbeats 4000000
namespace Go.Proofs.Ytfemkbockhpmcaa.Sym
open Go Go.Proofs Go.RowKit

open Classical in
/-- What Valid answers. -/
noncomputable def validS (tk nm : List ByteArray) (rs : List (List (List Int))) : Int := match backS tk nm rs with
  | none => 80
  | some g => if (numS g tk).2 = 0 ∧ rs = (numS g tk).1.2.2 then 0 else 80
section
variable {tk nm : List ByteArray} {rs : List (List (List Int))} {g : List Rule}
theorem valid_none (h : backS tk nm rs = none) : (80 : Int) = validS tk nm rs := by unfold validS; rw [h]
theorem valid_bad {t2 n2 : List ByteArray} {r2 : List (List (List Int))} {e : Int} (h : backS tk nm rs = some g) (hn : ((t2, n2, r2), e) = numS g tk) (he : e ≠ 0) : (80 : Int) = validS tk nm rs := by
  unfold validS; rw [h]; simp only; rw [← hn, if_neg (fun hh => he hh.1)]
theorem valid_other {t2 n2 : List ByteArray} {r2 : List (List (List Int))} {e : Int} (h : backS tk nm rs = some g) (hn : ((t2, n2, r2), e) = numS g tk) (hr : ¬ rs = r2) : (80 : Int) = validS tk nm rs := by
  unfold validS; rw [h]; simp only; rw [← hn, if_neg (fun hh => hr hh.2)]
theorem valid_yes {t2 n2 : List ByteArray} {r2 : List (List (List Int))} {e : Int} (h : backS tk nm rs = some g) (hn : ((t2, n2, r2), e) = numS g tk) (he : e = 0) (hr : rs = r2) : (0 : Int) = validS tk nm rs := by
  unfold validS; rw [h]; simp only; rw [← hn, if_pos ⟨he, hr⟩]
theorem mapO_flat {α β : Type} {f : List α → Option (List β)} (hf : ∀ x y, f x = some y → y.length = x.length) : ∀ {l : List (List α)} {m : List (List β)}, mapO f l = some m → m.flatten.length = l.flatten.length
  | [], m, h => by injection h with h; subst h; rfl
  | a :: l, m, h => by
    simp only [mapO] at h
    split at h
    · rename_i b r hb hr
      injection h with h
      subst h
      simp only [List.flatten_cons, List.length_append, hf _ _ hb, mapO_flat hf hr]
    · cases h
theorem altsB_flat {ar : List (List Int)} {a : List (List ByteArray)} (h : altsB tk nm ar = some a) : a.flatten.length = ar.flatten.length := mapO_flat (fun x y hx => mapO_len hx) h
theorem back_flat : ∀ {ns : List ByteArray} {rs : List (List (List Int))} {g : List Rule}, ns.length = rs.length → mapO (fun x : ByteArray × List (List Int) => (altsB tk nm x.2).map fun a => (x.1, a)) (ns.zip rs) = some g → (allNames g).length = rs.flatten.flatten.length ∧ g.map (·.1) = ns
  | [], [], g, _, h => by injection h with h; subst h; exact ⟨rfl, rfl⟩
  | n :: ns, r :: rs, g, hl, h => by
    rw [List.zip_cons_cons] at h
    simp only [mapO] at h
    split at h
    · rename_i b q hb hq
      injection h with h
      subst h
      obtain ⟨h1, h2⟩ := back_flat (by simpa using hl) hq
      cases ha : altsB tk nm r with
      | none => rw [ha] at hb; cases hb
      | some a =>
        rw [ha] at hb
        simp only [Option.map_some, Option.some.injEq] at hb
        subst hb
        refine ⟨?_, by simp [h2]⟩
        have e : allNames ((n, a) :: q) = a.flatten ++ allNames q := by unfold allNames; rw [List.flatMap_cons]
        rw [e]
        simp only [List.flatten_cons, List.flatten_append, List.length_append, h1, altsB_flat ha]
    · cases h
theorem back_names (h : backS tk nm rs = some g) : g.map (·.1) = nm := by
  unfold backS at h
  split at h
  · rename_i hl; exact (back_flat hl h).2
  · cases h
end
theorem validP_ok {w : World} {G : Heap} (hG : Has w G) {tk : (List ByteArray)} {A_tk : Option Addr} {n_tk : Nat} {c_tk : Nat} {nm : (List ByteArray)} {A_nm : Option Addr} {n_nm : Nat} {c_nm : Nat} {rs : (List (List (List Int)))} {A_rs : Option Addr} {n_rs : Nat} {c_rs : Nat} (h_tk : Sl tStr G A_tk n_tk c_tk tk) (h_nm : Sl tStr G A_nm n_nm c_nm nm) (h_rs : Sl (tSlice (tSlice (tInt .i64))) G A_rs n_rs c_rs rs) (hB : nm.length ≤ 1000000 ∧ ∀ ar ∈ rs, ar.length ≤ 1000000 ∧ ∀ al ∈ ar, al.length ≤ 1000000) :
    Calls Try.prog 37 #[(.agg #[.slice A_tk n_tk c_tk, .slice A_nm n_nm c_nm, .slice A_rs n_rs c_rs])] w (Ret w G fun v G' => ∃ (r : Int), v = .int .i64 r ∧ (-9223372036854775808 ≤ r ∧ r ≤ 9223372036854775807) ∧ (r = validS tk nm rs)) := by
 have lh_tk := h_tk.len'; have lh_nm := h_nm.len'; have lh_rs := h_rs.len'; refine enter [(.agg [(sS A_tk n_tk c_tk), (sS A_nm n_nm c_nm), (sS A_rs n_rs c_rs)])] 32 Try.func37 rfl rfl rfl rfl hG ?_; refine WC_seq (WC_region (WL_execK htb 2 ⟨[(1, (.p 0 0))], [(0, (.cells 41 [(sS A_tk n_tk c_tk), (sS A_nm n_nm c_nm), (sS A_rs n_rs c_rs)]))], 1, [], []⟩ ?_)); refine WL_nil (WQ_code (WC_seq (WC_region (WL_execK htb 1 ⟨[(8, (.agg [(sS A_tk n_tk c_tk), (sS A_nm n_nm c_nm), (sS A_rs n_rs c_rs)])), (1, (.p 0 0))], [(0, (.cells 41 [(sS A_tk n_tk c_tk), (sS A_nm n_nm c_nm), (sS A_rs n_rs c_rs)]))], 1, [], []⟩ ?_)))); refine WL_op (WOp_call 35 [(.agg [(sS A_tk n_tk c_tk), (sS A_nm n_nm c_nm), (sS A_rs n_rs c_rs)])] (by kernel_rfl) (goes_of Try.func35 rfl rfl) (fun ρ w hW => backP_ok hW.has (tk := tk) (nm := nm) (rs := rs) h_tk h_nm h_rs hB) ?_); intro G701 v hle hΦ; replace h_tk := h_tk.mono hle; replace h_nm := h_nm.mono hle; replace h_rs := h_rs.mono hle; obtain ⟨r1, A_r1, n_r1, c_r1, r2, rfl, h_r1, h_r2, hR3⟩ := hΦ; have lh_r1 := h_r1.len'; refine WL_execK htb 6 ⟨[(4, (iI r2)), (3, (.p 1 0)), (1, (.p 0 0))], [(1, (.cells 24 [(sS A_r1 n_r1 c_r1)])), (0, (.cells 41 [(sS A_tk n_tk c_tk), (sS A_nm n_nm c_nm), (sS A_rs n_rs c_rs)]))], 2, [], []⟩ ?_; refine WL_nil (WQ_code (WC_seq (WC_seq (WC_region (WL_execK htb 2 ⟨[(13, (bB ((r2 : Int) != 0))), (3, (.p 1 0)), (1, (.p 0 0))], [(1, (.cells 24 [(sS A_r1 n_r1 c_r1)])), (0, (.cells 41 [(sS A_tk n_tk c_tk), (sS A_nm n_nm c_nm), (sS A_rs n_rs c_rs)]))], 2, [], []⟩ ?_))))); refine WL_nil (WQ_code (WC_cond (b := ((r2 : Int) != 0)) rfl (fun ha => ?_) (fun ha => ?_)))
 ·
  replace ha := bne_iff_ne.1 ha; refine WC_seq (WC_region (WL_execK htb 1 ⟨[(2, (iI 80))], [], 2, [], []⟩ ?_)); refine WL_nil (WQ_code (WC_ret (WQ_then_ret ?_))); have hnb : backS tk nm rs = none := by (rcases hR3 with h | h; exact absurd h.2 ha; exact h.1)
  exact WQ_done htb [(iI 80)] _ (.inl rfl) rfl (by kernel_rfl) (fun ρ w hW => ⟨80, rfl, (by omega), valid_none hnb⟩)
 ·
  replace ha := (bne_eq_false_iff_eq.1) ha; have hbk : backS tk nm rs = some r1 := by (rcases hR3 with h | h; exact h.1; exact absurd (h.2.2.symm.trans (by simpa using ha)) (by decide))
  refine WC_skip (WQ_code (WC_seq (WC_region (WL_execK htb 3 ⟨[(17, (sS A_tk n_tk c_tk)), (15, (.agg [(sS A_r1 n_r1 c_r1)])), (1, (.p 0 0))], [(0, (.cells 41 [(sS A_tk n_tk c_tk), (sS A_nm n_nm c_nm), (sS A_rs n_rs c_rs)]))], 2, [], []⟩ ?_)))); refine WL_op (WOp_call 20 [(.agg [(sS A_r1 n_r1 c_r1)]), (sS A_tk n_tk c_tk)] (by kernel_rfl) (goes_of Try.func20 rfl rfl) (fun ρ w hW => number_ok hW.has (g := r1) (tk := tk) h_r1 h_tk) ?_); intro G702 v hle hΦ; replace h_tk := h_tk.mono hle; replace h_nm := h_nm.mono hle; replace h_rs := h_rs.mono hle; replace h_r1 := h_r1.mono hle; obtain ⟨r4, A_r4, n_r4, c_r4, r5, A_r5, n_r5, c_r5, r6, A_r6, n_r6, c_r6, r7, rfl, h_r4, h_r5, h_r6, h_r7, hR8⟩ := hΦ; have lh_r4 := h_r4.len'; have lh_r5 := h_r5.len'; have lh_r6 := h_r6.len'; refine WL_execK htb 6 ⟨[(4, (iI r7)), (5, (.p 2 0)), (1, (.p 0 0))], [(2, (.cells 41 [(sS A_r4 n_r4 c_r4), (sS A_r5 n_r5 c_r5), (sS A_r6 n_r6 c_r6)])), (0, (.cells 41 [(sS A_tk n_tk c_tk), (sS A_nm n_nm c_nm), (sS A_rs n_rs c_rs)]))], 3, [], []⟩ ?_; refine WL_nil (WQ_code (WC_seq (WC_region (WL_execK htb 4 ⟨[(24, (sS A_r6 n_r6 c_r6)), (22, (sS A_rs n_rs c_rs)), (4, (iI r7))], [], 3, [], []⟩ ?_)))); refine WL_op (WOp_call 72 [(sS A_rs n_rs c_rs), (sS A_r6 n_r6 c_r6), (.fn (.func 73) [])] (by kernel_rfl) (goes_of Try.func72 rfl rfl) (fun ρ w hW => eqfun3_ok hW.has h_rs h_r6) ?_); intro G703 v hle hΦ; replace h_rs := h_rs.mono hle; replace h_r6 := h_r6.mono hle; subst hΦ; refine WL_execK htb 1 ⟨[(6, (bB (decide (rs = r6)))), (4, (iI r7))], [], 3, [], []⟩ ?_; refine WL_nil (WQ_code (WC_seq (WC_seq (WC_region (WL_execK htb 3 ⟨[(28, (bB ((r7 : Int) != 0))), (6, (bB (decide (rs = r6))))], [], 3, [], []⟩ ?_))))); refine WK_split 28 ((r7 : Int) != 0) rfl (fun hc => ?_) (fun hc => ?_)
  ·
   replace hc := bne_iff_ne.1 hc; refine WK_keep [28, 6] [] rfl rfl ?_; refine WL_execK htb 3 ⟨[(31, (bB true))], [], 3, [], []⟩ ?_; refine WL_nil (WQ_code (WC_cond (b := true) rfl (fun _ => ?_) (fun h => by cases h))); refine WC_seq (WC_region (WL_execK htb 1 ⟨[(2, (iI 80))], [], 3, [], []⟩ ?_)); exact WL_nil (WQ_code (WC_ret (WQ_then_ret (WQ_done htb [(iI 80)] _ (.inl rfl) rfl (by kernel_rfl) (fun ρ w hW => ⟨80, rfl, (by omega), valid_bad hbk hR8 (by simpa using hc)⟩)))))
  ·
   replace hc := (bne_eq_false_iff_eq.1) hc; refine WK_keep [28, 6] [] rfl rfl ?_; refine WL_execK htb 3 ⟨[(31, (bB (!(decide (rs = r6)))))], [], 3, [], []⟩ ?_; refine WL_nil (WQ_code (WC_cond (b := (!(decide (rs = r6)))) rfl (fun hd => ?_) (fun hd => ?_)))
   ·
    rw [Bool.not_eq_true'] at hd; replace hd := of_decide_eq_false hd; refine WC_seq (WC_region (WL_execK htb 1 ⟨[(2, (iI 80))], [], 3, [], []⟩ ?_)); exact WL_nil (WQ_code (WC_ret (WQ_then_ret (WQ_done htb [(iI 80)] _ (.inl rfl) rfl (by kernel_rfl) (fun ρ w hW => ⟨80, rfl, (by omega), valid_other hbk hR8 (by simpa using hd)⟩)))))
   ·
    rw [Bool.not_eq_false'] at hd; replace hd := of_decide_eq_true hd; refine WC_skip (WQ_code (WC_seq (WC_region (WL_execK htb 1 ⟨[(2, (iI 0))], [], 3, [], []⟩ ?_)))); exact WL_nil (WQ_code (WC_ret (WQ_done htb [(iI 0)] _ (.inl rfl) rfl (by kernel_rfl) (fun ρ w hW => ⟨0, rfl, (by omega), valid_yes hbk hR8 (by simpa using hc) (by simpa using hd)⟩))))

theorem rule_ok {w : World} {G : Heap} (hG : Has w G) {n : ByteArray} {al : (List (List ByteArray))} {A_al : Option Addr} {n_al : Nat} {c_al : Nat} (h_n : n.size ≤ big) (h_al : Sl (tSlice tStr) G A_al n_al c_al al) :
    Calls Try.prog 17 #[(.string n), (.slice A_al n_al c_al)] w (Ret w G fun v G' => ∃ (nm : ByteArray) (al2 : (List (List ByteArray))) (A_al2 : Option Addr) (n_al2 : Nat) (c_al2 : Nat), v = .agg #[.string nm, .slice A_al2 n_al2 c_al2] ∧ (nm.size ≤ big) ∧ (Sl (tSlice tStr) G' A_al2 n_al2 c_al2 al2) ∧ (nm = n ∧ al2 = al)) := by
 have lh_al := h_al.len'; refine enter [(tS n), (sS A_al n_al c_al)] 8 Try.func17 rfl rfl rfl rfl hG ?_; refine WC_seq (WC_region (WL_execK htb 1 ⟨[(4, (.p 0 0)), (0, (tS n)), (1, (sS A_al n_al c_al))], [(0, (.cells 34 [(tS (⟨#[]⟩)), (sS none 0 0)]))], 1, [], []⟩ ?_)); refine WL_nil (WQ_code (WC_seq (WC_region (WL_execK htb 4 ⟨[(4, (.p 0 0))], [(0, (.cells 34 [(tS n), (sS A_al n_al c_al)]))], 1, [], []⟩ ?_)))); exact WL_nil (WQ_code (WC_ret (WQ_done htb [(.agg [(tS n), (sS A_al n_al c_al)])] _ (.inl rfl) rfl (by kernel_rfl) (fun ρ w hW => ⟨n, al, _, _, _, rfl, h_n, h_al, ⟨rfl, rfl⟩⟩))))

end Go.Proofs.Ytfemkbockhpmcaa.Sym
