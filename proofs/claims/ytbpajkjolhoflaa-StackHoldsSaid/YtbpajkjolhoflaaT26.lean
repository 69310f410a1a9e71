/- Walks of functions that the laws of this seat reach, printed by a program of this session's. -/
import Derived.Test.YtbpajkjolhoflaaT25
import Derived.Test.YtbpajkjolhoflaaSymL
import Derived.Laws.Strings
import Derived.WideShapes
set_option linter.unusedSimpArgs false
set_option linter.unusedVariables false
set_option maxHeartbeats 4000000
namespace Go.Proofs.Ytbpajkjolhoflaa.Sym
open Go Go.Proofs Go.RowKit






theorem derives_ok {w : World} {G : Heap} (hG : Has w G) {tk : (List ByteArray)} {A_tk : Option Addr} {n_tk : Nat} {c_tk : Nat} {nm : (List ByteArray)} {A_nm : Option Addr} {n_nm : Nat} {c_nm : Nat} {rs : (List (List (List Int)))} {A_rs : Option Addr} {n_rs : Nat} {c_rs : Nat} {sq : (List Int)} {A_sq : Option Addr} {n_sq : Nat} {c_sq : Nat} {to : (List Int)} {A_to : Option Addr} {n_to : Nat} {c_to : Nat} (h_tk : Sl tStr G A_tk n_tk c_tk tk) (h_nm : Sl tStr G A_nm n_nm c_nm nm) (h_rs : Sl (tSlice (tSlice (tInt .i64))) G A_rs n_rs c_rs rs) (h_sq : Sl (tInt .i64) G A_sq n_sq c_sq sq) (h_to : Sl (tInt .i64) G A_to n_to c_to to) (hrs : rs.length ≤ 1000) (hto : to.length ≤ 1000) :
    Calls Try.prog 30 #[(.agg #[.slice A_tk n_tk c_tk, .slice A_nm n_nm c_nm, .slice A_rs n_rs c_rs]), (.slice A_sq n_sq c_sq), (.slice A_to n_to c_to)] w (Ret w G fun v G' => ∃ (b : Bool), v = .bool b ∧ (b = true ↔ DerL rs sq to)) := by
  have lh_tk := h_tk.len'
  have lh_nm := h_nm.len'
  have lh_rs := h_rs.len'
  have lh_sq := h_sq.len'
  have lh_to := h_to.len'
  refine enter [(.agg [(sS A_tk n_tk c_tk), (sS A_nm n_nm c_nm), (sS A_rs n_rs c_rs)]), (sS A_sq n_sq c_sq), (sS A_to n_to c_to)] 18 Try.func30 rfl rfl rfl rfl hG ?_
  refine WC_seq (WC_region ?_)
  refine WL_execS htb 2 [3, 1, 2] [0] ⟨[(3, (.p 0 0)), (1, (sS A_sq n_sq c_sq)), (2, (sS A_to n_to c_to))], [(0, (.cells 35 [(sS A_tk n_tk c_tk), (sS A_nm n_nm c_nm), (sS A_rs n_rs c_rs)]))], 1, [], []⟩ (by kernel_rfl) ?_
  refine WL_nil ?_
  refine WQ_code ?_
  refine WK_freeze 0 rfl rfl rfl rfl ?_
  intro bk2 G1 hle hbk2
  replace h_tk := h_tk.mono hle
  replace h_nm := h_nm.mono hle
  replace h_rs := h_rs.mono hle
  replace h_sq := h_sq.mono hle
  replace h_to := h_to.mono hle
  have hz := FZ.cons (h := 0) hbk2 rfl (FZ.nil _)
  refine WC_seq (WC_draw mixed ?_)
  refine WD_takeL htb rfl (fun _ _ _ _ _ h => h) (Le.refl _) [0, 1, 3, 4, 5, 7, 8] (fuel := 5) (listed' := bts 12 443) (S' := ⟨[(15, (iN n_to)), (14, (sS A_to n_to c_to)), (12, (sS A_to n_to c_to)), (11, (sS A_sq n_sq c_sq)), (10, (.agg [(sS A_tk n_tk c_tk), (sS A_nm n_nm c_nm), (sS A_rs n_rs c_rs)])), (8, (sS A_to n_to c_to)), (7, (.agg [(sS A_tk n_tk c_tk), (sS A_nm n_nm c_nm), (sS A_rs n_rs c_rs)])), (3, (.p 0 0)), (1, (sS A_sq n_sq c_sq)), (2, (sS A_to n_to c_to))], [], 1, [], [(0, bk2, (.cells 35 [(sS A_tk n_tk c_tk), (sS A_nm n_nm c_nm), (sS A_rs n_rs c_rs)]))]⟩) hz (by kernel_rfl) rfl ?_
  refine WD_one 2 (by rfl) (by decide +kernel) (WOp_call 52 [(.agg [(sS A_tk n_tk c_tk), (sS A_nm n_nm c_nm), (sS A_rs n_rs c_rs)]), (sS A_to n_to c_to)] (by kernel_rfl) (goes_of Try.func52 rfl rfl) (fun ρ w hW => known_ok hW.has h_tk h_nm h_rs h_to (by omega) (by omega)) ?_)
  intro G501 v hle hΦ
  replace h_tk := h_tk.mono hle
  replace h_nm := h_nm.mono hle
  replace h_rs := h_rs.mono hle
  replace h_sq := h_sq.mono hle
  replace h_to := h_to.mono hle
  replace hz := hz.mono hle
  obtain ⟨Ac, cu, rfl, hcu, hdm, hsp⟩ := hΦ
  refine WD_on hle ?_
  refine WD_up hle ?_
  show WD _ _ _ _ _ _ _ _ _ ⟨[(9, (sS Ac rs.length rs.length)), (15, (iN n_to)), (14, (sS A_to n_to c_to)), (12, (sS A_to n_to c_to)), (11, (sS A_sq n_sq c_sq)), (10, (.agg [(sS A_tk n_tk c_tk), (sS A_nm n_nm c_nm), (sS A_rs n_rs c_rs)])), (8, (sS A_to n_to c_to)), (7, (.agg [(sS A_tk n_tk c_tk), (sS A_nm n_nm c_nm), (sS A_rs n_rs c_rs)])), (3, (.p 0 0)), (1, (sS A_sq n_sq c_sq)), (2, (sS A_to n_to c_to))], [], 1, [], [(0, bk2, (.cells 35 [(sS A_tk n_tk c_tk), (sS A_nm n_nm c_nm), (sS A_rs n_rs c_rs)]))]⟩
  refine WD_one 6 (by rfl) (by decide +kernel) (WOp_callO 53 [(sS Ac rs.length rs.length), (.agg [(sS A_tk n_tk c_tk), (sS A_nm n_nm c_nm), (sS A_rs n_rs c_rs)]), (sS A_sq n_sq c_sq), (sS A_to n_to c_to), (iI 0)] (by kernel_rfl) (goes_of Try.func53 rfl rfl) (by kernel_rfl) (fun ρ w hW => ends_ok hW.has hcu h_tk h_nm h_rs h_sq h_to (fr := 0) (by omega) (by omega) hdm) (fun G3 z4 arr5 cap6 ys7 hle hz8 ho9 hy => ?_))
  replace h_tk := h_tk.mono hle
  replace h_nm := h_nm.mono hle
  replace h_rs := h_rs.mono hle
  replace h_sq := h_sq.mono hle
  replace h_to := h_to.mono hle
  replace hcu := hcu.mono hle
  replace hz := hz.mono hle
  skip
  refine WD_on hle ?_
  refine WD_up hle ?_
  obtain ⟨hyl, hye⟩ := hy
  obtain rfl : z4 = false := by (cases z4 with | false => rfl | true => (have hnil := hz8 rfl; rw [hnil] at hyl; simp at hyl))
  have hyn : ys7.length = n_to + 1 := by omega
  rw [hyn]
  show WD _ _ _ _ _ _ _ _ _ ⟨[(13, (.ls false 1 (n_to + 1) cap6)), (9, (sS Ac rs.length rs.length)), (15, (iN n_to)), (14, (sS A_to n_to c_to)), (12, (sS A_to n_to c_to)), (11, (sS A_sq n_sq c_sq)), (10, (.agg [(sS A_tk n_tk c_tk), (sS A_nm n_nm c_nm), (sS A_rs n_rs c_rs)])), (8, (sS A_to n_to c_to)), (7, (.agg [(sS A_tk n_tk c_tk), (sS A_nm n_nm c_nm), (sS A_rs n_rs c_rs)])), (3, (.p 0 0)), (1, (sS A_sq n_sq c_sq)), (2, (sS A_to n_to c_to))], [(1, (.lst false 4 arr5))], 2, [], [(0, bk2, (.cells 35 [(sS A_tk n_tk c_tk), (sS A_nm n_nm c_nm), (sS A_rs n_rs c_rs)]))]⟩
  refine WD_one 9 (by rfl) (by decide +kernel) (WOp_idxo htb 1 (n_to + 1) ((n_to : Nat) : Int) 1 (by kernel_rfl) (by omega) (by omega) (WD_on (Le.refl _) ?_))
  refine WD_one 10 (by rfl) (by decide +kernel) (WOp_ldo htb 1 (n_to * 1) false 1 [.bool (ys7.getD n_to false)] (by kernel_rfl) rfl (ho9.bool (by omega)) rfl (by decide) (WD_on (Le.refl _) ?_))
  refine WD_takeL htb rfl (fun _ _ _ _ _ h => h) (Le.refl _) [11] (fuel := 0) (listed' := bts 12 4095) (S' := ⟨[(6, (bB (ys7.getD n_to false))), (17, (bB (ys7.getD n_to false))), (16, (.p 1 (n_to * 1))), (13, (.ls false 1 (n_to + 1) cap6)), (9, (sS Ac rs.length rs.length)), (15, (iN n_to)), (14, (sS A_to n_to c_to)), (12, (sS A_to n_to c_to)), (11, (sS A_sq n_sq c_sq)), (10, (.agg [(sS A_tk n_tk c_tk), (sS A_nm n_nm c_nm), (sS A_rs n_rs c_rs)])), (8, (sS A_to n_to c_to)), (7, (.agg [(sS A_tk n_tk c_tk), (sS A_nm n_nm c_nm), (sS A_rs n_rs c_rs)])), (3, (.p 0 0)), (1, (sS A_sq n_sq c_sq)), (2, (sS A_to n_to c_to))], [(1, (.lst false 4 arr5))], 2, [], [(0, bk2, (.cells 35 [(sS A_tk n_tk c_tk), (sS A_nm n_nm c_nm), (sS A_rs n_rs c_rs)]))]⟩) hz (by kernel_rfl) rfl ?_
  refine WD_done (by decide +kernel) ?_
  refine WK_keep [6] [] rfl rfl ?_
  refine WQ_code ?_
  refine WC_ret ?_
  exact WQ_done htb [(bB (ys7.getD n_to false))] _ (.inl rfl) rfl (by kernel_rfl) (fun ρ w hW => ⟨(ys7.getD n_to false), rfl, by rw [hye n_to, hsp sq 0 n_to (by omega)]; have e : (to.take n_to).drop 0 = to := (by rw [List.drop_zero]; exact List.take_of_length_le (by omega)); rw [e]; exact ⟨fun h => h.2.2, fun h => ⟨by omega, by omega, h⟩⟩⟩)

end Go.Proofs.Ytbpajkjolhoflaa.Sym
