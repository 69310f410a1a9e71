/- Walks of functions that the laws of this seat reach, printed by a program of this session's. -/
import Derived.Test.YtfemkbockhpmcaaB15
set_option linter.unusedSimpArgs false
set_option linter.unusedVariables false
set_option maxHeartbeats 4000000
namespace Go.Proofs.Ytfemkbockhpmcaa.Sym
open Go Go.Proofs Go.RowKit

theorem symB_nm' {tk nm : List ByteArray} {k y : Int} {s : ByteArray} (h : k < 0) (hy : y = - k - 1) (h1 : nm[y.toNat]? = some s) : symB tk nm k = some s := symB_nm h (by rw [show -1 - k = y by omega]; exact h1)
theorem backP_ok {w : World} {G : Heap} (hG : Has w G) {tk : (List ByteArray)} {A_tk : Option Addr} {n_tk : Nat} {c_tk : Nat} {nm : (List ByteArray)} {A_nm : Option Addr} {n_nm : Nat} {c_nm : Nat} {rs : (List (List (List Int)))} {A_rs : Option Addr} {n_rs : Nat} {c_rs : Nat} (h_tk : Sl tStr G A_tk n_tk c_tk tk) (h_nm : Sl tStr G A_nm n_nm c_nm nm) (h_rs : Sl (tSlice (tSlice (tInt .i64))) G A_rs n_rs c_rs rs) (hB : nm.length ≤ 1000000 ∧ ∀ ar ∈ rs, ar.length ≤ 1000000 ∧ ∀ al ∈ ar, al.length ≤ 1000000) :
    Calls Try.prog 35 #[(.agg #[.slice A_tk n_tk c_tk, .slice A_nm n_nm c_nm, .slice A_rs n_rs c_rs])] w (Ret w G fun v G' => ∃ (g : (List (ByteArray × (List (List ByteArray))))) (A_g : Option Addr) (n_g : Nat) (c_g : Nat) (e : Int), v = .tuple #[.agg #[.slice A_g n_g c_g], .int .i64 e] ∧ (Sl (tPair tStr (tSlice (tSlice tStr))) G' A_g n_g c_g g) ∧ (-9223372036854775808 ≤ e ∧ e ≤ 9223372036854775807) ∧ ((backS tk nm rs = some g ∧ e = 0) ∨ (backS tk nm rs = none ∧ g = [] ∧ e = 1))) := by
 have lh_tk := h_tk.len'
 have lh_nm := h_nm.len'
 have lh_rs := h_rs.len'
 refine enter [(.agg [(sS A_tk n_tk c_tk), (sS A_nm n_nm c_nm), (sS A_rs n_rs c_rs)])] 89 Try.func35 rfl rfl rfl rfl hG ?_
 refine WC_seq (WC_region ?_)
 refine WL_execS htb 3 [2, 1] [1, 0] ⟨[(2, (.p 1 0)), (1, (.p 0 0))], [(1, (.cells 24 [(sS none 0 0)])), (0, (.cells 41 [(sS A_tk n_tk c_tk), (sS A_nm n_nm c_nm), (sS A_rs n_rs c_rs)]))], 2, [], []⟩ (by kernel_rfl) ?_
 refine WL_nil ?_
 refine WQ_code ?_
 refine WC_seq ?_
 refine WC_seq (WC_region ?_)
 refine WL_execS htb 7 [19, 2, 1] [1, 0] ⟨[(19, (bB ((((n_nm : Nat) : Int) : Int) != ((n_rs : Nat) : Int)))), (2, (.p 1 0)), (1, (.p 0 0))], [(1, (.cells 24 [(sS none 0 0)])), (0, (.cells 41 [(sS A_tk n_tk c_tk), (sS A_nm n_nm c_nm), (sS A_rs n_rs c_rs)]))], 2, [], []⟩ (by kernel_rfl) ?_
 refine WL_nil ?_
 refine WQ_code ?_
 refine WC_cond (b := ((((n_nm : Nat) : Int) : Int) != ((n_rs : Nat) : Int))) rfl (fun hb0 => ?_) (fun hb0 => ?_)
 ·
  replace hb0 := bne_iff_ne.1 hb0
  refine WC_seq (WC_region ?_)
  refine WL_execS htb 3 [3, 2] [1] ⟨[(3, (iI 1)), (2, (.p 1 0))], [(1, (.cells 24 [(sS none 0 0)]))], 2, [], []⟩ (by kernel_rfl) ?_
  refine WL_nil ?_
  refine WQ_code ?_
  refine WC_ret ?_
  refine WQ_then_ret ?_
  exact WQ_done htb [(.agg [(sS none 0 0)]), (iI 1)] _ (.inl rfl) rfl (by kernel_rfl) (fun ρ w hW => ⟨[], _, _, _, 1, rfl, (Sl.none0 _ _), (by omega), (.inr ⟨back_no (by omega), rfl, rfl⟩)⟩)
 ·
  replace hb0 := (bne_eq_false_iff_eq.1) hb0
  refine WC_skip ?_
  refine WQ_code ?_
  refine WC_seq (WC_region ?_)
  refine WL_execS htb 1 [4, 2, 1] [2, 1, 0] ⟨[(4, (.p 2 0)), (2, (.p 1 0)), (1, (.p 0 0))], [(2, (.cells 24 [(sS none 0 0)])), (1, (.cells 24 [(sS none 0 0)])), (0, (.cells 41 [(sS A_tk n_tk c_tk), (sS A_nm n_nm c_nm), (sS A_rs n_rs c_rs)]))], 3, [], []⟩ (by kernel_rfl) ?_
  refine WL_nil ?_
  refine WQ_code ?_
  refine WC_seq ?_
  refine WC_seq (WC_region ?_)
  refine WL_execS htb 4 [24, 23, 22, 4, 2, 1] [2, 1, 0] ⟨[(24, (iI 0)), (23, (iN n_rs)), (22, (sS A_rs n_rs c_rs)), (4, (.p 2 0)), (2, (.p 1 0)), (1, (.p 0 0))], [(2, (.cells 24 [(sS none 0 0)])), (1, (.cells 24 [(sS none 0 0)])), (0, (.cells 41 [(sS A_tk n_tk c_tk), (sS A_nm n_nm c_nm), (sS A_rs n_rs c_rs)]))], 3, [], []⟩ (by kernel_rfl) ?_
  refine WL_nil ?_
  refine WQ_code ?_
  refine WC_block ?_
  refine WK_off 34 rfl ?_
  refine WK_own [(3, (.lst true 34 (#[]))), (2, (.cells 24 [(.ls true 3 0 0)])), (1, (.cells 24 [(sS none 0 0)])), (0, (.cells 41 [(sS A_tk n_tk c_tk), (sS A_nm n_nm c_nm), (sS A_rs n_rs c_rs)]))] (fun ρ => ⟨rfl, rfl, ⟨rfl, rfl, rfl, ⟨rfl, rfl, rfl, ⟨rfl, rfl, rfl, trivial⟩⟩⟩⟩) ?_
  refine WK_freeze 0 rfl rfl rfl rfl ?_
  intro bk2 G1 hle hbk2
  replace h_tk := h_tk.mono hle
  replace h_nm := h_nm.mono hle
  replace h_rs := h_rs.mono hle
  have hz := FZ.cons (h := 0) hbk2 rfl (FZ.nil _)
  refine WK_keep [24, 23, 22, 4, 2, 1] [3, 2, 1] rfl rfl ?_
  refine WK_env [(24, (iN 0)), (23, (iN n_rs)), (22, (sS A_rs n_rs c_rs)), (4, (.p 2 0)), (2, (.p 1 0)), (1, (.p 0 0))] (fun ρ => ⟨rfl, rfl, ⟨rfl, rfl, ⟨rfl, rfl, ⟨rfl, rfl, ⟨rfl, rfl, ⟨rfl, rfl, trivial⟩⟩⟩⟩⟩⟩) ?_
  refine WC_loop (ι := Nat × List (ByteArray × List (List ByteArray)) × Bool × Array Value × Nat) (fun (r, acc, z, arr, cap) G3 => Le G1 G3 ∧ (r ≤ n_rs ∧ mapO (fun x => (altsB tk nm x.2).map fun a => (x.1, a)) ((nm.zip rs).take r) = some acc ∧ OwnL (tPair tStr (tSlice (tSlice tStr))) G3 acc arr cap ∧ (z = true → acc = []))) (fun (r, acc, z, arr, cap) => ⟨[(24, (iN r)), (23, (iN n_rs)), (22, (sS A_rs n_rs c_rs)), (4, (.p 2 0)), (2, (.p 1 0)), (1, (.p 0 0))], [(3, (.lst z 34 arr)), (2, (.cells 24 [(.ls z 3 acc.length cap)])), (1, (.cells 24 [(sS none 0 0)]))], 4, [], [(0, bk2, (.cells 41 [(sS A_tk n_tk c_tk), (sS A_nm n_nm c_nm), (sS A_rs n_rs c_rs)]))]⟩) (fun (r, acc, z, arr, cap) => n_rs - r) (0, [], true, #[], 0) ⟨Le.refl _, ⟨Nat.zero_le _, rfl, OwnL.nil _ _, fun _ => rfl⟩⟩ rfl ?_
  rintro ⟨r, acc, z, arr, cap⟩ G3 ⟨hle, hF⟩
  show WC _ _ _ _ _ ⟨[(24, (iN r)), (23, (iN n_rs)), (22, (sS A_rs n_rs c_rs)), (4, (.p 2 0)), (2, (.p 1 0)), (1, (.p 0 0))], [(3, (.lst z 34 arr)), (2, (.cells 24 [(.ls z 3 acc.length cap)])), (1, (.cells 24 [(sS none 0 0)]))], 4, [], [(0, bk2, (.cells 41 [(sS A_tk n_tk c_tk), (sS A_nm n_nm c_nm), (sS A_rs n_rs c_rs)]))]⟩ _
  replace h_tk := h_tk.mono hle
  replace h_nm := h_nm.mono hle
  replace h_rs := h_rs.mono hle
  replace hz := hz.mono hle
  have hc4 := hle
  obtain ⟨hr, hacc, ho, hz0⟩ := hF
  refine WC_seq (WC_region ?_)
  refine WL_execS htb 1 [25, 24, 23, 22, 4, 2, 1] [3, 2, 1] ⟨[(25, (bB (decide ((((r : Nat) : Int) : Int) < ((n_rs : Nat) : Int))))), (24, (iN r)), (23, (iN n_rs)), (22, (sS A_rs n_rs c_rs)), (4, (.p 2 0)), (2, (.p 1 0)), (1, (.p 0 0))], [(3, (.lst z 34 arr)), (2, (.cells 24 [(.ls z 3 acc.length cap)])), (1, (.cells 24 [(sS none 0 0)]))], 4, [], [(0, bk2, (.cells 41 [(sS A_tk n_tk c_tk), (sS A_nm n_nm c_nm), (sS A_rs n_rs c_rs)]))]⟩ (by kernel_rfl) ?_
  refine WL_nil ?_
  refine WQ_code ?_
  refine WC_seq ?_
  refine WC_cond (b := (decide ((((r : Nat) : Int) : Int) < ((n_rs : Nat) : Int)))) rfl (fun hc => ?_) (fun hc => ?_)
  ·
   replace hc := of_decide_eq_true hc
   refine WC_skip ?_
   refine WQ_code ?_
   refine WC_seq ?_
   refine WC_block ?_
   refine WC_seq (WC_region ?_)
   refine WL_execS htb 1 [26, 24, 23, 22, 4, 2, 1] [3, 2, 1] ⟨[(26, (iN r)), (24, (iN r)), (23, (iN n_rs)), (22, (sS A_rs n_rs c_rs)), (4, (.p 2 0)), (2, (.p 1 0)), (1, (.p 0 0))], [(3, (.lst z 34 arr)), (2, (.cells 24 [(.ls z 3 acc.length cap)])), (1, (.cells 24 [(sS none 0 0)]))], 4, [], [(0, bk2, (.cells 41 [(sS A_tk n_tk c_tk), (sS A_nm n_nm c_nm), (sS A_rs n_rs c_rs)]))]⟩ (by kernel_rfl) ?_
   obtain ⟨q5, rfl⟩ := h_rs.ptr (by omega)
   obtain ⟨x8, _, hx6, hr9, at7⟩ := h_rs.get r (by omega)
   obtain ⟨A11, n12, c13, rfl, hs10⟩ := Sl.of hr9
   replace hs10 : Sl (tSlice (tInt .i64)) _ A11 n12 c13 x8 := hs10
   have lhs10 := hs10.len'
   replace at7 : At G3 (q5.add (r * 1)) [.slice A11 n12 c13] := at7
   refine WL_op (WOp_idx htb q5 n_rs ((r : Nat) : Int) 1 (by kernel_rfl) (by omega) (by omega) ?_)
   refine WL_op (WOp_ld htb (q5.add (r * 1)) false 1 [.slice A11 n12 c13] (by kernel_rfl) at7 rfl (by decide) ?_)
   refine WL_execS htb 2 [6, 5, 24, 23, 22, 4, 2, 1] [3, 2, 1] ⟨[(6, (sS A11 n12 c13)), (5, (iN r)), (24, (iN r)), (23, (iN n_rs)), (22, (sS (some q5) n_rs c_rs)), (4, (.p 2 0)), (2, (.p 1 0)), (1, (.p 0 0))], [(3, (.lst z 34 arr)), (2, (.cells 24 [(.ls z 3 acc.length cap)])), (1, (.cells 24 [(sS none 0 0)]))], 4, [], [(0, bk2, (.cells 41 [(sS A_tk n_tk c_tk), (sS A_nm n_nm c_nm), (sS (some q5) n_rs c_rs)]))]⟩ (by kernel_rfl) ?_
   refine WL_nil ?_
   refine WQ_code ?_
   refine WC_seq (WC_draw mixed ?_)
   refine WD_takeL htb rfl (fun _ _ _ _ _ h => h) (Le.refl _) [0, 1, 2, 5, 6] (fuel := 6) (listed' := bts 11 103) (S' := ⟨[(35, (iN n12)), (34, (sS A11 n12 c13)), (31, (iN r)), (30, (sS A_nm n_nm c_nm)), (29, (.p 0 1)), (6, (sS A11 n12 c13)), (5, (iN r)), (24, (iN r)), (23, (iN n_rs)), (22, (sS (some q5) n_rs c_rs)), (4, (.p 2 0)), (2, (.p 1 0)), (1, (.p 0 0))], [(3, (.lst z 34 arr)), (2, (.cells 24 [(.ls z 3 acc.length cap)])), (1, (.cells 24 [(sS none 0 0)]))], 4, [], [(0, bk2, (.cells 41 [(sS A_tk n_tk c_tk), (sS A_nm n_nm c_nm), (sS (some q5) n_rs c_rs)]))]⟩) hz (by kernel_rfl) rfl ?_
   obtain ⟨q14, rfl⟩ := h_nm.ptr (by omega)
   obtain ⟨x17, _, hx15, ⟨rfl, hn18⟩, at16⟩ := h_nm.get r (by omega)
   replace at16 : At G3 (q14.add (r * 1)) [.string x17] := at16
   refine WD_idx htb 3 (by rfl) rfl (by decide +kernel) (fun _ _ _ _ _ h => h) (Le.refl _) q14 n_nm ((r : Nat) : Int) 1 (by kernel_rfl) (by omega) (by omega) ?_
   refine WD_ld htb 4 (by rfl) rfl (by decide +kernel) (fun _ _ _ _ _ h => h) (Le.refl _) (q14.add (r * 1)) false 1 [.string x17] (by kernel_rfl) at16 rfl (by decide) ?_
   have hla := mapO_len hacc
   have hla' := List.length_take (i := r) (l := nm.zip rs)
   obtain ⟨hb1, hb2⟩ := hB.2 _ (List.mem_of_getElem? hx6)
   have hzip := zip_get hx15 hx6
   have hcL19 := Le.refl G3
   refine WD_join (ι := Array Value) (fun (arj20) GG => Le G3 GG ∧ OwnL tNil GG (List.replicate n12 ()) arj20 n12) (fun (arj20) => ⟨[(37, (.agg [(tS x17), (.ls false 4 n12 n12)])), (7, (.p 5 0)), (36, (.ls false 4 n12 n12)), (33, (tS x17)), (32, (.v (.pointer (some (q14.add (r * 1)))))), (35, (iN n12)), (34, (sS A11 n12 c13)), (31, (iN r)), (30, (sS (some q14) n_nm c_nm)), (29, (.p 0 1)), (6, (sS A11 n12 c13)), (5, (iN r)), (24, (iN r)), (23, (iN n_rs)), (22, (sS (some q5) n_rs c_rs)), (4, (.p 2 0)), (2, (.p 1 0)), (1, (.p 0 0))], [(5, (.cells 34 [(tS (⟨#[]⟩)), (sS none 0 0)])), (4, (.lst false 25 arj20)), (3, (.lst z 34 arr)), (2, (.cells 24 [(.ls z 3 acc.length cap)])), (1, (.cells 24 [(sS none 0 0)]))], 6, [], [(0, bk2, (.cells 41 [(sS A_tk n_tk c_tk), (sS (some q14) n_nm c_nm), (sS (some q5) n_rs c_rs)]))]⟩) 1 #[true, true, true, true, true, true, true, true, true, true, false] ?cont (fun hK22 => ?now)
   case cont =>
    rintro arj20 G23 ⟨hle, hoj21⟩
    show WK _ _ ⟨[(37, (.agg [(tS x17), (.ls false 4 n12 n12)])), (7, (.p 5 0)), (36, (.ls false 4 n12 n12)), (33, (tS x17)), (32, (.v (.pointer (some (q14.add (r * 1)))))), (35, (iN n12)), (34, (sS A11 n12 c13)), (31, (iN r)), (30, (sS (some q14) n_nm c_nm)), (29, (.p 0 1)), (6, (sS A11 n12 c13)), (5, (iN r)), (24, (iN r)), (23, (iN n_rs)), (22, (sS (some q5) n_rs c_rs)), (4, (.p 2 0)), (2, (.p 1 0)), (1, (.p 0 0))], [(5, (.cells 34 [(tS (⟨#[]⟩)), (sS none 0 0)])), (4, (.lst false 25 arj20)), (3, (.lst z 34 arr)), (2, (.cells 24 [(.ls z 3 acc.length cap)])), (1, (.cells 24 [(sS none 0 0)]))], 6, [], [(0, bk2, (.cells 41 [(sS A_tk n_tk c_tk), (sS (some q14) n_nm c_nm), (sS (some q5) n_rs c_rs)]))]⟩ _
    replace hc4 := Le.trans hc4 hle
    replace hcL19 := Le.trans hcL19 hle
    replace h_tk := h_tk.mono hle
    replace h_nm := h_nm.mono hle
    replace h_rs := h_rs.mono hle
    replace hs10 := hs10.mono hle
    replace at16 := at16.mono hle
    replace hz := hz.mono hle
    replace ho := ho.mono hle
    refine WD_one 10 (by rfl) (by decide +kernel) (WOp_step htb (S' := ⟨[(37, (.agg [(tS x17), (.ls false 4 n12 n12)])), (7, (.p 5 0)), (36, (.ls false 4 n12 n12)), (33, (tS x17)), (32, (.v (.pointer (some (q14.add (r * 1)))))), (35, (iN n12)), (34, (sS A11 n12 c13)), (31, (iN r)), (30, (sS (some q14) n_nm c_nm)), (29, (.p 0 1)), (6, (sS A11 n12 c13)), (5, (iN r)), (24, (iN r)), (23, (iN n_rs)), (22, (sS (some q5) n_rs c_rs)), (4, (.p 2 0)), (2, (.p 1 0)), (1, (.p 0 0))], [(5, (.cells 34 [(tS x17), (.ls false 4 n12 n12)])), (4, (.lst false 25 arj20)), (3, (.lst z 34 arr)), (2, (.cells 24 [(.ls z 3 acc.length cap)])), (1, (.cells 24 [(sS none 0 0)]))], 6, [], [(0, bk2, (.cells 41 [(sS A_tk n_tk c_tk), (sS (some q14) n_nm c_nm), (sS (some q5) n_rs c_rs)]))]⟩) (by kernel_rfl) (WD_on (Le.refl _) ?_))
    refine WD_done (by decide +kernel) ?_
    refine WK_keep [7, 6, 24, 23, 22, 4, 2, 1] [5, 4, 3, 2, 1] rfl rfl ?_
    refine WQ_code ?_
    refine WC_seq ?_
    refine WC_seq (WC_region ?_)
    refine WL_execS htb 3 [40, 39, 38, 7, 24, 23, 22, 4, 2, 1] [5, 4, 3, 2, 1] ⟨[(40, (iI 0)), (39, (iN n12)), (38, (sS A11 n12 c13)), (7, (.p 5 0)), (24, (iN r)), (23, (iN n_rs)), (22, (sS (some q5) n_rs c_rs)), (4, (.p 2 0)), (2, (.p 1 0)), (1, (.p 0 0))], [(5, (.cells 34 [(tS x17), (.ls false 4 n12 n12)])), (4, (.lst false 25 arj20)), (3, (.lst z 34 arr)), (2, (.cells 24 [(.ls z 3 acc.length cap)])), (1, (.cells 24 [(sS none 0 0)]))], 6, [], [(0, bk2, (.cells 41 [(sS A_tk n_tk c_tk), (sS (some q14) n_nm c_nm), (sS (some q5) n_rs c_rs)]))]⟩ (by kernel_rfl) ?_
    refine WL_nil ?_
    refine WQ_code ?_
    refine WC_block ?_
    refine WK_g0 fun hle0b => ?_
    refine WK_freezeLN 4 rfl rfl ?_
    intro bk75 G74 hle hnew76 hbk75
    have hle77 := hle
    refine WK_env [(40, (iI 0)), (39, (iN n12)), (38, (sS A11 n12 c13)), (7, (.p 5 0)), (24, (iN r)), (23, (iN n_rs)), (22, (sS (some q5) n_rs c_rs)), (4, (.p 2 0)), (2, (.p 1 0)), (1, (.p 0 0))] (fun ρ => ⟨rfl, rfl, ⟨rfl, rfl, ⟨rfl, rfl, ⟨rfl, rfl, ⟨rfl, rfl, ⟨rfl, rfl, ⟨rfl, rfl, ⟨rfl, rfl, ⟨rfl, rfl, ⟨rfl, rfl, trivial⟩⟩⟩⟩⟩⟩⟩⟩⟩⟩) ?_
    refine WK_own [(5, (.cells 34 [(tS x17), (sS (some ⟨bk75, 0, none⟩) n12 n12)])), (3, (.lst z 34 arr)), (2, (.cells 24 [(.ls z 3 acc.length cap)])), (1, (.cells 24 [(sS none 0 0)]))] (fun ρ => ⟨rfl, rfl, rfl, ⟨rfl, rfl, ⟨rfl, rfl, rfl, ⟨rfl, rfl, rfl, trivial⟩⟩⟩⟩) ?_
    have hleB : Le G23 G74 := hle77
    refine WK_freezeN 5 rfl rfl rfl rfl ?_
    intro bk79 G78 hle81 hnew80 hbk79
    show WK _ _ ⟨[(40, (iI 0)), (39, (iN n12)), (38, (sS A11 n12 c13)), (7, (.p 5 0)), (24, (iN r)), (23, (iN n_rs)), (22, (sS (some q5) n_rs c_rs)), (4, (.p 2 0)), (2, (.p 1 0)), (1, (.p 0 0))], [(3, (.lst z 34 arr)), (2, (.cells 24 [(.ls z 3 acc.length cap)])), (1, (.cells 24 [(sS none 0 0)]))], 6, [], [(5, bk79, (.cells 34 [(tS x17), (sS (some ⟨bk75, 0, none⟩) n12 n12)])), (0, bk2, (.cells 41 [(sS A_tk n_tk c_tk), (sS (some q14) n_nm c_nm), (sS (some q5) n_rs c_rs)]))]⟩ _
    obtain ⟨Gd, hbd, hdG, hdb, hdn⟩ := base_add hleB hle81 hnew80 hbk79
    have hb0n : Gd bk75 = none := hdn _ hnew76 (fun e => by (rw [e, hnew80] at hbk75; cases hbk75))
    replace h_tk := h_tk.mono hbd
    replace h_nm := h_nm.mono hbd
    replace h_rs := h_rs.mono hbd
    replace hs10 := hs10.mono hbd
    replace at16 := at16.mono hbd
    replace ho := ho.mono hbd
    replace hc4 := Le.trans hc4 hbd
    replace hcL19 := Le.trans hcL19 hbd
    have hz : FZ Gd [(5, bk79, (.cells 34 [(tS x17), (sS (some ⟨bk75, 0, none⟩) n12 n12)])), (0, bk2, (.cells 41 [(sS A_tk n_tk c_tk), (sS (some q14) n_nm c_nm), (sS (some q5) n_rs c_rs)]))] := FZ.cons (h := 5) hdb rfl (hz.mono hbd)
    have hle0 := Le.trans hle0b hbd
    have hleb := hdG
    obtain ⟨hsz, hnil⟩ := tNil_all hoj21
    have hR0 := RowB.start (d := tStr) (T := 25) (e := 9) (m := n12) hdG hb0n (hle81 _ _ hbk75) hsz hnil
    show WK _ _ ⟨[(40, (iI 0)), (39, (iN n12)), (38, (sS A11 n12 c13)), (7, (.p 5 0)), (24, (iN r)), (23, (iN n_rs)), (22, (sS (some q5) n_rs c_rs)), (4, (.p 2 0)), (2, (.p 1 0)), (1, (.p 0 0))], [(3, (.lst z 34 arr)), (2, (.cells 24 [(.ls z 3 acc.length cap)])), (1, (.cells 24 [(sS none 0 0)]))], 6, [], [(5, bk79, (.cells 34 [(tS x17), (sS (some ⟨bk75, 0, none⟩) n12 n12)])), (0, bk2, (.cells 41 [(sS A_tk n_tk c_tk), (sS (some q14) n_nm c_nm), (sS (some q5) n_rs c_rs)]))]⟩ _
    refine WK_keep [40, 39, 38, 7, 24, 23, 22, 4, 2, 1] [3, 2, 1] rfl rfl ?_
    refine WK_env [(40, (iN 0)), (39, (iN n12)), (38, (sS A11 n12 c13)), (7, (.p 5 0)), (24, (iN r)), (23, (iN n_rs)), (22, (sS (some q5) n_rs c_rs)), (4, (.p 2 0)), (2, (.p 1 0)), (1, (.p 0 0))] (fun ρ => ⟨rfl, rfl, ⟨rfl, rfl, ⟨rfl, rfl, ⟨rfl, rfl, ⟨rfl, rfl, ⟨rfl, rfl, ⟨rfl, rfl, ⟨rfl, rfl, ⟨rfl, rfl, ⟨rfl, rfl, trivial⟩⟩⟩⟩⟩⟩⟩⟩⟩⟩) ?_
    refine WC_loop (ι := Nat × Heap × (List (List ByteArray)) × Array Value) (fun (k, Gq, val, ar0) G82 => k ≤ n12 ∧ Le Gd Gq ∧ RowB tStr 25 9 Gq G82 bk75 n12 k val [] true 0 0 ar0 #[] ∧ mapO (altB tk nm) (x8.take k) = some val) (fun (k, Gq, val, ar0) => ⟨[(40, (iN k)), (39, (iN n12)), (38, (sS A11 n12 c13)), (7, (.p 5 0)), (24, (iN r)), (23, (iN n_rs)), (22, (sS (some q5) n_rs c_rs)), (4, (.p 2 0)), (2, (.p 1 0)), (1, (.p 0 0))], [(3, (.lst z 34 arr)), (2, (.cells 24 [(.ls z 3 acc.length cap)])), (1, (.cells 24 [(sS none 0 0)]))], 6, [], [(5, bk79, (.cells 34 [(tS x17), (sS (some ⟨bk75, 0, none⟩) n12 n12)])), (0, bk2, (.cells 41 [(sS A_tk n_tk c_tk), (sS (some q14) n_nm c_nm), (sS (some q5) n_rs c_rs)]))]⟩) (fun (k, Gq, val, ar0) => n12 - k) (0, Gd, [], arj20) ⟨Nat.zero_le _, Le.refl _, hR0, rfl⟩ rfl ?_
    rintro ⟨k, Gq, val, ar0⟩ G82 hF
    show WC _ _ _ _ _ ⟨[(40, (iN k)), (39, (iN n12)), (38, (sS A11 n12 c13)), (7, (.p 5 0)), (24, (iN r)), (23, (iN n_rs)), (22, (sS (some q5) n_rs c_rs)), (4, (.p 2 0)), (2, (.p 1 0)), (1, (.p 0 0))], [(3, (.lst z 34 arr)), (2, (.cells 24 [(.ls z 3 acc.length cap)])), (1, (.cells 24 [(sS none 0 0)]))], 6, [], [(5, bk79, (.cells 34 [(tS x17), (sS (some ⟨bk75, 0, none⟩) n12 n12)])), (0, bk2, (.cells 41 [(sS A_tk n_tk c_tk), (sS (some q14) n_nm c_nm), (sS (some q5) n_rs c_rs)]))]⟩ _
    obtain ⟨hk, hbq, hR, hval⟩ := hF
    have hleb := Le.trans hbq hR.le
    refine WC_seq (WC_region ?_)
    refine WL_execS htb 1 [41, 40, 39, 38, 7, 24, 23, 22, 4, 2, 1] [3, 2, 1] ⟨[(41, (bB (decide ((((k : Nat) : Int) : Int) < ((n12 : Nat) : Int))))), (40, (iN k)), (39, (iN n12)), (38, (sS A11 n12 c13)), (7, (.p 5 0)), (24, (iN r)), (23, (iN n_rs)), (22, (sS (some q5) n_rs c_rs)), (4, (.p 2 0)), (2, (.p 1 0)), (1, (.p 0 0))], [(3, (.lst z 34 arr)), (2, (.cells 24 [(.ls z 3 acc.length cap)])), (1, (.cells 24 [(sS none 0 0)]))], 6, [], [(5, bk79, (.cells 34 [(tS x17), (sS (some ⟨bk75, 0, none⟩) n12 n12)])), (0, bk2, (.cells 41 [(sS A_tk n_tk c_tk), (sS (some q14) n_nm c_nm), (sS (some q5) n_rs c_rs)]))]⟩ (by kernel_rfl) ?_
    refine WL_nil ?_
    refine WQ_code ?_
    refine WC_seq ?_
    refine WC_cond (b := (decide ((((k : Nat) : Int) : Int) < ((n12 : Nat) : Int)))) rfl (fun hck => ?_) (fun hck => ?_)
    ·
     replace hck := of_decide_eq_true hck
     refine WC_skip ?_
     refine WQ_code ?_
     refine WC_seq ?_
     refine WC_block ?_
     refine WC_seq (WC_region ?_)
     refine WL_execS htb 1 [42, 40, 39, 38, 7, 24, 23, 22, 4, 2, 1] [3, 2, 1] ⟨[(42, (iN k)), (40, (iN k)), (39, (iN n12)), (38, (sS A11 n12 c13)), (7, (.p 5 0)), (24, (iN r)), (23, (iN n_rs)), (22, (sS (some q5) n_rs c_rs)), (4, (.p 2 0)), (2, (.p 1 0)), (1, (.p 0 0))], [(3, (.lst z 34 arr)), (2, (.cells 24 [(.ls z 3 acc.length cap)])), (1, (.cells 24 [(sS none 0 0)]))], 6, [], [(5, bk79, (.cells 34 [(tS x17), (sS (some ⟨bk75, 0, none⟩) n12 n12)])), (0, bk2, (.cells 41 [(sS A_tk n_tk c_tk), (sS (some q14) n_nm c_nm), (sS (some q5) n_rs c_rs)]))]⟩ (by kernel_rfl) ?_
     obtain ⟨q83, rfl⟩ := hs10.ptr (by omega)
     obtain ⟨x86, _, hx84, hr87, at85⟩ := hs10.get k (by omega)
     obtain ⟨A89, n90, c91, rfl, hs88⟩ := Sl.of hr87
     replace hs88 : Sl (tInt .i64) _ A89 n90 c91 x86 := hs88
     have lhs88 := hs88.len'
     replace at85 : At Gd (q83.add (k * 1)) [.slice A89 n90 c91] := at85
     refine WL_op (WOp_idx htb q83 n12 ((k : Nat) : Int) 1 (by kernel_rfl) (by omega) (by omega) ?_)
     refine WL_op (WOp_ld htb (q83.add (k * 1)) false 1 [.slice A89 n90 c91] (by kernel_rfl) (at85.mono hleb) rfl (by decide) ?_)
     refine WL_execS htb 2 [9, 8, 40, 39, 38, 7, 24, 23, 22, 4, 2, 1] [3, 2, 1] ⟨[(9, (sS A89 n90 c91)), (8, (iN k)), (40, (iN k)), (39, (iN n12)), (38, (sS (some q83) n12 c13)), (7, (.p 5 0)), (24, (iN r)), (23, (iN n_rs)), (22, (sS (some q5) n_rs c_rs)), (4, (.p 2 0)), (2, (.p 1 0)), (1, (.p 0 0))], [(3, (.lst z 34 arr)), (2, (.cells 24 [(.ls z 3 acc.length cap)])), (1, (.cells 24 [(sS none 0 0)]))], 6, [], [(5, bk79, (.cells 34 [(tS x17), (sS (some ⟨bk75, 0, none⟩) n12 n12)])), (0, bk2, (.cells 41 [(sS A_tk n_tk c_tk), (sS (some q14) n_nm c_nm), (sS (some q5) n_rs c_rs)]))]⟩ (by kernel_rfl) ?_
     refine WL_nil ?_
     refine WQ_code ?_
     refine WC_seq (WC_region ?_)
     refine WL_execS htb 3 [47, 46, 45, 8, 40, 39, 38, 7, 24, 23, 22, 4, 2, 1] [3, 2, 1] ⟨[(47, (iI 0)), (46, (iN n90)), (45, (sS A89 n90 c91)), (8, (iN k)), (40, (iN k)), (39, (iN n12)), (38, (sS (some q83) n12 c13)), (7, (.p 5 0)), (24, (iN r)), (23, (iN n_rs)), (22, (sS (some q5) n_rs c_rs)), (4, (.p 2 0)), (2, (.p 1 0)), (1, (.p 0 0))], [(3, (.lst z 34 arr)), (2, (.cells 24 [(.ls z 3 acc.length cap)])), (1, (.cells 24 [(sS none 0 0)]))], 6, [], [(5, bk79, (.cells 34 [(tS x17), (sS (some ⟨bk75, 0, none⟩) n12 n12)])), (0, bk2, (.cells 41 [(sS A_tk n_tk c_tk), (sS (some q14) n_nm c_nm), (sS (some q5) n_rs c_rs)]))]⟩ (by kernel_rfl) ?_
     refine WL_nil ?_
     refine WQ_code ?_
     refine WC_block ?_
     have hb3 := hb2 _ (List.mem_of_getElem? hx84)
     refine WK_keep [47, 46, 45, 8, 40, 39, 38, 7, 24, 23, 22, 4, 2, 1] [3, 2, 1] rfl rfl ?_
     refine WK_env [(47, (iN 0)), (46, (iN n90)), (45, (sS A89 n90 c91)), (8, (iN k)), (40, (iN k)), (39, (iN n12)), (38, (sS (some q83) n12 c13)), (7, (.p 5 0)), (24, (iN r)), (23, (iN n_rs)), (22, (sS (some q5) n_rs c_rs)), (4, (.p 2 0)), (2, (.p 1 0)), (1, (.p 0 0))] (fun ρ => ⟨rfl, rfl, ⟨rfl, rfl, ⟨rfl, rfl, ⟨rfl, rfl, ⟨rfl, rfl, ⟨rfl, rfl, ⟨rfl, rfl, ⟨rfl, rfl, ⟨rfl, rfl, ⟨rfl, rfl, ⟨rfl, rfl, ⟨rfl, rfl, ⟨rfl, rfl, ⟨rfl, rfl, trivial⟩⟩⟩⟩⟩⟩⟩⟩⟩⟩⟩⟩⟩⟩) ?_
     refine WC_loop (ι := Nat × List ByteArray × Bool × Nat × Nat × Array Value × Array Value) (fun (j, cur, zc, bl, cp, ar, br) G92 => j ≤ n90 ∧ RowB tStr 25 9 Gq G92 bk75 n12 k val cur zc bl cp ar br ∧ mapO (symB tk nm) (x86.take j) = some cur) (fun (j, cur, zc, bl, cp, ar, br) => ⟨[(47, (iN j)), (46, (iN n90)), (45, (sS A89 n90 c91)), (8, (iN k)), (40, (iN k)), (39, (iN n12)), (38, (sS (some q83) n12 c13)), (7, (.p 5 0)), (24, (iN r)), (23, (iN n_rs)), (22, (sS (some q5) n_rs c_rs)), (4, (.p 2 0)), (2, (.p 1 0)), (1, (.p 0 0))], [(3, (.lst z 34 arr)), (2, (.cells 24 [(.ls z 3 acc.length cap)])), (1, (.cells 24 [(sS none 0 0)]))], 6, [], [(5, bk79, (.cells 34 [(tS x17), (sS (some ⟨bk75, 0, none⟩) n12 n12)])), (0, bk2, (.cells 41 [(sS A_tk n_tk c_tk), (sS (some q14) n_nm c_nm), (sS (some q5) n_rs c_rs)]))]⟩) (fun (j, cur, zc, bl, cp, ar, br) => n90 - j) (0, ([] : List ByteArray), true, 0, 0, ar0, #[]) ⟨Nat.zero_le _, hR, rfl⟩ rfl ?_
     rintro ⟨j, cur, zc, bl, cp, ar, br⟩ G92 hF
     show WC _ _ _ _ _ ⟨[(47, (iN j)), (46, (iN n90)), (45, (sS A89 n90 c91)), (8, (iN k)), (40, (iN k)), (39, (iN n12)), (38, (sS (some q83) n12 c13)), (7, (.p 5 0)), (24, (iN r)), (23, (iN n_rs)), (22, (sS (some q5) n_rs c_rs)), (4, (.p 2 0)), (2, (.p 1 0)), (1, (.p 0 0))], [(3, (.lst z 34 arr)), (2, (.cells 24 [(.ls z 3 acc.length cap)])), (1, (.cells 24 [(sS none 0 0)]))], 6, [], [(5, bk79, (.cells 34 [(tS x17), (sS (some ⟨bk75, 0, none⟩) n12 n12)])), (0, bk2, (.cells 41 [(sS A_tk n_tk c_tk), (sS (some q14) n_nm c_nm), (sS (some q5) n_rs c_rs)]))]⟩ _
     obtain ⟨hj, hR, hcur⟩ := hF
     have hleb := Le.trans hbq hR.le
     have hcl := mapO_len hcur
     rw [List.length_take] at hcl
     refine WC_seq (WC_region ?_)
     refine WL_execS htb 1 [48, 47, 46, 45, 8, 40, 39, 38, 7, 24, 23, 22, 4, 2, 1] [3, 2, 1] ⟨[(48, (bB (decide ((((j : Nat) : Int) : Int) < ((n90 : Nat) : Int))))), (47, (iN j)), (46, (iN n90)), (45, (sS A89 n90 c91)), (8, (iN k)), (40, (iN k)), (39, (iN n12)), (38, (sS (some q83) n12 c13)), (7, (.p 5 0)), (24, (iN r)), (23, (iN n_rs)), (22, (sS (some q5) n_rs c_rs)), (4, (.p 2 0)), (2, (.p 1 0)), (1, (.p 0 0))], [(3, (.lst z 34 arr)), (2, (.cells 24 [(.ls z 3 acc.length cap)])), (1, (.cells 24 [(sS none 0 0)]))], 6, [], [(5, bk79, (.cells 34 [(tS x17), (sS (some ⟨bk75, 0, none⟩) n12 n12)])), (0, bk2, (.cells 41 [(sS A_tk n_tk c_tk), (sS (some q14) n_nm c_nm), (sS (some q5) n_rs c_rs)]))]⟩ (by kernel_rfl) ?_
     refine WL_nil ?_
     refine WQ_code ?_
     refine WC_seq ?_
     refine WC_cond (b := (decide ((((j : Nat) : Int) : Int) < ((n90 : Nat) : Int)))) rfl (fun hcj => ?_) (fun hcj => ?_)
     ·
      replace hcj := of_decide_eq_true hcj
      refine WC_skip ?_
      refine WQ_code ?_
      refine WC_seq ?_
      refine WC_block ?_
      refine WC_seq (WC_region ?_)
      obtain ⟨q93, rfl⟩ := hs88.ptr (by omega)
      obtain ⟨x96, _, hx94, ⟨rfl, hn97⟩, at95⟩ := hs88.get j (by omega)
      have bdhn97 : -9223372036854775808 ≤ x96 ∧ x96 ≤ 9223372036854775807 := bd_of hn97
      have nthn97 := notInt_i64 bdhn97
      replace at95 : At Gd (q93.add (j * 1)) [.int .i64 x96] := at95
      refine WL_op (WOp_idx htb q93 n90 ((j : Nat) : Int) 1 (by kernel_rfl) (by omega) (by omega) ?_)
      refine WL_op (WOp_ld htb (q93.add (j * 1)) false 1 [.int .i64 x96] (by kernel_rfl) (at95.mono hleb) rfl (by decide) ?_)
      refine WL_execS htb 1 [11, 47, 46, 45, 8, 40, 39, 38, 7, 24, 23, 22, 4, 2, 1] [3, 2, 1] ⟨[(11, (iI x96)), (47, (iN j)), (46, (iN n90)), (45, (sS (some q93) n90 c91)), (8, (iN k)), (40, (iN k)), (39, (iN n12)), (38, (sS (some q83) n12 c13)), (7, (.p 5 0)), (24, (iN r)), (23, (iN n_rs)), (22, (sS (some q5) n_rs c_rs)), (4, (.p 2 0)), (2, (.p 1 0)), (1, (.p 0 0))], [(3, (.lst z 34 arr)), (2, (.cells 24 [(.ls z 3 acc.length cap)])), (1, (.cells 24 [(sS none 0 0)]))], 6, [], [(5, bk79, (.cells 34 [(tS x17), (sS (some ⟨bk75, 0, none⟩) n12 n12)])), (0, bk2, (.cells 41 [(sS A_tk n_tk c_tk), (sS (some q14) n_nm c_nm), (sS (some q5) n_rs c_rs)]))]⟩ (by kernel_rfl) ?_
      refine WL_nil ?_
      refine WQ_code ?_
      refine WC_seq (WC_region ?_)
      refine WL_execS htb 3 [12, 11, 47, 46, 45, 8, 40, 39, 38, 7, 24, 23, 22, 4, 2, 1] [3, 2, 1] ⟨[(12, (sS A_tk n_tk c_tk)), (11, (iI x96)), (47, (iN j)), (46, (iN n90)), (45, (sS (some q93) n90 c91)), (8, (iN k)), (40, (iN k)), (39, (iN n12)), (38, (sS (some q83) n12 c13)), (7, (.p 5 0)), (24, (iN r)), (23, (iN n_rs)), (22, (sS (some q5) n_rs c_rs)), (4, (.p 2 0)), (2, (.p 1 0)), (1, (.p 0 0))], [(3, (.lst z 34 arr)), (2, (.cells 24 [(.ls z 3 acc.length cap)])), (1, (.cells 24 [(sS none 0 0)]))], 6, [], [(5, bk79, (.cells 34 [(tS x17), (sS (some ⟨bk75, 0, none⟩) n12 n12)])), (0, bk2, (.cells 41 [(sS A_tk n_tk c_tk), (sS (some q14) n_nm c_nm), (sS (some q5) n_rs c_rs)]))]⟩ (by kernel_rfl) ?_
      refine WL_nil ?_
      refine WQ_code ?_
      refine WC_seq ?_
      refine WC_seq (WC_region ?_)
      refine WL_execS htb 2 [54, 12, 11, 47, 46, 45, 8, 40, 39, 38, 7, 24, 23, 22, 4, 2, 1] [3, 2, 1] ⟨[(54, (bB (decide ((x96 : Int) < 0)))), (12, (sS A_tk n_tk c_tk)), (11, (iI x96)), (47, (iN j)), (46, (iN n90)), (45, (sS (some q93) n90 c91)), (8, (iN k)), (40, (iN k)), (39, (iN n12)), (38, (sS (some q83) n12 c13)), (7, (.p 5 0)), (24, (iN r)), (23, (iN n_rs)), (22, (sS (some q5) n_rs c_rs)), (4, (.p 2 0)), (2, (.p 1 0)), (1, (.p 0 0))], [(3, (.lst z 34 arr)), (2, (.cells 24 [(.ls z 3 acc.length cap)])), (1, (.cells 24 [(sS none 0 0)]))], 6, [], [(5, bk79, (.cells 34 [(tS x17), (sS (some ⟨bk75, 0, none⟩) n12 n12)])), (0, bk2, (.cells 41 [(sS A_tk n_tk c_tk), (sS (some q14) n_nm c_nm), (sS (some q5) n_rs c_rs)]))]⟩ (by kernel_rfl) ?_
      refine WL_nil ?_
      refine WQ_code ?_
      refine WC_cond (b := (decide ((x96 : Int) < 0))) rfl (fun hg0 => ?_) (fun hg0 => ?_)
      ·
       replace hg0 := of_decide_eq_true hg0
       refine WC_region ?_
       refine WL_execS htb 6 [11, 12, 47, 46, 45, 8, 40, 39, 38, 7, 24, 23, 22, 4, 2, 1] [3, 2, 1] ⟨[(11, (iI (notInt .i64 x96))), (12, (sS (some q14) n_nm c_nm)), (47, (iN j)), (46, (iN n90)), (45, (sS (some q93) n90 c91)), (8, (iN k)), (40, (iN k)), (39, (iN n12)), (38, (sS (some q83) n12 c13)), (7, (.p 5 0)), (24, (iN r)), (23, (iN n_rs)), (22, (sS (some q5) n_rs c_rs)), (4, (.p 2 0)), (2, (.p 1 0)), (1, (.p 0 0))], [(3, (.lst z 34 arr)), (2, (.cells 24 [(.ls z 3 acc.length cap)])), (1, (.cells 24 [(sS none 0 0)]))], 6, [], [(5, bk79, (.cells 34 [(tS x17), (sS (some ⟨bk75, 0, none⟩) n12 n12)])), (0, bk2, (.cells 41 [(sS A_tk n_tk c_tk), (sS (some q14) n_nm c_nm), (sS (some q5) n_rs c_rs)]))]⟩ (by kernel_rfl) ?_
       refine WL_nil ?_
       refine WQ_code ?_
       refine WC_seq ?_
       refine WC_seq (WC_region ?_)
       refine WL_execS htb 4 [62, 11, 12, 47, 46, 45, 8, 40, 39, 38, 7, 24, 23, 22, 4, 2, 1] [3, 2, 1] ⟨[(62, (bB (decide (((notInt .i64 x96) : Int) ≥ ((n_nm : Nat) : Int))))), (11, (iI (notInt .i64 x96))), (12, (sS (some q14) n_nm c_nm)), (47, (iN j)), (46, (iN n90)), (45, (sS (some q93) n90 c91)), (8, (iN k)), (40, (iN k)), (39, (iN n12)), (38, (sS (some q83) n12 c13)), (7, (.p 5 0)), (24, (iN r)), (23, (iN n_rs)), (22, (sS (some q5) n_rs c_rs)), (4, (.p 2 0)), (2, (.p 1 0)), (1, (.p 0 0))], [(3, (.lst z 34 arr)), (2, (.cells 24 [(.ls z 3 acc.length cap)])), (1, (.cells 24 [(sS none 0 0)]))], 6, [], [(5, bk79, (.cells 34 [(tS x17), (sS (some ⟨bk75, 0, none⟩) n12 n12)])), (0, bk2, (.cells 41 [(sS A_tk n_tk c_tk), (sS (some q14) n_nm c_nm), (sS (some q5) n_rs c_rs)]))]⟩ (by kernel_rfl) ?_
       refine WL_nil ?_
       refine WQ_code ?_
       refine WC_cond (b := (decide (((notInt .i64 x96) : Int) ≥ ((n_nm : Nat) : Int)))) rfl (fun he => ?_) (fun he => ?_)
       ·
        replace he := of_decide_eq_true he
        have hlebad := hleb
        refine WC_seq (WC_region ?_)
        refine WL_execS htb 3 [3, 2] [1] ⟨[(3, (iI 1)), (2, (.p 1 0))], [(1, (.cells 24 [(sS none 0 0)]))], 6, [], [(5, bk79, (.cells 34 [(tS x17), (sS (some ⟨bk75, 0, none⟩) n12 n12)])), (0, bk2, (.cells 41 [(sS A_tk n_tk c_tk), (sS (some q14) n_nm c_nm), (sS (some q5) n_rs c_rs)]))]⟩ (by kernel_rfl) ?_
        refine WL_nil ?_
        refine WQ_code ?_
        refine WC_ret ?_
        refine WQ_then_ret ?_
        refine WQ_blk_ret ?_
        refine WQ_then_ret ?_
        refine WQ_then_ret ?_
        refine WQ_blk_ret ?_
        refine WQ_blk_ret ?_
        refine WQ_then_ret ?_
        refine WQ_then_ret ?_
        refine WQ_blk_ret ?_
        refine WQ_then_ret ?_
        refine WQ_blk_ret ?_
        refine WQ_then_ret ?_
        refine WQ_then_ret ?_
        refine WQ_blk_ret ?_
        refine WQ_then_ret ?_
        exact WQ_done htb [(.agg [(sS none 0 0)]), (iI 1)] _ (.inl rfl) rfl (by kernel_rfl) (fun ρ w hW => ⟨[], _, _, _, 1, rfl, (Sl.none0 _ _), (by omega), (.inr ⟨back_bad hzip (mapO_none (List.mem_of_getElem? hx84) (mapO_none (List.mem_of_getElem? hx94) (symB_nonm (by omega) (by omega)))), rfl, rfl⟩)⟩)
       ·
        replace he := of_decide_eq_false he
        refine WC_skip ?_
        refine WQ_code ?_
        refine WK_keep [11, 12, 47, 46, 45, 8, 40, 39, 38, 7, 24, 23, 22, 4, 2, 1] [3, 2, 1] rfl rfl ?_
        refine WC_drawG mixed Gd ?_
        refine WD_takeL htb rfl (fun _ _ _ _ _ h => h) hleb [0, 1, 2, 3, 4, 5, 8, 9] (fuel := 8) (listed' := bts 16 831) (S' := ⟨[(73, (iI (notInt .i64 x96))), (72, (sS (some q14) n_nm c_nm)), (69, (iN k)), (68, (sS (some ⟨bk75, 0, none⟩) n12 n12)), (67, (.p 5 1)), (66, (iN k)), (65, (sS (some ⟨bk75, 0, none⟩) n12 n12)), (64, (.p 5 1)), (11, (iI (notInt .i64 x96))), (12, (sS (some q14) n_nm c_nm)), (47, (iN j)), (46, (iN n90)), (45, (sS (some q93) n90 c91)), (8, (iN k)), (40, (iN k)), (39, (iN n12)), (38, (sS (some q83) n12 c13)), (7, (.p 5 0)), (24, (iN r)), (23, (iN n_rs)), (22, (sS (some q5) n_rs c_rs)), (4, (.p 2 0)), (2, (.p 1 0)), (1, (.p 0 0))], [(3, (.lst z 34 arr)), (2, (.cells 24 [(.ls z 3 acc.length cap)])), (1, (.cells 24 [(sS none 0 0)]))], 6, [], [(5, bk79, (.cells 34 [(tS x17), (sS (some ⟨bk75, 0, none⟩) n12 n12)])), (0, bk2, (.cells 41 [(sS A_tk n_tk c_tk), (sS (some q14) n_nm c_nm), (sS (some q5) n_rs c_rs)]))]⟩) hz (by kernel_rfl) rfl ?_
        obtain ⟨x100, _, hx98, ⟨rfl, hn101⟩, at99⟩ := h_nm.get (((notInt .i64 x96) : Int).toNat) (by omega)
        replace at99 : At Gd (q14.add ((((notInt .i64 x96) : Int).toNat) * 1)) [.string x100] := at99
        refine WD_idx htb 10 (by rfl) rfl (by decide +kernel) (fun _ _ _ _ _ h => h) hleb q14 n_nm (notInt .i64 x96) 1 (by kernel_rfl) (by omega) (by omega) ?_
        refine WD_ld htb 11 (by rfl) rfl (by decide +kernel) (fun _ _ _ _ _ h => h) hleb (q14.add ((((notInt .i64 x96) : Int).toNat) * 1)) false 1 [.string x100] (by kernel_rfl) (at99.mono (Le.refl _)) rfl (by decide) ?_
        refine WD_idx htb 6 (by rfl) rfl (by decide +kernel) (fun _ _ _ _ _ h => h) hleb (⟨bk75, 0, none⟩) n12 ((k : Nat) : Int) 1 (by kernel_rfl) (by omega) (by omega) ?_
        refine WD_two 7 12 (by rfl) (by rfl) (by decide +kernel) ?_ ?_
        ·
         skip
         refine WOp_ld htb ((⟨bk75, 0, none⟩ : Addr).add (k * 1)) false 1 [(nilOr zc (.slice (some ⟨bl, 0, none⟩) cur.length cp))] (by kernel_rfl) (hR.cell' (by omega)) rfl (by decide) (WD_on hleb ?_)
         show WD _ _ _ _ _ _ _ _ _ ⟨[(71, (.v ((nilOr zc (.slice (some ⟨bl, 0, none⟩) cur.length cp))))), (70, (.v (.pointer (some ((⟨bk75, 0, none⟩ : Addr).add (k * 1)))))), (75, (tS x100)), (74, (.v (.pointer (some (q14.add ((((notInt .i64 x96) : Int).toNat) * 1)))))), (73, (iI (notInt .i64 x96))), (72, (sS (some q14) n_nm c_nm)), (69, (iN k)), (68, (sS (some ⟨bk75, 0, none⟩) n12 n12)), (67, (.p 5 1)), (66, (iN k)), (65, (sS (some ⟨bk75, 0, none⟩) n12 n12)), (64, (.p 5 1)), (11, (iI (notInt .i64 x96))), (12, (sS (some q14) n_nm c_nm)), (47, (iN j)), (46, (iN n90)), (45, (sS (some q93) n90 c91)), (8, (iN k)), (40, (iN k)), (39, (iN n12)), (38, (sS (some q83) n12 c13)), (7, (.p 5 0)), (24, (iN r)), (23, (iN n_rs)), (22, (sS (some q5) n_rs c_rs)), (4, (.p 2 0)), (2, (.p 1 0)), (1, (.p 0 0))], [(3, (.lst z 34 arr)), (2, (.cells 24 [(.ls z 3 acc.length cap)])), (1, (.cells 24 [(sS none 0 0)]))], 6, [], [(5, bk79, (.cells 34 [(tS x17), (sS (some ⟨bk75, 0, none⟩) n12 n12)])), (0, bk2, (.cells 41 [(sS A_tk n_tk c_tk), (sS (some q14) n_nm c_nm), (sS (some q5) n_rs c_rs)]))]⟩
         refine WD_one 12 (by rfl) (by decide +kernel) (WOp_step htb (S' := ⟨[(76, (.s 6 1 1)), (71, (.v ((nilOr zc (.slice (some ⟨bl, 0, none⟩) cur.length cp))))), (70, (.v (.pointer (some ((⟨bk75, 0, none⟩ : Addr).add (k * 1)))))), (75, (tS x100)), (74, (.v (.pointer (some (q14.add ((((notInt .i64 x96) : Int).toNat) * 1)))))), (73, (iI (notInt .i64 x96))), (72, (sS (some q14) n_nm c_nm)), (69, (iN k)), (68, (sS (some ⟨bk75, 0, none⟩) n12 n12)), (67, (.p 5 1)), (66, (iN k)), (65, (sS (some ⟨bk75, 0, none⟩) n12 n12)), (64, (.p 5 1)), (11, (iI (notInt .i64 x96))), (12, (sS (some q14) n_nm c_nm)), (47, (iN j)), (46, (iN n90)), (45, (sS (some q93) n90 c91)), (8, (iN k)), (40, (iN k)), (39, (iN n12)), (38, (sS (some q83) n12 c13)), (7, (.p 5 0)), (24, (iN r)), (23, (iN n_rs)), (22, (sS (some q5) n_rs c_rs)), (4, (.p 2 0)), (2, (.p 1 0)), (1, (.p 0 0))], [(6, (.cells 9 [(tS x100)])), (3, (.lst z 34 arr)), (2, (.cells 24 [(.ls z 3 acc.length cap)])), (1, (.cells 24 [(sS none 0 0)]))], 7, [], [(5, bk79, (.cells 34 [(tS x17), (sS (some ⟨bk75, 0, none⟩) n12 n12)])), (0, bk2, (.cells 41 [(sS A_tk n_tk c_tk), (sS (some q14) n_nm c_nm), (sS (some q5) n_rs c_rs)]))]⟩) (by kernel_rfl) (WD_on hleb ?_))
         have hzz1 := hz.mono hbq
         refine WK_freezeV 6 rfl rfl rfl rfl ?_
         intro bk103 G102 hle hbk103
         replace hleb := Le.trans hleb hle
         replace hR := hR.mono hle
         show WK _ _ ⟨[(76, (sS (some ⟨bk103, 0, none⟩) 1 1)), (71, (.v ((nilOr zc (.slice (some ⟨bl, 0, none⟩) cur.length cp))))), (70, (.v (.pointer (some ((⟨bk75, 0, none⟩ : Addr).add (k * 1)))))), (75, (tS x100)), (74, (.v (.pointer (some (q14.add ((((notInt .i64 x96) : Int).toNat) * 1)))))), (73, (iI (notInt .i64 x96))), (72, (sS (some q14) n_nm c_nm)), (69, (iN k)), (68, (sS (some ⟨bk75, 0, none⟩) n12 n12)), (67, (.p 5 1)), (66, (iN k)), (65, (sS (some ⟨bk75, 0, none⟩) n12 n12)), (64, (.p 5 1)), (11, (iI (notInt .i64 x96))), (12, (sS (some q14) n_nm c_nm)), (47, (iN j)), (46, (iN n90)), (45, (sS (some q93) n90 c91)), (8, (iN k)), (40, (iN k)), (39, (iN n12)), (38, (sS (some q83) n12 c13)), (7, (.p 5 0)), (24, (iN r)), (23, (iN n_rs)), (22, (sS (some q5) n_rs c_rs)), (4, (.p 2 0)), (2, (.p 1 0)), (1, (.p 0 0))], [(3, (.lst z 34 arr)), (2, (.cells 24 [(.ls z 3 acc.length cap)])), (1, (.cells 24 [(sS none 0 0)]))], 7, [], [(5, bk79, (.cells 34 [(tS x17), (sS (some ⟨bk75, 0, none⟩) n12 n12)])), (0, bk2, (.cells 41 [(sS A_tk n_tk c_tk), (sS (some q14) n_nm c_nm), (sS (some q5) n_rs c_rs)]))]⟩ _
         have hs104 : Sl tStr G102 (some ⟨bk103, 0, none⟩) 1 1 [x100] := Sl.lit (cs := [.string x100]) (RepsL.cons' (rep_str _ (x := x100) hn101) .nil) hbk103 rfl (by unfold big; omega)
         have lhs104 := hs104.len'
         refine WD_one 13 (by rfl) (by decide +kernel) (WOp_appendG htb (nilOr zc (.slice (some ⟨bl, 0, none⟩) cur.length cp)) (some ⟨bk103, 0, none⟩) 1 9 1 16 (by kernel_rfl) zc bl cp (fun hzz => ⟨(hR.blk hzz).1, none_ofE (Le.trans hle0 hbq) (hR.blk hzz).2.1, hzz1.ne (hR.blk hzz).2.1⟩) tStr (xs := cur) (ys := [x100]) rfl (hR.own.mono hR.le) hR.nil hs104.row rfl (by simp) rfl (by decide) (by simp only [List.length_cons, List.length_nil]; omega) (by unfold big; simp only [List.length_cons, List.length_nil]; omega) (fun bl' ar' cp' hbb hoo => (WD_on (Le.trans hbq (hR.le' hbb _)) ?_)))
         show WD _ _ _ _ _ _ _ _ _ ⟨[(77, (sS (some ⟨bl', 0, none⟩) ((cur ++ [x100]).length) cp')), (76, (sS (some ⟨bk103, 0, none⟩) 1 1)), (71, (.v ((nilOr zc (.slice (some ⟨bl, 0, none⟩) cur.length cp))))), (70, (.v (.pointer (some ((⟨bk75, 0, none⟩ : Addr).add (k * 1)))))), (75, (tS x100)), (74, (.v (.pointer (some (q14.add ((((notInt .i64 x96) : Int).toNat) * 1)))))), (73, (iI (notInt .i64 x96))), (72, (sS (some q14) n_nm c_nm)), (69, (iN k)), (68, (sS (some ⟨bk75, 0, none⟩) n12 n12)), (67, (.p 5 1)), (66, (iN k)), (65, (sS (some ⟨bk75, 0, none⟩) n12 n12)), (64, (.p 5 1)), (11, (iI (notInt .i64 x96))), (12, (sS (some q14) n_nm c_nm)), (47, (iN j)), (46, (iN n90)), (45, (sS (some q93) n90 c91)), (8, (iN k)), (40, (iN k)), (39, (iN n12)), (38, (sS (some q83) n12 c13)), (7, (.p 5 0)), (24, (iN r)), (23, (iN n_rs)), (22, (sS (some q5) n_rs c_rs)), (4, (.p 2 0)), (2, (.p 1 0)), (1, (.p 0 0))], [(3, (.lst z 34 arr)), (2, (.cells 24 [(.ls z 3 acc.length cap)])), (1, (.cells 24 [(sS none 0 0)]))], 7, [], [(5, bk79, (.cells 34 [(tS x17), (sS (some ⟨bk75, 0, none⟩) n12 n12)])), (0, bk2, (.cells 41 [(sS A_tk n_tk c_tk), (sS (some q14) n_nm c_nm), (sS (some q5) n_rs c_rs)]))]⟩
         refine WD_idx htb 14 (by rfl) rfl (by decide +kernel) (fun _ _ _ _ _ h => h) (Le.trans hbq (hR.le' hbb _)) (⟨bk75, 0, none⟩) n12 ((k : Nat) : Int) 1 (by kernel_rfl) (by omega) (by omega) ?_
         have hR2 := hR.put (by omega) hbb hoo (fun H h => h.anyS) rfl
         refine WD_one 15 (by rfl) (by decide +kernel) (WOp_stoG htb ((⟨bk75, 0, none⟩ : Addr).add (k * 1)) [(sS (some ⟨bl', 0, none⟩) ((cur ++ [x100]).length) cp')] [.slice (some ⟨bl', 0, none⟩) (cur ++ [x100]).length cp'] (by kernel_rfl) (fun ρ => rfl) (off := k) (by simp [add_lit']) (hR.row' hbb _) (none_ofE (Le.trans hle0 hbq) hR.new0) (hzz1.ne hR.new0) (by have := hR.sz; show k + 1 ≤ ar.size; omega) (WD_on (Le.trans hbq hR2.le) ?_))
         refine WD_done (by decide +kernel) ?_
         refine WK_keep [47, 46, 45, 8, 40, 39, 38, 7, 24, 23, 22, 4, 2, 1] [3, 2, 1] rfl rfl ?_
         refine WQ_blk ?_
         refine WQ_code ?_
         refine WC_region ?_
         refine WL_execS htb 2 [47, 46, 45, 8, 40, 39, 38, 7, 24, 23, 22, 4, 2, 1] [3, 2, 1] ⟨[(47, (iI (IntKind.i64.wrap (((j : Nat) : Int) + 1)))), (46, (iN n90)), (45, (sS (some q93) n90 c91)), (8, (iN k)), (40, (iN k)), (39, (iN n12)), (38, (sS (some q83) n12 c13)), (7, (.p 5 0)), (24, (iN r)), (23, (iN n_rs)), (22, (sS (some q5) n_rs c_rs)), (4, (.p 2 0)), (2, (.p 1 0)), (1, (.p 0 0))], [(3, (.lst z 34 arr)), (2, (.cells 24 [(.ls z 3 acc.length cap)])), (1, (.cells 24 [(sS none 0 0)]))], 7, [], [(5, bk79, (.cells 34 [(tS x17), (sS (some ⟨bk75, 0, none⟩) n12 n12)])), (0, bk2, (.cells 41 [(sS A_tk n_tk c_tk), (sS (some q14) n_nm c_nm), (sS (some q5) n_rs c_rs)]))]⟩ (by kernel_rfl) ?_
         refine WL_nil ?_
         refine WK_env [(47, (iN (j + 1))), (46, (iN n90)), (45, (sS (some q93) n90 c91)), (8, (iN k)), (40, (iN k)), (39, (iN n12)), (38, (sS (some q83) n12 c13)), (7, (.p 5 0)), (24, (iN r)), (23, (iN n_rs)), (22, (sS (some q5) n_rs c_rs)), (4, (.p 2 0)), (2, (.p 1 0)), (1, (.p 0 0))] (fun ρ => ⟨rfl, (congrArg (Value.int .i64) (by rw [wrap_id (by omega)]; first | rfl | omega)), ⟨rfl, rfl, ⟨rfl, rfl, ⟨rfl, rfl, ⟨rfl, rfl, ⟨rfl, rfl, ⟨rfl, rfl, ⟨rfl, rfl, ⟨rfl, rfl, ⟨rfl, rfl, ⟨rfl, rfl, ⟨rfl, rfl, ⟨rfl, rfl, ⟨rfl, rfl, trivial⟩⟩⟩⟩⟩⟩⟩⟩⟩⟩⟩⟩⟩⟩) ?_
         refine WK_keep [47, 46, 45, 8, 40, 39, 38, 7, 24, 23, 22, 4, 2, 1] [3, 2, 1] rfl rfl ?_
         exact WQ_next ((j + 1), (cur ++ [x100]), false, bl', cp', _, _) (by show n90 - (j + 1) < n90 - j; omega) ⟨by omega, hR2, (by rw [take_succ' hx94]; exact mapO_snoc hcur (symB_nm' (by omega) (by omega) hx98))⟩ (fun ρ a w h => h)
        ·
         skip
         refine WOp_step htb (S' := ⟨[(76, (.s 6 1 1)), (70, (.v (.pointer (some ((⟨bk75, 0, none⟩ : Addr).add (k * 1)))))), (75, (tS x100)), (74, (.v (.pointer (some (q14.add ((((notInt .i64 x96) : Int).toNat) * 1)))))), (73, (iI (notInt .i64 x96))), (72, (sS (some q14) n_nm c_nm)), (69, (iN k)), (68, (sS (some ⟨bk75, 0, none⟩) n12 n12)), (67, (.p 5 1)), (66, (iN k)), (65, (sS (some ⟨bk75, 0, none⟩) n12 n12)), (64, (.p 5 1)), (11, (iI (notInt .i64 x96))), (12, (sS (some q14) n_nm c_nm)), (47, (iN j)), (46, (iN n90)), (45, (sS (some q93) n90 c91)), (8, (iN k)), (40, (iN k)), (39, (iN n12)), (38, (sS (some q83) n12 c13)), (7, (.p 5 0)), (24, (iN r)), (23, (iN n_rs)), (22, (sS (some q5) n_rs c_rs)), (4, (.p 2 0)), (2, (.p 1 0)), (1, (.p 0 0))], [(6, (.cells 9 [(tS x100)])), (3, (.lst z 34 arr)), (2, (.cells 24 [(.ls z 3 acc.length cap)])), (1, (.cells 24 [(sS none 0 0)]))], 7, [], [(5, bk79, (.cells 34 [(tS x17), (sS (some ⟨bk75, 0, none⟩) n12 n12)])), (0, bk2, (.cells 41 [(sS A_tk n_tk c_tk), (sS (some q14) n_nm c_nm), (sS (some q5) n_rs c_rs)]))]⟩) (by kernel_rfl) (WD_on hleb ?_)
         refine WD_one 7 (by rfl) (by decide +kernel) (WOp_ld htb ((⟨bk75, 0, none⟩ : Addr).add (k * 1)) false 1 [(nilOr zc (.slice (some ⟨bl, 0, none⟩) cur.length cp))] (by kernel_rfl) (hR.cell' (by omega)) rfl (by decide) (WD_on hleb ?_))
         show WD _ _ _ _ _ _ _ _ _ ⟨[(71, (.v ((nilOr zc (.slice (some ⟨bl, 0, none⟩) cur.length cp))))), (76, (.s 6 1 1)), (70, (.v (.pointer (some ((⟨bk75, 0, none⟩ : Addr).add (k * 1)))))), (75, (tS x100)), (74, (.v (.pointer (some (q14.add ((((notInt .i64 x96) : Int).toNat) * 1)))))), (73, (iI (notInt .i64 x96))), (72, (sS (some q14) n_nm c_nm)), (69, (iN k)), (68, (sS (some ⟨bk75, 0, none⟩) n12 n12)), (67, (.p 5 1)), (66, (iN k)), (65, (sS (some ⟨bk75, 0, none⟩) n12 n12)), (64, (.p 5 1)), (11, (iI (notInt .i64 x96))), (12, (sS (some q14) n_nm c_nm)), (47, (iN j)), (46, (iN n90)), (45, (sS (some q93) n90 c91)), (8, (iN k)), (40, (iN k)), (39, (iN n12)), (38, (sS (some q83) n12 c13)), (7, (.p 5 0)), (24, (iN r)), (23, (iN n_rs)), (22, (sS (some q5) n_rs c_rs)), (4, (.p 2 0)), (2, (.p 1 0)), (1, (.p 0 0))], [(6, (.cells 9 [(tS x100)])), (3, (.lst z 34 arr)), (2, (.cells 24 [(.ls z 3 acc.length cap)])), (1, (.cells 24 [(sS none 0 0)]))], 7, [], [(5, bk79, (.cells 34 [(tS x17), (sS (some ⟨bk75, 0, none⟩) n12 n12)])), (0, bk2, (.cells 41 [(sS A_tk n_tk c_tk), (sS (some q14) n_nm c_nm), (sS (some q5) n_rs c_rs)]))]⟩
         have hzz1 := hz.mono hbq
         refine WK_freezeV 6 rfl rfl rfl rfl ?_
         intro bk103 G102 hle hbk103
         replace hleb := Le.trans hleb hle
         replace hR := hR.mono hle
         show WK _ _ ⟨[(71, (.v ((nilOr zc (.slice (some ⟨bl, 0, none⟩) cur.length cp))))), (76, (sS (some ⟨bk103, 0, none⟩) 1 1)), (70, (.v (.pointer (some ((⟨bk75, 0, none⟩ : Addr).add (k * 1)))))), (75, (tS x100)), (74, (.v (.pointer (some (q14.add ((((notInt .i64 x96) : Int).toNat) * 1)))))), (73, (iI (notInt .i64 x96))), (72, (sS (some q14) n_nm c_nm)), (69, (iN k)), (68, (sS (some ⟨bk75, 0, none⟩) n12 n12)), (67, (.p 5 1)), (66, (iN k)), (65, (sS (some ⟨bk75, 0, none⟩) n12 n12)), (64, (.p 5 1)), (11, (iI (notInt .i64 x96))), (12, (sS (some q14) n_nm c_nm)), (47, (iN j)), (46, (iN n90)), (45, (sS (some q93) n90 c91)), (8, (iN k)), (40, (iN k)), (39, (iN n12)), (38, (sS (some q83) n12 c13)), (7, (.p 5 0)), (24, (iN r)), (23, (iN n_rs)), (22, (sS (some q5) n_rs c_rs)), (4, (.p 2 0)), (2, (.p 1 0)), (1, (.p 0 0))], [(3, (.lst z 34 arr)), (2, (.cells 24 [(.ls z 3 acc.length cap)])), (1, (.cells 24 [(sS none 0 0)]))], 7, [], [(5, bk79, (.cells 34 [(tS x17), (sS (some ⟨bk75, 0, none⟩) n12 n12)])), (0, bk2, (.cells 41 [(sS A_tk n_tk c_tk), (sS (some q14) n_nm c_nm), (sS (some q5) n_rs c_rs)]))]⟩ _
         have hs104 : Sl tStr G102 (some ⟨bk103, 0, none⟩) 1 1 [x100] := Sl.lit (cs := [.string x100]) (RepsL.cons' (rep_str _ (x := x100) hn101) .nil) hbk103 rfl (by unfold big; omega)
         have lhs104 := hs104.len'
         refine WD_one 13 (by rfl) (by decide +kernel) (WOp_appendG htb (nilOr zc (.slice (some ⟨bl, 0, none⟩) cur.length cp)) (some ⟨bk103, 0, none⟩) 1 9 1 16 (by kernel_rfl) zc bl cp (fun hzz => ⟨(hR.blk hzz).1, none_ofE (Le.trans hle0 hbq) (hR.blk hzz).2.1, hzz1.ne (hR.blk hzz).2.1⟩) tStr (xs := cur) (ys := [x100]) rfl (hR.own.mono hR.le) hR.nil hs104.row rfl (by simp) rfl (by decide) (by simp only [List.length_cons, List.length_nil]; omega) (by unfold big; simp only [List.length_cons, List.length_nil]; omega) (fun bl' ar' cp' hbb hoo => (WD_on (Le.trans hbq (hR.le' hbb _)) ?_)))
         show WD _ _ _ _ _ _ _ _ _ ⟨[(77, (sS (some ⟨bl', 0, none⟩) ((cur ++ [x100]).length) cp')), (71, (.v ((nilOr zc (.slice (some ⟨bl, 0, none⟩) cur.length cp))))), (76, (sS (some ⟨bk103, 0, none⟩) 1 1)), (70, (.v (.pointer (some ((⟨bk75, 0, none⟩ : Addr).add (k * 1)))))), (75, (tS x100)), (74, (.v (.pointer (some (q14.add ((((notInt .i64 x96) : Int).toNat) * 1)))))), (73, (iI (notInt .i64 x96))), (72, (sS (some q14) n_nm c_nm)), (69, (iN k)), (68, (sS (some ⟨bk75, 0, none⟩) n12 n12)), (67, (.p 5 1)), (66, (iN k)), (65, (sS (some ⟨bk75, 0, none⟩) n12 n12)), (64, (.p 5 1)), (11, (iI (notInt .i64 x96))), (12, (sS (some q14) n_nm c_nm)), (47, (iN j)), (46, (iN n90)), (45, (sS (some q93) n90 c91)), (8, (iN k)), (40, (iN k)), (39, (iN n12)), (38, (sS (some q83) n12 c13)), (7, (.p 5 0)), (24, (iN r)), (23, (iN n_rs)), (22, (sS (some q5) n_rs c_rs)), (4, (.p 2 0)), (2, (.p 1 0)), (1, (.p 0 0))], [(3, (.lst z 34 arr)), (2, (.cells 24 [(.ls z 3 acc.length cap)])), (1, (.cells 24 [(sS none 0 0)]))], 7, [], [(5, bk79, (.cells 34 [(tS x17), (sS (some ⟨bk75, 0, none⟩) n12 n12)])), (0, bk2, (.cells 41 [(sS A_tk n_tk c_tk), (sS (some q14) n_nm c_nm), (sS (some q5) n_rs c_rs)]))]⟩
         refine WD_idx htb 14 (by rfl) rfl (by decide +kernel) (fun _ _ _ _ _ h => h) (Le.trans hbq (hR.le' hbb _)) (⟨bk75, 0, none⟩) n12 ((k : Nat) : Int) 1 (by kernel_rfl) (by omega) (by omega) ?_
         have hR2 := hR.put (by omega) hbb hoo (fun H h => h.anyS) rfl
         refine WD_one 15 (by rfl) (by decide +kernel) (WOp_stoG htb ((⟨bk75, 0, none⟩ : Addr).add (k * 1)) [(sS (some ⟨bl', 0, none⟩) ((cur ++ [x100]).length) cp')] [.slice (some ⟨bl', 0, none⟩) (cur ++ [x100]).length cp'] (by kernel_rfl) (fun ρ => rfl) (off := k) (by simp [add_lit']) (hR.row' hbb _) (none_ofE (Le.trans hle0 hbq) hR.new0) (hzz1.ne hR.new0) (by have := hR.sz; show k + 1 ≤ ar.size; omega) (WD_on (Le.trans hbq hR2.le) ?_))
         refine WD_done (by decide +kernel) ?_
         refine WK_keep [47, 46, 45, 8, 40, 39, 38, 7, 24, 23, 22, 4, 2, 1] [3, 2, 1] rfl rfl ?_
         refine WQ_blk ?_
         refine WQ_code ?_
         refine WC_region ?_
         refine WL_execS htb 2 [47, 46, 45, 8, 40, 39, 38, 7, 24, 23, 22, 4, 2, 1] [3, 2, 1] ⟨[(47, (iI (IntKind.i64.wrap (((j : Nat) : Int) + 1)))), (46, (iN n90)), (45, (sS (some q93) n90 c91)), (8, (iN k)), (40, (iN k)), (39, (iN n12)), (38, (sS (some q83) n12 c13)), (7, (.p 5 0)), (24, (iN r)), (23, (iN n_rs)), (22, (sS (some q5) n_rs c_rs)), (4, (.p 2 0)), (2, (.p 1 0)), (1, (.p 0 0))], [(3, (.lst z 34 arr)), (2, (.cells 24 [(.ls z 3 acc.length cap)])), (1, (.cells 24 [(sS none 0 0)]))], 7, [], [(5, bk79, (.cells 34 [(tS x17), (sS (some ⟨bk75, 0, none⟩) n12 n12)])), (0, bk2, (.cells 41 [(sS A_tk n_tk c_tk), (sS (some q14) n_nm c_nm), (sS (some q5) n_rs c_rs)]))]⟩ (by kernel_rfl) ?_
         refine WL_nil ?_
         refine WK_env [(47, (iN (j + 1))), (46, (iN n90)), (45, (sS (some q93) n90 c91)), (8, (iN k)), (40, (iN k)), (39, (iN n12)), (38, (sS (some q83) n12 c13)), (7, (.p 5 0)), (24, (iN r)), (23, (iN n_rs)), (22, (sS (some q5) n_rs c_rs)), (4, (.p 2 0)), (2, (.p 1 0)), (1, (.p 0 0))] (fun ρ => ⟨rfl, (congrArg (Value.int .i64) (by rw [wrap_id (by omega)]; first | rfl | omega)), ⟨rfl, rfl, ⟨rfl, rfl, ⟨rfl, rfl, ⟨rfl, rfl, ⟨rfl, rfl, ⟨rfl, rfl, ⟨rfl, rfl, ⟨rfl, rfl, ⟨rfl, rfl, ⟨rfl, rfl, ⟨rfl, rfl, ⟨rfl, rfl, ⟨rfl, rfl, trivial⟩⟩⟩⟩⟩⟩⟩⟩⟩⟩⟩⟩⟩⟩) ?_
         refine WK_keep [47, 46, 45, 8, 40, 39, 38, 7, 24, 23, 22, 4, 2, 1] [3, 2, 1] rfl rfl ?_
         exact WQ_next ((j + 1), (cur ++ [x100]), false, bl', cp', _, _) (by show n90 - (j + 1) < n90 - j; omega) ⟨by omega, hR2, (by rw [take_succ' hx94]; exact mapO_snoc hcur (symB_nm' (by omega) (by omega) hx98))⟩ (fun ρ a w h => h)
      ·
       replace hg0 := of_decide_eq_false hg0
       refine WC_skip ?_
       refine WQ_code ?_
       refine WC_seq ?_
       refine WC_seq (WC_region ?_)
       refine WL_execS htb 4 [62, 12, 11, 47, 46, 45, 8, 40, 39, 38, 7, 24, 23, 22, 4, 2, 1] [3, 2, 1] ⟨[(62, (bB (decide ((x96 : Int) ≥ ((n_tk : Nat) : Int))))), (12, (sS A_tk n_tk c_tk)), (11, (iI x96)), (47, (iN j)), (46, (iN n90)), (45, (sS (some q93) n90 c91)), (8, (iN k)), (40, (iN k)), (39, (iN n12)), (38, (sS (some q83) n12 c13)), (7, (.p 5 0)), (24, (iN r)), (23, (iN n_rs)), (22, (sS (some q5) n_rs c_rs)), (4, (.p 2 0)), (2, (.p 1 0)), (1, (.p 0 0))], [(3, (.lst z 34 arr)), (2, (.cells 24 [(.ls z 3 acc.length cap)])), (1, (.cells 24 [(sS none 0 0)]))], 6, [], [(5, bk79, (.cells 34 [(tS x17), (sS (some ⟨bk75, 0, none⟩) n12 n12)])), (0, bk2, (.cells 41 [(sS A_tk n_tk c_tk), (sS (some q14) n_nm c_nm), (sS (some q5) n_rs c_rs)]))]⟩ (by kernel_rfl) ?_
       refine WL_nil ?_
       refine WQ_code ?_
       refine WC_cond (b := (decide ((x96 : Int) ≥ ((n_tk : Nat) : Int)))) rfl (fun he => ?_) (fun he => ?_)
       ·
        replace he := of_decide_eq_true he
        have hlebad := hleb
        refine WC_seq (WC_region ?_)
        refine WL_execS htb 3 [3, 2] [1] ⟨[(3, (iI 1)), (2, (.p 1 0))], [(1, (.cells 24 [(sS none 0 0)]))], 6, [], [(5, bk79, (.cells 34 [(tS x17), (sS (some ⟨bk75, 0, none⟩) n12 n12)])), (0, bk2, (.cells 41 [(sS A_tk n_tk c_tk), (sS (some q14) n_nm c_nm), (sS (some q5) n_rs c_rs)]))]⟩ (by kernel_rfl) ?_
        refine WL_nil ?_
        refine WQ_code ?_
        refine WC_ret ?_
        refine WQ_then_ret ?_
        refine WQ_blk_ret ?_
        refine WQ_then_ret ?_
        refine WQ_then_ret ?_
        refine WQ_blk_ret ?_
        refine WQ_blk_ret ?_
        refine WQ_then_ret ?_
        refine WQ_then_ret ?_
        refine WQ_blk_ret ?_
        refine WQ_then_ret ?_
        refine WQ_blk_ret ?_
        refine WQ_then_ret ?_
        refine WQ_then_ret ?_
        refine WQ_blk_ret ?_
        refine WQ_then_ret ?_
        exact WQ_done htb [(.agg [(sS none 0 0)]), (iI 1)] _ (.inl rfl) rfl (by kernel_rfl) (fun ρ w hW => ⟨[], _, _, _, 1, rfl, (Sl.none0 _ _), (by omega), (.inr ⟨back_bad hzip (mapO_none (List.mem_of_getElem? hx84) (mapO_none (List.mem_of_getElem? hx94) (symB_notk (by omega) (by omega)))), rfl, rfl⟩)⟩)
       ·
        replace he := of_decide_eq_false he
        refine WC_skip ?_
        refine WQ_code ?_
        refine WK_keep [12, 11, 47, 46, 45, 8, 40, 39, 38, 7, 24, 23, 22, 4, 2, 1] [3, 2, 1] rfl rfl ?_
        refine WC_drawG mixed Gd ?_
        refine WD_takeL htb rfl (fun _ _ _ _ _ h => h) hleb [0, 1, 2, 3, 4, 5, 8, 9] (fuel := 8) (listed' := bts 16 831) (S' := ⟨[(73, (iI x96)), (72, (sS A_tk n_tk c_tk)), (69, (iN k)), (68, (sS (some ⟨bk75, 0, none⟩) n12 n12)), (67, (.p 5 1)), (66, (iN k)), (65, (sS (some ⟨bk75, 0, none⟩) n12 n12)), (64, (.p 5 1)), (12, (sS A_tk n_tk c_tk)), (11, (iI x96)), (47, (iN j)), (46, (iN n90)), (45, (sS (some q93) n90 c91)), (8, (iN k)), (40, (iN k)), (39, (iN n12)), (38, (sS (some q83) n12 c13)), (7, (.p 5 0)), (24, (iN r)), (23, (iN n_rs)), (22, (sS (some q5) n_rs c_rs)), (4, (.p 2 0)), (2, (.p 1 0)), (1, (.p 0 0))], [(3, (.lst z 34 arr)), (2, (.cells 24 [(.ls z 3 acc.length cap)])), (1, (.cells 24 [(sS none 0 0)]))], 6, [], [(5, bk79, (.cells 34 [(tS x17), (sS (some ⟨bk75, 0, none⟩) n12 n12)])), (0, bk2, (.cells 41 [(sS A_tk n_tk c_tk), (sS (some q14) n_nm c_nm), (sS (some q5) n_rs c_rs)]))]⟩) hz (by kernel_rfl) rfl ?_
        obtain ⟨q98, rfl⟩ := h_tk.ptr (by omega)
        obtain ⟨x101, _, hx99, ⟨rfl, hn102⟩, at100⟩ := h_tk.get ((x96 : Int).toNat) (by omega)
        replace at100 : At Gd (q98.add (((x96 : Int).toNat) * 1)) [.string x101] := at100
        refine WD_idx htb 10 (by rfl) rfl (by decide +kernel) (fun _ _ _ _ _ h => h) hleb q98 n_tk x96 1 (by kernel_rfl) (by omega) (by omega) ?_
        refine WD_ld htb 11 (by rfl) rfl (by decide +kernel) (fun _ _ _ _ _ h => h) hleb (q98.add (((x96 : Int).toNat) * 1)) false 1 [.string x101] (by kernel_rfl) (at100.mono (Le.refl _)) rfl (by decide) ?_
        refine WD_idx htb 6 (by rfl) rfl (by decide +kernel) (fun _ _ _ _ _ h => h) hleb (⟨bk75, 0, none⟩) n12 ((k : Nat) : Int) 1 (by kernel_rfl) (by omega) (by omega) ?_
        refine WD_two 7 12 (by rfl) (by rfl) (by decide +kernel) ?_ ?_
        ·
         skip
         refine WOp_ld htb ((⟨bk75, 0, none⟩ : Addr).add (k * 1)) false 1 [(nilOr zc (.slice (some ⟨bl, 0, none⟩) cur.length cp))] (by kernel_rfl) (hR.cell' (by omega)) rfl (by decide) (WD_on hleb ?_)
         show WD _ _ _ _ _ _ _ _ _ ⟨[(71, (.v ((nilOr zc (.slice (some ⟨bl, 0, none⟩) cur.length cp))))), (70, (.v (.pointer (some ((⟨bk75, 0, none⟩ : Addr).add (k * 1)))))), (75, (tS x101)), (74, (.v (.pointer (some (q98.add (((x96 : Int).toNat) * 1)))))), (73, (iI x96)), (72, (sS (some q98) n_tk c_tk)), (69, (iN k)), (68, (sS (some ⟨bk75, 0, none⟩) n12 n12)), (67, (.p 5 1)), (66, (iN k)), (65, (sS (some ⟨bk75, 0, none⟩) n12 n12)), (64, (.p 5 1)), (12, (sS (some q98) n_tk c_tk)), (11, (iI x96)), (47, (iN j)), (46, (iN n90)), (45, (sS (some q93) n90 c91)), (8, (iN k)), (40, (iN k)), (39, (iN n12)), (38, (sS (some q83) n12 c13)), (7, (.p 5 0)), (24, (iN r)), (23, (iN n_rs)), (22, (sS (some q5) n_rs c_rs)), (4, (.p 2 0)), (2, (.p 1 0)), (1, (.p 0 0))], [(3, (.lst z 34 arr)), (2, (.cells 24 [(.ls z 3 acc.length cap)])), (1, (.cells 24 [(sS none 0 0)]))], 6, [], [(5, bk79, (.cells 34 [(tS x17), (sS (some ⟨bk75, 0, none⟩) n12 n12)])), (0, bk2, (.cells 41 [(sS (some q98) n_tk c_tk), (sS (some q14) n_nm c_nm), (sS (some q5) n_rs c_rs)]))]⟩
         refine WD_one 12 (by rfl) (by decide +kernel) (WOp_step htb (S' := ⟨[(76, (.s 6 1 1)), (71, (.v ((nilOr zc (.slice (some ⟨bl, 0, none⟩) cur.length cp))))), (70, (.v (.pointer (some ((⟨bk75, 0, none⟩ : Addr).add (k * 1)))))), (75, (tS x101)), (74, (.v (.pointer (some (q98.add (((x96 : Int).toNat) * 1)))))), (73, (iI x96)), (72, (sS (some q98) n_tk c_tk)), (69, (iN k)), (68, (sS (some ⟨bk75, 0, none⟩) n12 n12)), (67, (.p 5 1)), (66, (iN k)), (65, (sS (some ⟨bk75, 0, none⟩) n12 n12)), (64, (.p 5 1)), (12, (sS (some q98) n_tk c_tk)), (11, (iI x96)), (47, (iN j)), (46, (iN n90)), (45, (sS (some q93) n90 c91)), (8, (iN k)), (40, (iN k)), (39, (iN n12)), (38, (sS (some q83) n12 c13)), (7, (.p 5 0)), (24, (iN r)), (23, (iN n_rs)), (22, (sS (some q5) n_rs c_rs)), (4, (.p 2 0)), (2, (.p 1 0)), (1, (.p 0 0))], [(6, (.cells 9 [(tS x101)])), (3, (.lst z 34 arr)), (2, (.cells 24 [(.ls z 3 acc.length cap)])), (1, (.cells 24 [(sS none 0 0)]))], 7, [], [(5, bk79, (.cells 34 [(tS x17), (sS (some ⟨bk75, 0, none⟩) n12 n12)])), (0, bk2, (.cells 41 [(sS (some q98) n_tk c_tk), (sS (some q14) n_nm c_nm), (sS (some q5) n_rs c_rs)]))]⟩) (by kernel_rfl) (WD_on hleb ?_))
         have hzz1 := hz.mono hbq
         refine WK_freezeV 6 rfl rfl rfl rfl ?_
         intro bk104 G103 hle hbk104
         replace hleb := Le.trans hleb hle
         replace hR := hR.mono hle
         show WK _ _ ⟨[(76, (sS (some ⟨bk104, 0, none⟩) 1 1)), (71, (.v ((nilOr zc (.slice (some ⟨bl, 0, none⟩) cur.length cp))))), (70, (.v (.pointer (some ((⟨bk75, 0, none⟩ : Addr).add (k * 1)))))), (75, (tS x101)), (74, (.v (.pointer (some (q98.add (((x96 : Int).toNat) * 1)))))), (73, (iI x96)), (72, (sS (some q98) n_tk c_tk)), (69, (iN k)), (68, (sS (some ⟨bk75, 0, none⟩) n12 n12)), (67, (.p 5 1)), (66, (iN k)), (65, (sS (some ⟨bk75, 0, none⟩) n12 n12)), (64, (.p 5 1)), (12, (sS (some q98) n_tk c_tk)), (11, (iI x96)), (47, (iN j)), (46, (iN n90)), (45, (sS (some q93) n90 c91)), (8, (iN k)), (40, (iN k)), (39, (iN n12)), (38, (sS (some q83) n12 c13)), (7, (.p 5 0)), (24, (iN r)), (23, (iN n_rs)), (22, (sS (some q5) n_rs c_rs)), (4, (.p 2 0)), (2, (.p 1 0)), (1, (.p 0 0))], [(3, (.lst z 34 arr)), (2, (.cells 24 [(.ls z 3 acc.length cap)])), (1, (.cells 24 [(sS none 0 0)]))], 7, [], [(5, bk79, (.cells 34 [(tS x17), (sS (some ⟨bk75, 0, none⟩) n12 n12)])), (0, bk2, (.cells 41 [(sS (some q98) n_tk c_tk), (sS (some q14) n_nm c_nm), (sS (some q5) n_rs c_rs)]))]⟩ _
         have hs105 : Sl tStr G103 (some ⟨bk104, 0, none⟩) 1 1 [x101] := Sl.lit (cs := [.string x101]) (RepsL.cons' (rep_str _ (x := x101) hn102) .nil) hbk104 rfl (by unfold big; omega)
         have lhs105 := hs105.len'
         refine WD_one 13 (by rfl) (by decide +kernel) (WOp_appendG htb (nilOr zc (.slice (some ⟨bl, 0, none⟩) cur.length cp)) (some ⟨bk104, 0, none⟩) 1 9 1 16 (by kernel_rfl) zc bl cp (fun hzz => ⟨(hR.blk hzz).1, none_ofE (Le.trans hle0 hbq) (hR.blk hzz).2.1, hzz1.ne (hR.blk hzz).2.1⟩) tStr (xs := cur) (ys := [x101]) rfl (hR.own.mono hR.le) hR.nil hs105.row rfl (by simp) rfl (by decide) (by simp only [List.length_cons, List.length_nil]; omega) (by unfold big; simp only [List.length_cons, List.length_nil]; omega) (fun bl' ar' cp' hbb hoo => (WD_on (Le.trans hbq (hR.le' hbb _)) ?_)))
         show WD _ _ _ _ _ _ _ _ _ ⟨[(77, (sS (some ⟨bl', 0, none⟩) ((cur ++ [x101]).length) cp')), (76, (sS (some ⟨bk104, 0, none⟩) 1 1)), (71, (.v ((nilOr zc (.slice (some ⟨bl, 0, none⟩) cur.length cp))))), (70, (.v (.pointer (some ((⟨bk75, 0, none⟩ : Addr).add (k * 1)))))), (75, (tS x101)), (74, (.v (.pointer (some (q98.add (((x96 : Int).toNat) * 1)))))), (73, (iI x96)), (72, (sS (some q98) n_tk c_tk)), (69, (iN k)), (68, (sS (some ⟨bk75, 0, none⟩) n12 n12)), (67, (.p 5 1)), (66, (iN k)), (65, (sS (some ⟨bk75, 0, none⟩) n12 n12)), (64, (.p 5 1)), (12, (sS (some q98) n_tk c_tk)), (11, (iI x96)), (47, (iN j)), (46, (iN n90)), (45, (sS (some q93) n90 c91)), (8, (iN k)), (40, (iN k)), (39, (iN n12)), (38, (sS (some q83) n12 c13)), (7, (.p 5 0)), (24, (iN r)), (23, (iN n_rs)), (22, (sS (some q5) n_rs c_rs)), (4, (.p 2 0)), (2, (.p 1 0)), (1, (.p 0 0))], [(3, (.lst z 34 arr)), (2, (.cells 24 [(.ls z 3 acc.length cap)])), (1, (.cells 24 [(sS none 0 0)]))], 7, [], [(5, bk79, (.cells 34 [(tS x17), (sS (some ⟨bk75, 0, none⟩) n12 n12)])), (0, bk2, (.cells 41 [(sS (some q98) n_tk c_tk), (sS (some q14) n_nm c_nm), (sS (some q5) n_rs c_rs)]))]⟩
         refine WD_idx htb 14 (by rfl) rfl (by decide +kernel) (fun _ _ _ _ _ h => h) (Le.trans hbq (hR.le' hbb _)) (⟨bk75, 0, none⟩) n12 ((k : Nat) : Int) 1 (by kernel_rfl) (by omega) (by omega) ?_
         have hR2 := hR.put (by omega) hbb hoo (fun H h => h.anyS) rfl
         refine WD_one 15 (by rfl) (by decide +kernel) (WOp_stoG htb ((⟨bk75, 0, none⟩ : Addr).add (k * 1)) [(sS (some ⟨bl', 0, none⟩) ((cur ++ [x101]).length) cp')] [.slice (some ⟨bl', 0, none⟩) (cur ++ [x101]).length cp'] (by kernel_rfl) (fun ρ => rfl) (off := k) (by simp [add_lit']) (hR.row' hbb _) (none_ofE (Le.trans hle0 hbq) hR.new0) (hzz1.ne hR.new0) (by have := hR.sz; show k + 1 ≤ ar.size; omega) (WD_on (Le.trans hbq hR2.le) ?_))
         refine WD_done (by decide +kernel) ?_
         refine WK_keep [47, 46, 45, 8, 40, 39, 38, 7, 24, 23, 22, 4, 2, 1] [3, 2, 1] rfl rfl ?_
         refine WQ_blk ?_
         refine WQ_code ?_
         refine WC_region ?_
         refine WL_execS htb 2 [47, 46, 45, 8, 40, 39, 38, 7, 24, 23, 22, 4, 2, 1] [3, 2, 1] ⟨[(47, (iI (IntKind.i64.wrap (((j : Nat) : Int) + 1)))), (46, (iN n90)), (45, (sS (some q93) n90 c91)), (8, (iN k)), (40, (iN k)), (39, (iN n12)), (38, (sS (some q83) n12 c13)), (7, (.p 5 0)), (24, (iN r)), (23, (iN n_rs)), (22, (sS (some q5) n_rs c_rs)), (4, (.p 2 0)), (2, (.p 1 0)), (1, (.p 0 0))], [(3, (.lst z 34 arr)), (2, (.cells 24 [(.ls z 3 acc.length cap)])), (1, (.cells 24 [(sS none 0 0)]))], 7, [], [(5, bk79, (.cells 34 [(tS x17), (sS (some ⟨bk75, 0, none⟩) n12 n12)])), (0, bk2, (.cells 41 [(sS (some q98) n_tk c_tk), (sS (some q14) n_nm c_nm), (sS (some q5) n_rs c_rs)]))]⟩ (by kernel_rfl) ?_
         refine WL_nil ?_
         refine WK_env [(47, (iN (j + 1))), (46, (iN n90)), (45, (sS (some q93) n90 c91)), (8, (iN k)), (40, (iN k)), (39, (iN n12)), (38, (sS (some q83) n12 c13)), (7, (.p 5 0)), (24, (iN r)), (23, (iN n_rs)), (22, (sS (some q5) n_rs c_rs)), (4, (.p 2 0)), (2, (.p 1 0)), (1, (.p 0 0))] (fun ρ => ⟨rfl, (congrArg (Value.int .i64) (by rw [wrap_id (by omega)]; first | rfl | omega)), ⟨rfl, rfl, ⟨rfl, rfl, ⟨rfl, rfl, ⟨rfl, rfl, ⟨rfl, rfl, ⟨rfl, rfl, ⟨rfl, rfl, ⟨rfl, rfl, ⟨rfl, rfl, ⟨rfl, rfl, ⟨rfl, rfl, ⟨rfl, rfl, ⟨rfl, rfl, trivial⟩⟩⟩⟩⟩⟩⟩⟩⟩⟩⟩⟩⟩⟩) ?_
         refine WK_keep [47, 46, 45, 8, 40, 39, 38, 7, 24, 23, 22, 4, 2, 1] [3, 2, 1] rfl rfl ?_
         exact WQ_next ((j + 1), (cur ++ [x101]), false, bl', cp', _, _) (by show n90 - (j + 1) < n90 - j; omega) ⟨by omega, hR2, (by rw [take_succ' hx94]; exact mapO_snoc hcur (symB_tk (by omega) hx99))⟩ (fun ρ a w h => h)
        ·
         skip
         refine WOp_step htb (S' := ⟨[(76, (.s 6 1 1)), (70, (.v (.pointer (some ((⟨bk75, 0, none⟩ : Addr).add (k * 1)))))), (75, (tS x101)), (74, (.v (.pointer (some (q98.add (((x96 : Int).toNat) * 1)))))), (73, (iI x96)), (72, (sS (some q98) n_tk c_tk)), (69, (iN k)), (68, (sS (some ⟨bk75, 0, none⟩) n12 n12)), (67, (.p 5 1)), (66, (iN k)), (65, (sS (some ⟨bk75, 0, none⟩) n12 n12)), (64, (.p 5 1)), (12, (sS (some q98) n_tk c_tk)), (11, (iI x96)), (47, (iN j)), (46, (iN n90)), (45, (sS (some q93) n90 c91)), (8, (iN k)), (40, (iN k)), (39, (iN n12)), (38, (sS (some q83) n12 c13)), (7, (.p 5 0)), (24, (iN r)), (23, (iN n_rs)), (22, (sS (some q5) n_rs c_rs)), (4, (.p 2 0)), (2, (.p 1 0)), (1, (.p 0 0))], [(6, (.cells 9 [(tS x101)])), (3, (.lst z 34 arr)), (2, (.cells 24 [(.ls z 3 acc.length cap)])), (1, (.cells 24 [(sS none 0 0)]))], 7, [], [(5, bk79, (.cells 34 [(tS x17), (sS (some ⟨bk75, 0, none⟩) n12 n12)])), (0, bk2, (.cells 41 [(sS (some q98) n_tk c_tk), (sS (some q14) n_nm c_nm), (sS (some q5) n_rs c_rs)]))]⟩) (by kernel_rfl) (WD_on hleb ?_)
         refine WD_one 7 (by rfl) (by decide +kernel) (WOp_ld htb ((⟨bk75, 0, none⟩ : Addr).add (k * 1)) false 1 [(nilOr zc (.slice (some ⟨bl, 0, none⟩) cur.length cp))] (by kernel_rfl) (hR.cell' (by omega)) rfl (by decide) (WD_on hleb ?_))
         show WD _ _ _ _ _ _ _ _ _ ⟨[(71, (.v ((nilOr zc (.slice (some ⟨bl, 0, none⟩) cur.length cp))))), (76, (.s 6 1 1)), (70, (.v (.pointer (some ((⟨bk75, 0, none⟩ : Addr).add (k * 1)))))), (75, (tS x101)), (74, (.v (.pointer (some (q98.add (((x96 : Int).toNat) * 1)))))), (73, (iI x96)), (72, (sS (some q98) n_tk c_tk)), (69, (iN k)), (68, (sS (some ⟨bk75, 0, none⟩) n12 n12)), (67, (.p 5 1)), (66, (iN k)), (65, (sS (some ⟨bk75, 0, none⟩) n12 n12)), (64, (.p 5 1)), (12, (sS (some q98) n_tk c_tk)), (11, (iI x96)), (47, (iN j)), (46, (iN n90)), (45, (sS (some q93) n90 c91)), (8, (iN k)), (40, (iN k)), (39, (iN n12)), (38, (sS (some q83) n12 c13)), (7, (.p 5 0)), (24, (iN r)), (23, (iN n_rs)), (22, (sS (some q5) n_rs c_rs)), (4, (.p 2 0)), (2, (.p 1 0)), (1, (.p 0 0))], [(6, (.cells 9 [(tS x101)])), (3, (.lst z 34 arr)), (2, (.cells 24 [(.ls z 3 acc.length cap)])), (1, (.cells 24 [(sS none 0 0)]))], 7, [], [(5, bk79, (.cells 34 [(tS x17), (sS (some ⟨bk75, 0, none⟩) n12 n12)])), (0, bk2, (.cells 41 [(sS (some q98) n_tk c_tk), (sS (some q14) n_nm c_nm), (sS (some q5) n_rs c_rs)]))]⟩
         have hzz1 := hz.mono hbq
         refine WK_freezeV 6 rfl rfl rfl rfl ?_
         intro bk104 G103 hle hbk104
         replace hleb := Le.trans hleb hle
         replace hR := hR.mono hle
         show WK _ _ ⟨[(71, (.v ((nilOr zc (.slice (some ⟨bl, 0, none⟩) cur.length cp))))), (76, (sS (some ⟨bk104, 0, none⟩) 1 1)), (70, (.v (.pointer (some ((⟨bk75, 0, none⟩ : Addr).add (k * 1)))))), (75, (tS x101)), (74, (.v (.pointer (some (q98.add (((x96 : Int).toNat) * 1)))))), (73, (iI x96)), (72, (sS (some q98) n_tk c_tk)), (69, (iN k)), (68, (sS (some ⟨bk75, 0, none⟩) n12 n12)), (67, (.p 5 1)), (66, (iN k)), (65, (sS (some ⟨bk75, 0, none⟩) n12 n12)), (64, (.p 5 1)), (12, (sS (some q98) n_tk c_tk)), (11, (iI x96)), (47, (iN j)), (46, (iN n90)), (45, (sS (some q93) n90 c91)), (8, (iN k)), (40, (iN k)), (39, (iN n12)), (38, (sS (some q83) n12 c13)), (7, (.p 5 0)), (24, (iN r)), (23, (iN n_rs)), (22, (sS (some q5) n_rs c_rs)), (4, (.p 2 0)), (2, (.p 1 0)), (1, (.p 0 0))], [(3, (.lst z 34 arr)), (2, (.cells 24 [(.ls z 3 acc.length cap)])), (1, (.cells 24 [(sS none 0 0)]))], 7, [], [(5, bk79, (.cells 34 [(tS x17), (sS (some ⟨bk75, 0, none⟩) n12 n12)])), (0, bk2, (.cells 41 [(sS (some q98) n_tk c_tk), (sS (some q14) n_nm c_nm), (sS (some q5) n_rs c_rs)]))]⟩ _
         have hs105 : Sl tStr G103 (some ⟨bk104, 0, none⟩) 1 1 [x101] := Sl.lit (cs := [.string x101]) (RepsL.cons' (rep_str _ (x := x101) hn102) .nil) hbk104 rfl (by unfold big; omega)
         have lhs105 := hs105.len'
         refine WD_one 13 (by rfl) (by decide +kernel) (WOp_appendG htb (nilOr zc (.slice (some ⟨bl, 0, none⟩) cur.length cp)) (some ⟨bk104, 0, none⟩) 1 9 1 16 (by kernel_rfl) zc bl cp (fun hzz => ⟨(hR.blk hzz).1, none_ofE (Le.trans hle0 hbq) (hR.blk hzz).2.1, hzz1.ne (hR.blk hzz).2.1⟩) tStr (xs := cur) (ys := [x101]) rfl (hR.own.mono hR.le) hR.nil hs105.row rfl (by simp) rfl (by decide) (by simp only [List.length_cons, List.length_nil]; omega) (by unfold big; simp only [List.length_cons, List.length_nil]; omega) (fun bl' ar' cp' hbb hoo => (WD_on (Le.trans hbq (hR.le' hbb _)) ?_)))
         show WD _ _ _ _ _ _ _ _ _ ⟨[(77, (sS (some ⟨bl', 0, none⟩) ((cur ++ [x101]).length) cp')), (71, (.v ((nilOr zc (.slice (some ⟨bl, 0, none⟩) cur.length cp))))), (76, (sS (some ⟨bk104, 0, none⟩) 1 1)), (70, (.v (.pointer (some ((⟨bk75, 0, none⟩ : Addr).add (k * 1)))))), (75, (tS x101)), (74, (.v (.pointer (some (q98.add (((x96 : Int).toNat) * 1)))))), (73, (iI x96)), (72, (sS (some q98) n_tk c_tk)), (69, (iN k)), (68, (sS (some ⟨bk75, 0, none⟩) n12 n12)), (67, (.p 5 1)), (66, (iN k)), (65, (sS (some ⟨bk75, 0, none⟩) n12 n12)), (64, (.p 5 1)), (12, (sS (some q98) n_tk c_tk)), (11, (iI x96)), (47, (iN j)), (46, (iN n90)), (45, (sS (some q93) n90 c91)), (8, (iN k)), (40, (iN k)), (39, (iN n12)), (38, (sS (some q83) n12 c13)), (7, (.p 5 0)), (24, (iN r)), (23, (iN n_rs)), (22, (sS (some q5) n_rs c_rs)), (4, (.p 2 0)), (2, (.p 1 0)), (1, (.p 0 0))], [(3, (.lst z 34 arr)), (2, (.cells 24 [(.ls z 3 acc.length cap)])), (1, (.cells 24 [(sS none 0 0)]))], 7, [], [(5, bk79, (.cells 34 [(tS x17), (sS (some ⟨bk75, 0, none⟩) n12 n12)])), (0, bk2, (.cells 41 [(sS (some q98) n_tk c_tk), (sS (some q14) n_nm c_nm), (sS (some q5) n_rs c_rs)]))]⟩
         refine WD_idx htb 14 (by rfl) rfl (by decide +kernel) (fun _ _ _ _ _ h => h) (Le.trans hbq (hR.le' hbb _)) (⟨bk75, 0, none⟩) n12 ((k : Nat) : Int) 1 (by kernel_rfl) (by omega) (by omega) ?_
         have hR2 := hR.put (by omega) hbb hoo (fun H h => h.anyS) rfl
         refine WD_one 15 (by rfl) (by decide +kernel) (WOp_stoG htb ((⟨bk75, 0, none⟩ : Addr).add (k * 1)) [(sS (some ⟨bl', 0, none⟩) ((cur ++ [x101]).length) cp')] [.slice (some ⟨bl', 0, none⟩) (cur ++ [x101]).length cp'] (by kernel_rfl) (fun ρ => rfl) (off := k) (by simp [add_lit']) (hR.row' hbb _) (none_ofE (Le.trans hle0 hbq) hR.new0) (hzz1.ne hR.new0) (by have := hR.sz; show k + 1 ≤ ar.size; omega) (WD_on (Le.trans hbq hR2.le) ?_))
         refine WD_done (by decide +kernel) ?_
         refine WK_keep [47, 46, 45, 8, 40, 39, 38, 7, 24, 23, 22, 4, 2, 1] [3, 2, 1] rfl rfl ?_
         refine WQ_blk ?_
         refine WQ_code ?_
         refine WC_region ?_
         refine WL_execS htb 2 [47, 46, 45, 8, 40, 39, 38, 7, 24, 23, 22, 4, 2, 1] [3, 2, 1] ⟨[(47, (iI (IntKind.i64.wrap (((j : Nat) : Int) + 1)))), (46, (iN n90)), (45, (sS (some q93) n90 c91)), (8, (iN k)), (40, (iN k)), (39, (iN n12)), (38, (sS (some q83) n12 c13)), (7, (.p 5 0)), (24, (iN r)), (23, (iN n_rs)), (22, (sS (some q5) n_rs c_rs)), (4, (.p 2 0)), (2, (.p 1 0)), (1, (.p 0 0))], [(3, (.lst z 34 arr)), (2, (.cells 24 [(.ls z 3 acc.length cap)])), (1, (.cells 24 [(sS none 0 0)]))], 7, [], [(5, bk79, (.cells 34 [(tS x17), (sS (some ⟨bk75, 0, none⟩) n12 n12)])), (0, bk2, (.cells 41 [(sS (some q98) n_tk c_tk), (sS (some q14) n_nm c_nm), (sS (some q5) n_rs c_rs)]))]⟩ (by kernel_rfl) ?_
         refine WL_nil ?_
         refine WK_env [(47, (iN (j + 1))), (46, (iN n90)), (45, (sS (some q93) n90 c91)), (8, (iN k)), (40, (iN k)), (39, (iN n12)), (38, (sS (some q83) n12 c13)), (7, (.p 5 0)), (24, (iN r)), (23, (iN n_rs)), (22, (sS (some q5) n_rs c_rs)), (4, (.p 2 0)), (2, (.p 1 0)), (1, (.p 0 0))] (fun ρ => ⟨rfl, (congrArg (Value.int .i64) (by rw [wrap_id (by omega)]; first | rfl | omega)), ⟨rfl, rfl, ⟨rfl, rfl, ⟨rfl, rfl, ⟨rfl, rfl, ⟨rfl, rfl, ⟨rfl, rfl, ⟨rfl, rfl, ⟨rfl, rfl, ⟨rfl, rfl, ⟨rfl, rfl, ⟨rfl, rfl, ⟨rfl, rfl, ⟨rfl, rfl, trivial⟩⟩⟩⟩⟩⟩⟩⟩⟩⟩⟩⟩⟩⟩) ?_
         refine WK_keep [47, 46, 45, 8, 40, 39, 38, 7, 24, 23, 22, 4, 2, 1] [3, 2, 1] rfl rfl ?_
         exact WQ_next ((j + 1), (cur ++ [x101]), false, bl', cp', _, _) (by show n90 - (j + 1) < n90 - j; omega) ⟨by omega, hR2, (by rw [take_succ' hx94]; exact mapO_snoc hcur (symB_tk (by omega) hx99))⟩ (fun ρ a w h => h)
     ·
      replace hcj := of_decide_eq_false hcj
      refine WC_exit ?_
      refine WQ_then_exit ?_
      refine WQ_then_exit ?_
      refine WQ_hit ?_
      refine WQ_blk ?_
      refine WQ_code ?_
      refine WC_region ?_
      refine WL_execS htb 2 [40, 39, 38, 7, 24, 23, 22, 4, 2, 1] [3, 2, 1] ⟨[(40, (iI (IntKind.i64.wrap (((k : Nat) : Int) + 1)))), (39, (iN n12)), (38, (sS (some q83) n12 c13)), (7, (.p 5 0)), (24, (iN r)), (23, (iN n_rs)), (22, (sS (some q5) n_rs c_rs)), (4, (.p 2 0)), (2, (.p 1 0)), (1, (.p 0 0))], [(3, (.lst z 34 arr)), (2, (.cells 24 [(.ls z 3 acc.length cap)])), (1, (.cells 24 [(sS none 0 0)]))], 6, [], [(5, bk79, (.cells 34 [(tS x17), (sS (some ⟨bk75, 0, none⟩) n12 n12)])), (0, bk2, (.cells 41 [(sS A_tk n_tk c_tk), (sS (some q14) n_nm c_nm), (sS (some q5) n_rs c_rs)]))]⟩ (by kernel_rfl) ?_
      refine WL_nil ?_
      have hta : x86.take j = x86 := List.take_of_length_le (by omega)
      rw [hta] at hcur
      obtain ⟨Gq', hq', hR'⟩ := hR.next (by omega)
      refine WK_env [(40, (iN (k + 1))), (39, (iN n12)), (38, (sS (some q83) n12 c13)), (7, (.p 5 0)), (24, (iN r)), (23, (iN n_rs)), (22, (sS (some q5) n_rs c_rs)), (4, (.p 2 0)), (2, (.p 1 0)), (1, (.p 0 0))] (fun ρ => ⟨rfl, (congrArg (Value.int .i64) (by rw [wrap_id (by omega)]; first | rfl | omega)), ⟨rfl, rfl, ⟨rfl, rfl, ⟨rfl, rfl, ⟨rfl, rfl, ⟨rfl, rfl, ⟨rfl, rfl, ⟨rfl, rfl, ⟨rfl, rfl, ⟨rfl, rfl, trivial⟩⟩⟩⟩⟩⟩⟩⟩⟩⟩) ?_
      refine WK_keep [40, 39, 38, 7, 24, 23, 22, 4, 2, 1] [3, 2, 1] rfl rfl ?_
      exact WQ_next ((k + 1), Gq', (val ++ [cur]), ar) (by show n12 - (k + 1) < n12 - k; omega) ⟨by omega, Le.trans hbq hq', hR', (by rw [take_succ' hx84]; exact mapO_snoc hval hcur)⟩ (fun ρ a w h => h)
    ·
     replace hck := of_decide_eq_false hck
     have hta : x8.take k = x8 := List.take_of_length_le (by omega)
     rw [hta] at hval
     obtain ⟨Gf, hqf, hfG, hRow⟩ := hR.fin (by omega) (by unfold big; omega)
     replace hRow := hRow.mono hfG
     have lRow := hRow.len'
     replace h_tk := h_tk.mono hleb
     replace h_nm := h_nm.mono hleb
     replace h_rs := h_rs.mono hleb
     replace hs10 := hs10.mono hleb
     replace at16 := at16.mono hleb
     replace hz := hz.mono hleb
     replace ho := ho.mono hleb
     replace hc4 := Le.trans hc4 hleb
     replace hcL19 := Le.trans hcL19 hleb
     refine WC_exit ?_
     refine WQ_then_exit ?_
     refine WQ_then_exit ?_
     refine WQ_hit ?_
     refine WQ_code ?_
     refine WC_region ?_
     refine WL_execS htb 4 [84, 82, 24, 23, 22, 4, 2, 1] [6, 3, 2, 1] ⟨[(84, (.s 6 1 1)), (82, (.ls z 3 acc.length cap)), (24, (iN r)), (23, (iN n_rs)), (22, (sS (some q5) n_rs c_rs)), (4, (.p 2 0)), (2, (.p 1 0)), (1, (.p 0 0))], [(6, (.cells 34 [(tS x17), (sS (some ⟨bk75, 0, none⟩) n12 n12)])), (3, (.lst z 34 arr)), (2, (.cells 24 [(.ls z 3 acc.length cap)])), (1, (.cells 24 [(sS none 0 0)]))], 7, [], [(5, bk79, (.cells 34 [(tS x17), (sS (some ⟨bk75, 0, none⟩) n12 n12)])), (0, bk2, (.cells 41 [(sS A_tk n_tk c_tk), (sS (some q14) n_nm c_nm), (sS (some q5) n_rs c_rs)]))]⟩ (by kernel_rfl) ?_
     refine WK_freezeV 6 rfl rfl rfl rfl ?_
     intro bk84 G83 hle hbk84
     replace hc4 := Le.trans hc4 hle
     replace hcL19 := Le.trans hcL19 hle
     replace h_tk := h_tk.mono hle
     replace h_nm := h_nm.mono hle
     replace h_rs := h_rs.mono hle
     replace hRow := hRow.mono hle
     replace hz := hz.mono hle
     replace ho := ho.mono hle
     show WK _ _ ⟨[(84, (sS (some ⟨bk84, 0, none⟩) 1 1)), (82, (.ls z 3 acc.length cap)), (24, (iN r)), (23, (iN n_rs)), (22, (sS (some q5) n_rs c_rs)), (4, (.p 2 0)), (2, (.p 1 0)), (1, (.p 0 0))], [(3, (.lst z 34 arr)), (2, (.cells 24 [(.ls z 3 acc.length cap)])), (1, (.cells 24 [(sS none 0 0)]))], 7, [], [(5, bk79, (.cells 34 [(tS x17), (sS (some ⟨bk75, 0, none⟩) n12 n12)])), (0, bk2, (.cells 41 [(sS A_tk n_tk c_tk), (sS (some q14) n_nm c_nm), (sS (some q5) n_rs c_rs)]))]⟩ _
     have hs85 : Sl (tPair tStr (tSlice (tSlice tStr))) G83 (some ⟨bk84, 0, none⟩) 1 1 [(x17, val)] := Sl.lit (cs := [.string x17, .slice (some ⟨bk75, 0, none⟩) n12 n12]) (RepsL.cons' (rep_pair (rep_str _ (x := x17) hn18) hRow.reps) .nil) hbk84 rfl (by unfold big; omega)
     have lhs85 := hs85.len'
     refine WL_op (WOp_append htb z 3 acc.length cap (some ⟨bk84, 0, none⟩) 1 34 2 40 (by kernel_rfl) (by kernel_rfl) rfl rfl (tPair tStr (tSlice (tSlice tStr))) (xs := acc) (ys := [(x17, val)]) ho rfl hz0 hs85.row hs85.len rfl (by decide) (by simp only [List.length_append, List.length_cons, List.length_nil]; omega) (by unfold big; simp only [List.length_append, List.length_cons, List.length_nil]; omega) (fun z86 arr87 cap88 hz89 ho90 => ?_))
     show WL _ _ _ _ _ _ ⟨[(85, (.ls z86 7 ((acc ++ ([(x17, val)])).length) cap88)), (84, (sS (some ⟨bk84, 0, none⟩) 1 1)), (82, (.ls z 3 acc.length cap)), (24, (iN r)), (23, (iN n_rs)), (22, (sS (some q5) n_rs c_rs)), (4, (.p 2 0)), (2, (.p 1 0)), (1, (.p 0 0))], [(7, (.lst z86 34 arr87)), (2, (.cells 24 [(.ls z 3 acc.length cap)])), (1, (.cells 24 [(sS none 0 0)]))], 8, [], [(5, bk79, (.cells 34 [(tS x17), (sS (some ⟨bk75, 0, none⟩) n12 n12)])), (0, bk2, (.cells 41 [(sS A_tk n_tk c_tk), (sS (some q14) n_nm c_nm), (sS (some q5) n_rs c_rs)]))]⟩ _
     refine WL_execS htb 2 [24, 23, 22, 4, 2, 1] [7, 2, 1] ⟨[(24, (iN r)), (23, (iN n_rs)), (22, (sS (some q5) n_rs c_rs)), (4, (.p 2 0)), (2, (.p 1 0)), (1, (.p 0 0))], [(7, (.lst z86 34 arr87)), (2, (.cells 24 [(.ls z86 7 ((acc ++ ([(x17, val)])).length) cap88)])), (1, (.cells 24 [(sS none 0 0)]))], 8, [], [(5, bk79, (.cells 34 [(tS x17), (sS (some ⟨bk75, 0, none⟩) n12 n12)])), (0, bk2, (.cells 41 [(sS A_tk n_tk c_tk), (sS (some q14) n_nm c_nm), (sS (some q5) n_rs c_rs)]))]⟩ (by kernel_rfl) ?_
     refine WL_nil ?_
     refine WQ_blk ?_
     refine WQ_code ?_
     refine WC_region ?_
     refine WL_execS htb 2 [24, 23, 22, 4, 2, 1] [7, 2, 1] ⟨[(24, (iI (IntKind.i64.wrap (((r : Nat) : Int) + 1)))), (23, (iN n_rs)), (22, (sS (some q5) n_rs c_rs)), (4, (.p 2 0)), (2, (.p 1 0)), (1, (.p 0 0))], [(7, (.lst z86 34 arr87)), (2, (.cells 24 [(.ls z86 7 ((acc ++ ([(x17, val)])).length) cap88)])), (1, (.cells 24 [(sS none 0 0)]))], 8, [], [(5, bk79, (.cells 34 [(tS x17), (sS (some ⟨bk75, 0, none⟩) n12 n12)])), (0, bk2, (.cells 41 [(sS A_tk n_tk c_tk), (sS (some q14) n_nm c_nm), (sS (some q5) n_rs c_rs)]))]⟩ (by kernel_rfl) ?_
     refine WL_nil ?_
     refine WK_env [(24, (iN (r + 1))), (23, (iN n_rs)), (22, (sS (some q5) n_rs c_rs)), (4, (.p 2 0)), (2, (.p 1 0)), (1, (.p 0 0))] (fun ρ => ⟨rfl, (congrArg (Value.int .i64) (by rw [wrap_id (by omega)]; first | rfl | omega)), ⟨rfl, rfl, ⟨rfl, rfl, ⟨rfl, rfl, ⟨rfl, rfl, ⟨rfl, rfl, trivial⟩⟩⟩⟩⟩⟩) ?_
     refine WK_dropfz 1 ?_
     show WK _ _ ⟨_, _, _, _, [(0, bk2, (.cells 41 [(sS A_tk n_tk c_tk), (sS (some q14) n_nm c_nm), (sS (some q5) n_rs c_rs)]))]⟩ _
     refine WK_keep [24, 23, 22, 4, 2, 1] [7, 2, 1] rfl rfl ?_
     exact WQ_nextR ((r + 1), (acc ++ ([(x17, val)])), z86, arr87, cap88) (by show n_rs - (r + 1) < n_rs - r; omega) ⟨hc4, ⟨by omega, by rw [take_succ' hzip]; exact mapO_snoc hacc (by show (altsB tk nm _).map _ = _; rw [show altsB tk nm x8 = _ from hval]; rfl), ho90, hz89⟩⟩ [(3, 7)] rfl rfl rfl rfl rfl rfl
   case now =>
    refine WD_two 7 9 (by rfl) (by rfl) (by decide +kernel) ?_ ?_
    ·
     skip
     refine WOp_make htb n12 25 1 24 (.slice none 0 0) (by kernel_rfl) (by rfl) (by rfl) tNil () rfl rfl (by omega) (by unfold big; omega) (fun arr133 ho134 => WD_on (Le.refl _) ?_)
     show WD _ _ _ _ _ _ _ _ _ ⟨[(36, (.ls false 4 n12 n12)), (33, (tS x17)), (32, (.v (.pointer (some (q14.add (r * 1)))))), (35, (iN n12)), (34, (sS A11 n12 c13)), (31, (iN r)), (30, (sS (some q14) n_nm c_nm)), (29, (.p 0 1)), (6, (sS A11 n12 c13)), (5, (iN r)), (24, (iN r)), (23, (iN n_rs)), (22, (sS (some q5) n_rs c_rs)), (4, (.p 2 0)), (2, (.p 1 0)), (1, (.p 0 0))], [(4, (.lst false 25 arr133)), (3, (.lst z 34 arr)), (2, (.cells 24 [(.ls z 3 acc.length cap)])), (1, (.cells 24 [(sS none 0 0)]))], 5, [], [(0, bk2, (.cells 41 [(sS A_tk n_tk c_tk), (sS (some q14) n_nm c_nm), (sS (some q5) n_rs c_rs)]))]⟩
     refine WD_takeL htb rfl (fun _ _ _ _ _ h => h) (Le.refl _) [8] (fuel := 2) (listed' := bts 11 511) (S' := ⟨[(37, (.agg [(tS x17), (.ls false 4 n12 n12)])), (36, (.ls false 4 n12 n12)), (33, (tS x17)), (32, (.v (.pointer (some (q14.add (r * 1)))))), (35, (iN n12)), (34, (sS A11 n12 c13)), (31, (iN r)), (30, (sS (some q14) n_nm c_nm)), (29, (.p 0 1)), (6, (sS A11 n12 c13)), (5, (iN r)), (24, (iN r)), (23, (iN n_rs)), (22, (sS (some q5) n_rs c_rs)), (4, (.p 2 0)), (2, (.p 1 0)), (1, (.p 0 0))], [(4, (.lst false 25 arr133)), (3, (.lst z 34 arr)), (2, (.cells 24 [(.ls z 3 acc.length cap)])), (1, (.cells 24 [(sS none 0 0)]))], 5, [], [(0, bk2, (.cells 41 [(sS A_tk n_tk c_tk), (sS (some q14) n_nm c_nm), (sS (some q5) n_rs c_rs)]))]⟩) hz (by kernel_rfl) rfl ?_
     refine WD_one 9 (by rfl) (by decide +kernel) (WOp_step htb (S' := ⟨[(7, (.p 5 0)), (37, (.agg [(tS x17), (.ls false 4 n12 n12)])), (36, (.ls false 4 n12 n12)), (33, (tS x17)), (32, (.v (.pointer (some (q14.add (r * 1)))))), (35, (iN n12)), (34, (sS A11 n12 c13)), (31, (iN r)), (30, (sS (some q14) n_nm c_nm)), (29, (.p 0 1)), (6, (sS A11 n12 c13)), (5, (iN r)), (24, (iN r)), (23, (iN n_rs)), (22, (sS (some q5) n_rs c_rs)), (4, (.p 2 0)), (2, (.p 1 0)), (1, (.p 0 0))], [(5, (.cells 34 [(tS (⟨#[]⟩)), (sS none 0 0)])), (4, (.lst false 25 arr133)), (3, (.lst z 34 arr)), (2, (.cells 24 [(.ls z 3 acc.length cap)])), (1, (.cells 24 [(sS none 0 0)]))], 6, [], [(0, bk2, (.cells 41 [(sS A_tk n_tk c_tk), (sS (some q14) n_nm c_nm), (sS (some q5) n_rs c_rs)]))]⟩) (by kernel_rfl) (WD_on (Le.refl _) ?_))
     refine WK_keep [37, 7, 36, 33, 32, 35, 34, 31, 30, 29, 6, 5, 24, 23, 22, 4, 2, 1] [5, 4, 3, 2, 1] rfl rfl ?_
     exact hK22 (arr133) G3 ⟨hcL19, ho134⟩
    ·
     skip
     refine WOp_step htb (S' := ⟨[(7, (.p 4 0)), (33, (tS x17)), (32, (.v (.pointer (some (q14.add (r * 1)))))), (35, (iN n12)), (34, (sS A11 n12 c13)), (31, (iN r)), (30, (sS (some q14) n_nm c_nm)), (29, (.p 0 1)), (6, (sS A11 n12 c13)), (5, (iN r)), (24, (iN r)), (23, (iN n_rs)), (22, (sS (some q5) n_rs c_rs)), (4, (.p 2 0)), (2, (.p 1 0)), (1, (.p 0 0))], [(4, (.cells 34 [(tS (⟨#[]⟩)), (sS none 0 0)])), (3, (.lst z 34 arr)), (2, (.cells 24 [(.ls z 3 acc.length cap)])), (1, (.cells 24 [(sS none 0 0)]))], 5, [], [(0, bk2, (.cells 41 [(sS A_tk n_tk c_tk), (sS (some q14) n_nm c_nm), (sS (some q5) n_rs c_rs)]))]⟩) (by kernel_rfl) (WD_on (Le.refl _) ?_)
     refine WD_one 7 (by rfl) (by decide +kernel) (WOp_make htb n12 25 1 24 (.slice none 0 0) (by kernel_rfl) (by rfl) (by rfl) tNil () rfl rfl (by omega) (by unfold big; omega) (fun arr133 ho134 => WD_on (Le.refl _) ?_))
     show WD _ _ _ _ _ _ _ _ _ ⟨[(36, (.ls false 5 n12 n12)), (7, (.p 4 0)), (33, (tS x17)), (32, (.v (.pointer (some (q14.add (r * 1)))))), (35, (iN n12)), (34, (sS A11 n12 c13)), (31, (iN r)), (30, (sS (some q14) n_nm c_nm)), (29, (.p 0 1)), (6, (sS A11 n12 c13)), (5, (iN r)), (24, (iN r)), (23, (iN n_rs)), (22, (sS (some q5) n_rs c_rs)), (4, (.p 2 0)), (2, (.p 1 0)), (1, (.p 0 0))], [(5, (.lst false 25 arr133)), (4, (.cells 34 [(tS (⟨#[]⟩)), (sS none 0 0)])), (3, (.lst z 34 arr)), (2, (.cells 24 [(.ls z 3 acc.length cap)])), (1, (.cells 24 [(sS none 0 0)]))], 6, [], [(0, bk2, (.cells 41 [(sS A_tk n_tk c_tk), (sS (some q14) n_nm c_nm), (sS (some q5) n_rs c_rs)]))]⟩
     refine WD_takeL htb rfl (fun _ _ _ _ _ h => h) (Le.refl _) [8] (fuel := 1) (listed' := bts 11 1023) (S' := ⟨[(37, (.agg [(tS x17), (.ls false 5 n12 n12)])), (36, (.ls false 5 n12 n12)), (7, (.p 4 0)), (33, (tS x17)), (32, (.v (.pointer (some (q14.add (r * 1)))))), (35, (iN n12)), (34, (sS A11 n12 c13)), (31, (iN r)), (30, (sS (some q14) n_nm c_nm)), (29, (.p 0 1)), (6, (sS A11 n12 c13)), (5, (iN r)), (24, (iN r)), (23, (iN n_rs)), (22, (sS (some q5) n_rs c_rs)), (4, (.p 2 0)), (2, (.p 1 0)), (1, (.p 0 0))], [(5, (.lst false 25 arr133)), (4, (.cells 34 [(tS (⟨#[]⟩)), (sS none 0 0)])), (3, (.lst z 34 arr)), (2, (.cells 24 [(.ls z 3 acc.length cap)])), (1, (.cells 24 [(sS none 0 0)]))], 6, [], [(0, bk2, (.cells 41 [(sS A_tk n_tk c_tk), (sS (some q14) n_nm c_nm), (sS (some q5) n_rs c_rs)]))]⟩) hz (by kernel_rfl) rfl ?_
     refine WK_keep [37, 7, 36, 33, 32, 35, 34, 31, 30, 29, 6, 5, 24, 23, 22, 4, 2, 1] [4, 5, 3, 2, 1] rfl rfl ?_
     refine WK_ren (T := ⟨[(37, (.agg [(tS x17), (.ls false 4 n12 n12)])), (7, (.p 5 0)), (36, (.ls false 4 n12 n12)), (33, (tS x17)), (32, (.v (.pointer (some (q14.add (r * 1)))))), (35, (iN n12)), (34, (sS A11 n12 c13)), (31, (iN r)), (30, (sS (some q14) n_nm c_nm)), (29, (.p 0 1)), (6, (sS A11 n12 c13)), (5, (iN r)), (24, (iN r)), (23, (iN n_rs)), (22, (sS (some q5) n_rs c_rs)), (4, (.p 2 0)), (2, (.p 1 0)), (1, (.p 0 0))], [(5, (.cells 34 [(tS (⟨#[]⟩)), (sS none 0 0)])), (4, (.lst false 25 arr133)), (3, (.lst z 34 arr)), (2, (.cells 24 [(.ls z 3 acc.length cap)])), (1, (.cells 24 [(sS none 0 0)]))], 6, [], [(0, bk2, (.cells 41 [(sS A_tk n_tk c_tk), (sS (some q14) n_nm c_nm), (sS (some q5) n_rs c_rs)]))]⟩) [(4, 5), (5, 4)] rfl rfl rfl rfl rfl rfl ?_
     exact hK22 (arr133) G3 ⟨hcL19, ho134⟩
  ·
   replace hc := of_decide_eq_false hc
   refine WC_exit ?_
   refine WQ_then_exit ?_
   refine WQ_then_exit ?_
   refine WQ_hit ?_
   refine WQ_code ?_
   refine WC_seq (WC_region ?_)
   refine WL_execS htb 3 [3, 2] [3, 1] ⟨[(3, (iI 0)), (2, (.p 1 0))], [(3, (.lst z 34 arr)), (1, (.cells 24 [(.ls z 3 acc.length cap)]))], 4, [], [(0, bk2, (.cells 41 [(sS A_tk n_tk c_tk), (sS A_nm n_nm c_nm), (sS A_rs n_rs c_rs)]))]⟩ (by kernel_rfl) ?_
   refine WL_nil ?_
   refine WQ_code ?_
   refine WC_ret ?_
   have hta : (nm.zip rs).take r = nm.zip rs := List.take_of_length_le (by rw [List.length_zip]; omega)
   rw [hta] at hacc
   refine WK_freezeL 3 rfl rfl ?_
   intro bk6 G5 hle hbk6
   replace hc4 := Le.trans hc4 hle
   replace h_tk := h_tk.mono hle
   replace h_nm := h_nm.mono hle
   replace h_rs := h_rs.mono hle
   replace hz := hz.mono hle
   obtain ⟨A8, n9, c10, e11, hs7⟩ := OwnL.sl (n := acc.length) ho hle hz0 hbk6 rfl
   refine WK_env [(3, (iI 0)), (2, (.p 1 0))] (fun ρ => ⟨rfl, rfl, ⟨rfl, rfl, trivial⟩⟩) ?_
   refine WK_own [(1, (.cells 24 [(sS A8 n9 c10)]))] (fun ρ => ⟨rfl, rfl, (by show SV.denL ρ [(.v (nilOr z (.slice (some ⟨bk6, 0, none⟩) acc.length cap)))] = SV.denL ρ [(sS A8 n9 c10)]; simp only [SV.den, SV.denL, e11]), trivial⟩) ?_
   have lhs7 := hs7.len'
   exact WQ_done htb [(.agg [(sS A8 n9 c10)]), (iI 0)] _ (.inl rfl) rfl (by kernel_rfl) (fun ρ w hW => ⟨acc, _, _, _, 0, rfl, hs7, (by omega), (.inl ⟨by rw [back_yes (by omega)]; exact hacc, rfl⟩)⟩)

end Go.Proofs.Ytfemkbockhpmcaa.Sym
