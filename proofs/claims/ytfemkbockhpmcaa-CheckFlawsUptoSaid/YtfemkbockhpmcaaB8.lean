/- Walks of functions that the laws of this seat reach, printed by a program of this session's. -/
import Derived.Test.YtfemkbockhpmcaaB7
import Derived.Test.YtfemkbockhpmcaaPc
set_option linter.unusedSimpArgs false
set_option linter.unusedVariables false
set_option maxHeartbeats 4000000
namespace Go.Proofs.Ytfemkbockhpmcaa.Sym
open Go Go.Proofs Go.RowKit

theorem OwnL.str' {G : Heap} {xs : List ByteArray} {arr : Array Value} {cap : Nat} (ho : OwnL tStr G xs arr cap) {i : Nat} {x : ByteArray} (hx : xs[i]? = some x) : ∀ j v, [Value.string x][j]? = some v → arr[i * 1 + j]? = some v := by
  have hi := (List.getElem?_eq_some_iff.1 hx).1
  have h := ho.str hi
  rw [hx] at h
  exact h
theorem book_get {G : Heap} {g : List Rule} {f : ByteArray → Option Value} (h : ∀ s, (idxS g s = [] ∧ f s = none) ∨ (∃ A n c, f s = some (.slice A n c) ∧ Sl (tInt .i64) G A n c (idxS g s) ∧ idxS g s ≠ [])) (s : ByteArray) : ∃ A n c, (f s).getD (.slice none 0 0) = .slice A n c ∧ Sl (tInt .i64) G A n c (idxS g s) := by
  rcases h s with ⟨h1, h2⟩ | ⟨A, n, c, h1, h2, _⟩
  · exact ⟨none, 0, 0, by rw [h2]; rfl, by rw [h1]; exact Sl.none0 _ _⟩
  · exact ⟨A, n, c, by rw [h1]; rfl, h2⟩
theorem flat_le_all {g : List Rule} {r : Rule} (h : r ∈ g) : r.2.flatten.length ≤ (allNames g).length := by
  unfold allNames
  induction g with
  | nil => cases h
  | cons x g ih =>
    rw [List.flatMap_cons, List.length_append]
    rcases List.mem_cons.1 h with rfl | h
    · omega
    · have := ih h; omega
theorem led_nil {g : List Rule} (h : g = []) {s : ByteArray} : ¬ Led g s := fun hl => by
  subst h
  induction hl with
  | first r hr => simp at hr
  | step n m _ _ ih => exact ih
theorem ledP_ok {w : World} {G : Heap} (hG : Has w G) {bk : Nat} {A : Option Addr} {n c m1 m2 : Nat} {g : List Rule} {tk : List ByteArray} (hB : Book G bk A n c m1 m2 g tk) (hgl : g.length ≤ 100000) (hal : (allNames g).length ≤ 100000) :
    Calls Try.prog 44 #[.pointer (some ⟨bk, 0, none⟩)] w (Ret w G fun v G' => ∃ mg gd, v = .map (some mg) ∧ G mg = none ∧ MapF G' mg strE (goodF gd) ∧ ∀ s, gd s = true ↔ Led g s) := by
 refine enter [(.v (.pointer (some (⟨bk, 0, none⟩ : Addr))))] 71 Try.func44 rfl rfl rfl rfl hG ?_
 have hslg := hB.sl.len'
 refine WC_seq (WC_region ?_)
 refine WL_execS htb 1 [0] [] ⟨[(0, (.v (.pointer (some (⟨bk, 0, none⟩ : Addr)))))], [], 0, [], []⟩ (by kernel_rfl) ?_
 refine WL_nil ?_
 refine WQ_code ?_
 refine WC_seq (WC_region ?_)
 refine WL_execS htb 2 [3, 0] [0] ⟨[(3, (.m 0)), (0, (.v (.pointer (some (⟨bk, 0, none⟩ : Addr)))))], [(0, (.raw (.map #[] 0)))], 1, [], []⟩ (by kernel_rfl) ?_
 refine WL_nil ?_
 refine WQ_code ?_
 refine WC_seq (WC_region ?_)
 refine WL_execS htb 1 [4, 3, 0] [0] ⟨[(4, (sS none 0 0)), (3, (.m 0)), (0, (.v (.pointer (some (⟨bk, 0, none⟩ : Addr)))))], [(0, (.raw (.map #[] 0)))], 1, [], []⟩ (by kernel_rfl) ?_
 refine WL_nil ?_
 refine WQ_code ?_
 refine WC_seq ?_
 refine WC_seq (WC_region ?_)
 refine WL_execS htb 4 [12, 4, 3, 0] [0] ⟨[(12, (.v (.pointer (some (((⟨bk, 0, none⟩ : Addr).add 0).add 0))))), (4, (sS none 0 0)), (3, (.m 0)), (0, (.v (.pointer (some (⟨bk, 0, none⟩ : Addr)))))], [(0, (.raw (.map #[] 0)))], 1, [], []⟩ (by kernel_rfl) ?_
 refine WL_op (WOp_ld htb (((⟨bk, 0, none⟩ : Addr).add 0).add 0) false 1 [.slice A n c] (by kernel_rfl) ((hB.at'.field 0 rfl).field 0 rfl) rfl (by decide) ?_)
 refine WL_execS htb 2 [15, 4, 3, 0] [0] ⟨[(15, (bB (decide ((((n : Nat) : Int) : Int) > 0)))), (4, (sS none 0 0)), (3, (.m 0)), (0, (.v (.pointer (some (⟨bk, 0, none⟩ : Addr)))))], [(0, (.raw (.map #[] 0)))], 1, [], []⟩ (by kernel_rfl) ?_
 refine WL_nil ?_
 refine WQ_code ?_
 refine WK_freezeVN 0 rfl rfl rfl rfl ?_
 intro bk2 G1 hle4 hnew3 hbk2
 show WK _ _ ⟨[(15, (bB (decide ((((n : Nat) : Int) : Int) > 0)))), (4, (sS none 0 0)), (3, (.v (.map (some bk2)))), (0, (.v (.pointer (some (⟨bk, 0, none⟩ : Addr)))))], [], 1, [], []⟩ _
 have hleb := hle4
 have hM : MapF G1 bk2 strE (goodF (fun _ => false)) := MapF.empty hbk2
 refine WC_cond (b := (decide ((((n : Nat) : Int) : Int) > 0))) rfl (fun hg0 => ?_) (fun hg0 => ?_)
 ·
  replace hg0 := of_decide_eq_true hg0
  refine WC_region ?_
  refine WL_execS htb 5 [20, 16, 3, 0] [] ⟨[(20, (.v (.pointer (some (((⟨bk, 0, none⟩ : Addr).add 0).add 0))))), (16, (sS none 0 0)), (3, (.v (.map (some bk2)))), (0, (.v (.pointer (some (⟨bk, 0, none⟩ : Addr)))))], [], 1, [], []⟩ (by kernel_rfl) ?_
  refine WL_op (WOp_ld htb (((⟨bk, 0, none⟩ : Addr).add 0).add 0) false 1 [.slice A n c] (by kernel_rfl) (((hB.at'.field 0 rfl).field 0 rfl).mono hleb) rfl (by decide) ?_)
  obtain ⟨q5, rfl⟩ := hB.sl.ptr (by omega)
  obtain ⟨⟨x8, x10⟩, _, hx6, ⟨_, _, rfl, ⟨rfl, hn9⟩, hr11⟩, at7⟩ := hB.sl.get 0 (by omega)
  obtain ⟨A13, n14, c15, rfl, hs12⟩ := Sl.of hr11
  replace hs12 : Sl (tSlice tStr) _ A13 n14 c15 x10 := hs12
  have lhs12 := hs12.len'
  replace at7 : At G (q5.add (0 * 2)) [.string x8, .slice A13 n14 c15] := at7
  refine WL_op (WOp_idx htb q5 n 0 2 (by kernel_rfl) (by omega) (by omega) ?_)
  refine WL_execS htb 1 [23, 16, 3, 0] [] ⟨[(23, (.v (.pointer (some ((q5.add (0 * 2)).add 0))))), (16, (sS none 0 0)), (3, (.v (.map (some bk2)))), (0, (.v (.pointer (some (⟨bk, 0, none⟩ : Addr)))))], [], 1, [], []⟩ (by kernel_rfl) ?_
  refine WL_op (WOp_ld htb ((q5.add (0 * 2)).add 0) false 1 [.string x8] (by kernel_rfl) ((at7.field 0 rfl).mono hleb) rfl (by decide) ?_)
  refine WL_execS htb 1 [25, 16, 3, 0] [1] ⟨[(25, (.s 1 1 1)), (16, (sS none 0 0)), (3, (.v (.map (some bk2)))), (0, (.v (.pointer (some (⟨bk, 0, none⟩ : Addr)))))], [(1, (.cells 9 [(tS x8)]))], 2, [], []⟩ (by kernel_rfl) ?_
  refine WK_freezeV 1 rfl rfl rfl rfl ?_
  intro bk17 G16 hle hbk17
  replace hleb := Le.trans hleb hle
  replace hM := hM.mono hle
  show WK _ _ ⟨[(25, (sS (some ⟨bk17, 0, none⟩) 1 1)), (16, (sS none 0 0)), (3, (.v (.map (some bk2)))), (0, (.v (.pointer (some (⟨bk, 0, none⟩ : Addr)))))], [], 2, [], []⟩ _
  have hs18 : Sl tStr G16 (some ⟨bk17, 0, none⟩) 1 1 [x8] := Sl.lit (cs := [.string x8]) (RepsL.cons' (rep_str _ (x := x8) hn9) .nil) hbk17 rfl (by unfold big; omega)
  have lhs18 := hs18.len'
  refine WK_off 9 rfl ?_
  have ho19 : OwnL tStr G16 [] #[] 0 := OwnL.nil _ _
  refine WL_op (WOp_appendN htb true 2 0 0 (some ⟨bk17, 0, none⟩) 1 9 1 16 (by kernel_rfl) (by kernel_rfl) rfl rfl tStr (xs := []) (ys := [x8]) ho19 rfl (fun _ => rfl) hs18.row hs18.len rfl (by decide) (by first | omega | (simp only [List.length_append, List.length_nil, List.length_drop, List.length_take, List.length_cons]; omega)) (by unfold big; first | omega | (simp only [List.length_append, List.length_nil, List.length_drop, List.length_take, List.length_cons]; omega)) (fun z20 arr21 cap22 hz23 ho24 => ?_))
  show WL _ _ _ _ _ _ ⟨[(26, (.ls z20 3 (([] ++ ([x8])).length) cap22)), (25, (sS (some ⟨bk17, 0, none⟩) 1 1)), (16, (sS none 0 0)), (3, (.v (.map (some bk2)))), (0, (.v (.pointer (some (⟨bk, 0, none⟩ : Addr)))))], [(3, (.lst z20 9 arr21))], 4, [], []⟩ _
  refine WL_execS htb 1 [4, 3, 0] [3] ⟨[(4, (.ls z20 3 (([] ++ ([x8])).length) cap22)), (3, (.v (.map (some bk2)))), (0, (.v (.pointer (some (⟨bk, 0, none⟩ : Addr)))))], [(3, (.lst z20 9 arr21))], 4, [], []⟩ (by kernel_rfl) ?_
  refine WL_nil ?_
  refine WQ_code ?_
  refine WC_seq ?_
  refine WC_block ?_
  refine WK_keep [4, 3, 0] [3] rfl rfl ?_
  refine WK_env [(4, (.ls z20 3 (([] ++ [x8]).length) cap22)), (3, (.v (.map (some bk2)))), (0, (.v (.pointer (some (⟨bk, 0, none⟩ : Addr)))))] (fun ρ => ⟨rfl, rfl, ⟨rfl, rfl, ⟨rfl, rfl, trivial⟩⟩⟩) ?_
  refine WC_loop (ι := (ByteArray → Bool) × List ByteArray × Bool × Array Value × Nat) (fun (gd, td, z, arr, cap) G25 => Le G G25 ∧ MapF G25 bk2 strE (goodF gd) ∧ OwnL tStr G25 td arr cap ∧ (z = true → td = []) ∧ LedI g x8 gd td ∧ ledMu g x8 gd td ≤ 20000000000) (fun (gd, td, z, arr, cap) => ⟨[(4, (.ls z 3 td.length cap)), (3, (.v (.map (some bk2)))), (0, (.v (.pointer (some (⟨bk, 0, none⟩ : Addr)))))], [(3, (.lst z 9 arr))], 4, [], []⟩) (fun (gd, td, z, arr, cap) => ledMu g x8 gd td) ((fun _ => false), ([] ++ [x8]), z20, arr21, cap22) ⟨hleb, hM, ho24, hz23, LedI.start hx6, ledMu_start hal⟩ rfl ?_
  rintro ⟨gd, td, z, arr, cap⟩ G25 hF
  show WC _ _ _ _ _ ⟨[(4, (.ls z 3 td.length cap)), (3, (.v (.map (some bk2)))), (0, (.v (.pointer (some (⟨bk, 0, none⟩ : Addr)))))], [(3, (.lst z 9 arr))], 4, [], []⟩ _
  obtain ⟨hleb, hM, ho, hzz, hI, hmu⟩ := hF
  have htdl := ledMu_len (g := g) (s0 := x8) (gd := gd) (td := td)
  rcases Bool.eq_false_or_eq_true z with rfl | rfl
  ·
   skip
   have htd := hzz rfl
   subst htd
   refine WK_env [(4, (sS none 0 0)), (3, (.v (.map (some bk2)))), (0, (.v (.pointer (some (⟨bk, 0, none⟩ : Addr)))))] (fun ρ => ⟨rfl, rfl, ⟨rfl, rfl, ⟨rfl, rfl, trivial⟩⟩⟩) ?_
   refine WK_keep [4, 3, 0] [] rfl rfl ?_
   refine WC_seq ?_
   refine WC_seq (WC_region ?_)
   refine WL_execS htb 3 [29, 4, 3, 0] [] ⟨[(29, (bB (decide ((((0 : Nat) : Int) : Int) > 0)))), (4, (sS none 0 0)), (3, (.v (.map (some bk2)))), (0, (.v (.pointer (some (⟨bk, 0, none⟩ : Addr)))))], [], 4, [], []⟩ (by kernel_rfl) ?_
   refine WL_nil ?_
   refine WQ_code ?_
   refine WC_cond (b := (decide ((((0 : Nat) : Int) : Int) > 0))) rfl (fun hn0 => ?_) (fun hn0 => ?_)
   ·
    replace hn0 := of_decide_eq_true hn0
    exfalso; omega
   ·
    replace hn0 := of_decide_eq_false hn0
    refine WC_exit ?_
    refine WQ_then_exit ?_
    refine WQ_then_exit ?_
    refine WQ_hit ?_
    refine WQ_code ?_
    refine WC_seq (WC_region ?_)
    refine WL_execS htb 2 [2] [] ⟨[(2, (.v (.map (some bk2))))], [], 4, [], []⟩ (by kernel_rfl) ?_
    refine WL_nil ?_
    refine WQ_code ?_
    refine WC_ret ?_
    exact WQ_done htb [(.v (.map (some bk2)))] _ (.inl rfl) rfl (by kernel_rfl) (fun ρ w hW => ⟨bk2, gd, rfl, hnew3, hM, hI.done hx6⟩)
  ·
   skip
   refine WC_seq ?_
   refine WC_seq (WC_region ?_)
   refine WL_execS htb 3 [29, 4, 3, 0] [3] ⟨[(29, (bB (decide ((((td.length : Nat) : Int) : Int) > 0)))), (4, (.ls false 3 td.length cap)), (3, (.v (.map (some bk2)))), (0, (.v (.pointer (some (⟨bk, 0, none⟩ : Addr)))))], [(3, (.lst false 9 arr))], 4, [], []⟩ (by kernel_rfl) ?_
   refine WL_nil ?_
   refine WQ_code ?_
   refine WC_cond (b := (decide ((((td.length : Nat) : Int) : Int) > 0))) rfl (fun hn0 => ?_) (fun hn0 => ?_)
   ·
    replace hn0 := of_decide_eq_true hn0
    refine WC_skip ?_
    refine WQ_code ?_
    refine WC_block ?_
    refine WC_seq (WC_region ?_)
    refine WL_execS htb 4 [33, 30, 4, 3, 0] [3] ⟨[(33, (iI (IntKind.i64.wrap (((td.length : Nat) : Int) - 1)))), (30, (.ls false 3 td.length cap)), (4, (.ls false 3 td.length cap)), (3, (.v (.map (some bk2)))), (0, (.v (.pointer (some (⟨bk, 0, none⟩ : Addr)))))], [(3, (.lst false 9 arr))], 4, [], []⟩ (by kernel_rfl) ?_
    obtain ⟨n0, hn0'⟩ : ∃ n0, td[td.length - 1]? = some n0 := ⟨_, List.getElem?_eq_getElem (by omega)⟩
    refine WK_env [(33, (iN (td.length - 1))), (30, (.ls false 3 td.length cap)), (4, (.ls false 3 td.length cap)), (3, (.v (.map (some bk2)))), (0, (.v (.pointer (some (⟨bk, 0, none⟩ : Addr)))))] (fun ρ => ⟨rfl, (congrArg (Value.int .i64) (by rw [wrap_id (by omega)]; omega)), ⟨rfl, rfl, ⟨rfl, rfl, ⟨rfl, rfl, ⟨rfl, rfl, trivial⟩⟩⟩⟩⟩) ?_
    refine WL_op (WOp_idxo htb 3 td.length ((td.length - 1 : Nat) : Int) 1 (by kernel_rfl) (by omega) (by omega) ?_)
    refine WL_op (WOp_ldo htb 3 ((td.length - 1) * 1) false 1 [.string n0] (by kernel_rfl) rfl (ho.str' hn0') rfl (by decide) ?_)
    refine WL_execS htb 1 [5, 4, 3, 0] [3] ⟨[(5, (tS n0)), (4, (.ls false 3 td.length cap)), (3, (.v (.map (some bk2)))), (0, (.v (.pointer (some (⟨bk, 0, none⟩ : Addr)))))], [(3, (.lst false 9 arr))], 4, [], []⟩ (by kernel_rfl) ?_
    refine WL_nil ?_
    refine WQ_code ?_
    refine WC_seq (WC_region ?_)
    refine WL_execS htb 4 [39, 36, 5, 3, 0] [3] ⟨[(39, (iI (IntKind.i64.wrap (((td.length : Nat) : Int) - 1)))), (36, (.ls false 3 td.length cap)), (5, (tS n0)), (3, (.v (.map (some bk2)))), (0, (.v (.pointer (some (⟨bk, 0, none⟩ : Addr)))))], [(3, (.lst false 9 arr))], 4, [], []⟩ (by kernel_rfl) ?_
    refine WK_env [(39, (iN (td.length - 1))), (36, (.ls false 3 td.length cap)), (5, (tS n0)), (3, (.v (.map (some bk2)))), (0, (.v (.pointer (some (⟨bk, 0, none⟩ : Addr)))))] (fun ρ => ⟨rfl, (congrArg (Value.int .i64) (by rw [wrap_id (by omega)]; omega)), ⟨rfl, rfl, ⟨rfl, rfl, ⟨rfl, rfl, ⟨rfl, rfl, trivial⟩⟩⟩⟩⟩) ?_
    have hcap := ho.2.1
    refine WL_op (WOp_slo htb 3 td.length cap (td.length - 1) (by kernel_rfl) (by omega) ?_)
    show WL _ _ _ _ _ _ ⟨[(40, (.ls false 3 (td.length - 1) cap)), (39, (iN (td.length - 1))), (36, (.ls false 3 td.length cap)), (5, (tS n0)), (3, (.v (.map (some bk2)))), (0, (.v (.pointer (some (⟨bk, 0, none⟩ : Addr)))))], [(3, (.lst false 9 arr))], 4, [], []⟩ _
    have ho1 := ho.take (td.length - 1)
    have htl : (td.take (td.length - 1)).length = td.length - 1 := by rw [List.length_take]; omega
    refine WL_execS htb 1 [4, 5, 3, 0] [3] ⟨[(4, (.ls false 3 (td.length - 1) cap)), (5, (tS n0)), (3, (.v (.map (some bk2)))), (0, (.v (.pointer (some (⟨bk, 0, none⟩ : Addr)))))], [(3, (.lst false 9 arr))], 4, [], []⟩ (by kernel_rfl) ?_
    refine WL_nil ?_
    refine WQ_code ?_
    refine WC_seq ?_
    refine WC_seq (WC_region ?_)
    refine WL_execS htb 2 [42, 41, 4, 5, 3, 0] [3] ⟨[(42, (tS n0)), (41, (.v (.map (some bk2)))), (4, (.ls false 3 (td.length - 1) cap)), (5, (tS n0)), (3, (.v (.map (some bk2)))), (0, (.v (.pointer (some (⟨bk, 0, none⟩ : Addr)))))], [(3, (.lst false 9 arr))], 4, [], []⟩ (by kernel_rfl) ?_
    refine WL_op (WOp_look htb bk2 (tS n0) false 9 (.bool false) (by kernel_rfl) (keyEnc_str (kt := 9) (by kernel_rfl)) n0 (fun ρ => rfl) hM (v := (.bool (gd n0))) (goodF_get gd n0) (is := ((goodF gd n0).isSome)) rfl ?_)
    show WL _ _ _ _ _ _ ⟨[(43, (bB (gd n0))), (42, (tS n0)), (41, (.v (.map (some bk2)))), (4, (.ls false 3 (td.length - 1) cap)), (5, (tS n0)), (3, (.v (.map (some bk2)))), (0, (.v (.pointer (some (⟨bk, 0, none⟩ : Addr)))))], [(3, (.lst false 9 arr))], 4, [], []⟩ _
    refine WL_nil ?_
    refine WQ_code ?_
    refine WC_cond (b := (gd n0)) rfl (fun hgd => ?_) (fun hgd => ?_)
    ·
     skip
     refine WC_exit ?_
     refine WQ_then_exit ?_
     refine WQ_hit ?_
     refine WK_keep [4, 3, 0] [3] rfl rfl ?_
     refine WK_env [(4, (.ls false 3 ((td.take (td.length - 1)).length) cap)), (3, (.v (.map (some bk2)))), (0, (.v (.pointer (some (⟨bk, 0, none⟩ : Addr)))))] (fun ρ => ⟨rfl, (congrArg (fun n => nilOr false (.slice (some ⟨ρ 3, 0, none⟩) n cap)) htl.symm), ⟨rfl, rfl, ⟨rfl, rfl, trivial⟩⟩⟩) ?_
     exact WQ_next (gd, (td.take (td.length - 1)), false, arr, cap) (ledMu_pop (by omega)) ⟨hleb, hM, ho1, (fun h => by cases h), hI.pop hn0' hgd, Nat.le_trans (Nat.le_of_lt (ledMu_pop (by omega))) hmu⟩ (fun ρ a w h => h)
    ·
     skip
     refine WC_skip ?_
     refine WQ_code ?_
     refine WC_seq (WC_region ?_)
     refine WL_execS htb 2 [45, 44, 4, 5, 3, 0] [3] ⟨[(45, (tS n0)), (44, (.v (.map (some bk2)))), (4, (.ls false 3 (td.length - 1) cap)), (5, (tS n0)), (3, (.v (.map (some bk2)))), (0, (.v (.pointer (some (⟨bk, 0, none⟩ : Addr)))))], [(3, (.lst false 9 arr))], 4, [], []⟩ (by kernel_rfl) ?_
     refine WL_op (WOp_mapG htb bk2 (tS n0) (bB true) 9 (by kernel_rfl) (keyEnc_str (kt := 9) (by kernel_rfl)) n0 (fun ρ => rfl) (.bool true) (fun ρ => rfl) hM hnew3 (fun p hp => by cases hp) (fun es clk hM2 => ?_))
     rw [goodF_set] at hM2
     replace hleb := Le.add' hleb hnew3 (.map es clk)
     refine WL_nil ?_
     refine WQ_code ?_
     refine WC_seq (WC_region ?_)
     refine WL_execS htb 3 [48, 4, 5, 3, 0] [3] ⟨[(48, (.v (.pointer (some ((⟨bk, 0, none⟩ : Addr).add 2))))), (4, (.ls false 3 (td.length - 1) cap)), (5, (tS n0)), (3, (.v (.map (some bk2)))), (0, (.v (.pointer (some (⟨bk, 0, none⟩ : Addr)))))], [(3, (.lst false 9 arr))], 4, [], []⟩ (by kernel_rfl) ?_
     refine WL_op (WOp_ld htb ((⟨bk, 0, none⟩ : Addr).add 2) false 1 [.map (some m2)] (by kernel_rfl) ((hB.at'.field 2 rfl).mono hleb) rfl (by decide) ?_)
     refine WL_execS htb 1 [50, 49, 4, 3, 0] [3] ⟨[(50, (tS n0)), (49, (.v (.map (some m2)))), (4, (.ls false 3 (td.length - 1) cap)), (3, (.v (.map (some bk2)))), (0, (.v (.pointer (some (⟨bk, 0, none⟩ : Addr)))))], [(3, (.lst false 9 arr))], 4, [], []⟩ (by kernel_rfl) ?_
     obtain ⟨fr, hfr, hrs⟩ := hB.rul
     obtain ⟨Ai, ni, ci, hvi, hsi⟩ := book_get hrs n0
     have lhsi := hsi.len'
     refine WL_op (WOp_look htb m2 (tS n0) false 9 (.slice none 0 0) (by kernel_rfl) (keyEnc_str (kt := 9) (by kernel_rfl)) n0 (fun ρ => rfl) (hfr.mono hleb) (v := (.slice Ai ni ci)) hvi (is := ((fr n0).isSome)) rfl ?_)
     show WL _ _ _ _ _ _ ⟨[(51, (sS Ai ni ci)), (50, (tS n0)), (49, (.v (.map (some m2)))), (4, (.ls false 3 (td.length - 1) cap)), (3, (.v (.map (some bk2)))), (0, (.v (.pointer (some (⟨bk, 0, none⟩ : Addr)))))], [(3, (.lst false 9 arr))], 4, [], []⟩ _
     refine WL_execS htb 2 [53, 52, 51, 4, 3, 0] [3] ⟨[(53, (iI 0)), (52, (iN ni)), (51, (sS Ai ni ci)), (4, (.ls false 3 (td.length - 1) cap)), (3, (.v (.map (some bk2)))), (0, (.v (.pointer (some (⟨bk, 0, none⟩ : Addr)))))], [(3, (.lst false 9 arr))], 4, [], []⟩ (by kernel_rfl) ?_
     refine WL_nil ?_
     refine WQ_code ?_
     refine WC_block ?_
     refine WK_env [(53, (iI 0)), (52, (iN ni)), (51, (sS Ai ni ci)), (4, (.ls false 3 ((td.take (td.length - 1)).length) cap)), (3, (.v (.map (some bk2)))), (0, (.v (.pointer (some (⟨bk, 0, none⟩ : Addr)))))] (fun ρ => ⟨rfl, rfl, ⟨rfl, rfl, ⟨rfl, rfl, ⟨rfl, (congrArg (fun n => nilOr false (.slice (some ⟨ρ 3, 0, none⟩) n cap)) htl.symm), ⟨rfl, rfl, ⟨rfl, rfl, trivial⟩⟩⟩⟩⟩⟩) ?_
     refine WK_keep [53, 52, 51, 4, 3, 0] [3] rfl rfl ?_
     refine WK_env [(53, (iN 0)), (52, (iN ni)), (51, (sS Ai ni ci)), (4, (.ls false 3 ((td.take (td.length - 1)).length) cap)), (3, (.v (.map (some bk2)))), (0, (.v (.pointer (some (⟨bk, 0, none⟩ : Addr)))))] (fun ρ => ⟨rfl, rfl, ⟨rfl, rfl, ⟨rfl, rfl, ⟨rfl, rfl, ⟨rfl, rfl, ⟨rfl, rfl, trivial⟩⟩⟩⟩⟩⟩) ?_
     refine WC_loop (ι := Nat × List ByteArray × Bool × Array Value × Nat) (fun (k, td2, z2, arr2, cap2) G26 => k ≤ ni ∧ Le G G26 ∧ MapF G26 bk2 strE (goodF (fun x => if x = n0 then true else gd x)) ∧ OwnL tStr G26 td2 arr2 cap2 ∧ (z2 = true → td2 = []) ∧ td2 = (td.take (td.length - 1)) ++ pushS g ((idxS g n0).take k)) (fun (k, td2, z2, arr2, cap2) => ⟨[(53, (iN k)), (52, (iN ni)), (51, (sS Ai ni ci)), (4, (.ls z2 3 td2.length cap2)), (3, (.v (.map (some bk2)))), (0, (.v (.pointer (some (⟨bk, 0, none⟩ : Addr)))))], [(3, (.lst z2 9 arr2))], 4, [], []⟩) (fun (k, td2, z2, arr2, cap2) => ni - k) (0, (td.take (td.length - 1)), false, arr, cap) ⟨Nat.zero_le _, hleb, hM2, ho1.anyS, (fun h => by cases h), (by simp [pushS])⟩ rfl ?_
     rintro ⟨k, td2, z2, arr2, cap2⟩ G26 hF
     show WC _ _ _ _ _ ⟨[(53, (iN k)), (52, (iN ni)), (51, (sS Ai ni ci)), (4, (.ls z2 3 td2.length cap2)), (3, (.v (.map (some bk2)))), (0, (.v (.pointer (some (⟨bk, 0, none⟩ : Addr)))))], [(3, (.lst z2 9 arr2))], 4, [], []⟩ _
     obtain ⟨hk, hleb, hM3, ho2, hz2, htd2⟩ := hF
     have htd2l := congrArg List.length htd2
     rw [List.length_append, htl] at htd2l
     have hpl := pushS_take_len g (idxS g n0) k
     rw [push_idx] at hpl
     have hsl := succL_len g n0
     refine WC_seq (WC_region ?_)
     refine WL_execS htb 1 [54, 53, 52, 51, 4, 3, 0] [3] ⟨[(54, (bB (decide ((((k : Nat) : Int) : Int) < ((ni : Nat) : Int))))), (53, (iN k)), (52, (iN ni)), (51, (sS Ai ni ci)), (4, (.ls z2 3 td2.length cap2)), (3, (.v (.map (some bk2)))), (0, (.v (.pointer (some (⟨bk, 0, none⟩ : Addr)))))], [(3, (.lst z2 9 arr2))], 4, [], []⟩ (by kernel_rfl) ?_
     refine WL_nil ?_
     refine WQ_code ?_
     refine WC_seq ?_
     refine WC_cond (b := (decide ((((k : Nat) : Int) : Int) < ((ni : Nat) : Int)))) rfl (fun hck => ?_) (fun hck => ?_)
     ·
      replace hck := of_decide_eq_true hck
      refine WC_skip ?_
      refine WQ_code ?_
      refine WC_seq ?_
      refine WC_block ?_
      refine WC_seq (WC_region ?_)
      obtain ⟨q27, rfl⟩ := hsi.ptr (by omega)
      obtain ⟨x30, _, hx28, ⟨rfl, hn31⟩, at29⟩ := hsi.get k (by omega)
      have bdhn31 : -9223372036854775808 ≤ x30 ∧ x30 ≤ 9223372036854775807 := bd_of hn31
      replace at29 : At G (q27.add (k * 1)) [.int .i64 x30] := at29
      obtain ⟨j0, r0, hij, hgj, hrn⟩ := mem_idxS (List.mem_of_getElem? hx28)
      have hjl := (List.getElem?_eq_some_iff.1 hgj).1
      refine WL_op (WOp_idx htb q27 ni ((k : Nat) : Int) 1 (by kernel_rfl) (by omega) (by omega) ?_)
      refine WL_op (WOp_ld htb (q27.add (k * 1)) false 1 [.int .i64 x30] (by kernel_rfl) (at29.mono hleb) rfl (by decide) ?_)
      refine WL_execS htb 1 [7, 53, 52, 51, 4, 3, 0] [3] ⟨[(7, (iI x30)), (53, (iN k)), (52, (iN ni)), (51, (sS (some q27) ni ci)), (4, (.ls z2 3 td2.length cap2)), (3, (.v (.map (some bk2)))), (0, (.v (.pointer (some (⟨bk, 0, none⟩ : Addr)))))], [(3, (.lst z2 9 arr2))], 4, [], []⟩ (by kernel_rfl) ?_
      refine WL_nil ?_
      refine WQ_code ?_
      refine WC_region ?_
      refine WL_execS htb 5 [61, 57, 7, 53, 52, 51, 3, 0] [3] ⟨[(61, (.v (.pointer (some (((⟨bk, 0, none⟩ : Addr).add 0).add 0))))), (57, (.ls z2 3 td2.length cap2)), (7, (iI x30)), (53, (iN k)), (52, (iN ni)), (51, (sS (some q27) ni ci)), (3, (.v (.map (some bk2)))), (0, (.v (.pointer (some (⟨bk, 0, none⟩ : Addr)))))], [(3, (.lst z2 9 arr2))], 4, [], []⟩ (by kernel_rfl) ?_
      refine WL_op (WOp_ld htb (((⟨bk, 0, none⟩ : Addr).add 0).add 0) false 1 [.slice (some q5) n c] (by kernel_rfl) (((hB.at'.field 0 rfl).field 0 rfl).mono hleb) rfl (by decide) ?_)
      refine WL_execS htb 1 [63, 62, 57, 53, 52, 51, 3, 0] [3] ⟨[(63, (iI x30)), (62, (sS (some q5) n c)), (57, (.ls z2 3 td2.length cap2)), (53, (iN k)), (52, (iN ni)), (51, (sS (some q27) ni ci)), (3, (.v (.map (some bk2)))), (0, (.v (.pointer (some (⟨bk, 0, none⟩ : Addr)))))], [(3, (.lst z2 9 arr2))], 4, [], []⟩ (by kernel_rfl) ?_
      obtain ⟨⟨x34, x36⟩, _, hx32, ⟨_, _, rfl, ⟨rfl, hn35⟩, hr37⟩, at33⟩ := hB.sl.get ((x30 : Int).toNat) (by omega)
      obtain ⟨A39, n40, c41, rfl, hs38⟩ := Sl.of hr37
      replace hs38 : Sl (tSlice tStr) _ A39 n40 c41 x36 := hs38
      have lhs38 := hs38.len'
      replace at33 : At G (q5.add (((x30 : Int).toNat) * 2)) [.string x34, .slice A39 n40 c41] := at33
      have hfl : x36.flatten.length ≤ (allNames g).length := flat_le_all (List.mem_of_getElem? hx32)
      refine WL_op (WOp_idx htb q5 n x30 2 (by kernel_rfl) (by omega) (by omega) ?_)
      refine WL_execS htb 1 [65, 57, 53, 52, 51, 3, 0] [3] ⟨[(65, (.v (.pointer (some ((q5.add (((x30 : Int).toNat) * 2)).add 1))))), (57, (.ls z2 3 td2.length cap2)), (53, (iN k)), (52, (iN ni)), (51, (sS (some q27) ni ci)), (3, (.v (.map (some bk2)))), (0, (.v (.pointer (some (⟨bk, 0, none⟩ : Addr)))))], [(3, (.lst z2 9 arr2))], 4, [], []⟩ (by kernel_rfl) ?_
      refine WL_op (WOp_ld htb ((q5.add (((x30 : Int).toNat) * 2)).add 1) false 1 [.slice A39 n40 c41] (by kernel_rfl) ((at33.field 1 rfl).mono hleb) rfl (by decide) ?_)
      refine WL_op (WOp_call 42 [(sS A39 n40 c41)] (by kernel_rfl) (goes_of Try.func42 rfl rfl) (fun ρ w hW => concat_ok hW.has (xss := x36) (hs38.mono hleb) (by omega)) ?_)
      intro G701 v hle hΦ
      replace hleb := Le.trans hleb hle
      replace ho2 := ho2.mono hle
      replace hM3 := hM3.mono hle
      obtain ⟨A_r42, n_r42, c_r42, rfl, h_r42, hR43⟩ := hΦ
      have lh_r42 := h_r42.len'
      refine WL_op (WOp_append htb z2 3 td2.length cap2 A_r42 n_r42 9 1 16 (by kernel_rfl) (by kernel_rfl) rfl rfl tStr (xs := td2) (ys := (x36.flatten)) ho2 rfl hz2 h_r42.row h_r42.len rfl (by decide) (by first | omega | (simp only [List.length_append, List.length_nil, List.length_drop, List.length_take, List.length_cons]; omega)) (by unfold big; first | omega | (simp only [List.length_append, List.length_nil, List.length_drop, List.length_take, List.length_cons]; omega)) (fun z44 arr45 cap46 hz47 ho48 => ?_))
      show WL _ _ _ _ _ _ ⟨[(68, (.ls z44 4 ((td2 ++ (x36.flatten)).length) cap46)), (67, (sS A_r42 n_r42 c_r42)), (66, (sS A39 n40 c41)), (65, (.v (.pointer (some ((q5.add (((x30 : Int).toNat) * 2)).add 1))))), (57, (.ls z2 3 td2.length cap2)), (53, (iN k)), (52, (iN ni)), (51, (sS (some q27) ni ci)), (3, (.v (.map (some bk2)))), (0, (.v (.pointer (some (⟨bk, 0, none⟩ : Addr)))))], [(4, (.lst z44 9 arr45))], 5, [], []⟩ _
      refine WL_execS htb 1 [4, 53, 52, 51, 3, 0] [4] ⟨[(4, (.ls z44 4 ((td2 ++ (x36.flatten)).length) cap46)), (53, (iN k)), (52, (iN ni)), (51, (sS (some q27) ni ci)), (3, (.v (.map (some bk2)))), (0, (.v (.pointer (some (⟨bk, 0, none⟩ : Addr)))))], [(4, (.lst z44 9 arr45))], 5, [], []⟩ (by kernel_rfl) ?_
      refine WL_nil ?_
      refine WQ_blk ?_
      refine WQ_code ?_
      refine WC_region ?_
      refine WL_execS htb 2 [53, 4, 52, 51, 3, 0] [4] ⟨[(53, (iI (IntKind.i64.wrap (((k : Nat) : Int) + 1)))), (4, (.ls z44 4 ((td2 ++ (x36.flatten)).length) cap46)), (52, (iN ni)), (51, (sS (some q27) ni ci)), (3, (.v (.map (some bk2)))), (0, (.v (.pointer (some (⟨bk, 0, none⟩ : Addr)))))], [(4, (.lst z44 9 arr45))], 5, [], []⟩ (by kernel_rfl) ?_
      refine WL_nil ?_
      refine WK_env [(53, (iN (k + 1))), (4, (.ls z44 4 ((td2 ++ (x36.flatten)).length) cap46)), (52, (iN ni)), (51, (sS (some q27) ni ci)), (3, (.v (.map (some bk2)))), (0, (.v (.pointer (some (⟨bk, 0, none⟩ : Addr)))))] (fun ρ => ⟨rfl, (congrArg (Value.int .i64) (by rw [wrap_id (by omega)]; first | rfl | omega)), ⟨rfl, rfl, ⟨rfl, rfl, ⟨rfl, rfl, ⟨rfl, rfl, ⟨rfl, rfl, trivial⟩⟩⟩⟩⟩⟩) ?_
      refine WK_keep [53, 52, 51, 4, 3, 0] [4] rfl rfl ?_
      exact WQ_nextR ((k + 1), (td2 ++ (x36.flatten)), z44, arr45, cap46) (by show ni - (k + 1) < ni - k; omega) ⟨by omega, hleb, hM3, ho48, hz47, (by rw [htd2, List.append_assoc]; exact congrArg _ (pushS_snoc (r := (x34, x36)) hx28 hx32).symm)⟩ [(3, 4)] rfl rfl rfl rfl rfl rfl
     ·
      replace hck := of_decide_eq_false hck
      refine WC_exit ?_
      refine WQ_then_exit ?_
      refine WQ_then_exit ?_
      refine WQ_hit ?_
      refine WQ_blk ?_
      have htk0 : (idxS g n0).take k = idxS g n0 := List.take_of_length_le (by omega)
      rw [htk0, push_idx] at htd2
      subst htd2
      refine WK_keep [4, 3, 0] [3] rfl rfl ?_
      exact WQ_next ((fun x => if x = n0 then true else gd x), ((td.take (td.length - 1)) ++ succL g n0), z2, arr2, cap2) (ledMu_push hI hn0' hgd) ⟨hleb, hM3, ho2, hz2, hI.push hn0', Nat.le_trans (Nat.le_of_lt (ledMu_push hI hn0' hgd)) hmu⟩ (fun ρ a w h => h)
   ·
    replace hn0 := of_decide_eq_false hn0
    refine WC_exit ?_
    refine WQ_then_exit ?_
    refine WQ_then_exit ?_
    refine WQ_hit ?_
    refine WQ_code ?_
    refine WC_seq (WC_region ?_)
    refine WL_execS htb 2 [2] [] ⟨[(2, (.v (.map (some bk2))))], [], 4, [], []⟩ (by kernel_rfl) ?_
    refine WL_nil ?_
    refine WQ_code ?_
    refine WC_ret ?_
    have htd : td = [] := List.length_eq_zero_iff.1 (by omega)
    rw [htd] at hI
    exact WQ_done htb [(.v (.map (some bk2)))] _ (.inl rfl) rfl (by kernel_rfl) (fun ρ w hW => ⟨bk2, gd, rfl, hnew3, hM, hI.done hx6⟩)
 ·
  replace hg0 := of_decide_eq_false hg0
  have hgn : g = [] := List.length_eq_zero_iff.1 (by omega)
  refine WC_skip ?_
  refine WQ_code ?_
  refine WC_seq ?_
  refine WC_block ?_
  refine WK_keep [4, 3, 0] [] rfl rfl ?_
  refine WC_loop (ι := Nat) (fun i G5 => Le G G5 ∧ MapF G5 bk2 strE (goodF (fun _ => false))) (fun i => ⟨[(4, (sS none 0 0)), (3, (.v (.map (some bk2)))), (0, (.v (.pointer (some (⟨bk, 0, none⟩ : Addr)))))], [], 1, [], []⟩) (fun i => 0) (0) ⟨hleb, hM⟩ rfl ?_
  rintro i G5 hF
  show WC _ _ _ _ _ ⟨[(4, (sS none 0 0)), (3, (.v (.map (some bk2)))), (0, (.v (.pointer (some (⟨bk, 0, none⟩ : Addr)))))], [], 1, [], []⟩ _
  obtain ⟨hleb, hM⟩ := hF
  refine WC_seq ?_
  refine WC_seq (WC_region ?_)
  refine WL_execS htb 3 [29, 4, 3, 0] [] ⟨[(29, (bB (decide ((((0 : Nat) : Int) : Int) > 0)))), (4, (sS none 0 0)), (3, (.v (.map (some bk2)))), (0, (.v (.pointer (some (⟨bk, 0, none⟩ : Addr)))))], [], 1, [], []⟩ (by kernel_rfl) ?_
  refine WL_nil ?_
  refine WQ_code ?_
  refine WC_cond (b := (decide ((((0 : Nat) : Int) : Int) > 0))) rfl (fun hn0 => ?_) (fun hn0 => ?_)
  ·
   replace hn0 := of_decide_eq_true hn0
   exfalso; omega
  ·
   replace hn0 := of_decide_eq_false hn0
   refine WC_exit ?_
   refine WQ_then_exit ?_
   refine WQ_then_exit ?_
   refine WQ_hit ?_
   refine WQ_code ?_
   refine WC_seq (WC_region ?_)
   refine WL_execS htb 2 [2] [] ⟨[(2, (.v (.map (some bk2))))], [], 1, [], []⟩ (by kernel_rfl) ?_
   refine WL_nil ?_
   refine WQ_code ?_
   refine WC_ret ?_
   exact WQ_done htb [(.v (.map (some bk2)))] _ (.inl rfl) rfl (by kernel_rfl) (fun ρ w hW => ⟨bk2, (fun _ => false), rfl, hnew3, hM, (fun s => ⟨(fun h => by cases h), (fun h => absurd h (led_nil hgn))⟩)⟩)

end Go.Proofs.Ytfemkbockhpmcaa.Sym
