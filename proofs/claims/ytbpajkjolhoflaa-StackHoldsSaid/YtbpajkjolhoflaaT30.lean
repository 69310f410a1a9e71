/- Walks of functions that the laws of this seat reach, printed by a program of this session's. -/
import Derived.Test.YtbpajkjolhoflaaT29
import Derived.Test.YtbpajkjolhoflaaSymL
import Derived.Test.YtbpajkjolhoflaaPl
import Derived.Laws.Strings
import Derived.WideShapes
set_option linter.unusedSimpArgs false
set_option linter.unusedVariables false
set_option maxHeartbeats 4000000
namespace Go.Proofs.Ytbpajkjolhoflaa.Sym
open Go Go.Proofs Go.RowKit






theorem lay_false {w : World} {G : Heap} (hG : Has w G) {b n cap : Nat} {z : Bool} {arr : Array Value} {xs : List (Int × ByteArray)} (hw : z = false → w.heap[b]? = some (.cells arr 150 (0, 0)) ∧ G b = none) (ho : OwnL (tPair (tInt .i64) tStr) G xs arr cap) (hzz : z = true → xs = []) (hn : n = xs.length)
    {kind : Int} {name : ByteArray} (h_kind : -9223372036854775808 ≤ kind ∧ kind ≤ 9223372036854775807) (h_name : name.size ≤ big) (hx : xs.length ≤ 1000000000000) (hz0 : z = false) :
    Calls Try.prog 83 #[nilOr z (.slice (some ⟨b, 0, none⟩) n cap), .int .i64 kind, .string name] w (RetT w G (fun i => z = false ∧ i = b) (tPair (tInt .i64) tStr) 150 fun ys => ys = layS xs (kind, name)) := by
  subst hz0
  refine enterT [(.ls false 0 n cap), (iI kind), (tS name)] 33 Try.func83 rfl rfl rfl rfl hG hw ?_
  refine WC_seq (WC_region ?_)
  refine WL_execS htb 1 [0, 1, 2] [0] ⟨[(0, (.ls false 0 n cap)), (1, (iI kind)), (2, (tS name))], [(0, (.lst false 150 arr))], 1, [], []⟩ (by kernel_rfl) ?_
  refine WL_nil ?_
  refine WQ_code ?_
  refine WC_seq ?_
  refine WC_seq (WC_region ?_)
  refine WL_execS htb 3 [11, 10, 9, 0, 1, 2] [0] ⟨[(11, (iI 0)), (10, (iN n)), (9, (.ls false 0 n cap)), (0, (.ls false 0 n cap)), (1, (iI kind)), (2, (tS name))], [(0, (.lst false 150 arr))], 1, [], []⟩ (by kernel_rfl) ?_
  refine WL_nil ?_
  refine WQ_code ?_
  refine WC_block ?_
  refine WK_keep [11, 10, 9, 0, 1, 2] [0] rfl rfl ?_
  refine WK_env [(11, (iN 0)), (10, (iN n)), (9, (.ls false 0 n cap)), (0, (.ls false 0 n cap)), (1, (iI kind)), (2, (tS name))] (fun ρ => ⟨rfl, rfl, ⟨rfl, rfl, ⟨rfl, rfl, ⟨rfl, rfl, ⟨rfl, rfl, ⟨rfl, rfl, trivial⟩⟩⟩⟩⟩⟩) ?_
  refine WC_loop (ι := Nat) (fun i G1 => Le G G1 ∧ (i ≤ n ∧ OwnL (tPair (tInt .i64) tStr) G1 xs arr cap ∧ (kind, name) ∉ xs.take i)) (fun i => ⟨[(11, (iN i)), (10, (iN n)), (9, (.ls false 0 n cap)), (0, (.ls false 0 n cap)), (1, (iI kind)), (2, (tS name))], [(0, (.lst false 150 arr))], 1, [], []⟩) (fun i => n - i) (0) ⟨Le.refl _, ⟨Nat.zero_le _, ho, by simp⟩⟩ rfl ?_
  rintro i G1 ⟨hle, hF⟩
  show WC _ _ _ _ _ ⟨[(11, (iN i)), (10, (iN n)), (9, (.ls false 0 n cap)), (0, (.ls false 0 n cap)), (1, (iI kind)), (2, (tS name))], [(0, (.lst false 150 arr))], 1, [], []⟩ _
  replace ho := ho.mono hle
  have hc2 := hle
  obtain ⟨hi, ho, hni⟩ := hF
  refine WC_seq (WC_region ?_)
  refine WL_execS htb 1 [12, 11, 10, 9, 0, 1, 2] [0] ⟨[(12, (bB (decide ((((i : Nat) : Int) : Int) < ((n : Nat) : Int))))), (11, (iN i)), (10, (iN n)), (9, (.ls false 0 n cap)), (0, (.ls false 0 n cap)), (1, (iI kind)), (2, (tS name))], [(0, (.lst false 150 arr))], 1, [], []⟩ (by kernel_rfl) ?_
  refine WL_nil ?_
  refine WQ_code ?_
  refine WC_seq ?_
  refine WC_cond (b := (decide ((((i : Nat) : Int) : Int) < ((n : Nat) : Int)))) rfl (fun hc => ?_) (fun hc => ?_)
  · replace hc := of_decide_eq_true hc
    refine WC_skip ?_
    refine WQ_code ?_
    refine WC_seq ?_
    refine WC_block ?_
    refine WC_seq (WC_region ?_)
    refine WL_op (WOp_idxo htb 0 n ((i : Nat) : Int) 2 (by kernel_rfl) (by omega) (by omega) ?_)
    obtain ⟨⟨xk, xn⟩, _, hxi, ⟨_, _, rfl, ⟨rfl, hkb⟩, ⟨rfl, hnb⟩⟩, hat⟩ := ho.getx (i := i) (by omega)
    refine WL_op (WOp_ldo htb 0 (i * 2) true 2 [.int .i64 xk, .string xn] (by kernel_rfl) rfl hat rfl (by decide) ?_)
    refine WL_execS htb 2 [8, 11, 10, 9, 0, 1, 2] [1, 0] ⟨[(8, (.p 1 0)), (11, (iN i)), (10, (iN n)), (9, (.ls false 0 n cap)), (0, (.ls false 0 n cap)), (1, (iI kind)), (2, (tS name))], [(1, (.cells 150 [(iI xk), (tS xn)])), (0, (.lst false 150 arr))], 2, [], []⟩ (by kernel_rfl) ?_
    refine WL_nil ?_
    refine WQ_code ?_
    refine WC_seq (WC_region ?_)
    refine WL_execS htb 5 [19, 8, 11, 10, 9, 0, 1, 2] [1, 0] ⟨[(19, (bB ((xk : Int) == kind))), (8, (.p 1 0)), (11, (iN i)), (10, (iN n)), (9, (.ls false 0 n cap)), (0, (.ls false 0 n cap)), (1, (iI kind)), (2, (tS name))], [(1, (.cells 150 [(iI xk), (tS xn)])), (0, (.lst false 150 arr))], 2, [], []⟩ (by kernel_rfl) ?_
    refine WK_split 19 ((xk : Int) == kind) rfl (fun hk => ?_) (fun hk => ?_)
    · replace hk := eq_of_beq hk
      refine WK_keep [19, 8, 11, 10, 9, 0, 1, 2] [1, 0] rfl rfl ?_
      refine WL_execS htb 5 [24, 11, 10, 9, 0, 1, 2] [0] ⟨[(24, (bB ((xn : ByteArray).toList == (name : ByteArray).toList))), (11, (iN i)), (10, (iN n)), (9, (.ls false 0 n cap)), (0, (.ls false 0 n cap)), (1, (iI kind)), (2, (tS name))], [(0, (.lst false 150 arr))], 2, [], []⟩ (by kernel_rfl) ?_
      refine WL_nil ?_
      refine WQ_code ?_
      refine WC_cond (b := ((xn : ByteArray).toList == (name : ByteArray).toList)) rfl (fun he => ?_) (fun he => ?_)
      · replace he := eq_of_beq he
        refine WC_seq (WC_region ?_)
        refine WL_execS htb 2 [6] [0] ⟨[(6, (.ls false 0 n cap))], [(0, (.lst false 150 arr))], 2, [], []⟩ (by kernel_rfl) ?_
        refine WL_nil ?_
        refine WQ_code ?_
        refine WC_ret ?_
        refine WQ_blk_ret ?_
        refine WQ_then_ret ?_
        refine WQ_then_ret ?_
        refine WQ_blk_ret ?_
        refine WQ_then_ret ?_
        exact WQ_doneT htb _ (.inl rfl) (z := false) (h := 0) (n := n) (xs := xs) rfl (by kernel_rfl) rfl hn (fun h => by cases h) ho (lay_had hxi hk (str_inj he))
      · replace he := ne_of_beq_false he
        refine WC_skip ?_
        refine WQ_blk ?_
        refine WQ_code ?_
        refine WC_region ?_
        refine WL_execS htb 2 [11, 10, 9, 0, 1, 2] [0] ⟨[(11, (iI (IntKind.i64.wrap (((i : Nat) : Int) + 1)))), (10, (iN n)), (9, (.ls false 0 n cap)), (0, (.ls false 0 n cap)), (1, (iI kind)), (2, (tS name))], [(0, (.lst false 150 arr))], 2, [], []⟩ (by kernel_rfl) ?_
        refine WL_nil ?_
        refine WK_env [(11, (iN (i + 1))), (10, (iN n)), (9, (.ls false 0 n cap)), (0, (.ls false 0 n cap)), (1, (iI kind)), (2, (tS name))] (fun ρ => ⟨rfl, (congrArg (Value.int .i64) (by rw [wrap_id (by omega)]; first | rfl | omega)), ⟨rfl, rfl, ⟨rfl, rfl, ⟨rfl, rfl, ⟨rfl, rfl, ⟨rfl, rfl, trivial⟩⟩⟩⟩⟩⟩) ?_
        refine WK_keep [11, 10, 9, 0, 1, 2] [0] rfl rfl ?_
        exact WQ_next ((i + 1)) (by show n - (i + 1) < n - i; omega) ⟨hc2, ⟨by omega, ho, lay_no hni hxi (fun h => he (by rw [h.2]))⟩⟩ (fun ρ a w h => h)
    · replace hk := ne_of_beq_false hk
      refine WK_keep [19, 8, 11, 10, 9, 0, 1, 2] [1, 0] rfl rfl ?_
      refine WL_execS htb 5 [24, 11, 10, 9, 0, 1, 2] [0] ⟨[(24, (bB false)), (11, (iN i)), (10, (iN n)), (9, (.ls false 0 n cap)), (0, (.ls false 0 n cap)), (1, (iI kind)), (2, (tS name))], [(0, (.lst false 150 arr))], 2, [], []⟩ (by kernel_rfl) ?_
      refine WL_nil ?_
      refine WQ_code ?_
      refine WC_cond (b := false) rfl (fun h => by cases h) (fun _ => ?_)
      refine WC_skip ?_
      refine WQ_blk ?_
      refine WQ_code ?_
      refine WC_region ?_
      refine WL_execS htb 2 [11, 10, 9, 0, 1, 2] [0] ⟨[(11, (iI (IntKind.i64.wrap (((i : Nat) : Int) + 1)))), (10, (iN n)), (9, (.ls false 0 n cap)), (0, (.ls false 0 n cap)), (1, (iI kind)), (2, (tS name))], [(0, (.lst false 150 arr))], 2, [], []⟩ (by kernel_rfl) ?_
      refine WL_nil ?_
      refine WK_env [(11, (iN (i + 1))), (10, (iN n)), (9, (.ls false 0 n cap)), (0, (.ls false 0 n cap)), (1, (iI kind)), (2, (tS name))] (fun ρ => ⟨rfl, (congrArg (Value.int .i64) (by rw [wrap_id (by omega)]; first | rfl | omega)), ⟨rfl, rfl, ⟨rfl, rfl, ⟨rfl, rfl, ⟨rfl, rfl, ⟨rfl, rfl, trivial⟩⟩⟩⟩⟩⟩) ?_
      refine WK_keep [11, 10, 9, 0, 1, 2] [0] rfl rfl ?_
      exact WQ_next ((i + 1)) (by show n - (i + 1) < n - i; omega) ⟨hc2, ⟨by omega, ho, lay_no hni hxi (fun h => hk h.1)⟩⟩ (fun ρ a w h => h)
  · replace hc := of_decide_eq_false hc
    refine WK_nx 10 ?_
    refine WC_exit ?_
    refine WQ_then_exit ?_
    refine WQ_then_exit ?_
    refine WQ_hit ?_
    refine WQ_code ?_
    refine WC_seq (WC_region ?_)
    refine WL_execS htb 5 [31, 27] [10, 0] ⟨[(31, (.s 10 1 1)), (27, (.ls false 0 n cap))], [(10, (.cells 150 [(iI kind), (tS name)])), (0, (.lst false 150 arr))], 11, [], []⟩ (by kernel_rfl) ?_
    refine WK_freezeV 10 rfl rfl rfl rfl ?_
    intro bk4 G3 hle hbk4
    replace hc2 := Le.trans hc2 hle
    replace ho := ho.mono hle
    show WK _ _ ⟨[(31, (sS (some ⟨bk4, 0, none⟩) 1 1)), (27, (.ls false 0 n cap))], [(0, (.lst false 150 arr))], 11, [], []⟩ _
    have hs5 : Sl (tPair (tInt .i64) tStr) G3 (some ⟨bk4, 0, none⟩) 1 1 [(kind, name)] := Sl.lit (cs := [.int .i64 kind, .string name]) (RepsL.cons' (rep_pair (rep_int _ (x := kind) h_kind) (rep_str _ (x := name) h_name)) .nil) hbk4 rfl (by unfold big; omega)
    have lhs5 := hs5.len'
    refine WK_nx 1 ?_
    show WL _ _ _ _ _ _ ⟨[(31, (sS (some ⟨bk4, 0, none⟩) 1 1)), (27, (.ls false 0 n cap))], [(0, (.lst false 150 arr))], 1, [], []⟩ _
    refine WL_op (WOp_append htb false 0 n cap (some ⟨bk4, 0, none⟩) 1 150 2 24 (by kernel_rfl) (by kernel_rfl) rfl rfl (tPair (tInt .i64) tStr) (xs := xs) (ys := [(kind, name)]) ho hn hzz hs5.row hs5.len rfl (by decide) (by first | omega | (simp only [List.length_append, List.length_nil, List.length_drop, List.length_take, List.length_cons]; omega)) (by unfold big; first | omega | (simp only [List.length_append, List.length_nil, List.length_drop, List.length_take, List.length_cons]; omega)) (fun z6 arr7 cap8 hz9 ho10 => ?_))
    show WL _ _ _ _ _ _ ⟨[(32, (.ls z6 1 ((xs ++ ([(kind, name)])).length) cap8)), (31, (sS (some ⟨bk4, 0, none⟩) 1 1)), (27, (.ls false 0 n cap))], [(1, (.lst z6 150 arr7))], 2, [], []⟩ _
    refine WL_execS htb 1 [6] [1] ⟨[(6, (.ls z6 1 ((xs ++ ([(kind, name)])).length) cap8))], [(1, (.lst z6 150 arr7))], 2, [], []⟩ (by kernel_rfl) ?_
    refine WL_nil ?_
    refine WQ_code ?_
    refine WC_ret ?_
    exact WQ_doneT htb _ (.inl rfl) (z := z6) (h := 1) (n := (xs ++ ([(kind, name)])).length) (xs := (xs ++ ([(kind, name)]))) rfl (by kernel_rfl) rfl rfl hz9 ho10 (lay_new hni (by omega))

theorem lay_true {w : World} {G : Heap} (hG : Has w G) {b n cap : Nat} {z : Bool} {arr : Array Value} {xs : List (Int × ByteArray)} (hw : z = false → w.heap[b]? = some (.cells arr 150 (0, 0)) ∧ G b = none) (ho : OwnL (tPair (tInt .i64) tStr) G xs arr cap) (hzz : z = true → xs = []) (hn : n = xs.length)
    {kind : Int} {name : ByteArray} (h_kind : -9223372036854775808 ≤ kind ∧ kind ≤ 9223372036854775807) (h_name : name.size ≤ big) (hx : xs.length ≤ 1000000000000) (hz0 : z = true) :
    Calls Try.prog 83 #[nilOr z (.slice (some ⟨b, 0, none⟩) n cap), .int .i64 kind, .string name] w (RetT w G (fun i => z = false ∧ i = b) (tPair (tInt .i64) tStr) 150 fun ys => ys = layS xs (kind, name)) := by
  subst hz0
  refine enterT [(.ls true 0 n cap), (iI kind), (tS name)] 33 Try.func83 rfl rfl rfl rfl hG hw ?_
  have hnil := hzz rfl
  subst hnil
  subst hn
  refine WK_env [(0, (sS none 0 0)), (1, (iI kind)), (2, (tS name))] (fun ρ => ⟨rfl, rfl, ⟨rfl, rfl, ⟨rfl, rfl, trivial⟩⟩⟩) ?_
  refine WK_keep [0, 1, 2] [] rfl rfl ?_
  refine WC_seq (WC_region ?_)
  refine WL_execS htb 1 [0, 1, 2] [] ⟨[(0, (sS none 0 0)), (1, (iI kind)), (2, (tS name))], [], 1, [], []⟩ (by kernel_rfl) ?_
  refine WL_nil ?_
  refine WQ_code ?_
  refine WC_seq ?_
  refine WC_seq (WC_region ?_)
  refine WL_execS htb 3 [11, 10, 9, 0, 1, 2] [] ⟨[(11, (iI 0)), (10, (iN 0)), (9, (sS none 0 0)), (0, (sS none 0 0)), (1, (iI kind)), (2, (tS name))], [], 1, [], []⟩ (by kernel_rfl) ?_
  refine WL_nil ?_
  refine WQ_code ?_
  refine WC_block ?_
  refine WK_keep [11, 10, 9, 0, 1, 2] [] rfl rfl ?_
  refine WK_env [(11, (iN 0)), (10, (iN 0)), (9, (sS none 0 0)), (0, (sS none 0 0)), (1, (iI kind)), (2, (tS name))] (fun ρ => ⟨rfl, rfl, ⟨rfl, rfl, ⟨rfl, rfl, ⟨rfl, rfl, ⟨rfl, rfl, ⟨rfl, rfl, trivial⟩⟩⟩⟩⟩⟩) ?_
  refine WC_loop (ι := Nat) (fun i G1 => Le G G1 ∧ (True)) (fun i => ⟨[(11, (iN i)), (10, (iN 0)), (9, (sS none 0 0)), (0, (sS none 0 0)), (1, (iI kind)), (2, (tS name))], [], 1, [], []⟩) (fun i => 0) (0) ⟨Le.refl _, trivial⟩ rfl ?_
  rintro i G1 ⟨hle, hF⟩
  show WC _ _ _ _ _ ⟨[(11, (iN i)), (10, (iN 0)), (9, (sS none 0 0)), (0, (sS none 0 0)), (1, (iI kind)), (2, (tS name))], [], 1, [], []⟩ _
  have hc2 := hle
  refine WC_seq (WC_region ?_)
  refine WL_execS htb 1 [12, 11, 10, 9, 0, 1, 2] [] ⟨[(12, (bB (decide ((((i : Nat) : Int) : Int) < ((0 : Nat) : Int))))), (11, (iN i)), (10, (iN 0)), (9, (sS none 0 0)), (0, (sS none 0 0)), (1, (iI kind)), (2, (tS name))], [], 1, [], []⟩ (by kernel_rfl) ?_
  refine WL_nil ?_
  refine WQ_code ?_
  refine WC_seq ?_
  refine WC_cond (b := (decide ((((i : Nat) : Int) : Int) < ((0 : Nat) : Int)))) rfl (fun hc => ?_) (fun hc => ?_)
  · replace hc := of_decide_eq_true hc
    exfalso; omega
  · replace hc := of_decide_eq_false hc
    refine WK_nx 10 ?_
    refine WC_exit ?_
    refine WQ_then_exit ?_
    refine WQ_then_exit ?_
    refine WQ_hit ?_
    refine WQ_code ?_
    refine WC_seq (WC_region ?_)
    refine WL_execS htb 5 [31, 27] [10] ⟨[(31, (.s 10 1 1)), (27, (sS none 0 0))], [(10, (.cells 150 [(iI kind), (tS name)]))], 11, [], []⟩ (by kernel_rfl) ?_
    refine WK_freezeV 10 rfl rfl rfl rfl ?_
    intro bk4 G3 hle hbk4
    replace hc2 := Le.trans hc2 hle
    show WK _ _ ⟨[(31, (sS (some ⟨bk4, 0, none⟩) 1 1)), (27, (sS none 0 0))], [], 11, [], []⟩ _
    have hs5 : Sl (tPair (tInt .i64) tStr) G3 (some ⟨bk4, 0, none⟩) 1 1 [(kind, name)] := Sl.lit (cs := [.int .i64 kind, .string name]) (RepsL.cons' (rep_pair (rep_int _ (x := kind) h_kind) (rep_str _ (x := name) h_name)) .nil) hbk4 rfl (by unfold big; omega)
    have lhs5 := hs5.len'
    refine WK_nx 1 ?_
    show WL _ _ _ _ _ _ ⟨[(31, (sS (some ⟨bk4, 0, none⟩) 1 1)), (27, (sS none 0 0))], [], 1, [], []⟩ _
    refine WK_off 150 rfl ?_
    have ho6 : OwnL (tPair (tInt .i64) tStr) G3 [] #[] 0 := OwnL.nil _ _
    refine WL_op (WOp_appendN htb true 1 0 0 (some ⟨bk4, 0, none⟩) 1 150 2 24 (by kernel_rfl) (by kernel_rfl) rfl rfl (tPair (tInt .i64) tStr) (xs := []) (ys := [(kind, name)]) ho6 rfl (fun _ => rfl) hs5.row hs5.len rfl (by decide) (by first | omega | (simp only [List.length_append, List.length_nil, List.length_drop, List.length_take, List.length_cons]; omega)) (by unfold big; first | omega | (simp only [List.length_append, List.length_nil, List.length_drop, List.length_take, List.length_cons]; omega)) (fun z7 arr8 cap9 hz10 ho11 => ?_))
    show WL _ _ _ _ _ _ ⟨[(32, (.ls z7 2 (([] ++ ([(kind, name)])).length) cap9)), (31, (sS (some ⟨bk4, 0, none⟩) 1 1)), (27, (sS none 0 0))], [(2, (.lst z7 150 arr8))], 3, [], []⟩ _
    refine WL_execS htb 1 [6] [2] ⟨[(6, (.ls z7 2 (([] ++ ([(kind, name)])).length) cap9))], [(2, (.lst z7 150 arr8))], 3, [], []⟩ (by kernel_rfl) ?_
    refine WL_nil ?_
    refine WQ_code ?_
    refine WC_ret ?_
    exact WQ_doneT htb _ (.inl rfl) (z := z7) (h := 2) (n := ([] ++ ([(kind, name)])).length) (xs := ([] ++ ([(kind, name)]))) rfl (by kernel_rfl) rfl rfl hz10 ho11 (by simp [layS])

theorem lay_ok {w : World} {G : Heap} (hG : Has w G) {b n cap : Nat} {z : Bool} {arr : Array Value} {xs : List (Int × ByteArray)} (hw : z = false → w.heap[b]? = some (.cells arr 150 (0, 0)) ∧ G b = none) (ho : OwnL (tPair (tInt .i64) tStr) G xs arr cap) (hzz : z = true → xs = []) (hn : n = xs.length)
    {kind : Int} {name : ByteArray} (h_kind : -9223372036854775808 ≤ kind ∧ kind ≤ 9223372036854775807) (h_name : name.size ≤ big) (hx : xs.length ≤ 1000000000000) :
    Calls Try.prog 83 #[nilOr z (.slice (some ⟨b, 0, none⟩) n cap), .int .i64 kind, .string name] w (RetT w G (fun i => z = false ∧ i = b) (tPair (tInt .i64) tStr) 150 fun ys => ys = layS xs (kind, name)) := by
  cases z with
  | true => exact lay_true hG hw ho hzz hn h_kind h_name hx rfl
  | false => exact lay_false hG hw ho hzz hn h_kind h_name hx rfl

end Go.Proofs.Ytbpajkjolhoflaa.Sym
