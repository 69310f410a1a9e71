/- Walks of functions that the laws of this seat reach, printed by a program of this session's. -/
import Derived.Test.YtbpajkjolhoflaaT9
set_option linter.unusedSimpArgs false
set_option linter.unusedVariables false
set_option maxHeartbeats 4000000
namespace Go.Proofs.Ytbpajkjolhoflaa.Sym
open Go Go.Proofs Go.RowKit




theorem stackSames_ok {w : World} {G : Heap} (hG : Has w G) {a : (List Int)} {A_a : Option Addr} {n_a : Nat} {c_a : Nat} {b : (List Int)} {A_b : Option Addr} {n_b : Nat} {c_b : Nat} {c : (List Int)} {A_c : Option Addr} {n_c : Nat} {c_c : Nat} {d : (List Int)} {A_d : Option Addr} {n_d : Nat} {c_d : Nat} (h_a : Sl (tInt .i64) G A_a n_a c_a a) (h_b : Sl (tInt .i64) G A_b n_b c_b b) (h_c : Sl (tInt .i64) G A_c n_c c_c c) (h_d : Sl (tInt .i64) G A_d n_d c_d d) :
    Calls Try.prog 4 #[(.agg #[.slice A_a n_a c_a, .slice A_b n_b c_b]), (.agg #[.slice A_c n_c c_c, .slice A_d n_d c_d])] w (Ret w G fun v G' => ∃ (ok : Bool), v = .bool ok ∧ (ok = true)) := by
  have lh_a := h_a.len'
  have lh_b := h_b.len'
  have lh_c := h_c.len'
  have lh_d := h_d.len'
  refine enter [(.agg [(.v (.slice A_a n_a c_a)), (.v (.slice A_b n_b c_b))]), (.agg [(.v (.slice A_c n_c c_c)), (.v (.slice A_d n_d c_d))])] 45 Try.func4 rfl rfl rfl rfl hG ?_
  refine WC_seq (WC_region ?_)
  refine WL_execS htb 3 [4, 3, 2] [1, 0] ⟨[(4, (.v (.bool false))), (3, (.p 1 0)), (2, (.p 0 0))], [(1, (.cells 24 [(.v (.slice A_c n_c c_c)), (.v (.slice A_d n_d c_d))])), (0, (.cells 24 [(.v (.slice A_a n_a c_a)), (.v (.slice A_b n_b c_b))]))], 2, [], []⟩ (by kernel_rfl) ?_
  refine WL_nil ?_
  refine WQ_code ?_
  refine WC_seq (WC_region ?_)
  refine WL_op (WOp_call 11 [] (by kernel_rfl) (goes_of Try.func11 rfl rfl) (fun ρ w hW => live_ok hW.has ) ?_)
  intro G1 v hle hΦ
  replace h_a := h_a.mono hle
  replace h_b := h_b.mono hle
  replace h_c := h_c.mono hle
  replace h_d := h_d.mono hle
  obtain ⟨r1, rfl, hR2⟩ := hΦ
  replace hR2 := hR2.trans rfl
  obtain rfl := hR2
  refine WL_execS htb 1 [5, 4, 3, 2] [1, 0] ⟨[(5, (.v (.bool true))), (4, (.v (.bool false))), (3, (.p 1 0)), (2, (.p 0 0))], [(1, (.cells 24 [(.v (.slice A_c n_c c_c)), (.v (.slice A_d n_d c_d))])), (0, (.cells 24 [(.v (.slice A_a n_a c_a)), (.v (.slice A_b n_b c_b))]))], 2, [], []⟩ (by kernel_rfl) ?_
  refine WL_nil ?_
  refine WQ_code ?_
  refine WC_seq ?_
  refine WC_seq (WC_region ?_)
  refine WL_execS htb 5 [11, 5, 4, 3, 2] [1, 0] ⟨[(11, (.v (.bool (decide ((((n_a : Nat) : Int) : Int) > 3000))))), (5, (.v (.bool true))), (4, (.v (.bool false))), (3, (.p 1 0)), (2, (.p 0 0))], [(1, (.cells 24 [(.v (.slice A_c n_c c_c)), (.v (.slice A_d n_d c_d))])), (0, (.cells 24 [(.v (.slice A_a n_a c_a)), (.v (.slice A_b n_b c_b))]))], 2, [], []⟩ (by kernel_rfl) ?_
  refine WK_split 11 (decide ((((n_a : Nat) : Int) : Int) > 3000)) rfl (fun hb0 => ?_) (fun hb0 => ?_)
  · replace hb0 := of_decide_eq_true hb0
    refine WK_keep [11, 5, 4, 3, 2] [1, 0] rfl rfl ?_
    refine WL_execS htb 17 [28, 5, 4, 3, 2] [1, 0] ⟨[(28, (.v (.bool true))), (5, (.v (.bool true))), (4, (.v (.bool false))), (3, (.p 1 0)), (2, (.p 0 0))], [(1, (.cells 24 [(.v (.slice A_c n_c c_c)), (.v (.slice A_d n_d c_d))])), (0, (.cells 24 [(.v (.slice A_a n_a c_a)), (.v (.slice A_b n_b c_b))]))], 2, [], []⟩ (by kernel_rfl) ?_
    refine WL_nil ?_
    refine WQ_code ?_
    refine WC_cond (b := true) rfl (fun _ => ?_) (fun h => by cases h)
    refine WC_seq (WC_region ?_)
    refine WL_execS htb 2 [4, 5, 3, 2] [1, 0] ⟨[(4, (.v (.bool true))), (5, (.v (.bool true))), (3, (.p 1 0)), (2, (.p 0 0))], [(1, (.cells 24 [(.v (.slice A_c n_c c_c)), (.v (.slice A_d n_d c_d))])), (0, (.cells 24 [(.v (.slice A_a n_a c_a)), (.v (.slice A_b n_b c_b))]))], 2, [], []⟩ (by kernel_rfl) ?_
    refine WL_nil ?_
    refine WQ_code ?_
    refine WC_ret ?_
    refine WQ_then_ret ?_
    exact WQ_done htb [(.v (.bool true))] _ (.inl rfl) rfl (by kernel_rfl) (fun ρ w hW => ⟨true, rfl, rfl⟩)
  · replace hb0 := of_decide_eq_false hb0
    refine WK_keep [11, 5, 4, 3, 2] [1, 0] rfl rfl ?_
    refine WL_execS htb 6 [17, 5, 4, 3, 2] [1, 0] ⟨[(17, (.v (.bool (decide ((((n_b : Nat) : Int) : Int) > 3000))))), (5, (.v (.bool true))), (4, (.v (.bool false))), (3, (.p 1 0)), (2, (.p 0 0))], [(1, (.cells 24 [(.v (.slice A_c n_c c_c)), (.v (.slice A_d n_d c_d))])), (0, (.cells 24 [(.v (.slice A_a n_a c_a)), (.v (.slice A_b n_b c_b))]))], 2, [], []⟩ (by kernel_rfl) ?_
    refine WK_split 17 (decide ((((n_b : Nat) : Int) : Int) > 3000)) rfl (fun hb1 => ?_) (fun hb1 => ?_)
    · replace hb1 := of_decide_eq_true hb1
      refine WK_keep [17, 5, 4, 3, 2] [1, 0] rfl rfl ?_
      refine WL_execS htb 11 [28, 5, 4, 3, 2] [1, 0] ⟨[(28, (.v (.bool true))), (5, (.v (.bool true))), (4, (.v (.bool false))), (3, (.p 1 0)), (2, (.p 0 0))], [(1, (.cells 24 [(.v (.slice A_c n_c c_c)), (.v (.slice A_d n_d c_d))])), (0, (.cells 24 [(.v (.slice A_a n_a c_a)), (.v (.slice A_b n_b c_b))]))], 2, [], []⟩ (by kernel_rfl) ?_
      refine WL_nil ?_
      refine WQ_code ?_
      refine WC_cond (b := true) rfl (fun _ => ?_) (fun h => by cases h)
      refine WC_seq (WC_region ?_)
      refine WL_execS htb 2 [4, 5, 3, 2] [1, 0] ⟨[(4, (.v (.bool true))), (5, (.v (.bool true))), (3, (.p 1 0)), (2, (.p 0 0))], [(1, (.cells 24 [(.v (.slice A_c n_c c_c)), (.v (.slice A_d n_d c_d))])), (0, (.cells 24 [(.v (.slice A_a n_a c_a)), (.v (.slice A_b n_b c_b))]))], 2, [], []⟩ (by kernel_rfl) ?_
      refine WL_nil ?_
      refine WQ_code ?_
      refine WC_ret ?_
      refine WQ_then_ret ?_
      exact WQ_done htb [(.v (.bool true))] _ (.inl rfl) rfl (by kernel_rfl) (fun ρ w hW => ⟨true, rfl, rfl⟩)
    · replace hb1 := of_decide_eq_false hb1
      refine WK_keep [17, 5, 4, 3, 2] [1, 0] rfl rfl ?_
      refine WL_execS htb 6 [23, 5, 4, 3, 2] [1, 0] ⟨[(23, (.v (.bool (decide ((((n_c : Nat) : Int) : Int) > 3000))))), (5, (.v (.bool true))), (4, (.v (.bool false))), (3, (.p 1 0)), (2, (.p 0 0))], [(1, (.cells 24 [(.v (.slice A_c n_c c_c)), (.v (.slice A_d n_d c_d))])), (0, (.cells 24 [(.v (.slice A_a n_a c_a)), (.v (.slice A_b n_b c_b))]))], 2, [], []⟩ (by kernel_rfl) ?_
      refine WK_split 23 (decide ((((n_c : Nat) : Int) : Int) > 3000)) rfl (fun hb2 => ?_) (fun hb2 => ?_)
      · replace hb2 := of_decide_eq_true hb2
        refine WK_keep [23, 5, 4, 3, 2] [1, 0] rfl rfl ?_
        refine WL_execS htb 5 [28, 5, 4, 3, 2] [1, 0] ⟨[(28, (.v (.bool true))), (5, (.v (.bool true))), (4, (.v (.bool false))), (3, (.p 1 0)), (2, (.p 0 0))], [(1, (.cells 24 [(.v (.slice A_c n_c c_c)), (.v (.slice A_d n_d c_d))])), (0, (.cells 24 [(.v (.slice A_a n_a c_a)), (.v (.slice A_b n_b c_b))]))], 2, [], []⟩ (by kernel_rfl) ?_
        refine WL_nil ?_
        refine WQ_code ?_
        refine WC_cond (b := true) rfl (fun _ => ?_) (fun h => by cases h)
        refine WC_seq (WC_region ?_)
        refine WL_execS htb 2 [4, 5, 3, 2] [1, 0] ⟨[(4, (.v (.bool true))), (5, (.v (.bool true))), (3, (.p 1 0)), (2, (.p 0 0))], [(1, (.cells 24 [(.v (.slice A_c n_c c_c)), (.v (.slice A_d n_d c_d))])), (0, (.cells 24 [(.v (.slice A_a n_a c_a)), (.v (.slice A_b n_b c_b))]))], 2, [], []⟩ (by kernel_rfl) ?_
        refine WL_nil ?_
        refine WQ_code ?_
        refine WC_ret ?_
        refine WQ_then_ret ?_
        exact WQ_done htb [(.v (.bool true))] _ (.inl rfl) rfl (by kernel_rfl) (fun ρ w hW => ⟨true, rfl, rfl⟩)
      · replace hb2 := of_decide_eq_false hb2
        refine WK_keep [23, 5, 4, 3, 2] [1, 0] rfl rfl ?_
        refine WL_execS htb 5 [28, 5, 4, 3, 2] [1, 0] ⟨[(28, (.v (.bool (decide ((((n_d : Nat) : Int) : Int) > 3000))))), (5, (.v (.bool true))), (4, (.v (.bool false))), (3, (.p 1 0)), (2, (.p 0 0))], [(1, (.cells 24 [(.v (.slice A_c n_c c_c)), (.v (.slice A_d n_d c_d))])), (0, (.cells 24 [(.v (.slice A_a n_a c_a)), (.v (.slice A_b n_b c_b))]))], 2, [], []⟩ (by kernel_rfl) ?_
        refine WL_nil ?_
        refine WQ_code ?_
        refine WC_cond (b := (decide ((((n_d : Nat) : Int) : Int) > 3000))) rfl (fun hb3 => ?_) (fun hb3 => ?_)
        · replace hb3 := of_decide_eq_true hb3
          refine WC_seq (WC_region ?_)
          refine WL_execS htb 2 [4, 5, 3, 2] [1, 0] ⟨[(4, (.v (.bool true))), (5, (.v (.bool true))), (3, (.p 1 0)), (2, (.p 0 0))], [(1, (.cells 24 [(.v (.slice A_c n_c c_c)), (.v (.slice A_d n_d c_d))])), (0, (.cells 24 [(.v (.slice A_a n_a c_a)), (.v (.slice A_b n_b c_b))]))], 2, [], []⟩ (by kernel_rfl) ?_
          refine WL_nil ?_
          refine WQ_code ?_
          refine WC_ret ?_
          refine WQ_then_ret ?_
          exact WQ_done htb [(.v (.bool true))] _ (.inl rfl) rfl (by kernel_rfl) (fun ρ w hW => ⟨true, rfl, rfl⟩)
        · replace hb3 := of_decide_eq_false hb3
          refine WC_skip ?_
          refine WQ_code ?_
          refine WK_keep [5, 4, 3, 2] [1, 0] rfl rfl ?_
          refine WK_freeze 1 rfl rfl rfl rfl ?_
          intro bk4 G3 hle hbk4
          replace h_a := h_a.mono hle
          replace h_b := h_b.mono hle
          replace h_c := h_c.mono hle
          replace h_d := h_d.mono hle
          have hz := FZ.cons (h := 1) hbk4 rfl (FZ.nil _)
          refine WK_freeze 0 rfl rfl rfl rfl ?_
          intro bk6 G5 hle hbk6
          replace h_a := h_a.mono hle
          replace h_b := h_b.mono hle
          replace h_c := h_c.mono hle
          replace h_d := h_d.mono hle
          replace hz := hz.mono hle
          have hz := FZ.cons (h := 0) hbk6 rfl hz
          refine WC_seq (WC_draw mixed ?_)
          refine WK_keep [5, 3, 2] [] rfl rfl ?_
          refine WD_takeL htb rfl (fun _ _ _ _ _ h => h) (Le.refl _) [0, 1, 2, 3, 5, 6] (fuel := 10) (listed' := #[true, true, true, true, false, true, true, false, false, false, false, false, false, false, false, false]) (S' := ⟨[(36, (.agg [(.v (.slice A_c n_c c_c)), (.v (.slice A_d n_d c_d))])), (35, (.agg [(.v (.slice A_a n_a c_a)), (.v (.slice A_b n_b c_b))])), (33, (.agg [(.v (.slice A_c n_c c_c)), (.v (.slice A_d n_d c_d))])), (32, (.agg [(.v (.slice A_a n_a c_a)), (.v (.slice A_b n_b c_b))])), (31, (.v (.bool true))), (30, (.v (.bool true))), (5, (.v (.bool true))), (3, (.p 1 0)), (2, (.p 0 0))], [], 2, [], [(0, bk6, (.cells 24 [(.v (.slice A_a n_a c_a)), (.v (.slice A_b n_b c_b))])), (1, bk4, (.cells 24 [(.v (.slice A_c n_c c_c)), (.v (.slice A_d n_d c_d))]))]⟩) hz (by kernel_rfl) rfl ?_
          refine WD_one 4 (by rfl) (by decide +kernel) (WOp_call 15 [(.agg [(.v (.slice A_a n_a c_a)), (.v (.slice A_b n_b c_b))]), (.agg [(.v (.slice A_c n_c c_c)), (.v (.slice A_d n_d c_d))])] (by kernel_rfl) (goes_of Try.func15 rfl rfl) (fun ρ w hW => same_ok hW.has (a1 := a) (a2 := b) (b1 := c) (b2 := d) h_a h_b h_c h_d) ?_)
          intro G2 v hle hΦ
          replace h_a := h_a.mono hle
          replace h_b := h_b.mono hle
          replace h_c := h_c.mono hle
          replace h_d := h_d.mono hle
          replace hz := hz.mono hle
          obtain ⟨r7, rfl, hR8⟩ := hΦ
          refine WD_on hle ?_
          refine WD_up hle ?_
          refine WD_one 7 (by rfl) (by decide +kernel) (WOp_call 14 [(.agg [(.v (.slice A_a n_a c_a)), (.v (.slice A_b n_b c_b))]), (.agg [(.v (.slice A_c n_c c_c)), (.v (.slice A_d n_d c_d))])] (by kernel_rfl) (goes_of Try.func14 rfl rfl) (fun ρ w hW => rsame_ok hW.has (a1 := a) (a2 := b) (b1 := c) (b2 := d) h_a h_b h_c h_d) ?_)
          intro G3 v hle hΦ
          replace h_a := h_a.mono hle
          replace h_b := h_b.mono hle
          replace h_c := h_c.mono hle
          replace h_d := h_d.mono hle
          replace hz := hz.mono hle
          obtain ⟨r9, rfl, hR10⟩ := hΦ
          refine WD_on hle ?_
          refine WD_up hle ?_
          refine WD_takeL htb rfl (fun _ _ _ _ _ h => h) (Le.refl _) [8, 9, 10] (fuel := 5) (listed' := #[true, true, true, true, true, true, true, true, true, true, true, false, false, false, false, false]) (S' := ⟨[(40, (.v (.bool (r7 == r9)))), (39, (.v (.bool (r7 == r9)))), (38, (.v (.bool (r7 == r9)))), (37, (.v (.bool r9))), (34, (.v (.bool r7))), (36, (.agg [(.v (.slice A_c n_c c_c)), (.v (.slice A_d n_d c_d))])), (35, (.agg [(.v (.slice A_a n_a c_a)), (.v (.slice A_b n_b c_b))])), (33, (.agg [(.v (.slice A_c n_c c_c)), (.v (.slice A_d n_d c_d))])), (32, (.agg [(.v (.slice A_a n_a c_a)), (.v (.slice A_b n_b c_b))])), (31, (.v (.bool true))), (30, (.v (.bool true))), (5, (.v (.bool true))), (3, (.p 1 0)), (2, (.p 0 0))], [], 2, [], [(0, bk6, (.cells 24 [(.v (.slice A_a n_a c_a)), (.v (.slice A_b n_b c_b))])), (1, bk4, (.cells 24 [(.v (.slice A_c n_c c_c)), (.v (.slice A_d n_d c_d))]))]⟩) hz (by kernel_rfl) rfl ?_
          refine WK_env [(40, (.v (.bool true))), (39, (.v (.bool (r7 == r9)))), (38, (.v (.bool (r7 == r9)))), (37, (.v (.bool r9))), (34, (.v (.bool r7))), (36, (.agg [(.v (.slice A_c n_c c_c)), (.v (.slice A_d n_d c_d))])), (35, (.agg [(.v (.slice A_a n_a c_a)), (.v (.slice A_b n_b c_b))])), (33, (.agg [(.v (.slice A_c n_c c_c)), (.v (.slice A_d n_d c_d))])), (32, (.agg [(.v (.slice A_a n_a c_a)), (.v (.slice A_b n_b c_b))])), (31, (.v (.bool true))), (30, (.v (.bool true))), (5, (.v (.bool true))), (3, (.p 1 0)), (2, (.p 0 0))] (fun ρ => ⟨rfl, (congrArg Value.bool (by rw [hR8, hR10]; simp)), ⟨rfl, rfl, ⟨rfl, rfl, ⟨rfl, rfl, ⟨rfl, rfl, ⟨rfl, rfl, ⟨rfl, rfl, ⟨rfl, rfl, ⟨rfl, rfl, ⟨rfl, rfl, ⟨rfl, rfl, ⟨rfl, rfl, ⟨rfl, rfl, ⟨rfl, rfl, trivial⟩⟩⟩⟩⟩⟩⟩⟩⟩⟩⟩⟩⟩⟩) ?_
          refine WD_takeL htb rfl (fun _ _ _ _ _ h => h) (Le.refl _) [11, 12] (fuel := 3) (listed' := #[true, true, true, true, true, true, true, true, true, true, true, true, true, false, false, false]) (S' := ⟨[(42, (.agg [(.v (.slice A_a n_a c_a)), (.v (.slice A_b n_b c_b))])), (41, (.agg [(.v (.slice A_a n_a c_a)), (.v (.slice A_b n_b c_b))])), (40, (.v (.bool true))), (39, (.v (.bool (r7 == r9)))), (38, (.v (.bool (r7 == r9)))), (37, (.v (.bool r9))), (34, (.v (.bool r7))), (36, (.agg [(.v (.slice A_c n_c c_c)), (.v (.slice A_d n_d c_d))])), (35, (.agg [(.v (.slice A_a n_a c_a)), (.v (.slice A_b n_b c_b))])), (33, (.agg [(.v (.slice A_c n_c c_c)), (.v (.slice A_d n_d c_d))])), (32, (.agg [(.v (.slice A_a n_a c_a)), (.v (.slice A_b n_b c_b))])), (31, (.v (.bool true))), (30, (.v (.bool true))), (5, (.v (.bool true))), (3, (.p 1 0)), (2, (.p 0 0))], [], 2, [], [(0, bk6, (.cells 24 [(.v (.slice A_a n_a c_a)), (.v (.slice A_b n_b c_b))])), (1, bk4, (.cells 24 [(.v (.slice A_c n_c c_c)), (.v (.slice A_d n_d c_d))]))]⟩) hz (by kernel_rfl) rfl ?_
          refine WD_one 13 (by rfl) (by decide +kernel) (WOp_call 15 [(.agg [(.v (.slice A_a n_a c_a)), (.v (.slice A_b n_b c_b))]), (.agg [(.v (.slice A_a n_a c_a)), (.v (.slice A_b n_b c_b))])] (by kernel_rfl) (goes_of Try.func15 rfl rfl) (fun ρ w hW => same_ok hW.has (a1 := a) (a2 := b) (b1 := a) (b2 := b) h_a h_b h_a h_b) ?_)
          intro G4 v hle hΦ
          replace h_a := h_a.mono hle
          replace h_b := h_b.mono hle
          replace h_c := h_c.mono hle
          replace h_d := h_d.mono hle
          replace hz := hz.mono hle
          obtain ⟨r11, rfl, hR12⟩ := hΦ
          refine WD_on hle ?_
          refine WD_up hle ?_
          replace hR12 := hR12.trans (show _ = true by simp)
          obtain rfl := hR12
          refine WD_takeL htb rfl (fun _ _ _ _ _ h => h) (Le.refl _) [14, 15] (fuel := 0) (listed' := #[true, true, true, true, true, true, true, true, true, true, true, true, true, true, true, true]) (S' := ⟨[(4, (.v (.bool true))), (44, (.v (.bool true))), (43, (.v (.bool true))), (42, (.agg [(.v (.slice A_a n_a c_a)), (.v (.slice A_b n_b c_b))])), (41, (.agg [(.v (.slice A_a n_a c_a)), (.v (.slice A_b n_b c_b))])), (40, (.v (.bool true))), (39, (.v (.bool (r7 == r9)))), (38, (.v (.bool (r7 == r9)))), (37, (.v (.bool r9))), (34, (.v (.bool r7))), (36, (.agg [(.v (.slice A_c n_c c_c)), (.v (.slice A_d n_d c_d))])), (35, (.agg [(.v (.slice A_a n_a c_a)), (.v (.slice A_b n_b c_b))])), (33, (.agg [(.v (.slice A_c n_c c_c)), (.v (.slice A_d n_d c_d))])), (32, (.agg [(.v (.slice A_a n_a c_a)), (.v (.slice A_b n_b c_b))])), (31, (.v (.bool true))), (30, (.v (.bool true))), (5, (.v (.bool true))), (3, (.p 1 0)), (2, (.p 0 0))], [], 2, [], [(0, bk6, (.cells 24 [(.v (.slice A_a n_a c_a)), (.v (.slice A_b n_b c_b))])), (1, bk4, (.cells 24 [(.v (.slice A_c n_c c_c)), (.v (.slice A_d n_d c_d))]))]⟩) hz (by kernel_rfl) rfl ?_
          refine WD_done (by decide +kernel) ?_
          refine WK_keep [4] [] rfl rfl ?_
          refine WQ_code ?_
          refine WC_ret ?_
          exact WQ_done htb [(.v (.bool true))] _ (.inl rfl) rfl (by kernel_rfl) (fun ρ w hW => ⟨true, rfl, rfl⟩)

end Go.Proofs.Ytbpajkjolhoflaa.Sym
