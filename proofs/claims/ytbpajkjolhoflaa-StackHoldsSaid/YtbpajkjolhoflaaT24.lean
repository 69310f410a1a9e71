/- Walks of functions that the laws of this seat reach, printed by a program of this session's. -/
import Derived.Test.YtbpajkjolhoflaaT23
import Derived.Test.YtbpajkjolhoflaaSymL
import Derived.Laws.Strings
import Derived.WideShapes
set_option linter.unusedSimpArgs false
set_option linter.unusedVariables false
set_option maxHeartbeats 4000000
namespace Go.Proofs.Ytbpajkjolhoflaa.Sym
open Go Go.Proofs Go.RowKit





theorem Part.re {Gb G : Heap} {b0 : Nat} {f : Nat → Nat} {g : Nat → Nat → Nat} {m n : Nat} {R R' : Nat → Prop} {D D' : Nat → Nat → Prop} (h : Part Gb G b0 f g m n R D) (hR : ∀ x, R x ↔ R' x) (hD : ∀ x y, D x y ↔ D' x y) : Part Gb G b0 f g m n R' D' := by
  have e1 : R = R' := funext fun x => propext (hR x)
  have e2 : D = D' := funext fun x => funext fun y => propext (hD x y)
  subst e1; subst e2; exact h
theorem at_of {G : Heap} {b T i : Nat} {a : Array Value} {v : Value} (h : G b = some (.cells a T (0, 0))) (hv : a[i]? = some v) : At G ((⟨b, 0, none⟩ : Addr).add (i * 1)) [v] := by
  rw [add_lit']
  refine ⟨a, T, (0, 0), h, rfl, fun j u hj => ?_⟩
  cases j with
  | zero => simp at hj; subst hj; simpa using hv
  | succ j => simp at hj
def Heap.del (G : Heap) (b : Nat) : Heap := fun k => if k = b then none else G k
theorem Heap.del_le (G : Heap) (b : Nat) : Le (Heap.del G b) G := fun k o hk => by
  unfold Heap.del at hk; split at hk
  · cases hk
  · exact hk
theorem Heap.del_ne {G : Heap} {b c : Nat} (h : b ≠ c) : Heap.del G b c = G c := by unfold Heap.del; rw [if_neg (Ne.symm h)]
theorem Heap.del_add {G G' : Heap} {b : Nat} {o : Obj} (h : Le (Heap.del G b) G') : Le (Heap.del G b) (G'.add b o) := fun k x hk => by
  have h1 := h k x hk
  unfold Heap.add
  by_cases e : k = b
  · subst e; unfold Heap.del at hk; rw [if_pos rfl] at hk; cases hk
  · rw [if_neg e]; exact h1
theorem fresh_ok {w : World} {G : Heap} (hG : Has w G) {m n : Nat} (hm : m ≤ 1000000) (hn : n ≤ 1000000) :
    Calls Try.prog 73 #[(.int .i64 ((m : Nat) : Int)), (.int .i64 ((n : Nat) : Int))] w (Ret w G fun v G' => ∃ b0 f g, v = .slice (some ⟨b0, 0, none⟩) m m ∧ Cube G G' b0 f g m (n + 1) (fun _ _ _ => false)) := by
  refine enter [(iN m), (iN n)] 41 Try.func73 rfl rfl rfl rfl hG ?_
  refine WC_seq (WC_region ?_)
  refine WL_execS htb 1 [0, 1] [] ⟨[(0, (iN m)), (1, (iN n))], [], 0, [], []⟩ (by kernel_rfl) ?_
  refine WL_nil ?_
  refine WQ_code ?_
  refine WC_seq (WC_region ?_)
  refine WL_execS htb 1 [8, 1] [] ⟨[(8, (iN m)), (1, (iN n))], [], 0, [], []⟩ (by kernel_rfl) ?_
  have hleb : Le G G := Le.refl G
  refine WL_op (WOp_make htb m 121 1 24 (.slice none 0 0) (by kernel_rfl) (by rfl) (by rfl) (tSlice (tSlice tBool)) [] (Sl.none0 _ _).reps rfl (by omega) (by unfold big; omega) (fun arr1 ho2 => ?_))
  show WL _ _ _ _ _ _ ⟨[(9, (.ls false 0 m m)), (8, (iN m)), (1, (iN n))], [(0, (.lst false 121 arr1))], 1, [], []⟩ _
  refine WK_freezeLN 0 rfl rfl ?_
  intro bk4 G3 hle hnew5 hbk4
  have hle6 := hle
  refine WK_env [(9, (sS (some ⟨bk4, 0, none⟩) m m)), (8, (iN m)), (1, (iN n))] (fun ρ => ⟨rfl, rfl, ⟨rfl, rfl, ⟨rfl, rfl, trivial⟩⟩⟩) ?_
  refine WL_execS htb 1 [5, 1] [] ⟨[(5, (sS (some ⟨bk4, 0, none⟩) m m)), (1, (iN n))], [], 1, [], []⟩ (by kernel_rfl) ?_
  refine WL_nil ?_
  refine WQ_code ?_
  refine WC_seq ?_
  refine WC_seq (WC_region ?_)
  refine WL_execS htb 3 [12, 11, 5, 1] [] ⟨[(12, (iI 0)), (11, (iN m)), (5, (sS (some ⟨bk4, 0, none⟩) m m)), (1, (iN n))], [], 1, [], []⟩ (by kernel_rfl) ?_
  refine WL_nil ?_
  refine WQ_code ?_
  refine WC_block ?_
  have hsz0 : arr1.size = m := by have := ho2.1; simpa [tSlice] using this
  have hP0 := Part.start hle6 hnew5 hbk4 hsz0 (n + 1)
  refine WK_keep [12, 11, 5, 1] [] rfl rfl ?_
  refine WK_env [(12, (iN 0)), (11, (iN m)), (5, (sS (some ⟨bk4, 0, none⟩) m m)), (1, (iN n))] (fun ρ => ⟨rfl, rfl, ⟨rfl, rfl, ⟨rfl, rfl, ⟨rfl, rfl, trivial⟩⟩⟩⟩) ?_
  refine WC_loop (ι := Nat × (Nat → Nat) × (Nat → Nat → Nat)) (fun (r, f, g) G7 => r ≤ m ∧ Part G G7 bk4 f g m (n + 1) (fun x => x < r) (fun x y => x < r ∧ y < n + 1 )) (fun (r, f, g) => ⟨[(12, (iN r)), (11, (iN m)), (5, (sS (some ⟨bk4, 0, none⟩) m m)), (1, (iN n))], [], 1, [], []⟩) (fun (r, f, g) => m - r) (0, (fun _ => 0), (fun _ _ => 0)) ⟨Nat.zero_le _, hP0.re (fun _ => Iff.rfl) (fun x y => ⟨fun h => h.elim, fun h => by omega⟩)⟩ rfl ?_
  rintro ⟨r, f, g⟩ G7 hF
  show WC _ _ _ _ _ ⟨[(12, (iN r)), (11, (iN m)), (5, (sS (some ⟨bk4, 0, none⟩) m m)), (1, (iN n))], [], 1, [], []⟩ _
  obtain ⟨hr, hP⟩ := hF
  refine WC_seq (WC_region ?_)
  refine WL_execS htb 1 [13, 12, 11, 5, 1] [] ⟨[(13, (bB (decide ((((r : Nat) : Int) : Int) < ((m : Nat) : Int))))), (12, (iN r)), (11, (iN m)), (5, (sS (some ⟨bk4, 0, none⟩) m m)), (1, (iN n))], [], 1, [], []⟩ (by kernel_rfl) ?_
  refine WL_nil ?_
  refine WQ_code ?_
  refine WC_seq ?_
  refine WC_cond (b := (decide ((((r : Nat) : Int) : Int) < ((m : Nat) : Int)))) rfl (fun hc => ?_) (fun hc => ?_)
  · replace hc := of_decide_eq_true hc
    refine WC_skip ?_
    refine WQ_code ?_
    refine WC_seq ?_
    refine WC_block ?_
    refine WC_seq (WC_region ?_)
    refine WL_execS htb 2 [6, 12, 11, 5, 1] [] ⟨[(6, (iN r)), (12, (iN r)), (11, (iN m)), (5, (sS (some ⟨bk4, 0, none⟩) m m)), (1, (iN n))], [], 1, [], []⟩ (by kernel_rfl) ?_
    refine WL_nil ?_
    refine WQ_code ?_
    refine WC_seq (WC_region ?_)
    refine WL_execS htb 4 [18, 16, 15, 6, 12, 11, 5, 1] [] ⟨[(18, (iI (IntKind.i64.wrap (((n : Nat) : Int) + 1)))), (16, (iN r)), (15, (sS (some ⟨bk4, 0, none⟩) m m)), (6, (iN r)), (12, (iN r)), (11, (iN m)), (5, (sS (some ⟨bk4, 0, none⟩) m m)), (1, (iN n))], [], 1, [], []⟩ (by kernel_rfl) ?_
    refine WK_env [(18, (iN (n + 1))), (16, (iN r)), (15, (sS (some ⟨bk4, 0, none⟩) m m)), (6, (iN r)), (12, (iN r)), (11, (iN m)), (5, (sS (some ⟨bk4, 0, none⟩) m m)), (1, (iN n))] (fun ρ => ⟨rfl, (congrArg (Value.int .i64) (by rw [wrap_id (by omega)]; first | rfl | omega)), ⟨rfl, rfl, ⟨rfl, rfl, ⟨rfl, rfl, ⟨rfl, rfl, ⟨rfl, rfl, ⟨rfl, rfl, ⟨rfl, rfl, trivial⟩⟩⟩⟩⟩⟩⟩⟩) ?_
    refine WL_op (WOp_make htb (n + 1) 84 1 24 (.slice none 0 0) (by kernel_rfl) (by rfl) (by rfl) (tSlice tBool) [] (Sl.none0 _ _).reps rfl (by omega) (by unfold big; omega) (fun arr8 ho9 => ?_))
    show WL _ _ _ _ _ _ ⟨[(19, (.ls false 1 (n + 1) (n + 1))), (18, (iN (n + 1))), (16, (iN r)), (15, (sS (some ⟨bk4, 0, none⟩) m m)), (6, (iN r)), (12, (iN r)), (11, (iN m)), (5, (sS (some ⟨bk4, 0, none⟩) m m)), (1, (iN n))], [(1, (.lst false 84 arr8))], 2, [], []⟩ _
    refine WK_freezeLN 1 rfl rfl ?_
    intro bk11 G10 hle hnew12 hbk11
    have hle13 := hle
    refine WK_env [(19, (sS (some ⟨bk11, 0, none⟩) (n + 1) (n + 1))), (18, (iN (n + 1))), (16, (iN r)), (15, (sS (some ⟨bk4, 0, none⟩) m m)), (6, (iN r)), (12, (iN r)), (11, (iN m)), (5, (sS (some ⟨bk4, 0, none⟩) m m)), (1, (iN n))] (fun ρ => ⟨rfl, rfl, ⟨rfl, rfl, ⟨rfl, rfl, ⟨rfl, rfl, ⟨rfl, rfl, ⟨rfl, rfl, ⟨rfl, rfl, ⟨rfl, rfl, ⟨rfl, rfl, trivial⟩⟩⟩⟩⟩⟩⟩⟩⟩) ?_
    refine WL_op (WOp_idx htb (⟨bk4, 0, none⟩) m ((r : Nat) : Int) 1 (by kernel_rfl) (by omega) (by omega) ?_)
    obtain ⟨a0, T0, ha0, hs0, _⟩ := (hP.mono hle13).top
    have hsz1 : arr8.size = n + 1 := by have := ho9.1; simpa [tSlice] using this
    have hP2 := hP.row hle13 hnew12 hbk11 hsz1 ha0 (r := r) (by omega) (by omega) (R' := fun x => x < r + 1) (fun x => by omega) (D' := fun x y => x < r ∧ y < n + 1 ∨ x = r ∧ y < 0) (fun x y => by omega)
    refine WL_op (WOp_stoG htb ((⟨bk4, 0, none⟩ : Addr).add (r * 1)) [(sS (some ⟨bk11, 0, none⟩) (n + 1) (n + 1))] [sv bk11 (n + 1)] (by kernel_rfl) (fun ρ => rfl) (off := r) (by simp [add_lit']) ha0 hP.new0 (fun p hp => by cases hp) (by show r + 1 ≤ a0.size; omega) ?_)
    refine WL_nil ?_
    refine WQ_code ?_
    refine WC_seq (WC_region ?_)
    refine WL_execS htb 2 [22, 21, 6, 12, 11, 5, 1] [] ⟨[(22, (iN r)), (21, (sS (some ⟨bk4, 0, none⟩) m m)), (6, (iN r)), (12, (iN r)), (11, (iN m)), (5, (sS (some ⟨bk4, 0, none⟩) m m)), (1, (iN n))], [], 2, [], []⟩ (by kernel_rfl) ?_
    obtain ⟨a2, T2, ha2, hs2, hv2⟩ := hP2.top
    have hv2' := hv2 r (by omega)
    simp only [if_true] at hv2'
    refine WL_op (WOp_idx htb (⟨bk4, 0, none⟩) m ((r : Nat) : Int) 1 (by kernel_rfl) (by omega) (by omega) ?_)
    have at14 := at_of ha2 hv2'
    refine WL_op (WOp_ld htb ((⟨bk4, 0, none⟩ : Addr).add (r * 1)) false 1 [.slice (some ⟨bk11, 0, none⟩) (n + 1) (n + 1)] (by kernel_rfl) at14 rfl (by decide) ?_)
    refine WL_execS htb 2 [26, 25, 6, 12, 11, 5, 1] [] ⟨[(26, (iI 0)), (25, (iN (n + 1))), (6, (iN r)), (12, (iN r)), (11, (iN m)), (5, (sS (some ⟨bk4, 0, none⟩) m m)), (1, (iN n))], [], 2, [], []⟩ (by kernel_rfl) ?_
    refine WL_nil ?_
    refine WQ_code ?_
    refine WC_block ?_
    refine WK_keep [26, 25, 6, 12, 11, 5, 1] [] rfl rfl ?_
    refine WK_env [(26, (iN 0)), (25, (iN (n + 1))), (6, (iN r)), (12, (iN r)), (11, (iN m)), (5, (sS (some ⟨bk4, 0, none⟩) m m)), (1, (iN n))] (fun ρ => ⟨rfl, rfl, ⟨rfl, rfl, ⟨rfl, rfl, ⟨rfl, rfl, ⟨rfl, rfl, ⟨rfl, rfl, ⟨rfl, rfl, trivial⟩⟩⟩⟩⟩⟩⟩) ?_
    refine WC_loop (ι := Nat × (Nat → Nat → Nat)) (fun (i, g2) G15 => i ≤ n + 1 ∧ Part G G15 bk4 (fun x => if x = r then bk11 else f x) g2 m (n + 1) (fun x => x < r + 1) (fun x y => x < r ∧ y < n + 1 ∨ x = r ∧ y < i)) (fun (i, g2) => ⟨[(26, (iN i)), (25, (iN (n + 1))), (6, (iN r)), (12, (iN r)), (11, (iN m)), (5, (sS (some ⟨bk4, 0, none⟩) m m)), (1, (iN n))], [], 2, [], []⟩) (fun (i, g2) => n + 1 - i) (0, g) ⟨Nat.zero_le _, hP2⟩ rfl ?_
    rintro ⟨i, g2⟩ G15 hF
    show WC _ _ _ _ _ ⟨[(26, (iN i)), (25, (iN (n + 1))), (6, (iN r)), (12, (iN r)), (11, (iN m)), (5, (sS (some ⟨bk4, 0, none⟩) m m)), (1, (iN n))], [], 2, [], []⟩ _
    obtain ⟨hi, hQ⟩ := hF
    refine WC_seq (WC_region ?_)
    refine WL_execS htb 1 [27, 26, 25, 6, 12, 11, 5, 1] [] ⟨[(27, (bB (decide ((((i : Nat) : Int) : Int) < (((n + 1) : Nat) : Int))))), (26, (iN i)), (25, (iN (n + 1))), (6, (iN r)), (12, (iN r)), (11, (iN m)), (5, (sS (some ⟨bk4, 0, none⟩) m m)), (1, (iN n))], [], 2, [], []⟩ (by kernel_rfl) ?_
    refine WL_nil ?_
    refine WQ_code ?_
    refine WC_seq ?_
    refine WC_cond (b := (decide ((((i : Nat) : Int) : Int) < (((n + 1) : Nat) : Int)))) rfl (fun hd => ?_) (fun hd => ?_)
    · replace hd := of_decide_eq_true hd
      obtain ⟨a3, T3, ha3, hs3, hv3⟩ := hQ.top
      have hv3' := hv3 r (by omega)
      simp only [if_true] at hv3'
      have hbb : bk11 ≠ bk4 := by have := hQ.ne1 r (by omega); simpa using this
      have hdl : Le (Heap.del G15 bk11) G15 := Heap.del_le _ _
      refine WC_skip ?_
      refine WQ_code ?_
      refine WC_seq ?_
      refine WC_block ?_
      refine WC_seq (WC_region ?_)
      refine WL_execS htb 2 [7, 26, 25, 6, 12, 11, 5, 1] [] ⟨[(7, (iN i)), (26, (iN i)), (25, (iN (n + 1))), (6, (iN r)), (12, (iN r)), (11, (iN m)), (5, (sS (some ⟨bk4, 0, none⟩) m m)), (1, (iN n))], [], 2, [], []⟩ (by kernel_rfl) ?_
      refine WL_nil ?_
      refine WQ_code ?_
      refine WC_drawG mixed (Heap.del G15 bk11) ?_
      refine WD_takeL htb rfl (fun _ _ _ _ _ h => h) hdl [0, 1, 4, 5, 6] (fuel := 5) (listed' := bts 10 115) (S' := ⟨[(35, (iI (IntKind.i64.wrap (((n : Nat) : Int) + 1)))), (34, (iN n)), (33, (iN i)), (30, (iN r)), (29, (sS (some ⟨bk4, 0, none⟩) m m)), (7, (iN i)), (26, (iN i)), (25, (iN (n + 1))), (6, (iN r)), (12, (iN r)), (11, (iN m)), (5, (sS (some ⟨bk4, 0, none⟩) m m)), (1, (iN n))], [], 2, [], []⟩) (FZ.nil _) (by kernel_rfl) rfl ?_
      refine WD_idx htb 2 (by rfl) rfl (by decide +kernel) (fun _ _ _ _ _ h => h) hdl (⟨bk4, 0, none⟩) m ((r : Nat) : Int) 1 (by kernel_rfl) (by omega) (by omega) ?_
      have ha3' : (Heap.del G15 bk11) bk4 = _ := (Heap.del_ne hbb).trans ha3
      have at16 := at_of ha3' hv3'
      refine WD_ld htb 3 (by rfl) rfl (by decide +kernel) (fun _ _ _ _ _ h => h) hdl ((⟨bk4, 0, none⟩ : Addr).add (r * 1)) false 1 [.slice (some ⟨bk11, 0, none⟩) (n + 1) (n + 1)] (by kernel_rfl) at16 rfl (by decide) ?_
      refine WK_env [(32, (sS (some ⟨bk11, 0, none⟩) (n + 1) (n + 1))), (31, (.v (.pointer (some ((⟨bk4, 0, none⟩ : Addr).add (r * 1)))))), (35, (iN (n + 1))), (34, (iN n)), (33, (iN i)), (30, (iN r)), (29, (sS (some ⟨bk4, 0, none⟩) m m)), (7, (iN i)), (26, (iN i)), (25, (iN (n + 1))), (6, (iN r)), (12, (iN r)), (11, (iN m)), (5, (sS (some ⟨bk4, 0, none⟩) m m)), (1, (iN n))] (fun ρ => ⟨rfl, rfl, ⟨rfl, rfl, ⟨rfl, (congrArg (Value.int .i64) (by rw [wrap_id (by omega)]; first | rfl | omega)), ⟨rfl, rfl, ⟨rfl, rfl, ⟨rfl, rfl, ⟨rfl, rfl, ⟨rfl, rfl, ⟨rfl, rfl, ⟨rfl, rfl, ⟨rfl, rfl, ⟨rfl, rfl, ⟨rfl, rfl, ⟨rfl, rfl, ⟨rfl, rfl, trivial⟩⟩⟩⟩⟩⟩⟩⟩⟩⟩⟩⟩⟩⟩⟩) ?_
      refine WD_one 7 (by rfl) (by decide +kernel) (WOp_make htb (n + 1) 4 1 1 (.bool false) (by kernel_rfl) (by rfl) (by rfl) tBool false (rep_bool _ false) rfl (by omega) (by unfold big; omega) (fun arr17 ho18 => WD_on hdl ?_))
      show WD _ _ _ _ _ _ _ _ _ ⟨[(36, (.ls false 2 (n + 1) (n + 1))), (32, (sS (some ⟨bk11, 0, none⟩) (n + 1) (n + 1))), (31, (.v (.pointer (some ((⟨bk4, 0, none⟩ : Addr).add (r * 1)))))), (35, (iN (n + 1))), (34, (iN n)), (33, (iN i)), (30, (iN r)), (29, (sS (some ⟨bk4, 0, none⟩) m m)), (7, (iN i)), (26, (iN i)), (25, (iN (n + 1))), (6, (iN r)), (12, (iN r)), (11, (iN m)), (5, (sS (some ⟨bk4, 0, none⟩) m m)), (1, (iN n))], [(2, (.lst false 4 arr17))], 3, [], []⟩
      refine WK_freezeLN 2 rfl rfl ?_
      intro bk20 G19 hle hnew21 hbk20
      have hle22 := hle
      refine WK_env [(36, (sS (some ⟨bk20, 0, none⟩) (n + 1) (n + 1))), (32, (sS (some ⟨bk11, 0, none⟩) (n + 1) (n + 1))), (31, (.v (.pointer (some ((⟨bk4, 0, none⟩ : Addr).add (r * 1)))))), (35, (iN (n + 1))), (34, (iN n)), (33, (iN i)), (30, (iN r)), (29, (sS (some ⟨bk4, 0, none⟩) m m)), (7, (iN i)), (26, (iN i)), (25, (iN (n + 1))), (6, (iN r)), (12, (iN r)), (11, (iN m)), (5, (sS (some ⟨bk4, 0, none⟩) m m)), (1, (iN n))] (fun ρ => ⟨rfl, rfl, ⟨rfl, rfl, ⟨rfl, rfl, ⟨rfl, rfl, ⟨rfl, rfl, ⟨rfl, rfl, ⟨rfl, rfl, ⟨rfl, rfl, ⟨rfl, rfl, ⟨rfl, rfl, ⟨rfl, rfl, ⟨rfl, rfl, ⟨rfl, rfl, ⟨rfl, rfl, ⟨rfl, rfl, ⟨rfl, rfl, trivial⟩⟩⟩⟩⟩⟩⟩⟩⟩⟩⟩⟩⟩⟩⟩⟩) ?_
      replace hdl := Le.trans hdl hle22
      refine WD_idx htb 8 (by rfl) rfl (by decide +kernel) (fun _ _ _ _ _ h => h) hdl (⟨bk11, 0, none⟩) (n + 1) ((i : Nat) : Int) 1 (by kernel_rfl) (by omega) (by omega) ?_
      obtain ⟨a5, T5, ha5, hs5, _⟩ := (hQ.mono hle22).mid r (by omega)
      simp only [if_true] at ha5
      obtain ⟨hsz4, hfl4⟩ := ownL_falses ho18
      have hQ2 := hQ.cell hle22 hnew21 hbk20 hsz4 hfl4 (r := r) (by omega) (by simp only [if_true]; exact ha5) (i := i) (by omega) (by omega) (D' := fun x y => x < r ∧ y < n + 1 ∨ x = r ∧ y < i + 1) (fun x y => by omega)
      simp only [if_true] at hQ2
      refine WD_one 9 (by rfl) (by decide +kernel) (WOp_stoG htb ((⟨bk11, 0, none⟩ : Addr).add (i * 1)) [(sS (some ⟨bk20, 0, none⟩) (n + 1) (n + 1))] [sv bk20 (n + 1)] (by kernel_rfl) (fun ρ => rfl) (off := i) (by simp [add_lit']) ha5 (by have := hQ.new1 r (by omega); simpa using this) (fun p hp => by cases hp) (by show i + 1 ≤ a5.size; omega) (WD_on (Heap.del_add hdl) ?_))
      refine WD_done (by decide +kernel) ?_
      refine WK_keep [26, 25, 6, 12, 11, 5, 1] [] rfl rfl ?_
      refine WQ_blk ?_
      refine WQ_code ?_
      refine WC_region ?_
      refine WL_execS htb 2 [26, 25, 6, 12, 11, 5, 1] [] ⟨[(26, (iI (IntKind.i64.wrap (((i : Nat) : Int) + 1)))), (25, (iN (n + 1))), (6, (iN r)), (12, (iN r)), (11, (iN m)), (5, (sS (some ⟨bk4, 0, none⟩) m m)), (1, (iN n))], [], 3, [], []⟩ (by kernel_rfl) ?_
      refine WL_nil ?_
      refine WK_env [(26, (iN (i + 1))), (25, (iN (n + 1))), (6, (iN r)), (12, (iN r)), (11, (iN m)), (5, (sS (some ⟨bk4, 0, none⟩) m m)), (1, (iN n))] (fun ρ => ⟨rfl, (congrArg (Value.int .i64) (by rw [wrap_id (by omega)]; first | rfl | omega)), ⟨rfl, rfl, ⟨rfl, rfl, ⟨rfl, rfl, ⟨rfl, rfl, ⟨rfl, rfl, ⟨rfl, rfl, trivial⟩⟩⟩⟩⟩⟩⟩) ?_
      refine WK_keep [26, 25, 6, 12, 11, 5, 1] [] rfl rfl ?_
      exact WQ_next ((i + 1), _) (by show n + 1 - (i + 1) < n + 1 - i; omega) ⟨by omega, hQ2⟩ (fun ρ a w h => h)
    · replace hd := of_decide_eq_false hd
      refine WC_exit ?_
      refine WQ_then_exit ?_
      refine WQ_then_exit ?_
      refine WQ_hit ?_
      refine WQ_blk ?_
      refine WQ_code ?_
      refine WC_region ?_
      refine WL_execS htb 2 [12, 11, 5, 1] [] ⟨[(12, (iI (IntKind.i64.wrap (((r : Nat) : Int) + 1)))), (11, (iN m)), (5, (sS (some ⟨bk4, 0, none⟩) m m)), (1, (iN n))], [], 2, [], []⟩ (by kernel_rfl) ?_
      refine WL_nil ?_
      refine WK_env [(12, (iN (r + 1))), (11, (iN m)), (5, (sS (some ⟨bk4, 0, none⟩) m m)), (1, (iN n))] (fun ρ => ⟨rfl, (congrArg (Value.int .i64) (by rw [wrap_id (by omega)]; first | rfl | omega)), ⟨rfl, rfl, ⟨rfl, rfl, ⟨rfl, rfl, trivial⟩⟩⟩⟩) ?_
      refine WK_keep [12, 11, 5, 1] [] rfl rfl ?_
      exact WQ_next ((r + 1), _, g2) (by show m - (r + 1) < m - r; omega) ⟨by omega, hQ.re (fun x => Iff.rfl) (fun x y => by omega)⟩ (fun ρ a w h => h)
  · replace hc := of_decide_eq_false hc
    refine WC_exit ?_
    refine WQ_then_exit ?_
    refine WQ_then_exit ?_
    refine WQ_hit ?_
    refine WQ_code ?_
    refine WC_seq (WC_region ?_)
    refine WL_execS htb 2 [4] [] ⟨[(4, (sS (some ⟨bk4, 0, none⟩) m m))], [], 1, [], []⟩ (by kernel_rfl) ?_
    refine WL_nil ?_
    refine WQ_code ?_
    refine WC_ret ?_
    exact WQ_done htb [(sS (some ⟨bk4, 0, none⟩) m m)] _ (.inl rfl) rfl (by kernel_rfl) (fun ρ w hW => ⟨bk4, f, g, rfl, hP.cube (fun x hx => by omega) (fun x y hx hy => by omega)⟩)

end Go.Proofs.Ytbpajkjolhoflaa.Sym
