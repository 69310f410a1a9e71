/- Walks of functions that the laws of this seat reach, printed by a program of this session's. -/
import Derived.Test.YtbpajkjolhoflaaT16
import Derived.Laws.Strings
import Derived.WideShapes
set_option linter.unusedSimpArgs false
set_option linter.unusedVariables false
set_option maxHeartbeats 4000000
namespace Go.Proofs.Ytbpajkjolhoflaa.Sym
open Go Go.Proofs Go.RowKit
theorem str_inj {a b : ByteArray} (h : a.toList = b.toList) : a = b := WideShapes.bytes_inj (by rw [← ByteArray.toList_eq, ← ByteArray.toList_eq, h])
theorem str_ne {a b : ByteArray} (h : a.toList ≠ b.toList) : a ≠ b := fun e => h (by rw [e])
def hasB (xs : List ByteArray) (x : ByteArray) : Bool := xs.any fun y => decide (y = x)
theorem hasB_true {xs : List ByteArray} {x : ByteArray} : hasB xs x = true ↔ x ∈ xs := by
  unfold hasB; rw [List.any_eq_true]
  exact ⟨fun ⟨y, h1, h2⟩ => of_decide_eq_true h2 ▸ h1, fun h => ⟨x, h, decide_eq_true rfl⟩⟩
theorem has_yes {xs : List ByteArray} {x y : ByteArray} {i : Nat} (h : xs[i]? = some y) (he : y.toList = x.toList) : true = hasB xs x := by
  have := str_inj he; subst this
  exact (hasB_true.2 (List.mem_of_getElem? h)).symm
theorem has_step {xs : List ByteArray} {x y : ByteArray} {i : Nat} (h : xs[i]? = some y) (he : y.toList ≠ x.toList) (hn : x ∉ xs.take i) : x ∉ xs.take (i + 1) := by
  rw [take_succ' h]; simp only [List.mem_append, List.mem_singleton, not_or]
  exact ⟨hn, fun e => str_ne he e.symm⟩
theorem has_no {xs : List ByteArray} {x : ByteArray} {i : Nat} (hn : x ∉ xs.take i) (hi : xs.length ≤ i) : false = hasB xs x := by
  rw [List.take_of_length_le hi] at hn
  cases hb : hasB xs x with
  | false => rfl
  | true => exact absurd (hasB_true.1 hb) hn
def placeB (xs : List ByteArray) (x : ByteArray) : Int := match xs.findIdx? (fun y => decide (y = x)) with
  | some i => (i : Int)
  | none => -1
theorem place_yes {xs : List ByteArray} {x y : ByteArray} {i : Nat} (h : xs[i]? = some y) (he : y.toList = x.toList) (hn : x ∉ xs.take i) : ((i : Nat) : Int) = placeB xs x := by
  have := str_inj he; subst this
  have e : xs.findIdx? (fun z => decide (z = y)) = some i := by
    obtain ⟨hl, hy⟩ := List.getElem?_eq_some_iff.1 h
    rw [List.findIdx?_eq_some_iff_getElem]
    refine ⟨hl, by simp [hy], fun j hj => ?_⟩
    have : xs[j] ≠ y := fun e => hn (by rw [← e]; exact List.mem_take_iff_getElem.2 ⟨j, by omega, rfl⟩)
    simpa using this
  unfold placeB; rw [e]
theorem place_no {xs : List ByteArray} {x : ByteArray} {i : Nat} (hn : x ∉ xs.take i) (hi : xs.length ≤ i) : -1 = placeB xs x := by
  rw [List.take_of_length_le hi] at hn
  have e : xs.findIdx? (fun z => decide (z = x)) = none := by
    rw [List.findIdx?_eq_none_iff]
    intro z hz
    have : z ≠ x := fun e => hn (e ▸ hz)
    simpa using this
  unfold placeB; rw [e]
theorem eq_caseS1 {xs ys : List ByteArray} {i : Nat} {x y : ByteArray} (h1 : xs[i]? = some x) (h2 : ys[i]? = some y) (h : x.toList ≠ y.toList) : false = decide (xs = ys) := by
  have : xs ≠ ys := fun e => str_ne h (by subst e; rw [h1] at h2; injection h2)
  simp [this]
theorem eq_caseS2 {xs ys : List ByteArray} {i : Nat} {x y : ByteArray} (ht : xs.take i = ys.take i) (h1 : xs[i]? = some x) (h2 : ys[i]? = some y) (h : x.toList = y.toList) : xs.take (i + 1) = ys.take (i + 1) := by
  rw [take_succ' h1, take_succ' h2, ht, str_inj h]
def WithinI (t r : Nat) (k : Int) : Prop := k < (t : Int) ∧ (k < 0 → - k - 1 < (r : Int))
instance (t r : Nat) (k : Int) : Decidable (WithinI t r k) := by unfold WithinI; infer_instance
theorem all_step {α : Type} {p : α → Prop} {xs : List α} {x : α} {i : Nat} (h : xs[i]? = some x) (hn : ∀ k ∈ xs.take i, p k) (hp : p x) : ∀ k ∈ xs.take (i + 1), p k := by
  rw [take_succ' h]
  intro k hk
  rcases List.mem_append.1 hk with hk | hk
  · exact hn k hk
  · rw [List.mem_singleton.1 hk]; exact hp
theorem all_no {α : Type} {p : α → Prop} [DecidablePred p] {xs : List α} {x : α} {i : Nat} (h : xs[i]? = some x) (hp : ¬ p x) : false = decide (∀ k ∈ xs, p k) :=
  (decide_eq_false fun hh => hp (hh x (List.mem_of_getElem? h))).symm
theorem all_yes {α : Type} {p : α → Prop} [DecidablePred p] {xs : List α} {i : Nat} (hn : ∀ k ∈ xs.take i, p k) (hi : xs.length ≤ i) : true = decide (∀ k ∈ xs, p k) := by
  rw [List.take_of_length_le hi] at hn
  exact (decide_eq_true hn).symm
theorem has_ok {w : World} {G : Heap} (hG : Has w G) {xs : (List ByteArray)} {A_xs : Option Addr} {n_xs : Nat} {c_xs : Nat} {x : ByteArray} (h_xs : Sl tStr G A_xs n_xs c_xs xs) (h_x : x.size ≤ big) :
    Calls Try.prog 68 #[(.slice A_xs n_xs c_xs), (.string x)] w (Ret w G fun v G' => ∃ (b : Bool), v = .bool b ∧ (b = hasB xs x)) := by
  have lh_xs := h_xs.len'
  refine enter [(sS A_xs n_xs c_xs), (tS x)] 17 Try.func68 rfl rfl rfl rfl hG ?_
  refine WC_seq (WC_region ?_)
  refine WL_execS htb 1 [0, 1] [] ⟨[(0, (sS A_xs n_xs c_xs)), (1, (tS x))], [], 0, [], []⟩ (by kernel_rfl) ?_
  refine WL_nil ?_
  refine WQ_code ?_
  refine WC_seq ?_
  refine WC_seq (WC_region ?_)
  refine WL_execS htb 3 [9, 8, 7, 1] [] ⟨[(9, (iI 0)), (8, (iN n_xs)), (7, (sS A_xs n_xs c_xs)), (1, (tS x))], [], 0, [], []⟩ (by kernel_rfl) ?_
  refine WL_nil ?_
  refine WQ_code ?_
  refine WC_block ?_
  refine WK_keep [9, 8, 7, 1] [] rfl rfl ?_
  refine WK_env [(9, (iN 0)), (8, (iN n_xs)), (7, (sS A_xs n_xs c_xs)), (1, (tS x))] (fun ρ => ⟨rfl, rfl, ⟨rfl, rfl, ⟨rfl, rfl, ⟨rfl, rfl, trivial⟩⟩⟩⟩) ?_
  refine WC_loop (ι := Nat) (fun i G1 => Le G G1 ∧ (i ≤ n_xs ∧ x ∉ xs.take i)) (fun i => ⟨[(9, (iN i)), (8, (iN n_xs)), (7, (sS A_xs n_xs c_xs)), (1, (tS x))], [], 0, [], []⟩) (fun i => n_xs - i) (0) ⟨Le.refl _, ⟨Nat.zero_le _, by simp⟩⟩ rfl ?_
  rintro i G1 ⟨hle, hF⟩
  show WC _ _ _ _ _ ⟨[(9, (iN i)), (8, (iN n_xs)), (7, (sS A_xs n_xs c_xs)), (1, (tS x))], [], 0, [], []⟩ _
  replace h_xs := h_xs.mono hle
  have hc2 := hle
  obtain ⟨hi, hn⟩ := hF
  refine WC_seq (WC_region ?_)
  refine WL_execS htb 1 [10, 9, 8, 7, 1] [] ⟨[(10, (bB (decide ((((i : Nat) : Int) : Int) < ((n_xs : Nat) : Int))))), (9, (iN i)), (8, (iN n_xs)), (7, (sS A_xs n_xs c_xs)), (1, (tS x))], [], 0, [], []⟩ (by kernel_rfl) ?_
  refine WL_nil ?_
  refine WQ_code ?_
  refine WC_seq ?_
  refine WC_cond (b := (decide ((((i : Nat) : Int) : Int) < ((n_xs : Nat) : Int)))) rfl (fun hc => ?_) (fun hc => ?_)
  · replace hc := of_decide_eq_true hc
    refine WC_skip ?_
    refine WQ_code ?_
    refine WC_seq ?_
    refine WC_block ?_
    refine WC_seq (WC_region ?_)
    obtain ⟨q3, rfl⟩ := h_xs.ptr (by omega)
    obtain ⟨x6, _, hx4, ⟨rfl, hn7⟩, at5⟩ := h_xs.get i (by omega)
    replace at5 : At G1 (q3.add (i * 1)) [.string x6] := at5
    refine WL_op (WOp_idx htb q3 n_xs ((i : Nat) : Int) 1 (by kernel_rfl) (by omega) (by omega) ?_)
    refine WL_op (WOp_ld htb (q3.add (i * 1)) false 1 [.string x6] (by kernel_rfl) at5 rfl (by decide) ?_)
    refine WL_execS htb 1 [6, 9, 8, 7, 1] [] ⟨[(6, (tS x6)), (9, (iN i)), (8, (iN n_xs)), (7, (sS (some q3) n_xs c_xs)), (1, (tS x))], [], 0, [], []⟩ (by kernel_rfl) ?_
    refine WL_nil ?_
    refine WQ_code ?_
    refine WC_seq (WC_region ?_)
    refine WL_execS htb 3 [15, 9, 8, 7, 1] [] ⟨[(15, (bB ((x6 : ByteArray).toList == (x : ByteArray).toList))), (9, (iN i)), (8, (iN n_xs)), (7, (sS (some q3) n_xs c_xs)), (1, (tS x))], [], 0, [], []⟩ (by kernel_rfl) ?_
    refine WL_nil ?_
    refine WQ_code ?_
    refine WC_cond (b := ((x6 : ByteArray).toList == (x : ByteArray).toList)) rfl (fun hd => ?_) (fun hd => ?_)
    · replace hd := eq_of_beq hd
      refine WC_seq (WC_region ?_)
      refine WL_execS htb 1 [4] [] ⟨[(4, (bB true))], [], 0, [], []⟩ (by kernel_rfl) ?_
      refine WL_nil ?_
      refine WQ_code ?_
      refine WC_ret ?_
      refine WQ_blk_ret ?_
      refine WQ_then_ret ?_
      refine WQ_then_ret ?_
      refine WQ_blk_ret ?_
      refine WQ_then_ret ?_
      exact WQ_done htb [(bB true)] _ (.inl rfl) rfl (by kernel_rfl) (fun ρ w hW => ⟨true, rfl, has_yes hx4 hd⟩)
    · replace hd := ne_of_beq_false hd
      refine WC_skip ?_
      refine WQ_blk ?_
      refine WQ_code ?_
      refine WC_region ?_
      refine WL_execS htb 2 [9, 8, 7, 1] [] ⟨[(9, (iI (IntKind.i64.wrap (((i : Nat) : Int) + 1)))), (8, (iN n_xs)), (7, (sS (some q3) n_xs c_xs)), (1, (tS x))], [], 0, [], []⟩ (by kernel_rfl) ?_
      refine WL_nil ?_
      refine WK_env [(9, (iN (i + 1))), (8, (iN n_xs)), (7, (sS (some q3) n_xs c_xs)), (1, (tS x))] (fun ρ => ⟨rfl, (congrArg (Value.int .i64) (by rw [wrap_id (by omega)]; first | rfl | omega)), ⟨rfl, rfl, ⟨rfl, rfl, ⟨rfl, rfl, trivial⟩⟩⟩⟩) ?_
      refine WK_keep [9, 8, 7, 1] [] rfl rfl ?_
      exact WQ_next ((i + 1)) (by show n_xs - (i + 1) < n_xs - i; omega) ⟨hc2, ⟨by omega, has_step hx4 hd hn⟩⟩ (fun ρ a w h => h)
  · replace hc := of_decide_eq_false hc
    refine WC_exit ?_
    refine WQ_then_exit ?_
    refine WQ_then_exit ?_
    refine WQ_hit ?_
    refine WQ_code ?_
    refine WC_seq (WC_region ?_)
    refine WL_execS htb 1 [4] [] ⟨[(4, (bB false))], [], 0, [], []⟩ (by kernel_rfl) ?_
    refine WL_nil ?_
    refine WQ_code ?_
    refine WC_ret ?_
    exact WQ_done htb [(bB false)] _ (.inl rfl) rfl (by kernel_rfl) (fun ρ w hW => ⟨false, rfl, has_no hn (by omega)⟩)

theorem place_ok {w : World} {G : Heap} (hG : Has w G) {xs : (List ByteArray)} {A_xs : Option Addr} {n_xs : Nat} {c_xs : Nat} {x : ByteArray} (h_xs : Sl tStr G A_xs n_xs c_xs xs) (h_x : x.size ≤ big) :
    Calls Try.prog 71 #[(.slice A_xs n_xs c_xs), (.string x)] w (Ret w G fun v G' => ∃ (r : Int), v = .int .i64 r ∧ (-9223372036854775808 ≤ r ∧ r ≤ 9223372036854775807) ∧ (r = placeB xs x)) := by
  have lh_xs := h_xs.len'
  refine enter [(sS A_xs n_xs c_xs), (tS x)] 19 Try.func71 rfl rfl rfl rfl hG ?_
  refine WC_seq (WC_region ?_)
  refine WL_execS htb 1 [0, 1] [] ⟨[(0, (sS A_xs n_xs c_xs)), (1, (tS x))], [], 0, [], []⟩ (by kernel_rfl) ?_
  refine WL_nil ?_
  refine WQ_code ?_
  refine WC_seq ?_
  refine WC_seq (WC_region ?_)
  refine WL_execS htb 3 [9, 8, 7, 1] [] ⟨[(9, (iI 0)), (8, (iN n_xs)), (7, (sS A_xs n_xs c_xs)), (1, (tS x))], [], 0, [], []⟩ (by kernel_rfl) ?_
  refine WL_nil ?_
  refine WQ_code ?_
  refine WC_block ?_
  refine WK_keep [9, 8, 7, 1] [] rfl rfl ?_
  refine WK_env [(9, (iN 0)), (8, (iN n_xs)), (7, (sS A_xs n_xs c_xs)), (1, (tS x))] (fun ρ => ⟨rfl, rfl, ⟨rfl, rfl, ⟨rfl, rfl, ⟨rfl, rfl, trivial⟩⟩⟩⟩) ?_
  refine WC_loop (ι := Nat) (fun i G1 => Le G G1 ∧ (i ≤ n_xs ∧ x ∉ xs.take i)) (fun i => ⟨[(9, (iN i)), (8, (iN n_xs)), (7, (sS A_xs n_xs c_xs)), (1, (tS x))], [], 0, [], []⟩) (fun i => n_xs - i) (0) ⟨Le.refl _, ⟨Nat.zero_le _, by simp⟩⟩ rfl ?_
  rintro i G1 ⟨hle, hF⟩
  show WC _ _ _ _ _ ⟨[(9, (iN i)), (8, (iN n_xs)), (7, (sS A_xs n_xs c_xs)), (1, (tS x))], [], 0, [], []⟩ _
  replace h_xs := h_xs.mono hle
  have hc2 := hle
  obtain ⟨hi, hn⟩ := hF
  refine WC_seq (WC_region ?_)
  refine WL_execS htb 1 [10, 9, 8, 7, 1] [] ⟨[(10, (bB (decide ((((i : Nat) : Int) : Int) < ((n_xs : Nat) : Int))))), (9, (iN i)), (8, (iN n_xs)), (7, (sS A_xs n_xs c_xs)), (1, (tS x))], [], 0, [], []⟩ (by kernel_rfl) ?_
  refine WL_nil ?_
  refine WQ_code ?_
  refine WC_seq ?_
  refine WC_cond (b := (decide ((((i : Nat) : Int) : Int) < ((n_xs : Nat) : Int)))) rfl (fun hc => ?_) (fun hc => ?_)
  · replace hc := of_decide_eq_true hc
    refine WC_skip ?_
    refine WQ_code ?_
    refine WC_seq ?_
    refine WC_block ?_
    refine WC_seq (WC_region ?_)
    refine WL_execS htb 1 [11, 9, 8, 7, 1] [] ⟨[(11, (iN i)), (9, (iN i)), (8, (iN n_xs)), (7, (sS A_xs n_xs c_xs)), (1, (tS x))], [], 0, [], []⟩ (by kernel_rfl) ?_
    obtain ⟨q3, rfl⟩ := h_xs.ptr (by omega)
    obtain ⟨x6, _, hx4, ⟨rfl, hn7⟩, at5⟩ := h_xs.get i (by omega)
    replace at5 : At G1 (q3.add (i * 1)) [.string x6] := at5
    refine WL_op (WOp_idx htb q3 n_xs ((i : Nat) : Int) 1 (by kernel_rfl) (by omega) (by omega) ?_)
    refine WL_op (WOp_ld htb (q3.add (i * 1)) false 1 [.string x6] (by kernel_rfl) at5 rfl (by decide) ?_)
    refine WL_execS htb 2 [6, 5, 9, 8, 7, 1] [] ⟨[(6, (tS x6)), (5, (iN i)), (9, (iN i)), (8, (iN n_xs)), (7, (sS (some q3) n_xs c_xs)), (1, (tS x))], [], 0, [], []⟩ (by kernel_rfl) ?_
    refine WL_nil ?_
    refine WQ_code ?_
    refine WC_seq (WC_region ?_)
    refine WL_execS htb 3 [16, 5, 9, 8, 7, 1] [] ⟨[(16, (bB ((x6 : ByteArray).toList == (x : ByteArray).toList))), (5, (iN i)), (9, (iN i)), (8, (iN n_xs)), (7, (sS (some q3) n_xs c_xs)), (1, (tS x))], [], 0, [], []⟩ (by kernel_rfl) ?_
    refine WL_nil ?_
    refine WQ_code ?_
    refine WC_cond (b := ((x6 : ByteArray).toList == (x : ByteArray).toList)) rfl (fun hd => ?_) (fun hd => ?_)
    · replace hd := eq_of_beq hd
      refine WC_seq (WC_region ?_)
      refine WL_execS htb 2 [4] [] ⟨[(4, (iN i))], [], 0, [], []⟩ (by kernel_rfl) ?_
      refine WL_nil ?_
      refine WQ_code ?_
      refine WC_ret ?_
      refine WQ_blk_ret ?_
      refine WQ_then_ret ?_
      refine WQ_then_ret ?_
      refine WQ_blk_ret ?_
      refine WQ_then_ret ?_
      exact WQ_done htb [(iN i)] _ (.inl rfl) rfl (by kernel_rfl) (fun ρ w hW => ⟨((i : Nat) : Int), rfl, (by omega), place_yes hx4 hd hn⟩)
    · replace hd := ne_of_beq_false hd
      refine WC_skip ?_
      refine WQ_blk ?_
      refine WQ_code ?_
      refine WC_region ?_
      refine WL_execS htb 2 [9, 8, 7, 1] [] ⟨[(9, (iI (IntKind.i64.wrap (((i : Nat) : Int) + 1)))), (8, (iN n_xs)), (7, (sS (some q3) n_xs c_xs)), (1, (tS x))], [], 0, [], []⟩ (by kernel_rfl) ?_
      refine WL_nil ?_
      refine WK_env [(9, (iN (i + 1))), (8, (iN n_xs)), (7, (sS (some q3) n_xs c_xs)), (1, (tS x))] (fun ρ => ⟨rfl, (congrArg (Value.int .i64) (by rw [wrap_id (by omega)]; first | rfl | omega)), ⟨rfl, rfl, ⟨rfl, rfl, ⟨rfl, rfl, trivial⟩⟩⟩⟩) ?_
      refine WK_keep [9, 8, 7, 1] [] rfl rfl ?_
      exact WQ_next ((i + 1)) (by show n_xs - (i + 1) < n_xs - i; omega) ⟨hc2, ⟨by omega, has_step hx4 hd hn⟩⟩ (fun ρ a w h => h)
  · replace hc := of_decide_eq_false hc
    refine WC_exit ?_
    refine WQ_then_exit ?_
    refine WQ_then_exit ?_
    refine WQ_hit ?_
    refine WQ_code ?_
    refine WC_seq (WC_region ?_)
    refine WL_execS htb 1 [4] [] ⟨[(4, (iI (-1)))], [], 0, [], []⟩ (by kernel_rfl) ?_
    refine WL_nil ?_
    refine WQ_code ?_
    refine WC_ret ?_
    exact WQ_done htb [(iI (-1))] _ (.inl rfl) rfl (by kernel_rfl) (fun ρ w hW => ⟨(-1), rfl, (by omega), place_no hn (by omega)⟩)

theorem sameNames_ok {w : World} {G : Heap} (hG : Has w G) {xs : (List ByteArray)} {A_xs : Option Addr} {n_xs : Nat} {c_xs : Nat} {ys : (List ByteArray)} {A_ys : Option Addr} {n_ys : Nat} {c_ys : Nat} (h_xs : Sl tStr G A_xs n_xs c_xs xs) (h_ys : Sl tStr G A_ys n_ys c_ys ys) :
    Calls Try.prog 72 #[(.slice A_xs n_xs c_xs), (.slice A_ys n_ys c_ys)] w (Ret w G fun v G' => ∃ (b : Bool), v = .bool b ∧ (b = decide (xs = ys))) := by
  have lh_xs := h_xs.len'
  have lh_ys := h_ys.len'
  refine enter [(sS A_xs n_xs c_xs), (sS A_ys n_ys c_ys)] 26 Try.func72 rfl rfl rfl rfl hG ?_
  refine WC_seq (WC_region ?_)
  refine WL_execS htb 1 [0, 1] [] ⟨[(0, (sS A_xs n_xs c_xs)), (1, (sS A_ys n_ys c_ys))], [], 0, [], []⟩ (by kernel_rfl) ?_
  refine WL_nil ?_
  refine WQ_code ?_
  refine WC_seq ?_
  refine WC_seq (WC_region ?_)
  refine WL_execS htb 5 [10, 0, 1] [] ⟨[(10, (bB ((((n_xs : Nat) : Int) : Int) != ((n_ys : Nat) : Int)))), (0, (sS A_xs n_xs c_xs)), (1, (sS A_ys n_ys c_ys))], [], 0, [], []⟩ (by kernel_rfl) ?_
  refine WL_nil ?_
  refine WQ_code ?_
  refine WC_cond (b := ((((n_xs : Nat) : Int) : Int) != ((n_ys : Nat) : Int))) rfl (fun hb => ?_) (fun hb => ?_)
  · replace hb := bne_iff_ne.1 hb
    refine WC_seq (WC_region ?_)
    refine WL_execS htb 1 [4] [] ⟨[(4, (bB false))], [], 0, [], []⟩ (by kernel_rfl) ?_
    refine WL_nil ?_
    refine WQ_code ?_
    refine WC_ret ?_
    refine WQ_then_ret ?_
    exact WQ_done htb [(bB false)] _ (.inl rfl) rfl (by kernel_rfl) (fun ρ w hW => ⟨false, rfl, ne_caseP (by omega)⟩)
  · replace hb := (bne_eq_false_iff_eq.1) hb
    refine WC_skip ?_
    refine WQ_code ?_
    refine WC_seq ?_
    refine WC_seq (WC_region ?_)
    refine WL_execS htb 3 [13, 12, 0, 1] [] ⟨[(13, (iI 0)), (12, (iN n_xs)), (0, (sS A_xs n_xs c_xs)), (1, (sS A_ys n_ys c_ys))], [], 0, [], []⟩ (by kernel_rfl) ?_
    refine WL_nil ?_
    refine WQ_code ?_
    refine WC_block ?_
    refine WK_keep [13, 12, 0, 1] [] rfl rfl ?_
    refine WK_env [(13, (iN 0)), (12, (iN n_xs)), (0, (sS A_xs n_xs c_xs)), (1, (sS A_ys n_ys c_ys))] (fun ρ => ⟨rfl, rfl, ⟨rfl, rfl, ⟨rfl, rfl, ⟨rfl, rfl, trivial⟩⟩⟩⟩) ?_
    refine WC_loop (ι := Nat) (fun i G1 => Le G G1 ∧ (i ≤ n_xs ∧ xs.take i = ys.take i)) (fun i => ⟨[(13, (iN i)), (12, (iN n_xs)), (0, (sS A_xs n_xs c_xs)), (1, (sS A_ys n_ys c_ys))], [], 0, [], []⟩) (fun i => n_xs - i) (0) ⟨Le.refl _, ⟨Nat.zero_le _, rfl⟩⟩ rfl ?_
    rintro i G1 ⟨hle, hF⟩
    show WC _ _ _ _ _ ⟨[(13, (iN i)), (12, (iN n_xs)), (0, (sS A_xs n_xs c_xs)), (1, (sS A_ys n_ys c_ys))], [], 0, [], []⟩ _
    replace h_xs := h_xs.mono hle
    replace h_ys := h_ys.mono hle
    have hc2 := hle
    obtain ⟨hi, ht⟩ := hF
    refine WC_seq (WC_region ?_)
    refine WL_execS htb 1 [14, 13, 12, 0, 1] [] ⟨[(14, (bB (decide ((((i : Nat) : Int) : Int) < ((n_xs : Nat) : Int))))), (13, (iN i)), (12, (iN n_xs)), (0, (sS A_xs n_xs c_xs)), (1, (sS A_ys n_ys c_ys))], [], 0, [], []⟩ (by kernel_rfl) ?_
    refine WL_nil ?_
    refine WQ_code ?_
    refine WC_seq ?_
    refine WC_cond (b := (decide ((((i : Nat) : Int) : Int) < ((n_xs : Nat) : Int)))) rfl (fun hc => ?_) (fun hc => ?_)
    · replace hc := of_decide_eq_true hc
      refine WC_skip ?_
      refine WQ_code ?_
      refine WC_seq ?_
      refine WC_block ?_
      refine WC_seq (WC_region ?_)
      refine WL_execS htb 2 [5, 13, 12, 0, 1] [] ⟨[(5, (iN i)), (13, (iN i)), (12, (iN n_xs)), (0, (sS A_xs n_xs c_xs)), (1, (sS A_ys n_ys c_ys))], [], 0, [], []⟩ (by kernel_rfl) ?_
      refine WL_nil ?_
      refine WQ_code ?_
      refine WC_seq (WC_draw mixed ?_)
      refine WD_takeL htb rfl (fun _ _ _ _ _ h => h) (Le.refl _) [0, 1, 4, 5] (fuel := 5) (listed' := bts 9 51) (S' := ⟨[(21, (iN i)), (20, (sS A_ys n_ys c_ys)), (17, (iN i)), (16, (sS A_xs n_xs c_xs)), (5, (iN i)), (13, (iN i)), (12, (iN n_xs)), (0, (sS A_xs n_xs c_xs)), (1, (sS A_ys n_ys c_ys))], [], 0, [], []⟩) (FZ.nil _) (by kernel_rfl) rfl ?_
      obtain ⟨q3, rfl⟩ := h_xs.ptr (by omega)
      obtain ⟨x6, _, hx4, ⟨rfl, hn7⟩, at5⟩ := h_xs.get i (by omega)
      replace at5 : At G1 (q3.add (i * 1)) [.string x6] := at5
      refine WD_idx htb 2 (by rfl) rfl (by decide +kernel) (fun _ _ _ _ _ h => h) (Le.refl _) q3 n_xs ((i : Nat) : Int) 1 (by kernel_rfl) (by omega) (by omega) ?_
      refine WD_ld htb 3 (by rfl) rfl (by decide +kernel) (fun _ _ _ _ _ h => h) (Le.refl _) (q3.add (i * 1)) false 1 [.string x6] (by kernel_rfl) at5 rfl (by decide) ?_
      obtain ⟨q8, rfl⟩ := h_ys.ptr (by omega)
      obtain ⟨x11, _, hx9, ⟨rfl, hn12⟩, at10⟩ := h_ys.get i (by omega)
      replace at10 : At G1 (q8.add (i * 1)) [.string x11] := at10
      refine WD_idx htb 6 (by rfl) rfl (by decide +kernel) (fun _ _ _ _ _ h => h) (Le.refl _) q8 n_ys ((i : Nat) : Int) 1 (by kernel_rfl) (by omega) (by omega) ?_
      refine WD_ld htb 7 (by rfl) rfl (by decide +kernel) (fun _ _ _ _ _ h => h) (Le.refl _) (q8.add (i * 1)) false 1 [.string x11] (by kernel_rfl) at10 rfl (by decide) ?_
      refine WD_takeL htb rfl (fun _ _ _ _ _ h => h) (Le.refl _) [8] (fuel := 0) (listed' := bts 9 511) (S' := ⟨[(24, (bB (!((x6 : ByteArray).toList == (x11 : ByteArray).toList)))), (23, (tS x11)), (22, (.v (.pointer (some (q8.add (i * 1)))))), (19, (tS x6)), (18, (.v (.pointer (some (q3.add (i * 1)))))), (21, (iN i)), (20, (sS (some q8) n_ys c_ys)), (17, (iN i)), (16, (sS (some q3) n_xs c_xs)), (5, (iN i)), (13, (iN i)), (12, (iN n_xs)), (0, (sS (some q3) n_xs c_xs)), (1, (sS (some q8) n_ys c_ys))], [], 0, [], []⟩) (FZ.nil _) (by kernel_rfl) rfl ?_
      refine WD_done (by decide +kernel) ?_
      refine WK_keep [24, 13, 12, 0, 1] [] rfl rfl ?_
      refine WQ_code ?_
      refine WC_cond (b := (!((x6 : ByteArray).toList == (x11 : ByteArray).toList))) rfl (fun hx => ?_) (fun hx => ?_)
      · rw [Bool.not_eq_true'] at hx
        replace hx := ne_of_beq_false hx
        refine WC_seq (WC_region ?_)
        refine WL_execS htb 1 [4] [] ⟨[(4, (bB false))], [], 0, [], []⟩ (by kernel_rfl) ?_
        refine WL_nil ?_
        refine WQ_code ?_
        refine WC_ret ?_
        refine WQ_blk_ret ?_
        refine WQ_then_ret ?_
        refine WQ_then_ret ?_
        refine WQ_blk_ret ?_
        refine WQ_then_ret ?_
        exact WQ_done htb [(bB false)] _ (.inl rfl) rfl (by kernel_rfl) (fun ρ w hW => ⟨false, rfl, eq_caseS1 hx4 hx9 hx⟩)
      · rw [Bool.not_eq_false'] at hx
        replace hx := eq_of_beq hx
        refine WC_skip ?_
        refine WQ_blk ?_
        refine WQ_code ?_
        refine WC_region ?_
        refine WL_execS htb 2 [13, 12, 0, 1] [] ⟨[(13, (iI (IntKind.i64.wrap (((i : Nat) : Int) + 1)))), (12, (iN n_xs)), (0, (sS (some q3) n_xs c_xs)), (1, (sS (some q8) n_ys c_ys))], [], 0, [], []⟩ (by kernel_rfl) ?_
        refine WL_nil ?_
        refine WK_env [(13, (iN (i + 1))), (12, (iN n_xs)), (0, (sS (some q3) n_xs c_xs)), (1, (sS (some q8) n_ys c_ys))] (fun ρ => ⟨rfl, (congrArg (Value.int .i64) (by rw [wrap_id (by omega)]; first | rfl | omega)), ⟨rfl, rfl, ⟨rfl, rfl, ⟨rfl, rfl, trivial⟩⟩⟩⟩) ?_
        refine WK_keep [13, 12, 0, 1] [] rfl rfl ?_
        exact WQ_next ((i + 1)) (by show n_xs - (i + 1) < n_xs - i; omega) ⟨hc2, ⟨by omega, eq_caseS2 ht hx4 hx9 hx⟩⟩ (fun ρ a w h => h)
    · replace hc := of_decide_eq_false hc
      refine WC_exit ?_
      refine WQ_then_exit ?_
      refine WQ_then_exit ?_
      refine WQ_hit ?_
      refine WQ_code ?_
      refine WC_seq (WC_region ?_)
      refine WL_execS htb 1 [4] [] ⟨[(4, (bB true))], [], 0, [], []⟩ (by kernel_rfl) ?_
      refine WL_nil ?_
      refine WQ_code ?_
      refine WC_ret ?_
      exact WQ_done htb [(bB true)] _ (.inl rfl) rfl (by kernel_rfl) (fun ρ w hW => ⟨true, rfl, eq_case3P ht (by omega) (by omega)⟩)

theorem within_ok {w : World} {G : Heap} (hG : Has w G) {tk : (List ByteArray)} {A_tk : Option Addr} {n_tk : Nat} {c_tk : Nat} {nm : (List ByteArray)} {A_nm : Option Addr} {n_nm : Nat} {c_nm : Nat} {rs : (List (List (List Int)))} {A_rs : Option Addr} {n_rs : Nat} {c_rs : Nat} {xs : (List Int)} {A_xs : Option Addr} {n_xs : Nat} {c_xs : Nat} (h_tk : Sl tStr G A_tk n_tk c_tk tk) (h_nm : Sl tStr G A_nm n_nm c_nm nm) (h_rs : Sl (tSlice (tSlice (tInt .i64))) G A_rs n_rs c_rs rs) (h_xs : Sl (tInt .i64) G A_xs n_xs c_xs xs) :
    Calls Try.prog 29 #[(.agg #[.slice A_tk n_tk c_tk, .slice A_nm n_nm c_nm, .slice A_rs n_rs c_rs]), (.slice A_xs n_xs c_xs)] w (Ret w G fun v G' => ∃ (b : Bool), v = .bool b ∧ (b = decide (∀ k ∈ xs, WithinI tk.length rs.length k))) := by
  have lh_tk := h_tk.len'
  have lh_nm := h_nm.len'
  have lh_rs := h_rs.len'
  have lh_xs := h_xs.len'
  refine enter [(.agg [(sS A_tk n_tk c_tk), (sS A_nm n_nm c_nm), (sS A_rs n_rs c_rs)]), (sS A_xs n_xs c_xs)] 31 Try.func29 rfl rfl rfl rfl hG ?_
  refine WC_seq (WC_region ?_)
  refine WL_execS htb 2 [2, 1] [0] ⟨[(2, (.p 0 0)), (1, (sS A_xs n_xs c_xs))], [(0, (.cells 35 [(sS A_tk n_tk c_tk), (sS A_nm n_nm c_nm), (sS A_rs n_rs c_rs)]))], 1, [], []⟩ (by kernel_rfl) ?_
  refine WL_nil ?_
  refine WQ_code ?_
  refine WC_seq ?_
  refine WC_seq (WC_region ?_)
  refine WL_execS htb 3 [9, 8, 7, 2] [0] ⟨[(9, (iI 0)), (8, (iN n_xs)), (7, (sS A_xs n_xs c_xs)), (2, (.p 0 0))], [(0, (.cells 35 [(sS A_tk n_tk c_tk), (sS A_nm n_nm c_nm), (sS A_rs n_rs c_rs)]))], 1, [], []⟩ (by kernel_rfl) ?_
  refine WL_nil ?_
  refine WQ_code ?_
  refine WC_block ?_
  refine WK_freeze 0 rfl rfl rfl rfl ?_
  intro bk2 G1 hle hbk2
  replace h_tk := h_tk.mono hle
  replace h_nm := h_nm.mono hle
  replace h_rs := h_rs.mono hle
  replace h_xs := h_xs.mono hle
  have hz := FZ.cons (h := 0) hbk2 rfl (FZ.nil _)
  refine WK_keep [9, 8, 7, 2] [] rfl rfl ?_
  refine WK_env [(9, (iN 0)), (8, (iN n_xs)), (7, (sS A_xs n_xs c_xs)), (2, (.p 0 0))] (fun ρ => ⟨rfl, rfl, ⟨rfl, rfl, ⟨rfl, rfl, ⟨rfl, rfl, trivial⟩⟩⟩⟩) ?_
  refine WC_loop (ι := Nat) (fun i G3 => Le G1 G3 ∧ (i ≤ n_xs ∧ ∀ k ∈ xs.take i, WithinI tk.length rs.length k)) (fun i => ⟨[(9, (iN i)), (8, (iN n_xs)), (7, (sS A_xs n_xs c_xs)), (2, (.p 0 0))], [], 1, [], [(0, bk2, (.cells 35 [(sS A_tk n_tk c_tk), (sS A_nm n_nm c_nm), (sS A_rs n_rs c_rs)]))]⟩) (fun i => n_xs - i) (0) ⟨Le.refl _, ⟨Nat.zero_le _, by simp⟩⟩ rfl ?_
  rintro i G3 ⟨hle, hF⟩
  show WC _ _ _ _ _ ⟨[(9, (iN i)), (8, (iN n_xs)), (7, (sS A_xs n_xs c_xs)), (2, (.p 0 0))], [], 1, [], [(0, bk2, (.cells 35 [(sS A_tk n_tk c_tk), (sS A_nm n_nm c_nm), (sS A_rs n_rs c_rs)]))]⟩ _
  replace h_tk := h_tk.mono hle
  replace h_nm := h_nm.mono hle
  replace h_rs := h_rs.mono hle
  replace h_xs := h_xs.mono hle
  replace hz := hz.mono hle
  have hc4 := hle
  obtain ⟨hi, hn⟩ := hF
  refine WC_seq (WC_region ?_)
  refine WL_execS htb 1 [10, 9, 8, 7, 2] [] ⟨[(10, (bB (decide ((((i : Nat) : Int) : Int) < ((n_xs : Nat) : Int))))), (9, (iN i)), (8, (iN n_xs)), (7, (sS A_xs n_xs c_xs)), (2, (.p 0 0))], [], 1, [], [(0, bk2, (.cells 35 [(sS A_tk n_tk c_tk), (sS A_nm n_nm c_nm), (sS A_rs n_rs c_rs)]))]⟩ (by kernel_rfl) ?_
  refine WL_nil ?_
  refine WQ_code ?_
  refine WC_seq ?_
  refine WC_cond (b := (decide ((((i : Nat) : Int) : Int) < ((n_xs : Nat) : Int)))) rfl (fun hc => ?_) (fun hc => ?_)
  · replace hc := of_decide_eq_true hc
    refine WC_skip ?_
    refine WQ_code ?_
    refine WC_seq ?_
    refine WC_block ?_
    refine WC_seq (WC_region ?_)
    obtain ⟨q5, rfl⟩ := h_xs.ptr (by omega)
    obtain ⟨x8, _, hx6, ⟨rfl, hn9⟩, at7⟩ := h_xs.get i (by omega)
    have bdhn9 : -9223372036854775808 ≤ x8 ∧ x8 ≤ 9223372036854775807 := bd_of hn9
    replace at7 : At G3 (q5.add (i * 1)) [.int .i64 x8] := at7
    refine WL_op (WOp_idx htb q5 n_xs ((i : Nat) : Int) 1 (by kernel_rfl) (by omega) (by omega) ?_)
    refine WL_op (WOp_ld htb (q5.add (i * 1)) false 1 [.int .i64 x8] (by kernel_rfl) at7 rfl (by decide) ?_)
    refine WL_execS htb 1 [6, 9, 8, 7, 2] [] ⟨[(6, (iI x8)), (9, (iN i)), (8, (iN n_xs)), (7, (sS (some q5) n_xs c_xs)), (2, (.p 0 0))], [], 1, [], [(0, bk2, (.cells 35 [(sS A_tk n_tk c_tk), (sS A_nm n_nm c_nm), (sS A_rs n_rs c_rs)]))]⟩ (by kernel_rfl) ?_
    refine WL_nil ?_
    refine WQ_code ?_
    refine WC_seq (WC_region ?_)
    refine WL_execS htb 6 [18, 6, 9, 8, 7, 2] [] ⟨[(18, (bB (decide ((x8 : Int) ≥ ((n_tk : Nat) : Int))))), (6, (iI x8)), (9, (iN i)), (8, (iN n_xs)), (7, (sS (some q5) n_xs c_xs)), (2, (.p 0 0))], [], 1, [], [(0, bk2, (.cells 35 [(sS A_tk n_tk c_tk), (sS A_nm n_nm c_nm), (sS A_rs n_rs c_rs)]))]⟩ (by kernel_rfl) ?_
    refine WK_split 18 (decide ((x8 : Int) ≥ ((n_tk : Nat) : Int))) rfl (fun hd => ?_) (fun hd => ?_)
    · replace hd := of_decide_eq_true hd
      refine WK_keep [18, 6, 9, 8, 7, 2] [] rfl rfl ?_
      refine WL_execS htb 11 [29, 9, 8, 7, 2] [] ⟨[(29, (bB true)), (9, (iN i)), (8, (iN n_xs)), (7, (sS (some q5) n_xs c_xs)), (2, (.p 0 0))], [], 1, [], [(0, bk2, (.cells 35 [(sS A_tk n_tk c_tk), (sS A_nm n_nm c_nm), (sS A_rs n_rs c_rs)]))]⟩ (by kernel_rfl) ?_
      refine WL_nil ?_
      refine WQ_code ?_
      refine WC_cond (b := true) rfl (fun _ => ?_) (fun h => by cases h)
      refine WC_seq (WC_region ?_)
      refine WL_execS htb 1 [4] [] ⟨[(4, (bB false))], [], 1, [], [(0, bk2, (.cells 35 [(sS A_tk n_tk c_tk), (sS A_nm n_nm c_nm), (sS A_rs n_rs c_rs)]))]⟩ (by kernel_rfl) ?_
      refine WL_nil ?_
      refine WQ_code ?_
      refine WC_ret ?_
      refine WQ_blk_ret ?_
      refine WQ_then_ret ?_
      refine WQ_then_ret ?_
      refine WQ_blk_ret ?_
      refine WQ_then_ret ?_
      exact WQ_done htb [(bB false)] _ (.inl rfl) rfl (by kernel_rfl) (fun ρ w hW => ⟨false, rfl, all_no hx6 (by unfold WithinI; omega)⟩)
    · replace hd := of_decide_eq_false hd
      refine WK_keep [18, 6, 9, 8, 7, 2] [] rfl rfl ?_
      refine WL_execS htb 3 [21, 18, 6, 9, 8, 7, 2] [] ⟨[(21, (bB (decide ((x8 : Int) < 0)))), (18, (bB false)), (6, (iI x8)), (9, (iN i)), (8, (iN n_xs)), (7, (sS (some q5) n_xs c_xs)), (2, (.p 0 0))], [], 1, [], [(0, bk2, (.cells 35 [(sS A_tk n_tk c_tk), (sS A_nm n_nm c_nm), (sS A_rs n_rs c_rs)]))]⟩ (by kernel_rfl) ?_
      refine WK_split 21 (decide ((x8 : Int) < 0)) rfl (fun he => ?_) (fun he => ?_)
      · replace he := of_decide_eq_true he
        refine WK_keep [21, 18, 6, 9, 8, 7, 2] [] rfl rfl ?_
        have hwr : IntKind.i64.wrap (-1 - x8) = - x8 - 1 := by rw [wrap_id (by omega)]; omega
        refine WL_execS htb 8 [29, 9, 8, 7, 2] [] ⟨[(29, (bB (decide (((IntKind.i64.wrap ((-1) - x8)) : Int) ≥ ((n_rs : Nat) : Int))))), (9, (iN i)), (8, (iN n_xs)), (7, (sS (some q5) n_xs c_xs)), (2, (.p 0 0))], [], 1, [], [(0, bk2, (.cells 35 [(sS A_tk n_tk c_tk), (sS A_nm n_nm c_nm), (sS A_rs n_rs c_rs)]))]⟩ (by kernel_rfl) ?_
        refine WL_nil ?_
        refine WQ_code ?_
        refine WC_cond (b := (decide (((IntKind.i64.wrap ((-1) - x8)) : Int) ≥ ((n_rs : Nat) : Int)))) rfl (fun hg => ?_) (fun hg => ?_)
        · replace hg := of_decide_eq_true hg
          rw [hwr] at hg
          refine WC_seq (WC_region ?_)
          refine WL_execS htb 1 [4] [] ⟨[(4, (bB false))], [], 1, [], [(0, bk2, (.cells 35 [(sS A_tk n_tk c_tk), (sS A_nm n_nm c_nm), (sS A_rs n_rs c_rs)]))]⟩ (by kernel_rfl) ?_
          refine WL_nil ?_
          refine WQ_code ?_
          refine WC_ret ?_
          refine WQ_blk_ret ?_
          refine WQ_then_ret ?_
          refine WQ_then_ret ?_
          refine WQ_blk_ret ?_
          refine WQ_then_ret ?_
          exact WQ_done htb [(bB false)] _ (.inl rfl) rfl (by kernel_rfl) (fun ρ w hW => ⟨false, rfl, all_no hx6 (by unfold WithinI; omega)⟩)
        · replace hg := of_decide_eq_false hg
          rw [hwr] at hg
          refine WC_skip ?_
          refine WQ_blk ?_
          refine WQ_code ?_
          refine WC_region ?_
          refine WL_execS htb 2 [9, 8, 7, 2] [] ⟨[(9, (iI (IntKind.i64.wrap (((i : Nat) : Int) + 1)))), (8, (iN n_xs)), (7, (sS (some q5) n_xs c_xs)), (2, (.p 0 0))], [], 1, [], [(0, bk2, (.cells 35 [(sS A_tk n_tk c_tk), (sS A_nm n_nm c_nm), (sS A_rs n_rs c_rs)]))]⟩ (by kernel_rfl) ?_
          refine WL_nil ?_
          refine WK_env [(9, (iN (i + 1))), (8, (iN n_xs)), (7, (sS (some q5) n_xs c_xs)), (2, (.p 0 0))] (fun ρ => ⟨rfl, (congrArg (Value.int .i64) (by rw [wrap_id (by omega)]; first | rfl | omega)), ⟨rfl, rfl, ⟨rfl, rfl, ⟨rfl, rfl, trivial⟩⟩⟩⟩) ?_
          refine WK_keep [9, 8, 7, 2] [] rfl rfl ?_
          exact WQ_next ((i + 1)) (by show n_xs - (i + 1) < n_xs - i; omega) ⟨hc4, ⟨by omega, all_step hx6 hn (by unfold WithinI; omega)⟩⟩ (fun ρ a w h => h)
      · replace he := of_decide_eq_false he
        refine WK_keep [21, 18, 6, 9, 8, 7, 2] [] rfl rfl ?_
        refine WL_execS htb 8 [29, 9, 8, 7, 2] [] ⟨[(29, (bB false)), (9, (iN i)), (8, (iN n_xs)), (7, (sS (some q5) n_xs c_xs)), (2, (.p 0 0))], [], 1, [], [(0, bk2, (.cells 35 [(sS A_tk n_tk c_tk), (sS A_nm n_nm c_nm), (sS A_rs n_rs c_rs)]))]⟩ (by kernel_rfl) ?_
        refine WL_nil ?_
        refine WQ_code ?_
        refine WC_cond (b := false) rfl (fun h => by cases h) (fun _ => ?_)
        refine WC_skip ?_
        refine WQ_blk ?_
        refine WQ_code ?_
        refine WC_region ?_
        refine WL_execS htb 2 [9, 8, 7, 2] [] ⟨[(9, (iI (IntKind.i64.wrap (((i : Nat) : Int) + 1)))), (8, (iN n_xs)), (7, (sS (some q5) n_xs c_xs)), (2, (.p 0 0))], [], 1, [], [(0, bk2, (.cells 35 [(sS A_tk n_tk c_tk), (sS A_nm n_nm c_nm), (sS A_rs n_rs c_rs)]))]⟩ (by kernel_rfl) ?_
        refine WL_nil ?_
        refine WK_env [(9, (iN (i + 1))), (8, (iN n_xs)), (7, (sS (some q5) n_xs c_xs)), (2, (.p 0 0))] (fun ρ => ⟨rfl, (congrArg (Value.int .i64) (by rw [wrap_id (by omega)]; first | rfl | omega)), ⟨rfl, rfl, ⟨rfl, rfl, ⟨rfl, rfl, trivial⟩⟩⟩⟩) ?_
        refine WK_keep [9, 8, 7, 2] [] rfl rfl ?_
        exact WQ_next ((i + 1)) (by show n_xs - (i + 1) < n_xs - i; omega) ⟨hc4, ⟨by omega, all_step hx6 hn (by unfold WithinI; omega)⟩⟩ (fun ρ a w h => h)
  · replace hc := of_decide_eq_false hc
    refine WC_exit ?_
    refine WQ_then_exit ?_
    refine WQ_then_exit ?_
    refine WQ_hit ?_
    refine WQ_code ?_
    refine WC_seq (WC_region ?_)
    refine WL_execS htb 1 [4] [] ⟨[(4, (bB true))], [], 1, [], [(0, bk2, (.cells 35 [(sS A_tk n_tk c_tk), (sS A_nm n_nm c_nm), (sS A_rs n_rs c_rs)]))]⟩ (by kernel_rfl) ?_
    refine WL_nil ?_
    refine WQ_code ?_
    refine WC_ret ?_
    exact WQ_done htb [(bB true)] _ (.inl rfl) rfl (by kernel_rfl) (fun ρ w hW => ⟨true, rfl, all_yes hn (by omega)⟩)

end Go.Proofs.Ytbpajkjolhoflaa.Sym
