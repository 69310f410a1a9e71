/- Walks of functions that the laws of this seat reach, printed by a program of this session's. -/
import Derived.Test.YtfemkbockhpmcaaB18
set_option linter.unusedSimpArgs false
set_option linter.unusedVariables false
set_option maxHeartbeats 4000000
namespace Go.Proofs.Ytfemkbockhpmcaa.Sym
open Go Go.Proofs Go.RowKit

def bigR (r : Rule) : Nat := r.2.length + r.2.flatten.length
def bigP (g : List Rule) (tk : List ByteArray) (r : Nat) : Nat := g.length + tk.length + ((g.take r).map bigR).sum
def bigN (g : List Rule) (tk : List ByteArray) : Nat := g.length + tk.length + (g.map bigR).sum
section
variable {g : List Rule} {tk : List ByteArray} {r k : Nat} {x : Rule} {a : List ByteArray} {acc : Int}
theorem bigP_succ (h : g[r]? = some x) : bigP g tk (r + 1) = bigP g tk r + bigR x := by
  unfold bigP; rw [take_succ' h, List.map_append, List.sum_append]; simp; omega
theorem bigP_all (h : g.length ≤ r) : bigP g tk r = bigN g tk := by unfold bigP bigN; rw [List.take_of_length_le h]
theorem bigP_le (r : Nat) : bigP g tk r ≤ bigN g tk := by
  unfold bigP bigN
  have : (g.map bigR).sum = ((g.take r).map bigR).sum + ((g.drop r).map bigR).sum := by rw [← List.sum_append, ← List.map_append, List.take_append_drop]
  omega
theorem big_start {n m : Nat} (h1 : n = g.length) (h2 : m = tk.length) (h : bigN g tk ≤ 4000000000000000000) : (IntKind.i64.wrap (((n : Nat) : Int) + ((m : Nat) : Int))) = ((bigP g tk 0 : Nat) : Int) := by
  have := bigP_le (g := g) (tk := tk) 0
  have e : bigP g tk 0 = n + m := by unfold bigP; simp; omega
  rw [wrap_id (by omega)]; omega
theorem flat_takeN (l : List (List ByteArray)) (k : Nat) : (l.take k).flatten.length ≤ l.flatten.length := by
  conv => rhs; rw [← List.take_append_drop k l]
  rw [List.flatten_append, List.length_append]; omega
theorem big_rule {n : Nat} (hx : g[r]? = some x) (h1 : n = x.2.length) (ha : acc = ((bigP g tk r : Nat) : Int)) (h : bigN g tk ≤ 4000000000000000000) : (IntKind.i64.wrap (acc + ((n : Nat) : Int))) = ((bigP g tk r + x.2.length + (x.2.take 0).flatten.length : Nat) : Int) := by
  have h2 := bigP_le (g := g) (tk := tk) (r + 1)
  rw [bigP_succ hx] at h2; unfold bigR at h2
  subst ha; rw [wrap_id (by omega)]; simp; omega
theorem big_alt {n : Nat} (hx : g[r]? = some x) (hy : x.2[k]? = some a) (h1 : n = a.length) (ha : acc = ((bigP g tk r + x.2.length + (x.2.take k).flatten.length : Nat) : Int)) (h : bigN g tk ≤ 4000000000000000000) : (IntKind.i64.wrap (acc + ((n : Nat) : Int))) = ((bigP g tk r + x.2.length + (x.2.take (k + 1)).flatten.length : Nat) : Int) := by
  have h2 := bigP_le (g := g) (tk := tk) (r + 1)
  rw [bigP_succ hx] at h2; unfold bigR at h2
  have h3 := flat_takeN x.2 (k + 1)
  have h4 : (x.2.take (k + 1)).flatten.length = (x.2.take k).flatten.length + a.length := by rw [take_succ' hy, List.flatten_append]; simp
  subst ha; rw [wrap_id (by omega)]; omega
theorem big_next (hx : g[r]? = some x) (hk : x.2.length ≤ k) (ha : acc = ((bigP g tk r + x.2.length + (x.2.take k).flatten.length : Nat) : Int)) : acc = ((bigP g tk (r + 1) : Nat) : Int) := by
  rw [bigP_succ hx, ha, List.take_of_length_le hk]; unfold bigR; omega
theorem big_end (hr : g.length ≤ r) (ha : acc = ((bigP g tk r : Nat) : Int)) (hb : acc ≤ 600) : bigN g tk ≤ 600 := by
  rw [bigP_all hr] at ha; omega
theorem num_err {t2 n2 : List ByteArray} {r2 : List (List (List Int))} {e : Int} (h : ((t2, n2, r2), e) = numS g tk) (he : e ≠ 0) : t2 = [] ∧ n2 = [] ∧ r2 = [] := by
  unfold numS at h
  repeat' (first | (split at h; · injection h with h1 h2; injection h1 with h3 h4; injection h4 with h5 h6; exact ⟨h3, h5, h6⟩))
  injection h with h1 h2; exact absurd h2 he
theorem num_yes {t2 n2 : List ByteArray} {r2 : List (List (List Int))} (h : ((t2, n2, r2), (0 : Int)) = numS g tk) : (t2 = tk ∧ n2 = g.map (·.1) ∧ r2 = g.map (altsN tk g)) ∧ MayP g ∧ ¬ LongP g ∧ TokP tk ∧ tk.length ≤ 60 ∧ flawsL g tk = [] := by
  unfold numS at h
  split at h
  · injection h with h1 h2; cases h2
  · rename_i h1
    split at h
    · injection h with h1 h2; cases h2
    · rename_i h2
      split at h
      · injection h with h1 h2; cases h2
      · rename_i h3
        split at h
        · injection h with h1 h2; cases h2
        · rename_i h4
          split at h
          · injection h with h1 h2; cases h2
          · rename_i h5
            injection h with h6 h7; injection h6 with h8 h9; injection h9 with h10 h11
            exact ⟨⟨h8, h10, h11⟩, by simpa using h1, h2, by simpa using h3, by omega, by simpa using h5⟩
theorem mapO_map {α β : Type} {f : β → Option α} {h : α → β} : ∀ {l : List α}, (∀ x ∈ l, f (h x) = some x) → mapO f (l.map h) = some l
  | [], _ => rfl
  | x :: l, hh => mapO_cons (hh x List.mem_cons_self) (mapO_map fun y hy => hh y (List.mem_cons_of_mem _ hy))
theorem idx_name {n : ByteArray} {y : Int} (h : (idxS g n)[0]? = some y) : ∃ j : Nat, y = (j : Int) ∧ (g.map (·.1))[j]? = some n := by
  obtain ⟨j, r, h1, h2, h3⟩ := mem_idxS (List.mem_of_getElem? h)
  exact ⟨j, h1, by rw [List.getElem?_map, h2, ← h3]; rfl⟩
theorem sym_code (hfl : flawsL g tk = []) {n : ByteArray} (hn : n ∈ allNames g) : symB tk (g.map (·.1)) (codeN tk g n) = some n := by
  by_cases h0 : 0 ≤ placeB tk n
  · rcases place_spec tk n with ⟨i, h1, h2, _⟩ | ⟨h1, _⟩
    · unfold codeN; rw [if_pos h0, h1]; exact symB_tk (by omega) (by simpa using h2)
    · omega
  · have hp := idx_pos hfl hn h0
    obtain ⟨j, h1, h2⟩ := idx_name (List.getElem?_eq_getElem hp)
    have hc : codeN tk g n = - (j : Int) - 1 := codeN_rule h0 (List.getElem?_eq_getElem hp) (by rw [h1])
    rw [hc]
    exact symB_nm (by omega) (by rw [show (-1 - (-(j : Int) - 1)).toNat = j by omega]; exact h2)
theorem back_num (hfl : flawsL g tk = []) : backS tk (g.map (·.1)) (g.map (altsN tk g)) = some g := by
  unfold backS
  rw [if_pos (by simp), List.zip_map']
  refine mapO_map fun r hr => ?_
  have h1 : altsB tk (g.map (·.1)) (altsN tk g r) = some r.2 := mapO_map fun a ha => mapO_map fun n hn => sym_code hfl (by
    unfold allNames
    rw [List.mem_flatMap]
    exact ⟨r, hr, List.mem_flatten.2 ⟨a, ha, hn⟩⟩)
  show (altsB tk (g.map (·.1)) (altsN tk g r)).map _ = some r
  rw [h1]; rfl
theorem num_sizes (h : ¬ LongP g) : (g.map (·.1)).length ≤ 1000000 ∧ ∀ ar ∈ g.map (altsN tk g), ar.length ≤ 1000000 ∧ ∀ al ∈ ar, al.length ≤ 1000000 := by
  have hgl := (short_all h).1
  refine ⟨by rw [List.length_map]; omega, fun ar har => ?_⟩
  obtain ⟨x, hx, rfl⟩ := List.mem_map.1 har
  obtain ⟨h1, h2⟩ := short_rule h hx
  refine ⟨by unfold altsN; rw [List.length_map]; omega, fun al hal => ?_⟩
  obtain ⟨a, ha, rfl⟩ := List.mem_map.1 hal
  have := h2 a ha
  unfold altN; rw [List.length_map]; omega
theorem back_is {t2 n2 : List ByteArray} {r2 : List (List (List Int))} {g2 : List Rule} {e : Int} (h : backS t2 n2 r2 = some g) (hr : (backS t2 n2 r2 = some g2 ∧ e = 0) ∨ (backS t2 n2 r2 = none ∧ g2 = [] ∧ e = 1)) : g2 = g ∧ e = 0 := by
  rcases hr with ⟨h1, h2⟩ | ⟨h1, _⟩
  · rw [h] at h1; injection h1 with h1; exact ⟨h1.symm, h2⟩
  · rw [h] at h1; cases h1
theorem valid_num {n2 : List ByteArray} {r2 : List (List (List Int))} (h : backS tk n2 r2 = some g) (hn : ((tk, n2, r2), (0 : Int)) = numS g tk) : validS tk n2 r2 = 0 := (valid_yes h hn rfl rfl).symm
end
theorem big8_ok {w : World} {G : Heap} (hG : Has w G) {g : (List (ByteArray × (List (List ByteArray))))} {A_g : Option Addr} {n_g : Nat} {c_g : Nat} {tk : (List ByteArray)} {A_tk : Option Addr} {n_tk : Nat} {c_tk : Nat} (h_g : Sl (tPair tStr (tSlice (tSlice tStr))) G A_g n_g c_g g) (h_tk : Sl tStr G A_tk n_tk c_tk tk) :
    Calls Try.prog 15 #[(.agg #[.slice A_g n_g c_g]), (.slice A_tk n_tk c_tk)] w (Ret w G fun v G' => ∃ (b : Bool), v = .bool b ∧ (bigN g tk ≤ 4000000000000000000 → b = false → bigN g tk ≤ 600)) := by
  have lh_g := h_g.len'
  have lh_tk := h_tk.len'
  refine enter [(.agg [(sS A_g n_g c_g)]), (sS A_tk n_tk c_tk)] 43 Try.func15 rfl rfl rfl rfl hG ?_
  refine WC_seq (WC_region ?_)
  refine WL_execS htb 2 [2, 1] [0] ⟨[(2, (.p 0 0)), (1, (sS A_tk n_tk c_tk))], [(0, (.cells 24 [(sS A_g n_g c_g)]))], 1, [], []⟩ (by kernel_rfl) ?_
  refine WL_nil ?_
  refine WQ_code ?_
  refine WC_seq (WC_region ?_)
  refine WL_execS htb 7 [5, 2] [0] ⟨[(5, (iI (IntKind.i64.wrap (((n_g : Nat) : Int) + ((n_tk : Nat) : Int))))), (2, (.p 0 0))], [(0, (.cells 24 [(sS A_g n_g c_g)]))], 1, [], []⟩ (by kernel_rfl) ?_
  refine WL_nil ?_
  refine WQ_code ?_
  refine WC_seq ?_
  refine WC_seq (WC_region ?_)
  refine WL_execS htb 4 [19, 18, 17, 5] [] ⟨[(19, (iI 0)), (18, (iN n_g)), (17, (sS A_g n_g c_g)), (5, (iI (IntKind.i64.wrap (((n_g : Nat) : Int) + ((n_tk : Nat) : Int)))))], [], 1, [], []⟩ (by kernel_rfl) ?_
  refine WL_nil ?_
  refine WQ_code ?_
  refine WC_block ?_
  refine WK_keep [19, 18, 17, 5] [] rfl rfl ?_
  refine WK_env [(19, (iN 0)), (18, (iN n_g)), (17, (sS A_g n_g c_g)), (5, (iI (IntKind.i64.wrap (((n_g : Nat) : Int) + ((n_tk : Nat) : Int)))))] (fun ρ => ⟨rfl, rfl, ⟨rfl, rfl, ⟨rfl, rfl, ⟨rfl, rfl, trivial⟩⟩⟩⟩) ?_
  refine WC_loop (ι := Nat × Int) (fun (r, acc) G1 => Le G G1 ∧ (r ≤ n_g ∧ (bigN g tk ≤ 4000000000000000000 → acc = ((bigP g tk r : Nat) : Int)))) (fun (r, acc) => ⟨[(19, (iN r)), (18, (iN n_g)), (17, (sS A_g n_g c_g)), (5, (iI acc))], [], 1, [], []⟩) (fun (r, acc) => n_g - r) (0, (IntKind.i64.wrap (((n_g : Nat) : Int) + ((n_tk : Nat) : Int)))) ⟨Le.refl _, ⟨Nat.zero_le _, fun h => big_start h_g.len h_tk.len h⟩⟩ rfl ?_
  rintro ⟨r, acc⟩ G1 ⟨hle, hF⟩
  show WC _ _ _ _ _ ⟨[(19, (iN r)), (18, (iN n_g)), (17, (sS A_g n_g c_g)), (5, (iI acc))], [], 1, [], []⟩ _
  replace h_g := h_g.mono hle
  have hc2 := hle
  obtain ⟨hr, hacc⟩ := hF
  refine WC_seq (WC_region ?_)
  refine WL_execS htb 1 [20, 19, 18, 17, 5] [] ⟨[(20, (bB (decide ((((r : Nat) : Int) : Int) < ((n_g : Nat) : Int))))), (19, (iN r)), (18, (iN n_g)), (17, (sS A_g n_g c_g)), (5, (iI acc))], [], 1, [], []⟩ (by kernel_rfl) ?_
  refine WL_nil ?_
  refine WQ_code ?_
  refine WC_seq ?_
  refine WC_cond (b := (decide ((((r : Nat) : Int) : Int) < ((n_g : Nat) : Int)))) rfl (fun hc => ?_) (fun hc => ?_)
  · replace hc := of_decide_eq_true hc
    refine WC_skip ?_
    refine WQ_code ?_
    refine WC_seq ?_
    refine WC_block ?_
    refine WC_seq (WC_region ?_)
    obtain ⟨q3, rfl⟩ := h_g.ptr (by omega)
    obtain ⟨⟨x6, x8⟩, _, hx4, ⟨_, _, rfl, ⟨rfl, hn7⟩, hr9⟩, at5⟩ := h_g.get r (by omega)
    obtain ⟨A11, n12, c13, rfl, hs10⟩ := Sl.of hr9
    replace hs10 : Sl (tSlice tStr) _ A11 n12 c13 x8 := hs10
    have lhs10 := hs10.len'
    replace at5 : At G1 (q3.add (r * 2)) [.string x6, .slice A11 n12 c13] := at5
    refine WL_op (WOp_idx htb q3 n_g ((r : Nat) : Int) 2 (by kernel_rfl) (by omega) (by omega) ?_)
    refine WL_op (WOp_ld htb (q3.add (r * 2)) true 2 [.string x6, .slice A11 n12 c13] (by kernel_rfl) at5 rfl (by decide) ?_)
    refine WL_execS htb 2 [7, 19, 18, 17, 5] [1] ⟨[(7, (.p 1 0)), (19, (iN r)), (18, (iN n_g)), (17, (sS (some q3) n_g c_g)), (5, (iI acc))], [(1, (.cells 34 [(tS x6), (sS A11 n12 c13)]))], 2, [], []⟩ (by kernel_rfl) ?_
    refine WL_nil ?_
    refine WQ_code ?_
    refine WC_seq (WC_region ?_)
    refine WL_execS htb 6 [5, 7, 19, 18, 17] [1] ⟨[(5, (iI (IntKind.i64.wrap (acc + ((n12 : Nat) : Int))))), (7, (.p 1 0)), (19, (iN r)), (18, (iN n_g)), (17, (sS (some q3) n_g c_g))], [(1, (.cells 34 [(tS x6), (sS A11 n12 c13)]))], 2, [], []⟩ (by kernel_rfl) ?_
    refine WL_nil ?_
    refine WQ_code ?_
    refine WC_seq (WC_region ?_)
    refine WL_execS htb 4 [31, 30, 29, 5, 19, 18, 17] [] ⟨[(31, (iI 0)), (30, (iN n12)), (29, (sS A11 n12 c13)), (5, (iI (IntKind.i64.wrap (acc + ((n12 : Nat) : Int))))), (19, (iN r)), (18, (iN n_g)), (17, (sS (some q3) n_g c_g))], [], 2, [], []⟩ (by kernel_rfl) ?_
    refine WL_nil ?_
    refine WQ_code ?_
    refine WC_block ?_
    refine WK_keep [31, 30, 29, 5, 19, 18, 17] [] rfl rfl ?_
    refine WK_env [(31, (iN 0)), (30, (iN n12)), (29, (sS A11 n12 c13)), (5, (iI (IntKind.i64.wrap (acc + ((n12 : Nat) : Int))))), (19, (iN r)), (18, (iN n_g)), (17, (sS (some q3) n_g c_g))] (fun ρ => ⟨rfl, rfl, ⟨rfl, rfl, ⟨rfl, rfl, ⟨rfl, rfl, ⟨rfl, rfl, ⟨rfl, rfl, ⟨rfl, rfl, trivial⟩⟩⟩⟩⟩⟩⟩) ?_
    refine WC_loop (ι := Nat × Int) (fun (k, acc2) G14 => Le G1 G14 ∧ (k ≤ n12 ∧ (bigN g tk ≤ 4000000000000000000 → acc2 = ((bigP g tk r + x8.length + (x8.take k).flatten.length : Nat) : Int)))) (fun (k, acc2) => ⟨[(31, (iN k)), (30, (iN n12)), (29, (sS A11 n12 c13)), (5, (iI acc2)), (19, (iN r)), (18, (iN n_g)), (17, (sS (some q3) n_g c_g))], [], 2, [], []⟩) (fun (k, acc2) => n12 - k) (0, (IntKind.i64.wrap (acc + ((n12 : Nat) : Int)))) ⟨Le.refl _, ⟨Nat.zero_le _, fun h => big_rule hx4 hs10.len (hacc h) h⟩⟩ rfl ?_
    rintro ⟨k, acc2⟩ G14 ⟨hle, hF⟩
    show WC _ _ _ _ _ ⟨[(31, (iN k)), (30, (iN n12)), (29, (sS A11 n12 c13)), (5, (iI acc2)), (19, (iN r)), (18, (iN n_g)), (17, (sS (some q3) n_g c_g))], [], 2, [], []⟩ _
    replace hc2 := Le.trans hc2 hle
    replace h_g := h_g.mono hle
    replace hs10 := hs10.mono hle
    have hc15 := hle
    obtain ⟨hk, hacc2⟩ := hF
    refine WC_seq (WC_region ?_)
    refine WL_execS htb 1 [32, 31, 30, 29, 5, 19, 18, 17] [] ⟨[(32, (bB (decide ((((k : Nat) : Int) : Int) < ((n12 : Nat) : Int))))), (31, (iN k)), (30, (iN n12)), (29, (sS A11 n12 c13)), (5, (iI acc2)), (19, (iN r)), (18, (iN n_g)), (17, (sS (some q3) n_g c_g))], [], 2, [], []⟩ (by kernel_rfl) ?_
    refine WL_nil ?_
    refine WQ_code ?_
    refine WC_seq ?_
    refine WC_cond (b := (decide ((((k : Nat) : Int) : Int) < ((n12 : Nat) : Int)))) rfl (fun hd => ?_) (fun hd => ?_)
    · replace hd := of_decide_eq_true hd
      refine WC_skip ?_
      refine WQ_code ?_
      refine WC_seq ?_
      refine WC_block ?_
      refine WC_seq (WC_region ?_)
      obtain ⟨q16, rfl⟩ := hs10.ptr (by omega)
      obtain ⟨x19, _, hx17, hr20, at18⟩ := hs10.get k (by omega)
      obtain ⟨A22, n23, c24, rfl, hs21⟩ := Sl.of hr20
      replace hs21 : Sl tStr _ A22 n23 c24 x19 := hs21
      have lhs21 := hs21.len'
      replace at18 : At G14 (q16.add (k * 1)) [.slice A22 n23 c24] := at18
      refine WL_op (WOp_idx htb q16 n12 ((k : Nat) : Int) 1 (by kernel_rfl) (by omega) (by omega) ?_)
      refine WL_op (WOp_ld htb (q16.add (k * 1)) false 1 [.slice A22 n23 c24] (by kernel_rfl) at18 rfl (by decide) ?_)
      refine WL_execS htb 1 [9, 31, 30, 29, 5, 19, 18, 17] [] ⟨[(9, (sS A22 n23 c24)), (31, (iN k)), (30, (iN n12)), (29, (sS (some q16) n12 c13)), (5, (iI acc2)), (19, (iN r)), (18, (iN n_g)), (17, (sS (some q3) n_g c_g))], [], 2, [], []⟩ (by kernel_rfl) ?_
      refine WL_nil ?_
      refine WQ_code ?_
      refine WC_region ?_
      refine WL_execS htb 5 [5, 31, 30, 29, 19, 18, 17] [] ⟨[(5, (iI (IntKind.i64.wrap (acc2 + ((n23 : Nat) : Int))))), (31, (iN k)), (30, (iN n12)), (29, (sS (some q16) n12 c13)), (19, (iN r)), (18, (iN n_g)), (17, (sS (some q3) n_g c_g))], [], 2, [], []⟩ (by kernel_rfl) ?_
      refine WL_nil ?_
      refine WQ_blk ?_
      refine WQ_code ?_
      refine WC_region ?_
      refine WL_execS htb 2 [31, 5, 30, 29, 19, 18, 17] [] ⟨[(31, (iI (IntKind.i64.wrap (((k : Nat) : Int) + 1)))), (5, (iI (IntKind.i64.wrap (acc2 + ((n23 : Nat) : Int))))), (30, (iN n12)), (29, (sS (some q16) n12 c13)), (19, (iN r)), (18, (iN n_g)), (17, (sS (some q3) n_g c_g))], [], 2, [], []⟩ (by kernel_rfl) ?_
      refine WL_nil ?_
      refine WK_env [(31, (iN (k + 1))), (5, (iI (IntKind.i64.wrap (acc2 + ((n23 : Nat) : Int))))), (30, (iN n12)), (29, (sS (some q16) n12 c13)), (19, (iN r)), (18, (iN n_g)), (17, (sS (some q3) n_g c_g))] (fun ρ => ⟨rfl, (congrArg (Value.int .i64) (by rw [wrap_id (by omega)]; first | rfl | omega)), ⟨rfl, rfl, ⟨rfl, rfl, ⟨rfl, rfl, ⟨rfl, rfl, ⟨rfl, rfl, ⟨rfl, rfl, trivial⟩⟩⟩⟩⟩⟩⟩) ?_
      refine WK_keep [31, 30, 29, 5, 19, 18, 17] [] rfl rfl ?_
      exact WQ_next ((k + 1), (IntKind.i64.wrap (acc2 + ((n23 : Nat) : Int)))) (by show n12 - (k + 1) < n12 - k; omega) ⟨hc15, ⟨by omega, fun h => big_alt hx4 hx17 hs21.len (hacc2 h) h⟩⟩ (fun ρ a w h => h)
    · replace hd := of_decide_eq_false hd
      refine WC_exit ?_
      refine WQ_then_exit ?_
      refine WQ_then_exit ?_
      refine WQ_hit ?_
      refine WQ_blk ?_
      refine WQ_code ?_
      refine WC_region ?_
      refine WL_execS htb 2 [19, 5, 18, 17] [] ⟨[(19, (iI (IntKind.i64.wrap (((r : Nat) : Int) + 1)))), (5, (iI acc2)), (18, (iN n_g)), (17, (sS (some q3) n_g c_g))], [], 2, [], []⟩ (by kernel_rfl) ?_
      refine WL_nil ?_
      refine WK_env [(19, (iN (r + 1))), (5, (iI acc2)), (18, (iN n_g)), (17, (sS (some q3) n_g c_g))] (fun ρ => ⟨rfl, (congrArg (Value.int .i64) (by rw [wrap_id (by omega)]; first | rfl | omega)), ⟨rfl, rfl, ⟨rfl, rfl, ⟨rfl, rfl, trivial⟩⟩⟩⟩) ?_
      refine WK_keep [19, 18, 17, 5] [] rfl rfl ?_
      exact WQ_next ((r + 1), acc2) (by show n_g - (r + 1) < n_g - r; omega) ⟨hc2, ⟨by omega, fun h => big_next hx4 (by rw [← hs10.len]; omega) (hacc2 h)⟩⟩ (fun ρ a w h => h)
  · replace hc := of_decide_eq_false hc
    refine WC_exit ?_
    refine WQ_then_exit ?_
    refine WQ_then_exit ?_
    refine WQ_hit ?_
    refine WQ_code ?_
    refine WC_seq (WC_region ?_)
    refine WL_execS htb 3 [4] [] ⟨[(4, (bB (decide ((acc : Int) > 600))))], [], 1, [], []⟩ (by kernel_rfl) ?_
    refine WL_nil ?_
    refine WQ_code ?_
    refine WC_ret ?_
    exact WQ_done htb [(bB (decide ((acc : Int) > 600)))] _ (.inl rfl) rfl (by kernel_rfl) (fun ρ w hW => ⟨(decide ((acc : Int) > 600)), rfl, (fun h hb => big_end (by rw [← h_g.len]; omega) (hacc h) (by simpa using hb))⟩)

theorem same7_ok {w : World} {G : Heap} (hG : Has w G) {xs : (List (ByteArray × (List (List ByteArray))))} {A_xs : Option Addr} {n_xs : Nat} {c_xs : Nat} {ys : (List (ByteArray × (List (List ByteArray))))} {A_ys : Option Addr} {n_ys : Nat} {c_ys : Nat} (h_xs : Sl (tPair tStr (tSlice (tSlice tStr))) G A_xs n_xs c_xs xs) (h_ys : Sl (tPair tStr (tSlice (tSlice tStr))) G A_ys n_ys c_ys ys) :
    Calls Try.prog 28 #[(.agg #[.slice A_xs n_xs c_xs]), (.agg #[.slice A_ys n_ys c_ys])] w (Ret w G fun v G' => ∃ (b : Bool), v = .bool b ∧ (b = decide (xs = ys))) := by
  have lh_xs := h_xs.len'
  have lh_ys := h_ys.len'
  refine enter [(.agg [(sS A_xs n_xs c_xs)]), (.agg [(sS A_ys n_ys c_ys)])] 66 Try.func28 rfl rfl rfl rfl hG ?_
  refine WC_seq (WC_region ?_)
  refine WL_execS htb 3 [3, 2] [1, 0] ⟨[(3, (.p 1 0)), (2, (.p 0 0))], [(1, (.cells 24 [(sS A_ys n_ys c_ys)])), (0, (.cells 24 [(sS A_xs n_xs c_xs)]))], 2, [], []⟩ (by kernel_rfl) ?_
  refine WL_nil ?_
  refine WQ_code ?_
  refine WC_seq ?_
  refine WC_seq (WC_region ?_)
  refine WL_execS htb 7 [15, 3, 2] [1, 0] ⟨[(15, (bB ((((n_xs : Nat) : Int) : Int) != ((n_ys : Nat) : Int)))), (3, (.p 1 0)), (2, (.p 0 0))], [(1, (.cells 24 [(sS A_ys n_ys c_ys)])), (0, (.cells 24 [(sS A_xs n_xs c_xs)]))], 2, [], []⟩ (by kernel_rfl) ?_
  refine WL_nil ?_
  refine WQ_code ?_
  refine WC_cond (b := ((((n_xs : Nat) : Int) : Int) != ((n_ys : Nat) : Int))) rfl (fun hb2 => ?_) (fun hb2 => ?_)
  · replace hb2 := bne_iff_ne.1 hb2
    refine WC_seq (WC_region ?_)
    refine WL_execS htb 1 [4] [] ⟨[(4, (bB false))], [], 2, [], []⟩ (by kernel_rfl) ?_
    refine WL_nil ?_
    refine WQ_code ?_
    refine WC_ret ?_
    refine WQ_then_ret ?_
    exact WQ_done htb [(bB false)] _ (.inl rfl) rfl (by kernel_rfl) (fun ρ w hW => ⟨false, rfl, ne_caseG (by omega)⟩)
  · replace hb2 := (bne_eq_false_iff_eq.1) hb2
    refine WC_skip ?_
    refine WQ_code ?_
    refine WC_seq ?_
    refine WC_seq (WC_region ?_)
    refine WL_execS htb 4 [19, 18, 3, 2] [1, 0] ⟨[(19, (iI 0)), (18, (iN n_xs)), (3, (.p 1 0)), (2, (.p 0 0))], [(1, (.cells 24 [(sS A_ys n_ys c_ys)])), (0, (.cells 24 [(sS A_xs n_xs c_xs)]))], 2, [], []⟩ (by kernel_rfl) ?_
    refine WL_nil ?_
    refine WQ_code ?_
    refine WC_block ?_
    refine WK_freeze 1 rfl rfl rfl rfl ?_
    intro bk2 G1 hle hbk2
    replace h_xs := h_xs.mono hle
    replace h_ys := h_ys.mono hle
    have hz := FZ.cons (h := 1) hbk2 rfl (FZ.nil _)
    refine WK_freeze 0 rfl rfl rfl rfl ?_
    intro bk4 G3 hle hbk4
    replace h_xs := h_xs.mono hle
    replace h_ys := h_ys.mono hle
    replace hz := hz.mono hle
    have hz := FZ.cons (h := 0) hbk4 rfl hz
    refine WK_keep [19, 18, 3, 2] [] rfl rfl ?_
    refine WK_env [(19, (iN 0)), (18, (iN n_xs)), (3, (.p 1 0)), (2, (.p 0 0))] (fun ρ => ⟨rfl, rfl, ⟨rfl, rfl, ⟨rfl, rfl, ⟨rfl, rfl, trivial⟩⟩⟩⟩) ?_
    refine WC_loop (ι := Nat) (fun i G5 => Le G3 G5 ∧ (i ≤ n_xs ∧ xs.take i = ys.take i)) (fun i => ⟨[(19, (iN i)), (18, (iN n_xs)), (3, (.p 1 0)), (2, (.p 0 0))], [], 2, [], [(0, bk4, (.cells 24 [(sS A_xs n_xs c_xs)])), (1, bk2, (.cells 24 [(sS A_ys n_ys c_ys)]))]⟩) (fun i => n_xs - i) (0) ⟨Le.refl _, ⟨Nat.zero_le _, rfl⟩⟩ rfl ?_
    rintro i G5 ⟨hle, hF⟩
    show WC _ _ _ _ _ ⟨[(19, (iN i)), (18, (iN n_xs)), (3, (.p 1 0)), (2, (.p 0 0))], [], 2, [], [(0, bk4, (.cells 24 [(sS A_xs n_xs c_xs)])), (1, bk2, (.cells 24 [(sS A_ys n_ys c_ys)]))]⟩ _
    replace h_xs := h_xs.mono hle
    replace h_ys := h_ys.mono hle
    replace hz := hz.mono hle
    have hc6 := hle
    obtain ⟨hi, ht⟩ := hF
    refine WC_seq (WC_region ?_)
    refine WL_execS htb 1 [20, 19, 18, 3, 2] [] ⟨[(20, (bB (decide ((((i : Nat) : Int) : Int) < ((n_xs : Nat) : Int))))), (19, (iN i)), (18, (iN n_xs)), (3, (.p 1 0)), (2, (.p 0 0))], [], 2, [], [(0, bk4, (.cells 24 [(sS A_xs n_xs c_xs)])), (1, bk2, (.cells 24 [(sS A_ys n_ys c_ys)]))]⟩ (by kernel_rfl) ?_
    refine WL_nil ?_
    refine WQ_code ?_
    refine WC_seq ?_
    refine WC_cond (b := (decide ((((i : Nat) : Int) : Int) < ((n_xs : Nat) : Int)))) rfl (fun hc => ?_) (fun hc => ?_)
    · replace hc := of_decide_eq_true hc
      refine WC_skip ?_
      refine WQ_code ?_
      refine WC_seq ?_
      refine WC_block ?_
      refine WC_seq (WC_region ?_)
      refine WL_execS htb 2 [5, 19, 18, 3, 2] [] ⟨[(5, (iN i)), (19, (iN i)), (18, (iN n_xs)), (3, (.p 1 0)), (2, (.p 0 0))], [], 2, [], [(0, bk4, (.cells 24 [(sS A_xs n_xs c_xs)])), (1, bk2, (.cells 24 [(sS A_ys n_ys c_ys)]))]⟩ (by kernel_rfl) ?_
      refine WL_nil ?_
      refine WQ_code ?_
      refine WC_seq (WC_region ?_)
      refine WL_execS htb 3 [24, 23, 5, 19, 18, 3, 2] [] ⟨[(24, (iN i)), (23, (sS A_xs n_xs c_xs)), (5, (iN i)), (19, (iN i)), (18, (iN n_xs)), (3, (.p 1 0)), (2, (.p 0 0))], [], 2, [], [(0, bk4, (.cells 24 [(sS A_xs n_xs c_xs)])), (1, bk2, (.cells 24 [(sS A_ys n_ys c_ys)]))]⟩ (by kernel_rfl) ?_
      obtain ⟨q7, rfl⟩ := h_xs.ptr (by omega)
      obtain ⟨⟨x10, x12⟩, _, hx8, ⟨_, _, rfl, ⟨rfl, hn11⟩, hr13⟩, at9⟩ := h_xs.get i (by omega)
      obtain ⟨A15, n16, c17, rfl, hs14⟩ := Sl.of hr13
      replace hs14 : Sl (tSlice tStr) _ A15 n16 c17 x12 := hs14
      have lhs14 := hs14.len'
      replace at9 : At G5 (q7.add (i * 2)) [.string x10, .slice A15 n16 c17] := at9
      refine WL_op (WOp_idx htb q7 n_xs ((i : Nat) : Int) 2 (by kernel_rfl) (by omega) (by omega) ?_)
      refine WL_op (WOp_ld htb (q7.add (i * 2)) true 2 [.string x10, .slice A15 n16 c17] (by kernel_rfl) at9 rfl (by decide) ?_)
      refine WL_execS htb 2 [6, 5, 19, 18, 3, 2] [2] ⟨[(6, (.p 2 0)), (5, (iN i)), (19, (iN i)), (18, (iN n_xs)), (3, (.p 1 0)), (2, (.p 0 0))], [(2, (.cells 34 [(tS x10), (sS A15 n16 c17)]))], 3, [], [(0, bk4, (.cells 24 [(sS (some q7) n_xs c_xs)])), (1, bk2, (.cells 24 [(sS A_ys n_ys c_ys)]))]⟩ (by kernel_rfl) ?_
      refine WL_nil ?_
      refine WQ_code ?_
      refine WC_seq (WC_region ?_)
      refine WL_execS htb 3 [29, 28, 6, 19, 18, 3, 2] [2] ⟨[(29, (iN i)), (28, (sS A_ys n_ys c_ys)), (6, (.p 2 0)), (19, (iN i)), (18, (iN n_xs)), (3, (.p 1 0)), (2, (.p 0 0))], [(2, (.cells 34 [(tS x10), (sS A15 n16 c17)]))], 3, [], [(0, bk4, (.cells 24 [(sS (some q7) n_xs c_xs)])), (1, bk2, (.cells 24 [(sS A_ys n_ys c_ys)]))]⟩ (by kernel_rfl) ?_
      obtain ⟨q18, rfl⟩ := h_ys.ptr (by omega)
      obtain ⟨⟨x21, x23⟩, _, hx19, ⟨_, _, rfl, ⟨rfl, hn22⟩, hr24⟩, at20⟩ := h_ys.get i (by omega)
      obtain ⟨A26, n27, c28, rfl, hs25⟩ := Sl.of hr24
      replace hs25 : Sl (tSlice tStr) _ A26 n27 c28 x23 := hs25
      have lhs25 := hs25.len'
      replace at20 : At G5 (q18.add (i * 2)) [.string x21, .slice A26 n27 c28] := at20
      refine WL_op (WOp_idx htb q18 n_ys ((i : Nat) : Int) 2 (by kernel_rfl) (by omega) (by omega) ?_)
      refine WL_op (WOp_ld htb (q18.add (i * 2)) true 2 [.string x21, .slice A26 n27 c28] (by kernel_rfl) at20 rfl (by decide) ?_)
      refine WL_execS htb 2 [7, 6, 19, 18, 3, 2] [3, 2] ⟨[(7, (.p 3 0)), (6, (.p 2 0)), (19, (iN i)), (18, (iN n_xs)), (3, (.p 1 0)), (2, (.p 0 0))], [(3, (.cells 34 [(tS x21), (sS A26 n27 c28)])), (2, (.cells 34 [(tS x10), (sS A15 n16 c17)]))], 4, [], [(0, bk4, (.cells 24 [(sS (some q7) n_xs c_xs)])), (1, bk2, (.cells 24 [(sS (some q18) n_ys c_ys)]))]⟩ (by kernel_rfl) ?_
      refine WL_nil ?_
      refine WQ_code ?_
      refine WC_seq ?_
      refine WC_seq (WC_region ?_)
      refine WL_execS htb 6 [37, 7, 6, 19, 18, 3, 2] [3, 2] ⟨[(37, (bB (!((x10 : ByteArray).toList == (x21 : ByteArray).toList)))), (7, (.p 3 0)), (6, (.p 2 0)), (19, (iN i)), (18, (iN n_xs)), (3, (.p 1 0)), (2, (.p 0 0))], [(3, (.cells 34 [(tS x21), (sS A26 n27 c28)])), (2, (.cells 34 [(tS x10), (sS A15 n16 c17)]))], 4, [], [(0, bk4, (.cells 24 [(sS (some q7) n_xs c_xs)])), (1, bk2, (.cells 24 [(sS (some q18) n_ys c_ys)]))]⟩ (by kernel_rfl) ?_
      refine WK_split 37 (!((x10 : ByteArray).toList == (x21 : ByteArray).toList)) rfl (fun hn => ?_) (fun hn => ?_)
      · rw [Bool.not_eq_true'] at hn
        replace hn := ne_of_beq_false hn
        refine WK_keep [37, 7, 6, 19, 18, 3, 2] [3, 2] rfl rfl ?_
        have hne : ¬ (x10, x12) = (x21, x23) := fun e => (by (injection e with e1 e2; simp [e1] at hn))
        refine WL_execS htb 8 [45, 7, 6, 19, 18, 3, 2] [3, 2] ⟨[(45, (bB true)), (7, (.p 3 0)), (6, (.p 2 0)), (19, (iN i)), (18, (iN n_xs)), (3, (.p 1 0)), (2, (.p 0 0))], [(3, (.cells 34 [(tS x21), (sS A26 n27 c28)])), (2, (.cells 34 [(tS x10), (sS A15 n16 c17)]))], 4, [], [(0, bk4, (.cells 24 [(sS (some q7) n_xs c_xs)])), (1, bk2, (.cells 24 [(sS (some q18) n_ys c_ys)]))]⟩ (by kernel_rfl) ?_
        refine WL_nil ?_
        refine WQ_code ?_
        refine WC_cond (b := true) rfl (fun _ => ?_) (fun h => by cases h)
        refine WC_seq (WC_region ?_)
        refine WL_execS htb 1 [4] [] ⟨[(4, (bB false))], [], 4, [], [(0, bk4, (.cells 24 [(sS (some q7) n_xs c_xs)])), (1, bk2, (.cells 24 [(sS (some q18) n_ys c_ys)]))]⟩ (by kernel_rfl) ?_
        refine WL_nil ?_
        refine WQ_code ?_
        refine WC_ret ?_
        refine WQ_then_ret ?_
        refine WQ_blk_ret ?_
        refine WQ_then_ret ?_
        refine WQ_then_ret ?_
        refine WQ_blk_ret ?_
        refine WQ_then_ret ?_
        exact WQ_done htb [(bB false)] _ (.inl rfl) rfl (by kernel_rfl) (fun ρ w hW => ⟨false, rfl, eq_caseG1 hx8 hx19 hne⟩)
      · rw [Bool.not_eq_false'] at hn
        replace hn := eq_of_beq hn
        refine WK_keep [37, 7, 6, 19, 18, 3, 2] [3, 2] rfl rfl ?_
        have hnm : x10 = x21 := bytes_eq (by simpa using hn)
        refine WL_execS htb 8 [45, 7, 6, 19, 18, 3, 2] [3, 2] ⟨[(45, (bB ((((n16 : Nat) : Int) : Int) != ((n27 : Nat) : Int)))), (7, (.p 3 0)), (6, (.p 2 0)), (19, (iN i)), (18, (iN n_xs)), (3, (.p 1 0)), (2, (.p 0 0))], [(3, (.cells 34 [(tS x21), (sS A26 n27 c28)])), (2, (.cells 34 [(tS x10), (sS A15 n16 c17)]))], 4, [], [(0, bk4, (.cells 24 [(sS (some q7) n_xs c_xs)])), (1, bk2, (.cells 24 [(sS (some q18) n_ys c_ys)]))]⟩ (by kernel_rfl) ?_
        refine WL_nil ?_
        refine WQ_code ?_
        refine WC_cond (b := ((((n16 : Nat) : Int) : Int) != ((n27 : Nat) : Int))) rfl (fun hl => ?_) (fun hl => ?_)
        · replace hl := bne_iff_ne.1 hl
          have hne : ¬ (x10, x12) = (x21, x23) := fun e => (by (injection e with e1 e2; have e3 := congrArg List.length e2; omega))
          refine WC_seq (WC_region ?_)
          refine WL_execS htb 1 [4] [] ⟨[(4, (bB false))], [], 4, [], [(0, bk4, (.cells 24 [(sS (some q7) n_xs c_xs)])), (1, bk2, (.cells 24 [(sS (some q18) n_ys c_ys)]))]⟩ (by kernel_rfl) ?_
          refine WL_nil ?_
          refine WQ_code ?_
          refine WC_ret ?_
          refine WQ_then_ret ?_
          refine WQ_blk_ret ?_
          refine WQ_then_ret ?_
          refine WQ_then_ret ?_
          refine WQ_blk_ret ?_
          refine WQ_then_ret ?_
          exact WQ_done htb [(bB false)] _ (.inl rfl) rfl (by kernel_rfl) (fun ρ w hW => ⟨false, rfl, eq_caseG1 hx8 hx19 hne⟩)
        · replace hl := (bne_eq_false_iff_eq.1) hl
          refine WC_skip ?_
          refine WQ_code ?_
          refine WC_seq (WC_region ?_)
          refine WL_execS htb 4 [49, 48, 7, 6, 19, 18, 3, 2] [3, 2] ⟨[(49, (iI 0)), (48, (iN n16)), (7, (.p 3 0)), (6, (.p 2 0)), (19, (iN i)), (18, (iN n_xs)), (3, (.p 1 0)), (2, (.p 0 0))], [(3, (.cells 34 [(tS x21), (sS A26 n27 c28)])), (2, (.cells 34 [(tS x10), (sS A15 n16 c17)]))], 4, [], [(0, bk4, (.cells 24 [(sS (some q7) n_xs c_xs)])), (1, bk2, (.cells 24 [(sS (some q18) n_ys c_ys)]))]⟩ (by kernel_rfl) ?_
          refine WL_nil ?_
          refine WQ_code ?_
          refine WC_block ?_
          refine WK_freeze 3 rfl rfl rfl rfl ?_
          intro bk30 G29 hle hbk30
          replace hc6 := Le.trans hc6 hle
          replace h_xs := h_xs.mono hle
          replace h_ys := h_ys.mono hle
          replace hs14 := hs14.mono hle
          replace hs25 := hs25.mono hle
          replace hz := hz.mono hle
          have hz := FZ.cons (h := 3) hbk30 rfl hz
          refine WK_freeze 2 rfl rfl rfl rfl ?_
          intro bk32 G31 hle hbk32
          replace hc6 := Le.trans hc6 hle
          replace h_xs := h_xs.mono hle
          replace h_ys := h_ys.mono hle
          replace hs14 := hs14.mono hle
          replace hs25 := hs25.mono hle
          replace hz := hz.mono hle
          have hz := FZ.cons (h := 2) hbk32 rfl hz
          refine WK_keep [49, 48, 7, 6, 19, 18, 3, 2] [] rfl rfl ?_
          refine WK_env [(49, (iN 0)), (48, (iN n16)), (7, (.p 3 0)), (6, (.p 2 0)), (19, (iN i)), (18, (iN n_xs)), (3, (.p 1 0)), (2, (.p 0 0))] (fun ρ => ⟨rfl, rfl, ⟨rfl, rfl, ⟨rfl, rfl, ⟨rfl, rfl, ⟨rfl, rfl, ⟨rfl, rfl, ⟨rfl, rfl, ⟨rfl, rfl, trivial⟩⟩⟩⟩⟩⟩⟩⟩) ?_
          refine WC_loop (ι := Nat) (fun j G33 => Le G31 G33 ∧ (j ≤ n16 ∧ x12.take j = x23.take j)) (fun j => ⟨[(49, (iN j)), (48, (iN n16)), (7, (.p 3 0)), (6, (.p 2 0)), (19, (iN i)), (18, (iN n_xs)), (3, (.p 1 0)), (2, (.p 0 0))], [], 4, [], [(2, bk32, (.cells 34 [(tS x10), (sS A15 n16 c17)])), (3, bk30, (.cells 34 [(tS x21), (sS A26 n27 c28)])), (0, bk4, (.cells 24 [(sS (some q7) n_xs c_xs)])), (1, bk2, (.cells 24 [(sS (some q18) n_ys c_ys)]))]⟩) (fun j => n16 - j) (0) ⟨Le.refl _, ⟨Nat.zero_le _, rfl⟩⟩ rfl ?_
          rintro j G33 ⟨hle, hF⟩
          show WC _ _ _ _ _ ⟨[(49, (iN j)), (48, (iN n16)), (7, (.p 3 0)), (6, (.p 2 0)), (19, (iN i)), (18, (iN n_xs)), (3, (.p 1 0)), (2, (.p 0 0))], [], 4, [], [(2, bk32, (.cells 34 [(tS x10), (sS A15 n16 c17)])), (3, bk30, (.cells 34 [(tS x21), (sS A26 n27 c28)])), (0, bk4, (.cells 24 [(sS (some q7) n_xs c_xs)])), (1, bk2, (.cells 24 [(sS (some q18) n_ys c_ys)]))]⟩ _
          replace hc6 := Le.trans hc6 hle
          replace h_xs := h_xs.mono hle
          replace h_ys := h_ys.mono hle
          replace hs14 := hs14.mono hle
          replace hs25 := hs25.mono hle
          replace hz := hz.mono hle
          have hc34 := hle
          obtain ⟨hj, hu⟩ := hF
          refine WC_seq (WC_region ?_)
          refine WL_execS htb 1 [50, 49, 48, 7, 6, 19, 18, 3, 2] [] ⟨[(50, (bB (decide ((((j : Nat) : Int) : Int) < ((n16 : Nat) : Int))))), (49, (iN j)), (48, (iN n16)), (7, (.p 3 0)), (6, (.p 2 0)), (19, (iN i)), (18, (iN n_xs)), (3, (.p 1 0)), (2, (.p 0 0))], [], 4, [], [(2, bk32, (.cells 34 [(tS x10), (sS A15 n16 c17)])), (3, bk30, (.cells 34 [(tS x21), (sS A26 n27 c28)])), (0, bk4, (.cells 24 [(sS (some q7) n_xs c_xs)])), (1, bk2, (.cells 24 [(sS (some q18) n_ys c_ys)]))]⟩ (by kernel_rfl) ?_
          refine WL_nil ?_
          refine WQ_code ?_
          refine WC_seq ?_
          refine WC_cond (b := (decide ((((j : Nat) : Int) : Int) < ((n16 : Nat) : Int)))) rfl (fun he => ?_) (fun he => ?_)
          · replace he := of_decide_eq_true he
            refine WC_skip ?_
            refine WQ_code ?_
            refine WC_seq ?_
            refine WC_block ?_
            refine WC_seq (WC_region ?_)
            refine WL_execS htb 2 [8, 49, 48, 7, 6, 19, 18, 3, 2] [] ⟨[(8, (iN j)), (49, (iN j)), (48, (iN n16)), (7, (.p 3 0)), (6, (.p 2 0)), (19, (iN i)), (18, (iN n_xs)), (3, (.p 1 0)), (2, (.p 0 0))], [], 4, [], [(2, bk32, (.cells 34 [(tS x10), (sS A15 n16 c17)])), (3, bk30, (.cells 34 [(tS x21), (sS A26 n27 c28)])), (0, bk4, (.cells 24 [(sS (some q7) n_xs c_xs)])), (1, bk2, (.cells 24 [(sS (some q18) n_ys c_ys)]))]⟩ (by kernel_rfl) ?_
            refine WL_nil ?_
            refine WQ_code ?_
            refine WC_seq (WC_draw mixed ?_)
            refine WD_takeL htb rfl (fun _ _ _ _ _ h => h) (Le.refl _) [0, 1, 2, 5, 6, 7] (fuel := 6) (listed' := bts 12 231) (S' := ⟨[(59, (iN j)), (58, (sS A26 n27 c28)), (57, (.p 3 1)), (54, (iN j)), (53, (sS A15 n16 c17)), (52, (.p 2 1)), (8, (iN j)), (49, (iN j)), (48, (iN n16)), (7, (.p 3 0)), (6, (.p 2 0)), (19, (iN i)), (18, (iN n_xs)), (3, (.p 1 0)), (2, (.p 0 0))], [], 4, [], [(2, bk32, (.cells 34 [(tS x10), (sS A15 n16 c17)])), (3, bk30, (.cells 34 [(tS x21), (sS A26 n27 c28)])), (0, bk4, (.cells 24 [(sS (some q7) n_xs c_xs)])), (1, bk2, (.cells 24 [(sS (some q18) n_ys c_ys)]))]⟩) hz (by kernel_rfl) rfl ?_
            obtain ⟨q35, rfl⟩ := hs14.ptr (by omega)
            obtain ⟨x38, _, hx36, hr39, at37⟩ := hs14.get j (by omega)
            obtain ⟨A41, n42, c43, rfl, hs40⟩ := Sl.of hr39
            replace hs40 : Sl tStr _ A41 n42 c43 x38 := hs40
            have lhs40 := hs40.len'
            replace at37 : At G33 (q35.add (j * 1)) [.slice A41 n42 c43] := at37
            refine WD_idx htb 3 (by rfl) rfl (by decide +kernel) (fun _ _ _ _ _ h => h) (Le.refl _) q35 n16 ((j : Nat) : Int) 1 (by kernel_rfl) (by omega) (by omega) ?_
            refine WD_ld htb 4 (by rfl) rfl (by decide +kernel) (fun _ _ _ _ _ h => h) (Le.refl _) (q35.add (j * 1)) false 1 [.slice A41 n42 c43] (by kernel_rfl) at37 rfl (by decide) ?_
            obtain ⟨q44, rfl⟩ := hs25.ptr (by omega)
            obtain ⟨x47, _, hx45, hr48, at46⟩ := hs25.get j (by omega)
            obtain ⟨A50, n51, c52, rfl, hs49⟩ := Sl.of hr48
            replace hs49 : Sl tStr _ A50 n51 c52 x47 := hs49
            have lhs49 := hs49.len'
            replace at46 : At G33 (q44.add (j * 1)) [.slice A50 n51 c52] := at46
            refine WD_idx htb 8 (by rfl) rfl (by decide +kernel) (fun _ _ _ _ _ h => h) (Le.refl _) q44 n27 ((j : Nat) : Int) 1 (by kernel_rfl) (by omega) (by omega) ?_
            refine WD_ld htb 9 (by rfl) rfl (by decide +kernel) (fun _ _ _ _ _ h => h) (Le.refl _) (q44.add (j * 1)) false 1 [.slice A50 n51 c52] (by kernel_rfl) at46 rfl (by decide) ?_
            refine WD_one 10 (by rfl) (by decide +kernel) (WOp_call 60 [(sS A41 n42 c43), (sS A50 n51 c52)] (by kernel_rfl) (goes_of Try.func60 rfl rfl) (fun ρ w hW => sameNames_ok hW.has (xs := x38) (ys := x47) hs40 hs49) ?_)
            intro G701 v hle hΦ
            replace hc6 := Le.trans hc6 hle
            replace hc34 := Le.trans hc34 hle
            replace h_xs := h_xs.mono hle
            replace h_ys := h_ys.mono hle
            replace hs14 := hs14.mono hle
            replace hs25 := hs25.mono hle
            replace hs40 := hs40.mono hle
            replace at37 := at37.mono hle
            replace hs49 := hs49.mono hle
            replace at46 := at46.mono hle
            replace hz := hz.mono hle
            obtain ⟨r53, rfl, hR54⟩ := hΦ
            refine WD_on hle ?_
            refine WD_up hle ?_
            refine WD_takeL htb rfl (fun _ _ _ _ _ h => h) (Le.refl _) [11] (fuel := 0) (listed' := bts 12 4095) (S' := ⟨[(63, (bB (!r53))), (62, (bB r53)), (61, (sS A50 n51 c52)), (60, (.v (.pointer (some (q44.add (j * 1)))))), (56, (sS A41 n42 c43)), (55, (.v (.pointer (some (q35.add (j * 1)))))), (59, (iN j)), (58, (sS (some q44) n27 c28)), (57, (.p 3 1)), (54, (iN j)), (53, (sS (some q35) n16 c17)), (52, (.p 2 1)), (8, (iN j)), (49, (iN j)), (48, (iN n16)), (7, (.p 3 0)), (6, (.p 2 0)), (19, (iN i)), (18, (iN n_xs)), (3, (.p 1 0)), (2, (.p 0 0))], [], 4, [], [(2, bk32, (.cells 34 [(tS x10), (sS (some q35) n16 c17)])), (3, bk30, (.cells 34 [(tS x21), (sS (some q44) n27 c28)])), (0, bk4, (.cells 24 [(sS (some q7) n_xs c_xs)])), (1, bk2, (.cells 24 [(sS (some q18) n_ys c_ys)]))]⟩) hz (by kernel_rfl) rfl ?_
            refine WD_done (by decide +kernel) ?_
            refine WK_keep [63, 49, 48, 7, 6, 19, 18, 3, 2] [] rfl rfl ?_
            refine WQ_code ?_
            refine WC_cond (b := (!r53)) rfl (fun hg => ?_) (fun hg => ?_)
            · rw [Bool.not_eq_true'] at hg
              have hne0 : ¬ x38 = x47 := of_decide_eq_false (hR54.symm.trans (by simpa using hg))
              have hne : ¬ (x10, x12) = (x21, x23) := fun e => (by (injection e with e1 e2; subst e2; rw [hx36] at hx45; injection hx45 with h5; exact hne0 h5))
              refine WC_seq (WC_region ?_)
              refine WL_execS htb 1 [4] [] ⟨[(4, (bB false))], [], 4, [], [(2, bk32, (.cells 34 [(tS x10), (sS (some q35) n16 c17)])), (3, bk30, (.cells 34 [(tS x21), (sS (some q44) n27 c28)])), (0, bk4, (.cells 24 [(sS (some q7) n_xs c_xs)])), (1, bk2, (.cells 24 [(sS (some q18) n_ys c_ys)]))]⟩ (by kernel_rfl) ?_
              refine WL_nil ?_
              refine WQ_code ?_
              refine WC_ret ?_
              refine WQ_blk_ret ?_
              refine WQ_then_ret ?_
              refine WQ_then_ret ?_
              refine WQ_blk_ret ?_
              refine WQ_blk_ret ?_
              refine WQ_then_ret ?_
              refine WQ_then_ret ?_
              refine WQ_blk_ret ?_
              refine WQ_then_ret ?_
              exact WQ_done htb [(bB false)] _ (.inl rfl) rfl (by kernel_rfl) (fun ρ w hW => ⟨false, rfl, eq_caseG1 hx8 hx19 hne⟩)
            · rw [Bool.not_eq_false'] at hg
              have heq : x38 = x47 := of_decide_eq_true (hR54.symm.trans (by simpa using hg))
              refine WC_skip ?_
              refine WQ_blk ?_
              refine WQ_code ?_
              refine WC_region ?_
              refine WL_execS htb 2 [49, 48, 7, 6, 19, 18, 3, 2] [] ⟨[(49, (iI (IntKind.i64.wrap (((j : Nat) : Int) + 1)))), (48, (iN n16)), (7, (.p 3 0)), (6, (.p 2 0)), (19, (iN i)), (18, (iN n_xs)), (3, (.p 1 0)), (2, (.p 0 0))], [], 4, [], [(2, bk32, (.cells 34 [(tS x10), (sS (some q35) n16 c17)])), (3, bk30, (.cells 34 [(tS x21), (sS (some q44) n27 c28)])), (0, bk4, (.cells 24 [(sS (some q7) n_xs c_xs)])), (1, bk2, (.cells 24 [(sS (some q18) n_ys c_ys)]))]⟩ (by kernel_rfl) ?_
              refine WL_nil ?_
              refine WK_env [(49, (iN (j + 1))), (48, (iN n16)), (7, (.p 3 0)), (6, (.p 2 0)), (19, (iN i)), (18, (iN n_xs)), (3, (.p 1 0)), (2, (.p 0 0))] (fun ρ => ⟨rfl, (congrArg (Value.int .i64) (by rw [wrap_id (by omega)]; first | rfl | omega)), ⟨rfl, rfl, ⟨rfl, rfl, ⟨rfl, rfl, ⟨rfl, rfl, ⟨rfl, rfl, ⟨rfl, rfl, ⟨rfl, rfl, trivial⟩⟩⟩⟩⟩⟩⟩⟩) ?_
              refine WK_keep [49, 48, 7, 6, 19, 18, 3, 2] [] rfl rfl ?_
              exact WQ_next ((j + 1)) (by show n16 - (j + 1) < n16 - j; omega) ⟨hc34, ⟨by omega, eq_caseG2 hu hx36 hx45 heq⟩⟩ (fun ρ a w h => h)
          · replace he := of_decide_eq_false he
            refine WC_exit ?_
            refine WQ_then_exit ?_
            refine WQ_then_exit ?_
            refine WQ_hit ?_
            refine WQ_blk ?_
            refine WQ_code ?_
            refine WC_region ?_
            refine WL_execS htb 2 [19, 18, 3, 2] [] ⟨[(19, (iI (IntKind.i64.wrap (((i : Nat) : Int) + 1)))), (18, (iN n_xs)), (3, (.p 1 0)), (2, (.p 0 0))], [], 4, [], [(2, bk32, (.cells 34 [(tS x10), (sS A15 n16 c17)])), (3, bk30, (.cells 34 [(tS x21), (sS A26 n27 c28)])), (0, bk4, (.cells 24 [(sS (some q7) n_xs c_xs)])), (1, bk2, (.cells 24 [(sS (some q18) n_ys c_ys)]))]⟩ (by kernel_rfl) ?_
            refine WL_nil ?_
            have hxe : x12 = x23 := by rw [List.take_of_length_le (by omega), List.take_of_length_le (by omega)] at hu; exact hu
            refine WK_env [(19, (iN (i + 1))), (18, (iN n_xs)), (3, (.p 1 0)), (2, (.p 0 0))] (fun ρ => ⟨rfl, (congrArg (Value.int .i64) (by rw [wrap_id (by omega)]; first | rfl | omega)), ⟨rfl, rfl, ⟨rfl, rfl, ⟨rfl, rfl, trivial⟩⟩⟩⟩) ?_
            refine WK_dropfz 2 ?_
            show WK _ _ ⟨_, _, _, _, [(0, bk4, (.cells 24 [(sS (some q7) n_xs c_xs)])), (1, bk2, (.cells 24 [(sS (some q18) n_ys c_ys)]))]⟩ _
            refine WK_keep [19, 18, 3, 2] [] rfl rfl ?_
            exact WQ_next ((i + 1)) (by show n_xs - (i + 1) < n_xs - i; omega) ⟨hc6, ⟨by omega, eq_caseG2 ht hx8 hx19 (by rw [hnm, hxe])⟩⟩ (fun ρ a w h => h)
    · replace hc := of_decide_eq_false hc
      refine WC_exit ?_
      refine WQ_then_exit ?_
      refine WQ_then_exit ?_
      refine WQ_hit ?_
      refine WQ_code ?_
      refine WC_seq (WC_region ?_)
      refine WL_execS htb 1 [4] [] ⟨[(4, (bB true))], [], 2, [], [(0, bk4, (.cells 24 [(sS A_xs n_xs c_xs)])), (1, bk2, (.cells 24 [(sS A_ys n_ys c_ys)]))]⟩ (by kernel_rfl) ?_
      refine WL_nil ?_
      refine WQ_code ?_
      refine WC_ret ?_
      exact WQ_done htb [(bB true)] _ (.inl rfl) rfl (by kernel_rfl) (fun ρ w hW => ⟨true, rfl, eq_caseG3 ht (by omega) (by omega)⟩)

theorem checkBack_ok {w : World} {G : Heap} (hG : Has w G) {g : (List (ByteArray × (List (List ByteArray))))} {A_g : Option Addr} {n_g : Nat} {c_g : Nat} {tk : (List ByteArray)} {A_tk : Option Addr} {n_tk : Nat} {c_tk : Nat} (h_g : Sl (tPair tStr (tSlice (tSlice tStr))) G A_g n_g c_g g) (h_tk : Sl tStr G A_tk n_tk c_tk tk) :
    Calls Try.prog 13 #[(.agg #[.slice A_g n_g c_g]), (.slice A_tk n_tk c_tk)] w (Ret w G fun v G' => ∃ (b : Bool), v = .bool b ∧ (b = true)) := by
  have lh_g := h_g.len'
  have lh_tk := h_tk.len'
  refine enter [(.agg [(sS A_g n_g c_g)]), (sS A_tk n_tk c_tk)] 57 Try.func13 rfl rfl rfl rfl hG ?_
  refine WC_seq (WC_region ?_)
  refine WL_execS htb 2 [2, 1] [0] ⟨[(2, (.p 0 0)), (1, (sS A_tk n_tk c_tk))], [(0, (.cells 24 [(sS A_g n_g c_g)]))], 1, [], []⟩ (by kernel_rfl) ?_
  refine WL_nil ?_
  refine WQ_code ?_
  refine WC_seq (WC_region ?_)
  refine WL_op (WOp_call 14 [] (by kernel_rfl) (goes_of Try.func14 rfl rfl) (fun ρ w hW => live8_ok hW.has) ?_)
  intro G701 v hle hΦ
  replace h_g := h_g.mono hle
  replace h_tk := h_tk.mono hle
  subst hΦ
  refine WL_execS htb 1 [5, 2, 1] [0] ⟨[(5, (bB true)), (2, (.p 0 0)), (1, (sS A_tk n_tk c_tk))], [(0, (.cells 24 [(sS A_g n_g c_g)]))], 1, [], []⟩ (by kernel_rfl) ?_
  refine WL_nil ?_
  refine WQ_code ?_
  refine WC_seq ?_
  refine WC_seq (WC_region ?_)
  refine WL_execS htb 2 [12, 11, 5, 2, 1] [0] ⟨[(12, (sS A_tk n_tk c_tk)), (11, (.agg [(sS A_g n_g c_g)])), (5, (bB true)), (2, (.p 0 0)), (1, (sS A_tk n_tk c_tk))], [(0, (.cells 24 [(sS A_g n_g c_g)]))], 1, [], []⟩ (by kernel_rfl) ?_
  refine WL_op (WOp_call 15 [(.agg [(sS A_g n_g c_g)]), (sS A_tk n_tk c_tk)] (by kernel_rfl) (goes_of Try.func15 rfl rfl) (fun ρ w hW => big8_ok hW.has (g := g) (tk := tk) h_g h_tk) ?_)
  intro G702 v hle hΦ
  replace h_g := h_g.mono hle
  replace h_tk := h_tk.mono hle
  obtain ⟨r1, rfl, hR2⟩ := hΦ
  refine WL_nil ?_
  refine WQ_code ?_
  refine WC_cond (b := r1) rfl (fun hbig => ?_) (fun hbig => ?_)
  · skip
    refine WC_seq (WC_region ?_)
    refine WL_execS htb 2 [4] [] ⟨[(4, (bB true))], [], 1, [], []⟩ (by kernel_rfl) ?_
    refine WL_nil ?_
    refine WQ_code ?_
    refine WC_ret ?_
    refine WQ_then_ret ?_
    exact WQ_done htb [(bB true)] _ (.inl rfl) rfl (by kernel_rfl) (fun ρ w hW => ⟨true, rfl, rfl⟩)
  · skip
    refine WC_skip ?_
    refine WQ_code ?_
    refine WC_seq (WC_region ?_)
    refine WL_execS htb 2 [17, 16, 5, 2, 1] [0] ⟨[(17, (sS A_tk n_tk c_tk)), (16, (.agg [(sS A_g n_g c_g)])), (5, (bB true)), (2, (.p 0 0)), (1, (sS A_tk n_tk c_tk))], [(0, (.cells 24 [(sS A_g n_g c_g)]))], 1, [], []⟩ (by kernel_rfl) ?_
    refine WL_op (WOp_call 20 [(.agg [(sS A_g n_g c_g)]), (sS A_tk n_tk c_tk)] (by kernel_rfl) (goes_of Try.func20 rfl rfl) (fun ρ w hW => number_ok hW.has (g := g) (tk := tk) h_g h_tk) ?_)
    intro G703 v hle hΦ
    replace h_g := h_g.mono hle
    replace h_tk := h_tk.mono hle
    obtain ⟨r3, A_r3, n_r3, c_r3, r4, A_r4, n_r4, c_r4, r5, A_r5, n_r5, c_r5, r6, rfl, h_r3, h_r4, h_r5, h_r6, hR7⟩ := hΦ
    have lh_r3 := h_r3.len'
    have lh_r4 := h_r4.len'
    have lh_r5 := h_r5.len'
    refine WL_execS htb 6 [7, 6, 5, 2, 1] [1, 0] ⟨[(7, (iI r6)), (6, (.p 1 0)), (5, (bB true)), (2, (.p 0 0)), (1, (sS A_tk n_tk c_tk))], [(1, (.cells 41 [(sS A_r3 n_r3 c_r3), (sS A_r4 n_r4 c_r4), (sS A_r5 n_r5 c_r5)])), (0, (.cells 24 [(sS A_g n_g c_g)]))], 2, [], []⟩ (by kernel_rfl) ?_
    refine WL_nil ?_
    refine WQ_code ?_
    refine WC_seq ?_
    refine WC_seq (WC_region ?_)
    refine WL_execS htb 2 [22, 6, 5, 2, 1] [1, 0] ⟨[(22, (bB ((r6 : Int) != 0))), (6, (.p 1 0)), (5, (bB true)), (2, (.p 0 0)), (1, (sS A_tk n_tk c_tk))], [(1, (.cells 41 [(sS A_r3 n_r3 c_r3), (sS A_r4 n_r4 c_r4), (sS A_r5 n_r5 c_r5)])), (0, (.cells 24 [(sS A_g n_g c_g)]))], 2, [], []⟩ (by kernel_rfl) ?_
    refine WL_nil ?_
    refine WQ_code ?_
    refine WC_cond (b := ((r6 : Int) != 0)) rfl (fun he => ?_) (fun he => ?_)
    · replace he := bne_iff_ne.1 he
      have hz := num_err hR7 he
      obtain ⟨rfl, rfl, rfl⟩ := hz
      refine WC_seq (WC_region ?_)
      refine WL_execS htb 8 [4] [] ⟨[(4, (bB ((((n_r4 : Nat) : Int) : Int) == 0)))], [], 2, [], []⟩ (by kernel_rfl) ?_
      refine WL_nil ?_
      refine WQ_code ?_
      refine WC_ret ?_
      refine WQ_then_ret ?_
      exact WQ_done htb [(bB ((((n_r4 : Nat) : Int) : Int) == 0))] _ (.inl rfl) rfl (by kernel_rfl) (fun ρ w hW => ⟨((((n_r4 : Nat) : Int) : Int) == 0), rfl, (beq_iff_eq.2 (by have h9 := h_r4.len; simp at h9; omega))⟩)
    · replace he := (bne_eq_false_iff_eq.1) he
      rw [show r6 = 0 by simpa using he] at hR7
      obtain ⟨e1, hmay, hlong, htok, htl, hfl⟩ := num_yes hR7
      obtain ⟨e1, rfl, rfl⟩ := e1
      replace e1 := e1.symm
      subst e1
      have hbk := back_num (tk := tk) hfl
      have hsz := num_sizes (tk := tk) hlong
      obtain ⟨hgl, hal⟩ := short_all hlong
      refine WC_skip ?_
      refine WQ_code ?_
      refine WC_seq (WC_region ?_)
      refine WL_execS htb 1 [31, 6, 5, 2, 1] [1, 0] ⟨[(31, (.agg [(sS A_r3 n_r3 c_r3), (sS A_r4 n_r4 c_r4), (sS A_r5 n_r5 c_r5)])), (6, (.p 1 0)), (5, (bB true)), (2, (.p 0 0)), (1, (sS A_tk n_tk c_tk))], [(1, (.cells 41 [(sS A_r3 n_r3 c_r3), (sS A_r4 n_r4 c_r4), (sS A_r5 n_r5 c_r5)])), (0, (.cells 24 [(sS A_g n_g c_g)]))], 2, [], []⟩ (by kernel_rfl) ?_
      refine WL_op (WOp_call 35 [(.agg [(sS A_r3 n_r3 c_r3), (sS A_r4 n_r4 c_r4), (sS A_r5 n_r5 c_r5)])] (by kernel_rfl) (goes_of Try.func35 rfl rfl) (fun ρ w hW => backP_ok hW.has (tk := tk) (nm := (g.map (fun x : Rule => x.1))) (rs := (g.map (altsN tk g))) h_r3 h_r4 h_r5 hsz) ?_)
      intro G704 v hle hΦ
      replace h_g := h_g.mono hle
      replace h_tk := h_tk.mono hle
      replace h_r3 := h_r3.mono hle
      replace h_r4 := h_r4.mono hle
      replace h_r5 := h_r5.mono hle
      obtain ⟨r8, A_r8, n_r8, c_r8, r9, rfl, h_r8, h_r9, hR10⟩ := hΦ
      have lh_r8 := h_r8.len'
      obtain ⟨eg, ee⟩ := back_is hbk hR10
      replace eg := eg.symm
      subst eg
      subst ee
      refine WL_execS htb 6 [9, 8, 6, 5, 2, 1] [2, 1, 0] ⟨[(9, (iI 0)), (8, (.p 2 0)), (6, (.p 1 0)), (5, (bB true)), (2, (.p 0 0)), (1, (sS A_tk n_tk c_tk))], [(2, (.cells 24 [(sS A_r8 n_r8 c_r8)])), (1, (.cells 41 [(sS A_r3 n_r3 c_r3), (sS A_r4 n_r4 c_r4), (sS A_r5 n_r5 c_r5)])), (0, (.cells 24 [(sS A_g n_g c_g)]))], 3, [], []⟩ (by kernel_rfl) ?_
      refine WL_nil ?_
      refine WQ_code ?_
      refine WC_seq (WC_region ?_)
      refine WL_execS htb 6 [40, 8, 6, 2, 1] [2, 1, 0] ⟨[(40, (bB ((0 : Int) == 0))), (8, (.p 2 0)), (6, (.p 1 0)), (2, (.p 0 0)), (1, (sS A_tk n_tk c_tk))], [(2, (.cells 24 [(sS A_r8 n_r8 c_r8)])), (1, (.cells 41 [(sS A_r3 n_r3 c_r3), (sS A_r4 n_r4 c_r4), (sS A_r5 n_r5 c_r5)])), (0, (.cells 24 [(sS A_g n_g c_g)]))], 3, [], []⟩ (by kernel_rfl) ?_
      refine WK_env [(40, (bB true)), (8, (.p 2 0)), (6, (.p 1 0)), (2, (.p 0 0)), (1, (sS A_tk n_tk c_tk))] (fun ρ => ⟨rfl, rfl, ⟨rfl, rfl, ⟨rfl, rfl, ⟨rfl, rfl, ⟨rfl, rfl, trivial⟩⟩⟩⟩⟩) ?_
      refine WL_execS htb 2 [42, 41, 40, 6, 2, 1] [1, 0] ⟨[(42, (.agg [(sS A_r8 n_r8 c_r8)])), (41, (.agg [(sS A_g n_g c_g)])), (40, (bB true)), (6, (.p 1 0)), (2, (.p 0 0)), (1, (sS A_tk n_tk c_tk))], [(1, (.cells 41 [(sS A_r3 n_r3 c_r3), (sS A_r4 n_r4 c_r4), (sS A_r5 n_r5 c_r5)])), (0, (.cells 24 [(sS A_g n_g c_g)]))], 3, [], []⟩ (by kernel_rfl) ?_
      refine WL_op (WOp_call 28 [(.agg [(sS A_g n_g c_g)]), (.agg [(sS A_r8 n_r8 c_r8)])] (by kernel_rfl) (goes_of Try.func28 rfl rfl) (fun ρ w hW => same7_ok hW.has (xs := g) (ys := g) h_g h_r8) ?_)
      intro G705 v hle hΦ
      replace h_g := h_g.mono hle
      replace h_tk := h_tk.mono hle
      replace h_r3 := h_r3.mono hle
      replace h_r4 := h_r4.mono hle
      replace h_r5 := h_r5.mono hle
      replace h_r8 := h_r8.mono hle
      obtain ⟨r11, rfl, hR12⟩ := hΦ
      replace hR12 := hR12.trans (show _ = true from decide_eq_true rfl)
      obtain rfl := hR12
      refine WL_execS htb 3 [46, 45, 2, 1] [0] ⟨[(46, (.agg [(sS A_r3 n_r3 c_r3), (sS A_r4 n_r4 c_r4), (sS A_r5 n_r5 c_r5)])), (45, (bB true)), (2, (.p 0 0)), (1, (sS A_tk n_tk c_tk))], [(0, (.cells 24 [(sS A_g n_g c_g)]))], 3, [], []⟩ (by kernel_rfl) ?_
      refine WL_op (WOp_call 37 [(.agg [(sS A_r3 n_r3 c_r3), (sS A_r4 n_r4 c_r4), (sS A_r5 n_r5 c_r5)])] (by kernel_rfl) (goes_of Try.func37 rfl rfl) (fun ρ w hW => validP_ok hW.has (tk := tk) (nm := (g.map (fun x : Rule => x.1))) (rs := (g.map (altsN tk g))) h_r3 h_r4 h_r5 hsz) ?_)
      intro G706 v hle hΦ
      replace h_g := h_g.mono hle
      replace h_tk := h_tk.mono hle
      replace h_r3 := h_r3.mono hle
      replace h_r4 := h_r4.mono hle
      replace h_r5 := h_r5.mono hle
      obtain ⟨r13, rfl, h_r13, hR14⟩ := hΦ
      replace hR14 := hR14.trans (valid_num hbk hR7)
      obtain rfl := hR14
      refine WL_execS htb 3 [50, 2, 1] [0] ⟨[(50, (bB ((0 : Int) == 0))), (2, (.p 0 0)), (1, (sS A_tk n_tk c_tk))], [(0, (.cells 24 [(sS A_g n_g c_g)]))], 3, [], []⟩ (by kernel_rfl) ?_
      refine WK_env [(50, (bB true)), (2, (.p 0 0)), (1, (sS A_tk n_tk c_tk))] (fun ρ => ⟨rfl, rfl, ⟨rfl, rfl, ⟨rfl, rfl, trivial⟩⟩⟩) ?_
      refine WL_execS htb 2 [52, 51, 50] [] ⟨[(52, (sS A_tk n_tk c_tk)), (51, (.agg [(sS A_g n_g c_g)])), (50, (bB true))], [], 3, [], []⟩ (by kernel_rfl) ?_
      refine WL_op (WOp_call 16 [(.agg [(sS A_g n_g c_g)]), (sS A_tk n_tk c_tk)] (by kernel_rfl) (goes_of Try.func16 rfl rfl) (fun ρ w hW => flawsP_ok hW.has (g := g) (tk := tk) h_g h_tk hgl hal (by omega)) ?_)
      intro G707 v hle hΦ
      replace h_g := h_g.mono hle
      replace h_tk := h_tk.mono hle
      obtain ⟨Af15, nf16, cf17, gd, nr, rfl, hsf18, hgd, hnr⟩ := hΦ
      rw [flawsL_of hgd hnr] at hsf18
      clear hgd hnr
      have lhsf18 := hsf18.len'
      refine WL_execS htb 4 [4] [] ⟨[(4, (bB ((((nf16 : Nat) : Int) : Int) == 0)))], [], 3, [], []⟩ (by kernel_rfl) ?_
      refine WL_nil ?_
      refine WQ_code ?_
      refine WC_ret ?_
      exact WQ_done htb [(bB ((((nf16 : Nat) : Int) : Int) == 0))] _ (.inl rfl) rfl (by kernel_rfl) (fun ρ w hW => ⟨((((nf16 : Nat) : Int) : Int) == 0), rfl, (beq_iff_eq.2 (by have h9 := hsf18.len; rw [hfl] at h9; simp at h9; omega))⟩)

end Go.Proofs.Ytfemkbockhpmcaa.Sym
