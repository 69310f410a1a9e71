/- Walks of functions that the laws of this seat reach, printed by a program of this session's. -/
import Derived.Test.YtfemkbockhpmcaaB18
set_option linter.unusedSimpArgs false
set_option linter.unusedVariables false
set_option maxHeartbeats 4000000
namespace Go.Proofs.Ytfemkbockhpmcaa.Sym
open Go Go.Proofs Go.RowKit

def bigR (r : Rule) : Nat := r.2.length + r.2.flatten.length
def bigP (g : List Rule) (tk : List ByteArray) (r : Nat) : Nat := g.length + tk.length + ((g.take r).map bigR).sum
def bigN (g : List Rule) (tk : List ByteArray) : Nat := g.length + tk.length + (g.map bigR).sum
section
variable {g : List Rule} {tk : List ByteArray} {r k : Nat} {x : Rule} {a : List ByteArray} {acc : Int}
theorem bigP_succ (h : g[r]? = some x) : bigP g tk (r + 1) = bigP g tk r + bigR x := by
  unfold bigP; rw [take_succ' h, List.map_append, List.sum_append]; simp; omega
theorem bigP_all (h : g.length ≤ r) : bigP g tk r = bigN g tk := by unfold bigP bigN; rw [List.take_of_length_le h]
theorem bigP_le (r : Nat) : bigP g tk r ≤ bigN g tk := by
  unfold bigP bigN
  have : (g.map bigR).sum = ((g.take r).map bigR).sum + ((g.drop r).map bigR).sum := by rw [← List.sum_append, ← List.map_append, List.take_append_drop]
  omega
theorem big_start {n m : Nat} (h1 : n = g.length) (h2 : m = tk.length) (h : bigN g tk ≤ 4000000000000000000) : (IntKind.i64.wrap (((n : Nat) : Int) + ((m : Nat) : Int))) = ((bigP g tk 0 : Nat) : Int) := by
  have := bigP_le (g := g) (tk := tk) 0
  have e : bigP g tk 0 = n + m := by unfold bigP; simp; omega
  rw [wrap_id (by omega)]; omega
theorem flat_takeN (l : List (List ByteArray)) (k : Nat) : (l.take k).flatten.length ≤ l.flatten.length := by
  conv => rhs; rw [← List.take_append_drop k l]
  rw [List.flatten_append, List.length_append]; omega
theorem big_rule {n : Nat} (hx : g[r]? = some x) (h1 : n = x.2.length) (ha : acc = ((bigP g tk r : Nat) : Int)) (h : bigN g tk ≤ 4000000000000000000) : (IntKind.i64.wrap (acc + ((n : Nat) : Int))) = ((bigP g tk r + x.2.length + (x.2.take 0).flatten.length : Nat) : Int) := by
  have h2 := bigP_le (g := g) (tk := tk) (r + 1)
  rw [bigP_succ hx] at h2; unfold bigR at h2
  subst ha; rw [wrap_id (by omega)]; simp; omega
theorem big_alt {n : Nat} (hx : g[r]? = some x) (hy : x.2[k]? = some a) (h1 : n = a.length) (ha : acc = ((bigP g tk r + x.2.length + (x.2.take k).flatten.length : Nat) : Int)) (h : bigN g tk ≤ 4000000000000000000) : (IntKind.i64.wrap (acc + ((n : Nat) : Int))) = ((bigP g tk r + x.2.length + (x.2.take (k + 1)).flatten.length : Nat) : Int) := by
  have h2 := bigP_le (g := g) (tk := tk) (r + 1)
  rw [bigP_succ hx] at h2; unfold bigR at h2
  have h3 := flat_takeN x.2 (k + 1)
  have h4 : (x.2.take (k + 1)).flatten.length = (x.2.take k).flatten.length + a.length := by rw [take_succ' hy, List.flatten_append]; simp
  subst ha; rw [wrap_id (by omega)]; omega
theorem big_next (hx : g[r]? = some x) (hk : x.2.length ≤ k) (ha : acc = ((bigP g tk r + x.2.length + (x.2.take k).flatten.length : Nat) : Int)) : acc = ((bigP g tk (r + 1) : Nat) : Int) := by
  rw [bigP_succ hx, ha, List.take_of_length_le hk]; unfold bigR; omega
theorem big_end (hr : g.length ≤ r) (ha : acc = ((bigP g tk r : Nat) : Int)) (hb : acc ≤ 600) : bigN g tk ≤ 600 := by
  rw [bigP_all hr] at ha; omega
end
theorem big8_ok {w : World} {G : Heap} (hG : Has w G) {g : (List (ByteArray × (List (List ByteArray))))} {A_g : Option Addr} {n_g : Nat} {c_g : Nat} {tk : (List ByteArray)} {A_tk : Option Addr} {n_tk : Nat} {c_tk : Nat} (h_g : Sl (tPair tStr (tSlice (tSlice tStr))) G A_g n_g c_g g) (h_tk : Sl tStr G A_tk n_tk c_tk tk) :
    Calls Try.prog 15 #[(.agg #[.slice A_g n_g c_g]), (.slice A_tk n_tk c_tk)] w (Ret w G fun v G' => ∃ (b : Bool), v = .bool b ∧ (bigN g tk ≤ 4000000000000000000 → b = false → bigN g tk ≤ 600)) := by
 have lh_g := h_g.len'
 have lh_tk := h_tk.len'
 refine enter [(.agg [(sS A_g n_g c_g)]), (sS A_tk n_tk c_tk)] 43 Try.func15 rfl rfl rfl rfl hG ?_
 refine WC_seq (WC_region ?_)
 refine WL_execS htb 2 [2, 1] [0] ⟨[(2, (.p 0 0)), (1, (sS A_tk n_tk c_tk))], [(0, (.cells 24 [(sS A_g n_g c_g)]))], 1, [], []⟩ (by kernel_rfl) ?_
 refine WL_nil ?_
 refine WQ_code ?_
 refine WC_seq (WC_region ?_)
 refine WL_execS htb 7 [5, 2] [0] ⟨[(5, (iI (IntKind.i64.wrap (((n_g : Nat) : Int) + ((n_tk : Nat) : Int))))), (2, (.p 0 0))], [(0, (.cells 24 [(sS A_g n_g c_g)]))], 1, [], []⟩ (by kernel_rfl) ?_
 refine WL_nil ?_
 refine WQ_code ?_
 refine WC_seq ?_
 refine WC_seq (WC_region ?_)
 refine WL_execS htb 4 [19, 18, 17, 5] [] ⟨[(19, (iI 0)), (18, (iN n_g)), (17, (sS A_g n_g c_g)), (5, (iI (IntKind.i64.wrap (((n_g : Nat) : Int) + ((n_tk : Nat) : Int)))))], [], 1, [], []⟩ (by kernel_rfl) ?_
 refine WL_nil ?_
 refine WQ_code ?_
 refine WC_block ?_
 refine WK_keep [19, 18, 17, 5] [] rfl rfl ?_
 refine WK_env [(19, (iN 0)), (18, (iN n_g)), (17, (sS A_g n_g c_g)), (5, (iI (IntKind.i64.wrap (((n_g : Nat) : Int) + ((n_tk : Nat) : Int)))))] (fun ρ => ⟨rfl, rfl, ⟨rfl, rfl, ⟨rfl, rfl, ⟨rfl, rfl, trivial⟩⟩⟩⟩) ?_
 refine WC_loop (ι := Nat × Int) (fun (r, acc) G1 => Le G G1 ∧ (r ≤ n_g ∧ (bigN g tk ≤ 4000000000000000000 → acc = ((bigP g tk r : Nat) : Int)))) (fun (r, acc) => ⟨[(19, (iN r)), (18, (iN n_g)), (17, (sS A_g n_g c_g)), (5, (iI acc))], [], 1, [], []⟩) (fun (r, acc) => n_g - r) (0, (IntKind.i64.wrap (((n_g : Nat) : Int) + ((n_tk : Nat) : Int)))) ⟨Le.refl _, ⟨Nat.zero_le _, fun h => big_start h_g.len h_tk.len h⟩⟩ rfl ?_
 rintro ⟨r, acc⟩ G1 ⟨hle, hF⟩
 show WC _ _ _ _ _ ⟨[(19, (iN r)), (18, (iN n_g)), (17, (sS A_g n_g c_g)), (5, (iI acc))], [], 1, [], []⟩ _
 replace h_g := h_g.mono hle
 have hc2 := hle
 obtain ⟨hr, hacc⟩ := hF
 refine WC_seq (WC_region ?_)
 refine WL_execS htb 1 [20, 19, 18, 17, 5] [] ⟨[(20, (bB (decide ((((r : Nat) : Int) : Int) < ((n_g : Nat) : Int))))), (19, (iN r)), (18, (iN n_g)), (17, (sS A_g n_g c_g)), (5, (iI acc))], [], 1, [], []⟩ (by kernel_rfl) ?_
 refine WL_nil ?_
 refine WQ_code ?_
 refine WC_seq ?_
 refine WC_cond (b := (decide ((((r : Nat) : Int) : Int) < ((n_g : Nat) : Int)))) rfl (fun hc => ?_) (fun hc => ?_)
 ·
  replace hc := of_decide_eq_true hc
  refine WC_skip ?_
  refine WQ_code ?_
  refine WC_seq ?_
  refine WC_block ?_
  refine WC_seq (WC_region ?_)
  obtain ⟨q3, rfl⟩ := h_g.ptr (by omega)
  obtain ⟨⟨x6, x8⟩, _, hx4, ⟨_, _, rfl, ⟨rfl, hn7⟩, hr9⟩, at5⟩ := h_g.get r (by omega)
  obtain ⟨A11, n12, c13, rfl, hs10⟩ := Sl.of hr9
  replace hs10 : Sl (tSlice tStr) _ A11 n12 c13 x8 := hs10
  have lhs10 := hs10.len'
  replace at5 : At G1 (q3.add (r * 2)) [.string x6, .slice A11 n12 c13] := at5
  refine WL_op (WOp_idx htb q3 n_g ((r : Nat) : Int) 2 (by kernel_rfl) (by omega) (by omega) ?_)
  refine WL_op (WOp_ld htb (q3.add (r * 2)) true 2 [.string x6, .slice A11 n12 c13] (by kernel_rfl) at5 rfl (by decide) ?_)
  refine WL_execS htb 2 [7, 19, 18, 17, 5] [1] ⟨[(7, (.p 1 0)), (19, (iN r)), (18, (iN n_g)), (17, (sS (some q3) n_g c_g)), (5, (iI acc))], [(1, (.cells 34 [(tS x6), (sS A11 n12 c13)]))], 2, [], []⟩ (by kernel_rfl) ?_
  refine WL_nil ?_
  refine WQ_code ?_
  refine WC_seq (WC_region ?_)
  refine WL_execS htb 6 [5, 7, 19, 18, 17] [1] ⟨[(5, (iI (IntKind.i64.wrap (acc + ((n12 : Nat) : Int))))), (7, (.p 1 0)), (19, (iN r)), (18, (iN n_g)), (17, (sS (some q3) n_g c_g))], [(1, (.cells 34 [(tS x6), (sS A11 n12 c13)]))], 2, [], []⟩ (by kernel_rfl) ?_
  refine WL_nil ?_
  refine WQ_code ?_
  refine WC_seq (WC_region ?_)
  refine WL_execS htb 4 [31, 30, 29, 5, 19, 18, 17] [] ⟨[(31, (iI 0)), (30, (iN n12)), (29, (sS A11 n12 c13)), (5, (iI (IntKind.i64.wrap (acc + ((n12 : Nat) : Int))))), (19, (iN r)), (18, (iN n_g)), (17, (sS (some q3) n_g c_g))], [], 2, [], []⟩ (by kernel_rfl) ?_
  refine WL_nil ?_
  refine WQ_code ?_
  refine WC_block ?_
  refine WK_keep [31, 30, 29, 5, 19, 18, 17] [] rfl rfl ?_
  refine WK_env [(31, (iN 0)), (30, (iN n12)), (29, (sS A11 n12 c13)), (5, (iI (IntKind.i64.wrap (acc + ((n12 : Nat) : Int))))), (19, (iN r)), (18, (iN n_g)), (17, (sS (some q3) n_g c_g))] (fun ρ => ⟨rfl, rfl, ⟨rfl, rfl, ⟨rfl, rfl, ⟨rfl, rfl, ⟨rfl, rfl, ⟨rfl, rfl, ⟨rfl, rfl, trivial⟩⟩⟩⟩⟩⟩⟩) ?_
  refine WC_loop (ι := Nat × Int) (fun (k, acc2) G14 => Le G1 G14 ∧ (k ≤ n12 ∧ (bigN g tk ≤ 4000000000000000000 → acc2 = ((bigP g tk r + x8.length + (x8.take k).flatten.length : Nat) : Int)))) (fun (k, acc2) => ⟨[(31, (iN k)), (30, (iN n12)), (29, (sS A11 n12 c13)), (5, (iI acc2)), (19, (iN r)), (18, (iN n_g)), (17, (sS (some q3) n_g c_g))], [], 2, [], []⟩) (fun (k, acc2) => n12 - k) (0, (IntKind.i64.wrap (acc + ((n12 : Nat) : Int)))) ⟨Le.refl _, ⟨Nat.zero_le _, fun h => big_rule hx4 hs10.len (hacc h) h⟩⟩ rfl ?_
  rintro ⟨k, acc2⟩ G14 ⟨hle, hF⟩
  show WC _ _ _ _ _ ⟨[(31, (iN k)), (30, (iN n12)), (29, (sS A11 n12 c13)), (5, (iI acc2)), (19, (iN r)), (18, (iN n_g)), (17, (sS (some q3) n_g c_g))], [], 2, [], []⟩ _
  replace hc2 := Le.trans hc2 hle
  replace h_g := h_g.mono hle
  replace hs10 := hs10.mono hle
  have hc15 := hle
  obtain ⟨hk, hacc2⟩ := hF
  refine WC_seq (WC_region ?_)
  refine WL_execS htb 1 [32, 31, 30, 29, 5, 19, 18, 17] [] ⟨[(32, (bB (decide ((((k : Nat) : Int) : Int) < ((n12 : Nat) : Int))))), (31, (iN k)), (30, (iN n12)), (29, (sS A11 n12 c13)), (5, (iI acc2)), (19, (iN r)), (18, (iN n_g)), (17, (sS (some q3) n_g c_g))], [], 2, [], []⟩ (by kernel_rfl) ?_
  refine WL_nil ?_
  refine WQ_code ?_
  refine WC_seq ?_
  refine WC_cond (b := (decide ((((k : Nat) : Int) : Int) < ((n12 : Nat) : Int)))) rfl (fun hd => ?_) (fun hd => ?_)
  ·
   replace hd := of_decide_eq_true hd
   refine WC_skip ?_
   refine WQ_code ?_
   refine WC_seq ?_
   refine WC_block ?_
   refine WC_seq (WC_region ?_)
   obtain ⟨q16, rfl⟩ := hs10.ptr (by omega)
   obtain ⟨x19, _, hx17, hr20, at18⟩ := hs10.get k (by omega)
   obtain ⟨A22, n23, c24, rfl, hs21⟩ := Sl.of hr20
   replace hs21 : Sl tStr _ A22 n23 c24 x19 := hs21
   have lhs21 := hs21.len'
   replace at18 : At G14 (q16.add (k * 1)) [.slice A22 n23 c24] := at18
   refine WL_op (WOp_idx htb q16 n12 ((k : Nat) : Int) 1 (by kernel_rfl) (by omega) (by omega) ?_)
   refine WL_op (WOp_ld htb (q16.add (k * 1)) false 1 [.slice A22 n23 c24] (by kernel_rfl) at18 rfl (by decide) ?_)
   refine WL_execS htb 1 [9, 31, 30, 29, 5, 19, 18, 17] [] ⟨[(9, (sS A22 n23 c24)), (31, (iN k)), (30, (iN n12)), (29, (sS (some q16) n12 c13)), (5, (iI acc2)), (19, (iN r)), (18, (iN n_g)), (17, (sS (some q3) n_g c_g))], [], 2, [], []⟩ (by kernel_rfl) ?_
   refine WL_nil ?_
   refine WQ_code ?_
   refine WC_region ?_
   refine WL_execS htb 5 [5, 31, 30, 29, 19, 18, 17] [] ⟨[(5, (iI (IntKind.i64.wrap (acc2 + ((n23 : Nat) : Int))))), (31, (iN k)), (30, (iN n12)), (29, (sS (some q16) n12 c13)), (19, (iN r)), (18, (iN n_g)), (17, (sS (some q3) n_g c_g))], [], 2, [], []⟩ (by kernel_rfl) ?_
   refine WL_nil ?_
   refine WQ_blk ?_
   refine WQ_code ?_
   refine WC_region ?_
   refine WL_execS htb 2 [31, 5, 30, 29, 19, 18, 17] [] ⟨[(31, (iI (IntKind.i64.wrap (((k : Nat) : Int) + 1)))), (5, (iI (IntKind.i64.wrap (acc2 + ((n23 : Nat) : Int))))), (30, (iN n12)), (29, (sS (some q16) n12 c13)), (19, (iN r)), (18, (iN n_g)), (17, (sS (some q3) n_g c_g))], [], 2, [], []⟩ (by kernel_rfl) ?_
   refine WL_nil ?_
   refine WK_env [(31, (iN (k + 1))), (5, (iI (IntKind.i64.wrap (acc2 + ((n23 : Nat) : Int))))), (30, (iN n12)), (29, (sS (some q16) n12 c13)), (19, (iN r)), (18, (iN n_g)), (17, (sS (some q3) n_g c_g))] (fun ρ => ⟨rfl, (congrArg (Value.int .i64) (by rw [wrap_id (by omega)]; first | rfl | omega)), ⟨rfl, rfl, ⟨rfl, rfl, ⟨rfl, rfl, ⟨rfl, rfl, ⟨rfl, rfl, ⟨rfl, rfl, trivial⟩⟩⟩⟩⟩⟩⟩) ?_
   refine WK_keep [31, 30, 29, 5, 19, 18, 17] [] rfl rfl ?_
   exact WQ_next ((k + 1), (IntKind.i64.wrap (acc2 + ((n23 : Nat) : Int)))) (by show n12 - (k + 1) < n12 - k; omega) ⟨hc15, ⟨by omega, fun h => big_alt hx4 hx17 hs21.len (hacc2 h) h⟩⟩ (fun ρ a w h => h)
  ·
   replace hd := of_decide_eq_false hd
   refine WC_exit ?_
   refine WQ_then_exit ?_
   refine WQ_then_exit ?_
   refine WQ_hit ?_
   refine WQ_blk ?_
   refine WQ_code ?_
   refine WC_region ?_
   refine WL_execS htb 2 [19, 5, 18, 17] [] ⟨[(19, (iI (IntKind.i64.wrap (((r : Nat) : Int) + 1)))), (5, (iI acc2)), (18, (iN n_g)), (17, (sS (some q3) n_g c_g))], [], 2, [], []⟩ (by kernel_rfl) ?_
   refine WL_nil ?_
   refine WK_env [(19, (iN (r + 1))), (5, (iI acc2)), (18, (iN n_g)), (17, (sS (some q3) n_g c_g))] (fun ρ => ⟨rfl, (congrArg (Value.int .i64) (by rw [wrap_id (by omega)]; first | rfl | omega)), ⟨rfl, rfl, ⟨rfl, rfl, ⟨rfl, rfl, trivial⟩⟩⟩⟩) ?_
   refine WK_keep [19, 18, 17, 5] [] rfl rfl ?_
   exact WQ_next ((r + 1), acc2) (by show n_g - (r + 1) < n_g - r; omega) ⟨hc2, ⟨by omega, fun h => big_next hx4 (by rw [← hs10.len]; omega) (hacc2 h)⟩⟩ (fun ρ a w h => h)
 ·
  replace hc := of_decide_eq_false hc
  refine WC_exit ?_
  refine WQ_then_exit ?_
  refine WQ_then_exit ?_
  refine WQ_hit ?_
  refine WQ_code ?_
  refine WC_seq (WC_region ?_)
  refine WL_execS htb 3 [4] [] ⟨[(4, (bB (decide ((acc : Int) > 600))))], [], 1, [], []⟩ (by kernel_rfl) ?_
  refine WL_nil ?_
  refine WQ_code ?_
  refine WC_ret ?_
  exact WQ_done htb [(bB (decide ((acc : Int) > 600)))] _ (.inl rfl) rfl (by kernel_rfl) (fun ρ w hW => ⟨(decide ((acc : Int) > 600)), rfl, (fun h hb => big_end (by rw [← h_g.len]; omega) (hacc h) (by simpa using hb))⟩)

end Go.Proofs.Ytfemkbockhpmcaa.Sym
