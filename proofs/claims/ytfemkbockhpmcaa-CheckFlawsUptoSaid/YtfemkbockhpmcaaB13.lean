/- Walks of functions that the laws of this seat reach, printed by a program of this session's. -/
import Derived.Test.YtfemkbockhpmcaaB12
set_option linter.unusedSimpArgs false
set_option linter.unusedVariables false
set_option maxHeartbeats 4000000
namespace Go.Proofs.Ytfemkbockhpmcaa.Sym
open Go Go.Proofs Go.RowKit

abbrev RuleL := ByteArray × List (List ByteArray)
/-- A grammar's names, as the iterator hands them over. -/
def nmsR (x : RuleL) : List ByteArray := x.1 :: x.2.flatten
def nmsP (g : List RuleL) (i : Nat) : List ByteArray := ((g.take i).map nmsR).flatten
def nmsG (g : List RuleL) : List ByteArray := (g.map nmsR).flatten
theorem nmsP_succ {g : List RuleL} {i : Nat} {n : ByteArray} {al : List (List ByteArray)} (hx : g[i]? = some (n, al)) : nmsP g (i + 1) = nmsP g i ++ n :: al.flatten := by
  unfold nmsP; rw [take_succ' hx, List.map_append, List.flatten_append]; simp [nmsR]
theorem nmsP_all {g : List RuleL} {i : Nat} (h : g.length ≤ i) : nmsP g i = nmsG g := by unfold nmsP nmsG; rw [List.take_of_length_le h]
theorem split_at {α : Type} {l : List α} {i : Nat} {x : α} (hx : l[i]? = some x) : l = l.take i ++ x :: l.drop (i + 1) := by
  obtain ⟨h, rfl⟩ := List.getElem?_eq_some_iff.1 hx
  rw [← List.drop_eq_getElem_cons h, List.take_append_drop]
theorem nms_name {g : List RuleL} {i : Nat} {n : ByteArray} {al : List (List ByteArray)} (hx : g[i]? = some (n, al)) : ∃ post, nmsG g = nmsP g i ++ n :: post := by
  refine ⟨al.flatten ++ ((g.drop (i + 1)).map nmsR).flatten, ?_⟩
  conv => lhs; unfold nmsG; rw [split_at hx]
  simp [nmsP, nmsR]
theorem nms_in {g : List RuleL} {i j k : Nat} {n s : ByteArray} {al : List (List ByteArray)} {a : List ByteArray} (hx : g[i]? = some (n, al)) (hy : al[j]? = some a) (hz : a[k]? = some s) : ∃ post, nmsG g = (nmsP g i ++ n :: (al.take j).flatten ++ a.take k) ++ s :: post := by
  refine ⟨a.drop (k + 1) ++ (al.drop (j + 1)).flatten ++ ((g.drop (i + 1)).map nmsR).flatten, ?_⟩
  have e1 : al.flatten = (al.take j).flatten ++ (a.take k ++ s :: a.drop (k + 1)) ++ (al.drop (j + 1)).flatten := by
    rw [← split_at hz]
    conv => lhs; rw [split_at hy]
    simp
  conv => lhs; unfold nmsG; rw [split_at hx]
  simp [nmsP, nmsR, e1]
theorem nms_mem {g : List RuleL} {s : ByteArray} : s ∈ nmsG g ↔ ∃ x ∈ g, s = x.1 ∨ ∃ a ∈ x.2, s ∈ a := by
  unfold nmsG; rw [List.mem_flatten]
  constructor
  · rintro ⟨l, hl, hs⟩
    obtain ⟨x, hx, rfl⟩ := List.mem_map.1 hl
    refine ⟨x, hx, ?_⟩
    rcases List.mem_cons.1 hs with h | h
    · exact .inl h
    · obtain ⟨a, ha, hs⟩ := List.mem_flatten.1 h; exact .inr ⟨a, ha, hs⟩
  · rintro ⟨x, hx, h⟩
    refine ⟨nmsR x, List.mem_map_of_mem hx, ?_⟩
    rcases h with rfl | ⟨a, ha, hs⟩
    · exact List.mem_cons_self
    · exact List.mem_cons_of_mem _ (List.mem_flatten.2 ⟨a, ha, hs⟩)
theorem nms_big {G : Heap} {A : Option Addr} {n c : Nat} {g : List RuleL} (h : Sl (tPair tStr (tSlice (tSlice tStr))) G A n c g) : ∀ s ∈ nmsG g, s.size ≤ big := by
  intro s hs
  obtain ⟨⟨nm, al⟩, hx, hh⟩ := nms_mem.1 hs
  obtain ⟨i, hi⟩ := List.getElem?_of_mem hx
  obtain ⟨q, cs, _, ⟨c1, c2, _, hr1, hr2⟩, _⟩ := h.row i _ hi
  rcases hh with rfl | ⟨a, ha, hsa⟩
  · exact hr1.2
  · obtain ⟨A1, n1, c1', rfl, k1⟩ := Sl.of hr2
    obtain ⟨j, hj⟩ := List.getElem?_of_mem ha
    obtain ⟨q2, cs2, _, hr3, _⟩ := k1.row j _ hj
    obtain ⟨A2, n2, c2', rfl, k2⟩ := Sl.of hr3
    obtain ⟨k, hk⟩ := List.getElem?_of_mem hsa
    obtain ⟨q3, cs3, _, hr4, _⟩ := k2.row k _ hk
    exact hr4.2
theorem mayP_nms {g : List RuleL} : MayP g ↔ (∀ s ∈ nmsG g, IsNameP s) ∧ g.length ≠ 0 ∧ g.any bareR = false := by
  constructor
  · rintro ⟨h1, h2⟩
    refine ⟨fun s hs => ?_, by omega, ?_⟩
    · obtain ⟨x, hx, hh⟩ := nms_mem.1 hs
      rcases hh with rfl | ⟨a, ha, hsa⟩
      · exact (h2 x hx).1
      · exact (h2 x hx).2.2 a ha s hsa
    · rw [List.any_eq_false]; intro x hx hb
      have := (h2 x hx).2.1
      have h3 := of_decide_eq_true hb
      omega
  · rintro ⟨h1, h2, h3⟩
    refine ⟨by omega, fun x hx => ⟨h1 _ (nms_mem.2 ⟨x, hx, .inl rfl⟩), ?_, fun a ha s hs => h1 s (nms_mem.2 ⟨x, hx, .inr ⟨a, ha, hs⟩⟩)⟩⟩
    have := (List.any_eq_false.1 h3) x hx
    rcases Nat.eq_zero_or_pos x.2.length with h | h
    · exact absurd (decide_eq_true h) this
    · exact h
theorem nms_step {al : List (List ByteArray)} {j : Nat} {a : List ByteArray} {p : List ByteArray} {n : ByteArray} (hy : al[j]? = some a) : p ++ n :: (al.take (j + 1)).flatten = p ++ n :: (al.take j).flatten ++ a := by
  rw [take_succ' hy, List.flatten_append]; simp
theorem namesQ_ok {w : World} {G : Heap} (hG : Has w G) {g : List (ByteArray × List (List ByteArray))} {A_g : Option Addr} {n_g c_g : Nat} (h_g : Sl (tPair tStr (tSlice (tSlice tStr))) G A_g n_g c_g g) :
    Calls Try.prog 50 #[.agg #[.slice A_g n_g c_g]] w (Ret w G fun v G' => ∃ q, v = .func (.func 81) #[] #[.pointer (some ⟨q, 0, none⟩)] ∧ At G' ⟨q, 0, none⟩ [.slice A_g n_g c_g]) := by
 have lh_g := h_g.len'
 refine enter [(.agg [(sS A_g n_g c_g)])] 4 Try.func50 rfl rfl rfl rfl hG ?_
 refine WC_seq (WC_region ?_)
 refine WL_execS htb 2 [1] [0] ⟨[(1, (.p 0 0))], [(0, (.cells 24 [(sS A_g n_g c_g)]))], 1, [], []⟩ (by kernel_rfl) ?_
 refine WL_nil ?_
 refine WQ_code ?_
 refine WC_seq (WC_region ?_)
 refine WL_execS htb 2 [2] [0] ⟨[(2, (.fn (.func 81) [(.p 0 0)]))], [(0, (.cells 24 [(sS A_g n_g c_g)]))], 1, [], []⟩ (by kernel_rfl) ?_
 refine WL_nil ?_
 refine WQ_code ?_
 refine WC_ret ?_
 refine WK_freezeV 0 rfl rfl rfl rfl ?_
 intro bk2 G1 hle hbk2
 replace h_g := h_g.mono hle
 show WK _ _ ⟨[(2, (.fn (.func 81) [(.v (.pointer (some (⟨bk2, 0, none⟩ : Addr))))]))], [], 1, [], []⟩ _
 exact WQ_done htb [(.fn (.func 81) [(.v (.pointer (some (⟨bk2, 0, none⟩ : Addr))))])] _ (.inl rfl) rfl (by kernel_rfl) (fun ρ w hW => ⟨_, rfl, At.of_block hbk2⟩)

theorem namesIt_ok {Gb : Heap} {g : List (ByteArray × List (List ByteArray))} {A_g : Option Addr} {n_g c_g : Nat} (h_g : Sl (tPair tStr (tSlice (tSlice tStr))) Gb A_g n_g c_g g) {q : Nat} (hq : At Gb ⟨q, 0, none⟩ [.slice A_g n_g c_g]) :
    IterC Try.prog 81 #[.pointer (some ⟨q, 0, none⟩)] (fun s => #[.string s]) Gb (nmsG g) := by
 intro l J Jx W O A hY hH hO hJ0
 have lh_g := h_g.len'
 have hG := hH
 refine enter [(.v (.func (.yield l) #[] #[])), (.v (.pointer (some (⟨q, 0, none⟩ : Addr))))] 41 Try.func81 rfl rfl rfl rfl hG ?_
 have hleb := Le.refl Gb
 have hJ : Yn J ([] : List ByteArray) W Gb (fun _ => False) := ⟨O, A, hJ0, fun b h => h.elim, hO⟩
 refine WC_seq (WC_region ?_)
 refine WL_execS htb 1 [9, 0] [] ⟨[(9, (.v (.pointer (some ((⟨q, 0, none⟩ : Addr).add 0))))), (0, (.v (.func (.yield l) #[] #[])))], [], 0, [], []⟩ (by kernel_rfl) ?_
 refine WL_op (WOp_ld htb ((⟨q, 0, none⟩ : Addr).add 0) false 1 [.slice A_g n_g c_g] (by kernel_rfl) ((hq.field 0 rfl).mono hleb) rfl (by decide) ?_)
 refine WL_execS htb 2 [12, 11, 10, 0] [] ⟨[(12, (iI 0)), (11, (iN n_g)), (10, (sS A_g n_g c_g)), (0, (.v (.func (.yield l) #[] #[])))], [], 0, [], []⟩ (by kernel_rfl) ?_
 refine WL_nil ?_
 refine WQ_code ?_
 refine WC_block ?_
 refine WK_keep [12, 11, 10, 0] [] rfl rfl ?_
 refine WK_env [(12, (iN 0)), (11, (iN n_g)), (10, (sS A_g n_g c_g)), (0, (.v (.func (.yield l) #[] #[])))] (fun ρ => ⟨rfl, rfl, ⟨rfl, rfl, ⟨rfl, rfl, ⟨rfl, rfl, trivial⟩⟩⟩⟩) ?_
 refine WC_loopC (ι := Nat) (fun i wn2 Gn3 Dn4 G1 => Le Gb G1 ∧ (i ≤ n_g ∧ Yn J (nmsP g i) wn2 Gn3 Dn4)) (fun i => ⟨[(12, (iN i)), (11, (iN n_g)), (10, (sS A_g n_g c_g)), (0, (.v (.func (.yield l) #[] #[])))], [], 0, [], []⟩) (fun i => n_g - i) (0) ⟨hleb, ⟨Nat.zero_le _, hJ⟩⟩ rfl ?_
 rintro i wn2 Gn3 Dn4 G1 ⟨hleb, hF⟩
 show WC _ _ _ _ _ ⟨[(12, (iN i)), (11, (iN n_g)), (10, (sS A_g n_g c_g)), (0, (.v (.func (.yield l) #[] #[])))], [], 0, [], []⟩ _
 obtain ⟨hi, hJ⟩ := hF
 refine WC_seq (WC_region ?_)
 refine WL_execS htb 1 [13, 12, 11, 10, 0] [] ⟨[(13, (bB (decide ((((i : Nat) : Int) : Int) < ((n_g : Nat) : Int))))), (12, (iN i)), (11, (iN n_g)), (10, (sS A_g n_g c_g)), (0, (.v (.func (.yield l) #[] #[])))], [], 0, [], []⟩ (by kernel_rfl) ?_
 refine WL_nil ?_
 refine WQ_code ?_
 refine WC_seq ?_
 refine WC_cond (b := (decide ((((i : Nat) : Int) : Int) < ((n_g : Nat) : Int)))) rfl (fun hc => ?_) (fun hc => ?_)
 ·
  replace hc := of_decide_eq_true hc
  refine WC_skip ?_
  refine WQ_code ?_
  refine WC_seq ?_
  refine WC_block ?_
  refine WC_seq (WC_region ?_)
  obtain ⟨q5, rfl⟩ := h_g.ptr (by omega)
  obtain ⟨⟨x8, x10⟩, _, hx6, ⟨_, _, rfl, ⟨rfl, hn9⟩, hr11⟩, at7⟩ := h_g.get i (by omega)
  obtain ⟨A13, n14, c15, rfl, hs12⟩ := Sl.of hr11
  replace hs12 : Sl (tSlice tStr) _ A13 n14 c15 x10 := hs12
  have lhs12 := hs12.len'
  replace at7 : At Gb (q5.add (i * 2)) [.string x8, .slice A13 n14 c15] := at7
  refine WL_op (WOp_idx htb q5 n_g ((i : Nat) : Int) 2 (by kernel_rfl) (by omega) (by omega) ?_)
  refine WL_op (WOp_ld htb (q5.add (i * 2)) true 2 [.string x8, .slice A13 n14 c15] (by kernel_rfl) (at7.mono hleb) rfl (by decide) ?_)
  refine WL_execS htb 2 [4, 12, 11, 10, 0] [0] ⟨[(4, (.p 0 0)), (12, (iN i)), (11, (iN n_g)), (10, (sS (some q5) n_g c_g)), (0, (.v (.func (.yield l) #[] #[])))], [(0, (.cells 34 [(tS x8), (sS A13 n14 c15)]))], 1, [], []⟩ (by kernel_rfl) ?_
  refine WL_nil ?_
  refine WQ_code ?_
  refine WC_seq ?_
  refine WC_seq (WC_region ?_)
  refine WL_execS htb 3 [18, 16, 4, 12, 11, 10, 0] [0] ⟨[(18, (tS x8)), (16, (.v (.func (.yield l) #[] #[]))), (4, (.p 0 0)), (12, (iN i)), (11, (iN n_g)), (10, (sS (some q5) n_g c_g)), (0, (.v (.func (.yield l) #[] #[])))], [(0, (.cells 34 [(tS x8), (sS A13 n14 c15)]))], 1, [], []⟩ (by kernel_rfl) ?_
  refine WK_freeze 0 rfl rfl rfl rfl ?_
  intro bk17 G16 hle hbk17
  replace hleb := Le.trans hleb hle
  have hz := FZ.cons (h := 0) hbk17 rfl (FZ.nil _)
  obtain ⟨post, hL⟩ := nms_name hx6
  refine WL_op (WOp_yield hY x8 [(tS x8)] (by kernel_rfl) (fun ρ => rfl) hL hJ 0 rfl (fun w' D' hJ => ?_) (fun w' D' hJ => ?_))
  ·
   skip
   clear hL post
   refine WL_execS htb 1 [20, 4, 12, 11, 10, 0] [] ⟨[(20, (bB false)), (4, (.p 0 0)), (12, (iN i)), (11, (iN n_g)), (10, (sS (some q5) n_g c_g)), (0, (.v (.func (.yield l) #[] #[])))], [], 1, [], [(0, bk17, (.cells 34 [(tS x8), (sS A13 n14 c15)]))]⟩ (by kernel_rfl) ?_
   refine WL_nil ?_
   refine WQ_code ?_
   refine WC_cond (b := false) rfl (fun h => by cases h) (fun _ => ?_)
   refine WC_skip ?_
   refine WQ_code ?_
   refine WC_seq (WC_region ?_)
   refine WL_execS htb 4 [24, 23, 22, 12, 11, 10, 0] [] ⟨[(24, (iI 0)), (23, (iN n14)), (22, (sS A13 n14 c15)), (12, (iN i)), (11, (iN n_g)), (10, (sS (some q5) n_g c_g)), (0, (.v (.func (.yield l) #[] #[])))], [], 1, [], [(0, bk17, (.cells 34 [(tS x8), (sS A13 n14 c15)]))]⟩ (by kernel_rfl) ?_
   refine WL_nil ?_
   refine WQ_code ?_
   refine WC_block ?_
   refine WK_keep [24, 23, 22, 12, 11, 10, 0] [] rfl rfl ?_
   refine WK_env [(24, (iN 0)), (23, (iN n14)), (22, (sS A13 n14 c15)), (12, (iN i)), (11, (iN n_g)), (10, (sS (some q5) n_g c_g)), (0, (.v (.func (.yield l) #[] #[])))] (fun ρ => ⟨rfl, rfl, ⟨rfl, rfl, ⟨rfl, rfl, ⟨rfl, rfl, ⟨rfl, rfl, ⟨rfl, rfl, ⟨rfl, rfl, trivial⟩⟩⟩⟩⟩⟩⟩) ?_
   refine WC_loopC (ι := Nat) (fun j wn19 Gn20 Dn21 G18 => Le Gb G18 ∧ (j ≤ n14 ∧ Yn J (nmsP g i ++ x8 :: (x10.take j).flatten) wn19 Gn20 Dn21)) (fun j => ⟨[(24, (iN j)), (23, (iN n14)), (22, (sS A13 n14 c15)), (12, (iN i)), (11, (iN n_g)), (10, (sS (some q5) n_g c_g)), (0, (.v (.func (.yield l) #[] #[])))], [], 1, [], [(0, bk17, (.cells 34 [(tS x8), (sS A13 n14 c15)]))]⟩) (fun j => n14 - j) (0) ⟨hleb, ⟨Nat.zero_le _, hJ⟩⟩ rfl ?_
   rintro j wn19 Gn20 Dn21 G18 ⟨hleb, hF⟩
   show WC _ _ _ _ _ ⟨[(24, (iN j)), (23, (iN n14)), (22, (sS A13 n14 c15)), (12, (iN i)), (11, (iN n_g)), (10, (sS (some q5) n_g c_g)), (0, (.v (.func (.yield l) #[] #[])))], [], 1, [], [(0, bk17, (.cells 34 [(tS x8), (sS A13 n14 c15)]))]⟩ _
   obtain ⟨hj, hJ⟩ := hF
   refine WC_seq (WC_region ?_)
   refine WL_execS htb 1 [25, 24, 23, 22, 12, 11, 10, 0] [] ⟨[(25, (bB (decide ((((j : Nat) : Int) : Int) < ((n14 : Nat) : Int))))), (24, (iN j)), (23, (iN n14)), (22, (sS A13 n14 c15)), (12, (iN i)), (11, (iN n_g)), (10, (sS (some q5) n_g c_g)), (0, (.v (.func (.yield l) #[] #[])))], [], 1, [], [(0, bk17, (.cells 34 [(tS x8), (sS A13 n14 c15)]))]⟩ (by kernel_rfl) ?_
   refine WL_nil ?_
   refine WQ_code ?_
   refine WC_seq ?_
   refine WC_cond (b := (decide ((((j : Nat) : Int) : Int) < ((n14 : Nat) : Int)))) rfl (fun he => ?_) (fun he => ?_)
   ·
    replace he := of_decide_eq_true he
    refine WC_skip ?_
    refine WQ_code ?_
    refine WC_seq ?_
    refine WC_block ?_
    refine WC_seq (WC_region ?_)
    obtain ⟨q22, rfl⟩ := hs12.ptr (by omega)
    obtain ⟨x25, _, hx23, hr26, at24⟩ := hs12.get j (by omega)
    obtain ⟨A28, n29, c30, rfl, hs27⟩ := Sl.of hr26
    replace hs27 : Sl tStr _ A28 n29 c30 x25 := hs27
    have lhs27 := hs27.len'
    replace at24 : At Gb (q22.add (j * 1)) [.slice A28 n29 c30] := at24
    refine WL_op (WOp_idx htb q22 n14 ((j : Nat) : Int) 1 (by kernel_rfl) (by omega) (by omega) ?_)
    refine WL_op (WOp_ld htb (q22.add (j * 1)) false 1 [.slice A28 n29 c30] (by kernel_rfl) (at24.mono hleb) rfl (by decide) ?_)
    refine WL_execS htb 1 [6, 24, 23, 22, 12, 11, 10, 0] [] ⟨[(6, (sS A28 n29 c30)), (24, (iN j)), (23, (iN n14)), (22, (sS (some q22) n14 c15)), (12, (iN i)), (11, (iN n_g)), (10, (sS (some q5) n_g c_g)), (0, (.v (.func (.yield l) #[] #[])))], [], 1, [], [(0, bk17, (.cells 34 [(tS x8), (sS (some q22) n14 c15)]))]⟩ (by kernel_rfl) ?_
    refine WL_nil ?_
    refine WQ_code ?_
    refine WC_seq (WC_region ?_)
    refine WL_execS htb 3 [30, 29, 28, 24, 23, 22, 12, 11, 10, 0] [] ⟨[(30, (iI 0)), (29, (iN n29)), (28, (sS A28 n29 c30)), (24, (iN j)), (23, (iN n14)), (22, (sS (some q22) n14 c15)), (12, (iN i)), (11, (iN n_g)), (10, (sS (some q5) n_g c_g)), (0, (.v (.func (.yield l) #[] #[])))], [], 1, [], [(0, bk17, (.cells 34 [(tS x8), (sS (some q22) n14 c15)]))]⟩ (by kernel_rfl) ?_
    refine WL_nil ?_
    refine WQ_code ?_
    refine WC_block ?_
    refine WK_keep [30, 29, 28, 24, 23, 22, 12, 11, 10, 0] [] rfl rfl ?_
    refine WK_env [(30, (iN 0)), (29, (iN n29)), (28, (sS A28 n29 c30)), (24, (iN j)), (23, (iN n14)), (22, (sS (some q22) n14 c15)), (12, (iN i)), (11, (iN n_g)), (10, (sS (some q5) n_g c_g)), (0, (.v (.func (.yield l) #[] #[])))] (fun ρ => ⟨rfl, rfl, ⟨rfl, rfl, ⟨rfl, rfl, ⟨rfl, rfl, ⟨rfl, rfl, ⟨rfl, rfl, ⟨rfl, rfl, ⟨rfl, rfl, ⟨rfl, rfl, ⟨rfl, rfl, trivial⟩⟩⟩⟩⟩⟩⟩⟩⟩⟩) ?_
    refine WC_loopC (ι := Nat) (fun k wn32 Gn33 Dn34 G31 => Le Gb G31 ∧ (k ≤ n29 ∧ Yn J (nmsP g i ++ x8 :: (x10.take j).flatten ++ x25.take k) wn32 Gn33 Dn34)) (fun k => ⟨[(30, (iN k)), (29, (iN n29)), (28, (sS A28 n29 c30)), (24, (iN j)), (23, (iN n14)), (22, (sS (some q22) n14 c15)), (12, (iN i)), (11, (iN n_g)), (10, (sS (some q5) n_g c_g)), (0, (.v (.func (.yield l) #[] #[])))], [], 1, [], [(0, bk17, (.cells 34 [(tS x8), (sS (some q22) n14 c15)]))]⟩) (fun k => n29 - k) (0) ⟨hleb, ⟨Nat.zero_le _, (by rw [List.take_zero, List.append_nil]; exact hJ)⟩⟩ rfl ?_
    rintro k wn32 Gn33 Dn34 G31 ⟨hleb, hF⟩
    show WC _ _ _ _ _ ⟨[(30, (iN k)), (29, (iN n29)), (28, (sS A28 n29 c30)), (24, (iN j)), (23, (iN n14)), (22, (sS (some q22) n14 c15)), (12, (iN i)), (11, (iN n_g)), (10, (sS (some q5) n_g c_g)), (0, (.v (.func (.yield l) #[] #[])))], [], 1, [], [(0, bk17, (.cells 34 [(tS x8), (sS (some q22) n14 c15)]))]⟩ _
    obtain ⟨hk, hJ⟩ := hF
    refine WC_seq (WC_region ?_)
    refine WL_execS htb 1 [31, 30, 29, 28, 24, 23, 22, 12, 11, 10, 0] [] ⟨[(31, (bB (decide ((((k : Nat) : Int) : Int) < ((n29 : Nat) : Int))))), (30, (iN k)), (29, (iN n29)), (28, (sS A28 n29 c30)), (24, (iN j)), (23, (iN n14)), (22, (sS (some q22) n14 c15)), (12, (iN i)), (11, (iN n_g)), (10, (sS (some q5) n_g c_g)), (0, (.v (.func (.yield l) #[] #[])))], [], 1, [], [(0, bk17, (.cells 34 [(tS x8), (sS (some q22) n14 c15)]))]⟩ (by kernel_rfl) ?_
    refine WL_nil ?_
    refine WQ_code ?_
    refine WC_seq ?_
    refine WC_cond (b := (decide ((((k : Nat) : Int) : Int) < ((n29 : Nat) : Int)))) rfl (fun hf => ?_) (fun hf => ?_)
    ·
     replace hf := of_decide_eq_true hf
     refine WC_skip ?_
     refine WQ_code ?_
     refine WC_seq ?_
     refine WC_block ?_
     refine WC_seq (WC_region ?_)
     obtain ⟨q35, rfl⟩ := hs27.ptr (by omega)
     obtain ⟨x38, _, hx36, ⟨rfl, hn39⟩, at37⟩ := hs27.get k (by omega)
     replace at37 : At Gb (q35.add (k * 1)) [.string x38] := at37
     refine WL_op (WOp_idx htb q35 n29 ((k : Nat) : Int) 1 (by kernel_rfl) (by omega) (by omega) ?_)
     refine WL_op (WOp_ld htb (q35.add (k * 1)) false 1 [.string x38] (by kernel_rfl) (at37.mono hleb) rfl (by decide) ?_)
     refine WL_execS htb 1 [8, 30, 29, 28, 24, 23, 22, 12, 11, 10, 0] [] ⟨[(8, (tS x38)), (30, (iN k)), (29, (iN n29)), (28, (sS (some q35) n29 c30)), (24, (iN j)), (23, (iN n14)), (22, (sS (some q22) n14 c15)), (12, (iN i)), (11, (iN n_g)), (10, (sS (some q5) n_g c_g)), (0, (.v (.func (.yield l) #[] #[])))], [], 1, [], [(0, bk17, (.cells 34 [(tS x8), (sS (some q22) n14 c15)]))]⟩ (by kernel_rfl) ?_
     refine WL_nil ?_
     refine WQ_code ?_
     refine WC_seq (WC_region ?_)
     refine WL_execS htb 2 [35, 34, 30, 29, 28, 24, 23, 22, 12, 11, 10, 0] [] ⟨[(35, (tS x38)), (34, (.v (.func (.yield l) #[] #[]))), (30, (iN k)), (29, (iN n29)), (28, (sS (some q35) n29 c30)), (24, (iN j)), (23, (iN n14)), (22, (sS (some q22) n14 c15)), (12, (iN i)), (11, (iN n_g)), (10, (sS (some q5) n_g c_g)), (0, (.v (.func (.yield l) #[] #[])))], [], 1, [], [(0, bk17, (.cells 34 [(tS x8), (sS (some q22) n14 c15)]))]⟩ (by kernel_rfl) ?_
     obtain ⟨post, hL⟩ := nms_in hx6 hx23 hx36
     refine WL_op (WOp_yield hY x38 [(tS x38)] (by kernel_rfl) (fun ρ => rfl) hL hJ 0 rfl (fun w' D' hJ => ?_) (fun w' D' hJ => ?_))
     ·
      skip
      clear hL post
      refine WL_execS htb 1 [37, 30, 29, 28, 24, 23, 22, 12, 11, 10, 0] [] ⟨[(37, (bB false)), (30, (iN k)), (29, (iN n29)), (28, (sS (some q35) n29 c30)), (24, (iN j)), (23, (iN n14)), (22, (sS (some q22) n14 c15)), (12, (iN i)), (11, (iN n_g)), (10, (sS (some q5) n_g c_g)), (0, (.v (.func (.yield l) #[] #[])))], [], 1, [], [(0, bk17, (.cells 34 [(tS x8), (sS (some q22) n14 c15)]))]⟩ (by kernel_rfl) ?_
      refine WL_nil ?_
      refine WQ_code ?_
      refine WC_cond (b := false) rfl (fun h => by cases h) (fun _ => ?_)
      refine WC_skip ?_
      refine WQ_blk ?_
      refine WQ_code ?_
      refine WC_region ?_
      refine WL_execS htb 2 [30, 29, 28, 24, 23, 22, 12, 11, 10, 0] [] ⟨[(30, (iI (IntKind.i64.wrap (((k : Nat) : Int) + 1)))), (29, (iN n29)), (28, (sS (some q35) n29 c30)), (24, (iN j)), (23, (iN n14)), (22, (sS (some q22) n14 c15)), (12, (iN i)), (11, (iN n_g)), (10, (sS (some q5) n_g c_g)), (0, (.v (.func (.yield l) #[] #[])))], [], 1, [], [(0, bk17, (.cells 34 [(tS x8), (sS (some q22) n14 c15)]))]⟩ (by kernel_rfl) ?_
      refine WL_nil ?_
      refine WK_env [(30, (iN (k + 1))), (29, (iN n29)), (28, (sS (some q35) n29 c30)), (24, (iN j)), (23, (iN n14)), (22, (sS (some q22) n14 c15)), (12, (iN i)), (11, (iN n_g)), (10, (sS (some q5) n_g c_g)), (0, (.v (.func (.yield l) #[] #[])))] (fun ρ => ⟨rfl, (congrArg (Value.int .i64) (by rw [wrap_id (by omega)]; first | rfl | omega)), ⟨rfl, rfl, ⟨rfl, rfl, ⟨rfl, rfl, ⟨rfl, rfl, ⟨rfl, rfl, ⟨rfl, rfl, ⟨rfl, rfl, ⟨rfl, rfl, ⟨rfl, rfl, trivial⟩⟩⟩⟩⟩⟩⟩⟩⟩⟩) ?_
      refine WK_keep [30, 29, 28, 24, 23, 22, 12, 11, 10, 0] [] rfl rfl ?_
      exact WQ_nextC ((k + 1)) (by show n29 - (k + 1) < n29 - k; omega) ⟨hleb, ⟨by omega, (by rw [take_succ' hx36, ← List.append_assoc]; exact hJ)⟩⟩ (fun ρ a w h => h)
     ·
      skip
      skip
      refine WL_execS htb 1 [37, 30, 29, 28, 24, 23, 22, 12, 11, 10, 0] [] ⟨[(37, (bB true)), (30, (iN k)), (29, (iN n29)), (28, (sS (some q35) n29 c30)), (24, (iN j)), (23, (iN n14)), (22, (sS (some q22) n14 c15)), (12, (iN i)), (11, (iN n_g)), (10, (sS (some q5) n_g c_g)), (0, (.v (.func (.yield l) #[] #[])))], [], 1, [], [(0, bk17, (.cells 34 [(tS x8), (sS (some q22) n14 c15)]))]⟩ (by kernel_rfl) ?_
      refine WL_nil ?_
      refine WQ_code ?_
      refine WC_cond (b := true) rfl (fun _ => ?_) (fun h => by cases h)
      refine WC_ret ?_
      refine WQ_blk_ret ?_
      refine WQ_then_ret ?_
      refine WQ_then_ret ?_
      refine WQ_blk_ret ?_
      refine WQ_blk_ret ?_
      refine WQ_then_ret ?_
      refine WQ_then_ret ?_
      refine WQ_blk_ret ?_
      refine WQ_blk_ret ?_
      refine WQ_then_ret ?_
      refine WQ_then_ret ?_
      refine WQ_blk_ret ?_
      exact WQ_itDone hY htb [] _ (.inl rfl) rfl (by kernel_rfl) (.inr ⟨_, ⟨post, by rw [hL]; simp⟩, hJ⟩)
    ·
     replace hf := of_decide_eq_false hf
     refine WC_exit ?_
     refine WQ_then_exit ?_
     refine WQ_then_exit ?_
     refine WQ_hit ?_
     refine WQ_blk ?_
     refine WQ_code ?_
     refine WC_region ?_
     refine WL_execS htb 2 [24, 23, 22, 12, 11, 10, 0] [] ⟨[(24, (iI (IntKind.i64.wrap (((j : Nat) : Int) + 1)))), (23, (iN n14)), (22, (sS (some q22) n14 c15)), (12, (iN i)), (11, (iN n_g)), (10, (sS (some q5) n_g c_g)), (0, (.v (.func (.yield l) #[] #[])))], [], 1, [], [(0, bk17, (.cells 34 [(tS x8), (sS (some q22) n14 c15)]))]⟩ (by kernel_rfl) ?_
     refine WL_nil ?_
     refine WK_env [(24, (iN (j + 1))), (23, (iN n14)), (22, (sS (some q22) n14 c15)), (12, (iN i)), (11, (iN n_g)), (10, (sS (some q5) n_g c_g)), (0, (.v (.func (.yield l) #[] #[])))] (fun ρ => ⟨rfl, (congrArg (Value.int .i64) (by rw [wrap_id (by omega)]; first | rfl | omega)), ⟨rfl, rfl, ⟨rfl, rfl, ⟨rfl, rfl, ⟨rfl, rfl, ⟨rfl, rfl, ⟨rfl, rfl, trivial⟩⟩⟩⟩⟩⟩⟩) ?_
     rw [List.take_of_length_le (show x25.length ≤ k by omega)] at hJ
     refine WK_keep [24, 23, 22, 12, 11, 10, 0] [] rfl rfl ?_
     exact WQ_nextC ((j + 1)) (by show n14 - (j + 1) < n14 - j; omega) ⟨hleb, ⟨by omega, (by rw [nms_step hx23]; exact hJ)⟩⟩ (fun ρ a w h => h)
   ·
    replace he := of_decide_eq_false he
    refine WC_exit ?_
    refine WQ_then_exit ?_
    refine WQ_then_exit ?_
    refine WQ_hit ?_
    refine WQ_blk ?_
    refine WQ_code ?_
    refine WC_region ?_
    refine WL_execS htb 2 [12, 11, 10, 0] [] ⟨[(12, (iI (IntKind.i64.wrap (((i : Nat) : Int) + 1)))), (11, (iN n_g)), (10, (sS (some q5) n_g c_g)), (0, (.v (.func (.yield l) #[] #[])))], [], 1, [], [(0, bk17, (.cells 34 [(tS x8), (sS A13 n14 c15)]))]⟩ (by kernel_rfl) ?_
    refine WL_nil ?_
    refine WK_env [(12, (iN (i + 1))), (11, (iN n_g)), (10, (sS (some q5) n_g c_g)), (0, (.v (.func (.yield l) #[] #[])))] (fun ρ => ⟨rfl, (congrArg (Value.int .i64) (by rw [wrap_id (by omega)]; first | rfl | omega)), ⟨rfl, rfl, ⟨rfl, rfl, ⟨rfl, rfl, trivial⟩⟩⟩⟩) ?_
    rw [List.take_of_length_le (show x10.length ≤ j by omega)] at hJ
    refine WK_dropfz 1 ?_
    show WK _ _ ⟨_, _, _, _, []⟩ _
    refine WK_keep [12, 11, 10, 0] [] rfl rfl ?_
    exact WQ_nextC ((i + 1)) (by show n_g - (i + 1) < n_g - i; omega) ⟨hleb, ⟨by omega, (by rw [nmsP_succ hx6]; exact hJ)⟩⟩ (fun ρ a w h => h)
  ·
   skip
   skip
   refine WL_execS htb 1 [20, 4, 12, 11, 10, 0] [] ⟨[(20, (bB true)), (4, (.p 0 0)), (12, (iN i)), (11, (iN n_g)), (10, (sS (some q5) n_g c_g)), (0, (.v (.func (.yield l) #[] #[])))], [], 1, [], [(0, bk17, (.cells 34 [(tS x8), (sS A13 n14 c15)]))]⟩ (by kernel_rfl) ?_
   refine WL_nil ?_
   refine WQ_code ?_
   refine WC_cond (b := true) rfl (fun _ => ?_) (fun h => by cases h)
   refine WC_ret ?_
   refine WQ_then_ret ?_
   refine WQ_blk_ret ?_
   refine WQ_then_ret ?_
   refine WQ_then_ret ?_
   refine WQ_blk_ret ?_
   exact WQ_itDone hY htb [] _ (.inl rfl) rfl (by kernel_rfl) (.inr ⟨_, ⟨post, by rw [hL]; simp⟩, hJ⟩)
 ·
  replace hc := of_decide_eq_false hc
  refine WC_exit ?_
  refine WQ_then_exit ?_
  refine WQ_then_exit ?_
  refine WQ_hit ?_
  rw [nmsP_all (show g.length ≤ i by omega)] at hJ
  exact WQ_itDone hY htb [] _ (.inr rfl) rfl (by kernel_rfl) (.inl hJ)

theorem checkG_ok {w : World} {G : Heap} (hG : Has w G) {g : (List (ByteArray × (List (List ByteArray))))} {A_g : Option Addr} {n_g : Nat} {c_g : Nat} (h_g : Sl (tPair tStr (tSlice (tSlice tStr))) G A_g n_g c_g g) :
    Calls Try.prog 25 #[(.agg #[.slice A_g n_g c_g])] w (Ret w G fun v G' => ∃ (e : Int), v = .int .i64 e ∧ (-9223372036854775808 ≤ e ∧ e ≤ 9223372036854775807) ∧ ((¬ MayP g → e = 1) ∧ (MayP g → LongP g → e = 2) ∧ (MayP g → ¬ LongP g → e = 0))) := by
 have lh_g := h_g.len'
 refine enterM [(.agg [(sS A_g n_g c_g)])] 21 Try.func25 rfl rfl rfl rfl hG ?_
 refine WC_seq (WC_region ?_)
 refine WL_execS htb 2 [2, 1] [1, 0] ⟨[(2, (.p 1 0)), (1, (.p 0 0))], [(1, (.cells 42 [(iI 0)])), (0, (.cells 24 [(sS A_g n_g c_g)]))], 2, [], []⟩ (by kernel_rfl) ?_
 refine WL_nil ?_
 refine WQ_code ?_
 refine WC_seq ?_
 refine WC_seq (WC_region ?_)
 refine WL_execS htb 1 [4, 2, 1] [1, 0] ⟨[(4, (.agg [(sS A_g n_g c_g)])), (2, (.p 1 0)), (1, (.p 0 0))], [(1, (.cells 42 [(iI 0)])), (0, (.cells 24 [(sS A_g n_g c_g)]))], 2, [], []⟩ (by kernel_rfl) ?_
 refine WL_op (WOp_call 50 [(.agg [(sS A_g n_g c_g)])] (by kernel_rfl) (goes_of Try.func50 rfl rfl) (fun ρ w hW => namesQ_ok hW.has h_g) ?_)
 intro G701 v hle hΦ
 replace h_g := h_g.mono hle
 obtain ⟨q, rfl, hq⟩ := hΦ
 refine WK_env [(5, (.fn (.func 81) [(.v (.pointer (some (⟨q, 0, none⟩ : Addr))))])), (4, (.agg [(sS A_g n_g c_g)])), (2, (.p 1 0)), (1, (.p 0 0))] (fun ρ => ⟨rfl, rfl, ⟨rfl, rfl, ⟨rfl, rfl, ⟨rfl, rfl, trivial⟩⟩⟩⟩) ?_
 refine WL_nil ?_
 refine WQ_code ?_
 refine WC_block ?_
 have hle_a := hle
 refine WK_freezeV 0 rfl rfl rfl rfl ?_
 intro bk2 G1 hle hbk2
 replace h_g := h_g.mono hle
 replace hq := hq.mono hle
 show WK _ _ ⟨[(5, (.fn (.func 81) [(.v (.pointer (some (⟨q, 0, none⟩ : Addr))))])), (4, (.agg [(sS A_g n_g c_g)])), (2, (.p 1 0)), (1, (.v (.pointer (some (⟨bk2, 0, none⟩ : Addr)))))], [(1, (.cells 42 [(iI 0)]))], 2, [], []⟩ _
 have hle00 := Le.trans hle_a hle
 have hA1 : At _ ⟨bk2, 0, none⟩ [.slice A_g n_g c_g] := At.of_block hbk2
 refine WK_freezeVN 1 rfl rfl rfl rfl ?_
 intro bk4 G3 hle6 hnew5 hbk4
 show WK _ _ ⟨[(5, (.fn (.func 81) [(.v (.pointer (some (⟨q, 0, none⟩ : Addr))))])), (4, (.agg [(sS A_g n_g c_g)])), (2, (.v (.pointer (some (⟨bk4, 0, none⟩ : Addr))))), (1, (.v (.pointer (some (⟨bk2, 0, none⟩ : Addr)))))], [], 2, [], []⟩ _
 have hleb := hle6
 clear hle
 have hG0n : ∀ b, b = bk4 → G b = none := fun b hb => by (cases e : G b with | none => rfl | some o => have h1 := hle00 _ _ e; rw [hb, hnew5] at h1; cases h1)
 have hbig := nms_big h_g
 refine WK_keep [5, 2, 1] [] rfl rfl ?_
 refine WC_rangeF (nmsG g) (fun s => [(tS s)]) 81 [(.v (.pointer (some (⟨q, 0, none⟩ : Addr))))] G1 ⟨w, G, fun _ => False, 21, 0⟩ rfl (by kernel_rfl) (goes_of Try.func81 rfl rfl) (fun ρ => namesIt_ok h_g hq) hleb rfl rfl rfl (fun pre O GG => (∀ b, O b ↔ b = bk4) ∧ Le G1 GG ∧ GG bk4 = some (.cells #[.int .i64 0] 42 (0, 0)) ∧ ∀ s ∈ pre, IsNameP s) (fun cd O GG => cd = .ret ∧ Le G1 GG ∧ GG bk4 = some (.cells #[.int .i64 1] 42 (0, 0)) ∧ ¬ MayP g) (fun b => b = bk4) ⟨fun b => Iff.rfl, hleb, hbk4, fun s h => by cases h⟩ (fun b hb => ⟨hG0n b hb, by (cases (show b = bk4 from hb); exact ⟨_, hbk4⟩)⟩) (fun b o hb hO => by rw [hO, hnew5] at hb; cases hb) (fun pre O GG h => Le.trans hle00 h.2.1) (fun cd O GG h => Le.trans hle00 h.2.1) (fun _ => rfl) (fun s => [(6, (tS s)), (5, (.fn (.func 81) [(.v (.pointer (some (⟨q, 0, none⟩ : Addr))))])), (2, (.v (.pointer (some (⟨bk4, 0, none⟩ : Addr))))), (1, (.v (.pointer (some (⟨bk2, 0, none⟩ : Addr)))))]) (fun s => [(3, (tS s)), (2, (.v (.pointer (some (⟨bk4, 0, none⟩ : Addr)))))]) (fun _ => rfl) (by kernel_rfl) ?_ ?_ ?_ ?_
 ·
  intro r s w0 G0 D G Q k
  show WC _ _ _ _ _ ⟨[(6, (tS s)), (5, (.fn (.func 81) [(.v (.pointer (some (⟨q, 0, none⟩ : Addr))))])), (2, (.v (.pointer (some (⟨bk4, 0, none⟩ : Addr))))), (1, (.v (.pointer (some (⟨bk2, 0, none⟩ : Addr)))))], [], 2, [], []⟩ _
  refine WC_region ?_
  refine WL_execS htb 1 [3, 2] [] ⟨[(3, (tS s)), (2, (.v (.pointer (some (⟨bk4, 0, none⟩ : Addr)))))], [], 2, [], []⟩ (by kernel_rfl) ?_
  refine WL_nil ?_
  exact k
 ·
  intro l pre s post O G2 w1 hL hF hOlt
  show WC _ _ _ _ _ ⟨[(3, (tS s)), (2, (.v (.pointer (some (⟨bk4, 0, none⟩ : Addr)))))], [], 2, [], []⟩ _
  obtain ⟨hO, hleb, hG2, hn⟩ := hF
  have hGO : (G2.off O) bk4 = none := Heap.off_none ((hO _).2 rfl)
  refine WC_block ?_
  refine WC_seq (WC_region ?_)
  refine WL_execS htb 1 [7, 2] [] ⟨[(7, (tS s)), (2, (.v (.pointer (some (⟨bk4, 0, none⟩ : Addr)))))], [], 2, [], []⟩ (by kernel_rfl) ?_
  refine WL_op (WOp_call 45 [(tS s)] (by kernel_rfl) (goes_of Try.func45 rfl rfl) (fun ρ w hW => isName_ok hW.has (s := s) (hbig s (by rw [hL]; simp))) ?_)
  intro G802 v hle hΦ
  replace hleb := Le.trans hleb hle
  obtain ⟨r7, rfl, hR8⟩ := hΦ
  refine WL_execS htb 1 [9, 2] [] ⟨[(9, (bB (!r7))), (2, (.v (.pointer (some (⟨bk4, 0, none⟩ : Addr)))))], [], 2, [], []⟩ (by kernel_rfl) ?_
  refine WL_nil ?_
  refine WQ_code ?_
  refine WC_cond (b := (!r7)) rfl (fun hb => ?_) (fun hb => ?_)
  ·
   rw [Bool.not_eq_true'] at hb
   have hno : ¬ IsNameP s := of_decide_eq_false (hR8.symm.trans (by simpa using hb))
   refine WC_seq (WC_region ?_)
   replace hG2 := hle _ _ hG2
   refine WL_op (WOp_stoG htb (⟨bk4, 0, none⟩ : Addr) [(iI 1)] [.int .i64 1] (by kernel_rfl) (fun ρ => rfl) (off := 0) (by simp [add_lit']) hG2 hGO (fun p hp => by cases hp) (by decide) ?_)
   refine WL_nil ?_
   refine WQ_code ?_
   refine WC_ret ?_
   refine WQ_blk_ret ?_
   exact WQ_rdR O ⟨rfl, Le.add' hleb hnew5 _, Heap.add_same _ _ _, fun hm => hno ((mayP_nms.1 hm).1 s (by rw [hL]; simp))⟩ (rd_same hOlt)
  ·
   rw [Bool.not_eq_false'] at hb
   have hyes : IsNameP s := of_decide_eq_true (hR8.symm.trans (by simpa using hb))
   refine WC_skip ?_
   refine WQ_blk ?_
   exact WQ_rdN O ⟨hO, hleb, hle _ _ hG2, fun y hy => by (rcases List.mem_append.1 hy with hy | hy; exact hn y hy; rw [List.mem_singleton.1 hy]; exact hyes)⟩ (rd_same hOlt)
 ·
  intro O G3 hF
  show WQ _ _ _ _ ⟨[(5, (.fn (.func 81) [(.v (.pointer (some (⟨q, 0, none⟩ : Addr))))])), (2, (.v (.pointer (some (⟨bk4, 0, none⟩ : Addr))))), (1, (.v (.pointer (some (⟨bk2, 0, none⟩ : Addr)))))], [(2, (.raw (.deferred (some []))))], 3, [2], []⟩
  obtain ⟨hO, hleb, hG3, hn⟩ := hF
  have hlec := Le.refl G3
  refine WQ_blk ?_
  refine WQ_code ?_
  refine WC_seq ?_
  refine WC_block ?_
  refine WC_seq ?_
  refine WC_seq (WC_region ?_)
  refine WL_execS htb 1 [11, 2, 1] [2] ⟨[(11, (.v (.pointer (some ((⟨bk2, 0, none⟩ : Addr).add 0))))), (2, (.v (.pointer (some (⟨bk4, 0, none⟩ : Addr))))), (1, (.v (.pointer (some (⟨bk2, 0, none⟩ : Addr)))))], [(2, (.raw (.deferred (some []))))], 3, [2], []⟩ (by kernel_rfl) ?_
  refine WL_op (WOp_ld htb ((⟨bk2, 0, none⟩ : Addr).add 0) false 1 [.slice A_g n_g c_g] (by kernel_rfl) ((hA1.field 0 rfl).mono hleb) rfl (by decide) ?_)
  refine WL_execS htb 3 [10, 2, 1] [2] ⟨[(10, (bB ((((n_g : Nat) : Int) : Int) == 0))), (2, (.v (.pointer (some (⟨bk4, 0, none⟩ : Addr))))), (1, (.v (.pointer (some (⟨bk2, 0, none⟩ : Addr)))))], [(2, (.raw (.deferred (some []))))], 3, [2], []⟩ (by kernel_rfl) ?_
  refine WL_nil ?_
  refine WQ_code ?_
  refine WC_cond (b := ((((n_g : Nat) : Int) : Int) == 0)) rfl (fun ha => ?_) (fun ha => ?_)
  ·
   replace ha := eq_of_beq ha
   have hno : ¬ MayP g := fun hm => by (have h1 := (mayP_nms.1 hm).2.1; have h2 := h_g.len; omega)
   refine WC_skip ?_
   refine WQ_code ?_
   refine WC_cond (b := ((((n_g : Nat) : Int) : Int) == 0)) rfl (fun ha2 => ?_) (fun ha2 => ?_)
   ·
    replace ha2 := eq_of_beq ha2
    refine WC_seq (WC_region ?_)
    replace hG3 := hlec _ _ hG3
    refine WL_op (WOp_stoG htb (⟨bk4, 0, none⟩ : Addr) [(iI 1)] [.int .i64 1] (by kernel_rfl) (fun ρ => rfl) (off := 0) (by simp [add_lit']) hG3 (hG0n _ rfl) (fun p hp => by cases hp) (by decide) ?_)
    have hcell := Heap.add_same G3 bk4 (Obj.cells #[.int .i64 1] 42 (0, 0))
    refine WL_nil ?_
    refine WQ_code ?_
    refine WC_ret ?_
    refine WQ_blk_ret ?_
    refine WQ_then_ret ?_
    exact WQ_doneM 2 (.int .i64 1) _ (.inl rfl) rfl rfl (results_cell1 htb rfl rfl rfl rfl (At.of_block (cs := [.int .i64 1]) hcell)) (fun ρ w hW => ⟨_, rfl, by decide, ⟨fun _ => rfl, fun h => absurd h hno, fun h => absurd h hno⟩⟩)
   ·
    replace ha2 := ne_of_beq_false ha2
    exact absurd ha ha2
  ·
   replace ha := ne_of_beq_false ha
   refine WC_region ?_
   refine WL_execS htb 1 [15, 2, 1] [2] ⟨[(15, (.v (.pointer (some ((⟨bk2, 0, none⟩ : Addr).add 0))))), (2, (.v (.pointer (some (⟨bk4, 0, none⟩ : Addr))))), (1, (.v (.pointer (some (⟨bk2, 0, none⟩ : Addr)))))], [(2, (.raw (.deferred (some []))))], 3, [2], []⟩ (by kernel_rfl) ?_
   refine WL_op (WOp_ld htb ((⟨bk2, 0, none⟩ : Addr).add 0) false 1 [.slice A_g n_g c_g] (by kernel_rfl) ((hA1.field 0 rfl).mono hleb) rfl (by decide) ?_)
   refine WL_op (WOp_call 51 [(sS A_g n_g c_g), (.fn (.func 52) [])] (by kernel_rfl) (goes_of Try.func51 rfl rfl) (fun ρ w hW => containsBare_ok hW.has (h_g.mono hleb)) ?_)
   intro G1103 v hle hΦ
   replace hleb := Le.trans hleb hle
   replace hlec := Le.trans hlec hle
   subst hΦ
   refine WL_execS htb 1 [10, 2, 1] [2] ⟨[(10, (bB (g.any bareR))), (2, (.v (.pointer (some (⟨bk4, 0, none⟩ : Addr))))), (1, (.v (.pointer (some (⟨bk2, 0, none⟩ : Addr)))))], [(2, (.raw (.deferred (some []))))], 3, [2], []⟩ (by kernel_rfl) ?_
   refine WL_nil ?_
   refine WQ_code ?_
   refine WC_cond (b := (g.any bareR)) rfl (fun hb => ?_) (fun hb => ?_)
   ·
    skip
    have hno : ¬ MayP g := fun hm => by (have h1 := (mayP_nms.1 hm).2.2; rw [hb] at h1; cases h1)
    refine WC_seq (WC_region ?_)
    replace hG3 := hlec _ _ hG3
    refine WL_op (WOp_stoG htb (⟨bk4, 0, none⟩ : Addr) [(iI 1)] [.int .i64 1] (by kernel_rfl) (fun ρ => rfl) (off := 0) (by simp [add_lit']) hG3 (hG0n _ rfl) (fun p hp => by cases hp) (by decide) ?_)
    have hcell := Heap.add_same G1103 bk4 (Obj.cells #[.int .i64 1] 42 (0, 0))
    refine WL_nil ?_
    refine WQ_code ?_
    refine WC_ret ?_
    refine WQ_blk_ret ?_
    refine WQ_then_ret ?_
    exact WQ_doneM 2 (.int .i64 1) _ (.inl rfl) rfl rfl (results_cell1 htb rfl rfl rfl rfl (At.of_block (cs := [.int .i64 1]) hcell)) (fun ρ w hW => ⟨_, rfl, by decide, ⟨fun _ => rfl, fun h => absurd h hno, fun h => absurd h hno⟩⟩)
   ·
    skip
    have hyes : MayP g := mayP_nms.2 ⟨hn, (by have h2 := h_g.len; omega), hb⟩
    refine WC_seq (WC_region ?_)
    refine WL_op (WOp_ld htb (⟨bk2, 0, none⟩ : Addr) true 1 [.slice A_g n_g c_g] (by kernel_rfl) (hA1.mono hleb) rfl (by decide) ?_)
    refine WL_op (WOp_call 53 [(.agg [(sS A_g n_g c_g)])] (by kernel_rfl) (goes_of Try.func53 rfl rfl) (fun ρ w hW => longG_ok hW.has (g := g) (h_g.mono hleb)) ?_)
    intro G1104 v hle hΦ
    replace hleb := Le.trans hleb hle
    replace hlec := Le.trans hlec hle
    obtain ⟨r309, rfl, hR310⟩ := hΦ
    refine WL_execS htb 1 [18, 2] [2] ⟨[(18, (bB r309)), (2, (.v (.pointer (some (⟨bk4, 0, none⟩ : Addr)))))], [(2, (.raw (.deferred (some []))))], 3, [2], []⟩ (by kernel_rfl) ?_
    refine WL_nil ?_
    refine WQ_code ?_
    refine WC_cond (b := r309) rfl (fun hd => ?_) (fun hd => ?_)
    ·
     skip
     have hl := hR310.1 hd
     refine WC_seq (WC_region ?_)
     replace hG3 := hlec _ _ hG3
     refine WL_op (WOp_stoG htb (⟨bk4, 0, none⟩ : Addr) [(iI 2)] [.int .i64 2] (by kernel_rfl) (fun ρ => rfl) (off := 0) (by simp [add_lit']) hG3 (hG0n _ rfl) (fun p hp => by cases hp) (by decide) ?_)
     have hcell := Heap.add_same G1104 bk4 (Obj.cells #[.int .i64 2] 42 (0, 0))
     refine WL_nil ?_
     refine WQ_code ?_
     refine WC_ret ?_
     refine WQ_blk_ret ?_
     refine WQ_then_ret ?_
     exact WQ_doneM 2 (.int .i64 2) _ (.inl rfl) rfl rfl (results_cell1 htb rfl rfl rfl rfl (At.of_block (cs := [.int .i64 2]) hcell)) (fun ρ w hW => ⟨_, rfl, by decide, ⟨fun h => absurd hyes h, fun _ _ => rfl, fun _ h => absurd hl h⟩⟩)
    ·
     skip
     have hl : ¬ LongP g := fun h => by (rw [hR310.2 h] at hd; cases hd)
     refine WC_skip ?_
     refine WQ_blk ?_
     refine WQ_code ?_
     refine WC_seq (WC_region ?_)
     replace hG3 := hlec _ _ hG3
     refine WL_op (WOp_stoG htb (⟨bk4, 0, none⟩ : Addr) [(iI 0)] [.int .i64 0] (by kernel_rfl) (fun ρ => rfl) (off := 0) (by simp [add_lit']) hG3 (hG0n _ rfl) (fun p hp => by cases hp) (by decide) ?_)
     have hcell := Heap.add_same G1104 bk4 (Obj.cells #[.int .i64 0] 42 (0, 0))
     refine WL_nil ?_
     refine WQ_code ?_
     refine WC_ret ?_
     exact WQ_doneM 2 (.int .i64 0) _ (.inl rfl) rfl rfl (results_cell1 htb rfl rfl rfl rfl (At.of_block (cs := [.int .i64 0]) hcell)) (fun ρ w hW => ⟨_, rfl, by decide, ⟨fun h => absurd hyes h, fun _ h => absurd h hl, fun _ _ => rfl⟩⟩)
 ·
  intro cd O G3 hF
  obtain ⟨rfl, hleb, hG3, hno⟩ := hF
  show WC _ _ _ _ _ ⟨[(5, (.fn (.func 81) [(.v (.pointer (some (⟨q, 0, none⟩ : Addr))))])), (2, (.v (.pointer (some (⟨bk4, 0, none⟩ : Addr))))), (1, (.v (.pointer (some (⟨bk2, 0, none⟩ : Addr)))))], [(2, (.raw (.deferred (some []))))], 3, [2], []⟩ _
  refine WC_ret ?_
  refine WQ_blk_ret ?_
  refine WQ_then_ret ?_
  have hcell := hG3
  exact WQ_doneM 2 (.int .i64 1) _ (.inl rfl) rfl rfl (results_cell1 htb rfl rfl rfl rfl (At.of_block (cs := [.int .i64 1]) hcell)) (fun ρ w hW => ⟨_, rfl, by decide, ⟨fun _ => rfl, fun h => absurd h hno, fun h => absurd h hno⟩⟩)

end Go.Proofs.Ytfemkbockhpmcaa.Sym
