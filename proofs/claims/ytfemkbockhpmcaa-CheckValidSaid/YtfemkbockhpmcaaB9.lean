/- Walks of functions that the laws of this seat reach, printed by a program of this session's. -/
import Derived.Test.YtfemkbockhpmcaaB8
import Derived.Test.YtfemkbockhpmcaaPd
set_option linter.unusedSimpArgs false
set_option linter.unusedVariables false
set_option maxHeartbeats 4000000
namespace Go.Proofs.Ytfemkbockhpmcaa.Sym
open Go Go.Proofs Go.RowKit

def tellS (is : Bool) (out : List Flaw) (f : Flaw) : List Flaw := if is then layS out f else out
theorem tellS_new {out : List Flaw} {f : Flaw} (h : hasF out f = false) : tellS true out f = out ++ [f] := by
  unfold tellS layS; rw [if_pos rfl, if_neg (by unfold hasF at h; rw [h]; simp)]
theorem tellS_had {out : List Flaw} {f : Flaw} (h : hasF out f = true) : tellS true out f = out := by
  unfold tellS layS; rw [if_pos rfl, if_pos (by unfold hasF at h; exact h)]
theorem tell_c7 {Gb G G1 : Heap} {mm c7 : Nat} {out : List Flaw} {z : Bool} {bl cap : Nat} {arr : Array Value} (h : Tell Gb G mm c7 out z bl cap arr) {x : Obj} (hc : G1 c7 = some x) {b' : Nat} {o : Obj} (hb : (z = false ∧ b' = bl) ∨ G1 b' = none) :
    ((bif z then G1 else G1.without bl).add b' o) c7 = some x := by
  have hbc : c7 ≠ b' := by
    rcases hb with ⟨hz, rfl⟩ | hb
    · exact Ne.symm (h.blk hz).2.2.2
    · intro e; rw [← e, hc] at hb; cases hb
  rw [Heap.add_ne hbc]
  cases z with
  | true => exact hc
  | false => simp only [cond_false]; rw [Heap.without_ne (Ne.symm (h.blk rfl).2.2.2)]; exact hc
abbrev sT20 := fun c6 c7 => ([(3, (.v (.pointer (some (⟨c6, 0, none⟩ : Addr))))), (4, (.v (.pointer (some (⟨c7, 0, none⟩ : Addr)))))] : List (Nat × SV))
abbrev sT21 := fun c7 => ([(4, (.v (.pointer (some (⟨c7, 0, none⟩ : Addr)))))] : List (Nat × SV))
abbrev sT22 := fun kind name => ([(0, (.cells 31 [(iI kind), (tS name)]))] : List (Nat × OB))
theorem tell_ok {w : World} {G : Heap} (hG : Has w G) {Gb : Heap} {c6 mm c7 : Nat} {out : List Flaw} {z : Bool} {bl cap : Nat} {arr : Array Value} (hc6 : At Gb ⟨c6, 0, none⟩ [.map (some mm)]) (hT : Tell Gb G mm c7 out z bl cap arr) (hout : out.length ≤ 1000000000) {is : Bool} {kind : Int} {name : ByteArray} (h_kind : -9223372036854775808 ≤ kind ∧ kind ≤ 9223372036854775807) (h_name : name.size ≤ big) :
    Calls Try.prog 40 #[.bool is, .int .i64 kind, .string name, .pointer (some ⟨c6, 0, none⟩), .pointer (some ⟨c7, 0, none⟩)] w (RetG w G Gb (fun b => G b ≠ none ∧ Gb b = none) fun v G' => ∃ z' bl' cap' arr', Tell Gb G' mm c7 (tellS is out (kind, name)) z' bl' cap' arr') := by
 refine enterG [(bB is), (iI kind), (tS name), (.v (.pointer (some (⟨c6, 0, none⟩ : Addr)))), (.v (.pointer (some (⟨c7, 0, none⟩ : Addr))))] 25 Try.func40 rfl rfl rfl rfl hG hT.le ?_; have hleb := hT.le; refine WC_seq (WC_region (WL_execK htb 5 ⟨(8, (.p 0 0)) :: (0, (bB is)) :: (sT20 c6 c7), (sT22 kind name), 1, [], []⟩ ?_)); refine WL_nil (WQ_code (WC_seq (WC_region (WL_execK htb 2 ⟨(13, (bB is)) :: (8, (.p 0 0)) :: (sT20 c6 c7), (sT22 kind name), 1, [], []⟩ ?_)))); refine WK_split 13 is rfl (fun hi => ?_) (fun hi => ?_)
 ·
  skip
  refine WK_keep [13, 8, 3, 4] [0] rfl rfl ?_; subst hi; refine WL_op (WOp_ld htb (⟨c6, 0, none⟩ : Addr) false 1 [.map (some mm)] (by kernel_rfl) (hc6.mono hleb) rfl (by decide) ?_); refine WL_execK htb 1 ⟨(15, (.agg [(iI kind), (tS name)])) :: (14, (.v (.map (some mm)))) :: (13, (bB true)) :: (8, (.p 0 0)) :: (sT20 c6 c7), (sT22 kind name), 1, [], []⟩ ?_; refine WL_op (WOp_look htb mm (.agg [(iI kind), (tS name)]) false 31 (.bool false) (by kernel_rfl) (keyEnc_flaw isFlaw) (kind, name) (fun ρ => rfl) hT.map (v := (.bool (hasF out (kind, name)))) (goodK_get _ _) (is := ((goodK (hasF out) (kind, name)).isSome)) rfl ?_); show WL _ _ _ _ _ _ ⟨(16, (bB (hasF out (kind, name)))) :: (15, (.agg [(iI kind), (tS name)])) :: (14, (.v (.map (some mm)))) :: (13, (bB true)) :: (8, (.p 0 0)) :: (sT20 c6 c7), (sT22 kind name), 1, [], []⟩ _; refine WL_execK htb 2 ⟨(18, (bB (!(hasF out (kind, name))))) :: (8, (.p 0 0)) :: (sT20 c6 c7), (sT22 kind name), 1, [], []⟩ ?_; refine WL_nil (WQ_code (WC_cond (b := (!(hasF out (kind, name)))) rfl (fun hh => ?_) (fun hh => ?_)))
  ·
   rw [Bool.not_eq_true'] at hh; refine WC_seq (WC_region (WL_op (WOp_ld htb (⟨c6, 0, none⟩ : Addr) false 1 [.map (some mm)] (by kernel_rfl) (hc6.mono hleb) rfl (by decide) ?_))); refine WL_execK htb 1 ⟨(20, (.agg [(iI kind), (tS name)])) :: (19, (.v (.map (some mm)))) :: (8, (.p 0 0)) :: (sT21 c7), (sT22 kind name), 1, [], []⟩ ?_; have hnf : hasF out (kind, name) = false := by simpa using hh
   refine WL_op (WOp_mapG htb mm (.agg [(iI kind), (tS name)]) (bB true) 31 (by kernel_rfl) (keyEnc_flaw isFlaw) (kind, name) (fun ρ => rfl) (.bool true) (fun ρ => rfl) hT.map hT.newm (fun p hp => by cases hp) (fun es clk hM => ?_)); rw [goodK_set] at hM; obtain ⟨hl1, hcell, hblk⟩ := hT.mapped (.map es clk); clear hleb; have hleb := hl1; refine WL_nil (WQ_code (WC_region ?_)); have hat7 : At (G.add mm (.map es clk)) ⟨c7, 0, none⟩ [nilOr z (.slice (some ⟨bl, 0, none⟩) out.length cap)] := At.of_block hcell; refine WL_op (WOp_ld htb (⟨c7, 0, none⟩ : Addr) false 1 [nilOr z (.slice (some ⟨bl, 0, none⟩) out.length cap)] (by kernel_rfl) hat7 rfl (by decide) ?_); show WL _ _ _ _ _ _ ⟨(21, (.v (nilOr z (.slice (some ⟨bl, 0, none⟩) out.length cap)))) :: (20, (.agg [(iI kind), (tS name)])) :: (19, (.v (.map (some mm)))) :: (8, (.p 0 0)) :: (sT21 c7), (sT22 kind name), 1, [], []⟩ _; refine WL_execK htb 2 ⟨(23, (.s 1 1 1)) :: (21, (.v (nilOr z (.slice (some ⟨bl, 0, none⟩) out.length cap)))) :: (sT21 c7), [(1, (.cells 31 [(iI kind), (tS name)]))], 2, [], []⟩ ?_; have hTm := hT.own; refine WK_freezeV 1 rfl rfl rfl rfl ?_; intro bk2 G1 hle hbk2; replace hleb := Le.trans hleb hle; replace hM := hM.mono hle; show WK _ _ ⟨(23, (sS (some ⟨bk2, 0, none⟩) 1 1)) :: (21, (.v (nilOr z (.slice (some ⟨bl, 0, none⟩) out.length cap)))) :: (sT21 c7), [], 2, [], []⟩ _; have hs3 : Sl (tPair (tInt .i64) tStr) G1 (some ⟨bk2, 0, none⟩) 1 1 [(kind, name)] := Sl.lit (cs := [.int .i64 kind, .string name]) (RepsL.cons' (rep_pair (rep_int _ (x := kind) h_kind) (rep_str _ (x := name) h_name)) .nil) hbk2 rfl (by unfold big; omega); have lhs3 := hs3.len'; have hcell2 := hle _ _ hcell; have hblk2 : z = false → G1 bl = _ := fun hz => hle _ _ (hblk hz); refine WL_op (WOp_appendG htb (nilOr z (.slice (some ⟨bl, 0, none⟩) out.length cap)) (some ⟨bk2, 0, none⟩) 1 31 2 24 (by kernel_rfl) z bl cap (arr := arr) (fun hz => ⟨hblk2 hz, (hT.blk hz).2.1, (fun p hp => by cases hp)⟩) tFlaw (xs := out) (ys := [(kind, name)]) rfl hT.own.anyF hT.nil hs3.row rfl (by simp) rfl (by decide) (by simp only [List.length_cons, List.length_nil]; omega) (by unfold big; simp only [List.length_cons, List.length_nil]; omega) (fun b' arr' cap' hbb hoo => ?_)); show WL _ _ _ _ _ _ ⟨(24, (sS (some ⟨b', 0, none⟩) ((out ++ [(kind, name)]).length) cap')) :: (23, (sS (some ⟨bk2, 0, none⟩) 1 1)) :: (21, (.v (nilOr z (.slice (some ⟨bl, 0, none⟩) out.length cap)))) :: (sT21 c7), [], 2, [], []⟩ _; have hG7 : ((bif z then G1 else Heap.without G1 bl).add b' (.cells arr' 31 (0, 0))) c7 = some (.cells #[nilOr z (.slice (some ⟨bl, 0, none⟩) out.length cap)] 28 (0, 0)) := tell_c7 hT hcell2 hbb; refine WL_op (WOp_stoG htb (⟨c7, 0, none⟩ : Addr) [(sS (some ⟨b', 0, none⟩) ((out ++ [(kind, name)]).length) cap')] [.slice (some ⟨b', 0, none⟩) (out ++ [(kind, name)]).length cap'] (by kernel_rfl) (fun ρ => rfl) (off := 0) rfl hG7 hT.newc (fun p hp => by cases hp) (by simp) ?_); exact WL_nil (WQ_doneG' htb [] _ (.inr rfl) rfl (by kernel_rfl) (fun b hb => by (rcases hb with hb | hb; (cases e : Gb b with | none => exact absurd e hb | some o => (rw [hT.le _ _ e]; simp)); exact hb.1)) (fun ρ w hW => ⟨_, _, _, _, (by rw [tellS_new hnf]; exact hT.step hM hleb (by rw [hcell2]; simp) hbb hoo rfl)⟩))
  ·
   rw [Bool.not_eq_false'] at hh; exact WC_skip (WQ_doneG' htb [] _ (.inr rfl) rfl (by kernel_rfl) (fun b hb => by (rcases hb with hb | hb; (cases e : Gb b with | none => exact absurd e hb | some o => (rw [hT.le _ _ e]; simp)); exact hb.1)) (fun ρ w hW => ⟨_, _, _, _, (by rw [tellS_had (by simpa using hh)]; exact hT)⟩))
 ·
  skip
  refine WK_keep [13, 8, 3, 4] [0] rfl rfl ?_; subst hi; refine WL_execK htb 5 ⟨(18, (bB false)) :: (8, (.p 0 0)) :: (sT20 c6 c7), (sT22 kind name), 1, [], []⟩ ?_; refine WL_nil (WQ_code (WC_cond (b := false) rfl (fun h => by cases h) (fun _ => ?_))); exact WC_skip (WQ_doneG' htb [] _ (.inr rfl) rfl (by kernel_rfl) (fun b hb => by (rcases hb with hb | hb; (cases e : Gb b with | none => exact absurd e hb | some o => (rw [hT.le _ _ e]; simp)); exact hb.1)) (fun ρ w hW => ⟨_, _, _, _, hT⟩))

end Go.Proofs.Ytfemkbockhpmcaa.Sym
