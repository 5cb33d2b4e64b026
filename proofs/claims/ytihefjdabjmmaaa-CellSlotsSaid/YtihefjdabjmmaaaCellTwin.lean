/- A pair in memory of its own. No condition. -/
import Derived.Test.YtihefjdabjmmaaaCellAwake
import Derived.Test.YtihefjdabjmmaaaMake
namespace Go.Proofs.Ytihefjdabjmmaaa.PD
open Go Go.RowKit Go.Proofs.YtihefjdabjmmaaaW.PrintWords Go.Proofs.YtihefjdabjmmaaaW.PrintLast Go.Proofs.YtihefjdabjmmaaaW.PrintMore
set_option linter.unusedVariables false
theorem st2_0_2 {w W : World} {g : Nat} {c0 c1 : Value} {t : TypeId} (hb : Below w.heap.size w W) (hg : w.heap.size ≤ g) (h : W.heap[g]? = some (.cells #[c0, c1] t (0, 0))) (v0 v1 : Value) :
    ((W.setCell ⟨g, 0, none⟩ v0).setCell ⟨g, 1, none⟩ v1).heap[g]? = some (.cells #[v0, v1] t (0, 0)) ∧ Below w.heap.size w ((W.setCell ⟨g, 0, none⟩ v0).setCell ⟨g, 1, none⟩ v1) ∧ ∀ k, k ≠ g → ((W.setCell ⟨g, 0, none⟩ v0).setCell ⟨g, 1, none⟩ v1).heap[k]? = W.heap[k]? :=
  ⟨(blk_put (cs' := #[v0, v1]) (blk_put (cs' := #[v0, c1]) h 0 v0 rfl) 1 v1 rfl), (below_set (g := g) (j := 1) (v := v1) (below_set (g := g) (j := 0) (v := v0) hb hg) hg), fun k hk => ((Below.heap_setCell _ ⟨g, 1, none⟩ v1 k hk).trans (Below.heap_setCell _ ⟨g, 0, none⟩ v0 k hk))⟩

theorem results_c1 {P : Program} {fn : Func} {p : Tmp} {ty : TypeId} (h : fn.results = #[.cell p ty]) (tmps : Array Value) (w : World) (g : Nat) (t : TypeId) (cs : Array Value) (fr : Nat × Nat) (d : TypeDesc)
    (hp : tmps.getD p undef = .pointer (some ⟨g, 0, none⟩)) (hg : w.heap[g]? = some (.cells cs t fr))
    (hu : P.underlying ty = some d) (hd : (match d with | .struct _ | .array _ _ => true | _ => false) = true) (hi : (P.info? ty).map (·.size) = some cs.size) :
    (results fn tmps).run P w = .ok (.agg cs) w := by
  have hp' : tmps[p]?.getD undef = .pointer (some ⟨g, 0, none⟩) := by simpa using hp
  simp [results, h, hp', asAddr, run_loadVar_row w g t ty cs fr d hg hu hd hi]
theorem tw_ia0 (g : Nat) (W : World) : (Instr.indexAt 42 (.pointer (some ⟨g, 0, none⟩)) (.int .i64 0)).run Try.prog W = .ok (.pointer (some ⟨g, 0, none⟩)) W := by
  simp [Instr.indexAt, run_underlying Try.underlying42, Instr.sureAddr, asIntOf, go_sem]
theorem tw_ia1 (g : Nat) (W : World) : (Instr.indexAt 42 (.pointer (some ⟨g, 0, none⟩)) (.int .i64 1)).run Try.prog W = .ok (.pointer (some ⟨g, 1, none⟩)) W := by
  simp [Instr.indexAt, run_underlying Try.underlying42, Instr.sureAddr, asIntOf, go_sem]
set_option maxHeartbeats 8000000 in
set_option maxRecDepth 100000 in
theorem cell_twin.calls (A0 : Option Addr) (c0 : Nat) (l0 : List Int) (A1 : Option Addr) (c1 : Nat) (l1 : List Int) (w : World) (hr0 : Kd.C (Kd.int .u8) w A0 l0.length l0) (hr1 : Kd.C (Kd.int .u8) w A1 l1.length l1) (hb0 : bytesOf (strOfNums l0) = l0) (hb1 : bytesOf (strOfNums l1) = l1) (hs0 : (strOfNums l0).size ≤ 140737488351232) (hs1 : (strOfNums l1).size ≤ 140737488351232) :
    Calls Try.prog 21 #[.agg #[.slice A0 l0.length c0, .slice A1 l1.length c1]] w fun en w' => ∃ (B0 : Option Addr) (d0 : Nat) (B1 : Option Addr) (d1 : Nat), en = .returned (.agg #[.slice B0 l0.length d0, .slice B1 l1.length d1]) ∧ (Kd.C (Kd.int .u8) w' B0 l0.length l0 ∧ l0.length ≤ d0) ∧ (Kd.C (Kd.int .u8) w' B1 l1.length l1 ∧ l1.length ≤ d1) ∧ Below w.heap.size w w' := by
  have hu42 := Try.underlying42
  have HR0 := Lib.hid hr0
  have HR1 := Lib.hid hr1
  have HS0 := Lib.hid hs0
  have HS1 := Lib.hid hs1
  have HB0 := Lib.hid hb0
  have HB1 := Lib.hid hb1
  have HB := Lib.hid (Below.refl w.heap.size w)
  clear hr0 hr1 hb0 hb1 hs0 hs1
  go_enter Try.func21, Try.ntmps21
  go_upto_region 1 with (first | ((with_reducible refine gate_dst (N := 1) rfl ?_); refine box_event ?hg (N := 1) ?hd (cs := #[.slice A0 l0.length c0, .slice A1 l1.length c1]) (t := 42) ?hr ?_; (case hd => rfl); (case hg => rfl); (case hr => first | (go_simp; done) | (go_simp; rfl)); intro gb1 hg_ w1 bk_ hb_; have GE1 := Lib.hid (show w.heap.size ≤ gb1 by rw [hg_]; exact below_size HB.out); have BK1 := Lib.hid bk_; replace HB := Lib.hid (below_step HB.out hb_); clear hb_ hg_ bk_) | ((with_reducible refine gate_dst (N := 2) rfl ?_); refine box_event ?hg (N := 2) ?hd (cs := #[.slice none 0 0, .slice none 0 0]) (t := 42) ?hr ?_; (case hd => rfl); (case hg => rfl); (case hr => first | (go_simp; done) | (go_simp; rfl)); intro gb2 hg_ w2 bk_ hb_; have GE2 := Lib.hid (show w.heap.size ≤ gb2 by rw [hg_]; exact below_size HB.out); have NB1_2 := Lib.hid (show gb1 ≠ gb2 by rw [hg_]; exact Nat.ne_of_lt (blk_lt BK1.out)); have NB2_1 := Lib.hid NB1_2.out.symm; replace BK1 := Lib.hid (blk_below BK1.out hb_); have BK2 := Lib.hid bk_; replace HB := Lib.hid (below_step HB.out hb_); clear hb_ hg_ bk_))
  obtain ⟨pc0, pc1, pf0, pf1⟩ := cs2 BK1.out
  obtain ⟨qc0, qc1, qf0, qf1⟩ := cs2 BK2.out
  have LT2 := Lib.hid (blk_lt BK2.out)
  have hi0 := tw_ia0 gb1
  have hi1 := tw_ia1 gb1
  have hcv0 := Kd.C_string (P := Try.prog) (A := A0) (c := c0) Try.underlying25 Try.underlying5 Try.underlying9 (Kd.C_below HR0.out HB.out)
  go_wp2_with (first | ((with_reducible refine gate_dst (N := 6) rfl ?_); refine Kd.V_conv _ 5 rfl (N' := 6) rfl 9 25 _ rfl (strOfNums l0) rfl Try.underlying9 Try.underlying25 Try.underlying5 (ok := fun k_ => w2.heap.size ≤ k_) (fun _ hk => hk) HS0.out (Below.refl _ _) (Nat.le_refl _) ?_; intro v_ w3 ho_ hb_ hg_ hn_; rw [HB0.out] at ho_; replace ho_ := Kd.V_mono ho_ (ok' := fun k_ => w2.heap.size ≤ k_) (fun k_ hk_ => hk_); obtain ⟨B0, d0, rfl, hl_, -⟩ := id ho_; have C6 := Lib.hid ho_; have D6 := Lib.hid hl_; have ZS := Lib.hid (show w2.heap.size ≤ w3.heap.size from hb_.size); replace BK1 := Lib.hid (blk_below BK1.out hb_); replace BK2 := Lib.hid (blk_below BK2.out hb_); replace HB := Lib.hid (below_step HB.out hb_); clear ho_ hb_ hg_ hn_ hl_; clear pc0 pf0 pc1 pf1 qc0 qf0 qc1 qf1 hcv0; obtain ⟨pc0, pc1, pf0, pf1⟩ := cs2 BK1.out; obtain ⟨qc0, qc1, qf0, qf1⟩ := cs2 BK2.out; have hcv1 := Kd.C_string (P := Try.prog) (A := A1) (c := c1) Try.underlying25 Try.underlying5 Try.underlying9 (Kd.C_below HR1.out HB.out)) | ((with_reducible refine gate_dst (N := 10) rfl ?_); refine Kd.V_conv _ 5 rfl (N' := 10) rfl 9 25 _ rfl (strOfNums l1) rfl Try.underlying9 Try.underlying25 Try.underlying5 (ok := fun k_ => w3.heap.size ≤ k_) (fun _ hk => hk) HS1.out (Below.refl _ _) (Nat.le_refl _) ?_; intro v_ w4 ho_ hb_ hg_ hn_; rw [HB1.out] at ho_; replace ho_ := Kd.V_mono ho_ (ok' := fun k_ => w2.heap.size ≤ k_) (fun k_ hk_ => Nat.le_trans ZS.out hk_); obtain ⟨B1, d1, rfl, hl_, -⟩ := id ho_; have C10 := Lib.hid ho_; have D10 := Lib.hid hl_; replace BK1 := Lib.hid (blk_below BK1.out hb_); replace BK2 := Lib.hid (blk_below BK2.out hb_); replace C6 := Lib.hid (Kd.V_step C6.out (fun k_ _ hk_ => hb_.block k_ hk_)); replace HB := Lib.hid (below_step HB.out hb_); clear ho_ hb_ hg_ hn_ hl_; clear pc0 pf0 pc1 pf1 qc0 qf0 qc1 qf1 hcv1; obtain ⟨qc0, qc1, qf0, qf1⟩ := cs2 BK2.out))
  clear qc0 qf0 qc1 qf1
  obtain ⟨hq1_, hq2_, hs_⟩ := st2_0_2 HB.out GE2.out BK2.out (.slice B0 l0.length d0) (.slice B1 l1.length d1)
  generalize ((w4.setCell ⟨gb2, 0, none⟩ (.slice B0 l0.length d0)).setCell ⟨gb2, 1, none⟩ (.slice B1 l1.length d1)) = w5 at hs_ hq1_ hq2_ ⊢
  have HK6 := Lib.hid (Kd.V_reads' (Kd.V_step C6.out (fun k_ hk_ _ => hs_ k_ (fun e_ => Nat.not_le_of_lt LT2.out (e_ ▸ hk_))))).2.2
  have HK10 := Lib.hid (Kd.V_reads' (Kd.V_step C10.out (fun k_ hk_ _ => hs_ k_ (fun e_ => Nat.not_le_of_lt LT2.out (e_ ▸ hk_))))).2.2
  replace BK2 := Lib.hid hq1_
  replace HB := Lib.hid hq2_
  clear hs_ hq1_ hq2_
  refine bodyPost_ret (results_c1 rfl _ _ gb2 42 #[.slice B0 l0.length d0, .slice B1 l1.length d1] (0, 0) _ rfl BK2.out Try.underlying42 rfl (by kernel_rfl)) rfl ?_
  exact ⟨_, _, _, _, rfl, ⟨HK6.out, D6.out⟩, ⟨HK10.out, D10.out⟩, HB.out⟩
end Go.Proofs.Ytihefjdabjmmaaa.PD
