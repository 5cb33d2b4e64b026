/- Two pairs are alike. No condition. -/
import Derived.Test.YtihefjdabjmmaaaCellTwin
namespace Go.Proofs.Ytihefjdabjmmaaa.PD
open Go Go.RowKit Go.Proofs.YtihefjdabjmmaaaW.PrintWords Go.Proofs.YtihefjdabjmmaaaW.PrintLast Go.Proofs.YtihefjdabjmmaaaW.PrintMore
set_option linter.unusedVariables false
set_option maxHeartbeats 4000000 in
set_option maxRecDepth 100000 in
theorem cell_same.calls (A0 : Option Addr) (c0 : Nat) (l0 : List Int) (A1 : Option Addr) (c1 : Nat) (l1 : List Int) (B0 : Option Addr) (d0 : Nat) (B1 : Option Addr) (d1 : Nat) (w : World)
    (hr0 : Kd.C (Kd.int .u8) w A0 l0.length l0) (hr1 : Kd.C (Kd.int .u8) w A1 l1.length l1) (hs0 : Kd.C (Kd.int .u8) w B0 l0.length l0) (hs1 : Kd.C (Kd.int .u8) w B1 l1.length l1) :
    Calls Try.prog 28 #[.agg #[.slice B0 l0.length d0, .slice B1 l1.length d1], .agg #[.slice A0 l0.length c0, .slice A1 l1.length c1]] w fun en w' => en = .returned (.bool true) ∧ Below w.heap.size w w' := by
  have hu42 := Try.underlying42
  have HB := Lib.hid (Below.refl w.heap.size w)
  have HR0 := Lib.hid hr0
  have HR1 := Lib.hid hr1
  have HS0 := Lib.hid hs0
  have HS1 := Lib.hid hs1
  clear hr0 hr1 hs0 hs1
  go_enter Try.func28, Try.ntmps28
  go_upto_region 1 with (first | ((with_reducible refine gate_dst (N := 2) rfl ?_); refine box_event ?hg (N := 2) ?hd (cs := #[.slice B0 l0.length d0, .slice B1 l1.length d1]) (t := 42) ?hr ?_; (case hd => rfl); (case hg => rfl); (case hr => first | (go_simp; done) | (go_simp; rfl)); intro gb2 hg_ w1 bk_ hb_; have GE2 := Lib.hid (show w.heap.size ≤ gb2 by rw [hg_]; exact below_size HB.out); have BK2 := Lib.hid bk_; replace HB := Lib.hid (below_step HB.out hb_); clear hb_ hg_ bk_) | ((with_reducible refine gate_dst (N := 3) rfl ?_); refine box_event ?hg (N := 3) ?hd (cs := #[.slice A0 l0.length c0, .slice A1 l1.length c1]) (t := 42) ?hr ?_; (case hd => rfl); (case hg => rfl); (case hr => first | (go_simp; done) | (go_simp; rfl)); intro gb3 hg_ w2 bk_ hb_; have GE3 := Lib.hid (show w.heap.size ≤ gb3 by rw [hg_]; exact below_size HB.out); have NB2_3 := Lib.hid (show gb2 ≠ gb3 by rw [hg_]; exact Nat.ne_of_lt (blk_lt BK2.out)); have NB3_2 := Lib.hid NB2_3.out.symm; replace BK2 := Lib.hid (blk_below BK2.out hb_); have BK3 := Lib.hid bk_; replace HB := Lib.hid (below_step HB.out hb_); clear hb_ hg_ bk_))
  obtain ⟨pc0, pc1, pf0, pf1⟩ := cs2 BK2.out
  obtain ⟨qc0, qc1, qf0, qf1⟩ := cs2 BK3.out
  have hi0 := tw_ia0 gb2
  have hi1 := tw_ia1 gb2
  have hj0 := tw_ia0 gb3
  have hj1 := tw_ia1 gb3
  have hcv0 := Kd.C_string (P := Try.prog) (A := A0) (c := c0) Try.underlying25 Try.underlying5 Try.underlying9 (Kd.C_below HR0.out HB.out)
  have hcv1 := Kd.C_string (P := Try.prog) (A := A1) (c := c1) Try.underlying25 Try.underlying5 Try.underlying9 (Kd.C_below HR1.out HB.out)
  have hcv2 := Kd.C_string (P := Try.prog) (A := B0) (c := d0) Try.underlying25 Try.underlying5 Try.underlying9 (Kd.C_below HS0.out HB.out)
  have hcv3 := Kd.C_string (P := Try.prog) (A := B1) (c := d1) Try.underlying25 Try.underlying5 Try.underlying9 (Kd.C_below HS1.out HB.out)
  have hb0 : ((strOfNums l0).toList == (strOfNums l0).toList) = true := beq_self_eq_true _
  have hb1 : ((strOfNums l1).toList == (strOfNums l1).toList) = true := beq_self_eq_true _
  go_wp2_with fail
  go_ret
  exact ⟨by first | rfl | simp, HB.out⟩
end Go.Proofs.Ytihefjdabjmmaaa.PD
