/- What twoslotref11.Of does. No condition. -/
import Derived.Test.YtihefjdabjmmaaaCellTwin
import Derived.Test.YtihefjdabjmmaaaPDx15
namespace Go.Proofs.Ytihefjdabjmmaaa.PD
open Go Go.RowKit Go.Proofs.YtihefjdabjmmaaaW.PrintWords Go.Proofs.YtihefjdabjmmaaaW.PrintLast Go.Proofs.YtihefjdabjmmaaaW.PrintMore
set_option linter.unusedVariables false
/-- what a slot holds of an index -/
def rOf.of (r1 r2 r3 r4 : Int) (r5 r6 : List Int) (r7 : Bool) (index : Int) : Int × Int × Int × Int × List Int × List Int × Bool :=
  if r7 = true ∧ r2 = index then (r1, r2, r3, r4, r5, r6, true) else (0, 0, 0, 0, [], [], false)
set_option maxHeartbeats 4000000 in
set_option maxRecDepth 100000 in
theorem rOf.calls (k : Nat) (a0 a1 a2 a3 : Int) (A0 : Option Addr) (c0 : Nat) (l0 : List Int) (index : Int) (r1 r2 r3 r4 : Int) (r5 r6 : List Int) (r7 : Bool) (o1 o2 o3 o4 : Int) (o5 o6 : List Int) (o7 : Bool) (w : World)
    (hr0 : Kd.C (Kd.int .u8) w A0 l0.length l0) (hc0 : l0.length ≤ c0)
    (hd : twoslotref10_Read.f k a0 a1 a2 a3 l0 = some (r1, r2, r3, r4, r5, r6, r7)) (h : rOf.of r1 r2 r3 r4 r5 r6 r7 index = (o1, o2, o3, o4, o5, o6, o7)) :
    Calls Try.prog 43 #[.agg #[.int .i64 a0, .int .i64 a1, .int .i64 a2, .int .i64 a3], .slice A0 l0.length c0, .int .i64 index] w fun en w' => ∃ u4 u5 : Value,
      en = .returned (.tuple #[.agg #[.int .u8 o1, .int .i64 o2, .int .i64 o3, .int .i64 o4, u4, u5], .bool o7]) ∧
      Kd.R (Kd.int .i64) 3 w' w.heap.size (fun _ => True) u4 o5 ∧ Kd.R (Kd.int .u8) 5 w' w.heap.size (fun _ => True) u5 o6 ∧ Below w.heap.size w w' := by
  have hu23 := Try.underlying23
  have hu27 := Try.underlying27
  have HR0 := Lib.hid hr0
  have HC0 := Lib.hid hc0
  have HB := Lib.hid (Below.refl w.heap.size w)
  have HD := Lib.hid hd
  have H := Lib.hid h
  clear hr0 hc0 hd h
  go_enter Try.func43, Try.ntmps43
  go_upto_region 1 with (first | ((with_reducible refine gate_dst (N := 3) rfl ?_); refine box_event ?hg (N := 3) ?hd (cs := #[.int .i64 a0, .int .i64 a1, .int .i64 a2, .int .i64 a3]) (t := 23) ?hr ?_; (case hd => rfl); (case hg => rfl); (case hr => first | (go_simp; done) | (go_simp; rfl)); intro gb3 hg_ w1 bk_ hb_; have GE3 := Lib.hid (show w.heap.size ≤ gb3 by rw [hg_]; exact below_size HB.out); have BK3 := Lib.hid bk_; replace HB := Lib.hid (below_step HB.out hb_); clear hb_ hg_ bk_) | ((with_reducible refine gate_dst (N := 6) rfl ?_); refine box_event ?hg (N := 6) ?hd (cs := #[.int .u8 0, .int .i64 0, .int .i64 0, .int .i64 0, .slice none 0 0, .slice none 0 0]) (t := 27) ?hr ?_; (case hd => rfl); (case hg => rfl); (case hr => first | (go_simp; done) | (go_simp; rfl)); intro gb6 hg_ w2 bk_ hb_; have GE6 := Lib.hid (show w.heap.size ≤ gb6 by rw [hg_]; exact below_size HB.out); have NB3_6 := Lib.hid (show gb3 ≠ gb6 by rw [hg_]; exact Nat.ne_of_lt (blk_lt BK3.out)); have NB6_3 := Lib.hid NB3_6.out.symm; replace BK3 := Lib.hid (blk_below BK3.out hb_); have BK6 := Lib.hid bk_; replace HB := Lib.hid (below_step HB.out hb_); clear hb_ hg_ bk_))
  obtain ⟨pc0, pc1, pc2, pc3, pf0, pf1, pf2, pf3⟩ := cs4 BK3.out
  go_wp2_with fail
  clear pc0 pf0 pc1 pf1 pc2 pf2 pc3 pf3
  refine (twoslotref10_Read.calls k a0 a1 a2 a3 _ _ l0 r1 r2 r3 r4 r5 r6 r7 _ (Kd.C_below HR0.out HB.out) HC0.out HD.out).mono ?_
  rintro en w4 ⟨u4, u5, rfl, ho4, ho5, hb⟩
  have RU4 := Lib.hid (Kd.R_lower ho4 (below_size HB.out))
  have RU5 := Lib.hid (Kd.R_lower ho5 (below_size HB.out))
  clear ho4 ho5 HD
  replace BK6 := Lib.hid (blk_below BK6.out hb)
  replace HB := Lib.hid (below_step HB.out hb)
  clear hb
  obtain ⟨X4, x4, rfl⟩ := Kd.R_slice RU4.out
  obtain ⟨X5, x5, rfl⟩ := Kd.R_slice RU5.out
  go_upto_region 2 with (first | ((with_reducible refine gate_dst (N := 8) rfl ?_); refine box_event ?hg (N := 8) ?hd (cs := #[.int .u8 0, .int .i64 0, .int .i64 0, .int .i64 0, .slice none 0 0, .slice none 0 0]) (t := 27) ?hr ?_; (case hd => rfl); (case hg => rfl); (case hr => first | (go_simp; done) | (go_simp; rfl)); intro gb8 hg_ w5 bk_ hb_; have GE8 := Lib.hid (show w.heap.size ≤ gb8 by rw [hg_]; exact below_size HB.out); have NB6_8 := Lib.hid (show gb6 ≠ gb8 by rw [hg_]; exact Nat.ne_of_lt (blk_lt BK6.out)); have NB8_6 := Lib.hid NB6_8.out.symm; replace BK6 := Lib.hid (blk_below BK6.out hb_); have BK8 := Lib.hid bk_; replace RU4 := Lib.hid (Kd.R_below RU4.out hb_); replace RU5 := Lib.hid (Kd.R_below RU5.out hb_); replace HB := Lib.hid (below_step HB.out hb_); clear hb_ hg_ bk_; obtain ⟨zc0, zc1, zc2, zc3, zc4, zc5, zf0, zf1, zf2, zf3, zf4, zf5⟩ := cs6 BK8.out))
  clear zc0 zf0 zc1 zf1 zc2 zf2 zc3 zf3 zc4 zf4 zc5 zf5
  obtain ⟨hq1_, hq2_, hs_⟩ := st6_0_6 HB.out GE8.out BK8.out (.int .u8 r1) (.int .i64 r2) (.int .i64 r3) (.int .i64 r4) (.slice X4 r5.length x4) (.slice X5 r6.length x5)
  generalize ((((((w5.setCell ⟨gb8, 0, none⟩ (.int .u8 r1)).setCell ⟨gb8, 1, none⟩ (.int .i64 r2)).setCell ⟨gb8, 2, none⟩ (.int .i64 r3)).setCell ⟨gb8, 3, none⟩ (.int .i64 r4)).setCell ⟨gb8, 4, none⟩ (.slice X4 r5.length x4)).setCell ⟨gb8, 5, none⟩ (.slice X5 r6.length x5)) = w6 at hs_ hq1_ hq2_ ⊢
  replace RU4 := Lib.hid (Kd.R_mono (Kd.R_step (Kd.R_types RU4.out BK8.out (by decide)) (fun k hk _ => hs_ k hk.2)) (ok' := fun _ => True) (fun _ _ => trivial))
  replace RU5 := Lib.hid (Kd.R_mono (Kd.R_step (Kd.R_types RU5.out BK8.out (by decide)) (fun k hk _ => hs_ k hk.2)) (ok' := fun _ => True) (fun _ _ => trivial))
  replace BK6 := Lib.hid ((hs_ gb6 NB6_8.out).trans BK6.out)
  replace BK8 := Lib.hid hq1_
  replace HB := Lib.hid hq2_
  clear hs_ hq1_ hq2_
  obtain ⟨yc0, yc1, yc2, yc3, yc4, yc5, yf0, yf1, yf2, yf3, yf4, yf5⟩ := cs6 BK8.out
  obtain ⟨zc0, zc1, zc2, zc3, zc4, zc5, zf0, zf1, zf2, zf3, zf4, zf5⟩ := cs6 BK6.out
  have h := H.out
  unfold rOf.of at h
  clear H
  cases r7 with
  | false =>
    rw [if_neg (fun z => Bool.false_ne_true z.1)] at h
    go_wp2_with fail
    clear yc0 yf0 yc1 yf1 yc2 yf2 yc3 yf3 yc4 yf4 yc5 yf5
    clear zc0 zf0 zc1 zf1 zc2 zf2 zc3 zf3 zc4 zf4 zc5 zf5
    simp only [Prod.mk.injEq] at h
    obtain ⟨rfl, rfl, rfl, rfl, rfl, rfl, rfl⟩ := h
    obtain ⟨hq1_, hq2_, hs_⟩ := st6_0_6 HB.out GE6.out BK6.out (.int .u8 0) (.int .i64 0) (.int .i64 0) (.int .i64 0) (.slice none 0 0) (.slice none 0 0)
    generalize ((((((w6.setCell ⟨gb6, 0, none⟩ (.int .u8 0)).setCell ⟨gb6, 1, none⟩ (.int .i64 0)).setCell ⟨gb6, 2, none⟩ (.int .i64 0)).setCell ⟨gb6, 3, none⟩ (.int .i64 0)).setCell ⟨gb6, 4, none⟩ (.slice none 0 0)).setCell ⟨gb6, 5, none⟩ (.slice none 0 0)) = wz at hs_ hq1_ hq2_ ⊢
    replace RU4 := Lib.hid (Kd.R_mono (Kd.R_step (Kd.R_types RU4.out BK6.out (by decide)) (fun k hk _ => hs_ k hk.2)) (ok' := fun _ => True) (fun _ _ => trivial))
    replace RU5 := Lib.hid (Kd.R_mono (Kd.R_step (Kd.R_types RU5.out BK6.out (by decide)) (fun k hk _ => hs_ k hk.2)) (ok' := fun _ => True) (fun _ _ => trivial))
    replace BK6 := Lib.hid hq1_
    replace HB := Lib.hid hq2_
    clear hs_ hq1_ hq2_
    refine bodyPost_ret (results_ct rfl _ _ gb6 27 #[.int .u8 0, .int .i64 0, .int .i64 0, .int .i64 0, .slice none 0 0, .slice none 0 0] (0, 0) _ rfl BK6.out Try.underlying27 rfl (by kernel_rfl)) rfl ?_
    exact ⟨_, _, rfl, Kd.R_nil _ _ _ _ _, Kd.R_nil _ _ _ _ _, HB.out⟩
  | true =>
    by_cases hi : r2 = index
    case neg =>
      rw [if_neg (fun z => hi z.2)] at h
      have hib : (r2 != index) = true := bne_iff_ne.mpr hi
      clear hi
      go_wp2_with fail
      clear yc0 yf0 yc1 yf1 yc2 yf2 yc3 yf3 yc4 yf4 yc5 yf5
      clear zc0 zf0 zc1 zf1 zc2 zf2 zc3 zf3 zc4 zf4 zc5 zf5
      simp only [Prod.mk.injEq] at h
      obtain ⟨rfl, rfl, rfl, rfl, rfl, rfl, rfl⟩ := h
      obtain ⟨hq1_, hq2_, hs_⟩ := st6_0_6 HB.out GE6.out BK6.out (.int .u8 0) (.int .i64 0) (.int .i64 0) (.int .i64 0) (.slice none 0 0) (.slice none 0 0)
      generalize ((((((w6.setCell ⟨gb6, 0, none⟩ (.int .u8 0)).setCell ⟨gb6, 1, none⟩ (.int .i64 0)).setCell ⟨gb6, 2, none⟩ (.int .i64 0)).setCell ⟨gb6, 3, none⟩ (.int .i64 0)).setCell ⟨gb6, 4, none⟩ (.slice none 0 0)).setCell ⟨gb6, 5, none⟩ (.slice none 0 0)) = wz at hs_ hq1_ hq2_ ⊢
      replace RU4 := Lib.hid (Kd.R_mono (Kd.R_step (Kd.R_types RU4.out BK6.out (by decide)) (fun k hk _ => hs_ k hk.2)) (ok' := fun _ => True) (fun _ _ => trivial))
      replace RU5 := Lib.hid (Kd.R_mono (Kd.R_step (Kd.R_types RU5.out BK6.out (by decide)) (fun k hk _ => hs_ k hk.2)) (ok' := fun _ => True) (fun _ _ => trivial))
      replace BK6 := Lib.hid hq1_
      replace HB := Lib.hid hq2_
      clear hs_ hq1_ hq2_
      refine bodyPost_ret (results_ct rfl _ _ gb6 27 #[.int .u8 0, .int .i64 0, .int .i64 0, .int .i64 0, .slice none 0 0, .slice none 0 0] (0, 0) _ rfl BK6.out Try.underlying27 rfl (by kernel_rfl)) rfl ?_
      exact ⟨_, _, rfl, Kd.R_nil _ _ _ _ _, Kd.R_nil _ _ _ _ _, HB.out⟩
    subst hi
    rw [if_pos ⟨rfl, rfl⟩] at h
    have hib : (r2 != r2) = false := bne_self_eq_false r2
    go_wp2_with fail
    clear yc0 yf0 yc1 yf1 yc2 yf2 yc3 yf3 yc4 yf4 yc5 yf5
    clear zc0 zf0 zc1 zf1 zc2 zf2 zc3 zf3 zc4 zf4 zc5 zf5
    simp only [Prod.mk.injEq] at h
    obtain ⟨rfl, rfl, rfl, rfl, rfl, rfl, rfl⟩ := h
    obtain ⟨hq1_, hq2_, hs_⟩ := st6_0_6 HB.out GE6.out BK6.out (.int .u8 r1) (.int .i64 r2) (.int .i64 r3) (.int .i64 r4) (.slice X4 r5.length x4) (.slice X5 r6.length x5)
    generalize ((((((w6.setCell ⟨gb6, 0, none⟩ (.int .u8 r1)).setCell ⟨gb6, 1, none⟩ (.int .i64 r2)).setCell ⟨gb6, 2, none⟩ (.int .i64 r3)).setCell ⟨gb6, 3, none⟩ (.int .i64 r4)).setCell ⟨gb6, 4, none⟩ (.slice X4 r5.length x4)).setCell ⟨gb6, 5, none⟩ (.slice X5 r6.length x5)) = wz at hs_ hq1_ hq2_ ⊢
    replace RU4 := Lib.hid (Kd.R_mono (Kd.R_step (Kd.R_types RU4.out BK6.out (by decide)) (fun k hk _ => hs_ k hk.2)) (ok' := fun _ => True) (fun _ _ => trivial))
    replace RU5 := Lib.hid (Kd.R_mono (Kd.R_step (Kd.R_types RU5.out BK6.out (by decide)) (fun k hk _ => hs_ k hk.2)) (ok' := fun _ => True) (fun _ _ => trivial))
    replace BK6 := Lib.hid hq1_
    replace HB := Lib.hid hq2_
    clear hs_ hq1_ hq2_
    refine bodyPost_ret (results_ct rfl _ _ gb6 27 #[.int .u8 r1, .int .i64 r2, .int .i64 r3, .int .i64 r4, .slice X4 r5.length x4, .slice X5 r6.length x5] (0, 0) _ rfl BK6.out Try.underlying27 rfl (by kernel_rfl)) rfl ?_
    exact ⟨_, _, rfl, RU4.out, RU5.out, HB.out⟩
end Go.Proofs.Ytihefjdabjmmaaa.PD
