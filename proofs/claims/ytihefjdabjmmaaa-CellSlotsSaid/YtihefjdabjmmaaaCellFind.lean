/- What cell.Find does. No condition. -/
import Derived.Test.YtihefjdabjmmaaaCellNew
import Derived.Test.YtihefjdabjmmaaaCellOld
namespace Go.Proofs.Ytihefjdabjmmaaa.PD
open Go Go.RowKit Go.Proofs.YtihefjdabjmmaaaW.PrintWords Go.Proofs.YtihefjdabjmmaaaW.PrintLast Go.Proofs.YtihefjdabjmmaaaW.PrintMore
set_option linter.unusedVariables false
/-- the slot that holds a version -/
def cell_Find.of (at_ r1 r2 r3 r4 : Int) (r5 r6 : List Int) (s1 s2 s3 s4 : Int) (s5 s6 : List Int) : Found :=
  if at_ = 0 then (0, r1, r2, r3, r4, r5, r6, true, 0) else if at_ = 1 then (1, s1, s2, s3, s4, s5, s6, true, 0) else (0, 0, 0, 0, 0, [], [], false, 0)
def cell_Find.f (k : Nat) (a0 a1 a2 a3 : Int) (l0 l1 : List Int) (kind index version : Int) : Option Found :=
  (cell_look.f k a0 a1 a2 a3 l0 l1 kind index).bind fun h => match h with
  | (r1, r2, r3, r4, r5, r6, r7, s1, s2, s3, s4, s5, s6, s7, e) => if e = 0 then (if version < 1 ∨ 1073741824 < version then some (0, 0, 0, 0, 0, [], [], false, 2) else some (cell_Find.of (held_at.f r1 r3 r7 s1 s3 s7 kind version) r1 r2 r3 r4 r5 r6 s1 s2 s3 s4 s5 s6)) else some (0, 0, 0, 0, 0, [], [], false, e)
set_option maxHeartbeats 4000000 in
set_option maxRecDepth 100000 in
theorem cell_Find.calls (k : Nat) (a0 a1 a2 a3 : Int) (A0 : Option Addr) (c0 : Nat) (l0 : List Int) (A1 : Option Addr) (c1 : Nat) (l1 : List Int) (kind index version : Int) (n t1 t2 t3 t4 : Int) (t5 t6 : List Int) (t7 : Bool) (te : Int) (w : World)
    (hr0 : Kd.C (Kd.int .u8) w A0 l0.length l0) (hc0 : l0.length ≤ c0) (hr1 : Kd.C (Kd.int .u8) w A1 l1.length l1) (hc1 : l1.length ≤ c1)
    (h : cell_Find.f k a0 a1 a2 a3 l0 l1 kind index version = some (n, t1, t2, t3, t4, t5, t6, t7, te)) :
    Calls Try.prog 22 #[.agg #[.int .i64 a0, .int .i64 a1, .int .i64 a2, .int .i64 a3], .agg #[.slice A0 l0.length c0, .slice A1 l1.length c1], .int .u8 kind, .int .i64 index, .int .i64 version] w fun en w' => ∃ u4 u5 : Value,
      en = .returned (.tuple #[.int .i64 n, .agg #[.int .u8 t1, .int .i64 t2, .int .i64 t3, .int .i64 t4, u4, u5], .bool t7, .int .i64 te]) ∧
      Kd.R (Kd.int .i64) 3 w' w.heap.size (fun _ => True) u4 t5 ∧ Kd.R (Kd.int .u8) 5 w' w.heap.size (fun _ => True) u5 t6 ∧ Below w.heap.size w w' := by
  have hu23 := Try.underlying23
  have hu27 := Try.underlying27
  have hu42 := Try.underlying42
  have hu60 := Try.underlying60
  have hu62 := Try.underlying62
  have HR0 := Lib.hid hr0
  have HR1 := Lib.hid hr1
  have HC0 := Lib.hid hc0
  have HC1 := Lib.hid hc1
  have HB := Lib.hid (Below.refl w.heap.size w)
  clear hr0 hr1 hc0 hc1
  unfold cell_Find.f at h
  obtain ⟨⟨r1, r2, r3, r4, r5, r6, r7, s1, s2, s3, s4, s5, s6, s7, e⟩, hd, h⟩ := Option.bind_eq_some_iff.mp h
  have HD := Lib.hid hd
  have H := Lib.hid h
  clear hd h
  go_enter Try.func22, Try.ntmps22
  go_upto_region 1 with (first | ((with_reducible refine gate_dst (N := 5) rfl ?_); refine box_event ?hg (N := 5) ?hd (cs := #[.int .i64 a0, .int .i64 a1, .int .i64 a2, .int .i64 a3]) (t := 23) ?hr ?_; (case hd => rfl); (case hg => rfl); (case hr => first | (go_simp; done) | (go_simp; rfl)); intro gb5 hg_ w1 bk_ hb_; have GE5 := Lib.hid (show w.heap.size ≤ gb5 by rw [hg_]; exact below_size HB.out); have BK5 := Lib.hid bk_; replace HB := Lib.hid (below_step HB.out hb_); clear hb_ hg_ bk_) | ((with_reducible refine gate_dst (N := 6) rfl ?_); refine box_event ?hg (N := 6) ?hd (cs := #[.slice A0 l0.length c0, .slice A1 l1.length c1]) (t := 42) ?hr ?_; (case hd => rfl); (case hg => rfl); (case hr => first | (go_simp; done) | (go_simp; rfl)); intro gb6 hg_ w2 bk_ hb_; have GE6 := Lib.hid (show w.heap.size ≤ gb6 by rw [hg_]; exact below_size HB.out); have NB5_6 := Lib.hid (show gb5 ≠ gb6 by rw [hg_]; exact Nat.ne_of_lt (blk_lt BK5.out)); have NB6_5 := Lib.hid NB5_6.out.symm; replace BK5 := Lib.hid (blk_below BK5.out hb_); have BK6 := Lib.hid bk_; replace HB := Lib.hid (below_step HB.out hb_); clear hb_ hg_ bk_) | ((with_reducible refine gate_dst (N := 11) rfl ?_); refine box_event ?hg (N := 11) ?hd (cs := #[.int .u8 0, .int .i64 0, .int .i64 0, .int .i64 0, .slice none 0 0, .slice none 0 0]) (t := 27) ?hr ?_; (case hd => rfl); (case hg => rfl); (case hr => first | (go_simp; done) | (go_simp; rfl)); intro gb11 hg_ w3 bk_ hb_; have GE11 := Lib.hid (show w.heap.size ≤ gb11 by rw [hg_]; exact below_size HB.out); have NB5_11 := Lib.hid (show gb5 ≠ gb11 by rw [hg_]; exact Nat.ne_of_lt (blk_lt BK5.out)); have NB11_5 := Lib.hid NB5_11.out.symm; replace BK5 := Lib.hid (blk_below BK5.out hb_); have NB6_11 := Lib.hid (show gb6 ≠ gb11 by rw [hg_]; exact Nat.ne_of_lt (blk_lt BK6.out)); have NB11_6 := Lib.hid NB6_11.out.symm; replace BK6 := Lib.hid (blk_below BK6.out hb_); have BK11 := Lib.hid bk_; replace HB := Lib.hid (below_step HB.out hb_); clear hb_ hg_ bk_))
  obtain ⟨pc0, pc1, pc2, pc3, pf0, pf1, pf2, pf3⟩ := cs4 BK5.out
  obtain ⟨qc0, qc1, qf0, qf1⟩ := cs2 BK6.out
  go_wp2_with fail
  clear pc0 pf0 pc1 pf1 pc2 pf2 pc3 pf3
  clear qc0 qf0 qc1 qf1
  refine (cell_look.calls k a0 a1 a2 a3 _ _ l0 _ _ l1 kind index r1 r2 r3 r4 r5 r6 r7 s1 s2 s3 s4 s5 s6 s7 e _ (Kd.C_below HR0.out HB.out) HC0.out (Kd.C_below HR1.out HB.out) HC1.out HD.out).mono ?_
  rintro en w4 ⟨u4, u5, v4, v5, rfl, ho4, ho5, ho6, ho7, hb⟩
  have RU4 := Lib.hid (Kd.R_lower ho4 (below_size HB.out))
  have RU5 := Lib.hid (Kd.R_lower ho5 (below_size HB.out))
  have RV4 := Lib.hid (Kd.R_lower ho6 (below_size HB.out))
  have RV5 := Lib.hid (Kd.R_lower ho7 (below_size HB.out))
  clear ho4 ho5 ho6 ho7 HD
  replace BK11 := Lib.hid (blk_below BK11.out hb)
  replace HB := Lib.hid (below_step HB.out hb)
  clear hb
  obtain ⟨X4, x4, rfl⟩ := Kd.R_slice RU4.out
  obtain ⟨X5, x5, rfl⟩ := Kd.R_slice RU5.out
  obtain ⟨Y4, y4, rfl⟩ := Kd.R_slice RV4.out
  obtain ⟨Y5, y5, rfl⟩ := Kd.R_slice RV5.out
  go_upto_region 2 with (first | ((with_reducible refine gate_dst (N := 14) rfl ?_); refine box_event ?hg (N := 14) ?hd (cs := #[.int .u8 0, .int .i64 0, .int .i64 0, .int .i64 0, .slice none 0 0, .slice none 0 0, .bool false, .int .u8 0, .int .i64 0, .int .i64 0, .int .i64 0, .slice none 0 0, .slice none 0 0, .bool false]) (t := 62) ?hr ?_; (case hd => rfl); (case hg => rfl); (case hr => first | (go_simp; done) | (go_simp; rfl)); intro gb14 hg_ w5 bk_ hb_; have GE14 := Lib.hid (show w.heap.size ≤ gb14 by rw [hg_]; exact below_size HB.out); have NB11_14 := Lib.hid (show gb11 ≠ gb14 by rw [hg_]; exact Nat.ne_of_lt (blk_lt BK11.out)); have NB14_11 := Lib.hid NB11_14.out.symm; replace BK11 := Lib.hid (blk_below BK11.out hb_); have BK14 := Lib.hid bk_; replace RU4 := Lib.hid (Kd.R_below RU4.out hb_); replace RU5 := Lib.hid (Kd.R_below RU5.out hb_); replace RV4 := Lib.hid (Kd.R_below RV4.out hb_); replace RV5 := Lib.hid (Kd.R_below RV5.out hb_); replace HB := Lib.hid (below_step HB.out hb_); clear hb_ hg_ bk_; obtain ⟨zc0, zc1, zc2, zc3, zc4, zc5, zc6, zc7, zc8, zc9, zc10, zc11, zc12, zc13, zf0, zf1, zf2, zf3, zf4, zf5, zf6, zf7, zf8, zf9, zf10, zf11, zf12, zf13⟩ := cs14 BK14.out))
  clear zc0 zf0 zc1 zf1 zc2 zf2 zc3 zf3 zc4 zf4 zc5 zf5 zc6 zf6 zc7 zf7 zc8 zf8 zc9 zf9 zc10 zf10 zc11 zf11 zc12 zf12 zc13 zf13
  obtain ⟨hq1_, hq2_, hs_⟩ := st14_0_14 HB.out GE14.out BK14.out (.int .u8 r1) (.int .i64 r2) (.int .i64 r3) (.int .i64 r4) (.slice X4 r5.length x4) (.slice X5 r6.length x5) (.bool r7) (.int .u8 s1) (.int .i64 s2) (.int .i64 s3) (.int .i64 s4) (.slice Y4 s5.length y4) (.slice Y5 s6.length y5) (.bool s7)
  generalize ((((((((((((((w5.setCell ⟨gb14, 0, none⟩ (.int .u8 r1)).setCell ⟨gb14, 1, none⟩ (.int .i64 r2)).setCell ⟨gb14, 2, none⟩ (.int .i64 r3)).setCell ⟨gb14, 3, none⟩ (.int .i64 r4)).setCell ⟨gb14, 4, none⟩ (.slice X4 r5.length x4)).setCell ⟨gb14, 5, none⟩ (.slice X5 r6.length x5)).setCell ⟨gb14, 6, none⟩ (.bool r7)).setCell ⟨gb14, 7, none⟩ (.int .u8 s1)).setCell ⟨gb14, 8, none⟩ (.int .i64 s2)).setCell ⟨gb14, 9, none⟩ (.int .i64 s3)).setCell ⟨gb14, 10, none⟩ (.int .i64 s4)).setCell ⟨gb14, 11, none⟩ (.slice Y4 s5.length y4)).setCell ⟨gb14, 12, none⟩ (.slice Y5 s6.length y5)).setCell ⟨gb14, 13, none⟩ (.bool s7)) = w6 at hs_ hq1_ hq2_ ⊢
  replace RU4 := Lib.hid (Kd.R_mono (Kd.R_step (Kd.R_types RU4.out BK14.out (by decide)) (fun k hk _ => hs_ k hk.2)) (ok' := fun _ => True) (fun _ _ => trivial))
  replace RU5 := Lib.hid (Kd.R_mono (Kd.R_step (Kd.R_types RU5.out BK14.out (by decide)) (fun k hk _ => hs_ k hk.2)) (ok' := fun _ => True) (fun _ _ => trivial))
  replace RV4 := Lib.hid (Kd.R_mono (Kd.R_step (Kd.R_types RV4.out BK14.out (by decide)) (fun k hk _ => hs_ k hk.2)) (ok' := fun _ => True) (fun _ _ => trivial))
  replace RV5 := Lib.hid (Kd.R_mono (Kd.R_step (Kd.R_types RV5.out BK14.out (by decide)) (fun k hk _ => hs_ k hk.2)) (ok' := fun _ => True) (fun _ _ => trivial))
  replace BK11 := Lib.hid ((hs_ gb11 NB11_14.out).trans BK11.out)
  replace BK14 := Lib.hid hq1_
  replace HB := Lib.hid hq2_
  clear hs_ hq1_ hq2_
  by_cases hez : e = 0
  case neg =>
    have hd1 : (e != 0) = true := bne_iff_ne.mpr hez
    have h := H.out
    simp only [if_neg hez, Option.some.injEq, Prod.mk.injEq] at h
    obtain ⟨rfl, rfl, rfl, rfl, rfl, rfl, rfl, rfl, rfl⟩ := h
    clear H
    obtain ⟨zc0, zc1, zc2, zc3, zc4, zc5, zf0, zf1, zf2, zf3, zf4, zf5⟩ := cs6 BK11.out
    go_wp2_with fail
    clear zc0 zf0 zc1 zf1 zc2 zf2 zc3 zf3 zc4 zf4 zc5 zf5
    obtain ⟨hq1_, hq2_, hs_⟩ := st6_0_6 HB.out GE11.out BK11.out (.int .u8 0) (.int .i64 0) (.int .i64 0) (.int .i64 0) (.slice none 0 0) (.slice none 0 0)
    generalize ((((((w6.setCell ⟨gb11, 0, none⟩ (.int .u8 0)).setCell ⟨gb11, 1, none⟩ (.int .i64 0)).setCell ⟨gb11, 2, none⟩ (.int .i64 0)).setCell ⟨gb11, 3, none⟩ (.int .i64 0)).setCell ⟨gb11, 4, none⟩ (.slice none 0 0)).setCell ⟨gb11, 5, none⟩ (.slice none 0 0)) = wz at hs_ hq1_ hq2_ ⊢
    replace BK11 := Lib.hid hq1_
    replace HB := Lib.hid hq2_
    clear hs_ hq1_ hq2_
    refine bodyPost_ret (results_tctt rfl _ _ gb11 27 #[.int .u8 0, .int .i64 0, .int .i64 0, .int .i64 0, .slice none 0 0, .slice none 0 0] (0, 0) _ rfl BK11.out Try.underlying27 rfl (by kernel_rfl)) rfl ?_
    exact ⟨_, _, rfl, Kd.R_nil _ _ _ _ _, Kd.R_nil _ _ _ _ _, HB.out⟩
  subst hez
  have h := H.out
  simp only [if_true] at h
  replace H := Lib.hid h
  clear h
  by_cases hq0 : version < 1
  case pos =>
    have hq0b : decide (version < 1) = true := decide_eq_true hq0
    have h := H.out
    rw [if_pos (.inl hq0)] at h
    simp only [Option.some.injEq, Prod.mk.injEq] at h
    obtain ⟨rfl, rfl, rfl, rfl, rfl, rfl, rfl, rfl, rfl⟩ := h
    clear H
    obtain ⟨zc0, zc1, zc2, zc3, zc4, zc5, zf0, zf1, zf2, zf3, zf4, zf5⟩ := cs6 BK11.out
    go_wp2_with fail
    clear zc0 zf0 zc1 zf1 zc2 zf2 zc3 zf3 zc4 zf4 zc5 zf5
    obtain ⟨hq1_, hq2_, hs_⟩ := st6_0_6 HB.out GE11.out BK11.out (.int .u8 0) (.int .i64 0) (.int .i64 0) (.int .i64 0) (.slice none 0 0) (.slice none 0 0)
    generalize ((((((w6.setCell ⟨gb11, 0, none⟩ (.int .u8 0)).setCell ⟨gb11, 1, none⟩ (.int .i64 0)).setCell ⟨gb11, 2, none⟩ (.int .i64 0)).setCell ⟨gb11, 3, none⟩ (.int .i64 0)).setCell ⟨gb11, 4, none⟩ (.slice none 0 0)).setCell ⟨gb11, 5, none⟩ (.slice none 0 0)) = wz at hs_ hq1_ hq2_ ⊢
    replace BK11 := Lib.hid hq1_
    replace HB := Lib.hid hq2_
    clear hs_ hq1_ hq2_
    refine bodyPost_ret (results_tctt rfl _ _ gb11 27 #[.int .u8 0, .int .i64 0, .int .i64 0, .int .i64 0, .slice none 0 0, .slice none 0 0] (0, 0) _ rfl BK11.out Try.underlying27 rfl (by kernel_rfl)) rfl ?_
    exact ⟨_, _, rfl, Kd.R_nil _ _ _ _ _, Kd.R_nil _ _ _ _ _, HB.out⟩
  have hq0b : decide (version < 1) = false := decide_eq_false hq0
  by_cases hq1 : 1073741824 < version
  case pos =>
    have hq1b : decide (1073741824 < version) = true := decide_eq_true hq1
    have hq1c : decide (version > 1073741824) = true := decide_eq_true hq1
    have h := H.out
    rw [if_pos (.inr hq1)] at h
    simp only [Option.some.injEq, Prod.mk.injEq] at h
    obtain ⟨rfl, rfl, rfl, rfl, rfl, rfl, rfl, rfl, rfl⟩ := h
    clear H
    obtain ⟨zc0, zc1, zc2, zc3, zc4, zc5, zf0, zf1, zf2, zf3, zf4, zf5⟩ := cs6 BK11.out
    go_wp2_with fail
    clear zc0 zf0 zc1 zf1 zc2 zf2 zc3 zf3 zc4 zf4 zc5 zf5
    obtain ⟨hq1_, hq2_, hs_⟩ := st6_0_6 HB.out GE11.out BK11.out (.int .u8 0) (.int .i64 0) (.int .i64 0) (.int .i64 0) (.slice none 0 0) (.slice none 0 0)
    generalize ((((((w6.setCell ⟨gb11, 0, none⟩ (.int .u8 0)).setCell ⟨gb11, 1, none⟩ (.int .i64 0)).setCell ⟨gb11, 2, none⟩ (.int .i64 0)).setCell ⟨gb11, 3, none⟩ (.int .i64 0)).setCell ⟨gb11, 4, none⟩ (.slice none 0 0)).setCell ⟨gb11, 5, none⟩ (.slice none 0 0)) = wz at hs_ hq1_ hq2_ ⊢
    replace BK11 := Lib.hid hq1_
    replace HB := Lib.hid hq2_
    clear hs_ hq1_ hq2_
    refine bodyPost_ret (results_tctt rfl _ _ gb11 27 #[.int .u8 0, .int .i64 0, .int .i64 0, .int .i64 0, .slice none 0 0, .slice none 0 0] (0, 0) _ rfl BK11.out Try.underlying27 rfl (by kernel_rfl)) rfl ?_
    exact ⟨_, _, rfl, Kd.R_nil _ _ _ _ _, Kd.R_nil _ _ _ _ _, HB.out⟩
  have hq1b : decide (1073741824 < version) = false := decide_eq_false hq1
  have hq1c : decide (version > 1073741824) = false := decide_eq_false hq1
  have h := H.out
  rw [if_neg (by omega)] at h
  simp only [Option.some.injEq] at h
  replace H := Lib.hid h
  clear h
  obtain ⟨bc0, bc1, bc2, bc3, bc4, bc5, bc6, bc7, bc8, bc9, bc10, bc11, bc12, bc13, bf0, bf1, bf2, bf3, bf4, bf5, bf6, bf7, bf8, bf9, bf10, bf11, bf12, bf13⟩ := cs14 BK14.out
  go_wp2_with fail
  clear bc0 bf0 bc1 bf1 bc2 bf2 bc3 bf3 bc4 bf4 bc5 bf5 bc6 bf6 bc7 bf7 bc8 bf8 bc9 bf9 bc10 bf10 bc11 bf11 bc12 bf12 bc13 bf13
  clear hq0 hq0b hq1 hq1b hq1c
  refine (held_at.calls r1 r2 r3 r4 X4 X5 r5.length x4 r6.length x5 r7 s1 s2 s3 s4 Y4 Y5 s5.length y4 s6.length y5 s7 kind version _).mono ?_
  rintro en w7 ⟨rfl, hb⟩
  replace BK11 := Lib.hid (blk_below BK11.out hb)
  replace BK14 := Lib.hid (blk_below BK14.out hb)
  replace RU4 := Lib.hid (Kd.R_below RU4.out hb)
  replace RU5 := Lib.hid (Kd.R_below RU5.out hb)
  replace RV4 := Lib.hid (Kd.R_below RV4.out hb)
  replace RV5 := Lib.hid (Kd.R_below RV5.out hb)
  replace HB := Lib.hid (below_step HB.out hb)
  clear hb
  have HA := Lib.hid (held_at.cases r1 r3 r7 s1 s3 s7 kind version)
  generalize held_at.f r1 r3 r7 s1 s3 s7 kind version = at_ at H HA ⊢
  rcases HA.out with ha | ha | ha
  · subst ha
    have h := H.out
    unfold cell_Find.of at h
    rw [if_pos rfl] at h
    simp only [Prod.mk.injEq] at h
    obtain ⟨rfl, rfl, rfl, rfl, rfl, rfl, rfl, rfl, rfl⟩ := h
    clear H
    have hj0 := ia62_0' gb14
    obtain ⟨bc0, bc1, bc2, bc3, bc4, bc5, bc6, bc7, bc8, bc9, bc10, bc11, bc12, bc13, bf0, bf1, bf2, bf3, bf4, bf5, bf6, bf7, bf8, bf9, bf10, bf11, bf12, bf13⟩ := cs14 BK14.out
    obtain ⟨zc0, zc1, zc2, zc3, zc4, zc5, zf0, zf1, zf2, zf3, zf4, zf5⟩ := cs6 BK11.out
    go_wp2_with fail
    go_region
    go_wp2_with fail
    clear bc0 bf0 bc1 bf1 bc2 bf2 bc3 bf3 bc4 bf4 bc5 bf5 bc6 bf6 bc7 bf7 bc8 bf8 bc9 bf9 bc10 bf10 bc11 bf11 bc12 bf12 bc13 bf13
    clear zc0 zf0 zc1 zf1 zc2 zf2 zc3 zf3 zc4 zf4 zc5 zf5
    obtain ⟨hq1_, hq2_, hs_⟩ := st6_0_6 HB.out GE11.out BK11.out (.int .u8 r1) (.int .i64 r2) (.int .i64 r3) (.int .i64 r4) (.slice X4 r5.length x4) (.slice X5 r6.length x5)
    replace hq1_ := blk_drew hq1_
    replace hq2_ := below_drew1 hq2_
    have hsd_ : ∀ k, k ≠ gb11 → (((((((w7.setCell ⟨gb11, 0, none⟩ (.int .u8 r1)).setCell ⟨gb11, 1, none⟩ (.int .i64 r2)).setCell ⟨gb11, 2, none⟩ (.int .i64 r3)).setCell ⟨gb11, 3, none⟩ (.int .i64 r4)).setCell ⟨gb11, 4, none⟩ (.slice X4 r5.length x4)).setCell ⟨gb11, 5, none⟩ (.slice X5 r6.length x5)).drew).heap[k]? = w7.heap[k]? := fun k hk => (drew_heap _ k).trans (hs_ k hk)
    clear hs_
    have hs_ := hsd_
    clear hsd_
    generalize ((((((w7.setCell ⟨gb11, 0, none⟩ (.int .u8 r1)).setCell ⟨gb11, 1, none⟩ (.int .i64 r2)).setCell ⟨gb11, 2, none⟩ (.int .i64 r3)).setCell ⟨gb11, 3, none⟩ (.int .i64 r4)).setCell ⟨gb11, 4, none⟩ (.slice X4 r5.length x4)).setCell ⟨gb11, 5, none⟩ (.slice X5 r6.length x5)).drew = wz at hs_ hq1_ hq2_ ⊢
    replace RU4 := Lib.hid (Kd.R_mono (Kd.R_step (Kd.R_types RU4.out BK11.out (by decide)) (fun k hk _ => hs_ k hk.2)) (ok' := fun _ => True) (fun _ _ => trivial))
    replace RU5 := Lib.hid (Kd.R_mono (Kd.R_step (Kd.R_types RU5.out BK11.out (by decide)) (fun k hk _ => hs_ k hk.2)) (ok' := fun _ => True) (fun _ _ => trivial))
    replace BK11 := Lib.hid hq1_
    replace HB := Lib.hid hq2_
    clear hs_ hq1_ hq2_
    refine bodyPost_ret (results_tctt rfl _ _ gb11 27 #[.int .u8 r1, .int .i64 r2, .int .i64 r3, .int .i64 r4, .slice X4 r5.length x4, .slice X5 r6.length x5] (0, 0) _ rfl BK11.out Try.underlying27 rfl (by kernel_rfl)) rfl ?_
    exact ⟨_, _, rfl, RU4.out, RU5.out, HB.out⟩
  · subst ha
    have h := H.out
    unfold cell_Find.of at h
    rw [if_neg (by decide), if_pos rfl] at h
    simp only [Prod.mk.injEq] at h
    obtain ⟨rfl, rfl, rfl, rfl, rfl, rfl, rfl, rfl, rfl⟩ := h
    clear H
    have hj1 := ia62_1' gb14
    obtain ⟨bc0, bc1, bc2, bc3, bc4, bc5, bc6, bc7, bc8, bc9, bc10, bc11, bc12, bc13, bf0, bf1, bf2, bf3, bf4, bf5, bf6, bf7, bf8, bf9, bf10, bf11, bf12, bf13⟩ := cs14 BK14.out
    obtain ⟨zc0, zc1, zc2, zc3, zc4, zc5, zf0, zf1, zf2, zf3, zf4, zf5⟩ := cs6 BK11.out
    go_wp2_with fail
    go_region
    go_wp2_with fail
    clear bc0 bf0 bc1 bf1 bc2 bf2 bc3 bf3 bc4 bf4 bc5 bf5 bc6 bf6 bc7 bf7 bc8 bf8 bc9 bf9 bc10 bf10 bc11 bf11 bc12 bf12 bc13 bf13
    clear zc0 zf0 zc1 zf1 zc2 zf2 zc3 zf3 zc4 zf4 zc5 zf5
    obtain ⟨hq1_, hq2_, hs_⟩ := st6_0_6 HB.out GE11.out BK11.out (.int .u8 s1) (.int .i64 s2) (.int .i64 s3) (.int .i64 s4) (.slice Y4 s5.length y4) (.slice Y5 s6.length y5)
    replace hq1_ := blk_drew hq1_
    replace hq2_ := below_drew1 hq2_
    have hsd_ : ∀ k, k ≠ gb11 → (((((((w7.setCell ⟨gb11, 0, none⟩ (.int .u8 s1)).setCell ⟨gb11, 1, none⟩ (.int .i64 s2)).setCell ⟨gb11, 2, none⟩ (.int .i64 s3)).setCell ⟨gb11, 3, none⟩ (.int .i64 s4)).setCell ⟨gb11, 4, none⟩ (.slice Y4 s5.length y4)).setCell ⟨gb11, 5, none⟩ (.slice Y5 s6.length y5)).drew).heap[k]? = w7.heap[k]? := fun k hk => (drew_heap _ k).trans (hs_ k hk)
    clear hs_
    have hs_ := hsd_
    clear hsd_
    generalize ((((((w7.setCell ⟨gb11, 0, none⟩ (.int .u8 s1)).setCell ⟨gb11, 1, none⟩ (.int .i64 s2)).setCell ⟨gb11, 2, none⟩ (.int .i64 s3)).setCell ⟨gb11, 3, none⟩ (.int .i64 s4)).setCell ⟨gb11, 4, none⟩ (.slice Y4 s5.length y4)).setCell ⟨gb11, 5, none⟩ (.slice Y5 s6.length y5)).drew = wz at hs_ hq1_ hq2_ ⊢
    replace RV4 := Lib.hid (Kd.R_mono (Kd.R_step (Kd.R_types RV4.out BK11.out (by decide)) (fun k hk _ => hs_ k hk.2)) (ok' := fun _ => True) (fun _ _ => trivial))
    replace RV5 := Lib.hid (Kd.R_mono (Kd.R_step (Kd.R_types RV5.out BK11.out (by decide)) (fun k hk _ => hs_ k hk.2)) (ok' := fun _ => True) (fun _ _ => trivial))
    replace BK11 := Lib.hid hq1_
    replace HB := Lib.hid hq2_
    clear hs_ hq1_ hq2_
    refine bodyPost_ret (results_tctt rfl _ _ gb11 27 #[.int .u8 s1, .int .i64 s2, .int .i64 s3, .int .i64 s4, .slice Y4 s5.length y4, .slice Y5 s6.length y5] (0, 0) _ rfl BK11.out Try.underlying27 rfl (by kernel_rfl)) rfl ?_
    exact ⟨_, _, rfl, RV4.out, RV5.out, HB.out⟩
  · subst ha
    have h := H.out
    unfold cell_Find.of at h
    rw [if_neg (by decide), if_neg (by decide)] at h
    simp only [Prod.mk.injEq] at h
    obtain ⟨rfl, rfl, rfl, rfl, rfl, rfl, rfl, rfl, rfl⟩ := h
    clear H
    obtain ⟨zc0, zc1, zc2, zc3, zc4, zc5, zf0, zf1, zf2, zf3, zf4, zf5⟩ := cs6 BK11.out
    go_wp2_with fail
    clear zc0 zf0 zc1 zf1 zc2 zf2 zc3 zf3 zc4 zf4 zc5 zf5
    obtain ⟨hq1_, hq2_, hs_⟩ := st6_0_6 HB.out GE11.out BK11.out (.int .u8 0) (.int .i64 0) (.int .i64 0) (.int .i64 0) (.slice none 0 0) (.slice none 0 0)
    generalize ((((((w7.setCell ⟨gb11, 0, none⟩ (.int .u8 0)).setCell ⟨gb11, 1, none⟩ (.int .i64 0)).setCell ⟨gb11, 2, none⟩ (.int .i64 0)).setCell ⟨gb11, 3, none⟩ (.int .i64 0)).setCell ⟨gb11, 4, none⟩ (.slice none 0 0)).setCell ⟨gb11, 5, none⟩ (.slice none 0 0)) = wz at hs_ hq1_ hq2_ ⊢
    replace BK11 := Lib.hid hq1_
    replace HB := Lib.hid hq2_
    clear hs_ hq1_ hq2_
    refine bodyPost_ret (results_tctt rfl _ _ gb11 27 #[.int .u8 0, .int .i64 0, .int .i64 0, .int .i64 0, .slice none 0 0, .slice none 0 0] (0, 0) _ rfl BK11.out Try.underlying27 rfl (by kernel_rfl)) rfl ?_
    exact ⟨_, _, rfl, Kd.R_nil _ _ _ _ _, Kd.R_nil _ _ _ _ _, HB.out⟩
end Go.Proofs.Ytihefjdabjmmaaa.PD
