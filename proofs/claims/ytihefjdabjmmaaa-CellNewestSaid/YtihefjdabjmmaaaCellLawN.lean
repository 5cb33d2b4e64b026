/- The law's own walk. No condition. -/
import Derived.Test.YtihefjdabjmmaaaCellAwake
namespace Go.Proofs.Ytihefjdabjmmaaa.PD
open Go Go.RowKit Go.Proofs.YtihefjdabjmmaaaW.PrintWords Go.Proofs.YtihefjdabjmmaaaW.PrintLast Go.Proofs.YtihefjdabjmmaaaW.PrintMore
set_option linter.unusedVariables false
theorem ia42_0' (g : Nat) (W : World) : (Instr.indexAt 42 (.pointer (some ⟨g, 0, none⟩)) (.int .i64 0)).run Try.prog W = .ok (.pointer (some ⟨g, 0, none⟩)) W := by
  simp [Instr.indexAt, run_underlying Try.underlying42, Instr.sureAddr, asIntOf, go_sem]
theorem ia42_1' (g : Nat) (W : World) : (Instr.indexAt 42 (.pointer (some ⟨g, 0, none⟩)) (.int .i64 1)).run Try.prog W = .ok (.pointer (some ⟨g, 1, none⟩)) W := by
  simp [Instr.indexAt, run_underlying Try.underlying42, Instr.sureAddr, asIntOf, go_sem]
set_option maxHeartbeats 8000000 in
set_option maxRecDepth 100000 in
theorem cell_law_Newest.calls (k : Nat) (a0 a1 a2 a3 : Int) (A0 : Option Addr) (c0 : Nat) (l0 : List Int) (A1 : Option Addr) (c1 : Nat) (l1 : List Int) (kind index : Int) (n t1 t2 t3 t4 : Int) (t5 t6 : List Int) (is : Bool) (e o f : Int)
    (x1 x2 x3 x4 : Int) (x5 x6 : List Int) (x7 : Bool) (xe : Int) (y1 y2 y3 y4 : Int) (y5 y6 : List Int) (y7 : Bool) (ye : Int) (w : World)
    (hr0 : Kd.C (Kd.int .u8) w A0 l0.length l0) (hc0 : l0.length ≤ c0) (hr1 : Kd.C (Kd.int .u8) w A1 l1.length l1) (hc1 : l1.length ≤ c1)
    (h1 : cell_Older.f k 2 1 16 8 [] [] 1 0 0 = some (0, 0)) (h2 : cell_Newest.f k 2 1 16 8 [] [] 9 0 = some (0, 0, 0, 0, 0, [], [], false, 2))
    (hN : cell_Newest.f k a0 a1 a2 a3 l0 l1 kind index = some (n, t1, t2, t3, t4, t5, t6, is, e))
    (hO : cell_Older.f k a0 a1 a2 a3 l0 l1 kind index 0 = some (o, f))
    (hX : slot_Parse.f k a0 a1 a2 a3 l0 = some (x1, x2, x3, x4, x5, x6, x7, xe)) (hY : slot_Parse.f k a0 a1 a2 a3 l1 = some (y1, y2, y3, y4, y5, y6, y7, ye))
    (g1 : e ≠ 0 ∨ f ≠ 0 → f = e ∧ is = false ∧ n = 0 ∧ o = 0) (g2 : e = 0 → f = 0 → xe = 0 ∧ ye = 0)
    (g3 : e = 0 → f = 0 → ((x7 && (x2 == index)) = false → o = 0) ∧ ((x7 && (x2 == index)) = true → (y7 && (y2 == index)) = false → o = 1) ∧ ((x7 && (x2 == index)) = true → (y7 && (y2 == index)) = true → o = if x3 ≤ y3 then 0 else 1))
    (g4 : e = 0 → f = 0 → is = false → ¬ ((x7 && (x2 == index)) = true ∧ x1 = kind) ∧ ¬ ((y7 && (y2 == index)) = true ∧ y1 = kind))
    (g5 : e = 0 → f = 0 → is = true → cell_Find.f k a0 a1 a2 a3 l0 l1 kind index t3 = some (n, t1, t2, t3, t4, t5, t6, true, 0) ∧ ((x7 && (x2 == index)) = true → x1 = kind → x3 ≤ t3) ∧ ((y7 && (y2 == index)) = true → y1 = kind → y3 ≤ t3)) :
    Calls Try.prog 8 #[.agg #[.int .i64 a0, .int .i64 a1, .int .i64 a2, .int .i64 a3], .agg #[.slice A0 l0.length c0, .slice A1 l1.length c1], .int .u8 kind, .int .i64 index] w fun en w' => en = .returned (.bool true) ∧ Below w.heap.size w w' := by
  have hu23 := Try.underlying23
  have hu27 := Try.underlying27
  have hu42 := Try.underlying42
  have HR0 := Lib.hid hr0
  have HR1 := Lib.hid hr1
  have HC0 := Lib.hid hc0
  have HC1 := Lib.hid hc1
  have HB := Lib.hid (Below.refl w.heap.size w)
  have H1 := Lib.hid h1
  have H2 := Lib.hid h2
  have HN := Lib.hid hN
  have HO := Lib.hid hO
  have HX := Lib.hid hX
  have HY := Lib.hid hY
  have G1 := Lib.hid g1
  have G2 := Lib.hid g2
  have G3 := Lib.hid g3
  have G4 := Lib.hid g4
  have G5 := Lib.hid g5
  clear hr0 hr1 hc0 hc1 h1 h2 hN hO hX hY g1 g2 g3 g4 g5
  go_enter Try.func8, Try.ntmps8
  go_upto_region 1 with (first | ((with_reducible refine gate_dst (N := 4) rfl ?_); refine box_event ?hg (N := 4) ?hd (cs := #[.int .i64 a0, .int .i64 a1, .int .i64 a2, .int .i64 a3]) (t := 23) ?hr ?_; (case hd => rfl); (case hg => rfl); (case hr => first | (go_simp; done) | (go_simp; rfl)); intro gb4 hg_ w1 bk_ hb_; have GE4 := Lib.hid (show w.heap.size ≤ gb4 by rw [hg_]; exact below_size HB.out); have BK4 := Lib.hid bk_; replace HB := Lib.hid (below_step HB.out hb_); clear hb_ hg_ bk_) | ((with_reducible refine gate_dst (N := 5) rfl ?_); refine box_event ?hg (N := 5) ?hd (cs := #[.slice A0 l0.length c0, .slice A1 l1.length c1]) (t := 42) ?hr ?_; (case hd => rfl); (case hg => rfl); (case hr => first | (go_simp; done) | (go_simp; rfl)); intro gb5 hg_ w2 bk_ hb_; have GE5 := Lib.hid (show w.heap.size ≤ gb5 by rw [hg_]; exact below_size HB.out); have NB4_5 := Lib.hid (show gb4 ≠ gb5 by rw [hg_]; exact Nat.ne_of_lt (blk_lt BK4.out)); have NB5_4 := Lib.hid NB4_5.out.symm; replace BK4 := Lib.hid (blk_below BK4.out hb_); have BK5 := Lib.hid bk_; replace HB := Lib.hid (below_step HB.out hb_); clear hb_ hg_ bk_))
  go_wp2_with fail
  refine (cell_awake.calls k _ H1.out H2.out).mono ?_
  rintro en w4 ⟨rfl, hb⟩
  replace BK4 := Lib.hid (blk_below BK4.out hb)
  replace BK5 := Lib.hid (blk_below BK5.out hb)
  replace HB := Lib.hid (below_step HB.out hb)
  clear hb
  obtain ⟨pc0, pc1, pc2, pc3, pf0, pf1, pf2, pf3⟩ := cs4 BK4.out
  obtain ⟨qc0, qc1, qf0, qf1⟩ := cs2 BK5.out
  go_wp2_with fail
  clear pc0 pf0 pc1 pf1 pc2 pf2 pc3 pf3
  clear qc0 qf0 qc1 qf1
  refine (cell_Newest.calls k a0 a1 a2 a3 _ _ l0 _ _ l1 kind index n t1 t2 t3 t4 t5 t6 is e _ (Kd.C_below HR0.out HB.out) HC0.out (Kd.C_below HR1.out HB.out) HC1.out HN.out).mono ?_
  rintro en w5 ⟨u4, u5, rfl, ho4, ho5, hb⟩
  obtain ⟨T4, tc4, rfl⟩ := Kd.R_slice ho4
  obtain ⟨T5, tc5, rfl⟩ := Kd.R_slice ho5
  clear ho4 ho5
  replace BK4 := Lib.hid (blk_below BK4.out hb)
  replace BK5 := Lib.hid (blk_below BK5.out hb)
  replace HB := Lib.hid (below_step HB.out hb)
  clear hb
  go_upto_region 5 with (first | ((with_reducible refine gate_dst (N := 11) rfl ?_); refine box_event ?hg (N := 11) ?hd (cs := #[.int .u8 0, .int .i64 0, .int .i64 0, .int .i64 0, .slice none 0 0, .slice none 0 0]) (t := 27) ?hr ?_; (case hd => rfl); (case hg => rfl); (case hr => first | (go_simp; done) | (go_simp; rfl)); intro gb11 hg_ w6 bk_ hb_; have GE11 := Lib.hid (show w.heap.size ≤ gb11 by rw [hg_]; exact below_size HB.out); have NB4_11 := Lib.hid (show gb4 ≠ gb11 by rw [hg_]; exact Nat.ne_of_lt (blk_lt BK4.out)); have NB11_4 := Lib.hid NB4_11.out.symm; replace BK4 := Lib.hid (blk_below BK4.out hb_); have NB5_11 := Lib.hid (show gb5 ≠ gb11 by rw [hg_]; exact Nat.ne_of_lt (blk_lt BK5.out)); have NB11_5 := Lib.hid NB5_11.out.symm; replace BK5 := Lib.hid (blk_below BK5.out hb_); have BK11 := Lib.hid bk_; replace HB := Lib.hid (below_step HB.out hb_); clear hb_ hg_ bk_; obtain ⟨zc0, zc1, zc2, zc3, zc4, zc5, zf0, zf1, zf2, zf3, zf4, zf5⟩ := cs6 BK11.out))
  clear zc0 zf0 zc1 zf1 zc2 zf2 zc3 zf3 zc4 zf4 zc5 zf5
  obtain ⟨hq1_, hq2_, hs_⟩ := st6_0_6 HB.out GE11.out BK11.out (.int .u8 t1) (.int .i64 t2) (.int .i64 t3) (.int .i64 t4) (.slice T4 t5.length tc4) (.slice T5 t6.length tc5)
  generalize ((((((w6.setCell ⟨gb11, 0, none⟩ (.int .u8 t1)).setCell ⟨gb11, 1, none⟩ (.int .i64 t2)).setCell ⟨gb11, 2, none⟩ (.int .i64 t3)).setCell ⟨gb11, 3, none⟩ (.int .i64 t4)).setCell ⟨gb11, 4, none⟩ (.slice T4 t5.length tc4)).setCell ⟨gb11, 5, none⟩ (.slice T5 t6.length tc5)) = w7 at hs_ hq1_ hq2_ ⊢
  replace BK4 := Lib.hid ((hs_ gb4 NB4_11.out).trans BK4.out)
  replace BK5 := Lib.hid ((hs_ gb5 NB5_11.out).trans BK5.out)
  replace BK11 := Lib.hid hq1_
  replace HB := Lib.hid hq2_
  clear hs_ hq1_ hq2_
  obtain ⟨pc0, pc1, pc2, pc3, pf0, pf1, pf2, pf3⟩ := cs4 BK4.out
  obtain ⟨qc0, qc1, qf0, qf1⟩ := cs2 BK5.out
  go_wp2_with fail
  clear pc0 pf0 pc1 pf1 pc2 pf2 pc3 pf3
  clear qc0 qf0 qc1 qf1
  refine (cell_Older.calls k a0 a1 a2 a3 _ _ l0 _ _ l1 kind index 0 o f _ (Kd.C_below HR0.out HB.out) HC0.out (Kd.C_below HR1.out HB.out) HC1.out HO.out).mono ?_
  rintro en w8 ⟨rfl, hb⟩
  replace BK4 := Lib.hid (blk_below BK4.out hb)
  replace BK5 := Lib.hid (blk_below BK5.out hb)
  replace BK11 := Lib.hid (blk_below BK11.out hb)
  replace HB := Lib.hid (below_step HB.out hb)
  clear hb
  by_cases hef : e = 0 ∧ f = 0
  case neg =>
    obtain ⟨rfl, rfl, rfl, rfl⟩ := G1.out (by omega)
    have he0 : f ≠ 0 := fun z => hef ⟨z, z⟩
    have hb1 : (f != 0) = true := bne_iff_ne.mpr he0
    have hb2 : (f == f) = true := beq_self_eq_true f
    clear hef he0
    go_wp2_with fail
    go_ret
    exact ⟨by first | rfl | simp, HB.out⟩
  obtain ⟨rfl, rfl⟩ := hef
  obtain ⟨rfl, rfl⟩ := G2.out rfl rfl
  obtain ⟨g31, g32, g33⟩ := G3.out rfl rfl
  have K1 := Lib.hid g31
  have K2 := Lib.hid g32
  have K3 := Lib.hid g33
  replace G4 := Lib.hid (G4.out rfl rfl)
  replace G5 := Lib.hid (G5.out rfl rfl)
  clear g31 g32 g33 G1 G2 G3 H1 H2 HN HO
  have hj0 := ia42_0' gb5
  have hj1 := ia42_1' gb5
  obtain ⟨pc0, pc1, pc2, pc3, pf0, pf1, pf2, pf3⟩ := cs4 BK4.out
  obtain ⟨qc0, qc1, qf0, qf1⟩ := cs2 BK5.out
  go_wp2_with fail
  clear pc0 pf0 pc1 pf1 pc2 pf2 pc3 pf3
  clear qc0 qf0 qc1 qf1
  refine (slot_Parse.calls k a0 a1 a2 a3 _ _ l0 x1 x2 x3 x4 x5 x6 x7 0 _ (Kd.C_below HR0.out HB.out) HC0.out HX.out).mono ?_
  rintro en w9 ⟨u4, u5, rfl, ho4, ho5, hb⟩
  obtain ⟨X4, xc4, rfl⟩ := Kd.R_slice ho4
  obtain ⟨X5, xc5, rfl⟩ := Kd.R_slice ho5
  clear ho4 ho5
  replace BK4 := Lib.hid (blk_below BK4.out hb)
  replace BK5 := Lib.hid (blk_below BK5.out hb)
  replace BK11 := Lib.hid (blk_below BK11.out hb)
  replace HB := Lib.hid (below_step HB.out hb)
  clear hb
  go_upto_region 9 with (first | ((with_reducible refine gate_dst (N := 16) rfl ?_); refine box_event ?hg (N := 16) ?hd (cs := #[.int .u8 0, .int .i64 0, .int .i64 0, .int .i64 0, .slice none 0 0, .slice none 0 0]) (t := 27) ?hr ?_; (case hd => rfl); (case hg => rfl); (case hr => first | (go_simp; done) | (go_simp; rfl)); intro gb16 hg_ w10 bk_ hb_; have GE16 := Lib.hid (show w.heap.size ≤ gb16 by rw [hg_]; exact below_size HB.out); have NB4_16 := Lib.hid (show gb4 ≠ gb16 by rw [hg_]; exact Nat.ne_of_lt (blk_lt BK4.out)); have NB16_4 := Lib.hid NB4_16.out.symm; replace BK4 := Lib.hid (blk_below BK4.out hb_); have NB5_16 := Lib.hid (show gb5 ≠ gb16 by rw [hg_]; exact Nat.ne_of_lt (blk_lt BK5.out)); have NB16_5 := Lib.hid NB5_16.out.symm; replace BK5 := Lib.hid (blk_below BK5.out hb_); have NB11_16 := Lib.hid (show gb11 ≠ gb16 by rw [hg_]; exact Nat.ne_of_lt (blk_lt BK11.out)); have NB16_11 := Lib.hid NB11_16.out.symm; replace BK11 := Lib.hid (blk_below BK11.out hb_); have BK16 := Lib.hid bk_; replace HB := Lib.hid (below_step HB.out hb_); clear hb_ hg_ bk_; obtain ⟨zc0, zc1, zc2, zc3, zc4, zc5, zf0, zf1, zf2, zf3, zf4, zf5⟩ := cs6 BK16.out))
  clear zc0 zf0 zc1 zf1 zc2 zf2 zc3 zf3 zc4 zf4 zc5 zf5
  obtain ⟨hq1_, hq2_, hs_⟩ := st6_0_6 HB.out GE16.out BK16.out (.int .u8 x1) (.int .i64 x2) (.int .i64 x3) (.int .i64 x4) (.slice X4 x5.length xc4) (.slice X5 x6.length xc5)
  generalize ((((((w10.setCell ⟨gb16, 0, none⟩ (.int .u8 x1)).setCell ⟨gb16, 1, none⟩ (.int .i64 x2)).setCell ⟨gb16, 2, none⟩ (.int .i64 x3)).setCell ⟨gb16, 3, none⟩ (.int .i64 x4)).setCell ⟨gb16, 4, none⟩ (.slice X4 x5.length xc4)).setCell ⟨gb16, 5, none⟩ (.slice X5 x6.length xc5)) = w11 at hs_ hq1_ hq2_ ⊢
  replace BK4 := Lib.hid ((hs_ gb4 NB4_16.out).trans BK4.out)
  replace BK5 := Lib.hid ((hs_ gb5 NB5_16.out).trans BK5.out)
  replace BK11 := Lib.hid ((hs_ gb11 NB11_16.out).trans BK11.out)
  replace BK16 := Lib.hid hq1_
  replace HB := Lib.hid hq2_
  clear hs_ hq1_ hq2_
  obtain ⟨pc0, pc1, pc2, pc3, pf0, pf1, pf2, pf3⟩ := cs4 BK4.out
  obtain ⟨qc0, qc1, qf0, qf1⟩ := cs2 BK5.out
  go_wp2_with fail
  clear pc0 pf0 pc1 pf1 pc2 pf2 pc3 pf3
  clear qc0 qf0 qc1 qf1
  refine (slot_Parse.calls k a0 a1 a2 a3 _ _ l1 y1 y2 y3 y4 y5 y6 y7 0 _ (Kd.C_below HR1.out HB.out) HC1.out HY.out).mono ?_
  rintro en w12 ⟨u4, u5, rfl, ho4, ho5, hb⟩
  obtain ⟨Y4, yc4, rfl⟩ := Kd.R_slice ho4
  obtain ⟨Y5, yc5, rfl⟩ := Kd.R_slice ho5
  clear ho4 ho5
  replace BK4 := Lib.hid (blk_below BK4.out hb)
  replace BK5 := Lib.hid (blk_below BK5.out hb)
  replace BK11 := Lib.hid (blk_below BK11.out hb)
  replace BK16 := Lib.hid (blk_below BK16.out hb)
  replace HB := Lib.hid (below_step HB.out hb)
  clear hb
  go_upto_region 10 with (first | ((with_reducible refine gate_dst (N := 19) rfl ?_); refine box_event ?hg (N := 19) ?hd (cs := #[.int .u8 0, .int .i64 0, .int .i64 0, .int .i64 0, .slice none 0 0, .slice none 0 0]) (t := 27) ?hr ?_; (case hd => rfl); (case hg => rfl); (case hr => first | (go_simp; done) | (go_simp; rfl)); intro gb19 hg_ w13 bk_ hb_; have GE19 := Lib.hid (show w.heap.size ≤ gb19 by rw [hg_]; exact below_size HB.out); have NB4_19 := Lib.hid (show gb4 ≠ gb19 by rw [hg_]; exact Nat.ne_of_lt (blk_lt BK4.out)); have NB19_4 := Lib.hid NB4_19.out.symm; replace BK4 := Lib.hid (blk_below BK4.out hb_); have NB5_19 := Lib.hid (show gb5 ≠ gb19 by rw [hg_]; exact Nat.ne_of_lt (blk_lt BK5.out)); have NB19_5 := Lib.hid NB5_19.out.symm; replace BK5 := Lib.hid (blk_below BK5.out hb_); have NB11_19 := Lib.hid (show gb11 ≠ gb19 by rw [hg_]; exact Nat.ne_of_lt (blk_lt BK11.out)); have NB19_11 := Lib.hid NB11_19.out.symm; replace BK11 := Lib.hid (blk_below BK11.out hb_); have NB16_19 := Lib.hid (show gb16 ≠ gb19 by rw [hg_]; exact Nat.ne_of_lt (blk_lt BK16.out)); have NB19_16 := Lib.hid NB16_19.out.symm; replace BK16 := Lib.hid (blk_below BK16.out hb_); have BK19 := Lib.hid bk_; replace HB := Lib.hid (below_step HB.out hb_); clear hb_ hg_ bk_; obtain ⟨zc0, zc1, zc2, zc3, zc4, zc5, zf0, zf1, zf2, zf3, zf4, zf5⟩ := cs6 BK19.out))
  clear zc0 zf0 zc1 zf1 zc2 zf2 zc3 zf3 zc4 zf4 zc5 zf5
  obtain ⟨hq1_, hq2_, hs_⟩ := st6_0_6 HB.out GE19.out BK19.out (.int .u8 y1) (.int .i64 y2) (.int .i64 y3) (.int .i64 y4) (.slice Y4 y5.length yc4) (.slice Y5 y6.length yc5)
  generalize ((((((w13.setCell ⟨gb19, 0, none⟩ (.int .u8 y1)).setCell ⟨gb19, 1, none⟩ (.int .i64 y2)).setCell ⟨gb19, 2, none⟩ (.int .i64 y3)).setCell ⟨gb19, 3, none⟩ (.int .i64 y4)).setCell ⟨gb19, 4, none⟩ (.slice Y4 y5.length yc4)).setCell ⟨gb19, 5, none⟩ (.slice Y5 y6.length yc5)) = w14 at hs_ hq1_ hq2_ ⊢
  replace BK4 := Lib.hid ((hs_ gb4 NB4_19.out).trans BK4.out)
  replace BK5 := Lib.hid ((hs_ gb5 NB5_19.out).trans BK5.out)
  replace BK11 := Lib.hid ((hs_ gb11 NB11_19.out).trans BK11.out)
  replace BK16 := Lib.hid ((hs_ gb16 NB16_19.out).trans BK16.out)
  replace BK19 := Lib.hid hq1_
  replace HB := Lib.hid hq2_
  clear hs_ hq1_ hq2_
  clear HX HY hj0 hj1
  cases x7 with
  | false =>
    cases y7 with
    | false =>
      obtain rfl := K1.out (by simp [*])
      cases is with
      | false =>
        obtain ⟨pc0, pc1, pc2, pc3, pf0, pf1, pf2, pf3⟩ := cs4 BK4.out
        obtain ⟨qc0, qc1, qf0, qf1⟩ := cs2 BK5.out
        obtain ⟨xc0, xc1, xc2, xc3, xc4, xc5, xf0, xf1, xf2, xf3, xf4, xf5⟩ := cs6 BK16.out
        obtain ⟨yc0, yc1, yc2, yc3, yc4, yc5, yf0, yf1, yf2, yf3, yf4, yf5⟩ := cs6 BK19.out
        obtain ⟨tc0, tc1, tc2, tc3, tc4, tc5, tf0, tf1, tf2, tf3, tf4, tf5⟩ := cs6 BK11.out
        clear K1 K2 K3 G4 G5
        go_wp2_with fail
        go_ret
        exact ⟨rfl, HB.out⟩
      | true =>
        obtain ⟨hf, hx3, hy3⟩ := G5.out (by simp)
        have HF := Lib.hid hf
        clear hf hx3 hy3 K1 K2 K3 G4 G5
        obtain ⟨pc0, pc1, pc2, pc3, pf0, pf1, pf2, pf3⟩ := cs4 BK4.out
        obtain ⟨qc0, qc1, qf0, qf1⟩ := cs2 BK5.out
        obtain ⟨xc0, xc1, xc2, xc3, xc4, xc5, xf0, xf1, xf2, xf3, xf4, xf5⟩ := cs6 BK16.out
        obtain ⟨yc0, yc1, yc2, yc3, yc4, yc5, yf0, yf1, yf2, yf3, yf4, yf5⟩ := cs6 BK19.out
        obtain ⟨tc0, tc1, tc2, tc3, tc4, tc5, tf0, tf1, tf2, tf3, tf4, tf5⟩ := cs6 BK11.out
        go_wp2_with fail
        clear pc0 pf0 pc1 pf1 pc2 pf2 pc3 pf3
        clear qc0 qf0 qc1 qf1
        clear xc0 xf0 xc1 xf1 xc2 xf2 xc3 xf3 xc4 xf4 xc5 xf5
        clear yc0 yf0 yc1 yf1 yc2 yf2 yc3 yf3 yc4 yf4 yc5 yf5
        clear tc0 tf0 tc1 tf1 tc2 tf2 tc3 tf3 tc4 tf4 tc5 tf5
        refine (cell_Find.calls k a0 a1 a2 a3 _ _ l0 _ _ l1 kind index t3 n t1 t2 t3 t4 t5 t6 true 0 _ (Kd.C_below HR0.out HB.out) HC0.out (Kd.C_below HR1.out HB.out) HC1.out HF.out).mono ?_
        rintro en w15 ⟨u4, u5, rfl, ho4, ho5, hb⟩
        obtain ⟨F4, fc4, rfl⟩ := Kd.R_slice ho4
        obtain ⟨F5, fc5, rfl⟩ := Kd.R_slice ho5
        clear ho4 ho5
        replace BK11 := Lib.hid (blk_below BK11.out hb)
        replace BK16 := Lib.hid (blk_below BK16.out hb)
        replace BK19 := Lib.hid (blk_below BK19.out hb)
        replace HB := Lib.hid (below_step HB.out hb)
        clear hb
        go_upto_region 23 with (first | ((with_reducible refine gate_dst (N := 23) rfl ?_); refine box_event ?hg (N := 23) ?hd (cs := #[.int .u8 0, .int .i64 0, .int .i64 0, .int .i64 0, .slice none 0 0, .slice none 0 0]) (t := 27) ?hr ?_; (case hd => rfl); (case hg => rfl); (case hr => first | (go_simp; done) | (go_simp; rfl)); intro gb23 hg_ w16 bk_ hb_; have GE23 := Lib.hid (show w.heap.size ≤ gb23 by rw [hg_]; exact below_size HB.out); have NB11_23 := Lib.hid (show gb11 ≠ gb23 by rw [hg_]; exact Nat.ne_of_lt (blk_lt BK11.out)); have NB23_11 := Lib.hid NB11_23.out.symm; replace BK11 := Lib.hid (blk_below BK11.out hb_); have NB16_23 := Lib.hid (show gb16 ≠ gb23 by rw [hg_]; exact Nat.ne_of_lt (blk_lt BK16.out)); have NB23_16 := Lib.hid NB16_23.out.symm; replace BK16 := Lib.hid (blk_below BK16.out hb_); have NB19_23 := Lib.hid (show gb19 ≠ gb23 by rw [hg_]; exact Nat.ne_of_lt (blk_lt BK19.out)); have NB23_19 := Lib.hid NB19_23.out.symm; replace BK19 := Lib.hid (blk_below BK19.out hb_); have BK23 := Lib.hid bk_; replace HB := Lib.hid (below_step HB.out hb_); clear hb_ hg_ bk_; obtain ⟨zc0, zc1, zc2, zc3, zc4, zc5, zf0, zf1, zf2, zf3, zf4, zf5⟩ := cs6 BK23.out))
        clear zc0 zf0 zc1 zf1 zc2 zf2 zc3 zf3 zc4 zf4 zc5 zf5
        obtain ⟨hq1_, hq2_, hs_⟩ := st6_0_6 HB.out GE23.out BK23.out (.int .u8 t1) (.int .i64 t2) (.int .i64 t3) (.int .i64 t4) (.slice F4 t5.length fc4) (.slice F5 t6.length fc5)
        generalize ((((((w16.setCell ⟨gb23, 0, none⟩ (.int .u8 t1)).setCell ⟨gb23, 1, none⟩ (.int .i64 t2)).setCell ⟨gb23, 2, none⟩ (.int .i64 t3)).setCell ⟨gb23, 3, none⟩ (.int .i64 t4)).setCell ⟨gb23, 4, none⟩ (.slice F4 t5.length fc4)).setCell ⟨gb23, 5, none⟩ (.slice F5 t6.length fc5)) = w17 at hs_ hq1_ hq2_ ⊢
        replace BK11 := Lib.hid ((hs_ gb11 NB11_23.out).trans BK11.out)
        replace BK16 := Lib.hid ((hs_ gb16 NB16_23.out).trans BK16.out)
        replace BK19 := Lib.hid ((hs_ gb19 NB19_23.out).trans BK19.out)
        replace BK23 := Lib.hid hq1_
        replace HB := Lib.hid hq2_
        clear hs_ hq1_ hq2_
        obtain ⟨xc0, xc1, xc2, xc3, xc4, xc5, xf0, xf1, xf2, xf3, xf4, xf5⟩ := cs6 BK16.out
        obtain ⟨yc0, yc1, yc2, yc3, yc4, yc5, yf0, yf1, yf2, yf3, yf4, yf5⟩ := cs6 BK19.out
        obtain ⟨tc0, tc1, tc2, tc3, tc4, tc5, tf0, tf1, tf2, tf3, tf4, tf5⟩ := cs6 BK11.out
        obtain ⟨vc0, vc1, vc2, vc3, vc4, vc5, vf0, vf1, vf2, vf3, vf4, vf5⟩ := cs6 BK23.out
        have hnn : (n != n) = false := bne_self_eq_false n
        have htt : (t3 != t3) = false := bne_self_eq_false t3
        go_wp2_with fail
        go_ret
        exact ⟨rfl, HB.out⟩
    | true =>
      by_cases hiy : y2 = index
      case neg =>
        have hiyb : (y2 == index) = false := beq_eq_false_iff_ne.mpr hiy
        replace hiy := Lib.hid hiy
        obtain rfl := K1.out (by simp [*])
        cases is with
        | false =>
          obtain ⟨pc0, pc1, pc2, pc3, pf0, pf1, pf2, pf3⟩ := cs4 BK4.out
          obtain ⟨qc0, qc1, qf0, qf1⟩ := cs2 BK5.out
          obtain ⟨xc0, xc1, xc2, xc3, xc4, xc5, xf0, xf1, xf2, xf3, xf4, xf5⟩ := cs6 BK16.out
          obtain ⟨yc0, yc1, yc2, yc3, yc4, yc5, yf0, yf1, yf2, yf3, yf4, yf5⟩ := cs6 BK19.out
          obtain ⟨tc0, tc1, tc2, tc3, tc4, tc5, tf0, tf1, tf2, tf3, tf4, tf5⟩ := cs6 BK11.out
          clear K1 K2 K3 G4 G5
          go_wp2_with fail
          go_ret
          exact ⟨rfl, HB.out⟩
        | true =>
          obtain ⟨hf, hx3, hy3⟩ := G5.out (by simp)
          have HF := Lib.hid hf
          clear hf hx3 hy3 K1 K2 K3 G4 G5
          obtain ⟨pc0, pc1, pc2, pc3, pf0, pf1, pf2, pf3⟩ := cs4 BK4.out
          obtain ⟨qc0, qc1, qf0, qf1⟩ := cs2 BK5.out
          obtain ⟨xc0, xc1, xc2, xc3, xc4, xc5, xf0, xf1, xf2, xf3, xf4, xf5⟩ := cs6 BK16.out
          obtain ⟨yc0, yc1, yc2, yc3, yc4, yc5, yf0, yf1, yf2, yf3, yf4, yf5⟩ := cs6 BK19.out
          obtain ⟨tc0, tc1, tc2, tc3, tc4, tc5, tf0, tf1, tf2, tf3, tf4, tf5⟩ := cs6 BK11.out
          go_wp2_with fail
          clear pc0 pf0 pc1 pf1 pc2 pf2 pc3 pf3
          clear qc0 qf0 qc1 qf1
          clear xc0 xf0 xc1 xf1 xc2 xf2 xc3 xf3 xc4 xf4 xc5 xf5
          clear yc0 yf0 yc1 yf1 yc2 yf2 yc3 yf3 yc4 yf4 yc5 yf5
          clear tc0 tf0 tc1 tf1 tc2 tf2 tc3 tf3 tc4 tf4 tc5 tf5
          refine (cell_Find.calls k a0 a1 a2 a3 _ _ l0 _ _ l1 kind index t3 n t1 t2 t3 t4 t5 t6 true 0 _ (Kd.C_below HR0.out HB.out) HC0.out (Kd.C_below HR1.out HB.out) HC1.out HF.out).mono ?_
          rintro en w15 ⟨u4, u5, rfl, ho4, ho5, hb⟩
          obtain ⟨F4, fc4, rfl⟩ := Kd.R_slice ho4
          obtain ⟨F5, fc5, rfl⟩ := Kd.R_slice ho5
          clear ho4 ho5
          replace BK11 := Lib.hid (blk_below BK11.out hb)
          replace BK16 := Lib.hid (blk_below BK16.out hb)
          replace BK19 := Lib.hid (blk_below BK19.out hb)
          replace HB := Lib.hid (below_step HB.out hb)
          clear hb
          go_upto_region 23 with (first | ((with_reducible refine gate_dst (N := 23) rfl ?_); refine box_event ?hg (N := 23) ?hd (cs := #[.int .u8 0, .int .i64 0, .int .i64 0, .int .i64 0, .slice none 0 0, .slice none 0 0]) (t := 27) ?hr ?_; (case hd => rfl); (case hg => rfl); (case hr => first | (go_simp; done) | (go_simp; rfl)); intro gb23 hg_ w16 bk_ hb_; have GE23 := Lib.hid (show w.heap.size ≤ gb23 by rw [hg_]; exact below_size HB.out); have NB11_23 := Lib.hid (show gb11 ≠ gb23 by rw [hg_]; exact Nat.ne_of_lt (blk_lt BK11.out)); have NB23_11 := Lib.hid NB11_23.out.symm; replace BK11 := Lib.hid (blk_below BK11.out hb_); have NB16_23 := Lib.hid (show gb16 ≠ gb23 by rw [hg_]; exact Nat.ne_of_lt (blk_lt BK16.out)); have NB23_16 := Lib.hid NB16_23.out.symm; replace BK16 := Lib.hid (blk_below BK16.out hb_); have NB19_23 := Lib.hid (show gb19 ≠ gb23 by rw [hg_]; exact Nat.ne_of_lt (blk_lt BK19.out)); have NB23_19 := Lib.hid NB19_23.out.symm; replace BK19 := Lib.hid (blk_below BK19.out hb_); have BK23 := Lib.hid bk_; replace HB := Lib.hid (below_step HB.out hb_); clear hb_ hg_ bk_; obtain ⟨zc0, zc1, zc2, zc3, zc4, zc5, zf0, zf1, zf2, zf3, zf4, zf5⟩ := cs6 BK23.out))
          clear zc0 zf0 zc1 zf1 zc2 zf2 zc3 zf3 zc4 zf4 zc5 zf5
          obtain ⟨hq1_, hq2_, hs_⟩ := st6_0_6 HB.out GE23.out BK23.out (.int .u8 t1) (.int .i64 t2) (.int .i64 t3) (.int .i64 t4) (.slice F4 t5.length fc4) (.slice F5 t6.length fc5)
          generalize ((((((w16.setCell ⟨gb23, 0, none⟩ (.int .u8 t1)).setCell ⟨gb23, 1, none⟩ (.int .i64 t2)).setCell ⟨gb23, 2, none⟩ (.int .i64 t3)).setCell ⟨gb23, 3, none⟩ (.int .i64 t4)).setCell ⟨gb23, 4, none⟩ (.slice F4 t5.length fc4)).setCell ⟨gb23, 5, none⟩ (.slice F5 t6.length fc5)) = w17 at hs_ hq1_ hq2_ ⊢
          replace BK11 := Lib.hid ((hs_ gb11 NB11_23.out).trans BK11.out)
          replace BK16 := Lib.hid ((hs_ gb16 NB16_23.out).trans BK16.out)
          replace BK19 := Lib.hid ((hs_ gb19 NB19_23.out).trans BK19.out)
          replace BK23 := Lib.hid hq1_
          replace HB := Lib.hid hq2_
          clear hs_ hq1_ hq2_
          obtain ⟨xc0, xc1, xc2, xc3, xc4, xc5, xf0, xf1, xf2, xf3, xf4, xf5⟩ := cs6 BK16.out
          obtain ⟨yc0, yc1, yc2, yc3, yc4, yc5, yf0, yf1, yf2, yf3, yf4, yf5⟩ := cs6 BK19.out
          obtain ⟨tc0, tc1, tc2, tc3, tc4, tc5, tf0, tf1, tf2, tf3, tf4, tf5⟩ := cs6 BK11.out
          obtain ⟨vc0, vc1, vc2, vc3, vc4, vc5, vf0, vf1, vf2, vf3, vf4, vf5⟩ := cs6 BK23.out
          have hnn : (n != n) = false := bne_self_eq_false n
          have htt : (t3 != t3) = false := bne_self_eq_false t3
          go_wp2_with fail
          go_ret
          exact ⟨rfl, HB.out⟩
      have hiyb : (y2 == index) = true := beq_iff_eq.mpr hiy
      replace hiy := Lib.hid hiy
      obtain rfl := K1.out (by simp [*])
      by_cases hky : y1 = kind
      case neg =>
        have hkyb : (y1 == kind) = false := beq_eq_false_iff_ne.mpr hky
        replace hky := Lib.hid hky
        cases is with
        | false =>
          obtain ⟨pc0, pc1, pc2, pc3, pf0, pf1, pf2, pf3⟩ := cs4 BK4.out
          obtain ⟨qc0, qc1, qf0, qf1⟩ := cs2 BK5.out
          obtain ⟨xc0, xc1, xc2, xc3, xc4, xc5, xf0, xf1, xf2, xf3, xf4, xf5⟩ := cs6 BK16.out
          obtain ⟨yc0, yc1, yc2, yc3, yc4, yc5, yf0, yf1, yf2, yf3, yf4, yf5⟩ := cs6 BK19.out
          obtain ⟨tc0, tc1, tc2, tc3, tc4, tc5, tf0, tf1, tf2, tf3, tf4, tf5⟩ := cs6 BK11.out
          clear K1 K2 K3 G4 G5
          go_wp2_with fail
          go_ret
          exact ⟨rfl, HB.out⟩
        | true =>
          obtain ⟨hf, hx3, hy3⟩ := G5.out (by simp)
          have HF := Lib.hid hf
          clear hf hx3 hy3 K1 K2 K3 G4 G5
          obtain ⟨pc0, pc1, pc2, pc3, pf0, pf1, pf2, pf3⟩ := cs4 BK4.out
          obtain ⟨qc0, qc1, qf0, qf1⟩ := cs2 BK5.out
          obtain ⟨xc0, xc1, xc2, xc3, xc4, xc5, xf0, xf1, xf2, xf3, xf4, xf5⟩ := cs6 BK16.out
          obtain ⟨yc0, yc1, yc2, yc3, yc4, yc5, yf0, yf1, yf2, yf3, yf4, yf5⟩ := cs6 BK19.out
          obtain ⟨tc0, tc1, tc2, tc3, tc4, tc5, tf0, tf1, tf2, tf3, tf4, tf5⟩ := cs6 BK11.out
          go_wp2_with fail
          clear pc0 pf0 pc1 pf1 pc2 pf2 pc3 pf3
          clear qc0 qf0 qc1 qf1
          clear xc0 xf0 xc1 xf1 xc2 xf2 xc3 xf3 xc4 xf4 xc5 xf5
          clear yc0 yf0 yc1 yf1 yc2 yf2 yc3 yf3 yc4 yf4 yc5 yf5
          clear tc0 tf0 tc1 tf1 tc2 tf2 tc3 tf3 tc4 tf4 tc5 tf5
          refine (cell_Find.calls k a0 a1 a2 a3 _ _ l0 _ _ l1 kind index t3 n t1 t2 t3 t4 t5 t6 true 0 _ (Kd.C_below HR0.out HB.out) HC0.out (Kd.C_below HR1.out HB.out) HC1.out HF.out).mono ?_
          rintro en w15 ⟨u4, u5, rfl, ho4, ho5, hb⟩
          obtain ⟨F4, fc4, rfl⟩ := Kd.R_slice ho4
          obtain ⟨F5, fc5, rfl⟩ := Kd.R_slice ho5
          clear ho4 ho5
          replace BK11 := Lib.hid (blk_below BK11.out hb)
          replace BK16 := Lib.hid (blk_below BK16.out hb)
          replace BK19 := Lib.hid (blk_below BK19.out hb)
          replace HB := Lib.hid (below_step HB.out hb)
          clear hb
          go_upto_region 23 with (first | ((with_reducible refine gate_dst (N := 23) rfl ?_); refine box_event ?hg (N := 23) ?hd (cs := #[.int .u8 0, .int .i64 0, .int .i64 0, .int .i64 0, .slice none 0 0, .slice none 0 0]) (t := 27) ?hr ?_; (case hd => rfl); (case hg => rfl); (case hr => first | (go_simp; done) | (go_simp; rfl)); intro gb23 hg_ w16 bk_ hb_; have GE23 := Lib.hid (show w.heap.size ≤ gb23 by rw [hg_]; exact below_size HB.out); have NB11_23 := Lib.hid (show gb11 ≠ gb23 by rw [hg_]; exact Nat.ne_of_lt (blk_lt BK11.out)); have NB23_11 := Lib.hid NB11_23.out.symm; replace BK11 := Lib.hid (blk_below BK11.out hb_); have NB16_23 := Lib.hid (show gb16 ≠ gb23 by rw [hg_]; exact Nat.ne_of_lt (blk_lt BK16.out)); have NB23_16 := Lib.hid NB16_23.out.symm; replace BK16 := Lib.hid (blk_below BK16.out hb_); have NB19_23 := Lib.hid (show gb19 ≠ gb23 by rw [hg_]; exact Nat.ne_of_lt (blk_lt BK19.out)); have NB23_19 := Lib.hid NB19_23.out.symm; replace BK19 := Lib.hid (blk_below BK19.out hb_); have BK23 := Lib.hid bk_; replace HB := Lib.hid (below_step HB.out hb_); clear hb_ hg_ bk_; obtain ⟨zc0, zc1, zc2, zc3, zc4, zc5, zf0, zf1, zf2, zf3, zf4, zf5⟩ := cs6 BK23.out))
          clear zc0 zf0 zc1 zf1 zc2 zf2 zc3 zf3 zc4 zf4 zc5 zf5
          obtain ⟨hq1_, hq2_, hs_⟩ := st6_0_6 HB.out GE23.out BK23.out (.int .u8 t1) (.int .i64 t2) (.int .i64 t3) (.int .i64 t4) (.slice F4 t5.length fc4) (.slice F5 t6.length fc5)
          generalize ((((((w16.setCell ⟨gb23, 0, none⟩ (.int .u8 t1)).setCell ⟨gb23, 1, none⟩ (.int .i64 t2)).setCell ⟨gb23, 2, none⟩ (.int .i64 t3)).setCell ⟨gb23, 3, none⟩ (.int .i64 t4)).setCell ⟨gb23, 4, none⟩ (.slice F4 t5.length fc4)).setCell ⟨gb23, 5, none⟩ (.slice F5 t6.length fc5)) = w17 at hs_ hq1_ hq2_ ⊢
          replace BK11 := Lib.hid ((hs_ gb11 NB11_23.out).trans BK11.out)
          replace BK16 := Lib.hid ((hs_ gb16 NB16_23.out).trans BK16.out)
          replace BK19 := Lib.hid ((hs_ gb19 NB19_23.out).trans BK19.out)
          replace BK23 := Lib.hid hq1_
          replace HB := Lib.hid hq2_
          clear hs_ hq1_ hq2_
          obtain ⟨xc0, xc1, xc2, xc3, xc4, xc5, xf0, xf1, xf2, xf3, xf4, xf5⟩ := cs6 BK16.out
          obtain ⟨yc0, yc1, yc2, yc3, yc4, yc5, yf0, yf1, yf2, yf3, yf4, yf5⟩ := cs6 BK19.out
          obtain ⟨tc0, tc1, tc2, tc3, tc4, tc5, tf0, tf1, tf2, tf3, tf4, tf5⟩ := cs6 BK11.out
          obtain ⟨vc0, vc1, vc2, vc3, vc4, vc5, vf0, vf1, vf2, vf3, vf4, vf5⟩ := cs6 BK23.out
          have hnn : (n != n) = false := bne_self_eq_false n
          have htt : (t3 != t3) = false := bne_self_eq_false t3
          go_wp2_with fail
          go_ret
          exact ⟨rfl, HB.out⟩
      have hkyb : (y1 == kind) = true := beq_iff_eq.mpr hky
      replace hky := Lib.hid hky
      cases is with
      | false =>
        exact absurd ⟨by simp [*], hky.out⟩ (G4.out (by simp)).2
      | true =>
        obtain ⟨hf, hx3, hy3⟩ := G5.out (by simp)
        have HF := Lib.hid hf
        have hy4 : decide (y3 ≤ t3) = true := decide_eq_true (hy3 (by simp [*]) hky.out)
        clear hf hx3 hy3 K1 K2 K3 G4 G5
        obtain ⟨pc0, pc1, pc2, pc3, pf0, pf1, pf2, pf3⟩ := cs4 BK4.out
        obtain ⟨qc0, qc1, qf0, qf1⟩ := cs2 BK5.out
        obtain ⟨xc0, xc1, xc2, xc3, xc4, xc5, xf0, xf1, xf2, xf3, xf4, xf5⟩ := cs6 BK16.out
        obtain ⟨yc0, yc1, yc2, yc3, yc4, yc5, yf0, yf1, yf2, yf3, yf4, yf5⟩ := cs6 BK19.out
        obtain ⟨tc0, tc1, tc2, tc3, tc4, tc5, tf0, tf1, tf2, tf3, tf4, tf5⟩ := cs6 BK11.out
        go_wp2_with fail
        clear pc0 pf0 pc1 pf1 pc2 pf2 pc3 pf3
        clear qc0 qf0 qc1 qf1
        clear xc0 xf0 xc1 xf1 xc2 xf2 xc3 xf3 xc4 xf4 xc5 xf5
        clear yc0 yf0 yc1 yf1 yc2 yf2 yc3 yf3 yc4 yf4 yc5 yf5
        clear tc0 tf0 tc1 tf1 tc2 tf2 tc3 tf3 tc4 tf4 tc5 tf5
        refine (cell_Find.calls k a0 a1 a2 a3 _ _ l0 _ _ l1 kind index t3 n t1 t2 t3 t4 t5 t6 true 0 _ (Kd.C_below HR0.out HB.out) HC0.out (Kd.C_below HR1.out HB.out) HC1.out HF.out).mono ?_
        rintro en w15 ⟨u4, u5, rfl, ho4, ho5, hb⟩
        obtain ⟨F4, fc4, rfl⟩ := Kd.R_slice ho4
        obtain ⟨F5, fc5, rfl⟩ := Kd.R_slice ho5
        clear ho4 ho5
        replace BK11 := Lib.hid (blk_below BK11.out hb)
        replace BK16 := Lib.hid (blk_below BK16.out hb)
        replace BK19 := Lib.hid (blk_below BK19.out hb)
        replace HB := Lib.hid (below_step HB.out hb)
        clear hb
        go_upto_region 23 with (first | ((with_reducible refine gate_dst (N := 23) rfl ?_); refine box_event ?hg (N := 23) ?hd (cs := #[.int .u8 0, .int .i64 0, .int .i64 0, .int .i64 0, .slice none 0 0, .slice none 0 0]) (t := 27) ?hr ?_; (case hd => rfl); (case hg => rfl); (case hr => first | (go_simp; done) | (go_simp; rfl)); intro gb23 hg_ w16 bk_ hb_; have GE23 := Lib.hid (show w.heap.size ≤ gb23 by rw [hg_]; exact below_size HB.out); have NB11_23 := Lib.hid (show gb11 ≠ gb23 by rw [hg_]; exact Nat.ne_of_lt (blk_lt BK11.out)); have NB23_11 := Lib.hid NB11_23.out.symm; replace BK11 := Lib.hid (blk_below BK11.out hb_); have NB16_23 := Lib.hid (show gb16 ≠ gb23 by rw [hg_]; exact Nat.ne_of_lt (blk_lt BK16.out)); have NB23_16 := Lib.hid NB16_23.out.symm; replace BK16 := Lib.hid (blk_below BK16.out hb_); have NB19_23 := Lib.hid (show gb19 ≠ gb23 by rw [hg_]; exact Nat.ne_of_lt (blk_lt BK19.out)); have NB23_19 := Lib.hid NB19_23.out.symm; replace BK19 := Lib.hid (blk_below BK19.out hb_); have BK23 := Lib.hid bk_; replace HB := Lib.hid (below_step HB.out hb_); clear hb_ hg_ bk_; obtain ⟨zc0, zc1, zc2, zc3, zc4, zc5, zf0, zf1, zf2, zf3, zf4, zf5⟩ := cs6 BK23.out))
        clear zc0 zf0 zc1 zf1 zc2 zf2 zc3 zf3 zc4 zf4 zc5 zf5
        obtain ⟨hq1_, hq2_, hs_⟩ := st6_0_6 HB.out GE23.out BK23.out (.int .u8 t1) (.int .i64 t2) (.int .i64 t3) (.int .i64 t4) (.slice F4 t5.length fc4) (.slice F5 t6.length fc5)
        generalize ((((((w16.setCell ⟨gb23, 0, none⟩ (.int .u8 t1)).setCell ⟨gb23, 1, none⟩ (.int .i64 t2)).setCell ⟨gb23, 2, none⟩ (.int .i64 t3)).setCell ⟨gb23, 3, none⟩ (.int .i64 t4)).setCell ⟨gb23, 4, none⟩ (.slice F4 t5.length fc4)).setCell ⟨gb23, 5, none⟩ (.slice F5 t6.length fc5)) = w17 at hs_ hq1_ hq2_ ⊢
        replace BK11 := Lib.hid ((hs_ gb11 NB11_23.out).trans BK11.out)
        replace BK16 := Lib.hid ((hs_ gb16 NB16_23.out).trans BK16.out)
        replace BK19 := Lib.hid ((hs_ gb19 NB19_23.out).trans BK19.out)
        replace BK23 := Lib.hid hq1_
        replace HB := Lib.hid hq2_
        clear hs_ hq1_ hq2_
        obtain ⟨xc0, xc1, xc2, xc3, xc4, xc5, xf0, xf1, xf2, xf3, xf4, xf5⟩ := cs6 BK16.out
        obtain ⟨yc0, yc1, yc2, yc3, yc4, yc5, yf0, yf1, yf2, yf3, yf4, yf5⟩ := cs6 BK19.out
        obtain ⟨tc0, tc1, tc2, tc3, tc4, tc5, tf0, tf1, tf2, tf3, tf4, tf5⟩ := cs6 BK11.out
        obtain ⟨vc0, vc1, vc2, vc3, vc4, vc5, vf0, vf1, vf2, vf3, vf4, vf5⟩ := cs6 BK23.out
        have hnn : (n != n) = false := bne_self_eq_false n
        have htt : (t3 != t3) = false := bne_self_eq_false t3
        go_wp2_with fail
        go_ret
        exact ⟨rfl, HB.out⟩
  | true =>
    by_cases hix : x2 = index
    case neg =>
      have hixb : (x2 == index) = false := beq_eq_false_iff_ne.mpr hix
      replace hix := Lib.hid hix
      cases y7 with
      | false =>
        obtain rfl := K1.out (by simp [*])
        cases is with
        | false =>
          obtain ⟨pc0, pc1, pc2, pc3, pf0, pf1, pf2, pf3⟩ := cs4 BK4.out
          obtain ⟨qc0, qc1, qf0, qf1⟩ := cs2 BK5.out
          obtain ⟨xc0, xc1, xc2, xc3, xc4, xc5, xf0, xf1, xf2, xf3, xf4, xf5⟩ := cs6 BK16.out
          obtain ⟨yc0, yc1, yc2, yc3, yc4, yc5, yf0, yf1, yf2, yf3, yf4, yf5⟩ := cs6 BK19.out
          obtain ⟨tc0, tc1, tc2, tc3, tc4, tc5, tf0, tf1, tf2, tf3, tf4, tf5⟩ := cs6 BK11.out
          clear K1 K2 K3 G4 G5
          go_wp2_with fail
          go_ret
          exact ⟨rfl, HB.out⟩
        | true =>
          obtain ⟨hf, hx3, hy3⟩ := G5.out (by simp)
          have HF := Lib.hid hf
          clear hf hx3 hy3 K1 K2 K3 G4 G5
          obtain ⟨pc0, pc1, pc2, pc3, pf0, pf1, pf2, pf3⟩ := cs4 BK4.out
          obtain ⟨qc0, qc1, qf0, qf1⟩ := cs2 BK5.out
          obtain ⟨xc0, xc1, xc2, xc3, xc4, xc5, xf0, xf1, xf2, xf3, xf4, xf5⟩ := cs6 BK16.out
          obtain ⟨yc0, yc1, yc2, yc3, yc4, yc5, yf0, yf1, yf2, yf3, yf4, yf5⟩ := cs6 BK19.out
          obtain ⟨tc0, tc1, tc2, tc3, tc4, tc5, tf0, tf1, tf2, tf3, tf4, tf5⟩ := cs6 BK11.out
          go_wp2_with fail
          clear pc0 pf0 pc1 pf1 pc2 pf2 pc3 pf3
          clear qc0 qf0 qc1 qf1
          clear xc0 xf0 xc1 xf1 xc2 xf2 xc3 xf3 xc4 xf4 xc5 xf5
          clear yc0 yf0 yc1 yf1 yc2 yf2 yc3 yf3 yc4 yf4 yc5 yf5
          clear tc0 tf0 tc1 tf1 tc2 tf2 tc3 tf3 tc4 tf4 tc5 tf5
          refine (cell_Find.calls k a0 a1 a2 a3 _ _ l0 _ _ l1 kind index t3 n t1 t2 t3 t4 t5 t6 true 0 _ (Kd.C_below HR0.out HB.out) HC0.out (Kd.C_below HR1.out HB.out) HC1.out HF.out).mono ?_
          rintro en w15 ⟨u4, u5, rfl, ho4, ho5, hb⟩
          obtain ⟨F4, fc4, rfl⟩ := Kd.R_slice ho4
          obtain ⟨F5, fc5, rfl⟩ := Kd.R_slice ho5
          clear ho4 ho5
          replace BK11 := Lib.hid (blk_below BK11.out hb)
          replace BK16 := Lib.hid (blk_below BK16.out hb)
          replace BK19 := Lib.hid (blk_below BK19.out hb)
          replace HB := Lib.hid (below_step HB.out hb)
          clear hb
          go_upto_region 23 with (first | ((with_reducible refine gate_dst (N := 23) rfl ?_); refine box_event ?hg (N := 23) ?hd (cs := #[.int .u8 0, .int .i64 0, .int .i64 0, .int .i64 0, .slice none 0 0, .slice none 0 0]) (t := 27) ?hr ?_; (case hd => rfl); (case hg => rfl); (case hr => first | (go_simp; done) | (go_simp; rfl)); intro gb23 hg_ w16 bk_ hb_; have GE23 := Lib.hid (show w.heap.size ≤ gb23 by rw [hg_]; exact below_size HB.out); have NB11_23 := Lib.hid (show gb11 ≠ gb23 by rw [hg_]; exact Nat.ne_of_lt (blk_lt BK11.out)); have NB23_11 := Lib.hid NB11_23.out.symm; replace BK11 := Lib.hid (blk_below BK11.out hb_); have NB16_23 := Lib.hid (show gb16 ≠ gb23 by rw [hg_]; exact Nat.ne_of_lt (blk_lt BK16.out)); have NB23_16 := Lib.hid NB16_23.out.symm; replace BK16 := Lib.hid (blk_below BK16.out hb_); have NB19_23 := Lib.hid (show gb19 ≠ gb23 by rw [hg_]; exact Nat.ne_of_lt (blk_lt BK19.out)); have NB23_19 := Lib.hid NB19_23.out.symm; replace BK19 := Lib.hid (blk_below BK19.out hb_); have BK23 := Lib.hid bk_; replace HB := Lib.hid (below_step HB.out hb_); clear hb_ hg_ bk_; obtain ⟨zc0, zc1, zc2, zc3, zc4, zc5, zf0, zf1, zf2, zf3, zf4, zf5⟩ := cs6 BK23.out))
          clear zc0 zf0 zc1 zf1 zc2 zf2 zc3 zf3 zc4 zf4 zc5 zf5
          obtain ⟨hq1_, hq2_, hs_⟩ := st6_0_6 HB.out GE23.out BK23.out (.int .u8 t1) (.int .i64 t2) (.int .i64 t3) (.int .i64 t4) (.slice F4 t5.length fc4) (.slice F5 t6.length fc5)
          generalize ((((((w16.setCell ⟨gb23, 0, none⟩ (.int .u8 t1)).setCell ⟨gb23, 1, none⟩ (.int .i64 t2)).setCell ⟨gb23, 2, none⟩ (.int .i64 t3)).setCell ⟨gb23, 3, none⟩ (.int .i64 t4)).setCell ⟨gb23, 4, none⟩ (.slice F4 t5.length fc4)).setCell ⟨gb23, 5, none⟩ (.slice F5 t6.length fc5)) = w17 at hs_ hq1_ hq2_ ⊢
          replace BK11 := Lib.hid ((hs_ gb11 NB11_23.out).trans BK11.out)
          replace BK16 := Lib.hid ((hs_ gb16 NB16_23.out).trans BK16.out)
          replace BK19 := Lib.hid ((hs_ gb19 NB19_23.out).trans BK19.out)
          replace BK23 := Lib.hid hq1_
          replace HB := Lib.hid hq2_
          clear hs_ hq1_ hq2_
          obtain ⟨xc0, xc1, xc2, xc3, xc4, xc5, xf0, xf1, xf2, xf3, xf4, xf5⟩ := cs6 BK16.out
          obtain ⟨yc0, yc1, yc2, yc3, yc4, yc5, yf0, yf1, yf2, yf3, yf4, yf5⟩ := cs6 BK19.out
          obtain ⟨tc0, tc1, tc2, tc3, tc4, tc5, tf0, tf1, tf2, tf3, tf4, tf5⟩ := cs6 BK11.out
          obtain ⟨vc0, vc1, vc2, vc3, vc4, vc5, vf0, vf1, vf2, vf3, vf4, vf5⟩ := cs6 BK23.out
          have hnn : (n != n) = false := bne_self_eq_false n
          have htt : (t3 != t3) = false := bne_self_eq_false t3
          go_wp2_with fail
          go_ret
          exact ⟨rfl, HB.out⟩
      | true =>
        by_cases hiy : y2 = index
        case neg =>
          have hiyb : (y2 == index) = false := beq_eq_false_iff_ne.mpr hiy
          replace hiy := Lib.hid hiy
          obtain rfl := K1.out (by simp [*])
          cases is with
          | false =>
            obtain ⟨pc0, pc1, pc2, pc3, pf0, pf1, pf2, pf3⟩ := cs4 BK4.out
            obtain ⟨qc0, qc1, qf0, qf1⟩ := cs2 BK5.out
            obtain ⟨xc0, xc1, xc2, xc3, xc4, xc5, xf0, xf1, xf2, xf3, xf4, xf5⟩ := cs6 BK16.out
            obtain ⟨yc0, yc1, yc2, yc3, yc4, yc5, yf0, yf1, yf2, yf3, yf4, yf5⟩ := cs6 BK19.out
            obtain ⟨tc0, tc1, tc2, tc3, tc4, tc5, tf0, tf1, tf2, tf3, tf4, tf5⟩ := cs6 BK11.out
            clear K1 K2 K3 G4 G5
            go_wp2_with fail
            go_ret
            exact ⟨rfl, HB.out⟩
          | true =>
            obtain ⟨hf, hx3, hy3⟩ := G5.out (by simp)
            have HF := Lib.hid hf
            clear hf hx3 hy3 K1 K2 K3 G4 G5
            obtain ⟨pc0, pc1, pc2, pc3, pf0, pf1, pf2, pf3⟩ := cs4 BK4.out
            obtain ⟨qc0, qc1, qf0, qf1⟩ := cs2 BK5.out
            obtain ⟨xc0, xc1, xc2, xc3, xc4, xc5, xf0, xf1, xf2, xf3, xf4, xf5⟩ := cs6 BK16.out
            obtain ⟨yc0, yc1, yc2, yc3, yc4, yc5, yf0, yf1, yf2, yf3, yf4, yf5⟩ := cs6 BK19.out
            obtain ⟨tc0, tc1, tc2, tc3, tc4, tc5, tf0, tf1, tf2, tf3, tf4, tf5⟩ := cs6 BK11.out
            go_wp2_with fail
            clear pc0 pf0 pc1 pf1 pc2 pf2 pc3 pf3
            clear qc0 qf0 qc1 qf1
            clear xc0 xf0 xc1 xf1 xc2 xf2 xc3 xf3 xc4 xf4 xc5 xf5
            clear yc0 yf0 yc1 yf1 yc2 yf2 yc3 yf3 yc4 yf4 yc5 yf5
            clear tc0 tf0 tc1 tf1 tc2 tf2 tc3 tf3 tc4 tf4 tc5 tf5
            refine (cell_Find.calls k a0 a1 a2 a3 _ _ l0 _ _ l1 kind index t3 n t1 t2 t3 t4 t5 t6 true 0 _ (Kd.C_below HR0.out HB.out) HC0.out (Kd.C_below HR1.out HB.out) HC1.out HF.out).mono ?_
            rintro en w15 ⟨u4, u5, rfl, ho4, ho5, hb⟩
            obtain ⟨F4, fc4, rfl⟩ := Kd.R_slice ho4
            obtain ⟨F5, fc5, rfl⟩ := Kd.R_slice ho5
            clear ho4 ho5
            replace BK11 := Lib.hid (blk_below BK11.out hb)
            replace BK16 := Lib.hid (blk_below BK16.out hb)
            replace BK19 := Lib.hid (blk_below BK19.out hb)
            replace HB := Lib.hid (below_step HB.out hb)
            clear hb
            go_upto_region 23 with (first | ((with_reducible refine gate_dst (N := 23) rfl ?_); refine box_event ?hg (N := 23) ?hd (cs := #[.int .u8 0, .int .i64 0, .int .i64 0, .int .i64 0, .slice none 0 0, .slice none 0 0]) (t := 27) ?hr ?_; (case hd => rfl); (case hg => rfl); (case hr => first | (go_simp; done) | (go_simp; rfl)); intro gb23 hg_ w16 bk_ hb_; have GE23 := Lib.hid (show w.heap.size ≤ gb23 by rw [hg_]; exact below_size HB.out); have NB11_23 := Lib.hid (show gb11 ≠ gb23 by rw [hg_]; exact Nat.ne_of_lt (blk_lt BK11.out)); have NB23_11 := Lib.hid NB11_23.out.symm; replace BK11 := Lib.hid (blk_below BK11.out hb_); have NB16_23 := Lib.hid (show gb16 ≠ gb23 by rw [hg_]; exact Nat.ne_of_lt (blk_lt BK16.out)); have NB23_16 := Lib.hid NB16_23.out.symm; replace BK16 := Lib.hid (blk_below BK16.out hb_); have NB19_23 := Lib.hid (show gb19 ≠ gb23 by rw [hg_]; exact Nat.ne_of_lt (blk_lt BK19.out)); have NB23_19 := Lib.hid NB19_23.out.symm; replace BK19 := Lib.hid (blk_below BK19.out hb_); have BK23 := Lib.hid bk_; replace HB := Lib.hid (below_step HB.out hb_); clear hb_ hg_ bk_; obtain ⟨zc0, zc1, zc2, zc3, zc4, zc5, zf0, zf1, zf2, zf3, zf4, zf5⟩ := cs6 BK23.out))
            clear zc0 zf0 zc1 zf1 zc2 zf2 zc3 zf3 zc4 zf4 zc5 zf5
            obtain ⟨hq1_, hq2_, hs_⟩ := st6_0_6 HB.out GE23.out BK23.out (.int .u8 t1) (.int .i64 t2) (.int .i64 t3) (.int .i64 t4) (.slice F4 t5.length fc4) (.slice F5 t6.length fc5)
            generalize ((((((w16.setCell ⟨gb23, 0, none⟩ (.int .u8 t1)).setCell ⟨gb23, 1, none⟩ (.int .i64 t2)).setCell ⟨gb23, 2, none⟩ (.int .i64 t3)).setCell ⟨gb23, 3, none⟩ (.int .i64 t4)).setCell ⟨gb23, 4, none⟩ (.slice F4 t5.length fc4)).setCell ⟨gb23, 5, none⟩ (.slice F5 t6.length fc5)) = w17 at hs_ hq1_ hq2_ ⊢
            replace BK11 := Lib.hid ((hs_ gb11 NB11_23.out).trans BK11.out)
            replace BK16 := Lib.hid ((hs_ gb16 NB16_23.out).trans BK16.out)
            replace BK19 := Lib.hid ((hs_ gb19 NB19_23.out).trans BK19.out)
            replace BK23 := Lib.hid hq1_
            replace HB := Lib.hid hq2_
            clear hs_ hq1_ hq2_
            obtain ⟨xc0, xc1, xc2, xc3, xc4, xc5, xf0, xf1, xf2, xf3, xf4, xf5⟩ := cs6 BK16.out
            obtain ⟨yc0, yc1, yc2, yc3, yc4, yc5, yf0, yf1, yf2, yf3, yf4, yf5⟩ := cs6 BK19.out
            obtain ⟨tc0, tc1, tc2, tc3, tc4, tc5, tf0, tf1, tf2, tf3, tf4, tf5⟩ := cs6 BK11.out
            obtain ⟨vc0, vc1, vc2, vc3, vc4, vc5, vf0, vf1, vf2, vf3, vf4, vf5⟩ := cs6 BK23.out
            have hnn : (n != n) = false := bne_self_eq_false n
            have htt : (t3 != t3) = false := bne_self_eq_false t3
            go_wp2_with fail
            go_ret
            exact ⟨rfl, HB.out⟩
        have hiyb : (y2 == index) = true := beq_iff_eq.mpr hiy
        replace hiy := Lib.hid hiy
        obtain rfl := K1.out (by simp [*])
        by_cases hky : y1 = kind
        case neg =>
          have hkyb : (y1 == kind) = false := beq_eq_false_iff_ne.mpr hky
          replace hky := Lib.hid hky
          cases is with
          | false =>
            obtain ⟨pc0, pc1, pc2, pc3, pf0, pf1, pf2, pf3⟩ := cs4 BK4.out
            obtain ⟨qc0, qc1, qf0, qf1⟩ := cs2 BK5.out
            obtain ⟨xc0, xc1, xc2, xc3, xc4, xc5, xf0, xf1, xf2, xf3, xf4, xf5⟩ := cs6 BK16.out
            obtain ⟨yc0, yc1, yc2, yc3, yc4, yc5, yf0, yf1, yf2, yf3, yf4, yf5⟩ := cs6 BK19.out
            obtain ⟨tc0, tc1, tc2, tc3, tc4, tc5, tf0, tf1, tf2, tf3, tf4, tf5⟩ := cs6 BK11.out
            clear K1 K2 K3 G4 G5
            go_wp2_with fail
            go_ret
            exact ⟨rfl, HB.out⟩
          | true =>
            obtain ⟨hf, hx3, hy3⟩ := G5.out (by simp)
            have HF := Lib.hid hf
            clear hf hx3 hy3 K1 K2 K3 G4 G5
            obtain ⟨pc0, pc1, pc2, pc3, pf0, pf1, pf2, pf3⟩ := cs4 BK4.out
            obtain ⟨qc0, qc1, qf0, qf1⟩ := cs2 BK5.out
            obtain ⟨xc0, xc1, xc2, xc3, xc4, xc5, xf0, xf1, xf2, xf3, xf4, xf5⟩ := cs6 BK16.out
            obtain ⟨yc0, yc1, yc2, yc3, yc4, yc5, yf0, yf1, yf2, yf3, yf4, yf5⟩ := cs6 BK19.out
            obtain ⟨tc0, tc1, tc2, tc3, tc4, tc5, tf0, tf1, tf2, tf3, tf4, tf5⟩ := cs6 BK11.out
            go_wp2_with fail
            clear pc0 pf0 pc1 pf1 pc2 pf2 pc3 pf3
            clear qc0 qf0 qc1 qf1
            clear xc0 xf0 xc1 xf1 xc2 xf2 xc3 xf3 xc4 xf4 xc5 xf5
            clear yc0 yf0 yc1 yf1 yc2 yf2 yc3 yf3 yc4 yf4 yc5 yf5
            clear tc0 tf0 tc1 tf1 tc2 tf2 tc3 tf3 tc4 tf4 tc5 tf5
            refine (cell_Find.calls k a0 a1 a2 a3 _ _ l0 _ _ l1 kind index t3 n t1 t2 t3 t4 t5 t6 true 0 _ (Kd.C_below HR0.out HB.out) HC0.out (Kd.C_below HR1.out HB.out) HC1.out HF.out).mono ?_
            rintro en w15 ⟨u4, u5, rfl, ho4, ho5, hb⟩
            obtain ⟨F4, fc4, rfl⟩ := Kd.R_slice ho4
            obtain ⟨F5, fc5, rfl⟩ := Kd.R_slice ho5
            clear ho4 ho5
            replace BK11 := Lib.hid (blk_below BK11.out hb)
            replace BK16 := Lib.hid (blk_below BK16.out hb)
            replace BK19 := Lib.hid (blk_below BK19.out hb)
            replace HB := Lib.hid (below_step HB.out hb)
            clear hb
            go_upto_region 23 with (first | ((with_reducible refine gate_dst (N := 23) rfl ?_); refine box_event ?hg (N := 23) ?hd (cs := #[.int .u8 0, .int .i64 0, .int .i64 0, .int .i64 0, .slice none 0 0, .slice none 0 0]) (t := 27) ?hr ?_; (case hd => rfl); (case hg => rfl); (case hr => first | (go_simp; done) | (go_simp; rfl)); intro gb23 hg_ w16 bk_ hb_; have GE23 := Lib.hid (show w.heap.size ≤ gb23 by rw [hg_]; exact below_size HB.out); have NB11_23 := Lib.hid (show gb11 ≠ gb23 by rw [hg_]; exact Nat.ne_of_lt (blk_lt BK11.out)); have NB23_11 := Lib.hid NB11_23.out.symm; replace BK11 := Lib.hid (blk_below BK11.out hb_); have NB16_23 := Lib.hid (show gb16 ≠ gb23 by rw [hg_]; exact Nat.ne_of_lt (blk_lt BK16.out)); have NB23_16 := Lib.hid NB16_23.out.symm; replace BK16 := Lib.hid (blk_below BK16.out hb_); have NB19_23 := Lib.hid (show gb19 ≠ gb23 by rw [hg_]; exact Nat.ne_of_lt (blk_lt BK19.out)); have NB23_19 := Lib.hid NB19_23.out.symm; replace BK19 := Lib.hid (blk_below BK19.out hb_); have BK23 := Lib.hid bk_; replace HB := Lib.hid (below_step HB.out hb_); clear hb_ hg_ bk_; obtain ⟨zc0, zc1, zc2, zc3, zc4, zc5, zf0, zf1, zf2, zf3, zf4, zf5⟩ := cs6 BK23.out))
            clear zc0 zf0 zc1 zf1 zc2 zf2 zc3 zf3 zc4 zf4 zc5 zf5
            obtain ⟨hq1_, hq2_, hs_⟩ := st6_0_6 HB.out GE23.out BK23.out (.int .u8 t1) (.int .i64 t2) (.int .i64 t3) (.int .i64 t4) (.slice F4 t5.length fc4) (.slice F5 t6.length fc5)
            generalize ((((((w16.setCell ⟨gb23, 0, none⟩ (.int .u8 t1)).setCell ⟨gb23, 1, none⟩ (.int .i64 t2)).setCell ⟨gb23, 2, none⟩ (.int .i64 t3)).setCell ⟨gb23, 3, none⟩ (.int .i64 t4)).setCell ⟨gb23, 4, none⟩ (.slice F4 t5.length fc4)).setCell ⟨gb23, 5, none⟩ (.slice F5 t6.length fc5)) = w17 at hs_ hq1_ hq2_ ⊢
            replace BK11 := Lib.hid ((hs_ gb11 NB11_23.out).trans BK11.out)
            replace BK16 := Lib.hid ((hs_ gb16 NB16_23.out).trans BK16.out)
            replace BK19 := Lib.hid ((hs_ gb19 NB19_23.out).trans BK19.out)
            replace BK23 := Lib.hid hq1_
            replace HB := Lib.hid hq2_
            clear hs_ hq1_ hq2_
            obtain ⟨xc0, xc1, xc2, xc3, xc4, xc5, xf0, xf1, xf2, xf3, xf4, xf5⟩ := cs6 BK16.out
            obtain ⟨yc0, yc1, yc2, yc3, yc4, yc5, yf0, yf1, yf2, yf3, yf4, yf5⟩ := cs6 BK19.out
            obtain ⟨tc0, tc1, tc2, tc3, tc4, tc5, tf0, tf1, tf2, tf3, tf4, tf5⟩ := cs6 BK11.out
            obtain ⟨vc0, vc1, vc2, vc3, vc4, vc5, vf0, vf1, vf2, vf3, vf4, vf5⟩ := cs6 BK23.out
            have hnn : (n != n) = false := bne_self_eq_false n
            have htt : (t3 != t3) = false := bne_self_eq_false t3
            go_wp2_with fail
            go_ret
            exact ⟨rfl, HB.out⟩
        have hkyb : (y1 == kind) = true := beq_iff_eq.mpr hky
        replace hky := Lib.hid hky
        cases is with
        | false =>
          exact absurd ⟨by simp [*], hky.out⟩ (G4.out (by simp)).2
        | true =>
          obtain ⟨hf, hx3, hy3⟩ := G5.out (by simp)
          have HF := Lib.hid hf
          have hy4 : decide (y3 ≤ t3) = true := decide_eq_true (hy3 (by simp [*]) hky.out)
          clear hf hx3 hy3 K1 K2 K3 G4 G5
          obtain ⟨pc0, pc1, pc2, pc3, pf0, pf1, pf2, pf3⟩ := cs4 BK4.out
          obtain ⟨qc0, qc1, qf0, qf1⟩ := cs2 BK5.out
          obtain ⟨xc0, xc1, xc2, xc3, xc4, xc5, xf0, xf1, xf2, xf3, xf4, xf5⟩ := cs6 BK16.out
          obtain ⟨yc0, yc1, yc2, yc3, yc4, yc5, yf0, yf1, yf2, yf3, yf4, yf5⟩ := cs6 BK19.out
          obtain ⟨tc0, tc1, tc2, tc3, tc4, tc5, tf0, tf1, tf2, tf3, tf4, tf5⟩ := cs6 BK11.out
          go_wp2_with fail
          clear pc0 pf0 pc1 pf1 pc2 pf2 pc3 pf3
          clear qc0 qf0 qc1 qf1
          clear xc0 xf0 xc1 xf1 xc2 xf2 xc3 xf3 xc4 xf4 xc5 xf5
          clear yc0 yf0 yc1 yf1 yc2 yf2 yc3 yf3 yc4 yf4 yc5 yf5
          clear tc0 tf0 tc1 tf1 tc2 tf2 tc3 tf3 tc4 tf4 tc5 tf5
          refine (cell_Find.calls k a0 a1 a2 a3 _ _ l0 _ _ l1 kind index t3 n t1 t2 t3 t4 t5 t6 true 0 _ (Kd.C_below HR0.out HB.out) HC0.out (Kd.C_below HR1.out HB.out) HC1.out HF.out).mono ?_
          rintro en w15 ⟨u4, u5, rfl, ho4, ho5, hb⟩
          obtain ⟨F4, fc4, rfl⟩ := Kd.R_slice ho4
          obtain ⟨F5, fc5, rfl⟩ := Kd.R_slice ho5
          clear ho4 ho5
          replace BK11 := Lib.hid (blk_below BK11.out hb)
          replace BK16 := Lib.hid (blk_below BK16.out hb)
          replace BK19 := Lib.hid (blk_below BK19.out hb)
          replace HB := Lib.hid (below_step HB.out hb)
          clear hb
          go_upto_region 23 with (first | ((with_reducible refine gate_dst (N := 23) rfl ?_); refine box_event ?hg (N := 23) ?hd (cs := #[.int .u8 0, .int .i64 0, .int .i64 0, .int .i64 0, .slice none 0 0, .slice none 0 0]) (t := 27) ?hr ?_; (case hd => rfl); (case hg => rfl); (case hr => first | (go_simp; done) | (go_simp; rfl)); intro gb23 hg_ w16 bk_ hb_; have GE23 := Lib.hid (show w.heap.size ≤ gb23 by rw [hg_]; exact below_size HB.out); have NB11_23 := Lib.hid (show gb11 ≠ gb23 by rw [hg_]; exact Nat.ne_of_lt (blk_lt BK11.out)); have NB23_11 := Lib.hid NB11_23.out.symm; replace BK11 := Lib.hid (blk_below BK11.out hb_); have NB16_23 := Lib.hid (show gb16 ≠ gb23 by rw [hg_]; exact Nat.ne_of_lt (blk_lt BK16.out)); have NB23_16 := Lib.hid NB16_23.out.symm; replace BK16 := Lib.hid (blk_below BK16.out hb_); have NB19_23 := Lib.hid (show gb19 ≠ gb23 by rw [hg_]; exact Nat.ne_of_lt (blk_lt BK19.out)); have NB23_19 := Lib.hid NB19_23.out.symm; replace BK19 := Lib.hid (blk_below BK19.out hb_); have BK23 := Lib.hid bk_; replace HB := Lib.hid (below_step HB.out hb_); clear hb_ hg_ bk_; obtain ⟨zc0, zc1, zc2, zc3, zc4, zc5, zf0, zf1, zf2, zf3, zf4, zf5⟩ := cs6 BK23.out))
          clear zc0 zf0 zc1 zf1 zc2 zf2 zc3 zf3 zc4 zf4 zc5 zf5
          obtain ⟨hq1_, hq2_, hs_⟩ := st6_0_6 HB.out GE23.out BK23.out (.int .u8 t1) (.int .i64 t2) (.int .i64 t3) (.int .i64 t4) (.slice F4 t5.length fc4) (.slice F5 t6.length fc5)
          generalize ((((((w16.setCell ⟨gb23, 0, none⟩ (.int .u8 t1)).setCell ⟨gb23, 1, none⟩ (.int .i64 t2)).setCell ⟨gb23, 2, none⟩ (.int .i64 t3)).setCell ⟨gb23, 3, none⟩ (.int .i64 t4)).setCell ⟨gb23, 4, none⟩ (.slice F4 t5.length fc4)).setCell ⟨gb23, 5, none⟩ (.slice F5 t6.length fc5)) = w17 at hs_ hq1_ hq2_ ⊢
          replace BK11 := Lib.hid ((hs_ gb11 NB11_23.out).trans BK11.out)
          replace BK16 := Lib.hid ((hs_ gb16 NB16_23.out).trans BK16.out)
          replace BK19 := Lib.hid ((hs_ gb19 NB19_23.out).trans BK19.out)
          replace BK23 := Lib.hid hq1_
          replace HB := Lib.hid hq2_
          clear hs_ hq1_ hq2_
          obtain ⟨xc0, xc1, xc2, xc3, xc4, xc5, xf0, xf1, xf2, xf3, xf4, xf5⟩ := cs6 BK16.out
          obtain ⟨yc0, yc1, yc2, yc3, yc4, yc5, yf0, yf1, yf2, yf3, yf4, yf5⟩ := cs6 BK19.out
          obtain ⟨tc0, tc1, tc2, tc3, tc4, tc5, tf0, tf1, tf2, tf3, tf4, tf5⟩ := cs6 BK11.out
          obtain ⟨vc0, vc1, vc2, vc3, vc4, vc5, vf0, vf1, vf2, vf3, vf4, vf5⟩ := cs6 BK23.out
          have hnn : (n != n) = false := bne_self_eq_false n
          have htt : (t3 != t3) = false := bne_self_eq_false t3
          go_wp2_with fail
          go_ret
          exact ⟨rfl, HB.out⟩
    have hixb : (x2 == index) = true := beq_iff_eq.mpr hix
    replace hix := Lib.hid hix
    cases y7 with
    | false =>
      obtain rfl := K2.out (by simp [*]) (by simp [*])
      by_cases hkx : x1 = kind
      case neg =>
        have hkxb : (x1 == kind) = false := beq_eq_false_iff_ne.mpr hkx
        replace hkx := Lib.hid hkx
        cases is with
        | false =>
          obtain ⟨pc0, pc1, pc2, pc3, pf0, pf1, pf2, pf3⟩ := cs4 BK4.out
          obtain ⟨qc0, qc1, qf0, qf1⟩ := cs2 BK5.out
          obtain ⟨xc0, xc1, xc2, xc3, xc4, xc5, xf0, xf1, xf2, xf3, xf4, xf5⟩ := cs6 BK16.out
          obtain ⟨yc0, yc1, yc2, yc3, yc4, yc5, yf0, yf1, yf2, yf3, yf4, yf5⟩ := cs6 BK19.out
          obtain ⟨tc0, tc1, tc2, tc3, tc4, tc5, tf0, tf1, tf2, tf3, tf4, tf5⟩ := cs6 BK11.out
          clear K1 K2 K3 G4 G5
          go_wp2_with fail
          go_ret
          exact ⟨rfl, HB.out⟩
        | true =>
          obtain ⟨hf, hx3, hy3⟩ := G5.out (by simp)
          have HF := Lib.hid hf
          clear hf hx3 hy3 K1 K2 K3 G4 G5
          obtain ⟨pc0, pc1, pc2, pc3, pf0, pf1, pf2, pf3⟩ := cs4 BK4.out
          obtain ⟨qc0, qc1, qf0, qf1⟩ := cs2 BK5.out
          obtain ⟨xc0, xc1, xc2, xc3, xc4, xc5, xf0, xf1, xf2, xf3, xf4, xf5⟩ := cs6 BK16.out
          obtain ⟨yc0, yc1, yc2, yc3, yc4, yc5, yf0, yf1, yf2, yf3, yf4, yf5⟩ := cs6 BK19.out
          obtain ⟨tc0, tc1, tc2, tc3, tc4, tc5, tf0, tf1, tf2, tf3, tf4, tf5⟩ := cs6 BK11.out
          go_wp2_with fail
          clear pc0 pf0 pc1 pf1 pc2 pf2 pc3 pf3
          clear qc0 qf0 qc1 qf1
          clear xc0 xf0 xc1 xf1 xc2 xf2 xc3 xf3 xc4 xf4 xc5 xf5
          clear yc0 yf0 yc1 yf1 yc2 yf2 yc3 yf3 yc4 yf4 yc5 yf5
          clear tc0 tf0 tc1 tf1 tc2 tf2 tc3 tf3 tc4 tf4 tc5 tf5
          refine (cell_Find.calls k a0 a1 a2 a3 _ _ l0 _ _ l1 kind index t3 n t1 t2 t3 t4 t5 t6 true 0 _ (Kd.C_below HR0.out HB.out) HC0.out (Kd.C_below HR1.out HB.out) HC1.out HF.out).mono ?_
          rintro en w15 ⟨u4, u5, rfl, ho4, ho5, hb⟩
          obtain ⟨F4, fc4, rfl⟩ := Kd.R_slice ho4
          obtain ⟨F5, fc5, rfl⟩ := Kd.R_slice ho5
          clear ho4 ho5
          replace BK11 := Lib.hid (blk_below BK11.out hb)
          replace BK16 := Lib.hid (blk_below BK16.out hb)
          replace BK19 := Lib.hid (blk_below BK19.out hb)
          replace HB := Lib.hid (below_step HB.out hb)
          clear hb
          go_upto_region 23 with (first | ((with_reducible refine gate_dst (N := 23) rfl ?_); refine box_event ?hg (N := 23) ?hd (cs := #[.int .u8 0, .int .i64 0, .int .i64 0, .int .i64 0, .slice none 0 0, .slice none 0 0]) (t := 27) ?hr ?_; (case hd => rfl); (case hg => rfl); (case hr => first | (go_simp; done) | (go_simp; rfl)); intro gb23 hg_ w16 bk_ hb_; have GE23 := Lib.hid (show w.heap.size ≤ gb23 by rw [hg_]; exact below_size HB.out); have NB11_23 := Lib.hid (show gb11 ≠ gb23 by rw [hg_]; exact Nat.ne_of_lt (blk_lt BK11.out)); have NB23_11 := Lib.hid NB11_23.out.symm; replace BK11 := Lib.hid (blk_below BK11.out hb_); have NB16_23 := Lib.hid (show gb16 ≠ gb23 by rw [hg_]; exact Nat.ne_of_lt (blk_lt BK16.out)); have NB23_16 := Lib.hid NB16_23.out.symm; replace BK16 := Lib.hid (blk_below BK16.out hb_); have NB19_23 := Lib.hid (show gb19 ≠ gb23 by rw [hg_]; exact Nat.ne_of_lt (blk_lt BK19.out)); have NB23_19 := Lib.hid NB19_23.out.symm; replace BK19 := Lib.hid (blk_below BK19.out hb_); have BK23 := Lib.hid bk_; replace HB := Lib.hid (below_step HB.out hb_); clear hb_ hg_ bk_; obtain ⟨zc0, zc1, zc2, zc3, zc4, zc5, zf0, zf1, zf2, zf3, zf4, zf5⟩ := cs6 BK23.out))
          clear zc0 zf0 zc1 zf1 zc2 zf2 zc3 zf3 zc4 zf4 zc5 zf5
          obtain ⟨hq1_, hq2_, hs_⟩ := st6_0_6 HB.out GE23.out BK23.out (.int .u8 t1) (.int .i64 t2) (.int .i64 t3) (.int .i64 t4) (.slice F4 t5.length fc4) (.slice F5 t6.length fc5)
          generalize ((((((w16.setCell ⟨gb23, 0, none⟩ (.int .u8 t1)).setCell ⟨gb23, 1, none⟩ (.int .i64 t2)).setCell ⟨gb23, 2, none⟩ (.int .i64 t3)).setCell ⟨gb23, 3, none⟩ (.int .i64 t4)).setCell ⟨gb23, 4, none⟩ (.slice F4 t5.length fc4)).setCell ⟨gb23, 5, none⟩ (.slice F5 t6.length fc5)) = w17 at hs_ hq1_ hq2_ ⊢
          replace BK11 := Lib.hid ((hs_ gb11 NB11_23.out).trans BK11.out)
          replace BK16 := Lib.hid ((hs_ gb16 NB16_23.out).trans BK16.out)
          replace BK19 := Lib.hid ((hs_ gb19 NB19_23.out).trans BK19.out)
          replace BK23 := Lib.hid hq1_
          replace HB := Lib.hid hq2_
          clear hs_ hq1_ hq2_
          obtain ⟨xc0, xc1, xc2, xc3, xc4, xc5, xf0, xf1, xf2, xf3, xf4, xf5⟩ := cs6 BK16.out
          obtain ⟨yc0, yc1, yc2, yc3, yc4, yc5, yf0, yf1, yf2, yf3, yf4, yf5⟩ := cs6 BK19.out
          obtain ⟨tc0, tc1, tc2, tc3, tc4, tc5, tf0, tf1, tf2, tf3, tf4, tf5⟩ := cs6 BK11.out
          obtain ⟨vc0, vc1, vc2, vc3, vc4, vc5, vf0, vf1, vf2, vf3, vf4, vf5⟩ := cs6 BK23.out
          have hnn : (n != n) = false := bne_self_eq_false n
          have htt : (t3 != t3) = false := bne_self_eq_false t3
          go_wp2_with fail
          go_ret
          exact ⟨rfl, HB.out⟩
      have hkxb : (x1 == kind) = true := beq_iff_eq.mpr hkx
      replace hkx := Lib.hid hkx
      cases is with
      | false =>
        exact absurd ⟨by simp [*], hkx.out⟩ (G4.out (by simp)).1
      | true =>
        obtain ⟨hf, hx3, hy3⟩ := G5.out (by simp)
        have HF := Lib.hid hf
        have hx4 : decide (x3 ≤ t3) = true := decide_eq_true (hx3 (by simp [*]) hkx.out)
        clear hf hx3 hy3 K1 K2 K3 G4 G5
        obtain ⟨pc0, pc1, pc2, pc3, pf0, pf1, pf2, pf3⟩ := cs4 BK4.out
        obtain ⟨qc0, qc1, qf0, qf1⟩ := cs2 BK5.out
        obtain ⟨xc0, xc1, xc2, xc3, xc4, xc5, xf0, xf1, xf2, xf3, xf4, xf5⟩ := cs6 BK16.out
        obtain ⟨yc0, yc1, yc2, yc3, yc4, yc5, yf0, yf1, yf2, yf3, yf4, yf5⟩ := cs6 BK19.out
        obtain ⟨tc0, tc1, tc2, tc3, tc4, tc5, tf0, tf1, tf2, tf3, tf4, tf5⟩ := cs6 BK11.out
        go_wp2_with fail
        clear pc0 pf0 pc1 pf1 pc2 pf2 pc3 pf3
        clear qc0 qf0 qc1 qf1
        clear xc0 xf0 xc1 xf1 xc2 xf2 xc3 xf3 xc4 xf4 xc5 xf5
        clear yc0 yf0 yc1 yf1 yc2 yf2 yc3 yf3 yc4 yf4 yc5 yf5
        clear tc0 tf0 tc1 tf1 tc2 tf2 tc3 tf3 tc4 tf4 tc5 tf5
        refine (cell_Find.calls k a0 a1 a2 a3 _ _ l0 _ _ l1 kind index t3 n t1 t2 t3 t4 t5 t6 true 0 _ (Kd.C_below HR0.out HB.out) HC0.out (Kd.C_below HR1.out HB.out) HC1.out HF.out).mono ?_
        rintro en w15 ⟨u4, u5, rfl, ho4, ho5, hb⟩
        obtain ⟨F4, fc4, rfl⟩ := Kd.R_slice ho4
        obtain ⟨F5, fc5, rfl⟩ := Kd.R_slice ho5
        clear ho4 ho5
        replace BK11 := Lib.hid (blk_below BK11.out hb)
        replace BK16 := Lib.hid (blk_below BK16.out hb)
        replace BK19 := Lib.hid (blk_below BK19.out hb)
        replace HB := Lib.hid (below_step HB.out hb)
        clear hb
        go_upto_region 23 with (first | ((with_reducible refine gate_dst (N := 23) rfl ?_); refine box_event ?hg (N := 23) ?hd (cs := #[.int .u8 0, .int .i64 0, .int .i64 0, .int .i64 0, .slice none 0 0, .slice none 0 0]) (t := 27) ?hr ?_; (case hd => rfl); (case hg => rfl); (case hr => first | (go_simp; done) | (go_simp; rfl)); intro gb23 hg_ w16 bk_ hb_; have GE23 := Lib.hid (show w.heap.size ≤ gb23 by rw [hg_]; exact below_size HB.out); have NB11_23 := Lib.hid (show gb11 ≠ gb23 by rw [hg_]; exact Nat.ne_of_lt (blk_lt BK11.out)); have NB23_11 := Lib.hid NB11_23.out.symm; replace BK11 := Lib.hid (blk_below BK11.out hb_); have NB16_23 := Lib.hid (show gb16 ≠ gb23 by rw [hg_]; exact Nat.ne_of_lt (blk_lt BK16.out)); have NB23_16 := Lib.hid NB16_23.out.symm; replace BK16 := Lib.hid (blk_below BK16.out hb_); have NB19_23 := Lib.hid (show gb19 ≠ gb23 by rw [hg_]; exact Nat.ne_of_lt (blk_lt BK19.out)); have NB23_19 := Lib.hid NB19_23.out.symm; replace BK19 := Lib.hid (blk_below BK19.out hb_); have BK23 := Lib.hid bk_; replace HB := Lib.hid (below_step HB.out hb_); clear hb_ hg_ bk_; obtain ⟨zc0, zc1, zc2, zc3, zc4, zc5, zf0, zf1, zf2, zf3, zf4, zf5⟩ := cs6 BK23.out))
        clear zc0 zf0 zc1 zf1 zc2 zf2 zc3 zf3 zc4 zf4 zc5 zf5
        obtain ⟨hq1_, hq2_, hs_⟩ := st6_0_6 HB.out GE23.out BK23.out (.int .u8 t1) (.int .i64 t2) (.int .i64 t3) (.int .i64 t4) (.slice F4 t5.length fc4) (.slice F5 t6.length fc5)
        generalize ((((((w16.setCell ⟨gb23, 0, none⟩ (.int .u8 t1)).setCell ⟨gb23, 1, none⟩ (.int .i64 t2)).setCell ⟨gb23, 2, none⟩ (.int .i64 t3)).setCell ⟨gb23, 3, none⟩ (.int .i64 t4)).setCell ⟨gb23, 4, none⟩ (.slice F4 t5.length fc4)).setCell ⟨gb23, 5, none⟩ (.slice F5 t6.length fc5)) = w17 at hs_ hq1_ hq2_ ⊢
        replace BK11 := Lib.hid ((hs_ gb11 NB11_23.out).trans BK11.out)
        replace BK16 := Lib.hid ((hs_ gb16 NB16_23.out).trans BK16.out)
        replace BK19 := Lib.hid ((hs_ gb19 NB19_23.out).trans BK19.out)
        replace BK23 := Lib.hid hq1_
        replace HB := Lib.hid hq2_
        clear hs_ hq1_ hq2_
        obtain ⟨xc0, xc1, xc2, xc3, xc4, xc5, xf0, xf1, xf2, xf3, xf4, xf5⟩ := cs6 BK16.out
        obtain ⟨yc0, yc1, yc2, yc3, yc4, yc5, yf0, yf1, yf2, yf3, yf4, yf5⟩ := cs6 BK19.out
        obtain ⟨tc0, tc1, tc2, tc3, tc4, tc5, tf0, tf1, tf2, tf3, tf4, tf5⟩ := cs6 BK11.out
        obtain ⟨vc0, vc1, vc2, vc3, vc4, vc5, vf0, vf1, vf2, vf3, vf4, vf5⟩ := cs6 BK23.out
        have hnn : (n != n) = false := bne_self_eq_false n
        have htt : (t3 != t3) = false := bne_self_eq_false t3
        go_wp2_with fail
        go_ret
        exact ⟨rfl, HB.out⟩
    | true =>
      by_cases hiy : y2 = index
      case neg =>
        have hiyb : (y2 == index) = false := beq_eq_false_iff_ne.mpr hiy
        replace hiy := Lib.hid hiy
        obtain rfl := K2.out (by simp [*]) (by simp [*])
        by_cases hkx : x1 = kind
        case neg =>
          have hkxb : (x1 == kind) = false := beq_eq_false_iff_ne.mpr hkx
          replace hkx := Lib.hid hkx
          cases is with
          | false =>
            obtain ⟨pc0, pc1, pc2, pc3, pf0, pf1, pf2, pf3⟩ := cs4 BK4.out
            obtain ⟨qc0, qc1, qf0, qf1⟩ := cs2 BK5.out
            obtain ⟨xc0, xc1, xc2, xc3, xc4, xc5, xf0, xf1, xf2, xf3, xf4, xf5⟩ := cs6 BK16.out
            obtain ⟨yc0, yc1, yc2, yc3, yc4, yc5, yf0, yf1, yf2, yf3, yf4, yf5⟩ := cs6 BK19.out
            obtain ⟨tc0, tc1, tc2, tc3, tc4, tc5, tf0, tf1, tf2, tf3, tf4, tf5⟩ := cs6 BK11.out
            clear K1 K2 K3 G4 G5
            go_wp2_with fail
            go_ret
            exact ⟨rfl, HB.out⟩
          | true =>
            obtain ⟨hf, hx3, hy3⟩ := G5.out (by simp)
            have HF := Lib.hid hf
            clear hf hx3 hy3 K1 K2 K3 G4 G5
            obtain ⟨pc0, pc1, pc2, pc3, pf0, pf1, pf2, pf3⟩ := cs4 BK4.out
            obtain ⟨qc0, qc1, qf0, qf1⟩ := cs2 BK5.out
            obtain ⟨xc0, xc1, xc2, xc3, xc4, xc5, xf0, xf1, xf2, xf3, xf4, xf5⟩ := cs6 BK16.out
            obtain ⟨yc0, yc1, yc2, yc3, yc4, yc5, yf0, yf1, yf2, yf3, yf4, yf5⟩ := cs6 BK19.out
            obtain ⟨tc0, tc1, tc2, tc3, tc4, tc5, tf0, tf1, tf2, tf3, tf4, tf5⟩ := cs6 BK11.out
            go_wp2_with fail
            clear pc0 pf0 pc1 pf1 pc2 pf2 pc3 pf3
            clear qc0 qf0 qc1 qf1
            clear xc0 xf0 xc1 xf1 xc2 xf2 xc3 xf3 xc4 xf4 xc5 xf5
            clear yc0 yf0 yc1 yf1 yc2 yf2 yc3 yf3 yc4 yf4 yc5 yf5
            clear tc0 tf0 tc1 tf1 tc2 tf2 tc3 tf3 tc4 tf4 tc5 tf5
            refine (cell_Find.calls k a0 a1 a2 a3 _ _ l0 _ _ l1 kind index t3 n t1 t2 t3 t4 t5 t6 true 0 _ (Kd.C_below HR0.out HB.out) HC0.out (Kd.C_below HR1.out HB.out) HC1.out HF.out).mono ?_
            rintro en w15 ⟨u4, u5, rfl, ho4, ho5, hb⟩
            obtain ⟨F4, fc4, rfl⟩ := Kd.R_slice ho4
            obtain ⟨F5, fc5, rfl⟩ := Kd.R_slice ho5
            clear ho4 ho5
            replace BK11 := Lib.hid (blk_below BK11.out hb)
            replace BK16 := Lib.hid (blk_below BK16.out hb)
            replace BK19 := Lib.hid (blk_below BK19.out hb)
            replace HB := Lib.hid (below_step HB.out hb)
            clear hb
            go_upto_region 23 with (first | ((with_reducible refine gate_dst (N := 23) rfl ?_); refine box_event ?hg (N := 23) ?hd (cs := #[.int .u8 0, .int .i64 0, .int .i64 0, .int .i64 0, .slice none 0 0, .slice none 0 0]) (t := 27) ?hr ?_; (case hd => rfl); (case hg => rfl); (case hr => first | (go_simp; done) | (go_simp; rfl)); intro gb23 hg_ w16 bk_ hb_; have GE23 := Lib.hid (show w.heap.size ≤ gb23 by rw [hg_]; exact below_size HB.out); have NB11_23 := Lib.hid (show gb11 ≠ gb23 by rw [hg_]; exact Nat.ne_of_lt (blk_lt BK11.out)); have NB23_11 := Lib.hid NB11_23.out.symm; replace BK11 := Lib.hid (blk_below BK11.out hb_); have NB16_23 := Lib.hid (show gb16 ≠ gb23 by rw [hg_]; exact Nat.ne_of_lt (blk_lt BK16.out)); have NB23_16 := Lib.hid NB16_23.out.symm; replace BK16 := Lib.hid (blk_below BK16.out hb_); have NB19_23 := Lib.hid (show gb19 ≠ gb23 by rw [hg_]; exact Nat.ne_of_lt (blk_lt BK19.out)); have NB23_19 := Lib.hid NB19_23.out.symm; replace BK19 := Lib.hid (blk_below BK19.out hb_); have BK23 := Lib.hid bk_; replace HB := Lib.hid (below_step HB.out hb_); clear hb_ hg_ bk_; obtain ⟨zc0, zc1, zc2, zc3, zc4, zc5, zf0, zf1, zf2, zf3, zf4, zf5⟩ := cs6 BK23.out))
            clear zc0 zf0 zc1 zf1 zc2 zf2 zc3 zf3 zc4 zf4 zc5 zf5
            obtain ⟨hq1_, hq2_, hs_⟩ := st6_0_6 HB.out GE23.out BK23.out (.int .u8 t1) (.int .i64 t2) (.int .i64 t3) (.int .i64 t4) (.slice F4 t5.length fc4) (.slice F5 t6.length fc5)
            generalize ((((((w16.setCell ⟨gb23, 0, none⟩ (.int .u8 t1)).setCell ⟨gb23, 1, none⟩ (.int .i64 t2)).setCell ⟨gb23, 2, none⟩ (.int .i64 t3)).setCell ⟨gb23, 3, none⟩ (.int .i64 t4)).setCell ⟨gb23, 4, none⟩ (.slice F4 t5.length fc4)).setCell ⟨gb23, 5, none⟩ (.slice F5 t6.length fc5)) = w17 at hs_ hq1_ hq2_ ⊢
            replace BK11 := Lib.hid ((hs_ gb11 NB11_23.out).trans BK11.out)
            replace BK16 := Lib.hid ((hs_ gb16 NB16_23.out).trans BK16.out)
            replace BK19 := Lib.hid ((hs_ gb19 NB19_23.out).trans BK19.out)
            replace BK23 := Lib.hid hq1_
            replace HB := Lib.hid hq2_
            clear hs_ hq1_ hq2_
            obtain ⟨xc0, xc1, xc2, xc3, xc4, xc5, xf0, xf1, xf2, xf3, xf4, xf5⟩ := cs6 BK16.out
            obtain ⟨yc0, yc1, yc2, yc3, yc4, yc5, yf0, yf1, yf2, yf3, yf4, yf5⟩ := cs6 BK19.out
            obtain ⟨tc0, tc1, tc2, tc3, tc4, tc5, tf0, tf1, tf2, tf3, tf4, tf5⟩ := cs6 BK11.out
            obtain ⟨vc0, vc1, vc2, vc3, vc4, vc5, vf0, vf1, vf2, vf3, vf4, vf5⟩ := cs6 BK23.out
            have hnn : (n != n) = false := bne_self_eq_false n
            have htt : (t3 != t3) = false := bne_self_eq_false t3
            go_wp2_with fail
            go_ret
            exact ⟨rfl, HB.out⟩
        have hkxb : (x1 == kind) = true := beq_iff_eq.mpr hkx
        replace hkx := Lib.hid hkx
        cases is with
        | false =>
          exact absurd ⟨by simp [*], hkx.out⟩ (G4.out (by simp)).1
        | true =>
          obtain ⟨hf, hx3, hy3⟩ := G5.out (by simp)
          have HF := Lib.hid hf
          have hx4 : decide (x3 ≤ t3) = true := decide_eq_true (hx3 (by simp [*]) hkx.out)
          clear hf hx3 hy3 K1 K2 K3 G4 G5
          obtain ⟨pc0, pc1, pc2, pc3, pf0, pf1, pf2, pf3⟩ := cs4 BK4.out
          obtain ⟨qc0, qc1, qf0, qf1⟩ := cs2 BK5.out
          obtain ⟨xc0, xc1, xc2, xc3, xc4, xc5, xf0, xf1, xf2, xf3, xf4, xf5⟩ := cs6 BK16.out
          obtain ⟨yc0, yc1, yc2, yc3, yc4, yc5, yf0, yf1, yf2, yf3, yf4, yf5⟩ := cs6 BK19.out
          obtain ⟨tc0, tc1, tc2, tc3, tc4, tc5, tf0, tf1, tf2, tf3, tf4, tf5⟩ := cs6 BK11.out
          go_wp2_with fail
          clear pc0 pf0 pc1 pf1 pc2 pf2 pc3 pf3
          clear qc0 qf0 qc1 qf1
          clear xc0 xf0 xc1 xf1 xc2 xf2 xc3 xf3 xc4 xf4 xc5 xf5
          clear yc0 yf0 yc1 yf1 yc2 yf2 yc3 yf3 yc4 yf4 yc5 yf5
          clear tc0 tf0 tc1 tf1 tc2 tf2 tc3 tf3 tc4 tf4 tc5 tf5
          refine (cell_Find.calls k a0 a1 a2 a3 _ _ l0 _ _ l1 kind index t3 n t1 t2 t3 t4 t5 t6 true 0 _ (Kd.C_below HR0.out HB.out) HC0.out (Kd.C_below HR1.out HB.out) HC1.out HF.out).mono ?_
          rintro en w15 ⟨u4, u5, rfl, ho4, ho5, hb⟩
          obtain ⟨F4, fc4, rfl⟩ := Kd.R_slice ho4
          obtain ⟨F5, fc5, rfl⟩ := Kd.R_slice ho5
          clear ho4 ho5
          replace BK11 := Lib.hid (blk_below BK11.out hb)
          replace BK16 := Lib.hid (blk_below BK16.out hb)
          replace BK19 := Lib.hid (blk_below BK19.out hb)
          replace HB := Lib.hid (below_step HB.out hb)
          clear hb
          go_upto_region 23 with (first | ((with_reducible refine gate_dst (N := 23) rfl ?_); refine box_event ?hg (N := 23) ?hd (cs := #[.int .u8 0, .int .i64 0, .int .i64 0, .int .i64 0, .slice none 0 0, .slice none 0 0]) (t := 27) ?hr ?_; (case hd => rfl); (case hg => rfl); (case hr => first | (go_simp; done) | (go_simp; rfl)); intro gb23 hg_ w16 bk_ hb_; have GE23 := Lib.hid (show w.heap.size ≤ gb23 by rw [hg_]; exact below_size HB.out); have NB11_23 := Lib.hid (show gb11 ≠ gb23 by rw [hg_]; exact Nat.ne_of_lt (blk_lt BK11.out)); have NB23_11 := Lib.hid NB11_23.out.symm; replace BK11 := Lib.hid (blk_below BK11.out hb_); have NB16_23 := Lib.hid (show gb16 ≠ gb23 by rw [hg_]; exact Nat.ne_of_lt (blk_lt BK16.out)); have NB23_16 := Lib.hid NB16_23.out.symm; replace BK16 := Lib.hid (blk_below BK16.out hb_); have NB19_23 := Lib.hid (show gb19 ≠ gb23 by rw [hg_]; exact Nat.ne_of_lt (blk_lt BK19.out)); have NB23_19 := Lib.hid NB19_23.out.symm; replace BK19 := Lib.hid (blk_below BK19.out hb_); have BK23 := Lib.hid bk_; replace HB := Lib.hid (below_step HB.out hb_); clear hb_ hg_ bk_; obtain ⟨zc0, zc1, zc2, zc3, zc4, zc5, zf0, zf1, zf2, zf3, zf4, zf5⟩ := cs6 BK23.out))
          clear zc0 zf0 zc1 zf1 zc2 zf2 zc3 zf3 zc4 zf4 zc5 zf5
          obtain ⟨hq1_, hq2_, hs_⟩ := st6_0_6 HB.out GE23.out BK23.out (.int .u8 t1) (.int .i64 t2) (.int .i64 t3) (.int .i64 t4) (.slice F4 t5.length fc4) (.slice F5 t6.length fc5)
          generalize ((((((w16.setCell ⟨gb23, 0, none⟩ (.int .u8 t1)).setCell ⟨gb23, 1, none⟩ (.int .i64 t2)).setCell ⟨gb23, 2, none⟩ (.int .i64 t3)).setCell ⟨gb23, 3, none⟩ (.int .i64 t4)).setCell ⟨gb23, 4, none⟩ (.slice F4 t5.length fc4)).setCell ⟨gb23, 5, none⟩ (.slice F5 t6.length fc5)) = w17 at hs_ hq1_ hq2_ ⊢
          replace BK11 := Lib.hid ((hs_ gb11 NB11_23.out).trans BK11.out)
          replace BK16 := Lib.hid ((hs_ gb16 NB16_23.out).trans BK16.out)
          replace BK19 := Lib.hid ((hs_ gb19 NB19_23.out).trans BK19.out)
          replace BK23 := Lib.hid hq1_
          replace HB := Lib.hid hq2_
          clear hs_ hq1_ hq2_
          obtain ⟨xc0, xc1, xc2, xc3, xc4, xc5, xf0, xf1, xf2, xf3, xf4, xf5⟩ := cs6 BK16.out
          obtain ⟨yc0, yc1, yc2, yc3, yc4, yc5, yf0, yf1, yf2, yf3, yf4, yf5⟩ := cs6 BK19.out
          obtain ⟨tc0, tc1, tc2, tc3, tc4, tc5, tf0, tf1, tf2, tf3, tf4, tf5⟩ := cs6 BK11.out
          obtain ⟨vc0, vc1, vc2, vc3, vc4, vc5, vf0, vf1, vf2, vf3, vf4, vf5⟩ := cs6 BK23.out
          have hnn : (n != n) = false := bne_self_eq_false n
          have htt : (t3 != t3) = false := bne_self_eq_false t3
          go_wp2_with fail
          go_ret
          exact ⟨rfl, HB.out⟩
      have hiyb : (y2 == index) = true := beq_iff_eq.mpr hiy
      replace hiy := Lib.hid hiy
      have ho := K3.out (by simp [*]) (by simp [*])
      by_cases hle : x3 ≤ y3
      case pos =>
        rw [if_pos hle] at ho
        subst ho
        have hle1 : decide (x3 ≤ y3) = true := decide_eq_true hle
        replace hle := Lib.hid hle
        by_cases hkx : x1 = kind
        case neg =>
          have hkxb : (x1 == kind) = false := beq_eq_false_iff_ne.mpr hkx
          replace hkx := Lib.hid hkx
          by_cases hky : y1 = kind
          case neg =>
            have hkyb : (y1 == kind) = false := beq_eq_false_iff_ne.mpr hky
            replace hky := Lib.hid hky
            cases is with
            | false =>
              obtain ⟨pc0, pc1, pc2, pc3, pf0, pf1, pf2, pf3⟩ := cs4 BK4.out
              obtain ⟨qc0, qc1, qf0, qf1⟩ := cs2 BK5.out
              obtain ⟨xc0, xc1, xc2, xc3, xc4, xc5, xf0, xf1, xf2, xf3, xf4, xf5⟩ := cs6 BK16.out
              obtain ⟨yc0, yc1, yc2, yc3, yc4, yc5, yf0, yf1, yf2, yf3, yf4, yf5⟩ := cs6 BK19.out
              obtain ⟨tc0, tc1, tc2, tc3, tc4, tc5, tf0, tf1, tf2, tf3, tf4, tf5⟩ := cs6 BK11.out
              clear K1 K2 K3 G4 G5
              go_wp2_with fail
              go_ret
              exact ⟨rfl, HB.out⟩
            | true =>
              obtain ⟨hf, hx3, hy3⟩ := G5.out (by simp)
              have HF := Lib.hid hf
              clear hf hx3 hy3 K1 K2 K3 G4 G5
              obtain ⟨pc0, pc1, pc2, pc3, pf0, pf1, pf2, pf3⟩ := cs4 BK4.out
              obtain ⟨qc0, qc1, qf0, qf1⟩ := cs2 BK5.out
              obtain ⟨xc0, xc1, xc2, xc3, xc4, xc5, xf0, xf1, xf2, xf3, xf4, xf5⟩ := cs6 BK16.out
              obtain ⟨yc0, yc1, yc2, yc3, yc4, yc5, yf0, yf1, yf2, yf3, yf4, yf5⟩ := cs6 BK19.out
              obtain ⟨tc0, tc1, tc2, tc3, tc4, tc5, tf0, tf1, tf2, tf3, tf4, tf5⟩ := cs6 BK11.out
              go_wp2_with fail
              clear pc0 pf0 pc1 pf1 pc2 pf2 pc3 pf3
              clear qc0 qf0 qc1 qf1
              clear xc0 xf0 xc1 xf1 xc2 xf2 xc3 xf3 xc4 xf4 xc5 xf5
              clear yc0 yf0 yc1 yf1 yc2 yf2 yc3 yf3 yc4 yf4 yc5 yf5
              clear tc0 tf0 tc1 tf1 tc2 tf2 tc3 tf3 tc4 tf4 tc5 tf5
              refine (cell_Find.calls k a0 a1 a2 a3 _ _ l0 _ _ l1 kind index t3 n t1 t2 t3 t4 t5 t6 true 0 _ (Kd.C_below HR0.out HB.out) HC0.out (Kd.C_below HR1.out HB.out) HC1.out HF.out).mono ?_
              rintro en w15 ⟨u4, u5, rfl, ho4, ho5, hb⟩
              obtain ⟨F4, fc4, rfl⟩ := Kd.R_slice ho4
              obtain ⟨F5, fc5, rfl⟩ := Kd.R_slice ho5
              clear ho4 ho5
              replace BK11 := Lib.hid (blk_below BK11.out hb)
              replace BK16 := Lib.hid (blk_below BK16.out hb)
              replace BK19 := Lib.hid (blk_below BK19.out hb)
              replace HB := Lib.hid (below_step HB.out hb)
              clear hb
              go_upto_region 23 with (first | ((with_reducible refine gate_dst (N := 23) rfl ?_); refine box_event ?hg (N := 23) ?hd (cs := #[.int .u8 0, .int .i64 0, .int .i64 0, .int .i64 0, .slice none 0 0, .slice none 0 0]) (t := 27) ?hr ?_; (case hd => rfl); (case hg => rfl); (case hr => first | (go_simp; done) | (go_simp; rfl)); intro gb23 hg_ w16 bk_ hb_; have GE23 := Lib.hid (show w.heap.size ≤ gb23 by rw [hg_]; exact below_size HB.out); have NB11_23 := Lib.hid (show gb11 ≠ gb23 by rw [hg_]; exact Nat.ne_of_lt (blk_lt BK11.out)); have NB23_11 := Lib.hid NB11_23.out.symm; replace BK11 := Lib.hid (blk_below BK11.out hb_); have NB16_23 := Lib.hid (show gb16 ≠ gb23 by rw [hg_]; exact Nat.ne_of_lt (blk_lt BK16.out)); have NB23_16 := Lib.hid NB16_23.out.symm; replace BK16 := Lib.hid (blk_below BK16.out hb_); have NB19_23 := Lib.hid (show gb19 ≠ gb23 by rw [hg_]; exact Nat.ne_of_lt (blk_lt BK19.out)); have NB23_19 := Lib.hid NB19_23.out.symm; replace BK19 := Lib.hid (blk_below BK19.out hb_); have BK23 := Lib.hid bk_; replace HB := Lib.hid (below_step HB.out hb_); clear hb_ hg_ bk_; obtain ⟨zc0, zc1, zc2, zc3, zc4, zc5, zf0, zf1, zf2, zf3, zf4, zf5⟩ := cs6 BK23.out))
              clear zc0 zf0 zc1 zf1 zc2 zf2 zc3 zf3 zc4 zf4 zc5 zf5
              obtain ⟨hq1_, hq2_, hs_⟩ := st6_0_6 HB.out GE23.out BK23.out (.int .u8 t1) (.int .i64 t2) (.int .i64 t3) (.int .i64 t4) (.slice F4 t5.length fc4) (.slice F5 t6.length fc5)
              generalize ((((((w16.setCell ⟨gb23, 0, none⟩ (.int .u8 t1)).setCell ⟨gb23, 1, none⟩ (.int .i64 t2)).setCell ⟨gb23, 2, none⟩ (.int .i64 t3)).setCell ⟨gb23, 3, none⟩ (.int .i64 t4)).setCell ⟨gb23, 4, none⟩ (.slice F4 t5.length fc4)).setCell ⟨gb23, 5, none⟩ (.slice F5 t6.length fc5)) = w17 at hs_ hq1_ hq2_ ⊢
              replace BK11 := Lib.hid ((hs_ gb11 NB11_23.out).trans BK11.out)
              replace BK16 := Lib.hid ((hs_ gb16 NB16_23.out).trans BK16.out)
              replace BK19 := Lib.hid ((hs_ gb19 NB19_23.out).trans BK19.out)
              replace BK23 := Lib.hid hq1_
              replace HB := Lib.hid hq2_
              clear hs_ hq1_ hq2_
              obtain ⟨xc0, xc1, xc2, xc3, xc4, xc5, xf0, xf1, xf2, xf3, xf4, xf5⟩ := cs6 BK16.out
              obtain ⟨yc0, yc1, yc2, yc3, yc4, yc5, yf0, yf1, yf2, yf3, yf4, yf5⟩ := cs6 BK19.out
              obtain ⟨tc0, tc1, tc2, tc3, tc4, tc5, tf0, tf1, tf2, tf3, tf4, tf5⟩ := cs6 BK11.out
              obtain ⟨vc0, vc1, vc2, vc3, vc4, vc5, vf0, vf1, vf2, vf3, vf4, vf5⟩ := cs6 BK23.out
              have hnn : (n != n) = false := bne_self_eq_false n
              have htt : (t3 != t3) = false := bne_self_eq_false t3
              go_wp2_with fail
              go_ret
              exact ⟨rfl, HB.out⟩
          have hkyb : (y1 == kind) = true := beq_iff_eq.mpr hky
          replace hky := Lib.hid hky
          cases is with
          | false =>
            exact absurd ⟨by simp [*], hky.out⟩ (G4.out (by simp)).2
          | true =>
            obtain ⟨hf, hx3, hy3⟩ := G5.out (by simp)
            have HF := Lib.hid hf
            have hy4 : decide (y3 ≤ t3) = true := decide_eq_true (hy3 (by simp [*]) hky.out)
            clear hf hx3 hy3 K1 K2 K3 G4 G5
            obtain ⟨pc0, pc1, pc2, pc3, pf0, pf1, pf2, pf3⟩ := cs4 BK4.out
            obtain ⟨qc0, qc1, qf0, qf1⟩ := cs2 BK5.out
            obtain ⟨xc0, xc1, xc2, xc3, xc4, xc5, xf0, xf1, xf2, xf3, xf4, xf5⟩ := cs6 BK16.out
            obtain ⟨yc0, yc1, yc2, yc3, yc4, yc5, yf0, yf1, yf2, yf3, yf4, yf5⟩ := cs6 BK19.out
            obtain ⟨tc0, tc1, tc2, tc3, tc4, tc5, tf0, tf1, tf2, tf3, tf4, tf5⟩ := cs6 BK11.out
            go_wp2_with fail
            clear pc0 pf0 pc1 pf1 pc2 pf2 pc3 pf3
            clear qc0 qf0 qc1 qf1
            clear xc0 xf0 xc1 xf1 xc2 xf2 xc3 xf3 xc4 xf4 xc5 xf5
            clear yc0 yf0 yc1 yf1 yc2 yf2 yc3 yf3 yc4 yf4 yc5 yf5
            clear tc0 tf0 tc1 tf1 tc2 tf2 tc3 tf3 tc4 tf4 tc5 tf5
            refine (cell_Find.calls k a0 a1 a2 a3 _ _ l0 _ _ l1 kind index t3 n t1 t2 t3 t4 t5 t6 true 0 _ (Kd.C_below HR0.out HB.out) HC0.out (Kd.C_below HR1.out HB.out) HC1.out HF.out).mono ?_
            rintro en w15 ⟨u4, u5, rfl, ho4, ho5, hb⟩
            obtain ⟨F4, fc4, rfl⟩ := Kd.R_slice ho4
            obtain ⟨F5, fc5, rfl⟩ := Kd.R_slice ho5
            clear ho4 ho5
            replace BK11 := Lib.hid (blk_below BK11.out hb)
            replace BK16 := Lib.hid (blk_below BK16.out hb)
            replace BK19 := Lib.hid (blk_below BK19.out hb)
            replace HB := Lib.hid (below_step HB.out hb)
            clear hb
            go_upto_region 23 with (first | ((with_reducible refine gate_dst (N := 23) rfl ?_); refine box_event ?hg (N := 23) ?hd (cs := #[.int .u8 0, .int .i64 0, .int .i64 0, .int .i64 0, .slice none 0 0, .slice none 0 0]) (t := 27) ?hr ?_; (case hd => rfl); (case hg => rfl); (case hr => first | (go_simp; done) | (go_simp; rfl)); intro gb23 hg_ w16 bk_ hb_; have GE23 := Lib.hid (show w.heap.size ≤ gb23 by rw [hg_]; exact below_size HB.out); have NB11_23 := Lib.hid (show gb11 ≠ gb23 by rw [hg_]; exact Nat.ne_of_lt (blk_lt BK11.out)); have NB23_11 := Lib.hid NB11_23.out.symm; replace BK11 := Lib.hid (blk_below BK11.out hb_); have NB16_23 := Lib.hid (show gb16 ≠ gb23 by rw [hg_]; exact Nat.ne_of_lt (blk_lt BK16.out)); have NB23_16 := Lib.hid NB16_23.out.symm; replace BK16 := Lib.hid (blk_below BK16.out hb_); have NB19_23 := Lib.hid (show gb19 ≠ gb23 by rw [hg_]; exact Nat.ne_of_lt (blk_lt BK19.out)); have NB23_19 := Lib.hid NB19_23.out.symm; replace BK19 := Lib.hid (blk_below BK19.out hb_); have BK23 := Lib.hid bk_; replace HB := Lib.hid (below_step HB.out hb_); clear hb_ hg_ bk_; obtain ⟨zc0, zc1, zc2, zc3, zc4, zc5, zf0, zf1, zf2, zf3, zf4, zf5⟩ := cs6 BK23.out))
            clear zc0 zf0 zc1 zf1 zc2 zf2 zc3 zf3 zc4 zf4 zc5 zf5
            obtain ⟨hq1_, hq2_, hs_⟩ := st6_0_6 HB.out GE23.out BK23.out (.int .u8 t1) (.int .i64 t2) (.int .i64 t3) (.int .i64 t4) (.slice F4 t5.length fc4) (.slice F5 t6.length fc5)
            generalize ((((((w16.setCell ⟨gb23, 0, none⟩ (.int .u8 t1)).setCell ⟨gb23, 1, none⟩ (.int .i64 t2)).setCell ⟨gb23, 2, none⟩ (.int .i64 t3)).setCell ⟨gb23, 3, none⟩ (.int .i64 t4)).setCell ⟨gb23, 4, none⟩ (.slice F4 t5.length fc4)).setCell ⟨gb23, 5, none⟩ (.slice F5 t6.length fc5)) = w17 at hs_ hq1_ hq2_ ⊢
            replace BK11 := Lib.hid ((hs_ gb11 NB11_23.out).trans BK11.out)
            replace BK16 := Lib.hid ((hs_ gb16 NB16_23.out).trans BK16.out)
            replace BK19 := Lib.hid ((hs_ gb19 NB19_23.out).trans BK19.out)
            replace BK23 := Lib.hid hq1_
            replace HB := Lib.hid hq2_
            clear hs_ hq1_ hq2_
            obtain ⟨xc0, xc1, xc2, xc3, xc4, xc5, xf0, xf1, xf2, xf3, xf4, xf5⟩ := cs6 BK16.out
            obtain ⟨yc0, yc1, yc2, yc3, yc4, yc5, yf0, yf1, yf2, yf3, yf4, yf5⟩ := cs6 BK19.out
            obtain ⟨tc0, tc1, tc2, tc3, tc4, tc5, tf0, tf1, tf2, tf3, tf4, tf5⟩ := cs6 BK11.out
            obtain ⟨vc0, vc1, vc2, vc3, vc4, vc5, vf0, vf1, vf2, vf3, vf4, vf5⟩ := cs6 BK23.out
            have hnn : (n != n) = false := bne_self_eq_false n
            have htt : (t3 != t3) = false := bne_self_eq_false t3
            go_wp2_with fail
            go_ret
            exact ⟨rfl, HB.out⟩
        have hkxb : (x1 == kind) = true := beq_iff_eq.mpr hkx
        replace hkx := Lib.hid hkx
        by_cases hky : y1 = kind
        case neg =>
          have hkyb : (y1 == kind) = false := beq_eq_false_iff_ne.mpr hky
          replace hky := Lib.hid hky
          cases is with
          | false =>
            exact absurd ⟨by simp [*], hkx.out⟩ (G4.out (by simp)).1
          | true =>
            obtain ⟨hf, hx3, hy3⟩ := G5.out (by simp)
            have HF := Lib.hid hf
            have hx4 : decide (x3 ≤ t3) = true := decide_eq_true (hx3 (by simp [*]) hkx.out)
            clear hf hx3 hy3 K1 K2 K3 G4 G5
            obtain ⟨pc0, pc1, pc2, pc3, pf0, pf1, pf2, pf3⟩ := cs4 BK4.out
            obtain ⟨qc0, qc1, qf0, qf1⟩ := cs2 BK5.out
            obtain ⟨xc0, xc1, xc2, xc3, xc4, xc5, xf0, xf1, xf2, xf3, xf4, xf5⟩ := cs6 BK16.out
            obtain ⟨yc0, yc1, yc2, yc3, yc4, yc5, yf0, yf1, yf2, yf3, yf4, yf5⟩ := cs6 BK19.out
            obtain ⟨tc0, tc1, tc2, tc3, tc4, tc5, tf0, tf1, tf2, tf3, tf4, tf5⟩ := cs6 BK11.out
            go_wp2_with fail
            clear pc0 pf0 pc1 pf1 pc2 pf2 pc3 pf3
            clear qc0 qf0 qc1 qf1
            clear xc0 xf0 xc1 xf1 xc2 xf2 xc3 xf3 xc4 xf4 xc5 xf5
            clear yc0 yf0 yc1 yf1 yc2 yf2 yc3 yf3 yc4 yf4 yc5 yf5
            clear tc0 tf0 tc1 tf1 tc2 tf2 tc3 tf3 tc4 tf4 tc5 tf5
            refine (cell_Find.calls k a0 a1 a2 a3 _ _ l0 _ _ l1 kind index t3 n t1 t2 t3 t4 t5 t6 true 0 _ (Kd.C_below HR0.out HB.out) HC0.out (Kd.C_below HR1.out HB.out) HC1.out HF.out).mono ?_
            rintro en w15 ⟨u4, u5, rfl, ho4, ho5, hb⟩
            obtain ⟨F4, fc4, rfl⟩ := Kd.R_slice ho4
            obtain ⟨F5, fc5, rfl⟩ := Kd.R_slice ho5
            clear ho4 ho5
            replace BK11 := Lib.hid (blk_below BK11.out hb)
            replace BK16 := Lib.hid (blk_below BK16.out hb)
            replace BK19 := Lib.hid (blk_below BK19.out hb)
            replace HB := Lib.hid (below_step HB.out hb)
            clear hb
            go_upto_region 23 with (first | ((with_reducible refine gate_dst (N := 23) rfl ?_); refine box_event ?hg (N := 23) ?hd (cs := #[.int .u8 0, .int .i64 0, .int .i64 0, .int .i64 0, .slice none 0 0, .slice none 0 0]) (t := 27) ?hr ?_; (case hd => rfl); (case hg => rfl); (case hr => first | (go_simp; done) | (go_simp; rfl)); intro gb23 hg_ w16 bk_ hb_; have GE23 := Lib.hid (show w.heap.size ≤ gb23 by rw [hg_]; exact below_size HB.out); have NB11_23 := Lib.hid (show gb11 ≠ gb23 by rw [hg_]; exact Nat.ne_of_lt (blk_lt BK11.out)); have NB23_11 := Lib.hid NB11_23.out.symm; replace BK11 := Lib.hid (blk_below BK11.out hb_); have NB16_23 := Lib.hid (show gb16 ≠ gb23 by rw [hg_]; exact Nat.ne_of_lt (blk_lt BK16.out)); have NB23_16 := Lib.hid NB16_23.out.symm; replace BK16 := Lib.hid (blk_below BK16.out hb_); have NB19_23 := Lib.hid (show gb19 ≠ gb23 by rw [hg_]; exact Nat.ne_of_lt (blk_lt BK19.out)); have NB23_19 := Lib.hid NB19_23.out.symm; replace BK19 := Lib.hid (blk_below BK19.out hb_); have BK23 := Lib.hid bk_; replace HB := Lib.hid (below_step HB.out hb_); clear hb_ hg_ bk_; obtain ⟨zc0, zc1, zc2, zc3, zc4, zc5, zf0, zf1, zf2, zf3, zf4, zf5⟩ := cs6 BK23.out))
            clear zc0 zf0 zc1 zf1 zc2 zf2 zc3 zf3 zc4 zf4 zc5 zf5
            obtain ⟨hq1_, hq2_, hs_⟩ := st6_0_6 HB.out GE23.out BK23.out (.int .u8 t1) (.int .i64 t2) (.int .i64 t3) (.int .i64 t4) (.slice F4 t5.length fc4) (.slice F5 t6.length fc5)
            generalize ((((((w16.setCell ⟨gb23, 0, none⟩ (.int .u8 t1)).setCell ⟨gb23, 1, none⟩ (.int .i64 t2)).setCell ⟨gb23, 2, none⟩ (.int .i64 t3)).setCell ⟨gb23, 3, none⟩ (.int .i64 t4)).setCell ⟨gb23, 4, none⟩ (.slice F4 t5.length fc4)).setCell ⟨gb23, 5, none⟩ (.slice F5 t6.length fc5)) = w17 at hs_ hq1_ hq2_ ⊢
            replace BK11 := Lib.hid ((hs_ gb11 NB11_23.out).trans BK11.out)
            replace BK16 := Lib.hid ((hs_ gb16 NB16_23.out).trans BK16.out)
            replace BK19 := Lib.hid ((hs_ gb19 NB19_23.out).trans BK19.out)
            replace BK23 := Lib.hid hq1_
            replace HB := Lib.hid hq2_
            clear hs_ hq1_ hq2_
            obtain ⟨xc0, xc1, xc2, xc3, xc4, xc5, xf0, xf1, xf2, xf3, xf4, xf5⟩ := cs6 BK16.out
            obtain ⟨yc0, yc1, yc2, yc3, yc4, yc5, yf0, yf1, yf2, yf3, yf4, yf5⟩ := cs6 BK19.out
            obtain ⟨tc0, tc1, tc2, tc3, tc4, tc5, tf0, tf1, tf2, tf3, tf4, tf5⟩ := cs6 BK11.out
            obtain ⟨vc0, vc1, vc2, vc3, vc4, vc5, vf0, vf1, vf2, vf3, vf4, vf5⟩ := cs6 BK23.out
            have hnn : (n != n) = false := bne_self_eq_false n
            have htt : (t3 != t3) = false := bne_self_eq_false t3
            go_wp2_with fail
            go_ret
            exact ⟨rfl, HB.out⟩
        have hkyb : (y1 == kind) = true := beq_iff_eq.mpr hky
        replace hky := Lib.hid hky
        cases is with
        | false =>
          exact absurd ⟨by simp [*], hkx.out⟩ (G4.out (by simp)).1
        | true =>
          obtain ⟨hf, hx3, hy3⟩ := G5.out (by simp)
          have HF := Lib.hid hf
          have hx4 : decide (x3 ≤ t3) = true := decide_eq_true (hx3 (by simp [*]) hkx.out)
          have hy4 : decide (y3 ≤ t3) = true := decide_eq_true (hy3 (by simp [*]) hky.out)
          clear hf hx3 hy3 K1 K2 K3 G4 G5
          obtain ⟨pc0, pc1, pc2, pc3, pf0, pf1, pf2, pf3⟩ := cs4 BK4.out
          obtain ⟨qc0, qc1, qf0, qf1⟩ := cs2 BK5.out
          obtain ⟨xc0, xc1, xc2, xc3, xc4, xc5, xf0, xf1, xf2, xf3, xf4, xf5⟩ := cs6 BK16.out
          obtain ⟨yc0, yc1, yc2, yc3, yc4, yc5, yf0, yf1, yf2, yf3, yf4, yf5⟩ := cs6 BK19.out
          obtain ⟨tc0, tc1, tc2, tc3, tc4, tc5, tf0, tf1, tf2, tf3, tf4, tf5⟩ := cs6 BK11.out
          go_wp2_with fail
          clear pc0 pf0 pc1 pf1 pc2 pf2 pc3 pf3
          clear qc0 qf0 qc1 qf1
          clear xc0 xf0 xc1 xf1 xc2 xf2 xc3 xf3 xc4 xf4 xc5 xf5
          clear yc0 yf0 yc1 yf1 yc2 yf2 yc3 yf3 yc4 yf4 yc5 yf5
          clear tc0 tf0 tc1 tf1 tc2 tf2 tc3 tf3 tc4 tf4 tc5 tf5
          refine (cell_Find.calls k a0 a1 a2 a3 _ _ l0 _ _ l1 kind index t3 n t1 t2 t3 t4 t5 t6 true 0 _ (Kd.C_below HR0.out HB.out) HC0.out (Kd.C_below HR1.out HB.out) HC1.out HF.out).mono ?_
          rintro en w15 ⟨u4, u5, rfl, ho4, ho5, hb⟩
          obtain ⟨F4, fc4, rfl⟩ := Kd.R_slice ho4
          obtain ⟨F5, fc5, rfl⟩ := Kd.R_slice ho5
          clear ho4 ho5
          replace BK11 := Lib.hid (blk_below BK11.out hb)
          replace BK16 := Lib.hid (blk_below BK16.out hb)
          replace BK19 := Lib.hid (blk_below BK19.out hb)
          replace HB := Lib.hid (below_step HB.out hb)
          clear hb
          go_upto_region 23 with (first | ((with_reducible refine gate_dst (N := 23) rfl ?_); refine box_event ?hg (N := 23) ?hd (cs := #[.int .u8 0, .int .i64 0, .int .i64 0, .int .i64 0, .slice none 0 0, .slice none 0 0]) (t := 27) ?hr ?_; (case hd => rfl); (case hg => rfl); (case hr => first | (go_simp; done) | (go_simp; rfl)); intro gb23 hg_ w16 bk_ hb_; have GE23 := Lib.hid (show w.heap.size ≤ gb23 by rw [hg_]; exact below_size HB.out); have NB11_23 := Lib.hid (show gb11 ≠ gb23 by rw [hg_]; exact Nat.ne_of_lt (blk_lt BK11.out)); have NB23_11 := Lib.hid NB11_23.out.symm; replace BK11 := Lib.hid (blk_below BK11.out hb_); have NB16_23 := Lib.hid (show gb16 ≠ gb23 by rw [hg_]; exact Nat.ne_of_lt (blk_lt BK16.out)); have NB23_16 := Lib.hid NB16_23.out.symm; replace BK16 := Lib.hid (blk_below BK16.out hb_); have NB19_23 := Lib.hid (show gb19 ≠ gb23 by rw [hg_]; exact Nat.ne_of_lt (blk_lt BK19.out)); have NB23_19 := Lib.hid NB19_23.out.symm; replace BK19 := Lib.hid (blk_below BK19.out hb_); have BK23 := Lib.hid bk_; replace HB := Lib.hid (below_step HB.out hb_); clear hb_ hg_ bk_; obtain ⟨zc0, zc1, zc2, zc3, zc4, zc5, zf0, zf1, zf2, zf3, zf4, zf5⟩ := cs6 BK23.out))
          clear zc0 zf0 zc1 zf1 zc2 zf2 zc3 zf3 zc4 zf4 zc5 zf5
          obtain ⟨hq1_, hq2_, hs_⟩ := st6_0_6 HB.out GE23.out BK23.out (.int .u8 t1) (.int .i64 t2) (.int .i64 t3) (.int .i64 t4) (.slice F4 t5.length fc4) (.slice F5 t6.length fc5)
          generalize ((((((w16.setCell ⟨gb23, 0, none⟩ (.int .u8 t1)).setCell ⟨gb23, 1, none⟩ (.int .i64 t2)).setCell ⟨gb23, 2, none⟩ (.int .i64 t3)).setCell ⟨gb23, 3, none⟩ (.int .i64 t4)).setCell ⟨gb23, 4, none⟩ (.slice F4 t5.length fc4)).setCell ⟨gb23, 5, none⟩ (.slice F5 t6.length fc5)) = w17 at hs_ hq1_ hq2_ ⊢
          replace BK11 := Lib.hid ((hs_ gb11 NB11_23.out).trans BK11.out)
          replace BK16 := Lib.hid ((hs_ gb16 NB16_23.out).trans BK16.out)
          replace BK19 := Lib.hid ((hs_ gb19 NB19_23.out).trans BK19.out)
          replace BK23 := Lib.hid hq1_
          replace HB := Lib.hid hq2_
          clear hs_ hq1_ hq2_
          obtain ⟨xc0, xc1, xc2, xc3, xc4, xc5, xf0, xf1, xf2, xf3, xf4, xf5⟩ := cs6 BK16.out
          obtain ⟨yc0, yc1, yc2, yc3, yc4, yc5, yf0, yf1, yf2, yf3, yf4, yf5⟩ := cs6 BK19.out
          obtain ⟨tc0, tc1, tc2, tc3, tc4, tc5, tf0, tf1, tf2, tf3, tf4, tf5⟩ := cs6 BK11.out
          obtain ⟨vc0, vc1, vc2, vc3, vc4, vc5, vf0, vf1, vf2, vf3, vf4, vf5⟩ := cs6 BK23.out
          have hnn : (n != n) = false := bne_self_eq_false n
          have htt : (t3 != t3) = false := bne_self_eq_false t3
          go_wp2_with fail
          go_ret
          exact ⟨rfl, HB.out⟩
      rw [if_neg hle] at ho
      subst ho
      have hle1 : decide (x3 ≤ y3) = false := decide_eq_false hle
      replace hle := Lib.hid hle
      by_cases hkx : x1 = kind
      case neg =>
        have hkxb : (x1 == kind) = false := beq_eq_false_iff_ne.mpr hkx
        replace hkx := Lib.hid hkx
        by_cases hky : y1 = kind
        case neg =>
          have hkyb : (y1 == kind) = false := beq_eq_false_iff_ne.mpr hky
          replace hky := Lib.hid hky
          cases is with
          | false =>
            obtain ⟨pc0, pc1, pc2, pc3, pf0, pf1, pf2, pf3⟩ := cs4 BK4.out
            obtain ⟨qc0, qc1, qf0, qf1⟩ := cs2 BK5.out
            obtain ⟨xc0, xc1, xc2, xc3, xc4, xc5, xf0, xf1, xf2, xf3, xf4, xf5⟩ := cs6 BK16.out
            obtain ⟨yc0, yc1, yc2, yc3, yc4, yc5, yf0, yf1, yf2, yf3, yf4, yf5⟩ := cs6 BK19.out
            obtain ⟨tc0, tc1, tc2, tc3, tc4, tc5, tf0, tf1, tf2, tf3, tf4, tf5⟩ := cs6 BK11.out
            clear K1 K2 K3 G4 G5
            go_wp2_with fail
            go_ret
            exact ⟨rfl, HB.out⟩
          | true =>
            obtain ⟨hf, hx3, hy3⟩ := G5.out (by simp)
            have HF := Lib.hid hf
            clear hf hx3 hy3 K1 K2 K3 G4 G5
            obtain ⟨pc0, pc1, pc2, pc3, pf0, pf1, pf2, pf3⟩ := cs4 BK4.out
            obtain ⟨qc0, qc1, qf0, qf1⟩ := cs2 BK5.out
            obtain ⟨xc0, xc1, xc2, xc3, xc4, xc5, xf0, xf1, xf2, xf3, xf4, xf5⟩ := cs6 BK16.out
            obtain ⟨yc0, yc1, yc2, yc3, yc4, yc5, yf0, yf1, yf2, yf3, yf4, yf5⟩ := cs6 BK19.out
            obtain ⟨tc0, tc1, tc2, tc3, tc4, tc5, tf0, tf1, tf2, tf3, tf4, tf5⟩ := cs6 BK11.out
            go_wp2_with fail
            clear pc0 pf0 pc1 pf1 pc2 pf2 pc3 pf3
            clear qc0 qf0 qc1 qf1
            clear xc0 xf0 xc1 xf1 xc2 xf2 xc3 xf3 xc4 xf4 xc5 xf5
            clear yc0 yf0 yc1 yf1 yc2 yf2 yc3 yf3 yc4 yf4 yc5 yf5
            clear tc0 tf0 tc1 tf1 tc2 tf2 tc3 tf3 tc4 tf4 tc5 tf5
            refine (cell_Find.calls k a0 a1 a2 a3 _ _ l0 _ _ l1 kind index t3 n t1 t2 t3 t4 t5 t6 true 0 _ (Kd.C_below HR0.out HB.out) HC0.out (Kd.C_below HR1.out HB.out) HC1.out HF.out).mono ?_
            rintro en w15 ⟨u4, u5, rfl, ho4, ho5, hb⟩
            obtain ⟨F4, fc4, rfl⟩ := Kd.R_slice ho4
            obtain ⟨F5, fc5, rfl⟩ := Kd.R_slice ho5
            clear ho4 ho5
            replace BK11 := Lib.hid (blk_below BK11.out hb)
            replace BK16 := Lib.hid (blk_below BK16.out hb)
            replace BK19 := Lib.hid (blk_below BK19.out hb)
            replace HB := Lib.hid (below_step HB.out hb)
            clear hb
            go_upto_region 23 with (first | ((with_reducible refine gate_dst (N := 23) rfl ?_); refine box_event ?hg (N := 23) ?hd (cs := #[.int .u8 0, .int .i64 0, .int .i64 0, .int .i64 0, .slice none 0 0, .slice none 0 0]) (t := 27) ?hr ?_; (case hd => rfl); (case hg => rfl); (case hr => first | (go_simp; done) | (go_simp; rfl)); intro gb23 hg_ w16 bk_ hb_; have GE23 := Lib.hid (show w.heap.size ≤ gb23 by rw [hg_]; exact below_size HB.out); have NB11_23 := Lib.hid (show gb11 ≠ gb23 by rw [hg_]; exact Nat.ne_of_lt (blk_lt BK11.out)); have NB23_11 := Lib.hid NB11_23.out.symm; replace BK11 := Lib.hid (blk_below BK11.out hb_); have NB16_23 := Lib.hid (show gb16 ≠ gb23 by rw [hg_]; exact Nat.ne_of_lt (blk_lt BK16.out)); have NB23_16 := Lib.hid NB16_23.out.symm; replace BK16 := Lib.hid (blk_below BK16.out hb_); have NB19_23 := Lib.hid (show gb19 ≠ gb23 by rw [hg_]; exact Nat.ne_of_lt (blk_lt BK19.out)); have NB23_19 := Lib.hid NB19_23.out.symm; replace BK19 := Lib.hid (blk_below BK19.out hb_); have BK23 := Lib.hid bk_; replace HB := Lib.hid (below_step HB.out hb_); clear hb_ hg_ bk_; obtain ⟨zc0, zc1, zc2, zc3, zc4, zc5, zf0, zf1, zf2, zf3, zf4, zf5⟩ := cs6 BK23.out))
            clear zc0 zf0 zc1 zf1 zc2 zf2 zc3 zf3 zc4 zf4 zc5 zf5
            obtain ⟨hq1_, hq2_, hs_⟩ := st6_0_6 HB.out GE23.out BK23.out (.int .u8 t1) (.int .i64 t2) (.int .i64 t3) (.int .i64 t4) (.slice F4 t5.length fc4) (.slice F5 t6.length fc5)
            generalize ((((((w16.setCell ⟨gb23, 0, none⟩ (.int .u8 t1)).setCell ⟨gb23, 1, none⟩ (.int .i64 t2)).setCell ⟨gb23, 2, none⟩ (.int .i64 t3)).setCell ⟨gb23, 3, none⟩ (.int .i64 t4)).setCell ⟨gb23, 4, none⟩ (.slice F4 t5.length fc4)).setCell ⟨gb23, 5, none⟩ (.slice F5 t6.length fc5)) = w17 at hs_ hq1_ hq2_ ⊢
            replace BK11 := Lib.hid ((hs_ gb11 NB11_23.out).trans BK11.out)
            replace BK16 := Lib.hid ((hs_ gb16 NB16_23.out).trans BK16.out)
            replace BK19 := Lib.hid ((hs_ gb19 NB19_23.out).trans BK19.out)
            replace BK23 := Lib.hid hq1_
            replace HB := Lib.hid hq2_
            clear hs_ hq1_ hq2_
            obtain ⟨xc0, xc1, xc2, xc3, xc4, xc5, xf0, xf1, xf2, xf3, xf4, xf5⟩ := cs6 BK16.out
            obtain ⟨yc0, yc1, yc2, yc3, yc4, yc5, yf0, yf1, yf2, yf3, yf4, yf5⟩ := cs6 BK19.out
            obtain ⟨tc0, tc1, tc2, tc3, tc4, tc5, tf0, tf1, tf2, tf3, tf4, tf5⟩ := cs6 BK11.out
            obtain ⟨vc0, vc1, vc2, vc3, vc4, vc5, vf0, vf1, vf2, vf3, vf4, vf5⟩ := cs6 BK23.out
            have hnn : (n != n) = false := bne_self_eq_false n
            have htt : (t3 != t3) = false := bne_self_eq_false t3
            go_wp2_with fail
            go_ret
            exact ⟨rfl, HB.out⟩
        have hkyb : (y1 == kind) = true := beq_iff_eq.mpr hky
        replace hky := Lib.hid hky
        cases is with
        | false =>
          exact absurd ⟨by simp [*], hky.out⟩ (G4.out (by simp)).2
        | true =>
          obtain ⟨hf, hx3, hy3⟩ := G5.out (by simp)
          have HF := Lib.hid hf
          have hy4 : decide (y3 ≤ t3) = true := decide_eq_true (hy3 (by simp [*]) hky.out)
          clear hf hx3 hy3 K1 K2 K3 G4 G5
          obtain ⟨pc0, pc1, pc2, pc3, pf0, pf1, pf2, pf3⟩ := cs4 BK4.out
          obtain ⟨qc0, qc1, qf0, qf1⟩ := cs2 BK5.out
          obtain ⟨xc0, xc1, xc2, xc3, xc4, xc5, xf0, xf1, xf2, xf3, xf4, xf5⟩ := cs6 BK16.out
          obtain ⟨yc0, yc1, yc2, yc3, yc4, yc5, yf0, yf1, yf2, yf3, yf4, yf5⟩ := cs6 BK19.out
          obtain ⟨tc0, tc1, tc2, tc3, tc4, tc5, tf0, tf1, tf2, tf3, tf4, tf5⟩ := cs6 BK11.out
          go_wp2_with fail
          clear pc0 pf0 pc1 pf1 pc2 pf2 pc3 pf3
          clear qc0 qf0 qc1 qf1
          clear xc0 xf0 xc1 xf1 xc2 xf2 xc3 xf3 xc4 xf4 xc5 xf5
          clear yc0 yf0 yc1 yf1 yc2 yf2 yc3 yf3 yc4 yf4 yc5 yf5
          clear tc0 tf0 tc1 tf1 tc2 tf2 tc3 tf3 tc4 tf4 tc5 tf5
          refine (cell_Find.calls k a0 a1 a2 a3 _ _ l0 _ _ l1 kind index t3 n t1 t2 t3 t4 t5 t6 true 0 _ (Kd.C_below HR0.out HB.out) HC0.out (Kd.C_below HR1.out HB.out) HC1.out HF.out).mono ?_
          rintro en w15 ⟨u4, u5, rfl, ho4, ho5, hb⟩
          obtain ⟨F4, fc4, rfl⟩ := Kd.R_slice ho4
          obtain ⟨F5, fc5, rfl⟩ := Kd.R_slice ho5
          clear ho4 ho5
          replace BK11 := Lib.hid (blk_below BK11.out hb)
          replace BK16 := Lib.hid (blk_below BK16.out hb)
          replace BK19 := Lib.hid (blk_below BK19.out hb)
          replace HB := Lib.hid (below_step HB.out hb)
          clear hb
          go_upto_region 23 with (first | ((with_reducible refine gate_dst (N := 23) rfl ?_); refine box_event ?hg (N := 23) ?hd (cs := #[.int .u8 0, .int .i64 0, .int .i64 0, .int .i64 0, .slice none 0 0, .slice none 0 0]) (t := 27) ?hr ?_; (case hd => rfl); (case hg => rfl); (case hr => first | (go_simp; done) | (go_simp; rfl)); intro gb23 hg_ w16 bk_ hb_; have GE23 := Lib.hid (show w.heap.size ≤ gb23 by rw [hg_]; exact below_size HB.out); have NB11_23 := Lib.hid (show gb11 ≠ gb23 by rw [hg_]; exact Nat.ne_of_lt (blk_lt BK11.out)); have NB23_11 := Lib.hid NB11_23.out.symm; replace BK11 := Lib.hid (blk_below BK11.out hb_); have NB16_23 := Lib.hid (show gb16 ≠ gb23 by rw [hg_]; exact Nat.ne_of_lt (blk_lt BK16.out)); have NB23_16 := Lib.hid NB16_23.out.symm; replace BK16 := Lib.hid (blk_below BK16.out hb_); have NB19_23 := Lib.hid (show gb19 ≠ gb23 by rw [hg_]; exact Nat.ne_of_lt (blk_lt BK19.out)); have NB23_19 := Lib.hid NB19_23.out.symm; replace BK19 := Lib.hid (blk_below BK19.out hb_); have BK23 := Lib.hid bk_; replace HB := Lib.hid (below_step HB.out hb_); clear hb_ hg_ bk_; obtain ⟨zc0, zc1, zc2, zc3, zc4, zc5, zf0, zf1, zf2, zf3, zf4, zf5⟩ := cs6 BK23.out))
          clear zc0 zf0 zc1 zf1 zc2 zf2 zc3 zf3 zc4 zf4 zc5 zf5
          obtain ⟨hq1_, hq2_, hs_⟩ := st6_0_6 HB.out GE23.out BK23.out (.int .u8 t1) (.int .i64 t2) (.int .i64 t3) (.int .i64 t4) (.slice F4 t5.length fc4) (.slice F5 t6.length fc5)
          generalize ((((((w16.setCell ⟨gb23, 0, none⟩ (.int .u8 t1)).setCell ⟨gb23, 1, none⟩ (.int .i64 t2)).setCell ⟨gb23, 2, none⟩ (.int .i64 t3)).setCell ⟨gb23, 3, none⟩ (.int .i64 t4)).setCell ⟨gb23, 4, none⟩ (.slice F4 t5.length fc4)).setCell ⟨gb23, 5, none⟩ (.slice F5 t6.length fc5)) = w17 at hs_ hq1_ hq2_ ⊢
          replace BK11 := Lib.hid ((hs_ gb11 NB11_23.out).trans BK11.out)
          replace BK16 := Lib.hid ((hs_ gb16 NB16_23.out).trans BK16.out)
          replace BK19 := Lib.hid ((hs_ gb19 NB19_23.out).trans BK19.out)
          replace BK23 := Lib.hid hq1_
          replace HB := Lib.hid hq2_
          clear hs_ hq1_ hq2_
          obtain ⟨xc0, xc1, xc2, xc3, xc4, xc5, xf0, xf1, xf2, xf3, xf4, xf5⟩ := cs6 BK16.out
          obtain ⟨yc0, yc1, yc2, yc3, yc4, yc5, yf0, yf1, yf2, yf3, yf4, yf5⟩ := cs6 BK19.out
          obtain ⟨tc0, tc1, tc2, tc3, tc4, tc5, tf0, tf1, tf2, tf3, tf4, tf5⟩ := cs6 BK11.out
          obtain ⟨vc0, vc1, vc2, vc3, vc4, vc5, vf0, vf1, vf2, vf3, vf4, vf5⟩ := cs6 BK23.out
          have hnn : (n != n) = false := bne_self_eq_false n
          have htt : (t3 != t3) = false := bne_self_eq_false t3
          go_wp2_with fail
          go_ret
          exact ⟨rfl, HB.out⟩
      have hkxb : (x1 == kind) = true := beq_iff_eq.mpr hkx
      replace hkx := Lib.hid hkx
      by_cases hky : y1 = kind
      case neg =>
        have hkyb : (y1 == kind) = false := beq_eq_false_iff_ne.mpr hky
        replace hky := Lib.hid hky
        cases is with
        | false =>
          exact absurd ⟨by simp [*], hkx.out⟩ (G4.out (by simp)).1
        | true =>
          obtain ⟨hf, hx3, hy3⟩ := G5.out (by simp)
          have HF := Lib.hid hf
          have hx4 : decide (x3 ≤ t3) = true := decide_eq_true (hx3 (by simp [*]) hkx.out)
          clear hf hx3 hy3 K1 K2 K3 G4 G5
          obtain ⟨pc0, pc1, pc2, pc3, pf0, pf1, pf2, pf3⟩ := cs4 BK4.out
          obtain ⟨qc0, qc1, qf0, qf1⟩ := cs2 BK5.out
          obtain ⟨xc0, xc1, xc2, xc3, xc4, xc5, xf0, xf1, xf2, xf3, xf4, xf5⟩ := cs6 BK16.out
          obtain ⟨yc0, yc1, yc2, yc3, yc4, yc5, yf0, yf1, yf2, yf3, yf4, yf5⟩ := cs6 BK19.out
          obtain ⟨tc0, tc1, tc2, tc3, tc4, tc5, tf0, tf1, tf2, tf3, tf4, tf5⟩ := cs6 BK11.out
          go_wp2_with fail
          clear pc0 pf0 pc1 pf1 pc2 pf2 pc3 pf3
          clear qc0 qf0 qc1 qf1
          clear xc0 xf0 xc1 xf1 xc2 xf2 xc3 xf3 xc4 xf4 xc5 xf5
          clear yc0 yf0 yc1 yf1 yc2 yf2 yc3 yf3 yc4 yf4 yc5 yf5
          clear tc0 tf0 tc1 tf1 tc2 tf2 tc3 tf3 tc4 tf4 tc5 tf5
          refine (cell_Find.calls k a0 a1 a2 a3 _ _ l0 _ _ l1 kind index t3 n t1 t2 t3 t4 t5 t6 true 0 _ (Kd.C_below HR0.out HB.out) HC0.out (Kd.C_below HR1.out HB.out) HC1.out HF.out).mono ?_
          rintro en w15 ⟨u4, u5, rfl, ho4, ho5, hb⟩
          obtain ⟨F4, fc4, rfl⟩ := Kd.R_slice ho4
          obtain ⟨F5, fc5, rfl⟩ := Kd.R_slice ho5
          clear ho4 ho5
          replace BK11 := Lib.hid (blk_below BK11.out hb)
          replace BK16 := Lib.hid (blk_below BK16.out hb)
          replace BK19 := Lib.hid (blk_below BK19.out hb)
          replace HB := Lib.hid (below_step HB.out hb)
          clear hb
          go_upto_region 23 with (first | ((with_reducible refine gate_dst (N := 23) rfl ?_); refine box_event ?hg (N := 23) ?hd (cs := #[.int .u8 0, .int .i64 0, .int .i64 0, .int .i64 0, .slice none 0 0, .slice none 0 0]) (t := 27) ?hr ?_; (case hd => rfl); (case hg => rfl); (case hr => first | (go_simp; done) | (go_simp; rfl)); intro gb23 hg_ w16 bk_ hb_; have GE23 := Lib.hid (show w.heap.size ≤ gb23 by rw [hg_]; exact below_size HB.out); have NB11_23 := Lib.hid (show gb11 ≠ gb23 by rw [hg_]; exact Nat.ne_of_lt (blk_lt BK11.out)); have NB23_11 := Lib.hid NB11_23.out.symm; replace BK11 := Lib.hid (blk_below BK11.out hb_); have NB16_23 := Lib.hid (show gb16 ≠ gb23 by rw [hg_]; exact Nat.ne_of_lt (blk_lt BK16.out)); have NB23_16 := Lib.hid NB16_23.out.symm; replace BK16 := Lib.hid (blk_below BK16.out hb_); have NB19_23 := Lib.hid (show gb19 ≠ gb23 by rw [hg_]; exact Nat.ne_of_lt (blk_lt BK19.out)); have NB23_19 := Lib.hid NB19_23.out.symm; replace BK19 := Lib.hid (blk_below BK19.out hb_); have BK23 := Lib.hid bk_; replace HB := Lib.hid (below_step HB.out hb_); clear hb_ hg_ bk_; obtain ⟨zc0, zc1, zc2, zc3, zc4, zc5, zf0, zf1, zf2, zf3, zf4, zf5⟩ := cs6 BK23.out))
          clear zc0 zf0 zc1 zf1 zc2 zf2 zc3 zf3 zc4 zf4 zc5 zf5
          obtain ⟨hq1_, hq2_, hs_⟩ := st6_0_6 HB.out GE23.out BK23.out (.int .u8 t1) (.int .i64 t2) (.int .i64 t3) (.int .i64 t4) (.slice F4 t5.length fc4) (.slice F5 t6.length fc5)
          generalize ((((((w16.setCell ⟨gb23, 0, none⟩ (.int .u8 t1)).setCell ⟨gb23, 1, none⟩ (.int .i64 t2)).setCell ⟨gb23, 2, none⟩ (.int .i64 t3)).setCell ⟨gb23, 3, none⟩ (.int .i64 t4)).setCell ⟨gb23, 4, none⟩ (.slice F4 t5.length fc4)).setCell ⟨gb23, 5, none⟩ (.slice F5 t6.length fc5)) = w17 at hs_ hq1_ hq2_ ⊢
          replace BK11 := Lib.hid ((hs_ gb11 NB11_23.out).trans BK11.out)
          replace BK16 := Lib.hid ((hs_ gb16 NB16_23.out).trans BK16.out)
          replace BK19 := Lib.hid ((hs_ gb19 NB19_23.out).trans BK19.out)
          replace BK23 := Lib.hid hq1_
          replace HB := Lib.hid hq2_
          clear hs_ hq1_ hq2_
          obtain ⟨xc0, xc1, xc2, xc3, xc4, xc5, xf0, xf1, xf2, xf3, xf4, xf5⟩ := cs6 BK16.out
          obtain ⟨yc0, yc1, yc2, yc3, yc4, yc5, yf0, yf1, yf2, yf3, yf4, yf5⟩ := cs6 BK19.out
          obtain ⟨tc0, tc1, tc2, tc3, tc4, tc5, tf0, tf1, tf2, tf3, tf4, tf5⟩ := cs6 BK11.out
          obtain ⟨vc0, vc1, vc2, vc3, vc4, vc5, vf0, vf1, vf2, vf3, vf4, vf5⟩ := cs6 BK23.out
          have hnn : (n != n) = false := bne_self_eq_false n
          have htt : (t3 != t3) = false := bne_self_eq_false t3
          go_wp2_with fail
          go_ret
          exact ⟨rfl, HB.out⟩
      have hkyb : (y1 == kind) = true := beq_iff_eq.mpr hky
      replace hky := Lib.hid hky
      cases is with
      | false =>
        exact absurd ⟨by simp [*], hkx.out⟩ (G4.out (by simp)).1
      | true =>
        obtain ⟨hf, hx3, hy3⟩ := G5.out (by simp)
        have HF := Lib.hid hf
        have hx4 : decide (x3 ≤ t3) = true := decide_eq_true (hx3 (by simp [*]) hkx.out)
        have hy4 : decide (y3 ≤ t3) = true := decide_eq_true (hy3 (by simp [*]) hky.out)
        clear hf hx3 hy3 K1 K2 K3 G4 G5
        obtain ⟨pc0, pc1, pc2, pc3, pf0, pf1, pf2, pf3⟩ := cs4 BK4.out
        obtain ⟨qc0, qc1, qf0, qf1⟩ := cs2 BK5.out
        obtain ⟨xc0, xc1, xc2, xc3, xc4, xc5, xf0, xf1, xf2, xf3, xf4, xf5⟩ := cs6 BK16.out
        obtain ⟨yc0, yc1, yc2, yc3, yc4, yc5, yf0, yf1, yf2, yf3, yf4, yf5⟩ := cs6 BK19.out
        obtain ⟨tc0, tc1, tc2, tc3, tc4, tc5, tf0, tf1, tf2, tf3, tf4, tf5⟩ := cs6 BK11.out
        go_wp2_with fail
        clear pc0 pf0 pc1 pf1 pc2 pf2 pc3 pf3
        clear qc0 qf0 qc1 qf1
        clear xc0 xf0 xc1 xf1 xc2 xf2 xc3 xf3 xc4 xf4 xc5 xf5
        clear yc0 yf0 yc1 yf1 yc2 yf2 yc3 yf3 yc4 yf4 yc5 yf5
        clear tc0 tf0 tc1 tf1 tc2 tf2 tc3 tf3 tc4 tf4 tc5 tf5
        refine (cell_Find.calls k a0 a1 a2 a3 _ _ l0 _ _ l1 kind index t3 n t1 t2 t3 t4 t5 t6 true 0 _ (Kd.C_below HR0.out HB.out) HC0.out (Kd.C_below HR1.out HB.out) HC1.out HF.out).mono ?_
        rintro en w15 ⟨u4, u5, rfl, ho4, ho5, hb⟩
        obtain ⟨F4, fc4, rfl⟩ := Kd.R_slice ho4
        obtain ⟨F5, fc5, rfl⟩ := Kd.R_slice ho5
        clear ho4 ho5
        replace BK11 := Lib.hid (blk_below BK11.out hb)
        replace BK16 := Lib.hid (blk_below BK16.out hb)
        replace BK19 := Lib.hid (blk_below BK19.out hb)
        replace HB := Lib.hid (below_step HB.out hb)
        clear hb
        go_upto_region 23 with (first | ((with_reducible refine gate_dst (N := 23) rfl ?_); refine box_event ?hg (N := 23) ?hd (cs := #[.int .u8 0, .int .i64 0, .int .i64 0, .int .i64 0, .slice none 0 0, .slice none 0 0]) (t := 27) ?hr ?_; (case hd => rfl); (case hg => rfl); (case hr => first | (go_simp; done) | (go_simp; rfl)); intro gb23 hg_ w16 bk_ hb_; have GE23 := Lib.hid (show w.heap.size ≤ gb23 by rw [hg_]; exact below_size HB.out); have NB11_23 := Lib.hid (show gb11 ≠ gb23 by rw [hg_]; exact Nat.ne_of_lt (blk_lt BK11.out)); have NB23_11 := Lib.hid NB11_23.out.symm; replace BK11 := Lib.hid (blk_below BK11.out hb_); have NB16_23 := Lib.hid (show gb16 ≠ gb23 by rw [hg_]; exact Nat.ne_of_lt (blk_lt BK16.out)); have NB23_16 := Lib.hid NB16_23.out.symm; replace BK16 := Lib.hid (blk_below BK16.out hb_); have NB19_23 := Lib.hid (show gb19 ≠ gb23 by rw [hg_]; exact Nat.ne_of_lt (blk_lt BK19.out)); have NB23_19 := Lib.hid NB19_23.out.symm; replace BK19 := Lib.hid (blk_below BK19.out hb_); have BK23 := Lib.hid bk_; replace HB := Lib.hid (below_step HB.out hb_); clear hb_ hg_ bk_; obtain ⟨zc0, zc1, zc2, zc3, zc4, zc5, zf0, zf1, zf2, zf3, zf4, zf5⟩ := cs6 BK23.out))
        clear zc0 zf0 zc1 zf1 zc2 zf2 zc3 zf3 zc4 zf4 zc5 zf5
        obtain ⟨hq1_, hq2_, hs_⟩ := st6_0_6 HB.out GE23.out BK23.out (.int .u8 t1) (.int .i64 t2) (.int .i64 t3) (.int .i64 t4) (.slice F4 t5.length fc4) (.slice F5 t6.length fc5)
        generalize ((((((w16.setCell ⟨gb23, 0, none⟩ (.int .u8 t1)).setCell ⟨gb23, 1, none⟩ (.int .i64 t2)).setCell ⟨gb23, 2, none⟩ (.int .i64 t3)).setCell ⟨gb23, 3, none⟩ (.int .i64 t4)).setCell ⟨gb23, 4, none⟩ (.slice F4 t5.length fc4)).setCell ⟨gb23, 5, none⟩ (.slice F5 t6.length fc5)) = w17 at hs_ hq1_ hq2_ ⊢
        replace BK11 := Lib.hid ((hs_ gb11 NB11_23.out).trans BK11.out)
        replace BK16 := Lib.hid ((hs_ gb16 NB16_23.out).trans BK16.out)
        replace BK19 := Lib.hid ((hs_ gb19 NB19_23.out).trans BK19.out)
        replace BK23 := Lib.hid hq1_
        replace HB := Lib.hid hq2_
        clear hs_ hq1_ hq2_
        obtain ⟨xc0, xc1, xc2, xc3, xc4, xc5, xf0, xf1, xf2, xf3, xf4, xf5⟩ := cs6 BK16.out
        obtain ⟨yc0, yc1, yc2, yc3, yc4, yc5, yf0, yf1, yf2, yf3, yf4, yf5⟩ := cs6 BK19.out
        obtain ⟨tc0, tc1, tc2, tc3, tc4, tc5, tf0, tf1, tf2, tf3, tf4, tf5⟩ := cs6 BK11.out
        obtain ⟨vc0, vc1, vc2, vc3, vc4, vc5, vf0, vf1, vf2, vf3, vf4, vf5⟩ := cs6 BK23.out
        have hnn : (n != n) = false := bne_self_eq_false n
        have htt : (t3 != t3) = false := bne_self_eq_false t3
        go_wp2_with fail
        go_ret
        exact ⟨rfl, HB.out⟩
end Go.Proofs.Ytihefjdabjmmaaa.PD
