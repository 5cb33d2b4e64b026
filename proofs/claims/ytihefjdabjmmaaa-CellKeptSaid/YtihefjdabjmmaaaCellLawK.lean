/- The law CellKept, walked. No condition. -/
import Derived.Test.YtihefjdabjmmaaaCellTwin
import Derived.Test.YtihefjdabjmmaaaPDx5
namespace Go.Proofs.Ytihefjdabjmmaaa.PD
open Go Go.RowKit Go.Proofs.YtihefjdabjmmaaaW.PrintWords Go.Proofs.YtihefjdabjmmaaaW.PrintLast Go.Proofs.YtihefjdabjmmaaaW.PrintMore
set_option linter.unusedVariables false
theorem st2_0_1 {w W : World} {g : Nat} {c0 c1 : Value} {t : TypeId} (hb : Below w.heap.size w W) (hg : w.heap.size ≤ g) (h : W.heap[g]? = some (.cells #[c0, c1] t (0, 0))) (v0 : Value) :
    (W.setCell ⟨g, 0, none⟩ v0).heap[g]? = some (.cells #[v0, c1] t (0, 0)) ∧ Below w.heap.size w (W.setCell ⟨g, 0, none⟩ v0) ∧ ∀ k, k ≠ g → (W.setCell ⟨g, 0, none⟩ v0).heap[k]? = W.heap[k]? :=
  ⟨(blk_put (cs' := #[v0, c1]) h 0 v0 rfl), (below_set (g := g) (j := 0) (v := v0) hb hg), fun k hk => (Below.heap_setCell _ ⟨g, 0, none⟩ v0 k hk)⟩
theorem st2_1_1 {w W : World} {g : Nat} {c0 c1 : Value} {t : TypeId} (hb : Below w.heap.size w W) (hg : w.heap.size ≤ g) (h : W.heap[g]? = some (.cells #[c0, c1] t (0, 0))) (v0 : Value) :
    (W.setCell ⟨g, 1, none⟩ v0).heap[g]? = some (.cells #[c0, v0] t (0, 0)) ∧ Below w.heap.size w (W.setCell ⟨g, 1, none⟩ v0) ∧ ∀ k, k ≠ g → (W.setCell ⟨g, 1, none⟩ v0).heap[k]? = W.heap[k]? :=
  ⟨(blk_put (cs' := #[c0, v0]) h 1 v0 rfl), (below_set (g := g) (j := 1) (v := v0) hb hg), fun k hk => (Below.heap_setCell _ ⟨g, 1, none⟩ v0 k hk)⟩
theorem cell_nl (n : Int) (l m : List Int) : (if (0 : Int) = 0 then l else m) = l ∧ (if (1 : Int) = 0 then l else m) = m := ⟨if_pos rfl, if_neg (by decide)⟩
set_option maxHeartbeats 8000000 in
set_option maxRecDepth 100000 in
theorem cell_law_Kept.calls (k : Nat) (a0 a1 a2 a3 : Int) (A0 : Option Addr) (c0 : Nat) (l0 : List Int) (A1 : Option Addr) (c1 : Nat) (l1 : List Int) (keep k1 k2 k3 k4 : Int) (K4 : Option Addr) (kc4 : Nat) (k5 : List Int) (K5 : Option Addr) (kc5 : Nat) (k6 : List Int)
    (bl : List Int) (be n f m t1 t2 t4 : Int) (t5 t6 : List Int) (o u1 u2 u3 u4 : Int) (u5 u6 : List Int) (u7 : Bool) (q v1 v2 v3 v4 : Int) (v5 v6 : List Int) (v7 : Bool) (w : World)
    (hr0 : Kd.C (Kd.int .u8) w A0 l0.length l0) (hc0 : l0.length ≤ c0) (hr1 : Kd.C (Kd.int .u8) w A1 l1.length l1) (hc1 : l1.length ≤ c1)
    (hr4 : Kd.C (Kd.int .i64) w K4 k5.length k5) (hc4 : k5.length ≤ kc4) (hr5 : Kd.C (Kd.int .u8) w K5 k6.length k6) (hc5 : k6.length ≤ kc5)
    (h1 : cell_Older.f k 2 1 16 8 [] [] 1 0 0 = some (0, 0)) (h2 : cell_Newest.f k 2 1 16 8 [] [] 9 0 = some (0, 0, 0, 0, 0, [], [], false, 2))
    (hBy : slot_Bytes.f k a0 a1 a2 a3 k1 k2 k3 k4 k5 k6 = some (bl, be))
    (hO : cell_Older.f k a0 a1 a2 a3 l0 l1 k1 k2 keep = some (n, f))
    (g0 : be = 0 → f ≠ 0 → n = 0) (g1 : be = 0 → f = 0 → n = 0 ∨ n = 1)
    (g2 : be = 0 → f = 0 → bytesOf (strOfNums l0) = l0 ∧ bytesOf (strOfNums l1) = l1 ∧ (strOfNums l0).size ≤ 140737488351232 ∧ (strOfNums l1).size ≤ 140737488351232)
    (g3 : be = 0 → f = 0 → cell_Find.f k a0 a1 a2 a3 (if n = 0 then bl else l0) (if n = 0 then l1 else bl) k1 k2 k3 = some (m, t1, t2, k3, t4, t5, t6, true, 0))
    (g4 : be = 0 → f = 0 → keep ≠ 0 → cell_Find.f k a0 a1 a2 a3 l0 l1 k1 k2 keep = some (o, u1, u2, u3, u4, u5, u6, u7, 0) ∧ cell_Find.f k a0 a1 a2 a3 (if n = 0 then bl else l0) (if n = 0 then l1 else bl) k1 k2 keep = some (q, v1, v2, v3, v4, v5, v6, v7, 0) ∧ (u7 = true → v7 = true ∧ (keep = k3 ∨ (v3 = keep ∧ v4 = u4 ∧ v6 = u6)))) :
    Calls Try.prog 9 #[.agg #[.int .i64 a0, .int .i64 a1, .int .i64 a2, .int .i64 a3], .agg #[.slice A0 l0.length c0, .slice A1 l1.length c1], .int .i64 keep, .agg #[.int .u8 k1, .int .i64 k2, .int .i64 k3, .int .i64 k4, .slice K4 k5.length kc4, .slice K5 k6.length kc5]] w fun en w' => en = .returned (.bool true) ∧ Below w.heap.size w w' := by
  have hu23 := Try.underlying23
  have hu27 := Try.underlying27
  have hu42 := Try.underlying42
  have HB := Lib.hid (Below.refl w.heap.size w)
  have HR0 := Lib.hid hr0
  have HR1 := Lib.hid hr1
  have HC0 := Lib.hid hc0
  have HC1 := Lib.hid hc1
  have HR4 := Lib.hid hr4
  have HC4 := Lib.hid hc4
  have HR5 := Lib.hid hr5
  have HC5 := Lib.hid hc5
  have H1 := Lib.hid h1
  have H2 := Lib.hid h2
  have HBY := Lib.hid hBy
  have HO := Lib.hid hO
  have G0 := Lib.hid g0
  have G1 := Lib.hid g1
  have G2 := Lib.hid g2
  have G3 := Lib.hid g3
  have G4 := Lib.hid g4
  clear hr0 hr1 hc0 hc1 hr4 hc4 hr5 hc5 h1 h2 hBy hO g0 g1 g2 g3 g4
  go_enter Try.func9, Try.ntmps9
  go_upto_region 1 with (first | ((with_reducible refine gate_dst (N := 4) rfl ?_); refine box_event ?hg (N := 4) ?hd (cs := #[.int .i64 a0, .int .i64 a1, .int .i64 a2, .int .i64 a3]) (t := 23) ?hr ?_; (case hd => rfl); (case hg => rfl); (case hr => first | (go_simp; done) | (go_simp; rfl)); intro gb4 hg_ w1 bk_ hb_; have GE4 := Lib.hid (show w.heap.size ≤ gb4 by rw [hg_]; exact below_size HB.out); have BK4 := Lib.hid bk_; replace HB := Lib.hid (below_step HB.out hb_); clear hb_ hg_ bk_) | ((with_reducible refine gate_dst (N := 5) rfl ?_); refine box_event ?hg (N := 5) ?hd (cs := #[.slice A0 l0.length c0, .slice A1 l1.length c1]) (t := 42) ?hr ?_; (case hd => rfl); (case hg => rfl); (case hr => first | (go_simp; done) | (go_simp; rfl)); intro gb5 hg_ w2 bk_ hb_; have GE5 := Lib.hid (show w.heap.size ≤ gb5 by rw [hg_]; exact below_size HB.out); have NB4_5 := Lib.hid (show gb4 ≠ gb5 by rw [hg_]; exact Nat.ne_of_lt (blk_lt BK4.out)); have NB5_4 := Lib.hid NB4_5.out.symm; replace BK4 := Lib.hid (blk_below BK4.out hb_); have BK5 := Lib.hid bk_; replace HB := Lib.hid (below_step HB.out hb_); clear hb_ hg_ bk_) | ((with_reducible refine gate_dst (N := 7) rfl ?_); refine box_event ?hg (N := 7) ?hd (cs := #[.int .u8 k1, .int .i64 k2, .int .i64 k3, .int .i64 k4, .slice K4 k5.length kc4, .slice K5 k6.length kc5]) (t := 27) ?hr ?_; (case hd => rfl); (case hg => rfl); (case hr => first | (go_simp; done) | (go_simp; rfl)); intro gb7 hg_ w3 bk_ hb_; have GE7 := Lib.hid (show w.heap.size ≤ gb7 by rw [hg_]; exact below_size HB.out); have NB4_7 := Lib.hid (show gb4 ≠ gb7 by rw [hg_]; exact Nat.ne_of_lt (blk_lt BK4.out)); have NB7_4 := Lib.hid NB4_7.out.symm; replace BK4 := Lib.hid (blk_below BK4.out hb_); have NB5_7 := Lib.hid (show gb5 ≠ gb7 by rw [hg_]; exact Nat.ne_of_lt (blk_lt BK5.out)); have NB7_5 := Lib.hid NB5_7.out.symm; replace BK5 := Lib.hid (blk_below BK5.out hb_); have BK7 := Lib.hid bk_; replace HB := Lib.hid (below_step HB.out hb_); clear hb_ hg_ bk_))
  go_wp2_with fail
  refine (cell_awake.calls k _ H1.out H2.out).mono ?_
  rintro en w4 ⟨rfl, hb⟩
  replace BK4 := Lib.hid (blk_below BK4.out hb)
  replace BK5 := Lib.hid (blk_below BK5.out hb)
  replace BK7 := Lib.hid (blk_below BK7.out hb)
  replace HB := Lib.hid (below_step HB.out hb)
  clear hb
  obtain ⟨pc0, pc1, pc2, pc3, pf0, pf1, pf2, pf3⟩ := cs4 BK4.out
  obtain ⟨qc0, qc1, qf0, qf1⟩ := cs2 BK5.out
  obtain ⟨xc0, xc1, xc2, xc3, xc4, xc5, xf0, xf1, xf2, xf3, xf4, xf5⟩ := cs6 BK7.out
  go_wp2_with fail
  clear pc0 pf0 pc1 pf1 pc2 pf2 pc3 pf3
  clear qc0 qf0 qc1 qf1
  clear xc0 xf0 xc1 xf1 xc2 xf2 xc3 xf3 xc4 xf4 xc5 xf5
  refine (slot_Bytes.calls k a0 a1 a2 a3 k1 k2 k3 k4 _ _ k5 _ _ k6 bl be _ (Kd.C_below HR4.out HB.out) HC4.out (Kd.C_below HR5.out HB.out) HC5.out HBY.out).mono ?_
  rintro en w5 ⟨u4_, rfl, ho4, hb⟩
  obtain ⟨BA, bc, rfl⟩ := Kd.R_slice ho4
  have CB := Lib.hid (Kd.R_reads' ho4).2.2
  have DB := Lib.hid (Kd.R_reads' ho4).2.1
  clear ho4
  replace BK4 := Lib.hid (blk_below BK4.out hb)
  replace BK5 := Lib.hid (blk_below BK5.out hb)
  replace BK7 := Lib.hid (blk_below BK7.out hb)
  replace HB := Lib.hid (below_step HB.out hb)
  clear hb
  have HB5 := Lib.hid (Below.refl w5.heap.size w5)
  obtain ⟨pc0, pc1, pc2, pc3, pf0, pf1, pf2, pf3⟩ := cs4 BK4.out
  obtain ⟨qc0, qc1, qf0, qf1⟩ := cs2 BK5.out
  obtain ⟨xc0, xc1, xc2, xc3, xc4, xc5, xf0, xf1, xf2, xf3, xf4, xf5⟩ := cs6 BK7.out
  go_wp2_with fail
  clear pc0 pf0 pc1 pf1 pc2 pf2 pc3 pf3
  clear qc0 qf0 qc1 qf1
  clear xc0 xf0 xc1 xf1 xc2 xf2 xc3 xf3 xc4 xf4 xc5 xf5
  refine (cell_Older.calls k a0 a1 a2 a3 _ _ l0 _ _ l1 k1 k2 keep n f _ (Kd.C_below HR0.out HB.out) HC0.out (Kd.C_below HR1.out HB.out) HC1.out HO.out).mono ?_
  rintro en w6 ⟨rfl, hb⟩
  replace HB5 := Lib.hid (below_step HB5.out hb)
  replace BK4 := Lib.hid (blk_below BK4.out hb)
  replace BK5 := Lib.hid (blk_below BK5.out hb)
  replace BK7 := Lib.hid (blk_below BK7.out hb)
  replace HB := Lib.hid (below_step HB.out hb)
  clear hb
  by_cases hbe : be = 0
  case neg =>
    have hb1 : (be != 0) = true := bne_iff_ne.mpr hbe
    clear hbe
    go_wp2_with fail
    go_ret
    exact ⟨by first | rfl | simp, HB.out⟩
  subst hbe
  by_cases hf : f = 0
  case neg =>
    obtain rfl := G0.out rfl hf
    have hb1 : (f != 0) = true := bne_iff_ne.mpr hf
    clear hf
    go_wp2_with fail
    go_ret
    exact ⟨by first | rfl | simp, HB.out⟩
  subst hf
  obtain ⟨hz1, hz2, hz3, hz4⟩ := G2.out rfl rfl
  have Z1 := Lib.hid hz1
  have Z2 := Lib.hid hz2
  have Z3 := Lib.hid hz3
  have Z4 := Lib.hid hz4
  replace G1 := Lib.hid (G1.out rfl rfl)
  replace G3 := Lib.hid (G3.out rfl rfl)
  replace G4 := Lib.hid (G4.out rfl rfl)
  clear hz1 hz2 hz3 hz4 G0 G2 H1 H2 HBY HO
  obtain rfl | rfl := G1.out
  · rw [(cell_nl 0 _ _).1, (cell_nl 0 _ _).1] at G3 G4
    obtain ⟨pc0, pc1, pc2, pc3, pf0, pf1, pf2, pf3⟩ := cs4 BK4.out
    obtain ⟨qc0, qc1, qf0, qf1⟩ := cs2 BK5.out
    obtain ⟨xc0, xc1, xc2, xc3, xc4, xc5, xf0, xf1, xf2, xf3, xf4, xf5⟩ := cs6 BK7.out
    go_wp2_with fail
    clear pc0 pf0 pc1 pf1 pc2 pf2 pc3 pf3
    clear qc0 qf0 qc1 qf1
    clear xc0 xf0 xc1 xf1 xc2 xf2 xc3 xf3 xc4 xf4 xc5 xf5
    refine (cell_twin.calls A0 c0 l0 A1 c1 l1 _ (Kd.C_below HR0.out HB.out) (Kd.C_below HR1.out HB.out) Z1.out Z2.out Z3.out Z4.out).mono ?_
    rintro en wT ⟨B0, d0, B1, d1, rfl, ⟨hc1_, hd1_⟩, ⟨hc2_, hd2_⟩, hb⟩
    have CT0 := Lib.hid hc1_
    have DT0 := Lib.hid hd1_
    have CT1 := Lib.hid hc2_
    have DT1 := Lib.hid hd2_
    clear hc1_ hd1_ hc2_ hd2_ Z1 Z2 Z3 Z4
    replace CB := Lib.hid (Kd.C_below CB.out (below_step HB5.out hb))
    clear HB5
    replace BK4 := Lib.hid (blk_below BK4.out hb)
    replace BK5 := Lib.hid (blk_below BK5.out hb)
    replace BK7 := Lib.hid (blk_below BK7.out hb)
    replace HB := Lib.hid (below_step HB.out hb)
    clear hb
    replace HR0 := Lib.hid (Kd.C_below HR0.out HB.out)
    replace HR1 := Lib.hid (Kd.C_below HR1.out HB.out)
    clear HR4 HR5 HC4 HC5
    have HBT := Lib.hid (Below.refl wT.heap.size wT)
    go_upto_region 11 with (first | ((with_reducible refine gate_dst (N := 14) rfl ?_); refine box_event ?hg (N := 14) ?hd (cs := #[.slice none 0 0, .slice none 0 0]) (t := 42) ?hr ?_; (case hd => rfl); (case hg => rfl); (case hr => first | (go_simp; done) | (go_simp; rfl)); intro gb14 hg_ w7 bk_ hb_; have GE14 := Lib.hid (show w.heap.size ≤ gb14 by rw [hg_]; exact below_size HB.out); have NB4_14 := Lib.hid (show gb4 ≠ gb14 by rw [hg_]; exact Nat.ne_of_lt (blk_lt BK4.out)); have NB14_4 := Lib.hid NB4_14.out.symm; replace BK4 := Lib.hid (blk_below BK4.out hb_); have NB5_14 := Lib.hid (show gb5 ≠ gb14 by rw [hg_]; exact Nat.ne_of_lt (blk_lt BK5.out)); have NB14_5 := Lib.hid NB5_14.out.symm; replace BK5 := Lib.hid (blk_below BK5.out hb_); have NB7_14 := Lib.hid (show gb7 ≠ gb14 by rw [hg_]; exact Nat.ne_of_lt (blk_lt BK7.out)); have NB14_7 := Lib.hid NB7_14.out.symm; replace BK7 := Lib.hid (blk_below BK7.out hb_); have BK14 := Lib.hid bk_; have GT14 := Lib.hid (show wT.heap.size ≤ gb14 by rw [hg_]; exact below_size HBT.out); replace HB := Lib.hid (below_step HB.out hb_); replace HBT := Lib.hid (below_step HBT.out hb_); clear hb_ hg_ bk_; obtain ⟨zc0, zc1, zf0, zf1⟩ := cs2 BK14.out))
    clear zc0 zf0 zc1 zf1
    obtain ⟨hq1_, hq2_, hs_⟩ := st2_0_2 HB.out GE14.out BK14.out (.slice B0 l0.length d0) (.slice B1 l1.length d1)
    obtain ⟨-, hqT_, -⟩ := st2_0_2 HBT.out GT14.out BK14.out (.slice B0 l0.length d0) (.slice B1 l1.length d1)
    generalize ((w7.setCell ⟨gb14, 0, none⟩ (.slice B0 l0.length d0)).setCell ⟨gb14, 1, none⟩ (.slice B1 l1.length d1)) = w8 at hs_ hq1_ hq2_ hqT_ ⊢
    replace BK4 := Lib.hid ((hs_ gb4 NB4_14.out).trans BK4.out)
    replace BK5 := Lib.hid ((hs_ gb5 NB5_14.out).trans BK5.out)
    replace BK7 := Lib.hid ((hs_ gb7 NB7_14.out).trans BK7.out)
    replace BK14 := Lib.hid hq1_
    replace HB := Lib.hid hq2_
    replace HBT := Lib.hid hqT_
    clear hs_ hq1_ hq2_ hqT_
    have hi := tw_ia0 gb14
    obtain ⟨zc0, zc1, zf0, zf1⟩ := cs2 BK14.out
    go_upto_region 12 with fail
    clear zc0 zf0 zc1 zf1 hi
    obtain ⟨hq1_, hq2_, hs_⟩ := st2_0_1 HB.out GE14.out BK14.out (.slice BA bl.length bc)
    obtain ⟨-, hqT_, -⟩ := st2_0_1 HBT.out GT14.out BK14.out (.slice BA bl.length bc)
    generalize (w8.setCell ⟨gb14, 0, none⟩ (.slice BA bl.length bc)) = w9 at hs_ hq1_ hq2_ hqT_ ⊢
    replace BK4 := Lib.hid ((hs_ gb4 NB4_14.out).trans BK4.out)
    replace BK5 := Lib.hid ((hs_ gb5 NB5_14.out).trans BK5.out)
    replace BK7 := Lib.hid ((hs_ gb7 NB7_14.out).trans BK7.out)
    replace BK14 := Lib.hid hq1_
    replace HB := Lib.hid hq2_
    replace HBT := Lib.hid hqT_
    clear hs_ hq1_ hq2_ hqT_
    obtain ⟨pc0, pc1, pc2, pc3, pf0, pf1, pf2, pf3⟩ := cs4 BK4.out
    obtain ⟨xc0, xc1, xc2, xc3, xc4, xc5, xf0, xf1, xf2, xf3, xf4, xf5⟩ := cs6 BK7.out
    obtain ⟨zc0, zc1, zf0, zf1⟩ := cs2 BK14.out
    go_wp2_with fail
    clear pc0 pf0 pc1 pf1 pc2 pf2 pc3 pf3
    clear xc0 xf0 xc1 xf1 xc2 xf2 xc3 xf3 xc4 xf4 xc5 xf5
    clear zc0 zf0 zc1 zf1
    refine (cell_Find.calls k a0 a1 a2 a3 _ _ bl _ _ l1 k1 k2 k3 m t1 t2 k3 t4 t5 t6 true 0 _ (Kd.C_below CB.out HBT.out) DB.out (Kd.C_below CT1.out HBT.out) DT1.out G3.out).mono ?_
    rintro en w10 ⟨u4_, u5_, rfl, ho4, ho5, hb⟩
    obtain ⟨T4, tc4, rfl⟩ := Kd.R_slice ho4
    obtain ⟨T5, tc5, rfl⟩ := Kd.R_slice ho5
    clear ho4 ho5 G3
    replace BK4 := Lib.hid (blk_below BK4.out hb)
    replace BK5 := Lib.hid (blk_below BK5.out hb)
    replace BK7 := Lib.hid (blk_below BK7.out hb)
    replace BK14 := Lib.hid (blk_below BK14.out hb)
    replace HB := Lib.hid (below_step HB.out hb)
    replace HBT := Lib.hid (below_step HBT.out hb)
    clear hb
    go_upto_region 13 with (first | ((with_reducible refine gate_dst (N := 16) rfl ?_); refine box_event ?hg (N := 16) ?hd (cs := #[.int .u8 0, .int .i64 0, .int .i64 0, .int .i64 0, .slice none 0 0, .slice none 0 0]) (t := 27) ?hr ?_; (case hd => rfl); (case hg => rfl); (case hr => first | (go_simp; done) | (go_simp; rfl)); intro gb16 hg_ w11 bk_ hb_; have GE16 := Lib.hid (show w.heap.size ≤ gb16 by rw [hg_]; exact below_size HB.out); have NB4_16 := Lib.hid (show gb4 ≠ gb16 by rw [hg_]; exact Nat.ne_of_lt (blk_lt BK4.out)); have NB16_4 := Lib.hid NB4_16.out.symm; replace BK4 := Lib.hid (blk_below BK4.out hb_); have NB5_16 := Lib.hid (show gb5 ≠ gb16 by rw [hg_]; exact Nat.ne_of_lt (blk_lt BK5.out)); have NB16_5 := Lib.hid NB5_16.out.symm; replace BK5 := Lib.hid (blk_below BK5.out hb_); have NB7_16 := Lib.hid (show gb7 ≠ gb16 by rw [hg_]; exact Nat.ne_of_lt (blk_lt BK7.out)); have NB16_7 := Lib.hid NB7_16.out.symm; replace BK7 := Lib.hid (blk_below BK7.out hb_); have NB14_16 := Lib.hid (show gb14 ≠ gb16 by rw [hg_]; exact Nat.ne_of_lt (blk_lt BK14.out)); have NB16_14 := Lib.hid NB14_16.out.symm; replace BK14 := Lib.hid (blk_below BK14.out hb_); have BK16 := Lib.hid bk_; have GT16 := Lib.hid (show wT.heap.size ≤ gb16 by rw [hg_]; exact below_size HBT.out); replace HB := Lib.hid (below_step HB.out hb_); replace HBT := Lib.hid (below_step HBT.out hb_); clear hb_ hg_ bk_; obtain ⟨zc0, zc1, zc2, zc3, zc4, zc5, zf0, zf1, zf2, zf3, zf4, zf5⟩ := cs6 BK16.out))
    clear zc0 zf0 zc1 zf1 zc2 zf2 zc3 zf3 zc4 zf4 zc5 zf5
    obtain ⟨hq1_, hq2_, hs_⟩ := st6_0_6 HB.out GE16.out BK16.out (.int .u8 t1) (.int .i64 t2) (.int .i64 k3) (.int .i64 t4) (.slice T4 t5.length tc4) (.slice T5 t6.length tc5)
    obtain ⟨-, hqT_, -⟩ := st6_0_6 HBT.out GT16.out BK16.out (.int .u8 t1) (.int .i64 t2) (.int .i64 k3) (.int .i64 t4) (.slice T4 t5.length tc4) (.slice T5 t6.length tc5)
    generalize ((((((w11.setCell ⟨gb16, 0, none⟩ (.int .u8 t1)).setCell ⟨gb16, 1, none⟩ (.int .i64 t2)).setCell ⟨gb16, 2, none⟩ (.int .i64 k3)).setCell ⟨gb16, 3, none⟩ (.int .i64 t4)).setCell ⟨gb16, 4, none⟩ (.slice T4 t5.length tc4)).setCell ⟨gb16, 5, none⟩ (.slice T5 t6.length tc5)) = w12 at hs_ hq1_ hq2_ hqT_ ⊢
    replace BK4 := Lib.hid ((hs_ gb4 NB4_16.out).trans BK4.out)
    replace BK5 := Lib.hid ((hs_ gb5 NB5_16.out).trans BK5.out)
    replace BK7 := Lib.hid ((hs_ gb7 NB7_16.out).trans BK7.out)
    replace BK14 := Lib.hid ((hs_ gb14 NB14_16.out).trans BK14.out)
    replace BK16 := Lib.hid hq1_
    replace HB := Lib.hid hq2_
    replace HBT := Lib.hid hqT_
    clear hs_ hq1_ hq2_ hqT_
    obtain ⟨tc0, tc1, tc2, tc3, tc4, tc5, tf0, tf1, tf2, tf3, tf4, tf5⟩ := cs6 BK16.out
    obtain ⟨xc0, xc1, xc2, xc3, xc4, xc5, xf0, xf1, xf2, xf3, xf4, xf5⟩ := cs6 BK7.out
    have hkk : (k3 != k3) = false := bne_self_eq_false k3
    by_cases hkp : keep = 0
    case pos =>
      subst hkp
      go_wp2_with fail
      go_ret
      exact ⟨rfl, HB.out⟩
    obtain ⟨hx1, hx2, hx3⟩ := G4.out hkp
    have F1 := Lib.hid hx1
    have F2 := Lib.hid hx2
    have F3 := Lib.hid hx3
    clear hx1 hx2 hx3 G4
    have hkb : (keep == 0) = false := beq_eq_false_iff_ne.mpr hkp
    clear hkp
    obtain ⟨pc0, pc1, pc2, pc3, pf0, pf1, pf2, pf3⟩ := cs4 BK4.out
    obtain ⟨qc0, qc1, qf0, qf1⟩ := cs2 BK5.out
    go_wp2_with fail
    clear pc0 pf0 pc1 pf1 pc2 pf2 pc3 pf3
    clear qc0 qf0 qc1 qf1
    clear tc0 tf0 tc1 tf1 tc2 tf2 tc3 tf3 tc4 tf4 tc5 tf5
    clear xc0 xf0 xc1 xf1 xc2 xf2 xc3 xf3 xc4 xf4 xc5 xf5
    refine (cell_Find.calls k a0 a1 a2 a3 _ _ l0 _ _ l1 k1 k2 keep o u1 u2 u3 u4 u5 u6 u7 0 _ (Kd.C_below HR0.out HBT.out) HC0.out (Kd.C_below HR1.out HBT.out) HC1.out F1.out).mono ?_
    rintro en w13 ⟨u4_, u5_, rfl, ho4, ho5, hb⟩
    obtain ⟨U4, uc4, rfl⟩ := Kd.R_slice ho4
    obtain ⟨U5, uc5, rfl⟩ := Kd.R_slice ho5
    have CU := Lib.hid (Kd.R_reads' ho5).2.2
    clear ho4 ho5 F1
    replace BK4 := Lib.hid (blk_below BK4.out hb)
    replace BK7 := Lib.hid (blk_below BK7.out hb)
    replace BK14 := Lib.hid (blk_below BK14.out hb)
    replace HB := Lib.hid (below_step HB.out hb)
    replace HBT := Lib.hid (below_step HBT.out hb)
    clear hb
    have wU := w13
    have HBU := Lib.hid (Below.refl w13.heap.size w13)
    go_upto_region 18 with (first | ((with_reducible refine gate_dst (N := 20) rfl ?_); refine box_event ?hg (N := 20) ?hd (cs := #[.int .u8 0, .int .i64 0, .int .i64 0, .int .i64 0, .slice none 0 0, .slice none 0 0]) (t := 27) ?hr ?_; (case hd => rfl); (case hg => rfl); (case hr => first | (go_simp; done) | (go_simp; rfl)); intro gb20 hg_ w14 bk_ hb_; have GE20 := Lib.hid (show w.heap.size ≤ gb20 by rw [hg_]; exact below_size HB.out); have NB4_20 := Lib.hid (show gb4 ≠ gb20 by rw [hg_]; exact Nat.ne_of_lt (blk_lt BK4.out)); have NB20_4 := Lib.hid NB4_20.out.symm; replace BK4 := Lib.hid (blk_below BK4.out hb_); have NB7_20 := Lib.hid (show gb7 ≠ gb20 by rw [hg_]; exact Nat.ne_of_lt (blk_lt BK7.out)); have NB20_7 := Lib.hid NB7_20.out.symm; replace BK7 := Lib.hid (blk_below BK7.out hb_); have NB14_20 := Lib.hid (show gb14 ≠ gb20 by rw [hg_]; exact Nat.ne_of_lt (blk_lt BK14.out)); have NB20_14 := Lib.hid NB14_20.out.symm; replace BK14 := Lib.hid (blk_below BK14.out hb_); have BK20 := Lib.hid bk_; have GT20 := Lib.hid (show wT.heap.size ≤ gb20 by rw [hg_]; exact below_size HBT.out); replace HB := Lib.hid (below_step HB.out hb_); have GU20 := Lib.hid (show w13.heap.size ≤ gb20 by rw [hg_]; exact below_size HBU.out); replace HBT := Lib.hid (below_step HBT.out hb_); replace HBU := Lib.hid (below_step HBU.out hb_); clear hb_ hg_ bk_; obtain ⟨zc0, zc1, zc2, zc3, zc4, zc5, zf0, zf1, zf2, zf3, zf4, zf5⟩ := cs6 BK20.out))
    clear zc0 zf0 zc1 zf1 zc2 zf2 zc3 zf3 zc4 zf4 zc5 zf5
    obtain ⟨hq1_, hq2_, hs_⟩ := st6_0_6 HB.out GE20.out BK20.out (.int .u8 u1) (.int .i64 u2) (.int .i64 u3) (.int .i64 u4) (.slice U4 u5.length uc4) (.slice U5 u6.length uc5)
    obtain ⟨-, hqT_, -⟩ := st6_0_6 HBT.out GT20.out BK20.out (.int .u8 u1) (.int .i64 u2) (.int .i64 u3) (.int .i64 u4) (.slice U4 u5.length uc4) (.slice U5 u6.length uc5)
    obtain ⟨-, hqU_, -⟩ := st6_0_6 HBU.out GU20.out BK20.out (.int .u8 u1) (.int .i64 u2) (.int .i64 u3) (.int .i64 u4) (.slice U4 u5.length uc4) (.slice U5 u6.length uc5)
    generalize ((((((w14.setCell ⟨gb20, 0, none⟩ (.int .u8 u1)).setCell ⟨gb20, 1, none⟩ (.int .i64 u2)).setCell ⟨gb20, 2, none⟩ (.int .i64 u3)).setCell ⟨gb20, 3, none⟩ (.int .i64 u4)).setCell ⟨gb20, 4, none⟩ (.slice U4 u5.length uc4)).setCell ⟨gb20, 5, none⟩ (.slice U5 u6.length uc5)) = w15 at hs_ hq1_ hq2_ hqT_ hqU_ ⊢
    replace BK4 := Lib.hid ((hs_ gb4 NB4_20.out).trans BK4.out)
    replace BK7 := Lib.hid ((hs_ gb7 NB7_20.out).trans BK7.out)
    replace BK14 := Lib.hid ((hs_ gb14 NB14_20.out).trans BK14.out)
    replace BK20 := Lib.hid hq1_
    replace HB := Lib.hid hq2_
    replace HBT := Lib.hid hqT_
    replace HBU := Lib.hid hqU_
    clear hs_ hq1_ hq2_ hqT_ hqU_
    obtain ⟨pc0, pc1, pc2, pc3, pf0, pf1, pf2, pf3⟩ := cs4 BK4.out
    obtain ⟨xc0, xc1, xc2, xc3, xc4, xc5, xf0, xf1, xf2, xf3, xf4, xf5⟩ := cs6 BK7.out
    obtain ⟨zc0, zc1, zf0, zf1⟩ := cs2 BK14.out
    go_wp2_with fail
    clear pc0 pf0 pc1 pf1 pc2 pf2 pc3 pf3
    clear xc0 xf0 xc1 xf1 xc2 xf2 xc3 xf3 xc4 xf4 xc5 xf5
    clear zc0 zf0 zc1 zf1
    refine (cell_Find.calls k a0 a1 a2 a3 _ _ bl _ _ l1 k1 k2 keep q v1 v2 v3 v4 v5 v6 v7 0 _ (Kd.C_below CB.out HBT.out) DB.out (Kd.C_below CT1.out HBT.out) DT1.out F2.out).mono ?_
    rintro en w16 ⟨u4_, u5_, rfl, ho4, ho5, hb⟩
    obtain ⟨V4, vc4, rfl⟩ := Kd.R_slice ho4
    obtain ⟨V5, vc5, rfl⟩ := Kd.R_slice ho5
    have CV := Lib.hid (Kd.R_reads' ho5).2.2
    clear ho4 ho5 F2
    replace HBU := Lib.hid (below_step HBU.out hb)
    replace BK7 := Lib.hid (blk_below BK7.out hb)
    replace BK20 := Lib.hid (blk_below BK20.out hb)
    replace HB := Lib.hid (below_step HB.out hb)
    replace HBT := Lib.hid (below_step HBT.out hb)
    clear hb
    have CU' := Lib.hid (Kd.C_below CU.out HBU.out)
    clear CU HBU
    have HBU := Lib.hid (Below.refl w16.heap.size w16)
    go_upto_region 19 with (first | ((with_reducible refine gate_dst (N := 24) rfl ?_); refine box_event ?hg (N := 24) ?hd (cs := #[.int .u8 0, .int .i64 0, .int .i64 0, .int .i64 0, .slice none 0 0, .slice none 0 0]) (t := 27) ?hr ?_; (case hd => rfl); (case hg => rfl); (case hr => first | (go_simp; done) | (go_simp; rfl)); intro gb24 hg_ w17 bk_ hb_; have GE24 := Lib.hid (show w.heap.size ≤ gb24 by rw [hg_]; exact below_size HB.out); have NB7_24 := Lib.hid (show gb7 ≠ gb24 by rw [hg_]; exact Nat.ne_of_lt (blk_lt BK7.out)); have NB24_7 := Lib.hid NB7_24.out.symm; replace BK7 := Lib.hid (blk_below BK7.out hb_); have NB20_24 := Lib.hid (show gb20 ≠ gb24 by rw [hg_]; exact Nat.ne_of_lt (blk_lt BK20.out)); have NB24_20 := Lib.hid NB20_24.out.symm; replace BK20 := Lib.hid (blk_below BK20.out hb_); have BK24 := Lib.hid bk_; have GT24 := Lib.hid (show wT.heap.size ≤ gb24 by rw [hg_]; exact below_size HBT.out); replace HB := Lib.hid (below_step HB.out hb_); have GU24 := Lib.hid (show w16.heap.size ≤ gb24 by rw [hg_]; exact below_size HBU.out); replace HBT := Lib.hid (below_step HBT.out hb_); replace HBU := Lib.hid (below_step HBU.out hb_); clear hb_ hg_ bk_; obtain ⟨zc0, zc1, zc2, zc3, zc4, zc5, zf0, zf1, zf2, zf3, zf4, zf5⟩ := cs6 BK24.out))
    clear zc0 zf0 zc1 zf1 zc2 zf2 zc3 zf3 zc4 zf4 zc5 zf5
    obtain ⟨hq1_, hq2_, hs_⟩ := st6_0_6 HB.out GE24.out BK24.out (.int .u8 v1) (.int .i64 v2) (.int .i64 v3) (.int .i64 v4) (.slice V4 v5.length vc4) (.slice V5 v6.length vc5)
    obtain ⟨-, hqT_, -⟩ := st6_0_6 HBT.out GT24.out BK24.out (.int .u8 v1) (.int .i64 v2) (.int .i64 v3) (.int .i64 v4) (.slice V4 v5.length vc4) (.slice V5 v6.length vc5)
    obtain ⟨-, hqU_, -⟩ := st6_0_6 HBU.out GU24.out BK24.out (.int .u8 v1) (.int .i64 v2) (.int .i64 v3) (.int .i64 v4) (.slice V4 v5.length vc4) (.slice V5 v6.length vc5)
    generalize ((((((w17.setCell ⟨gb24, 0, none⟩ (.int .u8 v1)).setCell ⟨gb24, 1, none⟩ (.int .i64 v2)).setCell ⟨gb24, 2, none⟩ (.int .i64 v3)).setCell ⟨gb24, 3, none⟩ (.int .i64 v4)).setCell ⟨gb24, 4, none⟩ (.slice V4 v5.length vc4)).setCell ⟨gb24, 5, none⟩ (.slice V5 v6.length vc5)) = w18 at hs_ hq1_ hq2_ hqT_ hqU_ ⊢
    replace BK7 := Lib.hid ((hs_ gb7 NB7_24.out).trans BK7.out)
    replace BK20 := Lib.hid ((hs_ gb20 NB20_24.out).trans BK20.out)
    replace BK24 := Lib.hid hq1_
    replace HB := Lib.hid hq2_
    replace HBT := Lib.hid hqT_
    replace HBU := Lib.hid hqU_
    clear hs_ hq1_ hq2_ hqT_ hqU_
    obtain ⟨xc0, xc1, xc2, xc3, xc4, xc5, xf0, xf1, xf2, xf3, xf4, xf5⟩ := cs6 BK7.out
    obtain ⟨zuc0, zuc1, zuc2, zuc3, zuc4, zuc5, zuf0, zuf1, zuf2, zuf3, zuf4, zuf5⟩ := cs6 BK20.out
    obtain ⟨zvc0, zvc1, zvc2, zvc3, zvc4, zvc5, zvf0, zvf1, zvf2, zvf3, zvf4, zvf5⟩ := cs6 BK24.out
    have hsV := Kd.C_string (P := Try.prog) (A := V5) (c := vc5) Try.underlying25 Try.underlying5 Try.underlying9 (Kd.C_below CV.out HBU.out)
    have hsU := Kd.C_string (P := Try.prog) (A := U5) (c := uc5) Try.underlying25 Try.underlying5 Try.underlying9 (Kd.C_below CU'.out HBU.out)
    cases u7 with
    | false =>
      go_wp2_with fail
      go_ret
      exact ⟨rfl, HB.out⟩
    | true =>
      obtain ⟨rfl, hk⟩ := F3.out rfl
      clear F3
      by_cases hke : keep = k3
      case pos =>
        have hb3 : (keep == k3) = true := beq_iff_eq.mpr hke
        clear hk hke
        go_wp2_with fail
        go_ret
        exact ⟨rfl, HB.out⟩
      obtain ⟨rfl, rfl, rfl⟩ := hk.resolve_left hke
      have hb3 : (v3 == k3) = false := beq_eq_false_iff_ne.mpr hke
      have hb4 : (v3 == v3) = true := beq_self_eq_true v3
      have hb5 : (v4 == v4) = true := beq_self_eq_true v4
      clear hk hke
      go_wp2_with fail
      go_ret
      exact ⟨by first | rfl | simp, HB.out⟩
  · rw [(cell_nl 0 _ _).2, (cell_nl 0 _ _).2] at G3 G4
    obtain ⟨pc0, pc1, pc2, pc3, pf0, pf1, pf2, pf3⟩ := cs4 BK4.out
    obtain ⟨qc0, qc1, qf0, qf1⟩ := cs2 BK5.out
    obtain ⟨xc0, xc1, xc2, xc3, xc4, xc5, xf0, xf1, xf2, xf3, xf4, xf5⟩ := cs6 BK7.out
    go_wp2_with fail
    clear pc0 pf0 pc1 pf1 pc2 pf2 pc3 pf3
    clear qc0 qf0 qc1 qf1
    clear xc0 xf0 xc1 xf1 xc2 xf2 xc3 xf3 xc4 xf4 xc5 xf5
    refine (cell_twin.calls A0 c0 l0 A1 c1 l1 _ (Kd.C_below HR0.out HB.out) (Kd.C_below HR1.out HB.out) Z1.out Z2.out Z3.out Z4.out).mono ?_
    rintro en wT ⟨B0, d0, B1, d1, rfl, ⟨hc1_, hd1_⟩, ⟨hc2_, hd2_⟩, hb⟩
    have CT0 := Lib.hid hc1_
    have DT0 := Lib.hid hd1_
    have CT1 := Lib.hid hc2_
    have DT1 := Lib.hid hd2_
    clear hc1_ hd1_ hc2_ hd2_ Z1 Z2 Z3 Z4
    replace CB := Lib.hid (Kd.C_below CB.out (below_step HB5.out hb))
    clear HB5
    replace BK4 := Lib.hid (blk_below BK4.out hb)
    replace BK5 := Lib.hid (blk_below BK5.out hb)
    replace BK7 := Lib.hid (blk_below BK7.out hb)
    replace HB := Lib.hid (below_step HB.out hb)
    clear hb
    replace HR0 := Lib.hid (Kd.C_below HR0.out HB.out)
    replace HR1 := Lib.hid (Kd.C_below HR1.out HB.out)
    clear HR4 HR5 HC4 HC5
    have HBT := Lib.hid (Below.refl wT.heap.size wT)
    go_upto_region 11 with (first | ((with_reducible refine gate_dst (N := 14) rfl ?_); refine box_event ?hg (N := 14) ?hd (cs := #[.slice none 0 0, .slice none 0 0]) (t := 42) ?hr ?_; (case hd => rfl); (case hg => rfl); (case hr => first | (go_simp; done) | (go_simp; rfl)); intro gb14 hg_ w7 bk_ hb_; have GE14 := Lib.hid (show w.heap.size ≤ gb14 by rw [hg_]; exact below_size HB.out); have NB4_14 := Lib.hid (show gb4 ≠ gb14 by rw [hg_]; exact Nat.ne_of_lt (blk_lt BK4.out)); have NB14_4 := Lib.hid NB4_14.out.symm; replace BK4 := Lib.hid (blk_below BK4.out hb_); have NB5_14 := Lib.hid (show gb5 ≠ gb14 by rw [hg_]; exact Nat.ne_of_lt (blk_lt BK5.out)); have NB14_5 := Lib.hid NB5_14.out.symm; replace BK5 := Lib.hid (blk_below BK5.out hb_); have NB7_14 := Lib.hid (show gb7 ≠ gb14 by rw [hg_]; exact Nat.ne_of_lt (blk_lt BK7.out)); have NB14_7 := Lib.hid NB7_14.out.symm; replace BK7 := Lib.hid (blk_below BK7.out hb_); have BK14 := Lib.hid bk_; have GT14 := Lib.hid (show wT.heap.size ≤ gb14 by rw [hg_]; exact below_size HBT.out); replace HB := Lib.hid (below_step HB.out hb_); replace HBT := Lib.hid (below_step HBT.out hb_); clear hb_ hg_ bk_; obtain ⟨zc0, zc1, zf0, zf1⟩ := cs2 BK14.out))
    clear zc0 zf0 zc1 zf1
    obtain ⟨hq1_, hq2_, hs_⟩ := st2_0_2 HB.out GE14.out BK14.out (.slice B0 l0.length d0) (.slice B1 l1.length d1)
    obtain ⟨-, hqT_, -⟩ := st2_0_2 HBT.out GT14.out BK14.out (.slice B0 l0.length d0) (.slice B1 l1.length d1)
    generalize ((w7.setCell ⟨gb14, 0, none⟩ (.slice B0 l0.length d0)).setCell ⟨gb14, 1, none⟩ (.slice B1 l1.length d1)) = w8 at hs_ hq1_ hq2_ hqT_ ⊢
    replace BK4 := Lib.hid ((hs_ gb4 NB4_14.out).trans BK4.out)
    replace BK5 := Lib.hid ((hs_ gb5 NB5_14.out).trans BK5.out)
    replace BK7 := Lib.hid ((hs_ gb7 NB7_14.out).trans BK7.out)
    replace BK14 := Lib.hid hq1_
    replace HB := Lib.hid hq2_
    replace HBT := Lib.hid hqT_
    clear hs_ hq1_ hq2_ hqT_
    have hi := tw_ia1 gb14
    obtain ⟨zc0, zc1, zf0, zf1⟩ := cs2 BK14.out
    go_upto_region 12 with fail
    clear zc0 zf0 zc1 zf1 hi
    obtain ⟨hq1_, hq2_, hs_⟩ := st2_1_1 HB.out GE14.out BK14.out (.slice BA bl.length bc)
    obtain ⟨-, hqT_, -⟩ := st2_1_1 HBT.out GT14.out BK14.out (.slice BA bl.length bc)
    generalize (w8.setCell ⟨gb14, 1, none⟩ (.slice BA bl.length bc)) = w9 at hs_ hq1_ hq2_ hqT_ ⊢
    replace BK4 := Lib.hid ((hs_ gb4 NB4_14.out).trans BK4.out)
    replace BK5 := Lib.hid ((hs_ gb5 NB5_14.out).trans BK5.out)
    replace BK7 := Lib.hid ((hs_ gb7 NB7_14.out).trans BK7.out)
    replace BK14 := Lib.hid hq1_
    replace HB := Lib.hid hq2_
    replace HBT := Lib.hid hqT_
    clear hs_ hq1_ hq2_ hqT_
    obtain ⟨pc0, pc1, pc2, pc3, pf0, pf1, pf2, pf3⟩ := cs4 BK4.out
    obtain ⟨xc0, xc1, xc2, xc3, xc4, xc5, xf0, xf1, xf2, xf3, xf4, xf5⟩ := cs6 BK7.out
    obtain ⟨zc0, zc1, zf0, zf1⟩ := cs2 BK14.out
    go_wp2_with fail
    clear pc0 pf0 pc1 pf1 pc2 pf2 pc3 pf3
    clear xc0 xf0 xc1 xf1 xc2 xf2 xc3 xf3 xc4 xf4 xc5 xf5
    clear zc0 zf0 zc1 zf1
    refine (cell_Find.calls k a0 a1 a2 a3 _ _ l0 _ _ bl k1 k2 k3 m t1 t2 k3 t4 t5 t6 true 0 _ (Kd.C_below CT0.out HBT.out) DT0.out (Kd.C_below CB.out HBT.out) DB.out G3.out).mono ?_
    rintro en w10 ⟨u4_, u5_, rfl, ho4, ho5, hb⟩
    obtain ⟨T4, tc4, rfl⟩ := Kd.R_slice ho4
    obtain ⟨T5, tc5, rfl⟩ := Kd.R_slice ho5
    clear ho4 ho5 G3
    replace BK4 := Lib.hid (blk_below BK4.out hb)
    replace BK5 := Lib.hid (blk_below BK5.out hb)
    replace BK7 := Lib.hid (blk_below BK7.out hb)
    replace BK14 := Lib.hid (blk_below BK14.out hb)
    replace HB := Lib.hid (below_step HB.out hb)
    replace HBT := Lib.hid (below_step HBT.out hb)
    clear hb
    go_upto_region 13 with (first | ((with_reducible refine gate_dst (N := 16) rfl ?_); refine box_event ?hg (N := 16) ?hd (cs := #[.int .u8 0, .int .i64 0, .int .i64 0, .int .i64 0, .slice none 0 0, .slice none 0 0]) (t := 27) ?hr ?_; (case hd => rfl); (case hg => rfl); (case hr => first | (go_simp; done) | (go_simp; rfl)); intro gb16 hg_ w11 bk_ hb_; have GE16 := Lib.hid (show w.heap.size ≤ gb16 by rw [hg_]; exact below_size HB.out); have NB4_16 := Lib.hid (show gb4 ≠ gb16 by rw [hg_]; exact Nat.ne_of_lt (blk_lt BK4.out)); have NB16_4 := Lib.hid NB4_16.out.symm; replace BK4 := Lib.hid (blk_below BK4.out hb_); have NB5_16 := Lib.hid (show gb5 ≠ gb16 by rw [hg_]; exact Nat.ne_of_lt (blk_lt BK5.out)); have NB16_5 := Lib.hid NB5_16.out.symm; replace BK5 := Lib.hid (blk_below BK5.out hb_); have NB7_16 := Lib.hid (show gb7 ≠ gb16 by rw [hg_]; exact Nat.ne_of_lt (blk_lt BK7.out)); have NB16_7 := Lib.hid NB7_16.out.symm; replace BK7 := Lib.hid (blk_below BK7.out hb_); have NB14_16 := Lib.hid (show gb14 ≠ gb16 by rw [hg_]; exact Nat.ne_of_lt (blk_lt BK14.out)); have NB16_14 := Lib.hid NB14_16.out.symm; replace BK14 := Lib.hid (blk_below BK14.out hb_); have BK16 := Lib.hid bk_; have GT16 := Lib.hid (show wT.heap.size ≤ gb16 by rw [hg_]; exact below_size HBT.out); replace HB := Lib.hid (below_step HB.out hb_); replace HBT := Lib.hid (below_step HBT.out hb_); clear hb_ hg_ bk_; obtain ⟨zc0, zc1, zc2, zc3, zc4, zc5, zf0, zf1, zf2, zf3, zf4, zf5⟩ := cs6 BK16.out))
    clear zc0 zf0 zc1 zf1 zc2 zf2 zc3 zf3 zc4 zf4 zc5 zf5
    obtain ⟨hq1_, hq2_, hs_⟩ := st6_0_6 HB.out GE16.out BK16.out (.int .u8 t1) (.int .i64 t2) (.int .i64 k3) (.int .i64 t4) (.slice T4 t5.length tc4) (.slice T5 t6.length tc5)
    obtain ⟨-, hqT_, -⟩ := st6_0_6 HBT.out GT16.out BK16.out (.int .u8 t1) (.int .i64 t2) (.int .i64 k3) (.int .i64 t4) (.slice T4 t5.length tc4) (.slice T5 t6.length tc5)
    generalize ((((((w11.setCell ⟨gb16, 0, none⟩ (.int .u8 t1)).setCell ⟨gb16, 1, none⟩ (.int .i64 t2)).setCell ⟨gb16, 2, none⟩ (.int .i64 k3)).setCell ⟨gb16, 3, none⟩ (.int .i64 t4)).setCell ⟨gb16, 4, none⟩ (.slice T4 t5.length tc4)).setCell ⟨gb16, 5, none⟩ (.slice T5 t6.length tc5)) = w12 at hs_ hq1_ hq2_ hqT_ ⊢
    replace BK4 := Lib.hid ((hs_ gb4 NB4_16.out).trans BK4.out)
    replace BK5 := Lib.hid ((hs_ gb5 NB5_16.out).trans BK5.out)
    replace BK7 := Lib.hid ((hs_ gb7 NB7_16.out).trans BK7.out)
    replace BK14 := Lib.hid ((hs_ gb14 NB14_16.out).trans BK14.out)
    replace BK16 := Lib.hid hq1_
    replace HB := Lib.hid hq2_
    replace HBT := Lib.hid hqT_
    clear hs_ hq1_ hq2_ hqT_
    obtain ⟨tc0, tc1, tc2, tc3, tc4, tc5, tf0, tf1, tf2, tf3, tf4, tf5⟩ := cs6 BK16.out
    obtain ⟨xc0, xc1, xc2, xc3, xc4, xc5, xf0, xf1, xf2, xf3, xf4, xf5⟩ := cs6 BK7.out
    have hkk : (k3 != k3) = false := bne_self_eq_false k3
    by_cases hkp : keep = 0
    case pos =>
      subst hkp
      go_wp2_with fail
      go_ret
      exact ⟨rfl, HB.out⟩
    obtain ⟨hx1, hx2, hx3⟩ := G4.out hkp
    have F1 := Lib.hid hx1
    have F2 := Lib.hid hx2
    have F3 := Lib.hid hx3
    clear hx1 hx2 hx3 G4
    have hkb : (keep == 0) = false := beq_eq_false_iff_ne.mpr hkp
    clear hkp
    obtain ⟨pc0, pc1, pc2, pc3, pf0, pf1, pf2, pf3⟩ := cs4 BK4.out
    obtain ⟨qc0, qc1, qf0, qf1⟩ := cs2 BK5.out
    go_wp2_with fail
    clear pc0 pf0 pc1 pf1 pc2 pf2 pc3 pf3
    clear qc0 qf0 qc1 qf1
    clear tc0 tf0 tc1 tf1 tc2 tf2 tc3 tf3 tc4 tf4 tc5 tf5
    clear xc0 xf0 xc1 xf1 xc2 xf2 xc3 xf3 xc4 xf4 xc5 xf5
    refine (cell_Find.calls k a0 a1 a2 a3 _ _ l0 _ _ l1 k1 k2 keep o u1 u2 u3 u4 u5 u6 u7 0 _ (Kd.C_below HR0.out HBT.out) HC0.out (Kd.C_below HR1.out HBT.out) HC1.out F1.out).mono ?_
    rintro en w13 ⟨u4_, u5_, rfl, ho4, ho5, hb⟩
    obtain ⟨U4, uc4, rfl⟩ := Kd.R_slice ho4
    obtain ⟨U5, uc5, rfl⟩ := Kd.R_slice ho5
    have CU := Lib.hid (Kd.R_reads' ho5).2.2
    clear ho4 ho5 F1
    replace BK4 := Lib.hid (blk_below BK4.out hb)
    replace BK7 := Lib.hid (blk_below BK7.out hb)
    replace BK14 := Lib.hid (blk_below BK14.out hb)
    replace HB := Lib.hid (below_step HB.out hb)
    replace HBT := Lib.hid (below_step HBT.out hb)
    clear hb
    have wU := w13
    have HBU := Lib.hid (Below.refl w13.heap.size w13)
    go_upto_region 18 with (first | ((with_reducible refine gate_dst (N := 20) rfl ?_); refine box_event ?hg (N := 20) ?hd (cs := #[.int .u8 0, .int .i64 0, .int .i64 0, .int .i64 0, .slice none 0 0, .slice none 0 0]) (t := 27) ?hr ?_; (case hd => rfl); (case hg => rfl); (case hr => first | (go_simp; done) | (go_simp; rfl)); intro gb20 hg_ w14 bk_ hb_; have GE20 := Lib.hid (show w.heap.size ≤ gb20 by rw [hg_]; exact below_size HB.out); have NB4_20 := Lib.hid (show gb4 ≠ gb20 by rw [hg_]; exact Nat.ne_of_lt (blk_lt BK4.out)); have NB20_4 := Lib.hid NB4_20.out.symm; replace BK4 := Lib.hid (blk_below BK4.out hb_); have NB7_20 := Lib.hid (show gb7 ≠ gb20 by rw [hg_]; exact Nat.ne_of_lt (blk_lt BK7.out)); have NB20_7 := Lib.hid NB7_20.out.symm; replace BK7 := Lib.hid (blk_below BK7.out hb_); have NB14_20 := Lib.hid (show gb14 ≠ gb20 by rw [hg_]; exact Nat.ne_of_lt (blk_lt BK14.out)); have NB20_14 := Lib.hid NB14_20.out.symm; replace BK14 := Lib.hid (blk_below BK14.out hb_); have BK20 := Lib.hid bk_; have GT20 := Lib.hid (show wT.heap.size ≤ gb20 by rw [hg_]; exact below_size HBT.out); replace HB := Lib.hid (below_step HB.out hb_); have GU20 := Lib.hid (show w13.heap.size ≤ gb20 by rw [hg_]; exact below_size HBU.out); replace HBT := Lib.hid (below_step HBT.out hb_); replace HBU := Lib.hid (below_step HBU.out hb_); clear hb_ hg_ bk_; obtain ⟨zc0, zc1, zc2, zc3, zc4, zc5, zf0, zf1, zf2, zf3, zf4, zf5⟩ := cs6 BK20.out))
    clear zc0 zf0 zc1 zf1 zc2 zf2 zc3 zf3 zc4 zf4 zc5 zf5
    obtain ⟨hq1_, hq2_, hs_⟩ := st6_0_6 HB.out GE20.out BK20.out (.int .u8 u1) (.int .i64 u2) (.int .i64 u3) (.int .i64 u4) (.slice U4 u5.length uc4) (.slice U5 u6.length uc5)
    obtain ⟨-, hqT_, -⟩ := st6_0_6 HBT.out GT20.out BK20.out (.int .u8 u1) (.int .i64 u2) (.int .i64 u3) (.int .i64 u4) (.slice U4 u5.length uc4) (.slice U5 u6.length uc5)
    obtain ⟨-, hqU_, -⟩ := st6_0_6 HBU.out GU20.out BK20.out (.int .u8 u1) (.int .i64 u2) (.int .i64 u3) (.int .i64 u4) (.slice U4 u5.length uc4) (.slice U5 u6.length uc5)
    generalize ((((((w14.setCell ⟨gb20, 0, none⟩ (.int .u8 u1)).setCell ⟨gb20, 1, none⟩ (.int .i64 u2)).setCell ⟨gb20, 2, none⟩ (.int .i64 u3)).setCell ⟨gb20, 3, none⟩ (.int .i64 u4)).setCell ⟨gb20, 4, none⟩ (.slice U4 u5.length uc4)).setCell ⟨gb20, 5, none⟩ (.slice U5 u6.length uc5)) = w15 at hs_ hq1_ hq2_ hqT_ hqU_ ⊢
    replace BK4 := Lib.hid ((hs_ gb4 NB4_20.out).trans BK4.out)
    replace BK7 := Lib.hid ((hs_ gb7 NB7_20.out).trans BK7.out)
    replace BK14 := Lib.hid ((hs_ gb14 NB14_20.out).trans BK14.out)
    replace BK20 := Lib.hid hq1_
    replace HB := Lib.hid hq2_
    replace HBT := Lib.hid hqT_
    replace HBU := Lib.hid hqU_
    clear hs_ hq1_ hq2_ hqT_ hqU_
    obtain ⟨pc0, pc1, pc2, pc3, pf0, pf1, pf2, pf3⟩ := cs4 BK4.out
    obtain ⟨xc0, xc1, xc2, xc3, xc4, xc5, xf0, xf1, xf2, xf3, xf4, xf5⟩ := cs6 BK7.out
    obtain ⟨zc0, zc1, zf0, zf1⟩ := cs2 BK14.out
    go_wp2_with fail
    clear pc0 pf0 pc1 pf1 pc2 pf2 pc3 pf3
    clear xc0 xf0 xc1 xf1 xc2 xf2 xc3 xf3 xc4 xf4 xc5 xf5
    clear zc0 zf0 zc1 zf1
    refine (cell_Find.calls k a0 a1 a2 a3 _ _ l0 _ _ bl k1 k2 keep q v1 v2 v3 v4 v5 v6 v7 0 _ (Kd.C_below CT0.out HBT.out) DT0.out (Kd.C_below CB.out HBT.out) DB.out F2.out).mono ?_
    rintro en w16 ⟨u4_, u5_, rfl, ho4, ho5, hb⟩
    obtain ⟨V4, vc4, rfl⟩ := Kd.R_slice ho4
    obtain ⟨V5, vc5, rfl⟩ := Kd.R_slice ho5
    have CV := Lib.hid (Kd.R_reads' ho5).2.2
    clear ho4 ho5 F2
    replace HBU := Lib.hid (below_step HBU.out hb)
    replace BK7 := Lib.hid (blk_below BK7.out hb)
    replace BK20 := Lib.hid (blk_below BK20.out hb)
    replace HB := Lib.hid (below_step HB.out hb)
    replace HBT := Lib.hid (below_step HBT.out hb)
    clear hb
    have CU' := Lib.hid (Kd.C_below CU.out HBU.out)
    clear CU HBU
    have HBU := Lib.hid (Below.refl w16.heap.size w16)
    go_upto_region 19 with (first | ((with_reducible refine gate_dst (N := 24) rfl ?_); refine box_event ?hg (N := 24) ?hd (cs := #[.int .u8 0, .int .i64 0, .int .i64 0, .int .i64 0, .slice none 0 0, .slice none 0 0]) (t := 27) ?hr ?_; (case hd => rfl); (case hg => rfl); (case hr => first | (go_simp; done) | (go_simp; rfl)); intro gb24 hg_ w17 bk_ hb_; have GE24 := Lib.hid (show w.heap.size ≤ gb24 by rw [hg_]; exact below_size HB.out); have NB7_24 := Lib.hid (show gb7 ≠ gb24 by rw [hg_]; exact Nat.ne_of_lt (blk_lt BK7.out)); have NB24_7 := Lib.hid NB7_24.out.symm; replace BK7 := Lib.hid (blk_below BK7.out hb_); have NB20_24 := Lib.hid (show gb20 ≠ gb24 by rw [hg_]; exact Nat.ne_of_lt (blk_lt BK20.out)); have NB24_20 := Lib.hid NB20_24.out.symm; replace BK20 := Lib.hid (blk_below BK20.out hb_); have BK24 := Lib.hid bk_; have GT24 := Lib.hid (show wT.heap.size ≤ gb24 by rw [hg_]; exact below_size HBT.out); replace HB := Lib.hid (below_step HB.out hb_); have GU24 := Lib.hid (show w16.heap.size ≤ gb24 by rw [hg_]; exact below_size HBU.out); replace HBT := Lib.hid (below_step HBT.out hb_); replace HBU := Lib.hid (below_step HBU.out hb_); clear hb_ hg_ bk_; obtain ⟨zc0, zc1, zc2, zc3, zc4, zc5, zf0, zf1, zf2, zf3, zf4, zf5⟩ := cs6 BK24.out))
    clear zc0 zf0 zc1 zf1 zc2 zf2 zc3 zf3 zc4 zf4 zc5 zf5
    obtain ⟨hq1_, hq2_, hs_⟩ := st6_0_6 HB.out GE24.out BK24.out (.int .u8 v1) (.int .i64 v2) (.int .i64 v3) (.int .i64 v4) (.slice V4 v5.length vc4) (.slice V5 v6.length vc5)
    obtain ⟨-, hqT_, -⟩ := st6_0_6 HBT.out GT24.out BK24.out (.int .u8 v1) (.int .i64 v2) (.int .i64 v3) (.int .i64 v4) (.slice V4 v5.length vc4) (.slice V5 v6.length vc5)
    obtain ⟨-, hqU_, -⟩ := st6_0_6 HBU.out GU24.out BK24.out (.int .u8 v1) (.int .i64 v2) (.int .i64 v3) (.int .i64 v4) (.slice V4 v5.length vc4) (.slice V5 v6.length vc5)
    generalize ((((((w17.setCell ⟨gb24, 0, none⟩ (.int .u8 v1)).setCell ⟨gb24, 1, none⟩ (.int .i64 v2)).setCell ⟨gb24, 2, none⟩ (.int .i64 v3)).setCell ⟨gb24, 3, none⟩ (.int .i64 v4)).setCell ⟨gb24, 4, none⟩ (.slice V4 v5.length vc4)).setCell ⟨gb24, 5, none⟩ (.slice V5 v6.length vc5)) = w18 at hs_ hq1_ hq2_ hqT_ hqU_ ⊢
    replace BK7 := Lib.hid ((hs_ gb7 NB7_24.out).trans BK7.out)
    replace BK20 := Lib.hid ((hs_ gb20 NB20_24.out).trans BK20.out)
    replace BK24 := Lib.hid hq1_
    replace HB := Lib.hid hq2_
    replace HBT := Lib.hid hqT_
    replace HBU := Lib.hid hqU_
    clear hs_ hq1_ hq2_ hqT_ hqU_
    obtain ⟨xc0, xc1, xc2, xc3, xc4, xc5, xf0, xf1, xf2, xf3, xf4, xf5⟩ := cs6 BK7.out
    obtain ⟨zuc0, zuc1, zuc2, zuc3, zuc4, zuc5, zuf0, zuf1, zuf2, zuf3, zuf4, zuf5⟩ := cs6 BK20.out
    obtain ⟨zvc0, zvc1, zvc2, zvc3, zvc4, zvc5, zvf0, zvf1, zvf2, zvf3, zvf4, zvf5⟩ := cs6 BK24.out
    have hsV := Kd.C_string (P := Try.prog) (A := V5) (c := vc5) Try.underlying25 Try.underlying5 Try.underlying9 (Kd.C_below CV.out HBU.out)
    have hsU := Kd.C_string (P := Try.prog) (A := U5) (c := uc5) Try.underlying25 Try.underlying5 Try.underlying9 (Kd.C_below CU'.out HBU.out)
    cases u7 with
    | false =>
      go_wp2_with fail
      go_ret
      exact ⟨rfl, HB.out⟩
    | true =>
      obtain ⟨rfl, hk⟩ := F3.out rfl
      clear F3
      by_cases hke : keep = k3
      case pos =>
        have hb3 : (keep == k3) = true := beq_iff_eq.mpr hke
        clear hk hke
        go_wp2_with fail
        go_ret
        exact ⟨rfl, HB.out⟩
      obtain ⟨rfl, rfl, rfl⟩ := hk.resolve_left hke
      have hb3 : (v3 == k3) = false := beq_eq_false_iff_ne.mpr hke
      have hb4 : (v3 == v3) = true := beq_self_eq_true v3
      have hb5 : (v4 == v4) = true := beq_self_eq_true v4
      clear hk hke
      go_wp2_with fail
      go_ret
      exact ⟨by first | rfl | simp, HB.out⟩
end Go.Proofs.Ytihefjdabjmmaaa.PD
