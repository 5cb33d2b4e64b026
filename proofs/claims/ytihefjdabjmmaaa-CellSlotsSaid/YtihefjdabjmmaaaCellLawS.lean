/- The law CellSlots, walked. No condition. -/
import Derived.Test.YtihefjdabjmmaaaCellSame
import Derived.Test.YtihefjdabjmmaaaCellRNew
import Derived.Test.YtihefjdabjmmaaaPDx10
namespace Go.Proofs.Ytihefjdabjmmaaa.PD
open Go Go.RowKit Go.Proofs.YtihefjdabjmmaaaW.PrintWords Go.Proofs.YtihefjdabjmmaaaW.PrintLast Go.Proofs.YtihefjdabjmmaaaW.PrintMore
set_option linter.unusedVariables false
theorem R_reok {k : IntKind} {e : Nat} {w : World} {base : Nat} {ok ok' : Nat → Prop} {v : Value} {xs : List Int} (h : (Kd.int k).R e w base ok v xs) (h' : ∀ k, v.ownBlock = some k → ok' k) : (Kd.int k).R e w base ok' v xs := by
  obtain ⟨A, c, rfl⟩ := Kd.R_slice h
  exact Kd.R_of_own (h1 := fun _ => rfl) (Kd.own_of_R h) h'
theorem nat_go {n : Nat} {l : List Int} (h : n = l.length) (hm : n ≤ 9223372036854775807) {j : Nat} (hj : j < n) : wrap64 ((j : Int) + 1) = ((j + 1 : Nat) : Int) := by unfold wrap64; omega
set_option maxHeartbeats 16000000 in
set_option maxRecDepth 100000 in
theorem cell_law_Slots.calls (k : Nat) (a0 a1 a2 a3 : Int) (A0 : Option Addr) (c0 : Nat) (l0 : List Int) (A1 : Option Addr) (c1 : Nat) (l1 : List Int) (kind index version : Int)
    (m : Bool) (sz nn : Int) (vr : Bool) (e r1 r2 r3 r4 : Int) (r5 r6 : List Int) (r7 : Bool) (o1 o2 o3 o4 : Int) (o5 o6 : List Int) (o7 : Bool) (s1 s2 s3 s4 : Int) (s5 s6 : List Int) (s7 : Bool) (q1 q2 q3 q4 : Int) (q5 q6 : List Int) (q7 : Bool)
    (n t1 t2 t3 t4 : Int) (t5 t6 : List Int) (t7 : Bool) (te : Int) (g u1 u2 u3 u4 : Int) (u5 u6 : List Int) (u7 : Bool) (ue : Int) (x xe : Int) (w : World)
    (hr0 : Kd.C (Kd.int .u8) w A0 l0.length l0) (hc0 : l0.length ≤ c0) (hr1 : Kd.C (Kd.int .u8) w A1 l1.length l1) (hc1 : l1.length ≤ c1)
    (h1 : cell_Older.f k 2 1 16 8 [] [] 1 0 0 = some (0, 0)) (h2 : cell_Newest.f k 2 1 16 8 [] [] 9 0 = some (0, 0, 0, 0, 0, [], [], false, 2))
    (hz1 : bytesOf (strOfNums l0) = l0) (hz2 : bytesOf (strOfNums l1) = l1) (hz3 : (strOfNums l0).size ≤ 140737488351232) (hz4 : (strOfNums l1).size ≤ 140737488351232)
    (hm : twoslotref06_May.f a0 a1 a2 a3 = some m) (hs : twoslotref06_Size.f a0 a1 a2 a3 = some sz) (hn : twoslotref06_N.f a0 a1 a2 a3 = some nn) (he : rAsked.f m sz nn l0 l1 kind index = e) (hv : twoslotref10_Version.f version = some vr)
    (hd : e = 0 → twoslotref10_Read.f k a0 a1 a2 a3 l0 = some (r1, r2, r3, r4, r5, r6, r7) ∧ twoslotref10_Read.f k a0 a1 a2 a3 l1 = some (s1, s2, s3, s4, s5, s6, s7)) (h0 : rOf.of r1 r2 r3 r4 r5 r6 r7 index = (o1, o2, o3, o4, o5, o6, o7)) (hq : rOf.of s1 s2 s3 s4 s5 s6 s7 index = (q1, q2, q3, q4, q5, q6, q7))
    (hF : cell_Find.f k a0 a1 a2 a3 l0 l1 kind index version = some (n, t1, t2, t3, t4, t5, t6, t7, te)) (hRF : rFind.f e vr (cell_Find.of (held_at.f o1 o3 o7 q1 q3 q7 kind version) o1 o2 o3 o4 o5 o6 q1 q2 q3 q4 q5 q6) = (n, t1, t2, t3, t4, t5, t6, t7, te)) (hS1 : twoslotref10_Same.f k t1 t2 t3 t4 t5 t6 t1 t2 t3 t4 t5 t6 = some true)
    (hN : cell_Newest.f k a0 a1 a2 a3 l0 l1 kind index = some (g, u1, u2, u3, u4, u5, u6, u7, ue)) (hRN : rNewest.f e (cell_Newest.of o1 o2 o3 o4 o5 o6 o7 q1 q2 q3 q4 q5 q6 q7 kind) = (g, u1, u2, u3, u4, u5, u6, u7, ue)) (hS2 : twoslotref10_Same.f k u1 u2 u3 u4 u5 u6 u1 u2 u3 u4 u5 u6 = some true)
    (hO : cell_Older.f k a0 a1 a2 a3 l0 l1 kind index version = some (x, xe)) (hRO : rOlder.f e vr (held_at.f o1 o3 o7 q1 q3 q7 kind version) o3 o7 q3 q7 version = (x, xe)) :
    Calls Try.prog 7 #[.agg #[.int .i64 a0, .int .i64 a1, .int .i64 a2, .int .i64 a3], .agg #[.slice A0 l0.length c0, .slice A1 l1.length c1], .int .u8 kind, .int .i64 index, .int .i64 version] w fun en w' => en = .returned (.bool true) ∧ Below w.heap.size w w' := by
  have hu23 := Try.underlying23
  have hu27 := Try.underlying27
  have hu42 := Try.underlying42
  have HB := Lib.hid (Below.refl w.heap.size w)
  have HR0 := Lib.hid hr0
  have HC0 := Lib.hid hc0
  have HR1 := Lib.hid hr1
  have HC1 := Lib.hid hc1
  have H1 := Lib.hid h1
  have H2 := Lib.hid h2
  have Z1 := Lib.hid hz1
  have Z2 := Lib.hid hz2
  have Z3 := Lib.hid hz3
  have Z4 := Lib.hid hz4
  have HM := Lib.hid hm
  have HS := Lib.hid hs
  have HN := Lib.hid hn
  have HE := Lib.hid he
  have HV := Lib.hid hv
  have HD := Lib.hid hd
  have HO0 := Lib.hid h0
  have HO1 := Lib.hid hq
  have HF := Lib.hid hF
  have HRF := Lib.hid hRF
  have HS1 := Lib.hid hS1
  have HNW := Lib.hid hN
  have HRN := Lib.hid hRN
  have HS2 := Lib.hid hS2
  have HO := Lib.hid hO
  have HRO := Lib.hid hRO
  clear hr0 hc0 hr1 hc1 h1 h2 hz1 hz2 hz3 hz4 hm hs hn he hv hd h0 hq hF hRF hS1 hN hRN hS2 hO hRO
  go_enter Try.func7, Try.ntmps7
  go_upto_region 1 with (first | ((with_reducible refine gate_dst (N := 5) rfl ?_); refine box_event ?hg (N := 5) ?hd (cs := #[.int .i64 a0, .int .i64 a1, .int .i64 a2, .int .i64 a3]) (t := 23) ?hr ?_; (case hd => rfl); (case hg => rfl); (case hr => first | (go_simp; done) | (go_simp; rfl)); intro gb5 hg_ w1 bk_ hb_; have GE5 := Lib.hid (show w.heap.size ≤ gb5 by rw [hg_]; exact below_size HB.out); have BK5 := Lib.hid bk_; replace HB := Lib.hid (below_step HB.out hb_); clear hb_ hg_ bk_) | ((with_reducible refine gate_dst (N := 6) rfl ?_); refine box_event ?hg (N := 6) ?hd (cs := #[.slice A0 l0.length c0, .slice A1 l1.length c1]) (t := 42) ?hr ?_; (case hd => rfl); (case hg => rfl); (case hr => first | (go_simp; done) | (go_simp; rfl)); intro gb6 hg_ w2 bk_ hb_; have GE6 := Lib.hid (show w.heap.size ≤ gb6 by rw [hg_]; exact below_size HB.out); have NB5_6 := Lib.hid (show gb5 ≠ gb6 by rw [hg_]; exact Nat.ne_of_lt (blk_lt BK5.out)); have NB6_5 := Lib.hid NB5_6.out.symm; replace BK5 := Lib.hid (blk_below BK5.out hb_); have BK6 := Lib.hid bk_; replace HB := Lib.hid (below_step HB.out hb_); clear hb_ hg_ bk_))
  go_wp2_with fail
  refine (cell_awake.calls k _ H1.out H2.out).mono ?_
  rintro en w3 ⟨rfl, hb⟩
  replace BK5 := Lib.hid (blk_below BK5.out hb)
  replace BK6 := Lib.hid (blk_below BK6.out hb)
  replace HB := Lib.hid (below_step HB.out hb)
  clear hb
  obtain ⟨pc0, pc1, pc2, pc3, pf0, pf1, pf2, pf3⟩ := cs4 BK5.out
  obtain ⟨qc0, qc1, qf0, qf1⟩ := cs2 BK6.out
  go_wp2_with fail
  clear pc0 pf0 pc1 pf1 pc2 pf2 pc3 pf3
  clear qc0 qf0 qc1 qf1
  refine (cell_twin.calls A0 c0 l0 A1 c1 l1 _ (Kd.C_below HR0.out HB.out) (Kd.C_below HR1.out HB.out) Z1.out Z2.out Z3.out Z4.out).mono ?_
  rintro en wT ⟨B0, d0, B1, d1, rfl, ⟨hc1_, hd1_⟩, ⟨hc2_, hd2_⟩, hb⟩
  have CT0 := Lib.hid hc1_
  have DT0 := Lib.hid hd1_
  have CT1 := Lib.hid hc2_
  have DT1 := Lib.hid hd2_
  clear hc1_ hd1_ hc2_ hd2_ Z1 Z2 Z3 Z4 H1 H2
  replace BK5 := Lib.hid (blk_below BK5.out hb)
  replace BK6 := Lib.hid (blk_below BK6.out hb)
  replace HB := Lib.hid (below_step HB.out hb)
  clear hb
  have HWT := Lib.hid HB.out.size
  have HBT := Lib.hid (Below.refl wT.heap.size wT)
  go_upto_region 5 with (first | ((with_reducible refine gate_dst (N := 12) rfl ?_); refine box_event ?hg (N := 12) ?hd (cs := #[.slice none 0 0, .slice none 0 0]) (t := 42) ?hr ?_; (case hd => rfl); (case hg => rfl); (case hr => first | (go_simp; done) | (go_simp; rfl)); intro gb12 hg_ w7 bk_ hb_; have GE12 := Lib.hid (show w.heap.size ≤ gb12 by rw [hg_]; exact below_size HB.out); have NB5_12 := Lib.hid (show gb5 ≠ gb12 by rw [hg_]; exact Nat.ne_of_lt (blk_lt BK5.out)); have NB12_5 := Lib.hid NB5_12.out.symm; replace BK5 := Lib.hid (blk_below BK5.out hb_); have NB6_12 := Lib.hid (show gb6 ≠ gb12 by rw [hg_]; exact Nat.ne_of_lt (blk_lt BK6.out)); have NB12_6 := Lib.hid NB6_12.out.symm; replace BK6 := Lib.hid (blk_below BK6.out hb_); have BK12 := Lib.hid bk_; have GT12 := Lib.hid (show wT.heap.size ≤ gb12 by rw [hg_]; exact below_size HBT.out); replace HB := Lib.hid (below_step HB.out hb_); replace HBT := Lib.hid (below_step HBT.out hb_); clear hb_ hg_ bk_; obtain ⟨zc0, zc1, zf0, zf1⟩ := cs2 BK12.out))
  clear zc0 zf0 zc1 zf1
  obtain ⟨hq1_, hq2_, hs_⟩ := st2_0_2 HB.out GE12.out BK12.out (.slice B0 l0.length d0) (.slice B1 l1.length d1)
  obtain ⟨-, hqT_, -⟩ := st2_0_2 HBT.out GT12.out BK12.out (.slice B0 l0.length d0) (.slice B1 l1.length d1)
  generalize ((w7.setCell ⟨gb12, 0, none⟩ (.slice B0 l0.length d0)).setCell ⟨gb12, 1, none⟩ (.slice B1 l1.length d1)) = w8 at hs_ hq1_ hq2_ hqT_ ⊢
  replace BK5 := Lib.hid ((hs_ gb5 NB5_12.out).trans BK5.out)
  replace BK6 := Lib.hid ((hs_ gb6 NB6_12.out).trans BK6.out)
  replace BK12 := Lib.hid hq1_
  replace HB := Lib.hid hq2_
  replace HBT := Lib.hid hqT_
  clear hs_ hq1_ hq2_ hqT_
  obtain ⟨pc0, pc1, pc2, pc3, pf0, pf1, pf2, pf3⟩ := cs4 BK5.out
  obtain ⟨qc0, qc1, qf0, qf1⟩ := cs2 BK12.out
  go_wp2_with fail
  clear pc0 pf0 pc1 pf1 pc2 pf2 pc3 pf3
  clear qc0 qf0 qc1 qf1
  refine (cell_Find.calls k a0 a1 a2 a3 _ _ l0 _ _ l1 kind index version n t1 t2 t3 t4 t5 t6 t7 te _ (Kd.C_below CT0.out HBT.out) DT0.out (Kd.C_below CT1.out HBT.out) DT1.out HF.out).mono ?_
  rintro en w9 ⟨u4_, u5_, rfl, ho4, ho5, hb⟩
  obtain ⟨T4, Tc4, rfl⟩ := Kd.R_slice ho4
  obtain ⟨T5, Tc5, rfl⟩ := Kd.R_slice ho5
  have RT4 := Lib.hid (Kd.R_lower ho4 HBT.out.size)
  have RT5 := Lib.hid (Kd.R_lower ho5 HBT.out.size)
  clear ho4 ho5
  replace BK5 := Lib.hid (blk_below BK5.out hb)
  replace BK6 := Lib.hid (blk_below BK6.out hb)
  replace BK12 := Lib.hid (blk_below BK12.out hb)
  replace HB := Lib.hid (below_step HB.out hb)
  replace HBT := Lib.hid (below_step HBT.out hb)
  clear hb
  go_upto_region 6 with (first | ((with_reducible refine gate_dst (N := 14) rfl ?_); refine box_event ?hg (N := 14) ?hd (cs := #[.int .u8 0, .int .i64 0, .int .i64 0, .int .i64 0, .slice none 0 0, .slice none 0 0]) (t := 27) ?hr ?_; (case hd => rfl); (case hg => rfl); (case hr => first | (go_simp; done) | (go_simp; rfl)); intro gb14 hg_ w10 bk_ hb_; have GE14 := Lib.hid (show w.heap.size ≤ gb14 by rw [hg_]; exact below_size HB.out); have NB5_14 := Lib.hid (show gb5 ≠ gb14 by rw [hg_]; exact Nat.ne_of_lt (blk_lt BK5.out)); have NB14_5 := Lib.hid NB5_14.out.symm; replace BK5 := Lib.hid (blk_below BK5.out hb_); have NB6_14 := Lib.hid (show gb6 ≠ gb14 by rw [hg_]; exact Nat.ne_of_lt (blk_lt BK6.out)); have NB14_6 := Lib.hid NB6_14.out.symm; replace BK6 := Lib.hid (blk_below BK6.out hb_); have NB12_14 := Lib.hid (show gb12 ≠ gb14 by rw [hg_]; exact Nat.ne_of_lt (blk_lt BK12.out)); have NB14_12 := Lib.hid NB12_14.out.symm; replace BK12 := Lib.hid (blk_below BK12.out hb_); have BK14 := Lib.hid bk_; replace RT4 := Lib.hid (Kd.R_below RT4.out hb_); replace RT5 := Lib.hid (Kd.R_below RT5.out hb_); have GT14 := Lib.hid (show wT.heap.size ≤ gb14 by rw [hg_]; exact below_size HBT.out); replace HB := Lib.hid (below_step HB.out hb_); replace HBT := Lib.hid (below_step HBT.out hb_); clear hb_ hg_ bk_; obtain ⟨zc0, zc1, zc2, zc3, zc4, zc5, zf0, zf1, zf2, zf3, zf4, zf5⟩ := cs6 BK14.out))
  clear zc0 zf0 zc1 zf1 zc2 zf2 zc3 zf3 zc4 zf4 zc5 zf5
  obtain ⟨hq1_, hq2_, hs_⟩ := st6_0_6 HB.out GE14.out BK14.out (.int .u8 t1) (.int .i64 t2) (.int .i64 t3) (.int .i64 t4) (.slice T4 t5.length Tc4) (.slice T5 t6.length Tc5)
  obtain ⟨-, hqT_, -⟩ := st6_0_6 HBT.out GT14.out BK14.out (.int .u8 t1) (.int .i64 t2) (.int .i64 t3) (.int .i64 t4) (.slice T4 t5.length Tc4) (.slice T5 t6.length Tc5)
  generalize ((((((w10.setCell ⟨gb14, 0, none⟩ (.int .u8 t1)).setCell ⟨gb14, 1, none⟩ (.int .i64 t2)).setCell ⟨gb14, 2, none⟩ (.int .i64 t3)).setCell ⟨gb14, 3, none⟩ (.int .i64 t4)).setCell ⟨gb14, 4, none⟩ (.slice T4 t5.length Tc4)).setCell ⟨gb14, 5, none⟩ (.slice T5 t6.length Tc5)) = w11 at hs_ hq1_ hq2_ hqT_ ⊢
  replace RT4 := Lib.hid (Kd.R_mono (Kd.R_step (Kd.R_types RT4.out BK14.out (by decide)) (fun k hk _ => hs_ k hk.2)) (ok' := fun _ => True) (fun _ _ => trivial))
  replace RT5 := Lib.hid (Kd.R_mono (Kd.R_step (Kd.R_types RT5.out BK14.out (by decide)) (fun k hk _ => hs_ k hk.2)) (ok' := fun _ => True) (fun _ _ => trivial))
  replace BK5 := Lib.hid ((hs_ gb5 NB5_14.out).trans BK5.out)
  replace BK6 := Lib.hid ((hs_ gb6 NB6_14.out).trans BK6.out)
  replace BK12 := Lib.hid ((hs_ gb12 NB12_14.out).trans BK12.out)
  replace BK14 := Lib.hid hq1_
  replace HB := Lib.hid hq2_
  replace HBT := Lib.hid hqT_
  clear hs_ hq1_ hq2_ hqT_
  have LT5 := Lib.hid (Kd.R_lt RT5.out)
  obtain ⟨pc0, pc1, pc2, pc3, pf0, pf1, pf2, pf3⟩ := cs4 BK5.out
  obtain ⟨qc0, qc1, qf0, qf1⟩ := cs2 BK6.out
  go_wp2_with fail
  clear pc0 pf0 pc1 pf1 pc2 pf2 pc3 pf3
  clear qc0 qf0 qc1 qf1
  refine (rFind.calls k a0 a1 a2 a3 _ _ l0 _ _ l1 kind index version r1 r2 r3 r4 r5 r6 r7 o1 o2 o3 o4 o5 o6 o7 s1 s2 s3 s4 s5 s6 s7 q1 q2 q3 q4 q5 q6 q7 m sz nn vr e n t1 t2 t3 t4 t5 t6 t7 te _ (Kd.C_below HR0.out HB.out) HC0.out (Kd.C_below HR1.out HB.out) HC1.out HM.out HS.out HN.out HE.out HV.out HD.out HO0.out HO1.out HRF.out).mono ?_
  rintro en w12 ⟨u4_, u5_, rfl, ho4, ho5, hb⟩
  obtain ⟨F4, Fc4, rfl⟩ := Kd.R_slice ho4
  obtain ⟨F5, Fc5, rfl⟩ := Kd.R_slice ho5
  have RF4 := Lib.hid (ho4)
  have RF5 := Lib.hid (ho5)
  clear ho4 ho5
  replace BK5 := Lib.hid (blk_below BK5.out hb)
  replace BK6 := Lib.hid (blk_below BK6.out hb)
  replace BK12 := Lib.hid (blk_below BK12.out hb)
  replace BK14 := Lib.hid (blk_below BK14.out hb)
  replace RT4 := Lib.hid (Kd.R_below RT4.out hb)
  replace RT5 := Lib.hid (Kd.R_below RT5.out hb)
  replace HB := Lib.hid (below_step HB.out hb)
  replace HBT := Lib.hid (below_step HBT.out hb)
  clear hb
  go_upto_region 7 with (first | ((with_reducible refine gate_dst (N := 18) rfl ?_); refine box_event ?hg (N := 18) ?hd (cs := #[.int .u8 0, .int .i64 0, .int .i64 0, .int .i64 0, .slice none 0 0, .slice none 0 0]) (t := 27) ?hr ?_; (case hd => rfl); (case hg => rfl); (case hr => first | (go_simp; done) | (go_simp; rfl)); intro gb18 hg_ w13 bk_ hb_; have GE18 := Lib.hid (show w.heap.size ≤ gb18 by rw [hg_]; exact below_size HB.out); have NB5_18 := Lib.hid (show gb5 ≠ gb18 by rw [hg_]; exact Nat.ne_of_lt (blk_lt BK5.out)); have NB18_5 := Lib.hid NB5_18.out.symm; replace BK5 := Lib.hid (blk_below BK5.out hb_); have NB6_18 := Lib.hid (show gb6 ≠ gb18 by rw [hg_]; exact Nat.ne_of_lt (blk_lt BK6.out)); have NB18_6 := Lib.hid NB6_18.out.symm; replace BK6 := Lib.hid (blk_below BK6.out hb_); have NB12_18 := Lib.hid (show gb12 ≠ gb18 by rw [hg_]; exact Nat.ne_of_lt (blk_lt BK12.out)); have NB18_12 := Lib.hid NB12_18.out.symm; replace BK12 := Lib.hid (blk_below BK12.out hb_); have NB14_18 := Lib.hid (show gb14 ≠ gb18 by rw [hg_]; exact Nat.ne_of_lt (blk_lt BK14.out)); have NB18_14 := Lib.hid NB14_18.out.symm; replace BK14 := Lib.hid (blk_below BK14.out hb_); have BK18 := Lib.hid bk_; replace RT4 := Lib.hid (Kd.R_below RT4.out hb_); replace RT5 := Lib.hid (Kd.R_below RT5.out hb_); replace RF4 := Lib.hid (Kd.R_below RF4.out hb_); replace RF5 := Lib.hid (Kd.R_below RF5.out hb_); have GT18 := Lib.hid (show wT.heap.size ≤ gb18 by rw [hg_]; exact below_size HBT.out); replace HB := Lib.hid (below_step HB.out hb_); replace HBT := Lib.hid (below_step HBT.out hb_); clear hb_ hg_ bk_; obtain ⟨zc0, zc1, zc2, zc3, zc4, zc5, zf0, zf1, zf2, zf3, zf4, zf5⟩ := cs6 BK18.out))
  clear zc0 zf0 zc1 zf1 zc2 zf2 zc3 zf3 zc4 zf4 zc5 zf5
  obtain ⟨hq1_, hq2_, hs_⟩ := st6_0_6 HB.out GE18.out BK18.out (.int .u8 t1) (.int .i64 t2) (.int .i64 t3) (.int .i64 t4) (.slice F4 t5.length Fc4) (.slice F5 t6.length Fc5)
  obtain ⟨-, hqT_, -⟩ := st6_0_6 HBT.out GT18.out BK18.out (.int .u8 t1) (.int .i64 t2) (.int .i64 t3) (.int .i64 t4) (.slice F4 t5.length Fc4) (.slice F5 t6.length Fc5)
  generalize ((((((w13.setCell ⟨gb18, 0, none⟩ (.int .u8 t1)).setCell ⟨gb18, 1, none⟩ (.int .i64 t2)).setCell ⟨gb18, 2, none⟩ (.int .i64 t3)).setCell ⟨gb18, 3, none⟩ (.int .i64 t4)).setCell ⟨gb18, 4, none⟩ (.slice F4 t5.length Fc4)).setCell ⟨gb18, 5, none⟩ (.slice F5 t6.length Fc5)) = w14 at hs_ hq1_ hq2_ hqT_ ⊢
  replace RT4 := Lib.hid (Kd.R_mono (Kd.R_step (Kd.R_types RT4.out BK18.out (by decide)) (fun k hk _ => hs_ k hk.2)) (ok' := fun _ => True) (fun _ _ => trivial))
  replace RT5 := Lib.hid (Kd.R_mono (Kd.R_step (Kd.R_types RT5.out BK18.out (by decide)) (fun k hk _ => hs_ k hk.2)) (ok' := fun _ => True) (fun _ _ => trivial))
  replace RF4 := Lib.hid (Kd.R_mono (Kd.R_step (Kd.R_types RF4.out BK18.out (by decide)) (fun k hk _ => hs_ k hk.2)) (ok' := fun _ => True) (fun _ _ => trivial))
  replace RF5 := Lib.hid (Kd.R_mono (Kd.R_step (Kd.R_types RF5.out BK18.out (by decide)) (fun k hk _ => hs_ k hk.2)) (ok' := fun _ => True) (fun _ _ => trivial))
  replace BK5 := Lib.hid ((hs_ gb5 NB5_18.out).trans BK5.out)
  replace BK6 := Lib.hid ((hs_ gb6 NB6_18.out).trans BK6.out)
  replace BK12 := Lib.hid ((hs_ gb12 NB12_18.out).trans BK12.out)
  replace BK14 := Lib.hid ((hs_ gb14 NB14_18.out).trans BK14.out)
  replace BK18 := Lib.hid hq1_
  replace HB := Lib.hid hq2_
  replace HBT := Lib.hid hqT_
  clear hs_ hq1_ hq2_ hqT_
  obtain ⟨xc0, xc1, xc2, xc3, xc4, xc5, xf0, xf1, xf2, xf3, xf4, xf5⟩ := cs6 BK14.out
  obtain ⟨yc0, yc1, yc2, yc3, yc4, yc5, yf0, yf1, yf2, yf3, yf4, yf5⟩ := cs6 BK18.out
  have hne_n : (n != n) = false := bne_self_eq_false n
  have hne_t7 : (t7 != t7) = false := bne_self_eq_false t7
  have hne_te : (te != te) = false := bne_self_eq_false te
  go_wp2_with fail
  clear xc0 xf0 xc1 xf1 xc2 xf2 xc3 xf3 xc4 xf4 xc5 xf5
  clear yc0 yf0 yc1 yf1 yc2 yf2 yc3 yf3 yc4 yf4 yc5 yf5
  refine (twoslotref10_Same.calls k t1 t2 t3 t4 _ _ t5 _ _ t6 t1 t2 t3 t4 _ _ t5 _ _ t6 true _ (Kd.R_reads' RT4.out).2.2 (Kd.R_reads' RT4.out).2.1 (Kd.R_reads' RT5.out).2.2 (Kd.R_reads' RT5.out).2.1 (Kd.R_reads' RF4.out).2.2 (Kd.R_reads' RF4.out).2.1 (Kd.R_reads' RF5.out).2.2 (Kd.R_reads' RF5.out).2.1 HS1.out).mono ?_
  rintro en w15 ⟨rfl, hb⟩
  replace BK5 := Lib.hid (blk_below BK5.out hb)
  replace BK6 := Lib.hid (blk_below BK6.out hb)
  replace BK12 := Lib.hid (blk_below BK12.out hb)
  replace BK14 := Lib.hid (blk_below BK14.out hb)
  replace BK18 := Lib.hid (blk_below BK18.out hb)
  replace RT4 := Lib.hid (Kd.R_below RT4.out hb)
  replace RT5 := Lib.hid (Kd.R_below RT5.out hb)
  replace RF4 := Lib.hid (Kd.R_below RF4.out hb)
  replace RF5 := Lib.hid (Kd.R_below RF5.out hb)
  replace HB := Lib.hid (below_step HB.out hb)
  replace HBT := Lib.hid (below_step HBT.out hb)
  clear hb
  have LF4 := Lib.hid (Kd.R_lt RF4.out)
  have HT15 := Lib.hid HBT.out.size
  clear hne_n hne_t7 hne_te
  obtain ⟨pc0, pc1, pc2, pc3, pf0, pf1, pf2, pf3⟩ := cs4 BK5.out
  obtain ⟨qc0, qc1, qf0, qf1⟩ := cs2 BK12.out
  go_wp2_with fail
  clear pc0 pf0 pc1 pf1 pc2 pf2 pc3 pf3
  clear qc0 qf0 qc1 qf1
  refine (cell_Newest.calls k a0 a1 a2 a3 _ _ l0 _ _ l1 kind index g u1 u2 u3 u4 u5 u6 u7 ue _ (Kd.C_below CT0.out HBT.out) DT0.out (Kd.C_below CT1.out HBT.out) DT1.out HNW.out).mono ?_
  rintro en w16 ⟨u4_, u5_, rfl, ho4, ho5, hb⟩
  have GU4 := Lib.hid (Kd.R_base ho4)
  obtain ⟨U4, Uc4, rfl⟩ := Kd.R_slice ho4
  obtain ⟨U5, Uc5, rfl⟩ := Kd.R_slice ho5
  have RU4 := Lib.hid (Kd.R_lower ho4 HT15.out)
  have RU5 := Lib.hid (Kd.R_lower ho5 HT15.out)
  clear ho4 ho5
  replace BK5 := Lib.hid (blk_below BK5.out hb)
  replace BK6 := Lib.hid (blk_below BK6.out hb)
  replace BK12 := Lib.hid (blk_below BK12.out hb)
  replace BK14 := Lib.hid (blk_below BK14.out hb)
  replace BK18 := Lib.hid (blk_below BK18.out hb)
  replace RT4 := Lib.hid (Kd.R_below RT4.out hb)
  replace RT5 := Lib.hid (Kd.R_below RT5.out hb)
  replace RF4 := Lib.hid (Kd.R_below RF4.out hb)
  replace RF5 := Lib.hid (Kd.R_below RF5.out hb)
  replace HB := Lib.hid (below_step HB.out hb)
  replace HBT := Lib.hid (below_step HBT.out hb)
  clear hb
  go_upto_region 10 with (first | ((with_reducible refine gate_dst (N := 22) rfl ?_); refine box_event ?hg (N := 22) ?hd (cs := #[.int .u8 0, .int .i64 0, .int .i64 0, .int .i64 0, .slice none 0 0, .slice none 0 0]) (t := 27) ?hr ?_; (case hd => rfl); (case hg => rfl); (case hr => first | (go_simp; done) | (go_simp; rfl)); intro gb22 hg_ w17 bk_ hb_; have GE22 := Lib.hid (show w.heap.size ≤ gb22 by rw [hg_]; exact below_size HB.out); have NB5_22 := Lib.hid (show gb5 ≠ gb22 by rw [hg_]; exact Nat.ne_of_lt (blk_lt BK5.out)); have NB22_5 := Lib.hid NB5_22.out.symm; replace BK5 := Lib.hid (blk_below BK5.out hb_); have NB6_22 := Lib.hid (show gb6 ≠ gb22 by rw [hg_]; exact Nat.ne_of_lt (blk_lt BK6.out)); have NB22_6 := Lib.hid NB6_22.out.symm; replace BK6 := Lib.hid (blk_below BK6.out hb_); have NB12_22 := Lib.hid (show gb12 ≠ gb22 by rw [hg_]; exact Nat.ne_of_lt (blk_lt BK12.out)); have NB22_12 := Lib.hid NB12_22.out.symm; replace BK12 := Lib.hid (blk_below BK12.out hb_); have NB14_22 := Lib.hid (show gb14 ≠ gb22 by rw [hg_]; exact Nat.ne_of_lt (blk_lt BK14.out)); have NB22_14 := Lib.hid NB14_22.out.symm; replace BK14 := Lib.hid (blk_below BK14.out hb_); have NB18_22 := Lib.hid (show gb18 ≠ gb22 by rw [hg_]; exact Nat.ne_of_lt (blk_lt BK18.out)); have NB22_18 := Lib.hid NB18_22.out.symm; replace BK18 := Lib.hid (blk_below BK18.out hb_); have BK22 := Lib.hid bk_; replace RT4 := Lib.hid (Kd.R_below RT4.out hb_); replace RT5 := Lib.hid (Kd.R_below RT5.out hb_); replace RF4 := Lib.hid (Kd.R_below RF4.out hb_); replace RF5 := Lib.hid (Kd.R_below RF5.out hb_); replace RU4 := Lib.hid (Kd.R_below RU4.out hb_); replace RU5 := Lib.hid (Kd.R_below RU5.out hb_); have GT22 := Lib.hid (show wT.heap.size ≤ gb22 by rw [hg_]; exact below_size HBT.out); replace HB := Lib.hid (below_step HB.out hb_); replace HBT := Lib.hid (below_step HBT.out hb_); clear hb_ hg_ bk_; obtain ⟨zc0, zc1, zc2, zc3, zc4, zc5, zf0, zf1, zf2, zf3, zf4, zf5⟩ := cs6 BK22.out))
  clear zc0 zf0 zc1 zf1 zc2 zf2 zc3 zf3 zc4 zf4 zc5 zf5
  obtain ⟨hq1_, hq2_, hs_⟩ := st6_0_6 HB.out GE22.out BK22.out (.int .u8 u1) (.int .i64 u2) (.int .i64 u3) (.int .i64 u4) (.slice U4 u5.length Uc4) (.slice U5 u6.length Uc5)
  obtain ⟨-, hqT_, -⟩ := st6_0_6 HBT.out GT22.out BK22.out (.int .u8 u1) (.int .i64 u2) (.int .i64 u3) (.int .i64 u4) (.slice U4 u5.length Uc4) (.slice U5 u6.length Uc5)
  generalize ((((((w17.setCell ⟨gb22, 0, none⟩ (.int .u8 u1)).setCell ⟨gb22, 1, none⟩ (.int .i64 u2)).setCell ⟨gb22, 2, none⟩ (.int .i64 u3)).setCell ⟨gb22, 3, none⟩ (.int .i64 u4)).setCell ⟨gb22, 4, none⟩ (.slice U4 u5.length Uc4)).setCell ⟨gb22, 5, none⟩ (.slice U5 u6.length Uc5)) = w18 at hs_ hq1_ hq2_ hqT_ ⊢
  replace RT4 := Lib.hid (Kd.R_mono (Kd.R_step (Kd.R_types RT4.out BK22.out (by decide)) (fun k hk _ => hs_ k hk.2)) (ok' := fun _ => True) (fun _ _ => trivial))
  replace RT5 := Lib.hid (Kd.R_mono (Kd.R_step (Kd.R_types RT5.out BK22.out (by decide)) (fun k hk _ => hs_ k hk.2)) (ok' := fun _ => True) (fun _ _ => trivial))
  replace RF4 := Lib.hid (Kd.R_mono (Kd.R_step (Kd.R_types RF4.out BK22.out (by decide)) (fun k hk _ => hs_ k hk.2)) (ok' := fun _ => True) (fun _ _ => trivial))
  replace RF5 := Lib.hid (Kd.R_mono (Kd.R_step (Kd.R_types RF5.out BK22.out (by decide)) (fun k hk _ => hs_ k hk.2)) (ok' := fun _ => True) (fun _ _ => trivial))
  replace RU4 := Lib.hid (Kd.R_mono (Kd.R_step (Kd.R_types RU4.out BK22.out (by decide)) (fun k hk _ => hs_ k hk.2)) (ok' := fun _ => True) (fun _ _ => trivial))
  replace RU5 := Lib.hid (Kd.R_mono (Kd.R_step (Kd.R_types RU5.out BK22.out (by decide)) (fun k hk _ => hs_ k hk.2)) (ok' := fun _ => True) (fun _ _ => trivial))
  replace BK5 := Lib.hid ((hs_ gb5 NB5_22.out).trans BK5.out)
  replace BK6 := Lib.hid ((hs_ gb6 NB6_22.out).trans BK6.out)
  replace BK12 := Lib.hid ((hs_ gb12 NB12_22.out).trans BK12.out)
  replace BK14 := Lib.hid ((hs_ gb14 NB14_22.out).trans BK14.out)
  replace BK18 := Lib.hid ((hs_ gb18 NB18_22.out).trans BK18.out)
  replace BK22 := Lib.hid hq1_
  replace HB := Lib.hid hq2_
  replace HBT := Lib.hid hqT_
  clear hs_ hq1_ hq2_ hqT_
  obtain ⟨pc0, pc1, pc2, pc3, pf0, pf1, pf2, pf3⟩ := cs4 BK5.out
  obtain ⟨qc0, qc1, qf0, qf1⟩ := cs2 BK6.out
  go_wp2_with fail
  clear pc0 pf0 pc1 pf1 pc2 pf2 pc3 pf3
  clear qc0 qf0 qc1 qf1
  refine (rNewest.calls k a0 a1 a2 a3 _ _ l0 _ _ l1 kind index r1 r2 r3 r4 r5 r6 r7 o1 o2 o3 o4 o5 o6 o7 s1 s2 s3 s4 s5 s6 s7 q1 q2 q3 q4 q5 q6 q7 m sz nn e g u1 u2 u3 u4 u5 u6 u7 ue _ (Kd.C_below HR0.out HB.out) HC0.out (Kd.C_below HR1.out HB.out) HC1.out HM.out HS.out HN.out HE.out HD.out HO0.out HO1.out HRN.out).mono ?_
  rintro en w19 ⟨u4_, u5_, rfl, ho4, ho5, hb⟩
  obtain ⟨V4, Vc4, rfl⟩ := Kd.R_slice ho4
  obtain ⟨V5, Vc5, rfl⟩ := Kd.R_slice ho5
  have RV4 := Lib.hid (ho4)
  have RV5 := Lib.hid (ho5)
  clear ho4 ho5
  replace BK5 := Lib.hid (blk_below BK5.out hb)
  replace BK6 := Lib.hid (blk_below BK6.out hb)
  replace BK12 := Lib.hid (blk_below BK12.out hb)
  replace BK14 := Lib.hid (blk_below BK14.out hb)
  replace BK18 := Lib.hid (blk_below BK18.out hb)
  replace BK22 := Lib.hid (blk_below BK22.out hb)
  replace RT4 := Lib.hid (Kd.R_below RT4.out hb)
  replace RT5 := Lib.hid (Kd.R_below RT5.out hb)
  replace RF4 := Lib.hid (Kd.R_below RF4.out hb)
  replace RF5 := Lib.hid (Kd.R_below RF5.out hb)
  replace RU4 := Lib.hid (Kd.R_below RU4.out hb)
  replace RU5 := Lib.hid (Kd.R_below RU5.out hb)
  replace HB := Lib.hid (below_step HB.out hb)
  replace HBT := Lib.hid (below_step HBT.out hb)
  clear hb
  go_upto_region 11 with (first | ((with_reducible refine gate_dst (N := 26) rfl ?_); refine box_event ?hg (N := 26) ?hd (cs := #[.int .u8 0, .int .i64 0, .int .i64 0, .int .i64 0, .slice none 0 0, .slice none 0 0]) (t := 27) ?hr ?_; (case hd => rfl); (case hg => rfl); (case hr => first | (go_simp; done) | (go_simp; rfl)); intro gb26 hg_ w20 bk_ hb_; have GE26 := Lib.hid (show w.heap.size ≤ gb26 by rw [hg_]; exact below_size HB.out); have NB5_26 := Lib.hid (show gb5 ≠ gb26 by rw [hg_]; exact Nat.ne_of_lt (blk_lt BK5.out)); have NB26_5 := Lib.hid NB5_26.out.symm; replace BK5 := Lib.hid (blk_below BK5.out hb_); have NB6_26 := Lib.hid (show gb6 ≠ gb26 by rw [hg_]; exact Nat.ne_of_lt (blk_lt BK6.out)); have NB26_6 := Lib.hid NB6_26.out.symm; replace BK6 := Lib.hid (blk_below BK6.out hb_); have NB12_26 := Lib.hid (show gb12 ≠ gb26 by rw [hg_]; exact Nat.ne_of_lt (blk_lt BK12.out)); have NB26_12 := Lib.hid NB12_26.out.symm; replace BK12 := Lib.hid (blk_below BK12.out hb_); have NB14_26 := Lib.hid (show gb14 ≠ gb26 by rw [hg_]; exact Nat.ne_of_lt (blk_lt BK14.out)); have NB26_14 := Lib.hid NB14_26.out.symm; replace BK14 := Lib.hid (blk_below BK14.out hb_); have NB18_26 := Lib.hid (show gb18 ≠ gb26 by rw [hg_]; exact Nat.ne_of_lt (blk_lt BK18.out)); have NB26_18 := Lib.hid NB18_26.out.symm; replace BK18 := Lib.hid (blk_below BK18.out hb_); have NB22_26 := Lib.hid (show gb22 ≠ gb26 by rw [hg_]; exact Nat.ne_of_lt (blk_lt BK22.out)); have NB26_22 := Lib.hid NB22_26.out.symm; replace BK22 := Lib.hid (blk_below BK22.out hb_); have BK26 := Lib.hid bk_; replace RT4 := Lib.hid (Kd.R_below RT4.out hb_); replace RT5 := Lib.hid (Kd.R_below RT5.out hb_); replace RF4 := Lib.hid (Kd.R_below RF4.out hb_); replace RF5 := Lib.hid (Kd.R_below RF5.out hb_); replace RU4 := Lib.hid (Kd.R_below RU4.out hb_); replace RU5 := Lib.hid (Kd.R_below RU5.out hb_); replace RV4 := Lib.hid (Kd.R_below RV4.out hb_); replace RV5 := Lib.hid (Kd.R_below RV5.out hb_); have GT26 := Lib.hid (show wT.heap.size ≤ gb26 by rw [hg_]; exact below_size HBT.out); replace HB := Lib.hid (below_step HB.out hb_); replace HBT := Lib.hid (below_step HBT.out hb_); clear hb_ hg_ bk_; obtain ⟨zc0, zc1, zc2, zc3, zc4, zc5, zf0, zf1, zf2, zf3, zf4, zf5⟩ := cs6 BK26.out))
  clear zc0 zf0 zc1 zf1 zc2 zf2 zc3 zf3 zc4 zf4 zc5 zf5
  obtain ⟨hq1_, hq2_, hs_⟩ := st6_0_6 HB.out GE26.out BK26.out (.int .u8 u1) (.int .i64 u2) (.int .i64 u3) (.int .i64 u4) (.slice V4 u5.length Vc4) (.slice V5 u6.length Vc5)
  obtain ⟨-, hqT_, -⟩ := st6_0_6 HBT.out GT26.out BK26.out (.int .u8 u1) (.int .i64 u2) (.int .i64 u3) (.int .i64 u4) (.slice V4 u5.length Vc4) (.slice V5 u6.length Vc5)
  generalize ((((((w20.setCell ⟨gb26, 0, none⟩ (.int .u8 u1)).setCell ⟨gb26, 1, none⟩ (.int .i64 u2)).setCell ⟨gb26, 2, none⟩ (.int .i64 u3)).setCell ⟨gb26, 3, none⟩ (.int .i64 u4)).setCell ⟨gb26, 4, none⟩ (.slice V4 u5.length Vc4)).setCell ⟨gb26, 5, none⟩ (.slice V5 u6.length Vc5)) = w21 at hs_ hq1_ hq2_ hqT_ ⊢
  replace RT4 := Lib.hid (Kd.R_mono (Kd.R_step (Kd.R_types RT4.out BK26.out (by decide)) (fun k hk _ => hs_ k hk.2)) (ok' := fun _ => True) (fun _ _ => trivial))
  replace RT5 := Lib.hid (Kd.R_mono (Kd.R_step (Kd.R_types RT5.out BK26.out (by decide)) (fun k hk _ => hs_ k hk.2)) (ok' := fun _ => True) (fun _ _ => trivial))
  replace RF4 := Lib.hid (Kd.R_mono (Kd.R_step (Kd.R_types RF4.out BK26.out (by decide)) (fun k hk _ => hs_ k hk.2)) (ok' := fun _ => True) (fun _ _ => trivial))
  replace RF5 := Lib.hid (Kd.R_mono (Kd.R_step (Kd.R_types RF5.out BK26.out (by decide)) (fun k hk _ => hs_ k hk.2)) (ok' := fun _ => True) (fun _ _ => trivial))
  replace RU4 := Lib.hid (Kd.R_mono (Kd.R_step (Kd.R_types RU4.out BK26.out (by decide)) (fun k hk _ => hs_ k hk.2)) (ok' := fun _ => True) (fun _ _ => trivial))
  replace RU5 := Lib.hid (Kd.R_mono (Kd.R_step (Kd.R_types RU5.out BK26.out (by decide)) (fun k hk _ => hs_ k hk.2)) (ok' := fun _ => True) (fun _ _ => trivial))
  replace RV4 := Lib.hid (Kd.R_mono (Kd.R_step (Kd.R_types RV4.out BK26.out (by decide)) (fun k hk _ => hs_ k hk.2)) (ok' := fun _ => True) (fun _ _ => trivial))
  replace RV5 := Lib.hid (Kd.R_mono (Kd.R_step (Kd.R_types RV5.out BK26.out (by decide)) (fun k hk _ => hs_ k hk.2)) (ok' := fun _ => True) (fun _ _ => trivial))
  replace BK5 := Lib.hid ((hs_ gb5 NB5_26.out).trans BK5.out)
  replace BK6 := Lib.hid ((hs_ gb6 NB6_26.out).trans BK6.out)
  replace BK12 := Lib.hid ((hs_ gb12 NB12_26.out).trans BK12.out)
  replace BK14 := Lib.hid ((hs_ gb14 NB14_26.out).trans BK14.out)
  replace BK18 := Lib.hid ((hs_ gb18 NB18_26.out).trans BK18.out)
  replace BK22 := Lib.hid ((hs_ gb22 NB22_26.out).trans BK22.out)
  replace BK26 := Lib.hid hq1_
  replace HB := Lib.hid hq2_
  replace HBT := Lib.hid hqT_
  clear hs_ hq1_ hq2_ hqT_
  obtain ⟨xc0, xc1, xc2, xc3, xc4, xc5, xf0, xf1, xf2, xf3, xf4, xf5⟩ := cs6 BK22.out
  obtain ⟨yc0, yc1, yc2, yc3, yc4, yc5, yf0, yf1, yf2, yf3, yf4, yf5⟩ := cs6 BK26.out
  have hne_g : (g != g) = false := bne_self_eq_false g
  have hne_u7 : (u7 != u7) = false := bne_self_eq_false u7
  have hne_ue : (ue != ue) = false := bne_self_eq_false ue
  go_wp2_with fail
  clear xc0 xf0 xc1 xf1 xc2 xf2 xc3 xf3 xc4 xf4 xc5 xf5
  clear yc0 yf0 yc1 yf1 yc2 yf2 yc3 yf3 yc4 yf4 yc5 yf5
  refine (twoslotref10_Same.calls k u1 u2 u3 u4 _ _ u5 _ _ u6 u1 u2 u3 u4 _ _ u5 _ _ u6 true _ (Kd.R_reads' RU4.out).2.2 (Kd.R_reads' RU4.out).2.1 (Kd.R_reads' RU5.out).2.2 (Kd.R_reads' RU5.out).2.1 (Kd.R_reads' RV4.out).2.2 (Kd.R_reads' RV4.out).2.1 (Kd.R_reads' RV5.out).2.2 (Kd.R_reads' RV5.out).2.1 HS2.out).mono ?_
  rintro en w22 ⟨rfl, hb⟩
  replace BK5 := Lib.hid (blk_below BK5.out hb)
  replace BK6 := Lib.hid (blk_below BK6.out hb)
  replace BK12 := Lib.hid (blk_below BK12.out hb)
  replace BK14 := Lib.hid (blk_below BK14.out hb)
  replace BK18 := Lib.hid (blk_below BK18.out hb)
  replace BK22 := Lib.hid (blk_below BK22.out hb)
  replace BK26 := Lib.hid (blk_below BK26.out hb)
  replace RT4 := Lib.hid (Kd.R_below RT4.out hb)
  replace RT5 := Lib.hid (Kd.R_below RT5.out hb)
  replace RF4 := Lib.hid (Kd.R_below RF4.out hb)
  replace RF5 := Lib.hid (Kd.R_below RF5.out hb)
  replace RU4 := Lib.hid (Kd.R_below RU4.out hb)
  replace RU5 := Lib.hid (Kd.R_below RU5.out hb)
  replace RV4 := Lib.hid (Kd.R_below RV4.out hb)
  replace RV5 := Lib.hid (Kd.R_below RV5.out hb)
  replace HB := Lib.hid (below_step HB.out hb)
  replace HBT := Lib.hid (below_step HBT.out hb)
  clear hb
  clear hne_g hne_u7 hne_ue RV4 RV5 RU5 BK26
  obtain ⟨pc0, pc1, pc2, pc3, pf0, pf1, pf2, pf3⟩ := cs4 BK5.out
  obtain ⟨qc0, qc1, qf0, qf1⟩ := cs2 BK12.out
  go_wp2_with fail
  clear pc0 pf0 pc1 pf1 pc2 pf2 pc3 pf3
  clear qc0 qf0 qc1 qf1
  refine (cell_Older.calls k a0 a1 a2 a3 _ _ l0 _ _ l1 kind index version x xe _ (Kd.C_below CT0.out HBT.out) DT0.out (Kd.C_below CT1.out HBT.out) DT1.out HO.out).mono ?_
  rintro en w23 ⟨rfl, hb⟩
  replace BK5 := Lib.hid (blk_below BK5.out hb)
  replace BK6 := Lib.hid (blk_below BK6.out hb)
  replace BK12 := Lib.hid (blk_below BK12.out hb)
  replace BK14 := Lib.hid (blk_below BK14.out hb)
  replace BK18 := Lib.hid (blk_below BK18.out hb)
  replace BK22 := Lib.hid (blk_below BK22.out hb)
  replace RT4 := Lib.hid (Kd.R_below RT4.out hb)
  replace RT5 := Lib.hid (Kd.R_below RT5.out hb)
  replace RF4 := Lib.hid (Kd.R_below RF4.out hb)
  replace RF5 := Lib.hid (Kd.R_below RF5.out hb)
  replace RU4 := Lib.hid (Kd.R_below RU4.out hb)
  replace HB := Lib.hid (below_step HB.out hb)
  replace HBT := Lib.hid (below_step HBT.out hb)
  clear hb
  obtain ⟨pc0, pc1, pc2, pc3, pf0, pf1, pf2, pf3⟩ := cs4 BK5.out
  obtain ⟨qc0, qc1, qf0, qf1⟩ := cs2 BK6.out
  go_wp2_with fail
  clear pc0 pf0 pc1 pf1 pc2 pf2 pc3 pf3
  clear qc0 qf0 qc1 qf1
  refine (rOlder.calls k a0 a1 a2 a3 _ _ l0 _ _ l1 kind index version r1 r2 r3 r4 r5 r6 r7 o1 o2 o3 o4 o5 o6 o7 s1 s2 s3 s4 s5 s6 s7 q1 q2 q3 q4 q5 q6 q7 m sz nn vr e x xe _ (Kd.C_below HR0.out HB.out) HC0.out (Kd.C_below HR1.out HB.out) HC1.out HM.out HS.out HN.out HE.out HV.out HD.out HO0.out HO1.out HRO.out).mono ?_
  rintro en w24 ⟨rfl, hb⟩
  replace BK5 := Lib.hid (blk_below BK5.out hb)
  replace BK6 := Lib.hid (blk_below BK6.out hb)
  replace BK12 := Lib.hid (blk_below BK12.out hb)
  replace BK14 := Lib.hid (blk_below BK14.out hb)
  replace BK18 := Lib.hid (blk_below BK18.out hb)
  replace BK22 := Lib.hid (blk_below BK22.out hb)
  replace RT4 := Lib.hid (Kd.R_below RT4.out hb)
  replace RT5 := Lib.hid (Kd.R_below RT5.out hb)
  replace RF4 := Lib.hid (Kd.R_below RF4.out hb)
  replace RF5 := Lib.hid (Kd.R_below RF5.out hb)
  replace RU4 := Lib.hid (Kd.R_below RU4.out hb)
  replace HB := Lib.hid (below_step HB.out hb)
  replace HBT := Lib.hid (below_step HBT.out hb)
  clear hb
  clear HM HS HN HE HV HD HO0 HO1 HRF HRN HRO HNW HO HS2 RT4
  go_wp2_with fail
  have hlen : (t6.length : Int) ≤ 9223372036854775807 := by have := Kd.C_max (Kd.R_reads' RT5.out).2.2; omega
  have HLEN := Lib.hid hlen
  clear hlen
  go_loopg [33] t6.length (fun gk s_ wx => ∃ (j : Nat) (xs : List Int), j + gk = t6.length ∧ s_ = .int .i64 j ∧ Hid (xs.length = t6.length) ∧ Hid (Kd.R (Kd.int .u8) 5 wx wT.heap.size (fun _ => True) (.slice T5 t6.length Tc5) xs) ∧ Hid (w24.grownBy wx ((.slice T5 t6.length Tc5) : Value).ownBlock))
  case atStart => exact ⟨0, t6, by omega, rfl, Lib.hid rfl, RT5, Lib.hid (World.grownBy.refl _ _)⟩
  case round =>
    obtain ⟨j, xs, hj, rfl, HX, HRX, HG⟩ := hrel
    have BX := Lib.hid ((HG.out.block gb14 (blk_lt BK14.out) (Kd.R_ne RT5.out BK14.out (by decide))).trans BK14.out)
    obtain ⟨zc0, zc1, zc2, zc3, zc4, zc5, zf0, zf1, zf2, zf3, zf4, zf5⟩ := cs6 BX.out
    have hle := HLEN.out
    have hjl : (j : Int) ≤ (t6.length : Int) := by omega
    cases gk with
    | zero =>
      obtain rfl : j = t6.length := by omega
      clear hle hjl hj
      have hbl := HB.out.grown HG.out HB.out.size (fun k_ hk_ => Nat.le_trans HWT.out (Kd.R_base RT5.out k_ hk_))
      have hblT := HBT.out.grown HG.out HBT.out.size (fun k_ hk_ => Kd.R_base RT5.out k_ hk_)
      have bk5_ := (HG.out.block gb5 (blk_lt BK5.out) (Kd.R_ne RT5.out BK5.out (by decide))).trans BK5.out
      have bk6_ := (HG.out.block gb6 (blk_lt BK6.out) (Kd.R_ne RT5.out BK6.out (by decide))).trans BK6.out
      have bk12_ := (HG.out.block gb12 (blk_lt BK12.out) (Kd.R_ne RT5.out BK12.out (by decide))).trans BK12.out
      have bk18_ := (HG.out.block gb18 (blk_lt BK18.out) (Kd.R_ne RT5.out BK18.out (by decide))).trans BK18.out
      have bk22_ := (HG.out.block gb22 (blk_lt BK22.out) (Kd.R_ne RT5.out BK22.out (by decide))).trans BK22.out
      have rf4_ := Kd.R_over RF4.out RT5.out (by decide) HG.out
      have ru4_ := Kd.R_over RU4.out RT5.out (by decide) HG.out
      have rf5_ := Kd.R_grown (Kd.R_bound RF5.out) HG.out (fun k_ hk_ he_ => by have h1_ := LT5.out k_ he_.symm; have h2_ := hk_.2.1; omega)
      replace BK5 := Lib.hid bk5_
      replace BK6 := Lib.hid bk6_
      replace BK12 := Lib.hid bk12_
      replace BK18 := Lib.hid bk18_
      replace BK22 := Lib.hid bk22_
      replace RF4 := Lib.hid rf4_; replace RU4 := Lib.hid ru4_; replace RF5 := Lib.hid (Kd.R_mono rf5_ (ok' := fun _ => True) (fun _ _ => trivial)); replace HB := Lib.hid hbl; replace HBT := Lib.hid hblT
      clear hbl hblT bk5_ bk6_ bk12_ bk18_ bk22_ rf4_ ru4_ rf5_ RT5 LT5 HG HX HRX BX BK14 HLEN
      generalize wr = w25 at *
      go_wp2_with fail
      clear zc0 zf0 zc1 zf1 zc2 zf2 zc3 zf3 zc4 zf4 zc5 zf5
      go_wp2_with fail
      have hlen : (u5.length : Int) ≤ 9223372036854775807 := by have := Kd.C_max (Kd.R_reads' RU4.out).2.2; omega
      have HLEN := Lib.hid hlen
      clear hlen
      go_loopg [34] u5.length (fun gk s_ wx => ∃ (j : Nat) (xs : List Int), j + gk = u5.length ∧ s_ = .int .i64 j ∧ Hid (xs.length = u5.length) ∧ Hid (Kd.R (Kd.int .i64) 3 wx wT.heap.size (fun _ => True) (.slice U4 u5.length Uc4) xs) ∧ Hid (w25.grownBy wx ((.slice U4 u5.length Uc4) : Value).ownBlock))
      case atStart => exact ⟨0, u5, by omega, rfl, Lib.hid rfl, RU4, Lib.hid (World.grownBy.refl _ _)⟩
      case round =>
        obtain ⟨j, xs, hj, rfl, HX, HRX, HG⟩ := hrel
        have BX := Lib.hid ((HG.out.block gb22 (blk_lt BK22.out) (Kd.R_ne RU4.out BK22.out (by decide))).trans BK22.out)
        obtain ⟨zc0, zc1, zc2, zc3, zc4, zc5, zf0, zf1, zf2, zf3, zf4, zf5⟩ := cs6 BX.out
        have hle := HLEN.out
        have hjl : (j : Int) ≤ (u5.length : Int) := by omega
        cases gk with
        | zero =>
          obtain rfl : j = u5.length := by omega
          clear hle hjl hj
          have hbl := HB.out.grown HG.out HB.out.size (fun k_ hk_ => Nat.le_trans HWT.out (Kd.R_base RU4.out k_ hk_))
          have hblT := HBT.out.grown HG.out HBT.out.size (fun k_ hk_ => Kd.R_base RU4.out k_ hk_)
          have bk5_ := (HG.out.block gb5 (blk_lt BK5.out) (Kd.R_ne RU4.out BK5.out (by decide))).trans BK5.out
          have bk6_ := (HG.out.block gb6 (blk_lt BK6.out) (Kd.R_ne RU4.out BK6.out (by decide))).trans BK6.out
          have bk12_ := (HG.out.block gb12 (blk_lt BK12.out) (Kd.R_ne RU4.out BK12.out (by decide))).trans BK12.out
          have bk18_ := (HG.out.block gb18 (blk_lt BK18.out) (Kd.R_ne RU4.out BK18.out (by decide))).trans BK18.out
          have rf5_ := Kd.R_over RF5.out RU4.out (by decide) HG.out
          have rf4_ := Kd.R_grown (R_reok RF4.out (ok' := fun k_ => k_ < w15.heap.size) LF4.out) HG.out (fun k_ hk_ he_ => by have h1_ := GU4.out k_ he_.symm; omega)
          replace BK5 := Lib.hid bk5_
          replace BK6 := Lib.hid bk6_
          replace BK12 := Lib.hid bk12_
          replace BK18 := Lib.hid bk18_
          replace RF5 := Lib.hid rf5_; replace RF4 := Lib.hid (Kd.R_mono rf4_ (ok' := fun _ => True) (fun _ _ => trivial)); replace HB := Lib.hid hbl; replace HBT := Lib.hid hblT
          clear hbl hblT bk5_ bk6_ bk12_ bk18_ rf4_ rf5_ RU4 GU4 LF4 HT15 HG HX HRX BX BK22 HLEN
          generalize wr = w26 at *
          obtain ⟨pc0, pc1, pc2, pc3, pf0, pf1, pf2, pf3⟩ := cs4 BK5.out
          obtain ⟨qc0, qc1, qf0, qf1⟩ := cs2 BK12.out
          go_wp2_with fail
          clear pc0 pf0 pc1 pf1 pc2 pf2 pc3 pf3
          clear qc0 qf0 qc1 qf1
          clear zc0 zf0 zc1 zf1 zc2 zf2 zc3 zf3 zc4 zf4 zc5 zf5
          refine (cell_Find.calls k a0 a1 a2 a3 _ _ l0 _ _ l1 kind index version n t1 t2 t3 t4 t5 t6 t7 te _ (Kd.C_below CT0.out HBT.out) DT0.out (Kd.C_below CT1.out HBT.out) DT1.out HF.out).mono ?_
          rintro en w27 ⟨u4_, u5_, rfl, ho4, ho5, hb⟩
          obtain ⟨X4, Xc4, rfl⟩ := Kd.R_slice ho4
          obtain ⟨X5, Xc5, rfl⟩ := Kd.R_slice ho5
          have RX4 := Lib.hid (ho4)
          have RX5 := Lib.hid (ho5)
          clear ho4 ho5
          replace BK5 := Lib.hid (blk_below BK5.out hb)
          replace BK6 := Lib.hid (blk_below BK6.out hb)
          replace BK12 := Lib.hid (blk_below BK12.out hb)
          replace BK18 := Lib.hid (blk_below BK18.out hb)
          replace RF4 := Lib.hid (Kd.R_below RF4.out hb)
          replace RF5 := Lib.hid (Kd.R_below RF5.out hb)
          replace HB := Lib.hid (below_step HB.out hb)
          replace HBT := Lib.hid (below_step HBT.out hb)
          clear hb
          go_upto_region 24 with (first | ((with_reducible refine gate_dst (N := 36) rfl ?_); refine box_event ?hg (N := 36) ?hd (cs := #[.int .u8 0, .int .i64 0, .int .i64 0, .int .i64 0, .slice none 0 0, .slice none 0 0]) (t := 27) ?hr ?_; (case hd => rfl); (case hg => rfl); (case hr => first | (go_simp; done) | (go_simp; rfl)); intro gb36 hg_ w28 bk_ hb_; have GE36 := Lib.hid (show w.heap.size ≤ gb36 by rw [hg_]; exact below_size HB.out); have NB5_36 := Lib.hid (show gb5 ≠ gb36 by rw [hg_]; exact Nat.ne_of_lt (blk_lt BK5.out)); have NB36_5 := Lib.hid NB5_36.out.symm; replace BK5 := Lib.hid (blk_below BK5.out hb_); have NB6_36 := Lib.hid (show gb6 ≠ gb36 by rw [hg_]; exact Nat.ne_of_lt (blk_lt BK6.out)); have NB36_6 := Lib.hid NB6_36.out.symm; replace BK6 := Lib.hid (blk_below BK6.out hb_); have NB12_36 := Lib.hid (show gb12 ≠ gb36 by rw [hg_]; exact Nat.ne_of_lt (blk_lt BK12.out)); have NB36_12 := Lib.hid NB12_36.out.symm; replace BK12 := Lib.hid (blk_below BK12.out hb_); have NB18_36 := Lib.hid (show gb18 ≠ gb36 by rw [hg_]; exact Nat.ne_of_lt (blk_lt BK18.out)); have NB36_18 := Lib.hid NB18_36.out.symm; replace BK18 := Lib.hid (blk_below BK18.out hb_); have BK36 := Lib.hid bk_; replace RF4 := Lib.hid (Kd.R_below RF4.out hb_); replace RF5 := Lib.hid (Kd.R_below RF5.out hb_); replace RX4 := Lib.hid (Kd.R_below RX4.out hb_); replace RX5 := Lib.hid (Kd.R_below RX5.out hb_); have GT36 := Lib.hid (show wT.heap.size ≤ gb36 by rw [hg_]; exact below_size HBT.out); replace HB := Lib.hid (below_step HB.out hb_); replace HBT := Lib.hid (below_step HBT.out hb_); clear hb_ hg_ bk_; obtain ⟨zc0, zc1, zc2, zc3, zc4, zc5, zf0, zf1, zf2, zf3, zf4, zf5⟩ := cs6 BK36.out))
          clear zc0 zf0 zc1 zf1 zc2 zf2 zc3 zf3 zc4 zf4 zc5 zf5
          obtain ⟨hq1_, hq2_, hs_⟩ := st6_0_6 HB.out GE36.out BK36.out (.int .u8 t1) (.int .i64 t2) (.int .i64 t3) (.int .i64 t4) (.slice X4 t5.length Xc4) (.slice X5 t6.length Xc5)
          obtain ⟨-, hqT_, -⟩ := st6_0_6 HBT.out GT36.out BK36.out (.int .u8 t1) (.int .i64 t2) (.int .i64 t3) (.int .i64 t4) (.slice X4 t5.length Xc4) (.slice X5 t6.length Xc5)
          generalize ((((((w28.setCell ⟨gb36, 0, none⟩ (.int .u8 t1)).setCell ⟨gb36, 1, none⟩ (.int .i64 t2)).setCell ⟨gb36, 2, none⟩ (.int .i64 t3)).setCell ⟨gb36, 3, none⟩ (.int .i64 t4)).setCell ⟨gb36, 4, none⟩ (.slice X4 t5.length Xc4)).setCell ⟨gb36, 5, none⟩ (.slice X5 t6.length Xc5)) = w29 at hs_ hq1_ hq2_ hqT_ ⊢
          replace RF4 := Lib.hid (Kd.R_mono (Kd.R_step (Kd.R_types RF4.out BK36.out (by decide)) (fun k hk _ => hs_ k hk.2)) (ok' := fun _ => True) (fun _ _ => trivial))
          replace RF5 := Lib.hid (Kd.R_mono (Kd.R_step (Kd.R_types RF5.out BK36.out (by decide)) (fun k hk _ => hs_ k hk.2)) (ok' := fun _ => True) (fun _ _ => trivial))
          replace RX4 := Lib.hid (Kd.R_mono (Kd.R_step (Kd.R_types RX4.out BK36.out (by decide)) (fun k hk _ => hs_ k hk.2)) (ok' := fun _ => True) (fun _ _ => trivial))
          replace RX5 := Lib.hid (Kd.R_mono (Kd.R_step (Kd.R_types RX5.out BK36.out (by decide)) (fun k hk _ => hs_ k hk.2)) (ok' := fun _ => True) (fun _ _ => trivial))
          replace BK5 := Lib.hid ((hs_ gb5 NB5_36.out).trans BK5.out)
          replace BK6 := Lib.hid ((hs_ gb6 NB6_36.out).trans BK6.out)
          replace BK12 := Lib.hid ((hs_ gb12 NB12_36.out).trans BK12.out)
          replace BK18 := Lib.hid ((hs_ gb18 NB18_36.out).trans BK18.out)
          replace BK36 := Lib.hid hq1_
          replace HB := Lib.hid hq2_
          replace HBT := Lib.hid hqT_
          clear hs_ hq1_ hq2_ hqT_
          obtain ⟨qc0, qc1, qf0, qf1⟩ := cs2 BK12.out
          obtain ⟨pc0, pc1, pf0, pf1⟩ := cs2 BK6.out
          obtain ⟨xc0, xc1, xc2, xc3, xc4, xc5, xf0, xf1, xf2, xf3, xf4, xf5⟩ := cs6 BK36.out
          obtain ⟨yc0, yc1, yc2, yc3, yc4, yc5, yf0, yf1, yf2, yf3, yf4, yf5⟩ := cs6 BK18.out
          have hxx : (x == x) = true := beq_self_eq_true x
          have hxe : (xe == xe) = true := beq_self_eq_true xe
          go_wp2_with fail
          clear qc0 qf0 qc1 qf1
          clear pc0 pf0 pc1 pf1
          clear xc0 xf0 xc1 xf1 xc2 xf2 xc3 xf3 xc4 xf4 xc5 xf5
          clear yc0 yf0 yc1 yf1 yc2 yf2 yc3 yf3 yc4 yf4 yc5 yf5
          refine (cell_same.calls A0 c0 l0 A1 c1 l1 B0 d0 B1 d1 _ (Kd.C_below HR0.out HB.out) (Kd.C_below HR1.out HB.out) (Kd.C_below CT0.out HBT.out) (Kd.C_below CT1.out HBT.out)).mono ?_
          rintro en w30 ⟨rfl, hb⟩
          replace BK5 := Lib.hid (blk_below BK5.out hb)
          replace BK6 := Lib.hid (blk_below BK6.out hb)
          replace BK12 := Lib.hid (blk_below BK12.out hb)
          replace BK18 := Lib.hid (blk_below BK18.out hb)
          replace BK36 := Lib.hid (blk_below BK36.out hb)
          replace RF4 := Lib.hid (Kd.R_below RF4.out hb)
          replace RF5 := Lib.hid (Kd.R_below RF5.out hb)
          replace RX4 := Lib.hid (Kd.R_below RX4.out hb)
          replace RX5 := Lib.hid (Kd.R_below RX5.out hb)
          replace HB := Lib.hid (below_step HB.out hb)
          replace HBT := Lib.hid (below_step HBT.out hb)
          clear hb
          obtain ⟨xc0, xc1, xc2, xc3, xc4, xc5, xf0, xf1, xf2, xf3, xf4, xf5⟩ := cs6 BK36.out
          obtain ⟨yc0, yc1, yc2, yc3, yc4, yc5, yf0, yf1, yf2, yf3, yf4, yf5⟩ := cs6 BK18.out
          go_wp2_with fail
          clear xc0 xf0 xc1 xf1 xc2 xf2 xc3 xf3 xc4 xf4 xc5 xf5
          clear yc0 yf0 yc1 yf1 yc2 yf2 yc3 yf3 yc4 yf4 yc5 yf5
          refine (twoslotref10_Same.calls k t1 t2 t3 t4 _ _ t5 _ _ t6 t1 t2 t3 t4 _ _ t5 _ _ t6 true _ (Kd.R_reads' RX4.out).2.2 (Kd.R_reads' RX4.out).2.1 (Kd.R_reads' RX5.out).2.2 (Kd.R_reads' RX5.out).2.1 (Kd.R_reads' RF4.out).2.2 (Kd.R_reads' RF4.out).2.1 (Kd.R_reads' RF5.out).2.2 (Kd.R_reads' RF5.out).2.1 HS1.out).mono ?_
          rintro en w31 ⟨rfl, hb⟩
          replace HB := Lib.hid (below_step HB.out hb)
          go_wp2_with fail
          go_ret
          exact ⟨by first | rfl | simp, HB.out⟩
        | succ d =>
          have hjl1 : (j : Int) < (u5.length : Int) := by omega
          have hpos : 0 < xs.length := by have := HX.out; omega
          obtain ⟨g_, cap_, hv_, -, -, -⟩ := Kd.R_form HRX.out hpos
          injection hv_ with hv1 hv2 hv3
          subst hv1 hv3
          have hxl := HX.out
          have hrx := HRX.out
          rw [show u5.length = xs.length from hxl.symm] at hrx
          obtain ⟨hxc, hxf⟩ := Kd.R_cell (0 : Int) hrx (j : Int) (by omega) (by omega)
          obtain ⟨hnr, hng⟩ := Kd.R_put hrx (j : Int) (-9)
          have HNR := Lib.hid hnr
          have HNG := Lib.hid (World.grownBy.trans HG.out (by simpa [Value.ownBlock] using hng))
          rw [hxl] at HNR
          simp only [Int.toNat_natCast] at hxc hxf HNR HNG
          have hw_ := nat_go (n := u5.length) (l := u5) rfl (by omega) (j := j) (by omega)
          have HW := Lib.hid hw_
          have HX0 := HX; clear hrx hnr hng hxl hle hw_ HX HRX HG HLEN hpos hv2
          go_wp2_with fail
          go_roundg d
          case measure => omega
          case rel => exact ⟨j + 1, xs.set j (-9), by omega, by rw [HW.out], Lib.hid (by rw [List.length_set]; exact HX0.out), HNR, HNG⟩
    | succ d =>
      have hjl1 : (j : Int) < (t6.length : Int) := by omega
      have hpos : 0 < xs.length := by have := HX.out; omega
      obtain ⟨g_, cap_, hv_, -, -, -⟩ := Kd.R_form HRX.out hpos
      injection hv_ with hv1 hv2 hv3
      subst hv1 hv3
      have hxl := HX.out
      have hrx := HRX.out
      rw [show t6.length = xs.length from hxl.symm] at hrx
      obtain ⟨hxc, hxf⟩ := Kd.R_cell (0 : Int) hrx (j : Int) (by omega) (by omega)
      obtain ⟨hnr, hng⟩ := Kd.R_put hrx (j : Int) (99)
      have HNR := Lib.hid hnr
      have HNG := Lib.hid (World.grownBy.trans HG.out (by simpa [Value.ownBlock] using hng))
      rw [hxl] at HNR
      simp only [Int.toNat_natCast] at hxc hxf HNR HNG
      have hw_ := nat_go (n := t6.length) (l := t6) rfl (by omega) (j := j) (by omega)
      have HW := Lib.hid hw_
      have HX0 := HX; clear hrx hnr hng hxl hle hw_ HX HRX HG HLEN hpos hv2
      go_wp2_with fail
      go_roundg d
      case measure => omega
      case rel => exact ⟨j + 1, xs.set j (99), by omega, by rw [HW.out], Lib.hid (by rw [List.length_set]; exact HX0.out), HNR, HNG⟩
end Go.Proofs.Ytihefjdabjmmaaa.PD
