/- What twoslotref11.Find does. No condition. -/
import Derived.Test.YtihefjdabjmmaaaCellRAsk
import Derived.Test.YtihefjdabjmmaaaCellRHold
import Derived.Test.YtihefjdabjmmaaaCellFind
namespace Go.Proofs.Ytihefjdabjmmaaa.PD
open Go Go.RowKit Go.Proofs.YtihefjdabjmmaaaW.PrintWords Go.Proofs.YtihefjdabjmmaaaW.PrintLast Go.Proofs.YtihefjdabjmmaaaW.PrintMore
set_option linter.unusedVariables false
def rFind.f (e : Int) (vr : Bool) (f : Found) : Found := if e ≠ 0 then (0, 0, 0, 0, 0, [], [], false, e) else if vr = false then (0, 0, 0, 0, 0, [], [], false, 2) else f
theorem rheld_range (r1 r3 : Int) (r7 : Bool) (s1 s3 : Int) (s7 : Bool) (kind version : Int) : held_at.f r1 r3 r7 s1 s3 s7 kind version = 0 ∨ held_at.f r1 r3 r7 s1 s3 s7 kind version = 1 ∨ held_at.f r1 r3 r7 s1 s3 s7 kind version = -1 := by
  unfold held_at.f; split
  · exact .inl rfl
  · split
    · exact .inr (.inl rfl)
    · exact .inr (.inr rfl)
set_option maxHeartbeats 8000000 in
set_option maxRecDepth 100000 in
theorem rFind.calls (k : Nat) (a0 a1 a2 a3 : Int) (A0 : Option Addr) (c0 : Nat) (l0 : List Int) (A1 : Option Addr) (c1 : Nat) (l1 : List Int) (kind index version : Int)
    (r1 r2 r3 r4 : Int) (r5 r6 : List Int) (r7 : Bool) (o1 o2 o3 o4 : Int) (o5 o6 : List Int) (o7 : Bool) (s1 s2 s3 s4 : Int) (s5 s6 : List Int) (s7 : Bool) (q1 q2 q3 q4 : Int) (q5 q6 : List Int) (q7 : Bool) (m : Bool) (sz nn : Int) (vr : Bool) (e : Int) (n t1 t2 t3 t4 : Int) (t5 t6 : List Int) (t7 : Bool) (te : Int) (w : World)
    (hr0 : Kd.C (Kd.int .u8) w A0 l0.length l0) (hc0 : l0.length ≤ c0) (hr1 : Kd.C (Kd.int .u8) w A1 l1.length l1) (hc1 : l1.length ≤ c1)
    (hm : twoslotref06_May.f a0 a1 a2 a3 = some m) (hs : twoslotref06_Size.f a0 a1 a2 a3 = some sz) (hn : twoslotref06_N.f a0 a1 a2 a3 = some nn) (he : rAsked.f m sz nn l0 l1 kind index = e) (hv : twoslotref10_Version.f version = some vr)
    (hd : e = 0 → twoslotref10_Read.f k a0 a1 a2 a3 l0 = some (r1, r2, r3, r4, r5, r6, r7) ∧ twoslotref10_Read.f k a0 a1 a2 a3 l1 = some (s1, s2, s3, s4, s5, s6, s7)) (h0 : rOf.of r1 r2 r3 r4 r5 r6 r7 index = (o1, o2, o3, o4, o5, o6, o7)) (h1 : rOf.of s1 s2 s3 s4 s5 s6 s7 index = (q1, q2, q3, q4, q5, q6, q7))
    (h : rFind.f e vr (cell_Find.of (held_at.f o1 o3 o7 q1 q3 q7 kind version) o1 o2 o3 o4 o5 o6 q1 q2 q3 q4 q5 q6) = (n, t1, t2, t3, t4, t5, t6, t7, te)) :
    Calls Try.prog 23 #[.agg #[.int .i64 a0, .int .i64 a1, .int .i64 a2, .int .i64 a3], .agg #[.slice A0 l0.length c0, .slice A1 l1.length c1], .int .u8 kind, .int .i64 index, .int .i64 version] w fun en w' => ∃ u4 u5 : Value,
      en = .returned (.tuple #[.int .i64 n, .agg #[.int .u8 t1, .int .i64 t2, .int .i64 t3, .int .i64 t4, u4, u5], .bool t7, .int .i64 te]) ∧
      Kd.R (Kd.int .i64) 3 w' w.heap.size (fun _ => True) u4 t5 ∧ Kd.R (Kd.int .u8) 5 w' w.heap.size (fun _ => True) u5 t6 ∧ Below w.heap.size w w' := by
  have hu23 := Try.underlying23
  have hu27 := Try.underlying27
  have hu42 := Try.underlying42
  have HB := Lib.hid (Below.refl w.heap.size w)
  have HR0 := Lib.hid hr0
  have HR1 := Lib.hid hr1
  have HC0 := Lib.hid hc0
  have HC1 := Lib.hid hc1
  have HM := Lib.hid hm
  have HS := Lib.hid hs
  have HN := Lib.hid hn
  have HE := Lib.hid he
  have HV := Lib.hid hv
  have HD := Lib.hid hd
  have HO0 := Lib.hid h0
  have HO1 := Lib.hid h1
  have H := Lib.hid h
  clear hr0 hr1 hc0 hc1 hm hs hn he hv hd h0 h1 h
  go_enter Try.func23, Try.ntmps23
  go_upto_region 1 with (first | ((with_reducible refine gate_dst (N := 5) rfl ?_); refine box_event ?hg (N := 5) ?hd (cs := #[.int .i64 a0, .int .i64 a1, .int .i64 a2, .int .i64 a3]) (t := 23) ?hr ?_; (case hd => rfl); (case hg => rfl); (case hr => first | (go_simp; done) | (go_simp; rfl)); intro gb5 hg_ w1 bk_ hb_; have GE5 := Lib.hid (show w.heap.size ≤ gb5 by rw [hg_]; exact below_size HB.out); have BK5 := Lib.hid bk_; replace HB := Lib.hid (below_step HB.out hb_); clear hb_ hg_ bk_) | ((with_reducible refine gate_dst (N := 6) rfl ?_); refine box_event ?hg (N := 6) ?hd (cs := #[.slice A0 l0.length c0, .slice A1 l1.length c1]) (t := 42) ?hr ?_; (case hd => rfl); (case hg => rfl); (case hr => first | (go_simp; done) | (go_simp; rfl)); intro gb6 hg_ w2 bk_ hb_; have GE6 := Lib.hid (show w.heap.size ≤ gb6 by rw [hg_]; exact below_size HB.out); have NB5_6 := Lib.hid (show gb5 ≠ gb6 by rw [hg_]; exact Nat.ne_of_lt (blk_lt BK5.out)); have NB6_5 := Lib.hid NB5_6.out.symm; replace BK5 := Lib.hid (blk_below BK5.out hb_); have BK6 := Lib.hid bk_; replace HB := Lib.hid (below_step HB.out hb_); clear hb_ hg_ bk_) | ((with_reducible refine gate_dst (N := 11) rfl ?_); refine box_event ?hg (N := 11) ?hd (cs := #[.int .u8 0, .int .i64 0, .int .i64 0, .int .i64 0, .slice none 0 0, .slice none 0 0]) (t := 27) ?hr ?_; (case hd => rfl); (case hg => rfl); (case hr => first | (go_simp; done) | (go_simp; rfl)); intro gb11 hg_ w2b bk_ hb_; have GE11 := Lib.hid (show w.heap.size ≤ gb11 by rw [hg_]; exact below_size HB.out); have NB5_11 := Lib.hid (show gb5 ≠ gb11 by rw [hg_]; exact Nat.ne_of_lt (blk_lt BK5.out)); have NB11_5 := Lib.hid NB5_11.out.symm; replace BK5 := Lib.hid (blk_below BK5.out hb_); have NB6_11 := Lib.hid (show gb6 ≠ gb11 by rw [hg_]; exact Nat.ne_of_lt (blk_lt BK6.out)); have NB11_6 := Lib.hid NB6_11.out.symm; replace BK6 := Lib.hid (blk_below BK6.out hb_); have BK11 := Lib.hid bk_; replace HB := Lib.hid (below_step HB.out hb_); clear hb_ hg_ bk_))
  obtain ⟨pc0, pc1, pc2, pc3, pf0, pf1, pf2, pf3⟩ := cs4 BK5.out
  obtain ⟨qc0, qc1, qf0, qf1⟩ := cs2 BK6.out
  go_wp2_with fail
  clear pc0 pf0 pc1 pf1 pc2 pf2 pc3 pf3
  clear qc0 qf0 qc1 qf1
  refine (rAsked.calls a0 a1 a2 a3 A0 c0 l0 A1 c1 l1 kind index m sz nn _ HM.out HS.out HN.out).mono ?_
  rintro en w3 ⟨rfl, hb⟩
  rw [HE.out]
  replace BK5 := Lib.hid (blk_below BK5.out hb)
  replace BK6 := Lib.hid (blk_below BK6.out hb)
  replace BK11 := Lib.hid (blk_below BK11.out hb)
  replace HB := Lib.hid (below_step HB.out hb)
  clear hb
  by_cases hez : e = 0
  case neg =>
    have hb1 : (e == 0) = false := beq_eq_false_iff_ne.mpr hez
    have hb2 : (e != 0) = true := bne_iff_ne.mpr hez
    replace hez := Lib.hid hez
    obtain ⟨zc0, zc1, zc2, zc3, zc4, zc5, zf0, zf1, zf2, zf3, zf4, zf5⟩ := cs6 BK11.out
    go_wp2_with fail
    clear zc0 zf0 zc1 zf1 zc2 zf2 zc3 zf3 zc4 zf4 zc5 zf5
    have h := H.out
    unfold rFind.f at h
    rw [if_pos hez.out] at h
    simp only [Prod.mk.injEq] at h
    obtain ⟨rfl, rfl, rfl, rfl, rfl, rfl, rfl, rfl, rfl⟩ := h
    clear H
    obtain ⟨hq1_, hq2_, hs_⟩ := st6_0_6 HB.out GE11.out BK11.out (.int .u8 0) (.int .i64 0) (.int .i64 0) (.int .i64 0) (.slice none 0 0) (.slice none 0 0)
    generalize ((((((w3.setCell ⟨gb11, 0, none⟩ (.int .u8 0)).setCell ⟨gb11, 1, none⟩ (.int .i64 0)).setCell ⟨gb11, 2, none⟩ (.int .i64 0)).setCell ⟨gb11, 3, none⟩ (.int .i64 0)).setCell ⟨gb11, 4, none⟩ (.slice none 0 0)).setCell ⟨gb11, 5, none⟩ (.slice none 0 0)) = wz at hs_ hq1_ hq2_ ⊢
    replace BK11 := Lib.hid hq1_
    replace HB := Lib.hid hq2_
    clear hs_ hq1_ hq2_
    refine bodyPost_ret (results_tctt rfl _ _ gb11 27 #[.int .u8 0, .int .i64 0, .int .i64 0, .int .i64 0, .slice none 0 0, .slice none 0 0] (0, 0) _ rfl BK11.out Try.underlying27 rfl (by kernel_rfl)) rfl ?_
    exact ⟨_, _, rfl, Kd.R_nil _ _ _ _ _, Kd.R_nil _ _ _ _ _, HB.out⟩
  subst hez
  obtain ⟨hd0, hd1⟩ := HD.out rfl
  have HD0 := Lib.hid hd0
  have HD1 := Lib.hid hd1
  clear hd0 hd1 HD
  go_wp2_with fail
  refine (twoslotref10_Version.calls version vr _ HV.out).mono ?_
  rintro en w4 ⟨rfl, hd_⟩
  have hb := hd_.below
  clear hd_
  replace BK5 := Lib.hid (blk_below BK5.out hb)
  replace BK6 := Lib.hid (blk_below BK6.out hb)
  replace BK11 := Lib.hid (blk_below BK11.out hb)
  replace HB := Lib.hid (below_step HB.out hb)
  clear hb
  cases vr with
  | false =>
    obtain ⟨zc0, zc1, zc2, zc3, zc4, zc5, zf0, zf1, zf2, zf3, zf4, zf5⟩ := cs6 BK11.out
    go_wp2_with fail
    clear zc0 zf0 zc1 zf1 zc2 zf2 zc3 zf3 zc4 zf4 zc5 zf5
    have h := H.out
    unfold rFind.f at h
    rw [if_neg (fun z => z rfl), if_pos rfl] at h
    simp only [Prod.mk.injEq] at h
    obtain ⟨rfl, rfl, rfl, rfl, rfl, rfl, rfl, rfl, rfl⟩ := h
    clear H
    obtain ⟨hq1_, hq2_, hs_⟩ := st6_0_6 HB.out GE11.out BK11.out (.int .u8 0) (.int .i64 0) (.int .i64 0) (.int .i64 0) (.slice none 0 0) (.slice none 0 0)
    generalize ((((((w4.setCell ⟨gb11, 0, none⟩ (.int .u8 0)).setCell ⟨gb11, 1, none⟩ (.int .i64 0)).setCell ⟨gb11, 2, none⟩ (.int .i64 0)).setCell ⟨gb11, 3, none⟩ (.int .i64 0)).setCell ⟨gb11, 4, none⟩ (.slice none 0 0)).setCell ⟨gb11, 5, none⟩ (.slice none 0 0)) = wz at hs_ hq1_ hq2_ ⊢
    replace BK11 := Lib.hid hq1_
    replace HB := Lib.hid hq2_
    clear hs_ hq1_ hq2_
    refine bodyPost_ret (results_tctt rfl _ _ gb11 27 #[.int .u8 0, .int .i64 0, .int .i64 0, .int .i64 0, .slice none 0 0, .slice none 0 0] (0, 0) _ rfl BK11.out Try.underlying27 rfl (by kernel_rfl)) rfl ?_
    exact ⟨_, _, rfl, Kd.R_nil _ _ _ _ _, Kd.R_nil _ _ _ _ _, HB.out⟩
  | true =>
    obtain ⟨pc0, pc1, pc2, pc3, pf0, pf1, pf2, pf3⟩ := cs4 BK5.out
    obtain ⟨qc0, qc1, qf0, qf1⟩ := cs2 BK6.out
    go_wp2_with fail
    clear pc0 pf0 pc1 pf1 pc2 pf2 pc3 pf3
    clear qc0 qf0 qc1 qf1
    refine (rHolds.calls k a0 a1 a2 a3 _ _ l0 _ _ l1 kind index version r1 r2 r3 r4 r5 r6 r7 o1 o2 o3 o4 o5 o6 o7 s1 s2 s3 s4 s5 s6 s7 q1 q2 q3 q4 q5 q6 q7 _ (Kd.C_below HR0.out HB.out) HC0.out (Kd.C_below HR1.out HB.out) HC1.out HD0.out HO0.out HD1.out HO1.out).mono ?_
    rintro en w5 ⟨rfl, hb⟩
    replace BK5 := Lib.hid (blk_below BK5.out hb)
    replace BK6 := Lib.hid (blk_below BK6.out hb)
    replace BK11 := Lib.hid (blk_below BK11.out hb)
    replace HB := Lib.hid (below_step HB.out hb)
    clear hb
    have hrg := rheld_range o1 o3 o7 q1 q3 q7 kind version
    generalize held_at.f o1 o3 o7 q1 q3 q7 kind version = at_ at hrg H ⊢
    have hi0 := tw_ia0 gb6
    have hi1 := tw_ia1 gb6
    rcases hrg with rfl | rfl | rfl
    ·
      go_wp2_with fail
      replace H := Lib.hid (show rFind.f 0 true (0, o1, o2, o3, o4, o5, o6, true, 0) = (n, t1, t2, t3, t4, t5, t6, t7, te) from H.out)
      go_region_held3 (fun w' => w'.cell? ⟨gb6, 0, none⟩ = some (.slice A0 l0.length c0) ∧ w'.cell? ⟨gb5, 0, none⟩ = some (.int .i64 a0) ∧ w'.cell? ⟨gb5, 1, none⟩ = some (.int .i64 a1) ∧ w'.cell? ⟨gb5, 2, none⟩ = some (.int .i64 a2) ∧ w'.cell? ⟨gb5, 3, none⟩ = some (.int .i64 a3)) (first | (with_reducible exact ⟨(blk_cell (blk_drew BK6.out) 0).trans rfl, (blk_cell (blk_drew BK5.out) 0).trans rfl, (blk_cell (blk_drew BK5.out) 1).trans rfl, (blk_cell (blk_drew BK5.out) 2).trans rfl, (blk_cell (blk_drew BK5.out) 3).trans rfl⟩) | (with_reducible exact ⟨(blk_cell (blk_drew (blk_below BK6.out (below_alloc (Below.refl _ _) _))) 0).trans rfl, (blk_cell (blk_drew (blk_below BK5.out (below_alloc (Below.refl _ _) _))) 0).trans rfl, (blk_cell (blk_drew (blk_below BK5.out (below_alloc (Below.refl _ _) _))) 1).trans rfl, (blk_cell (blk_drew (blk_below BK5.out (below_alloc (Below.refl _ _) _))) 2).trans rfl, (blk_cell (blk_drew (blk_below BK5.out (below_alloc (Below.refl _ _) _))) 3).trans rfl⟩) | (with_reducible exact ⟨(blk_cell (blk_below (blk_drew BK6.out) hb) 0).trans rfl, (blk_cell (blk_below (blk_drew BK5.out) hb) 0).trans rfl, (blk_cell (blk_below (blk_drew BK5.out) hb) 1).trans rfl, (blk_cell (blk_below (blk_drew BK5.out) hb) 2).trans rfl, (blk_cell (blk_below (blk_drew BK5.out) hb) 3).trans rfl⟩) | (with_reducible exact ⟨(blk_cell (blk_below (blk_drew (blk_below BK6.out (below_alloc (Below.refl _ _) _))) hb) 0).trans rfl, (blk_cell (blk_below (blk_drew (blk_below BK5.out (below_alloc (Below.refl _ _) _))) hb) 0).trans rfl, (blk_cell (blk_below (blk_drew (blk_below BK5.out (below_alloc (Below.refl _ _) _))) hb) 1).trans rfl, (blk_cell (blk_below (blk_drew (blk_below BK5.out (below_alloc (Below.refl _ _) _))) hb) 2).trans rfl, (blk_cell (blk_below (blk_drew (blk_below BK5.out (below_alloc (Below.refl _ _) _))) hb) 3).trans rfl⟩) | (with_reducible exact ⟨(blk_cell (blk_below (blk_below (blk_drew BK6.out) hb) (below_alloc (Below.refl _ _) _)) 0).trans rfl, (blk_cell (blk_below (blk_below (blk_drew BK5.out) hb) (below_alloc (Below.refl _ _) _)) 0).trans rfl, (blk_cell (blk_below (blk_below (blk_drew BK5.out) hb) (below_alloc (Below.refl _ _) _)) 1).trans rfl, (blk_cell (blk_below (blk_below (blk_drew BK5.out) hb) (below_alloc (Below.refl _ _) _)) 2).trans rfl, (blk_cell (blk_below (blk_below (blk_drew BK5.out) hb) (below_alloc (Below.refl _ _) _)) 3).trans rfl⟩) | (with_reducible exact ⟨(blk_cell (blk_far (p := ⟨w5.heap.size, 5, none⟩) (blk_far (p := ⟨w5.heap.size, 4, none⟩) (blk_far (p := ⟨w5.heap.size, 3, none⟩) (blk_far (p := ⟨w5.heap.size, 2, none⟩) (blk_far (p := ⟨w5.heap.size, 1, none⟩) (blk_far (p := ⟨w5.heap.size, 0, none⟩) (blk_below (blk_drew (blk_below BK6.out (below_alloc (Below.refl _ _) _))) hb) (Nat.ne_of_lt (blk_lt BK6.out)) (.int .u8 o1)) (Nat.ne_of_lt (blk_lt BK6.out)) (.int .i64 o2)) (Nat.ne_of_lt (blk_lt BK6.out)) (.int .i64 o3)) (Nat.ne_of_lt (blk_lt BK6.out)) (.int .i64 o4)) (Nat.ne_of_lt (blk_lt BK6.out)) (.slice X4 o5.length x4)) (Nat.ne_of_lt (blk_lt BK6.out)) (.slice X5 o6.length x5)) 0).trans rfl, (blk_cell (blk_far (p := ⟨w5.heap.size, 5, none⟩) (blk_far (p := ⟨w5.heap.size, 4, none⟩) (blk_far (p := ⟨w5.heap.size, 3, none⟩) (blk_far (p := ⟨w5.heap.size, 2, none⟩) (blk_far (p := ⟨w5.heap.size, 1, none⟩) (blk_far (p := ⟨w5.heap.size, 0, none⟩) (blk_below (blk_drew (blk_below BK5.out (below_alloc (Below.refl _ _) _))) hb) (Nat.ne_of_lt (blk_lt BK5.out)) (.int .u8 o1)) (Nat.ne_of_lt (blk_lt BK5.out)) (.int .i64 o2)) (Nat.ne_of_lt (blk_lt BK5.out)) (.int .i64 o3)) (Nat.ne_of_lt (blk_lt BK5.out)) (.int .i64 o4)) (Nat.ne_of_lt (blk_lt BK5.out)) (.slice X4 o5.length x4)) (Nat.ne_of_lt (blk_lt BK5.out)) (.slice X5 o6.length x5)) 0).trans rfl, (blk_cell (blk_far (p := ⟨w5.heap.size, 5, none⟩) (blk_far (p := ⟨w5.heap.size, 4, none⟩) (blk_far (p := ⟨w5.heap.size, 3, none⟩) (blk_far (p := ⟨w5.heap.size, 2, none⟩) (blk_far (p := ⟨w5.heap.size, 1, none⟩) (blk_far (p := ⟨w5.heap.size, 0, none⟩) (blk_below (blk_drew (blk_below BK5.out (below_alloc (Below.refl _ _) _))) hb) (Nat.ne_of_lt (blk_lt BK5.out)) (.int .u8 o1)) (Nat.ne_of_lt (blk_lt BK5.out)) (.int .i64 o2)) (Nat.ne_of_lt (blk_lt BK5.out)) (.int .i64 o3)) (Nat.ne_of_lt (blk_lt BK5.out)) (.int .i64 o4)) (Nat.ne_of_lt (blk_lt BK5.out)) (.slice X4 o5.length x4)) (Nat.ne_of_lt (blk_lt BK5.out)) (.slice X5 o6.length x5)) 1).trans rfl, (blk_cell (blk_far (p := ⟨w5.heap.size, 5, none⟩) (blk_far (p := ⟨w5.heap.size, 4, none⟩) (blk_far (p := ⟨w5.heap.size, 3, none⟩) (blk_far (p := ⟨w5.heap.size, 2, none⟩) (blk_far (p := ⟨w5.heap.size, 1, none⟩) (blk_far (p := ⟨w5.heap.size, 0, none⟩) (blk_below (blk_drew (blk_below BK5.out (below_alloc (Below.refl _ _) _))) hb) (Nat.ne_of_lt (blk_lt BK5.out)) (.int .u8 o1)) (Nat.ne_of_lt (blk_lt BK5.out)) (.int .i64 o2)) (Nat.ne_of_lt (blk_lt BK5.out)) (.int .i64 o3)) (Nat.ne_of_lt (blk_lt BK5.out)) (.int .i64 o4)) (Nat.ne_of_lt (blk_lt BK5.out)) (.slice X4 o5.length x4)) (Nat.ne_of_lt (blk_lt BK5.out)) (.slice X5 o6.length x5)) 2).trans rfl, (blk_cell (blk_far (p := ⟨w5.heap.size, 5, none⟩) (blk_far (p := ⟨w5.heap.size, 4, none⟩) (blk_far (p := ⟨w5.heap.size, 3, none⟩) (blk_far (p := ⟨w5.heap.size, 2, none⟩) (blk_far (p := ⟨w5.heap.size, 1, none⟩) (blk_far (p := ⟨w5.heap.size, 0, none⟩) (blk_below (blk_drew (blk_below BK5.out (below_alloc (Below.refl _ _) _))) hb) (Nat.ne_of_lt (blk_lt BK5.out)) (.int .u8 o1)) (Nat.ne_of_lt (blk_lt BK5.out)) (.int .i64 o2)) (Nat.ne_of_lt (blk_lt BK5.out)) (.int .i64 o3)) (Nat.ne_of_lt (blk_lt BK5.out)) (.int .i64 o4)) (Nat.ne_of_lt (blk_lt BK5.out)) (.slice X4 o5.length x4)) (Nat.ne_of_lt (blk_lt BK5.out)) (.slice X5 o6.length x5)) 3).trans rfl⟩)) ((go_at_call 43; refine (rOf.calls k a0 a1 a2 a3 A0 c0 l0 index r1 r2 r3 r4 r5 r6 r7 o1 o2 o3 o4 o5 o6 o7 _ (by first | exact Kd.C_below HR0.out (below_drew1 HB.out) | exact Kd.C_below HR0.out (below_drew1 (below_alloc HB.out _))) HC0.out HD0.out HO0.out).mono ?_; rintro en w9 ⟨u4, u5, rfl, ho4, ho5, hb⟩; obtain ⟨X4, x4, rfl⟩ := Kd.R_slice ho4; obtain ⟨X5, x5, rfl⟩ := Kd.R_slice ho5; (try (have hnw : w9.heap[w5.heap.size]? = some (.cells #[.int .u8 0, .int .i64 0, .int .i64 0, .int .i64 0, .slice none 0 0, .slice none 0 0] 27 (0, 0)) := blk_below (blk_drew (blk_new _ _)) hb; obtain ⟨zc0, zc1, zc2, zc3, zc4, zc5, zf0, zf1, zf2, zf3, zf4, zf5⟩ := cs6 hnw))))
      ·
        have RU4 := Lib.hid (Kd.R_lower ho4 (below_size (below_drew1 HB.out)))
        have RU5 := Lib.hid (Kd.R_lower ho5 (below_size (below_drew1 HB.out)))
        clear ho4 ho5
        replace BK5 := Lib.hid (blk_below (blk_drew BK5.out) hb)
        replace BK6 := Lib.hid (blk_below (blk_drew BK6.out) hb)
        replace BK11 := Lib.hid (blk_below (blk_drew BK11.out) hb)
        replace HB := Lib.hid (below_step (below_drew1 HB.out) hb)
        clear hb
        have GE16 := Lib.hid (show w.heap.size ≤ w9.heap.size from below_size HB.out)
        have NB5_16 := Lib.hid (show gb5 ≠ w9.heap.size from Nat.ne_of_lt (blk_lt BK5.out))
        have NB16_5 := Lib.hid NB5_16.out.symm
        have NB6_16 := Lib.hid (show gb6 ≠ w9.heap.size from Nat.ne_of_lt (blk_lt BK6.out))
        have NB16_6 := Lib.hid NB6_16.out.symm
        have NB11_16 := Lib.hid (show gb11 ≠ w9.heap.size from Nat.ne_of_lt (blk_lt BK11.out))
        have NB16_11 := Lib.hid NB11_16.out.symm
        have hal_ := below_alloc (Below.refl w9.heap.size w9) (.cells #[.int .u8 o1, .int .i64 o2, .int .i64 o3, .int .i64 o4, .slice X4 o5.length x4, .slice X5 o6.length x5] 27 (0, 0))
        replace BK5 := Lib.hid (blk_below BK5.out hal_)
        replace BK6 := Lib.hid (blk_below BK6.out hal_)
        replace BK11 := Lib.hid (blk_below BK11.out hal_)
        replace RU4 := Lib.hid (Kd.R_below RU4.out hal_)
        replace RU5 := Lib.hid (Kd.R_below RU5.out hal_)
        have BK16 := Lib.hid (blk_new w9 (.cells #[.int .u8 o1, .int .i64 o2, .int .i64 o3, .int .i64 o4, .slice X4 o5.length x4, .slice X5 o6.length x5] 27 (0, 0)))
        replace HB := Lib.hid (below_step HB.out hal_)
        clear hal_
        try clear hHeld_
        generalize w9.alloc (.cells #[.int .u8 o1, .int .i64 o2, .int .i64 o3, .int .i64 o4, .slice X4 o5.length x4, .slice X5 o6.length x5] 27 (0, 0)) = wn at BK16 BK5 BK6 BK11 RU4 RU5 HB ⊢
        generalize w9.heap.size = gb16 at BK16 GE16 NB5_16 NB16_5 NB6_16 NB16_6 NB11_16 NB16_11 ⊢
        obtain ⟨yc0, yc1, yc2, yc3, yc4, yc5, yf0, yf1, yf2, yf3, yf4, yf5⟩ := cs6 BK16.out
        obtain ⟨zc0, zc1, zc2, zc3, zc4, zc5, zf0, zf1, zf2, zf3, zf4, zf5⟩ := cs6 BK11.out
        go_wp2_with fail
        go_region
        go_wp2_with fail
        clear yc0 yf0 yc1 yf1 yc2 yf2 yc3 yf3 yc4 yf4 yc5 yf5
        clear zc0 zf0 zc1 zf1 zc2 zf2 zc3 zf3 zc4 zf4 zc5 zf5
        have h := H.out
        unfold rFind.f at h
        rw [if_neg (fun z => z rfl), if_neg (fun z => Bool.noConfusion z)] at h
        simp only [Prod.mk.injEq] at h
        obtain ⟨rfl, rfl, rfl, rfl, rfl, rfl, rfl, rfl, rfl⟩ := h
        clear H
        obtain ⟨hq1_, hq2_, hs_⟩ := st6_0_6 HB.out GE11.out BK11.out (.int .u8 o1) (.int .i64 o2) (.int .i64 o3) (.int .i64 o4) (.slice X4 o5.length x4) (.slice X5 o6.length x5)
        replace hq1_ := blk_drew hq1_
        replace hq2_ := below_drew1 hq2_
        have hsd_ : ∀ k, k ≠ gb11 → (((((((wn.setCell ⟨gb11, 0, none⟩ (.int .u8 o1)).setCell ⟨gb11, 1, none⟩ (.int .i64 o2)).setCell ⟨gb11, 2, none⟩ (.int .i64 o3)).setCell ⟨gb11, 3, none⟩ (.int .i64 o4)).setCell ⟨gb11, 4, none⟩ (.slice X4 o5.length x4)).setCell ⟨gb11, 5, none⟩ (.slice X5 o6.length x5)).drew).heap[k]? = wn.heap[k]? := fun k hk => (drew_heap _ k).trans (hs_ k hk)
        clear hs_
        have hs_ := hsd_
        clear hsd_
        generalize ((((((wn.setCell ⟨gb11, 0, none⟩ (.int .u8 o1)).setCell ⟨gb11, 1, none⟩ (.int .i64 o2)).setCell ⟨gb11, 2, none⟩ (.int .i64 o3)).setCell ⟨gb11, 3, none⟩ (.int .i64 o4)).setCell ⟨gb11, 4, none⟩ (.slice X4 o5.length x4)).setCell ⟨gb11, 5, none⟩ (.slice X5 o6.length x5)).drew = wz at hs_ hq1_ hq2_ ⊢
        replace RU4 := Lib.hid (Kd.R_mono (Kd.R_step (Kd.R_types RU4.out BK11.out (by decide)) (fun k hk _ => hs_ k hk.2)) (ok' := fun _ => True) (fun _ _ => trivial))
        replace RU5 := Lib.hid (Kd.R_mono (Kd.R_step (Kd.R_types RU5.out BK11.out (by decide)) (fun k hk _ => hs_ k hk.2)) (ok' := fun _ => True) (fun _ _ => trivial))
        replace BK11 := Lib.hid hq1_
        replace HB := Lib.hid hq2_
        clear hs_ hq1_ hq2_
        refine bodyPost_ret (results_tctt rfl _ _ gb11 27 #[.int .u8 o1, .int .i64 o2, .int .i64 o3, .int .i64 o4, .slice X4 o5.length x4, .slice X5 o6.length x5] (0, 0) _ rfl BK11.out Try.underlying27 rfl (by kernel_rfl)) rfl ?_
        exact ⟨_, _, rfl, RU4.out, RU5.out, HB.out⟩
      ·
        clear zc0 zc1 zc2 zc3 zc4 zc5 zf0 zf1 zf2 zf3 zf4 zf5
        have RU4 := Lib.hid (Kd.R_lower ho4 (below_size (below_drew1 (below_alloc HB.out _))))
        have RU5 := Lib.hid (Kd.R_lower ho5 (below_size (below_drew1 (below_alloc HB.out _))))
        clear ho4 ho5
        have GE16 := Lib.hid (show w.heap.size ≤ w5.heap.size from below_size HB.out)
        have NB5_16 := Lib.hid (show gb5 ≠ w5.heap.size from Nat.ne_of_lt (blk_lt BK5.out))
        have NB16_5 := Lib.hid NB5_16.out.symm
        have NB6_16 := Lib.hid (show gb6 ≠ w5.heap.size from Nat.ne_of_lt (blk_lt BK6.out))
        have NB16_6 := Lib.hid NB6_16.out.symm
        have NB11_16 := Lib.hid (show gb11 ≠ w5.heap.size from Nat.ne_of_lt (blk_lt BK11.out))
        have NB16_11 := Lib.hid NB11_16.out.symm
        replace BK5 := Lib.hid (blk_below (blk_drew (blk_below BK5.out (below_alloc (Below.refl _ _) _))) hb)
        replace BK6 := Lib.hid (blk_below (blk_drew (blk_below BK6.out (below_alloc (Below.refl _ _) _))) hb)
        replace BK11 := Lib.hid (blk_below (blk_drew (blk_below BK11.out (below_alloc (Below.refl _ _) _))) hb)
        replace HB := Lib.hid (below_step (below_drew1 (below_alloc HB.out _)) hb)
        have BK16 := Lib.hid hnw
        clear hb hnw
        generalize w5.heap.size = gb16 at BK16 GE16 NB5_16 NB16_5 NB6_16 NB16_6 NB11_16 NB16_11 ⊢
        obtain ⟨hq1_, hq2_, hs_⟩ := st6_0_6 HB.out GE16.out BK16.out (.int .u8 o1) (.int .i64 o2) (.int .i64 o3) (.int .i64 o4) (.slice X4 o5.length x4) (.slice X5 o6.length x5)
        generalize ((((((w9.setCell ⟨gb16, 0, none⟩ (.int .u8 o1)).setCell ⟨gb16, 1, none⟩ (.int .i64 o2)).setCell ⟨gb16, 2, none⟩ (.int .i64 o3)).setCell ⟨gb16, 3, none⟩ (.int .i64 o4)).setCell ⟨gb16, 4, none⟩ (.slice X4 o5.length x4)).setCell ⟨gb16, 5, none⟩ (.slice X5 o6.length x5)) = wn at hs_ hq1_ hq2_ ⊢
        replace RU4 := Lib.hid (Kd.R_mono (Kd.R_step (Kd.R_types RU4.out BK16.out (by decide)) (fun k hk _ => hs_ k hk.2)) (ok' := fun _ => True) (fun _ _ => trivial))
        replace RU5 := Lib.hid (Kd.R_mono (Kd.R_step (Kd.R_types RU5.out BK16.out (by decide)) (fun k hk _ => hs_ k hk.2)) (ok' := fun _ => True) (fun _ _ => trivial))
        replace BK5 := Lib.hid ((hs_ gb5 NB5_16.out).trans BK5.out)
        replace BK6 := Lib.hid ((hs_ gb6 NB6_16.out).trans BK6.out)
        replace BK11 := Lib.hid ((hs_ gb11 NB11_16.out).trans BK11.out)
        replace BK16 := Lib.hid hq1_
        replace HB := Lib.hid hq2_
        clear hs_ hq1_ hq2_
        obtain ⟨yc0, yc1, yc2, yc3, yc4, yc5, yf0, yf1, yf2, yf3, yf4, yf5⟩ := cs6 BK16.out
        obtain ⟨zc0, zc1, zc2, zc3, zc4, zc5, zf0, zf1, zf2, zf3, zf4, zf5⟩ := cs6 BK11.out
        go_wp2_with fail
        go_region
        go_wp2_with fail
        clear yc0 yf0 yc1 yf1 yc2 yf2 yc3 yf3 yc4 yf4 yc5 yf5
        clear zc0 zf0 zc1 zf1 zc2 zf2 zc3 zf3 zc4 zf4 zc5 zf5
        have h := H.out
        unfold rFind.f at h
        rw [if_neg (fun z => z rfl), if_neg (fun z => Bool.noConfusion z)] at h
        simp only [Prod.mk.injEq] at h
        obtain ⟨rfl, rfl, rfl, rfl, rfl, rfl, rfl, rfl, rfl⟩ := h
        clear H
        obtain ⟨hq1_, hq2_, hs_⟩ := st6_0_6 HB.out GE11.out BK11.out (.int .u8 o1) (.int .i64 o2) (.int .i64 o3) (.int .i64 o4) (.slice X4 o5.length x4) (.slice X5 o6.length x5)
        replace hq1_ := blk_drew hq1_
        replace hq2_ := below_drew1 hq2_
        have hsd_ : ∀ k, k ≠ gb11 → (((((((wn.setCell ⟨gb11, 0, none⟩ (.int .u8 o1)).setCell ⟨gb11, 1, none⟩ (.int .i64 o2)).setCell ⟨gb11, 2, none⟩ (.int .i64 o3)).setCell ⟨gb11, 3, none⟩ (.int .i64 o4)).setCell ⟨gb11, 4, none⟩ (.slice X4 o5.length x4)).setCell ⟨gb11, 5, none⟩ (.slice X5 o6.length x5)).drew).heap[k]? = wn.heap[k]? := fun k hk => (drew_heap _ k).trans (hs_ k hk)
        clear hs_
        have hs_ := hsd_
        clear hsd_
        generalize ((((((wn.setCell ⟨gb11, 0, none⟩ (.int .u8 o1)).setCell ⟨gb11, 1, none⟩ (.int .i64 o2)).setCell ⟨gb11, 2, none⟩ (.int .i64 o3)).setCell ⟨gb11, 3, none⟩ (.int .i64 o4)).setCell ⟨gb11, 4, none⟩ (.slice X4 o5.length x4)).setCell ⟨gb11, 5, none⟩ (.slice X5 o6.length x5)).drew = wz at hs_ hq1_ hq2_ ⊢
        replace RU4 := Lib.hid (Kd.R_mono (Kd.R_step (Kd.R_types RU4.out BK11.out (by decide)) (fun k hk _ => hs_ k hk.2)) (ok' := fun _ => True) (fun _ _ => trivial))
        replace RU5 := Lib.hid (Kd.R_mono (Kd.R_step (Kd.R_types RU5.out BK11.out (by decide)) (fun k hk _ => hs_ k hk.2)) (ok' := fun _ => True) (fun _ _ => trivial))
        replace BK11 := Lib.hid hq1_
        replace HB := Lib.hid hq2_
        clear hs_ hq1_ hq2_
        refine bodyPost_ret (results_tctt rfl _ _ gb11 27 #[.int .u8 o1, .int .i64 o2, .int .i64 o3, .int .i64 o4, .slice X4 o5.length x4, .slice X5 o6.length x5] (0, 0) _ rfl BK11.out Try.underlying27 rfl (by kernel_rfl)) rfl ?_
        exact ⟨_, _, rfl, RU4.out, RU5.out, HB.out⟩
    ·
      go_wp2_with fail
      replace H := Lib.hid (show rFind.f 0 true (1, q1, q2, q3, q4, q5, q6, true, 0) = (n, t1, t2, t3, t4, t5, t6, t7, te) from H.out)
      go_region_held3 (fun w' => w'.cell? ⟨gb6, 1, none⟩ = some (.slice A1 l1.length c1) ∧ w'.cell? ⟨gb5, 0, none⟩ = some (.int .i64 a0) ∧ w'.cell? ⟨gb5, 1, none⟩ = some (.int .i64 a1) ∧ w'.cell? ⟨gb5, 2, none⟩ = some (.int .i64 a2) ∧ w'.cell? ⟨gb5, 3, none⟩ = some (.int .i64 a3)) (first | (with_reducible exact ⟨(blk_cell (blk_drew BK6.out) 1).trans rfl, (blk_cell (blk_drew BK5.out) 0).trans rfl, (blk_cell (blk_drew BK5.out) 1).trans rfl, (blk_cell (blk_drew BK5.out) 2).trans rfl, (blk_cell (blk_drew BK5.out) 3).trans rfl⟩) | (with_reducible exact ⟨(blk_cell (blk_drew (blk_below BK6.out (below_alloc (Below.refl _ _) _))) 1).trans rfl, (blk_cell (blk_drew (blk_below BK5.out (below_alloc (Below.refl _ _) _))) 0).trans rfl, (blk_cell (blk_drew (blk_below BK5.out (below_alloc (Below.refl _ _) _))) 1).trans rfl, (blk_cell (blk_drew (blk_below BK5.out (below_alloc (Below.refl _ _) _))) 2).trans rfl, (blk_cell (blk_drew (blk_below BK5.out (below_alloc (Below.refl _ _) _))) 3).trans rfl⟩) | (with_reducible exact ⟨(blk_cell (blk_below (blk_drew BK6.out) hb) 1).trans rfl, (blk_cell (blk_below (blk_drew BK5.out) hb) 0).trans rfl, (blk_cell (blk_below (blk_drew BK5.out) hb) 1).trans rfl, (blk_cell (blk_below (blk_drew BK5.out) hb) 2).trans rfl, (blk_cell (blk_below (blk_drew BK5.out) hb) 3).trans rfl⟩) | (with_reducible exact ⟨(blk_cell (blk_below (blk_drew (blk_below BK6.out (below_alloc (Below.refl _ _) _))) hb) 1).trans rfl, (blk_cell (blk_below (blk_drew (blk_below BK5.out (below_alloc (Below.refl _ _) _))) hb) 0).trans rfl, (blk_cell (blk_below (blk_drew (blk_below BK5.out (below_alloc (Below.refl _ _) _))) hb) 1).trans rfl, (blk_cell (blk_below (blk_drew (blk_below BK5.out (below_alloc (Below.refl _ _) _))) hb) 2).trans rfl, (blk_cell (blk_below (blk_drew (blk_below BK5.out (below_alloc (Below.refl _ _) _))) hb) 3).trans rfl⟩) | (with_reducible exact ⟨(blk_cell (blk_below (blk_below (blk_drew BK6.out) hb) (below_alloc (Below.refl _ _) _)) 1).trans rfl, (blk_cell (blk_below (blk_below (blk_drew BK5.out) hb) (below_alloc (Below.refl _ _) _)) 0).trans rfl, (blk_cell (blk_below (blk_below (blk_drew BK5.out) hb) (below_alloc (Below.refl _ _) _)) 1).trans rfl, (blk_cell (blk_below (blk_below (blk_drew BK5.out) hb) (below_alloc (Below.refl _ _) _)) 2).trans rfl, (blk_cell (blk_below (blk_below (blk_drew BK5.out) hb) (below_alloc (Below.refl _ _) _)) 3).trans rfl⟩) | (with_reducible exact ⟨(blk_cell (blk_far (p := ⟨w5.heap.size, 5, none⟩) (blk_far (p := ⟨w5.heap.size, 4, none⟩) (blk_far (p := ⟨w5.heap.size, 3, none⟩) (blk_far (p := ⟨w5.heap.size, 2, none⟩) (blk_far (p := ⟨w5.heap.size, 1, none⟩) (blk_far (p := ⟨w5.heap.size, 0, none⟩) (blk_below (blk_drew (blk_below BK6.out (below_alloc (Below.refl _ _) _))) hb) (Nat.ne_of_lt (blk_lt BK6.out)) (.int .u8 q1)) (Nat.ne_of_lt (blk_lt BK6.out)) (.int .i64 q2)) (Nat.ne_of_lt (blk_lt BK6.out)) (.int .i64 q3)) (Nat.ne_of_lt (blk_lt BK6.out)) (.int .i64 q4)) (Nat.ne_of_lt (blk_lt BK6.out)) (.slice Y4 q5.length y4)) (Nat.ne_of_lt (blk_lt BK6.out)) (.slice Y5 q6.length y5)) 1).trans rfl, (blk_cell (blk_far (p := ⟨w5.heap.size, 5, none⟩) (blk_far (p := ⟨w5.heap.size, 4, none⟩) (blk_far (p := ⟨w5.heap.size, 3, none⟩) (blk_far (p := ⟨w5.heap.size, 2, none⟩) (blk_far (p := ⟨w5.heap.size, 1, none⟩) (blk_far (p := ⟨w5.heap.size, 0, none⟩) (blk_below (blk_drew (blk_below BK5.out (below_alloc (Below.refl _ _) _))) hb) (Nat.ne_of_lt (blk_lt BK5.out)) (.int .u8 q1)) (Nat.ne_of_lt (blk_lt BK5.out)) (.int .i64 q2)) (Nat.ne_of_lt (blk_lt BK5.out)) (.int .i64 q3)) (Nat.ne_of_lt (blk_lt BK5.out)) (.int .i64 q4)) (Nat.ne_of_lt (blk_lt BK5.out)) (.slice Y4 q5.length y4)) (Nat.ne_of_lt (blk_lt BK5.out)) (.slice Y5 q6.length y5)) 0).trans rfl, (blk_cell (blk_far (p := ⟨w5.heap.size, 5, none⟩) (blk_far (p := ⟨w5.heap.size, 4, none⟩) (blk_far (p := ⟨w5.heap.size, 3, none⟩) (blk_far (p := ⟨w5.heap.size, 2, none⟩) (blk_far (p := ⟨w5.heap.size, 1, none⟩) (blk_far (p := ⟨w5.heap.size, 0, none⟩) (blk_below (blk_drew (blk_below BK5.out (below_alloc (Below.refl _ _) _))) hb) (Nat.ne_of_lt (blk_lt BK5.out)) (.int .u8 q1)) (Nat.ne_of_lt (blk_lt BK5.out)) (.int .i64 q2)) (Nat.ne_of_lt (blk_lt BK5.out)) (.int .i64 q3)) (Nat.ne_of_lt (blk_lt BK5.out)) (.int .i64 q4)) (Nat.ne_of_lt (blk_lt BK5.out)) (.slice Y4 q5.length y4)) (Nat.ne_of_lt (blk_lt BK5.out)) (.slice Y5 q6.length y5)) 1).trans rfl, (blk_cell (blk_far (p := ⟨w5.heap.size, 5, none⟩) (blk_far (p := ⟨w5.heap.size, 4, none⟩) (blk_far (p := ⟨w5.heap.size, 3, none⟩) (blk_far (p := ⟨w5.heap.size, 2, none⟩) (blk_far (p := ⟨w5.heap.size, 1, none⟩) (blk_far (p := ⟨w5.heap.size, 0, none⟩) (blk_below (blk_drew (blk_below BK5.out (below_alloc (Below.refl _ _) _))) hb) (Nat.ne_of_lt (blk_lt BK5.out)) (.int .u8 q1)) (Nat.ne_of_lt (blk_lt BK5.out)) (.int .i64 q2)) (Nat.ne_of_lt (blk_lt BK5.out)) (.int .i64 q3)) (Nat.ne_of_lt (blk_lt BK5.out)) (.int .i64 q4)) (Nat.ne_of_lt (blk_lt BK5.out)) (.slice Y4 q5.length y4)) (Nat.ne_of_lt (blk_lt BK5.out)) (.slice Y5 q6.length y5)) 2).trans rfl, (blk_cell (blk_far (p := ⟨w5.heap.size, 5, none⟩) (blk_far (p := ⟨w5.heap.size, 4, none⟩) (blk_far (p := ⟨w5.heap.size, 3, none⟩) (blk_far (p := ⟨w5.heap.size, 2, none⟩) (blk_far (p := ⟨w5.heap.size, 1, none⟩) (blk_far (p := ⟨w5.heap.size, 0, none⟩) (blk_below (blk_drew (blk_below BK5.out (below_alloc (Below.refl _ _) _))) hb) (Nat.ne_of_lt (blk_lt BK5.out)) (.int .u8 q1)) (Nat.ne_of_lt (blk_lt BK5.out)) (.int .i64 q2)) (Nat.ne_of_lt (blk_lt BK5.out)) (.int .i64 q3)) (Nat.ne_of_lt (blk_lt BK5.out)) (.int .i64 q4)) (Nat.ne_of_lt (blk_lt BK5.out)) (.slice Y4 q5.length y4)) (Nat.ne_of_lt (blk_lt BK5.out)) (.slice Y5 q6.length y5)) 3).trans rfl⟩)) ((go_at_call 43; refine (rOf.calls k a0 a1 a2 a3 A1 c1 l1 index s1 s2 s3 s4 s5 s6 s7 q1 q2 q3 q4 q5 q6 q7 _ (by first | exact Kd.C_below HR1.out (below_drew1 HB.out) | exact Kd.C_below HR1.out (below_drew1 (below_alloc HB.out _))) HC1.out HD1.out HO1.out).mono ?_; rintro en w9 ⟨u4, u5, rfl, ho4, ho5, hb⟩; obtain ⟨Y4, y4, rfl⟩ := Kd.R_slice ho4; obtain ⟨Y5, y5, rfl⟩ := Kd.R_slice ho5; (try (have hnw : w9.heap[w5.heap.size]? = some (.cells #[.int .u8 0, .int .i64 0, .int .i64 0, .int .i64 0, .slice none 0 0, .slice none 0 0] 27 (0, 0)) := blk_below (blk_drew (blk_new _ _)) hb; obtain ⟨zc0, zc1, zc2, zc3, zc4, zc5, zf0, zf1, zf2, zf3, zf4, zf5⟩ := cs6 hnw))))
      ·
        have RU4 := Lib.hid (Kd.R_lower ho4 (below_size (below_drew1 HB.out)))
        have RU5 := Lib.hid (Kd.R_lower ho5 (below_size (below_drew1 HB.out)))
        clear ho4 ho5
        replace BK5 := Lib.hid (blk_below (blk_drew BK5.out) hb)
        replace BK6 := Lib.hid (blk_below (blk_drew BK6.out) hb)
        replace BK11 := Lib.hid (blk_below (blk_drew BK11.out) hb)
        replace HB := Lib.hid (below_step (below_drew1 HB.out) hb)
        clear hb
        have GE16 := Lib.hid (show w.heap.size ≤ w9.heap.size from below_size HB.out)
        have NB5_16 := Lib.hid (show gb5 ≠ w9.heap.size from Nat.ne_of_lt (blk_lt BK5.out))
        have NB16_5 := Lib.hid NB5_16.out.symm
        have NB6_16 := Lib.hid (show gb6 ≠ w9.heap.size from Nat.ne_of_lt (blk_lt BK6.out))
        have NB16_6 := Lib.hid NB6_16.out.symm
        have NB11_16 := Lib.hid (show gb11 ≠ w9.heap.size from Nat.ne_of_lt (blk_lt BK11.out))
        have NB16_11 := Lib.hid NB11_16.out.symm
        have hal_ := below_alloc (Below.refl w9.heap.size w9) (.cells #[.int .u8 q1, .int .i64 q2, .int .i64 q3, .int .i64 q4, .slice Y4 q5.length y4, .slice Y5 q6.length y5] 27 (0, 0))
        replace BK5 := Lib.hid (blk_below BK5.out hal_)
        replace BK6 := Lib.hid (blk_below BK6.out hal_)
        replace BK11 := Lib.hid (blk_below BK11.out hal_)
        replace RU4 := Lib.hid (Kd.R_below RU4.out hal_)
        replace RU5 := Lib.hid (Kd.R_below RU5.out hal_)
        have BK16 := Lib.hid (blk_new w9 (.cells #[.int .u8 q1, .int .i64 q2, .int .i64 q3, .int .i64 q4, .slice Y4 q5.length y4, .slice Y5 q6.length y5] 27 (0, 0)))
        replace HB := Lib.hid (below_step HB.out hal_)
        clear hal_
        try clear hHeld_
        generalize w9.alloc (.cells #[.int .u8 q1, .int .i64 q2, .int .i64 q3, .int .i64 q4, .slice Y4 q5.length y4, .slice Y5 q6.length y5] 27 (0, 0)) = wn at BK16 BK5 BK6 BK11 RU4 RU5 HB ⊢
        generalize w9.heap.size = gb16 at BK16 GE16 NB5_16 NB16_5 NB6_16 NB16_6 NB11_16 NB16_11 ⊢
        obtain ⟨yc0, yc1, yc2, yc3, yc4, yc5, yf0, yf1, yf2, yf3, yf4, yf5⟩ := cs6 BK16.out
        obtain ⟨zc0, zc1, zc2, zc3, zc4, zc5, zf0, zf1, zf2, zf3, zf4, zf5⟩ := cs6 BK11.out
        go_wp2_with fail
        go_region
        go_wp2_with fail
        clear yc0 yf0 yc1 yf1 yc2 yf2 yc3 yf3 yc4 yf4 yc5 yf5
        clear zc0 zf0 zc1 zf1 zc2 zf2 zc3 zf3 zc4 zf4 zc5 zf5
        have h := H.out
        unfold rFind.f at h
        rw [if_neg (fun z => z rfl), if_neg (fun z => Bool.noConfusion z)] at h
        simp only [Prod.mk.injEq] at h
        obtain ⟨rfl, rfl, rfl, rfl, rfl, rfl, rfl, rfl, rfl⟩ := h
        clear H
        obtain ⟨hq1_, hq2_, hs_⟩ := st6_0_6 HB.out GE11.out BK11.out (.int .u8 q1) (.int .i64 q2) (.int .i64 q3) (.int .i64 q4) (.slice Y4 q5.length y4) (.slice Y5 q6.length y5)
        replace hq1_ := blk_drew hq1_
        replace hq2_ := below_drew1 hq2_
        have hsd_ : ∀ k, k ≠ gb11 → (((((((wn.setCell ⟨gb11, 0, none⟩ (.int .u8 q1)).setCell ⟨gb11, 1, none⟩ (.int .i64 q2)).setCell ⟨gb11, 2, none⟩ (.int .i64 q3)).setCell ⟨gb11, 3, none⟩ (.int .i64 q4)).setCell ⟨gb11, 4, none⟩ (.slice Y4 q5.length y4)).setCell ⟨gb11, 5, none⟩ (.slice Y5 q6.length y5)).drew).heap[k]? = wn.heap[k]? := fun k hk => (drew_heap _ k).trans (hs_ k hk)
        clear hs_
        have hs_ := hsd_
        clear hsd_
        generalize ((((((wn.setCell ⟨gb11, 0, none⟩ (.int .u8 q1)).setCell ⟨gb11, 1, none⟩ (.int .i64 q2)).setCell ⟨gb11, 2, none⟩ (.int .i64 q3)).setCell ⟨gb11, 3, none⟩ (.int .i64 q4)).setCell ⟨gb11, 4, none⟩ (.slice Y4 q5.length y4)).setCell ⟨gb11, 5, none⟩ (.slice Y5 q6.length y5)).drew = wz at hs_ hq1_ hq2_ ⊢
        replace RU4 := Lib.hid (Kd.R_mono (Kd.R_step (Kd.R_types RU4.out BK11.out (by decide)) (fun k hk _ => hs_ k hk.2)) (ok' := fun _ => True) (fun _ _ => trivial))
        replace RU5 := Lib.hid (Kd.R_mono (Kd.R_step (Kd.R_types RU5.out BK11.out (by decide)) (fun k hk _ => hs_ k hk.2)) (ok' := fun _ => True) (fun _ _ => trivial))
        replace BK11 := Lib.hid hq1_
        replace HB := Lib.hid hq2_
        clear hs_ hq1_ hq2_
        refine bodyPost_ret (results_tctt rfl _ _ gb11 27 #[.int .u8 q1, .int .i64 q2, .int .i64 q3, .int .i64 q4, .slice Y4 q5.length y4, .slice Y5 q6.length y5] (0, 0) _ rfl BK11.out Try.underlying27 rfl (by kernel_rfl)) rfl ?_
        exact ⟨_, _, rfl, RU4.out, RU5.out, HB.out⟩
      ·
        clear zc0 zc1 zc2 zc3 zc4 zc5 zf0 zf1 zf2 zf3 zf4 zf5
        have RU4 := Lib.hid (Kd.R_lower ho4 (below_size (below_drew1 (below_alloc HB.out _))))
        have RU5 := Lib.hid (Kd.R_lower ho5 (below_size (below_drew1 (below_alloc HB.out _))))
        clear ho4 ho5
        have GE16 := Lib.hid (show w.heap.size ≤ w5.heap.size from below_size HB.out)
        have NB5_16 := Lib.hid (show gb5 ≠ w5.heap.size from Nat.ne_of_lt (blk_lt BK5.out))
        have NB16_5 := Lib.hid NB5_16.out.symm
        have NB6_16 := Lib.hid (show gb6 ≠ w5.heap.size from Nat.ne_of_lt (blk_lt BK6.out))
        have NB16_6 := Lib.hid NB6_16.out.symm
        have NB11_16 := Lib.hid (show gb11 ≠ w5.heap.size from Nat.ne_of_lt (blk_lt BK11.out))
        have NB16_11 := Lib.hid NB11_16.out.symm
        replace BK5 := Lib.hid (blk_below (blk_drew (blk_below BK5.out (below_alloc (Below.refl _ _) _))) hb)
        replace BK6 := Lib.hid (blk_below (blk_drew (blk_below BK6.out (below_alloc (Below.refl _ _) _))) hb)
        replace BK11 := Lib.hid (blk_below (blk_drew (blk_below BK11.out (below_alloc (Below.refl _ _) _))) hb)
        replace HB := Lib.hid (below_step (below_drew1 (below_alloc HB.out _)) hb)
        have BK16 := Lib.hid hnw
        clear hb hnw
        generalize w5.heap.size = gb16 at BK16 GE16 NB5_16 NB16_5 NB6_16 NB16_6 NB11_16 NB16_11 ⊢
        obtain ⟨hq1_, hq2_, hs_⟩ := st6_0_6 HB.out GE16.out BK16.out (.int .u8 q1) (.int .i64 q2) (.int .i64 q3) (.int .i64 q4) (.slice Y4 q5.length y4) (.slice Y5 q6.length y5)
        generalize ((((((w9.setCell ⟨gb16, 0, none⟩ (.int .u8 q1)).setCell ⟨gb16, 1, none⟩ (.int .i64 q2)).setCell ⟨gb16, 2, none⟩ (.int .i64 q3)).setCell ⟨gb16, 3, none⟩ (.int .i64 q4)).setCell ⟨gb16, 4, none⟩ (.slice Y4 q5.length y4)).setCell ⟨gb16, 5, none⟩ (.slice Y5 q6.length y5)) = wn at hs_ hq1_ hq2_ ⊢
        replace RU4 := Lib.hid (Kd.R_mono (Kd.R_step (Kd.R_types RU4.out BK16.out (by decide)) (fun k hk _ => hs_ k hk.2)) (ok' := fun _ => True) (fun _ _ => trivial))
        replace RU5 := Lib.hid (Kd.R_mono (Kd.R_step (Kd.R_types RU5.out BK16.out (by decide)) (fun k hk _ => hs_ k hk.2)) (ok' := fun _ => True) (fun _ _ => trivial))
        replace BK5 := Lib.hid ((hs_ gb5 NB5_16.out).trans BK5.out)
        replace BK6 := Lib.hid ((hs_ gb6 NB6_16.out).trans BK6.out)
        replace BK11 := Lib.hid ((hs_ gb11 NB11_16.out).trans BK11.out)
        replace BK16 := Lib.hid hq1_
        replace HB := Lib.hid hq2_
        clear hs_ hq1_ hq2_
        obtain ⟨yc0, yc1, yc2, yc3, yc4, yc5, yf0, yf1, yf2, yf3, yf4, yf5⟩ := cs6 BK16.out
        obtain ⟨zc0, zc1, zc2, zc3, zc4, zc5, zf0, zf1, zf2, zf3, zf4, zf5⟩ := cs6 BK11.out
        go_wp2_with fail
        go_region
        go_wp2_with fail
        clear yc0 yf0 yc1 yf1 yc2 yf2 yc3 yf3 yc4 yf4 yc5 yf5
        clear zc0 zf0 zc1 zf1 zc2 zf2 zc3 zf3 zc4 zf4 zc5 zf5
        have h := H.out
        unfold rFind.f at h
        rw [if_neg (fun z => z rfl), if_neg (fun z => Bool.noConfusion z)] at h
        simp only [Prod.mk.injEq] at h
        obtain ⟨rfl, rfl, rfl, rfl, rfl, rfl, rfl, rfl, rfl⟩ := h
        clear H
        obtain ⟨hq1_, hq2_, hs_⟩ := st6_0_6 HB.out GE11.out BK11.out (.int .u8 q1) (.int .i64 q2) (.int .i64 q3) (.int .i64 q4) (.slice Y4 q5.length y4) (.slice Y5 q6.length y5)
        replace hq1_ := blk_drew hq1_
        replace hq2_ := below_drew1 hq2_
        have hsd_ : ∀ k, k ≠ gb11 → (((((((wn.setCell ⟨gb11, 0, none⟩ (.int .u8 q1)).setCell ⟨gb11, 1, none⟩ (.int .i64 q2)).setCell ⟨gb11, 2, none⟩ (.int .i64 q3)).setCell ⟨gb11, 3, none⟩ (.int .i64 q4)).setCell ⟨gb11, 4, none⟩ (.slice Y4 q5.length y4)).setCell ⟨gb11, 5, none⟩ (.slice Y5 q6.length y5)).drew).heap[k]? = wn.heap[k]? := fun k hk => (drew_heap _ k).trans (hs_ k hk)
        clear hs_
        have hs_ := hsd_
        clear hsd_
        generalize ((((((wn.setCell ⟨gb11, 0, none⟩ (.int .u8 q1)).setCell ⟨gb11, 1, none⟩ (.int .i64 q2)).setCell ⟨gb11, 2, none⟩ (.int .i64 q3)).setCell ⟨gb11, 3, none⟩ (.int .i64 q4)).setCell ⟨gb11, 4, none⟩ (.slice Y4 q5.length y4)).setCell ⟨gb11, 5, none⟩ (.slice Y5 q6.length y5)).drew = wz at hs_ hq1_ hq2_ ⊢
        replace RU4 := Lib.hid (Kd.R_mono (Kd.R_step (Kd.R_types RU4.out BK11.out (by decide)) (fun k hk _ => hs_ k hk.2)) (ok' := fun _ => True) (fun _ _ => trivial))
        replace RU5 := Lib.hid (Kd.R_mono (Kd.R_step (Kd.R_types RU5.out BK11.out (by decide)) (fun k hk _ => hs_ k hk.2)) (ok' := fun _ => True) (fun _ _ => trivial))
        replace BK11 := Lib.hid hq1_
        replace HB := Lib.hid hq2_
        clear hs_ hq1_ hq2_
        refine bodyPost_ret (results_tctt rfl _ _ gb11 27 #[.int .u8 q1, .int .i64 q2, .int .i64 q3, .int .i64 q4, .slice Y4 q5.length y4, .slice Y5 q6.length y5] (0, 0) _ rfl BK11.out Try.underlying27 rfl (by kernel_rfl)) rfl ?_
        exact ⟨_, _, rfl, RU4.out, RU5.out, HB.out⟩
    ·
      replace H := Lib.hid (show rFind.f 0 true (0, 0, 0, 0, 0, [], [], false, 0) = (n, t1, t2, t3, t4, t5, t6, t7, te) from H.out)
      obtain ⟨zc0, zc1, zc2, zc3, zc4, zc5, zf0, zf1, zf2, zf3, zf4, zf5⟩ := cs6 BK11.out
      go_wp2_with fail
      clear zc0 zf0 zc1 zf1 zc2 zf2 zc3 zf3 zc4 zf4 zc5 zf5
      have h := H.out
      unfold rFind.f at h
      rw [if_neg (fun z => z rfl), if_neg (fun z => Bool.noConfusion z)] at h
      simp only [Prod.mk.injEq] at h
      obtain ⟨rfl, rfl, rfl, rfl, rfl, rfl, rfl, rfl, rfl⟩ := h
      clear H
      obtain ⟨hq1_, hq2_, hs_⟩ := st6_0_6 HB.out GE11.out BK11.out (.int .u8 0) (.int .i64 0) (.int .i64 0) (.int .i64 0) (.slice none 0 0) (.slice none 0 0)
      generalize ((((((w5.setCell ⟨gb11, 0, none⟩ (.int .u8 0)).setCell ⟨gb11, 1, none⟩ (.int .i64 0)).setCell ⟨gb11, 2, none⟩ (.int .i64 0)).setCell ⟨gb11, 3, none⟩ (.int .i64 0)).setCell ⟨gb11, 4, none⟩ (.slice none 0 0)).setCell ⟨gb11, 5, none⟩ (.slice none 0 0)) = wz at hs_ hq1_ hq2_ ⊢
      replace BK11 := Lib.hid hq1_
      replace HB := Lib.hid hq2_
      clear hs_ hq1_ hq2_
      refine bodyPost_ret (results_tctt rfl _ _ gb11 27 #[.int .u8 0, .int .i64 0, .int .i64 0, .int .i64 0, .slice none 0 0, .slice none 0 0] (0, 0) _ rfl BK11.out Try.underlying27 rfl (by kernel_rfl)) rfl ?_
      exact ⟨_, _, rfl, Kd.R_nil _ _ _ _ _, Kd.R_nil _ _ _ _ _, HB.out⟩
end Go.Proofs.Ytihefjdabjmmaaa.PD
