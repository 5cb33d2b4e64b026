/- What twoslotref11.Newest does. No condition. -/
import Derived.Test.YtihefjdabjmmaaaCellRFind
import Derived.Test.YtihefjdabjmmaaaCellRNext
namespace Go.Proofs.Ytihefjdabjmmaaa.PD
open Go Go.RowKit Go.Proofs.YtihefjdabjmmaaaW.PrintWords Go.Proofs.YtihefjdabjmmaaaW.PrintLast Go.Proofs.YtihefjdabjmmaaaW.PrintMore
set_option linter.unusedVariables false
def rNewest.f (e : Int) (f : Found) : Found := if e ≠ 0 then (0, 0, 0, 0, 0, [], [], false, e) else f
/-- one round: the best one so far, and what a slot holds -/
def rstep (kind i o1 o2 o3 o4 : Int) (o5 o6 : List Int) (o7 : Bool) (n t1 t2 t3 t4 : Int) (t5 t6 : List Int) : Int × Int × Int × Int × Int × List Int × List Int := if o7 = true ∧ o1 = kind ∧ t3 < o3 then (i, o1, o2, o3, o4, o5, o6) else (n, t1, t2, t3, t4, t5, t6)
theorem newest_steps {o1 o2 o3 o4 : Int} {o5 o6 : List Int} {o7 : Bool} {q1 q2 q3 q4 : Int} {q5 q6 : List Int} {q7 : Bool} {kind n t1 t2 t3 t4 : Int} {t5 t6 : List Int} {n' u1 u2 u3 u4 : Int} {u5 u6 : List Int}
    (h0 : rstep kind 0 o1 o2 o3 o4 o5 o6 o7 0 0 0 0 0 [] [] = (n, t1, t2, t3, t4, t5, t6)) (h1 : rstep kind 1 q1 q2 q3 q4 q5 q6 q7 n t1 t2 t3 t4 t5 t6 = (n', u1, u2, u3, u4, u5, u6)) :
    cell_Newest.of o1 o2 o3 o4 o5 o6 o7 q1 q2 q3 q4 q5 q6 q7 kind = (n', u1, u2, u3, u4, u5, u6, decide (u3 > 0), 0) := by
  unfold rstep at h0 h1
  unfold cell_Newest.of
  by_cases c0 : o7 = true ∧ o1 = kind ∧ 0 < o3
  · rw [if_pos c0] at h0
    simp only [Prod.mk.injEq] at h0
    obtain ⟨rfl, rfl, rfl, rfl, rfl, rfl, rfl⟩ := h0
    rw [if_pos c0]
    by_cases c1 : q7 = true ∧ q1 = kind ∧ o3 < q3
    · rw [if_pos c1] at h1
      simp only [Prod.mk.injEq] at h1
      obtain ⟨rfl, rfl, rfl, rfl, rfl, rfl, rfl⟩ := h1
      rw [if_pos c1, decide_eq_true (show q3 > 0 by omega)]
    · rw [if_neg c1] at h1
      simp only [Prod.mk.injEq] at h1
      obtain ⟨rfl, rfl, rfl, rfl, rfl, rfl, rfl⟩ := h1
      rw [if_neg c1, decide_eq_true (show o3 > 0 by omega)]
  · rw [if_neg c0] at h0
    simp only [Prod.mk.injEq] at h0
    obtain ⟨rfl, rfl, rfl, rfl, rfl, rfl, rfl⟩ := h0
    rw [if_neg c0]
    by_cases c1 : q7 = true ∧ q1 = kind ∧ 0 < q3
    · rw [if_pos c1] at h1
      simp only [Prod.mk.injEq] at h1
      obtain ⟨rfl, rfl, rfl, rfl, rfl, rfl, rfl⟩ := h1
      rw [if_pos c1, decide_eq_true (show q3 > 0 by omega)]
    · rw [if_neg c1] at h1
      simp only [Prod.mk.injEq] at h1
      obtain ⟨rfl, rfl, rfl, rfl, rfl, rfl, rfl⟩ := h1
      rw [if_neg c1]; rfl
set_option maxHeartbeats 8000000 in
set_option maxRecDepth 100000 in
theorem rNewest.calls (k : Nat) (a0 a1 a2 a3 : Int) (A0 : Option Addr) (c0 : Nat) (l0 : List Int) (A1 : Option Addr) (c1 : Nat) (l1 : List Int) (kind index : Int)
    (r1 r2 r3 r4 : Int) (r5 r6 : List Int) (r7 : Bool) (o1 o2 o3 o4 : Int) (o5 o6 : List Int) (o7 : Bool) (s1 s2 s3 s4 : Int) (s5 s6 : List Int) (s7 : Bool) (q1 q2 q3 q4 : Int) (q5 q6 : List Int) (q7 : Bool) (m : Bool) (sz nn : Int) (e : Int) (n t1 t2 t3 t4 : Int) (t5 t6 : List Int) (t7 : Bool) (te : Int) (w : World)
    (hr0 : Kd.C (Kd.int .u8) w A0 l0.length l0) (hc0 : l0.length ≤ c0) (hr1 : Kd.C (Kd.int .u8) w A1 l1.length l1) (hc1 : l1.length ≤ c1)
    (hm : twoslotref06_May.f a0 a1 a2 a3 = some m) (hs : twoslotref06_Size.f a0 a1 a2 a3 = some sz) (hn : twoslotref06_N.f a0 a1 a2 a3 = some nn) (he : rAsked.f m sz nn l0 l1 kind index = e)
    (hd : e = 0 → twoslotref10_Read.f k a0 a1 a2 a3 l0 = some (r1, r2, r3, r4, r5, r6, r7) ∧ twoslotref10_Read.f k a0 a1 a2 a3 l1 = some (s1, s2, s3, s4, s5, s6, s7)) (h0 : rOf.of r1 r2 r3 r4 r5 r6 r7 index = (o1, o2, o3, o4, o5, o6, o7)) (h1 : rOf.of s1 s2 s3 s4 s5 s6 s7 index = (q1, q2, q3, q4, q5, q6, q7))
    (h : rNewest.f e (cell_Newest.of o1 o2 o3 o4 o5 o6 o7 q1 q2 q3 q4 q5 q6 q7 kind) = (n, t1, t2, t3, t4, t5, t6, t7, te)) :
    Calls Try.prog 25 #[.agg #[.int .i64 a0, .int .i64 a1, .int .i64 a2, .int .i64 a3], .agg #[.slice A0 l0.length c0, .slice A1 l1.length c1], .int .u8 kind, .int .i64 index] w fun en w' => ∃ u4 u5 : Value,
      en = .returned (.tuple #[.int .i64 n, .agg #[.int .u8 t1, .int .i64 t2, .int .i64 t3, .int .i64 t4, u4, u5], .bool t7, .int .i64 te]) ∧
      Kd.R (Kd.int .i64) 3 w' w.heap.size (fun _ => True) u4 t5 ∧ Kd.R (Kd.int .u8) 5 w' w.heap.size (fun _ => True) u5 t6 ∧ Below w.heap.size w w' := by
  have hu23 := Try.underlying23
  have hu27 := Try.underlying27
  have hu42 := Try.underlying42
  have HB := Lib.hid (Below.refl w.heap.size w)
  have HR0 := Lib.hid hr0
  have HR1 := Lib.hid hr1
  have HC0 := Lib.hid hc0
  have HC1 := Lib.hid hc1
  have HM := Lib.hid hm
  have HS := Lib.hid hs
  have HN := Lib.hid hn
  have HE := Lib.hid he
  have HD := Lib.hid hd
  have HO0 := Lib.hid h0
  have HO1 := Lib.hid h1
  have H := Lib.hid h
  clear hr0 hr1 hc0 hc1 hm hs hn he hd h0 h1 h
  go_enter Try.func25, Try.ntmps25
  go_upto_region 1 with (first | ((with_reducible refine gate_dst (N := 4) rfl ?_); refine box_event ?hg (N := 4) ?hd (cs := #[.int .i64 a0, .int .i64 a1, .int .i64 a2, .int .i64 a3]) (t := 23) ?hr ?_; (case hd => rfl); (case hg => rfl); (case hr => first | (go_simp; done) | (go_simp; rfl)); intro gb4 hg_ w1 bk_ hb_; have GE4 := Lib.hid (show w.heap.size ≤ gb4 by rw [hg_]; exact below_size HB.out); have BK4 := Lib.hid bk_; replace HB := Lib.hid (below_step HB.out hb_); clear hb_ hg_ bk_) | ((with_reducible refine gate_dst (N := 5) rfl ?_); refine box_event ?hg (N := 5) ?hd (cs := #[.slice A0 l0.length c0, .slice A1 l1.length c1]) (t := 42) ?hr ?_; (case hd => rfl); (case hg => rfl); (case hr => first | (go_simp; done) | (go_simp; rfl)); intro gb5 hg_ w2 bk_ hb_; have GE5 := Lib.hid (show w.heap.size ≤ gb5 by rw [hg_]; exact below_size HB.out); have NB4_5 := Lib.hid (show gb4 ≠ gb5 by rw [hg_]; exact Nat.ne_of_lt (blk_lt BK4.out)); have NB5_4 := Lib.hid NB4_5.out.symm; replace BK4 := Lib.hid (blk_below BK4.out hb_); have BK5 := Lib.hid bk_; replace HB := Lib.hid (below_step HB.out hb_); clear hb_ hg_ bk_) | ((with_reducible refine gate_dst (N := 9) rfl ?_); refine box_event ?hg (N := 9) ?hd (cs := #[.int .u8 0, .int .i64 0, .int .i64 0, .int .i64 0, .slice none 0 0, .slice none 0 0]) (t := 27) ?hr ?_; (case hd => rfl); (case hg => rfl); (case hr => first | (go_simp; done) | (go_simp; rfl)); intro gb9 hg_ w2b bk_ hb_; have GE9 := Lib.hid (show w.heap.size ≤ gb9 by rw [hg_]; exact below_size HB.out); have NB4_9 := Lib.hid (show gb4 ≠ gb9 by rw [hg_]; exact Nat.ne_of_lt (blk_lt BK4.out)); have NB9_4 := Lib.hid NB4_9.out.symm; replace BK4 := Lib.hid (blk_below BK4.out hb_); have NB5_9 := Lib.hid (show gb5 ≠ gb9 by rw [hg_]; exact Nat.ne_of_lt (blk_lt BK5.out)); have NB9_5 := Lib.hid NB5_9.out.symm; replace BK5 := Lib.hid (blk_below BK5.out hb_); have BK9 := Lib.hid bk_; replace HB := Lib.hid (below_step HB.out hb_); clear hb_ hg_ bk_))
  obtain ⟨pc0, pc1, pc2, pc3, pf0, pf1, pf2, pf3⟩ := cs4 BK4.out
  obtain ⟨qc0, qc1, qf0, qf1⟩ := cs2 BK5.out
  go_wp2_with fail
  clear pc0 pf0 pc1 pf1 pc2 pf2 pc3 pf3
  clear qc0 qf0 qc1 qf1
  refine (rAsked.calls a0 a1 a2 a3 A0 c0 l0 A1 c1 l1 kind index m sz nn _ HM.out HS.out HN.out).mono ?_
  rintro en w3 ⟨rfl, hb⟩
  rw [HE.out]
  replace BK4 := Lib.hid (blk_below BK4.out hb)
  replace BK5 := Lib.hid (blk_below BK5.out hb)
  replace BK9 := Lib.hid (blk_below BK9.out hb)
  replace HB := Lib.hid (below_step HB.out hb)
  clear hb
  by_cases hez : e = 0
  case neg =>
    have hb2 : (e != 0) = true := bne_iff_ne.mpr hez
    replace hez := Lib.hid hez
    obtain ⟨zc0, zc1, zc2, zc3, zc4, zc5, zf0, zf1, zf2, zf3, zf4, zf5⟩ := cs6 BK9.out
    go_wp2_with fail
    clear zc0 zf0 zc1 zf1 zc2 zf2 zc3 zf3 zc4 zf4 zc5 zf5
    have h := H.out
    unfold rNewest.f at h
    rw [if_pos hez.out] at h
    simp only [Prod.mk.injEq] at h
    obtain ⟨rfl, rfl, rfl, rfl, rfl, rfl, rfl, rfl, rfl⟩ := h
    clear H
    obtain ⟨hq1_, hq2_, hs_⟩ := st6_0_6 HB.out GE9.out BK9.out (.int .u8 0) (.int .i64 0) (.int .i64 0) (.int .i64 0) (.slice none 0 0) (.slice none 0 0)
    generalize ((((((w3.setCell ⟨gb9, 0, none⟩ (.int .u8 0)).setCell ⟨gb9, 1, none⟩ (.int .i64 0)).setCell ⟨gb9, 2, none⟩ (.int .i64 0)).setCell ⟨gb9, 3, none⟩ (.int .i64 0)).setCell ⟨gb9, 4, none⟩ (.slice none 0 0)).setCell ⟨gb9, 5, none⟩ (.slice none 0 0)) = wz at hs_ hq1_ hq2_ ⊢
    replace BK9 := Lib.hid hq1_
    replace HB := Lib.hid hq2_
    clear hs_ hq1_ hq2_
    refine bodyPost_ret (results_tctt rfl _ _ gb9 27 #[.int .u8 0, .int .i64 0, .int .i64 0, .int .i64 0, .slice none 0 0, .slice none 0 0] (0, 0) _ rfl BK9.out Try.underlying27 rfl (by kernel_rfl)) rfl ?_
    exact ⟨_, _, rfl, Kd.R_nil _ _ _ _ _, Kd.R_nil _ _ _ _ _, HB.out⟩
  subst hez
  obtain ⟨hd0, hd1⟩ := HD.out rfl
  have HD0 := Lib.hid hd0
  have HD1 := Lib.hid hd1
  clear hd0 hd1 HD
  replace H := Lib.hid (show cell_Newest.of o1 o2 o3 o4 o5 o6 o7 q1 q2 q3 q4 q5 q6 q7 kind = (n, t1, t2, t3, t4, t5, t6, t7, te) from H.out)
  have hi0 := tw_ia0 gb5
  have hi1 := tw_ia1 gb5
  go_upto_region 6 with (first | ((with_reducible refine gate_dst (N := 14) rfl ?_); refine box_event ?hg (N := 14) ?hd (cs := #[.int .u8 0, .int .i64 0, .int .i64 0, .int .i64 0, .slice none 0 0, .slice none 0 0]) (t := 27) ?hr ?_; (case hd => rfl); (case hg => rfl); (case hr => first | (go_simp; done) | (go_simp; rfl)); intro gb14 hg_ w5 bk_ hb_; have GE14 := Lib.hid (show w.heap.size ≤ gb14 by rw [hg_]; exact below_size HB.out); have NB4_14 := Lib.hid (show gb4 ≠ gb14 by rw [hg_]; exact Nat.ne_of_lt (blk_lt BK4.out)); have NB14_4 := Lib.hid NB4_14.out.symm; replace BK4 := Lib.hid (blk_below BK4.out hb_); have NB5_14 := Lib.hid (show gb5 ≠ gb14 by rw [hg_]; exact Nat.ne_of_lt (blk_lt BK5.out)); have NB14_5 := Lib.hid NB5_14.out.symm; replace BK5 := Lib.hid (blk_below BK5.out hb_); have NB9_14 := Lib.hid (show gb9 ≠ gb14 by rw [hg_]; exact Nat.ne_of_lt (blk_lt BK9.out)); have NB14_9 := Lib.hid NB9_14.out.symm; replace BK9 := Lib.hid (blk_below BK9.out hb_); have BK14 := Lib.hid bk_; replace HB := Lib.hid (below_step HB.out hb_); clear hb_ hg_ bk_))
  go_wp2_with fail
  refine wp_loop_rounds 3 ?_
  rw [rounds_succ]
  go_upto_block 1 with fail
  go_cut [13] (fun v13 wc => ∃ (m0 b01 b02 b03 b04 : Int) (b05 b06 : List Int) (B04 : Option Addr) (e04 : Nat) (B05 : Option Addr) (e05 : Nat), v13 = .int .i64 m0 ∧ Hid (wc.heap[gb14]? = some (.cells #[.int .u8 b01, .int .i64 b02, .int .i64 b03, .int .i64 b04, .slice B04 b05.length e04, .slice B05 b06.length e05] 27 (0, 0))) ∧ Hid (wc.heap[gb4]? = some (.cells #[.int .i64 a0, .int .i64 a1, .int .i64 a2, .int .i64 a3] 23 (0, 0))) ∧ Hid (wc.heap[gb5]? = some (.cells #[.slice A0 l0.length c0, .slice A1 l1.length c1] 42 (0, 0))) ∧ Hid (wc.heap[gb9]? = some (.cells #[.int .u8 0, .int .i64 0, .int .i64 0, .int .i64 0, .slice none 0 0, .slice none 0 0] 27 (0, 0))) ∧ Hid (Kd.R (Kd.int .i64) 3 wc w.heap.size (fun _ => True) (.slice B04 b05.length e04) b05) ∧ Hid (Kd.R (Kd.int .u8) 5 wc w.heap.size (fun _ => True) (.slice B05 b06.length e05) b06) ∧ Hid (Below w.heap.size w wc) ∧ Hid (rstep kind 0 o1 o2 o3 o4 o5 o6 o7 0 0 0 0 0 [] [] = (m0, b01, b02, b03, b04, b05, b06)))
  case first =>
    go_wp2_with fail
    go_region_held3 (fun w' => w'.cell? ⟨gb5, 0, none⟩ = some (.slice A0 l0.length c0) ∧ w'.cell? ⟨gb4, 0, none⟩ = some (.int .i64 a0) ∧ w'.cell? ⟨gb4, 1, none⟩ = some (.int .i64 a1) ∧ w'.cell? ⟨gb4, 2, none⟩ = some (.int .i64 a2) ∧ w'.cell? ⟨gb4, 3, none⟩ = some (.int .i64 a3)) (first | (with_reducible exact ⟨(blk_cell (blk_drew BK5.out) 0).trans rfl, (blk_cell (blk_drew BK4.out) 0).trans rfl, (blk_cell (blk_drew BK4.out) 1).trans rfl, (blk_cell (blk_drew BK4.out) 2).trans rfl, (blk_cell (blk_drew BK4.out) 3).trans rfl⟩) | (with_reducible exact ⟨(blk_cell (blk_drew (blk_below BK5.out (below_alloc (Below.refl _ _) _))) 0).trans rfl, (blk_cell (blk_drew (blk_below BK4.out (below_alloc (Below.refl _ _) _))) 0).trans rfl, (blk_cell (blk_drew (blk_below BK4.out (below_alloc (Below.refl _ _) _))) 1).trans rfl, (blk_cell (blk_drew (blk_below BK4.out (below_alloc (Below.refl _ _) _))) 2).trans rfl, (blk_cell (blk_drew (blk_below BK4.out (below_alloc (Below.refl _ _) _))) 3).trans rfl⟩) | (with_reducible exact ⟨(blk_cell (blk_below (blk_drew BK5.out) hb) 0).trans rfl, (blk_cell (blk_below (blk_drew BK4.out) hb) 0).trans rfl, (blk_cell (blk_below (blk_drew BK4.out) hb) 1).trans rfl, (blk_cell (blk_below (blk_drew BK4.out) hb) 2).trans rfl, (blk_cell (blk_below (blk_drew BK4.out) hb) 3).trans rfl⟩) | (with_reducible exact ⟨(blk_cell (blk_below (blk_drew (blk_below BK5.out (below_alloc (Below.refl _ _) _))) hb) 0).trans rfl, (blk_cell (blk_below (blk_drew (blk_below BK4.out (below_alloc (Below.refl _ _) _))) hb) 0).trans rfl, (blk_cell (blk_below (blk_drew (blk_below BK4.out (below_alloc (Below.refl _ _) _))) hb) 1).trans rfl, (blk_cell (blk_below (blk_drew (blk_below BK4.out (below_alloc (Below.refl _ _) _))) hb) 2).trans rfl, (blk_cell (blk_below (blk_drew (blk_below BK4.out (below_alloc (Below.refl _ _) _))) hb) 3).trans rfl⟩) | (with_reducible exact ⟨(blk_cell (blk_below (blk_below (blk_drew BK5.out) hb) (below_alloc (Below.refl _ _) _)) 0).trans rfl, (blk_cell (blk_below (blk_below (blk_drew BK4.out) hb) (below_alloc (Below.refl _ _) _)) 0).trans rfl, (blk_cell (blk_below (blk_below (blk_drew BK4.out) hb) (below_alloc (Below.refl _ _) _)) 1).trans rfl, (blk_cell (blk_below (blk_below (blk_drew BK4.out) hb) (below_alloc (Below.refl _ _) _)) 2).trans rfl, (blk_cell (blk_below (blk_below (blk_drew BK4.out) hb) (below_alloc (Below.refl _ _) _)) 3).trans rfl⟩) | (with_reducible exact ⟨(blk_cell (blk_far (p := ⟨w5.heap.size, 5, none⟩) (blk_far (p := ⟨w5.heap.size, 4, none⟩) (blk_far (p := ⟨w5.heap.size, 3, none⟩) (blk_far (p := ⟨w5.heap.size, 2, none⟩) (blk_far (p := ⟨w5.heap.size, 1, none⟩) (blk_far (p := ⟨w5.heap.size, 0, none⟩) (blk_below (blk_drew (blk_below BK5.out (below_alloc (Below.refl _ _) _))) hb) (Nat.ne_of_lt (blk_lt BK5.out)) (.int .u8 o1)) (Nat.ne_of_lt (blk_lt BK5.out)) (.int .i64 o2)) (Nat.ne_of_lt (blk_lt BK5.out)) (.int .i64 o3)) (Nat.ne_of_lt (blk_lt BK5.out)) (.int .i64 o4)) (Nat.ne_of_lt (blk_lt BK5.out)) (.slice X4 o5.length x4)) (Nat.ne_of_lt (blk_lt BK5.out)) (.slice X5 o6.length x5)) 0).trans rfl, (blk_cell (blk_far (p := ⟨w5.heap.size, 5, none⟩) (blk_far (p := ⟨w5.heap.size, 4, none⟩) (blk_far (p := ⟨w5.heap.size, 3, none⟩) (blk_far (p := ⟨w5.heap.size, 2, none⟩) (blk_far (p := ⟨w5.heap.size, 1, none⟩) (blk_far (p := ⟨w5.heap.size, 0, none⟩) (blk_below (blk_drew (blk_below BK4.out (below_alloc (Below.refl _ _) _))) hb) (Nat.ne_of_lt (blk_lt BK4.out)) (.int .u8 o1)) (Nat.ne_of_lt (blk_lt BK4.out)) (.int .i64 o2)) (Nat.ne_of_lt (blk_lt BK4.out)) (.int .i64 o3)) (Nat.ne_of_lt (blk_lt BK4.out)) (.int .i64 o4)) (Nat.ne_of_lt (blk_lt BK4.out)) (.slice X4 o5.length x4)) (Nat.ne_of_lt (blk_lt BK4.out)) (.slice X5 o6.length x5)) 0).trans rfl, (blk_cell (blk_far (p := ⟨w5.heap.size, 5, none⟩) (blk_far (p := ⟨w5.heap.size, 4, none⟩) (blk_far (p := ⟨w5.heap.size, 3, none⟩) (blk_far (p := ⟨w5.heap.size, 2, none⟩) (blk_far (p := ⟨w5.heap.size, 1, none⟩) (blk_far (p := ⟨w5.heap.size, 0, none⟩) (blk_below (blk_drew (blk_below BK4.out (below_alloc (Below.refl _ _) _))) hb) (Nat.ne_of_lt (blk_lt BK4.out)) (.int .u8 o1)) (Nat.ne_of_lt (blk_lt BK4.out)) (.int .i64 o2)) (Nat.ne_of_lt (blk_lt BK4.out)) (.int .i64 o3)) (Nat.ne_of_lt (blk_lt BK4.out)) (.int .i64 o4)) (Nat.ne_of_lt (blk_lt BK4.out)) (.slice X4 o5.length x4)) (Nat.ne_of_lt (blk_lt BK4.out)) (.slice X5 o6.length x5)) 1).trans rfl, (blk_cell (blk_far (p := ⟨w5.heap.size, 5, none⟩) (blk_far (p := ⟨w5.heap.size, 4, none⟩) (blk_far (p := ⟨w5.heap.size, 3, none⟩) (blk_far (p := ⟨w5.heap.size, 2, none⟩) (blk_far (p := ⟨w5.heap.size, 1, none⟩) (blk_far (p := ⟨w5.heap.size, 0, none⟩) (blk_below (blk_drew (blk_below BK4.out (below_alloc (Below.refl _ _) _))) hb) (Nat.ne_of_lt (blk_lt BK4.out)) (.int .u8 o1)) (Nat.ne_of_lt (blk_lt BK4.out)) (.int .i64 o2)) (Nat.ne_of_lt (blk_lt BK4.out)) (.int .i64 o3)) (Nat.ne_of_lt (blk_lt BK4.out)) (.int .i64 o4)) (Nat.ne_of_lt (blk_lt BK4.out)) (.slice X4 o5.length x4)) (Nat.ne_of_lt (blk_lt BK4.out)) (.slice X5 o6.length x5)) 2).trans rfl, (blk_cell (blk_far (p := ⟨w5.heap.size, 5, none⟩) (blk_far (p := ⟨w5.heap.size, 4, none⟩) (blk_far (p := ⟨w5.heap.size, 3, none⟩) (blk_far (p := ⟨w5.heap.size, 2, none⟩) (blk_far (p := ⟨w5.heap.size, 1, none⟩) (blk_far (p := ⟨w5.heap.size, 0, none⟩) (blk_below (blk_drew (blk_below BK4.out (below_alloc (Below.refl _ _) _))) hb) (Nat.ne_of_lt (blk_lt BK4.out)) (.int .u8 o1)) (Nat.ne_of_lt (blk_lt BK4.out)) (.int .i64 o2)) (Nat.ne_of_lt (blk_lt BK4.out)) (.int .i64 o3)) (Nat.ne_of_lt (blk_lt BK4.out)) (.int .i64 o4)) (Nat.ne_of_lt (blk_lt BK4.out)) (.slice X4 o5.length x4)) (Nat.ne_of_lt (blk_lt BK4.out)) (.slice X5 o6.length x5)) 3).trans rfl⟩)) ((go_at_call 43; refine (rOf.calls k a0 a1 a2 a3 A0 c0 l0 index r1 r2 r3 r4 r5 r6 r7 o1 o2 o3 o4 o5 o6 o7 _ (by first | exact Kd.C_below HR0.out (below_drew1 HB.out) | exact Kd.C_below HR0.out (below_drew1 (below_alloc HB.out _))) HC0.out HD0.out HO0.out).mono ?_; rintro en w9 ⟨u4, u5, rfl, ho4, ho5, hb⟩; obtain ⟨X4, x4, rfl⟩ := Kd.R_slice ho4; obtain ⟨X5, x5, rfl⟩ := Kd.R_slice ho5; (try (have hnw : w9.heap[w5.heap.size]? = some (.cells #[.int .u8 0, .int .i64 0, .int .i64 0, .int .i64 0, .slice none 0 0, .slice none 0 0] 27 (0, 0)) := blk_below (blk_drew (blk_new _ _)) hb; obtain ⟨zc0, zc1, zc2, zc3, zc4, zc5, zf0, zf1, zf2, zf3, zf4, zf5⟩ := cs6 hnw))))
    ·
      have RU4 := Lib.hid (Kd.R_lower ho4 (below_size (below_drew1 HB.out)))
      have RU5 := Lib.hid (Kd.R_lower ho5 (below_size (below_drew1 HB.out)))
      clear ho4 ho5
      replace BK4 := Lib.hid (blk_below (blk_drew BK4.out) hb)
      replace BK5 := Lib.hid (blk_below (blk_drew BK5.out) hb)
      replace BK9 := Lib.hid (blk_below (blk_drew BK9.out) hb)
      replace BK14 := Lib.hid (blk_below (blk_drew BK14.out) hb)
      replace HB := Lib.hid (below_step (below_drew1 HB.out) hb)
      clear hb
      have GE160 := Lib.hid (show w.heap.size ≤ w9.heap.size from below_size HB.out)
      have NB4_160 := Lib.hid (show gb4 ≠ w9.heap.size from Nat.ne_of_lt (blk_lt BK4.out))
      have NB160_4 := Lib.hid NB4_160.out.symm
      have NB5_160 := Lib.hid (show gb5 ≠ w9.heap.size from Nat.ne_of_lt (blk_lt BK5.out))
      have NB160_5 := Lib.hid NB5_160.out.symm
      have NB9_160 := Lib.hid (show gb9 ≠ w9.heap.size from Nat.ne_of_lt (blk_lt BK9.out))
      have NB160_9 := Lib.hid NB9_160.out.symm
      have NB14_160 := Lib.hid (show gb14 ≠ w9.heap.size from Nat.ne_of_lt (blk_lt BK14.out))
      have NB160_14 := Lib.hid NB14_160.out.symm
      have hal_ := below_alloc (Below.refl w9.heap.size w9) (.cells #[.int .u8 o1, .int .i64 o2, .int .i64 o3, .int .i64 o4, .slice X4 o5.length x4, .slice X5 o6.length x5] 27 (0, 0))
      replace BK4 := Lib.hid (blk_below BK4.out hal_)
      replace BK5 := Lib.hid (blk_below BK5.out hal_)
      replace BK9 := Lib.hid (blk_below BK9.out hal_)
      replace BK14 := Lib.hid (blk_below BK14.out hal_)
      replace RU4 := Lib.hid (Kd.R_below RU4.out hal_)
      replace RU5 := Lib.hid (Kd.R_below RU5.out hal_)
      have BK160 := Lib.hid (blk_new w9 (.cells #[.int .u8 o1, .int .i64 o2, .int .i64 o3, .int .i64 o4, .slice X4 o5.length x4, .slice X5 o6.length x5] 27 (0, 0)))
      replace HB := Lib.hid (below_step HB.out hal_)
      clear hal_
      try clear hHeld_
      generalize w9.alloc (.cells #[.int .u8 o1, .int .i64 o2, .int .i64 o3, .int .i64 o4, .slice X4 o5.length x4, .slice X5 o6.length x5] 27 (0, 0)) = wn0 at BK160 BK4 BK5 BK9 BK14 RU4 RU5 HB ⊢
      generalize w9.heap.size = gb160 at BK160 GE160 NB4_160 NB160_4 NB5_160 NB160_5 NB9_160 NB160_9 NB14_160 NB160_14 ⊢
      obtain ⟨yc0, yc1, yc2, yc3, yc4, yc5, yf0, yf1, yf2, yf3, yf4, yf5⟩ := cs6 BK160.out
      obtain ⟨zc0, zc1, zc2, zc3, zc4, zc5, zf0, zf1, zf2, zf3, zf4, zf5⟩ := cs6 BK14.out
      by_cases hf0 : o7 = true
      case neg =>
        replace hf0 := Bool.eq_false_iff.mpr hf0
        subst hf0
        go_wp2_with fail
        clear yc0 yf0 yc1 yf1 yc2 yf2 yc3 yf3 yc4 yf4 yc5 yf5
        clear zc0 zf0 zc1 zf1 zc2 zf2 zc3 zf3 zc4 zf4 zc5 zf5
        go_meet
        case rel => exact ⟨_, _, _, _, _, _, _, _, _, _, _, rfl, BK14, BK4, BK5, BK9, Lib.hid (Kd.R_nil _ _ _ _ _), Lib.hid (Kd.R_nil _ _ _ _ _), HB, Lib.hid (by unfold rstep; exact if_neg (fun z => Bool.false_ne_true z.1))⟩
      subst hf0
      by_cases hk0 : o1 = kind
      case neg =>
        have hk0b : (o1 == kind) = false := beq_eq_false_iff_ne.mpr hk0
        replace hk0 := Lib.hid hk0
        go_wp2_with fail
        clear yc0 yf0 yc1 yf1 yc2 yf2 yc3 yf3 yc4 yf4 yc5 yf5
        clear zc0 zf0 zc1 zf1 zc2 zf2 zc3 zf3 zc4 zf4 zc5 zf5
        go_meet
        case rel => exact ⟨_, _, _, _, _, _, _, _, _, _, _, rfl, BK14, BK4, BK5, BK9, Lib.hid (Kd.R_nil _ _ _ _ _), Lib.hid (Kd.R_nil _ _ _ _ _), HB, Lib.hid (by unfold rstep; exact if_neg (fun z => hk0.out z.2.1))⟩
      have hk0b : (o1 == kind) = true := beq_iff_eq.mpr hk0
      replace hk0 := Lib.hid hk0
      by_cases hv0 : 0 < o3
      case neg =>
        have hv0b : decide (o3 > 0) = false := decide_eq_false (by omega)
        have hv0c : decide (0 < o3) = false := decide_eq_false (by omega)
        replace hv0 := Lib.hid hv0
        go_wp2_with fail
        clear yc0 yf0 yc1 yf1 yc2 yf2 yc3 yf3 yc4 yf4 yc5 yf5
        clear zc0 zf0 zc1 zf1 zc2 zf2 zc3 zf3 zc4 zf4 zc5 zf5
        go_meet
        case rel => exact ⟨_, _, _, _, _, _, _, _, _, _, _, rfl, BK14, BK4, BK5, BK9, Lib.hid (Kd.R_nil _ _ _ _ _), Lib.hid (Kd.R_nil _ _ _ _ _), HB, Lib.hid (by unfold rstep; exact if_neg (fun z => absurd z.2.2 (Int.not_lt.mpr hv0.out)))⟩
      have hv0b : decide (o3 > 0) = true := decide_eq_true (by omega)
      have hv0c : decide (0 < o3) = true := decide_eq_true hv0
      replace hv0 := Lib.hid hv0
      go_upto_region 12 with fail
      go_wp2_with fail
      clear yc0 yf0 yc1 yf1 yc2 yf2 yc3 yf3 yc4 yf4 yc5 yf5
      clear zc0 zf0 zc1 zf1 zc2 zf2 zc3 zf3 zc4 zf4 zc5 zf5
      obtain ⟨hq1_, hq2_, hs_⟩ := st6_0_6 HB.out GE14.out BK14.out (.int .u8 o1) (.int .i64 o2) (.int .i64 o3) (.int .i64 o4) (.slice X4 o5.length x4) (.slice X5 o6.length x5)
      generalize ((((((wn0.setCell ⟨gb14, 0, none⟩ (.int .u8 o1)).setCell ⟨gb14, 1, none⟩ (.int .i64 o2)).setCell ⟨gb14, 2, none⟩ (.int .i64 o3)).setCell ⟨gb14, 3, none⟩ (.int .i64 o4)).setCell ⟨gb14, 4, none⟩ (.slice X4 o5.length x4)).setCell ⟨gb14, 5, none⟩ (.slice X5 o6.length x5)) = wm0 at hs_ hq1_ hq2_ ⊢
      replace RU4 := Lib.hid (Kd.R_mono (Kd.R_step (Kd.R_types RU4.out BK14.out (by decide)) (fun k hk _ => hs_ k hk.2)) (ok' := fun _ => True) (fun _ _ => trivial))
      replace RU5 := Lib.hid (Kd.R_mono (Kd.R_step (Kd.R_types RU5.out BK14.out (by decide)) (fun k hk _ => hs_ k hk.2)) (ok' := fun _ => True) (fun _ _ => trivial))
      replace BK4 := Lib.hid ((hs_ gb4 NB4_14.out).trans BK4.out)
      replace BK5 := Lib.hid ((hs_ gb5 NB5_14.out).trans BK5.out)
      replace BK9 := Lib.hid ((hs_ gb9 NB9_14.out).trans BK9.out)
      replace BK14 := Lib.hid hq1_
      replace HB := Lib.hid hq2_
      clear hs_ hq1_ hq2_
      go_meet
      case rel => exact ⟨_, _, _, _, _, _, _, _, _, _, _, rfl, BK14, BK4, BK5, BK9, RU4, RU5, HB, Lib.hid (by unfold rstep; exact if_pos ⟨rfl, hk0.out, hv0.out⟩)⟩
    ·
      clear zc0 zc1 zc2 zc3 zc4 zc5 zf0 zf1 zf2 zf3 zf4 zf5
      have RU4 := Lib.hid (Kd.R_lower ho4 (below_size (below_drew1 (below_alloc HB.out _))))
      have RU5 := Lib.hid (Kd.R_lower ho5 (below_size (below_drew1 (below_alloc HB.out _))))
      clear ho4 ho5
      have GE160 := Lib.hid (show w.heap.size ≤ w5.heap.size from below_size HB.out)
      have NB4_160 := Lib.hid (show gb4 ≠ w5.heap.size from Nat.ne_of_lt (blk_lt BK4.out))
      have NB160_4 := Lib.hid NB4_160.out.symm
      have NB5_160 := Lib.hid (show gb5 ≠ w5.heap.size from Nat.ne_of_lt (blk_lt BK5.out))
      have NB160_5 := Lib.hid NB5_160.out.symm
      have NB9_160 := Lib.hid (show gb9 ≠ w5.heap.size from Nat.ne_of_lt (blk_lt BK9.out))
      have NB160_9 := Lib.hid NB9_160.out.symm
      have NB14_160 := Lib.hid (show gb14 ≠ w5.heap.size from Nat.ne_of_lt (blk_lt BK14.out))
      have NB160_14 := Lib.hid NB14_160.out.symm
      replace BK4 := Lib.hid (blk_below (blk_drew (blk_below BK4.out (below_alloc (Below.refl _ _) _))) hb)
      replace BK5 := Lib.hid (blk_below (blk_drew (blk_below BK5.out (below_alloc (Below.refl _ _) _))) hb)
      replace BK9 := Lib.hid (blk_below (blk_drew (blk_below BK9.out (below_alloc (Below.refl _ _) _))) hb)
      replace BK14 := Lib.hid (blk_below (blk_drew (blk_below BK14.out (below_alloc (Below.refl _ _) _))) hb)
      replace HB := Lib.hid (below_step (below_drew1 (below_alloc HB.out _)) hb)
      have BK160 := Lib.hid hnw
      clear hb hnw
      generalize w5.heap.size = gb160 at BK160 GE160 NB4_160 NB160_4 NB5_160 NB160_5 NB9_160 NB160_9 NB14_160 NB160_14 ⊢
      obtain ⟨hq1_, hq2_, hs_⟩ := st6_0_6 HB.out GE160.out BK160.out (.int .u8 o1) (.int .i64 o2) (.int .i64 o3) (.int .i64 o4) (.slice X4 o5.length x4) (.slice X5 o6.length x5)
      generalize ((((((w9.setCell ⟨gb160, 0, none⟩ (.int .u8 o1)).setCell ⟨gb160, 1, none⟩ (.int .i64 o2)).setCell ⟨gb160, 2, none⟩ (.int .i64 o3)).setCell ⟨gb160, 3, none⟩ (.int .i64 o4)).setCell ⟨gb160, 4, none⟩ (.slice X4 o5.length x4)).setCell ⟨gb160, 5, none⟩ (.slice X5 o6.length x5)) = wn0 at hs_ hq1_ hq2_ ⊢
      replace RU4 := Lib.hid (Kd.R_mono (Kd.R_step (Kd.R_types RU4.out BK160.out (by decide)) (fun k hk _ => hs_ k hk.2)) (ok' := fun _ => True) (fun _ _ => trivial))
      replace RU5 := Lib.hid (Kd.R_mono (Kd.R_step (Kd.R_types RU5.out BK160.out (by decide)) (fun k hk _ => hs_ k hk.2)) (ok' := fun _ => True) (fun _ _ => trivial))
      replace BK4 := Lib.hid ((hs_ gb4 NB4_160.out).trans BK4.out)
      replace BK5 := Lib.hid ((hs_ gb5 NB5_160.out).trans BK5.out)
      replace BK9 := Lib.hid ((hs_ gb9 NB9_160.out).trans BK9.out)
      replace BK14 := Lib.hid ((hs_ gb14 NB14_160.out).trans BK14.out)
      replace BK160 := Lib.hid hq1_
      replace HB := Lib.hid hq2_
      clear hs_ hq1_ hq2_
      obtain ⟨yc0, yc1, yc2, yc3, yc4, yc5, yf0, yf1, yf2, yf3, yf4, yf5⟩ := cs6 BK160.out
      obtain ⟨zc0, zc1, zc2, zc3, zc4, zc5, zf0, zf1, zf2, zf3, zf4, zf5⟩ := cs6 BK14.out
      by_cases hf0 : o7 = true
      case neg =>
        replace hf0 := Bool.eq_false_iff.mpr hf0
        subst hf0
        go_wp2_with fail
        clear yc0 yf0 yc1 yf1 yc2 yf2 yc3 yf3 yc4 yf4 yc5 yf5
        clear zc0 zf0 zc1 zf1 zc2 zf2 zc3 zf3 zc4 zf4 zc5 zf5
        go_meet
        case rel => exact ⟨_, _, _, _, _, _, _, _, _, _, _, rfl, BK14, BK4, BK5, BK9, Lib.hid (Kd.R_nil _ _ _ _ _), Lib.hid (Kd.R_nil _ _ _ _ _), HB, Lib.hid (by unfold rstep; exact if_neg (fun z => Bool.false_ne_true z.1))⟩
      subst hf0
      by_cases hk0 : o1 = kind
      case neg =>
        have hk0b : (o1 == kind) = false := beq_eq_false_iff_ne.mpr hk0
        replace hk0 := Lib.hid hk0
        go_wp2_with fail
        clear yc0 yf0 yc1 yf1 yc2 yf2 yc3 yf3 yc4 yf4 yc5 yf5
        clear zc0 zf0 zc1 zf1 zc2 zf2 zc3 zf3 zc4 zf4 zc5 zf5
        go_meet
        case rel => exact ⟨_, _, _, _, _, _, _, _, _, _, _, rfl, BK14, BK4, BK5, BK9, Lib.hid (Kd.R_nil _ _ _ _ _), Lib.hid (Kd.R_nil _ _ _ _ _), HB, Lib.hid (by unfold rstep; exact if_neg (fun z => hk0.out z.2.1))⟩
      have hk0b : (o1 == kind) = true := beq_iff_eq.mpr hk0
      replace hk0 := Lib.hid hk0
      by_cases hv0 : 0 < o3
      case neg =>
        have hv0b : decide (o3 > 0) = false := decide_eq_false (by omega)
        have hv0c : decide (0 < o3) = false := decide_eq_false (by omega)
        replace hv0 := Lib.hid hv0
        go_wp2_with fail
        clear yc0 yf0 yc1 yf1 yc2 yf2 yc3 yf3 yc4 yf4 yc5 yf5
        clear zc0 zf0 zc1 zf1 zc2 zf2 zc3 zf3 zc4 zf4 zc5 zf5
        go_meet
        case rel => exact ⟨_, _, _, _, _, _, _, _, _, _, _, rfl, BK14, BK4, BK5, BK9, Lib.hid (Kd.R_nil _ _ _ _ _), Lib.hid (Kd.R_nil _ _ _ _ _), HB, Lib.hid (by unfold rstep; exact if_neg (fun z => absurd z.2.2 (Int.not_lt.mpr hv0.out)))⟩
      have hv0b : decide (o3 > 0) = true := decide_eq_true (by omega)
      have hv0c : decide (0 < o3) = true := decide_eq_true hv0
      replace hv0 := Lib.hid hv0
      go_upto_region 12 with fail
      go_wp2_with fail
      clear yc0 yf0 yc1 yf1 yc2 yf2 yc3 yf3 yc4 yf4 yc5 yf5
      clear zc0 zf0 zc1 zf1 zc2 zf2 zc3 zf3 zc4 zf4 zc5 zf5
      obtain ⟨hq1_, hq2_, hs_⟩ := st6_0_6 HB.out GE14.out BK14.out (.int .u8 o1) (.int .i64 o2) (.int .i64 o3) (.int .i64 o4) (.slice X4 o5.length x4) (.slice X5 o6.length x5)
      generalize ((((((wn0.setCell ⟨gb14, 0, none⟩ (.int .u8 o1)).setCell ⟨gb14, 1, none⟩ (.int .i64 o2)).setCell ⟨gb14, 2, none⟩ (.int .i64 o3)).setCell ⟨gb14, 3, none⟩ (.int .i64 o4)).setCell ⟨gb14, 4, none⟩ (.slice X4 o5.length x4)).setCell ⟨gb14, 5, none⟩ (.slice X5 o6.length x5)) = wm0 at hs_ hq1_ hq2_ ⊢
      replace RU4 := Lib.hid (Kd.R_mono (Kd.R_step (Kd.R_types RU4.out BK14.out (by decide)) (fun k hk _ => hs_ k hk.2)) (ok' := fun _ => True) (fun _ _ => trivial))
      replace RU5 := Lib.hid (Kd.R_mono (Kd.R_step (Kd.R_types RU5.out BK14.out (by decide)) (fun k hk _ => hs_ k hk.2)) (ok' := fun _ => True) (fun _ _ => trivial))
      replace BK4 := Lib.hid ((hs_ gb4 NB4_14.out).trans BK4.out)
      replace BK5 := Lib.hid ((hs_ gb5 NB5_14.out).trans BK5.out)
      replace BK9 := Lib.hid ((hs_ gb9 NB9_14.out).trans BK9.out)
      replace BK14 := Lib.hid hq1_
      replace HB := Lib.hid hq2_
      clear hs_ hq1_ hq2_
      go_meet
      case rel => exact ⟨_, _, _, _, _, _, _, _, _, _, _, rfl, BK14, BK4, BK5, BK9, RU4, RU5, HB, Lib.hid (by unfold rstep; exact if_pos ⟨rfl, hk0.out, hv0.out⟩)⟩
  case rest =>
    obtain ⟨m0, b01, b02, b03, b04, b05, b06, B04, e04, B05, e05, rfl, h14_, h4_, h5_, h9_, RT04, RT05, HB_, ST0⟩ := hcut
    replace BK14 := h14_; replace BK4 := h4_; replace BK5 := h5_; replace BK9 := h9_; replace HB := HB_; clear h14_ h4_ h5_ h9_ HB_
    go_wp2_with fail
    rw [rounds_succ]
    go_upto_block 1 with fail
    go_cut [13] (fun v13 wc => ∃ (m1 b11 b12 b13 b14 : Int) (b15 b16 : List Int) (B14 : Option Addr) (e14 : Nat) (B15 : Option Addr) (e15 : Nat), v13 = .int .i64 m1 ∧ Hid (wc.heap[gb14]? = some (.cells #[.int .u8 b11, .int .i64 b12, .int .i64 b13, .int .i64 b14, .slice B14 b15.length e14, .slice B15 b16.length e15] 27 (0, 0))) ∧ Hid (wc.heap[gb4]? = some (.cells #[.int .i64 a0, .int .i64 a1, .int .i64 a2, .int .i64 a3] 23 (0, 0))) ∧ Hid (wc.heap[gb5]? = some (.cells #[.slice A0 l0.length c0, .slice A1 l1.length c1] 42 (0, 0))) ∧ Hid (wc.heap[gb9]? = some (.cells #[.int .u8 0, .int .i64 0, .int .i64 0, .int .i64 0, .slice none 0 0, .slice none 0 0] 27 (0, 0))) ∧ Hid (Kd.R (Kd.int .i64) 3 wc w.heap.size (fun _ => True) (.slice B14 b15.length e14) b15) ∧ Hid (Kd.R (Kd.int .u8) 5 wc w.heap.size (fun _ => True) (.slice B15 b16.length e15) b16) ∧ Hid (Below w.heap.size w wc) ∧ Hid (rstep kind 1 q1 q2 q3 q4 q5 q6 q7 m0 b01 b02 b03 b04 b05 b06 = (m1, b11, b12, b13, b14, b15, b16)))
    case first =>
      go_wp2_with fail
      go_region_held3 (fun w' => w'.cell? ⟨gb5, 1, none⟩ = some (.slice A1 l1.length c1) ∧ w'.cell? ⟨gb4, 0, none⟩ = some (.int .i64 a0) ∧ w'.cell? ⟨gb4, 1, none⟩ = some (.int .i64 a1) ∧ w'.cell? ⟨gb4, 2, none⟩ = some (.int .i64 a2) ∧ w'.cell? ⟨gb4, 3, none⟩ = some (.int .i64 a3)) (first | (with_reducible exact ⟨(blk_cell (blk_drew BK5.out) 1).trans rfl, (blk_cell (blk_drew BK4.out) 0).trans rfl, (blk_cell (blk_drew BK4.out) 1).trans rfl, (blk_cell (blk_drew BK4.out) 2).trans rfl, (blk_cell (blk_drew BK4.out) 3).trans rfl⟩) | (with_reducible exact ⟨(blk_cell (blk_drew (blk_below BK5.out (below_alloc (Below.refl _ _) _))) 1).trans rfl, (blk_cell (blk_drew (blk_below BK4.out (below_alloc (Below.refl _ _) _))) 0).trans rfl, (blk_cell (blk_drew (blk_below BK4.out (below_alloc (Below.refl _ _) _))) 1).trans rfl, (blk_cell (blk_drew (blk_below BK4.out (below_alloc (Below.refl _ _) _))) 2).trans rfl, (blk_cell (blk_drew (blk_below BK4.out (below_alloc (Below.refl _ _) _))) 3).trans rfl⟩) | (with_reducible exact ⟨(blk_cell (blk_below (blk_drew BK5.out) hb) 1).trans rfl, (blk_cell (blk_below (blk_drew BK4.out) hb) 0).trans rfl, (blk_cell (blk_below (blk_drew BK4.out) hb) 1).trans rfl, (blk_cell (blk_below (blk_drew BK4.out) hb) 2).trans rfl, (blk_cell (blk_below (blk_drew BK4.out) hb) 3).trans rfl⟩) | (with_reducible exact ⟨(blk_cell (blk_below (blk_drew (blk_below BK5.out (below_alloc (Below.refl _ _) _))) hb) 1).trans rfl, (blk_cell (blk_below (blk_drew (blk_below BK4.out (below_alloc (Below.refl _ _) _))) hb) 0).trans rfl, (blk_cell (blk_below (blk_drew (blk_below BK4.out (below_alloc (Below.refl _ _) _))) hb) 1).trans rfl, (blk_cell (blk_below (blk_drew (blk_below BK4.out (below_alloc (Below.refl _ _) _))) hb) 2).trans rfl, (blk_cell (blk_below (blk_drew (blk_below BK4.out (below_alloc (Below.refl _ _) _))) hb) 3).trans rfl⟩) | (with_reducible exact ⟨(blk_cell (blk_below (blk_below (blk_drew BK5.out) hb) (below_alloc (Below.refl _ _) _)) 1).trans rfl, (blk_cell (blk_below (blk_below (blk_drew BK4.out) hb) (below_alloc (Below.refl _ _) _)) 0).trans rfl, (blk_cell (blk_below (blk_below (blk_drew BK4.out) hb) (below_alloc (Below.refl _ _) _)) 1).trans rfl, (blk_cell (blk_below (blk_below (blk_drew BK4.out) hb) (below_alloc (Below.refl _ _) _)) 2).trans rfl, (blk_cell (blk_below (blk_below (blk_drew BK4.out) hb) (below_alloc (Below.refl _ _) _)) 3).trans rfl⟩) | (with_reducible exact ⟨(blk_cell (blk_far (p := ⟨wc.heap.size, 5, none⟩) (blk_far (p := ⟨wc.heap.size, 4, none⟩) (blk_far (p := ⟨wc.heap.size, 3, none⟩) (blk_far (p := ⟨wc.heap.size, 2, none⟩) (blk_far (p := ⟨wc.heap.size, 1, none⟩) (blk_far (p := ⟨wc.heap.size, 0, none⟩) (blk_below (blk_drew (blk_below BK5.out (below_alloc (Below.refl _ _) _))) hb) (Nat.ne_of_lt (blk_lt BK5.out)) (.int .u8 q1)) (Nat.ne_of_lt (blk_lt BK5.out)) (.int .i64 q2)) (Nat.ne_of_lt (blk_lt BK5.out)) (.int .i64 q3)) (Nat.ne_of_lt (blk_lt BK5.out)) (.int .i64 q4)) (Nat.ne_of_lt (blk_lt BK5.out)) (.slice Y4 q5.length y4)) (Nat.ne_of_lt (blk_lt BK5.out)) (.slice Y5 q6.length y5)) 1).trans rfl, (blk_cell (blk_far (p := ⟨wc.heap.size, 5, none⟩) (blk_far (p := ⟨wc.heap.size, 4, none⟩) (blk_far (p := ⟨wc.heap.size, 3, none⟩) (blk_far (p := ⟨wc.heap.size, 2, none⟩) (blk_far (p := ⟨wc.heap.size, 1, none⟩) (blk_far (p := ⟨wc.heap.size, 0, none⟩) (blk_below (blk_drew (blk_below BK4.out (below_alloc (Below.refl _ _) _))) hb) (Nat.ne_of_lt (blk_lt BK4.out)) (.int .u8 q1)) (Nat.ne_of_lt (blk_lt BK4.out)) (.int .i64 q2)) (Nat.ne_of_lt (blk_lt BK4.out)) (.int .i64 q3)) (Nat.ne_of_lt (blk_lt BK4.out)) (.int .i64 q4)) (Nat.ne_of_lt (blk_lt BK4.out)) (.slice Y4 q5.length y4)) (Nat.ne_of_lt (blk_lt BK4.out)) (.slice Y5 q6.length y5)) 0).trans rfl, (blk_cell (blk_far (p := ⟨wc.heap.size, 5, none⟩) (blk_far (p := ⟨wc.heap.size, 4, none⟩) (blk_far (p := ⟨wc.heap.size, 3, none⟩) (blk_far (p := ⟨wc.heap.size, 2, none⟩) (blk_far (p := ⟨wc.heap.size, 1, none⟩) (blk_far (p := ⟨wc.heap.size, 0, none⟩) (blk_below (blk_drew (blk_below BK4.out (below_alloc (Below.refl _ _) _))) hb) (Nat.ne_of_lt (blk_lt BK4.out)) (.int .u8 q1)) (Nat.ne_of_lt (blk_lt BK4.out)) (.int .i64 q2)) (Nat.ne_of_lt (blk_lt BK4.out)) (.int .i64 q3)) (Nat.ne_of_lt (blk_lt BK4.out)) (.int .i64 q4)) (Nat.ne_of_lt (blk_lt BK4.out)) (.slice Y4 q5.length y4)) (Nat.ne_of_lt (blk_lt BK4.out)) (.slice Y5 q6.length y5)) 1).trans rfl, (blk_cell (blk_far (p := ⟨wc.heap.size, 5, none⟩) (blk_far (p := ⟨wc.heap.size, 4, none⟩) (blk_far (p := ⟨wc.heap.size, 3, none⟩) (blk_far (p := ⟨wc.heap.size, 2, none⟩) (blk_far (p := ⟨wc.heap.size, 1, none⟩) (blk_far (p := ⟨wc.heap.size, 0, none⟩) (blk_below (blk_drew (blk_below BK4.out (below_alloc (Below.refl _ _) _))) hb) (Nat.ne_of_lt (blk_lt BK4.out)) (.int .u8 q1)) (Nat.ne_of_lt (blk_lt BK4.out)) (.int .i64 q2)) (Nat.ne_of_lt (blk_lt BK4.out)) (.int .i64 q3)) (Nat.ne_of_lt (blk_lt BK4.out)) (.int .i64 q4)) (Nat.ne_of_lt (blk_lt BK4.out)) (.slice Y4 q5.length y4)) (Nat.ne_of_lt (blk_lt BK4.out)) (.slice Y5 q6.length y5)) 2).trans rfl, (blk_cell (blk_far (p := ⟨wc.heap.size, 5, none⟩) (blk_far (p := ⟨wc.heap.size, 4, none⟩) (blk_far (p := ⟨wc.heap.size, 3, none⟩) (blk_far (p := ⟨wc.heap.size, 2, none⟩) (blk_far (p := ⟨wc.heap.size, 1, none⟩) (blk_far (p := ⟨wc.heap.size, 0, none⟩) (blk_below (blk_drew (blk_below BK4.out (below_alloc (Below.refl _ _) _))) hb) (Nat.ne_of_lt (blk_lt BK4.out)) (.int .u8 q1)) (Nat.ne_of_lt (blk_lt BK4.out)) (.int .i64 q2)) (Nat.ne_of_lt (blk_lt BK4.out)) (.int .i64 q3)) (Nat.ne_of_lt (blk_lt BK4.out)) (.int .i64 q4)) (Nat.ne_of_lt (blk_lt BK4.out)) (.slice Y4 q5.length y4)) (Nat.ne_of_lt (blk_lt BK4.out)) (.slice Y5 q6.length y5)) 3).trans rfl⟩)) ((go_at_call 43; refine (rOf.calls k a0 a1 a2 a3 A1 c1 l1 index s1 s2 s3 s4 s5 s6 s7 q1 q2 q3 q4 q5 q6 q7 _ (by first | exact Kd.C_below HR1.out (below_drew1 HB.out) | exact Kd.C_below HR1.out (below_drew1 (below_alloc HB.out _))) HC1.out HD1.out HO1.out).mono ?_; rintro en w9 ⟨u4, u5, rfl, ho4, ho5, hb⟩; obtain ⟨Y4, y4, rfl⟩ := Kd.R_slice ho4; obtain ⟨Y5, y5, rfl⟩ := Kd.R_slice ho5; (try (have hnw : w9.heap[wc.heap.size]? = some (.cells #[.int .u8 0, .int .i64 0, .int .i64 0, .int .i64 0, .slice none 0 0, .slice none 0 0] 27 (0, 0)) := blk_below (blk_drew (blk_new _ _)) hb; obtain ⟨zc0, zc1, zc2, zc3, zc4, zc5, zf0, zf1, zf2, zf3, zf4, zf5⟩ := cs6 hnw))))
      ·
        have RV4 := Lib.hid (Kd.R_lower ho4 (below_size (below_drew1 HB.out)))
        have RV5 := Lib.hid (Kd.R_lower ho5 (below_size (below_drew1 HB.out)))
        clear ho4 ho5
        replace BK4 := Lib.hid (blk_below (blk_drew BK4.out) hb)
        replace BK5 := Lib.hid (blk_below (blk_drew BK5.out) hb)
        replace BK9 := Lib.hid (blk_below (blk_drew BK9.out) hb)
        replace BK14 := Lib.hid (blk_below (blk_drew BK14.out) hb)
        replace RT04 := Lib.hid (Kd.R_below (Kd.R_drew RT04.out) hb)
        replace RT05 := Lib.hid (Kd.R_below (Kd.R_drew RT05.out) hb)
        replace HB := Lib.hid (below_step (below_drew1 HB.out) hb)
        clear hb
        have GE161 := Lib.hid (show w.heap.size ≤ w9.heap.size from below_size HB.out)
        have NB4_161 := Lib.hid (show gb4 ≠ w9.heap.size from Nat.ne_of_lt (blk_lt BK4.out))
        have NB161_4 := Lib.hid NB4_161.out.symm
        have NB5_161 := Lib.hid (show gb5 ≠ w9.heap.size from Nat.ne_of_lt (blk_lt BK5.out))
        have NB161_5 := Lib.hid NB5_161.out.symm
        have NB9_161 := Lib.hid (show gb9 ≠ w9.heap.size from Nat.ne_of_lt (blk_lt BK9.out))
        have NB161_9 := Lib.hid NB9_161.out.symm
        have NB14_161 := Lib.hid (show gb14 ≠ w9.heap.size from Nat.ne_of_lt (blk_lt BK14.out))
        have NB161_14 := Lib.hid NB14_161.out.symm
        have hal_ := below_alloc (Below.refl w9.heap.size w9) (.cells #[.int .u8 q1, .int .i64 q2, .int .i64 q3, .int .i64 q4, .slice Y4 q5.length y4, .slice Y5 q6.length y5] 27 (0, 0))
        replace BK4 := Lib.hid (blk_below BK4.out hal_)
        replace BK5 := Lib.hid (blk_below BK5.out hal_)
        replace BK9 := Lib.hid (blk_below BK9.out hal_)
        replace BK14 := Lib.hid (blk_below BK14.out hal_)
        replace RT04 := Lib.hid (Kd.R_below RT04.out hal_)
        replace RT05 := Lib.hid (Kd.R_below RT05.out hal_)
        replace RV4 := Lib.hid (Kd.R_below RV4.out hal_)
        replace RV5 := Lib.hid (Kd.R_below RV5.out hal_)
        have BK161 := Lib.hid (blk_new w9 (.cells #[.int .u8 q1, .int .i64 q2, .int .i64 q3, .int .i64 q4, .slice Y4 q5.length y4, .slice Y5 q6.length y5] 27 (0, 0)))
        replace HB := Lib.hid (below_step HB.out hal_)
        clear hal_
        try clear hHeld_
        generalize w9.alloc (.cells #[.int .u8 q1, .int .i64 q2, .int .i64 q3, .int .i64 q4, .slice Y4 q5.length y4, .slice Y5 q6.length y5] 27 (0, 0)) = wn1 at BK161 BK4 BK5 BK9 BK14 RT04 RT05 RV4 RV5 HB ⊢
        generalize w9.heap.size = gb161 at BK161 GE161 NB4_161 NB161_4 NB5_161 NB161_5 NB9_161 NB161_9 NB14_161 NB161_14 ⊢
        obtain ⟨yc0, yc1, yc2, yc3, yc4, yc5, yf0, yf1, yf2, yf3, yf4, yf5⟩ := cs6 BK161.out
        obtain ⟨zc0, zc1, zc2, zc3, zc4, zc5, zf0, zf1, zf2, zf3, zf4, zf5⟩ := cs6 BK14.out
        by_cases hf1 : q7 = true
        case neg =>
          replace hf1 := Bool.eq_false_iff.mpr hf1
          subst hf1
          go_wp2_with fail
          clear yc0 yf0 yc1 yf1 yc2 yf2 yc3 yf3 yc4 yf4 yc5 yf5
          clear zc0 zf0 zc1 zf1 zc2 zf2 zc3 zf3 zc4 zf4 zc5 zf5
          go_meet
          case rel => exact ⟨_, _, _, _, _, _, _, _, _, _, _, rfl, BK14, BK4, BK5, BK9, RT04, RT05, HB, Lib.hid (by unfold rstep; exact if_neg (fun z => Bool.false_ne_true z.1))⟩
        subst hf1
        by_cases hk1 : q1 = kind
        case neg =>
          have hk1b : (q1 == kind) = false := beq_eq_false_iff_ne.mpr hk1
          replace hk1 := Lib.hid hk1
          go_wp2_with fail
          clear yc0 yf0 yc1 yf1 yc2 yf2 yc3 yf3 yc4 yf4 yc5 yf5
          clear zc0 zf0 zc1 zf1 zc2 zf2 zc3 zf3 zc4 zf4 zc5 zf5
          go_meet
          case rel => exact ⟨_, _, _, _, _, _, _, _, _, _, _, rfl, BK14, BK4, BK5, BK9, RT04, RT05, HB, Lib.hid (by unfold rstep; exact if_neg (fun z => hk1.out z.2.1))⟩
        have hk1b : (q1 == kind) = true := beq_iff_eq.mpr hk1
        replace hk1 := Lib.hid hk1
        by_cases hv1 : b03 < q3
        case neg =>
          have hv1b : decide (q3 > b03) = false := decide_eq_false (by omega)
          have hv1c : decide (b03 < q3) = false := decide_eq_false (by omega)
          replace hv1 := Lib.hid hv1
          go_wp2_with fail
          clear yc0 yf0 yc1 yf1 yc2 yf2 yc3 yf3 yc4 yf4 yc5 yf5
          clear zc0 zf0 zc1 zf1 zc2 zf2 zc3 zf3 zc4 zf4 zc5 zf5
          go_meet
          case rel => exact ⟨_, _, _, _, _, _, _, _, _, _, _, rfl, BK14, BK4, BK5, BK9, RT04, RT05, HB, Lib.hid (by unfold rstep; exact if_neg (fun z => absurd z.2.2 (Int.not_lt.mpr hv1.out)))⟩
        have hv1b : decide (q3 > b03) = true := decide_eq_true (by omega)
        have hv1c : decide (b03 < q3) = true := decide_eq_true hv1
        replace hv1 := Lib.hid hv1
        go_upto_region 12 with fail
        go_wp2_with fail
        clear yc0 yf0 yc1 yf1 yc2 yf2 yc3 yf3 yc4 yf4 yc5 yf5
        clear zc0 zf0 zc1 zf1 zc2 zf2 zc3 zf3 zc4 zf4 zc5 zf5
        obtain ⟨hq1_, hq2_, hs_⟩ := st6_0_6 HB.out GE14.out BK14.out (.int .u8 q1) (.int .i64 q2) (.int .i64 q3) (.int .i64 q4) (.slice Y4 q5.length y4) (.slice Y5 q6.length y5)
        generalize ((((((wn1.setCell ⟨gb14, 0, none⟩ (.int .u8 q1)).setCell ⟨gb14, 1, none⟩ (.int .i64 q2)).setCell ⟨gb14, 2, none⟩ (.int .i64 q3)).setCell ⟨gb14, 3, none⟩ (.int .i64 q4)).setCell ⟨gb14, 4, none⟩ (.slice Y4 q5.length y4)).setCell ⟨gb14, 5, none⟩ (.slice Y5 q6.length y5)) = wm1 at hs_ hq1_ hq2_ ⊢
        replace RT04 := Lib.hid (Kd.R_mono (Kd.R_step (Kd.R_types RT04.out BK14.out (by decide)) (fun k hk _ => hs_ k hk.2)) (ok' := fun _ => True) (fun _ _ => trivial))
        replace RT05 := Lib.hid (Kd.R_mono (Kd.R_step (Kd.R_types RT05.out BK14.out (by decide)) (fun k hk _ => hs_ k hk.2)) (ok' := fun _ => True) (fun _ _ => trivial))
        replace RV4 := Lib.hid (Kd.R_mono (Kd.R_step (Kd.R_types RV4.out BK14.out (by decide)) (fun k hk _ => hs_ k hk.2)) (ok' := fun _ => True) (fun _ _ => trivial))
        replace RV5 := Lib.hid (Kd.R_mono (Kd.R_step (Kd.R_types RV5.out BK14.out (by decide)) (fun k hk _ => hs_ k hk.2)) (ok' := fun _ => True) (fun _ _ => trivial))
        replace BK4 := Lib.hid ((hs_ gb4 NB4_14.out).trans BK4.out)
        replace BK5 := Lib.hid ((hs_ gb5 NB5_14.out).trans BK5.out)
        replace BK9 := Lib.hid ((hs_ gb9 NB9_14.out).trans BK9.out)
        replace BK14 := Lib.hid hq1_
        replace HB := Lib.hid hq2_
        clear hs_ hq1_ hq2_
        go_meet
        case rel => exact ⟨_, _, _, _, _, _, _, _, _, _, _, rfl, BK14, BK4, BK5, BK9, RV4, RV5, HB, Lib.hid (by unfold rstep; exact if_pos ⟨rfl, hk1.out, hv1.out⟩)⟩
      ·
        clear zc0 zc1 zc2 zc3 zc4 zc5 zf0 zf1 zf2 zf3 zf4 zf5
        have RV4 := Lib.hid (Kd.R_lower ho4 (below_size (below_drew1 (below_alloc HB.out _))))
        have RV5 := Lib.hid (Kd.R_lower ho5 (below_size (below_drew1 (below_alloc HB.out _))))
        clear ho4 ho5
        have GE161 := Lib.hid (show w.heap.size ≤ wc.heap.size from below_size HB.out)
        have NB4_161 := Lib.hid (show gb4 ≠ wc.heap.size from Nat.ne_of_lt (blk_lt BK4.out))
        have NB161_4 := Lib.hid NB4_161.out.symm
        have NB5_161 := Lib.hid (show gb5 ≠ wc.heap.size from Nat.ne_of_lt (blk_lt BK5.out))
        have NB161_5 := Lib.hid NB5_161.out.symm
        have NB9_161 := Lib.hid (show gb9 ≠ wc.heap.size from Nat.ne_of_lt (blk_lt BK9.out))
        have NB161_9 := Lib.hid NB9_161.out.symm
        have NB14_161 := Lib.hid (show gb14 ≠ wc.heap.size from Nat.ne_of_lt (blk_lt BK14.out))
        have NB161_14 := Lib.hid NB14_161.out.symm
        replace BK4 := Lib.hid (blk_below (blk_drew (blk_below BK4.out (below_alloc (Below.refl _ _) _))) hb)
        replace BK5 := Lib.hid (blk_below (blk_drew (blk_below BK5.out (below_alloc (Below.refl _ _) _))) hb)
        replace BK9 := Lib.hid (blk_below (blk_drew (blk_below BK9.out (below_alloc (Below.refl _ _) _))) hb)
        replace BK14 := Lib.hid (blk_below (blk_drew (blk_below BK14.out (below_alloc (Below.refl _ _) _))) hb)
        replace RT04 := Lib.hid (Kd.R_below (Kd.R_drew (Kd.R_below RT04.out (below_alloc (Below.refl _ _) _))) hb)
        replace RT05 := Lib.hid (Kd.R_below (Kd.R_drew (Kd.R_below RT05.out (below_alloc (Below.refl _ _) _))) hb)
        replace HB := Lib.hid (below_step (below_drew1 (below_alloc HB.out _)) hb)
        have BK161 := Lib.hid hnw
        clear hb hnw
        generalize wc.heap.size = gb161 at BK161 GE161 NB4_161 NB161_4 NB5_161 NB161_5 NB9_161 NB161_9 NB14_161 NB161_14 ⊢
        obtain ⟨hq1_, hq2_, hs_⟩ := st6_0_6 HB.out GE161.out BK161.out (.int .u8 q1) (.int .i64 q2) (.int .i64 q3) (.int .i64 q4) (.slice Y4 q5.length y4) (.slice Y5 q6.length y5)
        generalize ((((((w9.setCell ⟨gb161, 0, none⟩ (.int .u8 q1)).setCell ⟨gb161, 1, none⟩ (.int .i64 q2)).setCell ⟨gb161, 2, none⟩ (.int .i64 q3)).setCell ⟨gb161, 3, none⟩ (.int .i64 q4)).setCell ⟨gb161, 4, none⟩ (.slice Y4 q5.length y4)).setCell ⟨gb161, 5, none⟩ (.slice Y5 q6.length y5)) = wn1 at hs_ hq1_ hq2_ ⊢
        replace RT04 := Lib.hid (Kd.R_mono (Kd.R_step (Kd.R_types RT04.out BK161.out (by decide)) (fun k hk _ => hs_ k hk.2)) (ok' := fun _ => True) (fun _ _ => trivial))
        replace RT05 := Lib.hid (Kd.R_mono (Kd.R_step (Kd.R_types RT05.out BK161.out (by decide)) (fun k hk _ => hs_ k hk.2)) (ok' := fun _ => True) (fun _ _ => trivial))
        replace RV4 := Lib.hid (Kd.R_mono (Kd.R_step (Kd.R_types RV4.out BK161.out (by decide)) (fun k hk _ => hs_ k hk.2)) (ok' := fun _ => True) (fun _ _ => trivial))
        replace RV5 := Lib.hid (Kd.R_mono (Kd.R_step (Kd.R_types RV5.out BK161.out (by decide)) (fun k hk _ => hs_ k hk.2)) (ok' := fun _ => True) (fun _ _ => trivial))
        replace BK4 := Lib.hid ((hs_ gb4 NB4_161.out).trans BK4.out)
        replace BK5 := Lib.hid ((hs_ gb5 NB5_161.out).trans BK5.out)
        replace BK9 := Lib.hid ((hs_ gb9 NB9_161.out).trans BK9.out)
        replace BK14 := Lib.hid ((hs_ gb14 NB14_161.out).trans BK14.out)
        replace BK161 := Lib.hid hq1_
        replace HB := Lib.hid hq2_
        clear hs_ hq1_ hq2_
        obtain ⟨yc0, yc1, yc2, yc3, yc4, yc5, yf0, yf1, yf2, yf3, yf4, yf5⟩ := cs6 BK161.out
        obtain ⟨zc0, zc1, zc2, zc3, zc4, zc5, zf0, zf1, zf2, zf3, zf4, zf5⟩ := cs6 BK14.out
        by_cases hf1 : q7 = true
        case neg =>
          replace hf1 := Bool.eq_false_iff.mpr hf1
          subst hf1
          go_wp2_with fail
          clear yc0 yf0 yc1 yf1 yc2 yf2 yc3 yf3 yc4 yf4 yc5 yf5
          clear zc0 zf0 zc1 zf1 zc2 zf2 zc3 zf3 zc4 zf4 zc5 zf5
          go_meet
          case rel => exact ⟨_, _, _, _, _, _, _, _, _, _, _, rfl, BK14, BK4, BK5, BK9, RT04, RT05, HB, Lib.hid (by unfold rstep; exact if_neg (fun z => Bool.false_ne_true z.1))⟩
        subst hf1
        by_cases hk1 : q1 = kind
        case neg =>
          have hk1b : (q1 == kind) = false := beq_eq_false_iff_ne.mpr hk1
          replace hk1 := Lib.hid hk1
          go_wp2_with fail
          clear yc0 yf0 yc1 yf1 yc2 yf2 yc3 yf3 yc4 yf4 yc5 yf5
          clear zc0 zf0 zc1 zf1 zc2 zf2 zc3 zf3 zc4 zf4 zc5 zf5
          go_meet
          case rel => exact ⟨_, _, _, _, _, _, _, _, _, _, _, rfl, BK14, BK4, BK5, BK9, RT04, RT05, HB, Lib.hid (by unfold rstep; exact if_neg (fun z => hk1.out z.2.1))⟩
        have hk1b : (q1 == kind) = true := beq_iff_eq.mpr hk1
        replace hk1 := Lib.hid hk1
        by_cases hv1 : b03 < q3
        case neg =>
          have hv1b : decide (q3 > b03) = false := decide_eq_false (by omega)
          have hv1c : decide (b03 < q3) = false := decide_eq_false (by omega)
          replace hv1 := Lib.hid hv1
          go_wp2_with fail
          clear yc0 yf0 yc1 yf1 yc2 yf2 yc3 yf3 yc4 yf4 yc5 yf5
          clear zc0 zf0 zc1 zf1 zc2 zf2 zc3 zf3 zc4 zf4 zc5 zf5
          go_meet
          case rel => exact ⟨_, _, _, _, _, _, _, _, _, _, _, rfl, BK14, BK4, BK5, BK9, RT04, RT05, HB, Lib.hid (by unfold rstep; exact if_neg (fun z => absurd z.2.2 (Int.not_lt.mpr hv1.out)))⟩
        have hv1b : decide (q3 > b03) = true := decide_eq_true (by omega)
        have hv1c : decide (b03 < q3) = true := decide_eq_true hv1
        replace hv1 := Lib.hid hv1
        go_upto_region 12 with fail
        go_wp2_with fail
        clear yc0 yf0 yc1 yf1 yc2 yf2 yc3 yf3 yc4 yf4 yc5 yf5
        clear zc0 zf0 zc1 zf1 zc2 zf2 zc3 zf3 zc4 zf4 zc5 zf5
        obtain ⟨hq1_, hq2_, hs_⟩ := st6_0_6 HB.out GE14.out BK14.out (.int .u8 q1) (.int .i64 q2) (.int .i64 q3) (.int .i64 q4) (.slice Y4 q5.length y4) (.slice Y5 q6.length y5)
        generalize ((((((wn1.setCell ⟨gb14, 0, none⟩ (.int .u8 q1)).setCell ⟨gb14, 1, none⟩ (.int .i64 q2)).setCell ⟨gb14, 2, none⟩ (.int .i64 q3)).setCell ⟨gb14, 3, none⟩ (.int .i64 q4)).setCell ⟨gb14, 4, none⟩ (.slice Y4 q5.length y4)).setCell ⟨gb14, 5, none⟩ (.slice Y5 q6.length y5)) = wm1 at hs_ hq1_ hq2_ ⊢
        replace RT04 := Lib.hid (Kd.R_mono (Kd.R_step (Kd.R_types RT04.out BK14.out (by decide)) (fun k hk _ => hs_ k hk.2)) (ok' := fun _ => True) (fun _ _ => trivial))
        replace RT05 := Lib.hid (Kd.R_mono (Kd.R_step (Kd.R_types RT05.out BK14.out (by decide)) (fun k hk _ => hs_ k hk.2)) (ok' := fun _ => True) (fun _ _ => trivial))
        replace RV4 := Lib.hid (Kd.R_mono (Kd.R_step (Kd.R_types RV4.out BK14.out (by decide)) (fun k hk _ => hs_ k hk.2)) (ok' := fun _ => True) (fun _ _ => trivial))
        replace RV5 := Lib.hid (Kd.R_mono (Kd.R_step (Kd.R_types RV5.out BK14.out (by decide)) (fun k hk _ => hs_ k hk.2)) (ok' := fun _ => True) (fun _ _ => trivial))
        replace BK4 := Lib.hid ((hs_ gb4 NB4_14.out).trans BK4.out)
        replace BK5 := Lib.hid ((hs_ gb5 NB5_14.out).trans BK5.out)
        replace BK9 := Lib.hid ((hs_ gb9 NB9_14.out).trans BK9.out)
        replace BK14 := Lib.hid hq1_
        replace HB := Lib.hid hq2_
        clear hs_ hq1_ hq2_
        go_meet
        case rel => exact ⟨_, _, _, _, _, _, _, _, _, _, _, rfl, BK14, BK4, BK5, BK9, RV4, RV5, HB, Lib.hid (by unfold rstep; exact if_pos ⟨rfl, hk1.out, hv1.out⟩)⟩
    case rest =>
      obtain ⟨m1, b11, b12, b13, b14, b15, b16, B14, e14, B15, e15, rfl, h14_, h4_, h5_, h9_, RT14, RT15, HB_, ST1⟩ := hcut
      replace BK14 := h14_; replace BK4 := h4_; replace BK5 := h5_; replace BK9 := h9_; replace HB := HB_; clear h14_ h4_ h5_ h9_ HB_ RT04 RT05
      go_wp2_with fail
      rw [rounds_succ]
      go_wp2_with fail
      obtain ⟨yc0, yc1, yc2, yc3, yc4, yc5, yf0, yf1, yf2, yf3, yf4, yf5⟩ := cs6 BK14.out
      obtain ⟨zc0, zc1, zc2, zc3, zc4, zc5, zf0, zf1, zf2, zf3, zf4, zf5⟩ := cs6 BK9.out
      clear yc0 yf0 yc1 yf1 yc2 yf2 yc3 yf3 yc4 yf4 yc5 yf5
      go_region_held3 (fun w' => w'.cell? ⟨gb14, 0, none⟩ = some (.int .u8 b11) ∧ w'.cell? ⟨gb14, 1, none⟩ = some (.int .i64 b12) ∧ w'.cell? ⟨gb14, 2, none⟩ = some (.int .i64 b13) ∧ w'.cell? ⟨gb14, 3, none⟩ = some (.int .i64 b14) ∧ w'.cell? ⟨gb14, 4, none⟩ = some (.slice B14 b15.length e14) ∧ w'.cell? ⟨gb14, 5, none⟩ = some (.slice B15 b16.length e15)) (first | (with_reducible exact ⟨(blk_cell (blk_drew BK14.out) 0).trans rfl, (blk_cell (blk_drew BK14.out) 1).trans rfl, (blk_cell (blk_drew BK14.out) 2).trans rfl, (blk_cell (blk_drew BK14.out) 3).trans rfl, (blk_cell (blk_drew BK14.out) 4).trans rfl, (blk_cell (blk_drew BK14.out) 5).trans rfl⟩) | (with_reducible exact ⟨(blk_cell (blk_far (p := ⟨gb9, 5, none⟩) (blk_far (p := ⟨gb9, 4, none⟩) (blk_far (p := ⟨gb9, 3, none⟩) (blk_far (p := ⟨gb9, 2, none⟩) (blk_far (p := ⟨gb9, 1, none⟩) (blk_far (p := ⟨gb9, 0, none⟩) (blk_drew BK14.out) NB14_9.out (.int .u8 b11)) NB14_9.out (.int .i64 b12)) NB14_9.out (.int .i64 b13)) NB14_9.out (.int .i64 b14)) NB14_9.out (.slice B14 b15.length e14)) NB14_9.out (.slice B15 b16.length e15)) 0).trans rfl, (blk_cell (blk_far (p := ⟨gb9, 5, none⟩) (blk_far (p := ⟨gb9, 4, none⟩) (blk_far (p := ⟨gb9, 3, none⟩) (blk_far (p := ⟨gb9, 2, none⟩) (blk_far (p := ⟨gb9, 1, none⟩) (blk_far (p := ⟨gb9, 0, none⟩) (blk_drew BK14.out) NB14_9.out (.int .u8 b11)) NB14_9.out (.int .i64 b12)) NB14_9.out (.int .i64 b13)) NB14_9.out (.int .i64 b14)) NB14_9.out (.slice B14 b15.length e14)) NB14_9.out (.slice B15 b16.length e15)) 1).trans rfl, (blk_cell (blk_far (p := ⟨gb9, 5, none⟩) (blk_far (p := ⟨gb9, 4, none⟩) (blk_far (p := ⟨gb9, 3, none⟩) (blk_far (p := ⟨gb9, 2, none⟩) (blk_far (p := ⟨gb9, 1, none⟩) (blk_far (p := ⟨gb9, 0, none⟩) (blk_drew BK14.out) NB14_9.out (.int .u8 b11)) NB14_9.out (.int .i64 b12)) NB14_9.out (.int .i64 b13)) NB14_9.out (.int .i64 b14)) NB14_9.out (.slice B14 b15.length e14)) NB14_9.out (.slice B15 b16.length e15)) 2).trans rfl, (blk_cell (blk_far (p := ⟨gb9, 5, none⟩) (blk_far (p := ⟨gb9, 4, none⟩) (blk_far (p := ⟨gb9, 3, none⟩) (blk_far (p := ⟨gb9, 2, none⟩) (blk_far (p := ⟨gb9, 1, none⟩) (blk_far (p := ⟨gb9, 0, none⟩) (blk_drew BK14.out) NB14_9.out (.int .u8 b11)) NB14_9.out (.int .i64 b12)) NB14_9.out (.int .i64 b13)) NB14_9.out (.int .i64 b14)) NB14_9.out (.slice B14 b15.length e14)) NB14_9.out (.slice B15 b16.length e15)) 3).trans rfl, (blk_cell (blk_far (p := ⟨gb9, 5, none⟩) (blk_far (p := ⟨gb9, 4, none⟩) (blk_far (p := ⟨gb9, 3, none⟩) (blk_far (p := ⟨gb9, 2, none⟩) (blk_far (p := ⟨gb9, 1, none⟩) (blk_far (p := ⟨gb9, 0, none⟩) (blk_drew BK14.out) NB14_9.out (.int .u8 b11)) NB14_9.out (.int .i64 b12)) NB14_9.out (.int .i64 b13)) NB14_9.out (.int .i64 b14)) NB14_9.out (.slice B14 b15.length e14)) NB14_9.out (.slice B15 b16.length e15)) 4).trans rfl, (blk_cell (blk_far (p := ⟨gb9, 5, none⟩) (blk_far (p := ⟨gb9, 4, none⟩) (blk_far (p := ⟨gb9, 3, none⟩) (blk_far (p := ⟨gb9, 2, none⟩) (blk_far (p := ⟨gb9, 1, none⟩) (blk_far (p := ⟨gb9, 0, none⟩) (blk_drew BK14.out) NB14_9.out (.int .u8 b11)) NB14_9.out (.int .i64 b12)) NB14_9.out (.int .i64 b13)) NB14_9.out (.int .i64 b14)) NB14_9.out (.slice B14 b15.length e14)) NB14_9.out (.slice B15 b16.length e15)) 5).trans rfl⟩) | (with_reducible exact ⟨(blk_cell (blk_drew (blk_far (p := ⟨gb9, 5, none⟩) (blk_far (p := ⟨gb9, 4, none⟩) (blk_far (p := ⟨gb9, 3, none⟩) (blk_far (p := ⟨gb9, 2, none⟩) (blk_far (p := ⟨gb9, 1, none⟩) (blk_far (p := ⟨gb9, 0, none⟩) BK14.out NB14_9.out (.int .u8 b11)) NB14_9.out (.int .i64 b12)) NB14_9.out (.int .i64 b13)) NB14_9.out (.int .i64 b14)) NB14_9.out (.slice B14 b15.length e14)) NB14_9.out (.slice B15 b16.length e15))) 0).trans rfl, (blk_cell (blk_drew (blk_far (p := ⟨gb9, 5, none⟩) (blk_far (p := ⟨gb9, 4, none⟩) (blk_far (p := ⟨gb9, 3, none⟩) (blk_far (p := ⟨gb9, 2, none⟩) (blk_far (p := ⟨gb9, 1, none⟩) (blk_far (p := ⟨gb9, 0, none⟩) BK14.out NB14_9.out (.int .u8 b11)) NB14_9.out (.int .i64 b12)) NB14_9.out (.int .i64 b13)) NB14_9.out (.int .i64 b14)) NB14_9.out (.slice B14 b15.length e14)) NB14_9.out (.slice B15 b16.length e15))) 1).trans rfl, (blk_cell (blk_drew (blk_far (p := ⟨gb9, 5, none⟩) (blk_far (p := ⟨gb9, 4, none⟩) (blk_far (p := ⟨gb9, 3, none⟩) (blk_far (p := ⟨gb9, 2, none⟩) (blk_far (p := ⟨gb9, 1, none⟩) (blk_far (p := ⟨gb9, 0, none⟩) BK14.out NB14_9.out (.int .u8 b11)) NB14_9.out (.int .i64 b12)) NB14_9.out (.int .i64 b13)) NB14_9.out (.int .i64 b14)) NB14_9.out (.slice B14 b15.length e14)) NB14_9.out (.slice B15 b16.length e15))) 2).trans rfl, (blk_cell (blk_drew (blk_far (p := ⟨gb9, 5, none⟩) (blk_far (p := ⟨gb9, 4, none⟩) (blk_far (p := ⟨gb9, 3, none⟩) (blk_far (p := ⟨gb9, 2, none⟩) (blk_far (p := ⟨gb9, 1, none⟩) (blk_far (p := ⟨gb9, 0, none⟩) BK14.out NB14_9.out (.int .u8 b11)) NB14_9.out (.int .i64 b12)) NB14_9.out (.int .i64 b13)) NB14_9.out (.int .i64 b14)) NB14_9.out (.slice B14 b15.length e14)) NB14_9.out (.slice B15 b16.length e15))) 3).trans rfl, (blk_cell (blk_drew (blk_far (p := ⟨gb9, 5, none⟩) (blk_far (p := ⟨gb9, 4, none⟩) (blk_far (p := ⟨gb9, 3, none⟩) (blk_far (p := ⟨gb9, 2, none⟩) (blk_far (p := ⟨gb9, 1, none⟩) (blk_far (p := ⟨gb9, 0, none⟩) BK14.out NB14_9.out (.int .u8 b11)) NB14_9.out (.int .i64 b12)) NB14_9.out (.int .i64 b13)) NB14_9.out (.int .i64 b14)) NB14_9.out (.slice B14 b15.length e14)) NB14_9.out (.slice B15 b16.length e15))) 4).trans rfl, (blk_cell (blk_drew (blk_far (p := ⟨gb9, 5, none⟩) (blk_far (p := ⟨gb9, 4, none⟩) (blk_far (p := ⟨gb9, 3, none⟩) (blk_far (p := ⟨gb9, 2, none⟩) (blk_far (p := ⟨gb9, 1, none⟩) (blk_far (p := ⟨gb9, 0, none⟩) BK14.out NB14_9.out (.int .u8 b11)) NB14_9.out (.int .i64 b12)) NB14_9.out (.int .i64 b13)) NB14_9.out (.int .i64 b14)) NB14_9.out (.slice B14 b15.length e14)) NB14_9.out (.slice B15 b16.length e15))) 5).trans rfl⟩)) (fail)
      go_wp2_with fail
      clear zc0 zf0 zc1 zf1 zc2 zf2 zc3 zf3 zc4 zf4 zc5 zf5
      have h := (newest_steps ST0.out ST1.out).symm.trans H.out
      simp only [Prod.mk.injEq] at h
      obtain ⟨rfl, rfl, rfl, rfl, rfl, rfl, rfl, rfl, rfl⟩ := h
      clear H ST0 ST1
      obtain ⟨hq1_, hq2_, hs_⟩ := st6_0_6 HB.out GE9.out BK9.out (.int .u8 b11) (.int .i64 b12) (.int .i64 b13) (.int .i64 b14) (.slice B14 b15.length e14) (.slice B15 b16.length e15)
      replace hq1_ := blk_drew hq1_
      replace hq2_ := below_drew1 hq2_
      have hsd_ : ∀ k, k ≠ gb9 → (((((((wc.setCell ⟨gb9, 0, none⟩ (.int .u8 b11)).setCell ⟨gb9, 1, none⟩ (.int .i64 b12)).setCell ⟨gb9, 2, none⟩ (.int .i64 b13)).setCell ⟨gb9, 3, none⟩ (.int .i64 b14)).setCell ⟨gb9, 4, none⟩ (.slice B14 b15.length e14)).setCell ⟨gb9, 5, none⟩ (.slice B15 b16.length e15)).drew).heap[k]? = wc.heap[k]? := fun k hk => (drew_heap _ k).trans (hs_ k hk)
      clear hs_
      have hs_ := hsd_
      clear hsd_
      generalize ((((((wc.setCell ⟨gb9, 0, none⟩ (.int .u8 b11)).setCell ⟨gb9, 1, none⟩ (.int .i64 b12)).setCell ⟨gb9, 2, none⟩ (.int .i64 b13)).setCell ⟨gb9, 3, none⟩ (.int .i64 b14)).setCell ⟨gb9, 4, none⟩ (.slice B14 b15.length e14)).setCell ⟨gb9, 5, none⟩ (.slice B15 b16.length e15)).drew = wz at hs_ hq1_ hq2_ ⊢
      replace RT14 := Lib.hid (Kd.R_mono (Kd.R_step (Kd.R_types RT14.out BK9.out (by decide)) (fun k hk _ => hs_ k hk.2)) (ok' := fun _ => True) (fun _ _ => trivial))
      replace RT15 := Lib.hid (Kd.R_mono (Kd.R_step (Kd.R_types RT15.out BK9.out (by decide)) (fun k hk _ => hs_ k hk.2)) (ok' := fun _ => True) (fun _ _ => trivial))
      replace BK9 := Lib.hid hq1_
      replace HB := Lib.hid hq2_
      clear hs_ hq1_ hq2_
      refine bodyPost_ret (results_tctt rfl _ _ gb9 27 #[.int .u8 b11, .int .i64 b12, .int .i64 b13, .int .i64 b14, .slice B14 b15.length e14, .slice B15 b16.length e15] (0, 0) _ rfl BK9.out Try.underlying27 rfl (by kernel_rfl)) rfl ?_
      exact ⟨_, _, rfl, RT14.out, RT15.out, HB.out⟩
end Go.Proofs.Ytihefjdabjmmaaa.PD
