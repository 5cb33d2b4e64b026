/- What held.at does. No condition. -/
import Derived.Test.YtihefjdabjmmaaaCellLook
namespace Go.Proofs.Ytihefjdabjmmaaa.PD
open Go Go.RowKit Go.Proofs.YtihefjdabjmmaaaW.PrintWords Go.Proofs.YtihefjdabjmmaaaW.PrintLast Go.Proofs.YtihefjdabjmmaaaW.PrintMore
set_option linter.unusedVariables false
theorem st7_0_7 {w W : World} {g : Nat} {c0 c1 c2 c3 c4 c5 c6 : Value} {t : TypeId} (hb : Below w.heap.size w W) (hg : w.heap.size ≤ g) (h : W.heap[g]? = some (.cells #[c0, c1, c2, c3, c4, c5, c6] t (0, 0))) (v0 v1 v2 v3 v4 v5 v6 : Value) :
    (((((((W.setCell ⟨g, 0, none⟩ v0).setCell ⟨g, 1, none⟩ v1).setCell ⟨g, 2, none⟩ v2).setCell ⟨g, 3, none⟩ v3).setCell ⟨g, 4, none⟩ v4).setCell ⟨g, 5, none⟩ v5).setCell ⟨g, 6, none⟩ v6).heap[g]? = some (.cells #[v0, v1, v2, v3, v4, v5, v6] t (0, 0)) ∧ Below w.heap.size w (((((((W.setCell ⟨g, 0, none⟩ v0).setCell ⟨g, 1, none⟩ v1).setCell ⟨g, 2, none⟩ v2).setCell ⟨g, 3, none⟩ v3).setCell ⟨g, 4, none⟩ v4).setCell ⟨g, 5, none⟩ v5).setCell ⟨g, 6, none⟩ v6) ∧ ∀ k, k ≠ g → (((((((W.setCell ⟨g, 0, none⟩ v0).setCell ⟨g, 1, none⟩ v1).setCell ⟨g, 2, none⟩ v2).setCell ⟨g, 3, none⟩ v3).setCell ⟨g, 4, none⟩ v4).setCell ⟨g, 5, none⟩ v5).setCell ⟨g, 6, none⟩ v6).heap[k]? = W.heap[k]? :=
  ⟨(blk_put (cs' := #[v0, v1, v2, v3, v4, v5, v6]) (blk_put (cs' := #[v0, v1, v2, v3, v4, v5, c6]) (blk_put (cs' := #[v0, v1, v2, v3, v4, c5, c6]) (blk_put (cs' := #[v0, v1, v2, v3, c4, c5, c6]) (blk_put (cs' := #[v0, v1, v2, c3, c4, c5, c6]) (blk_put (cs' := #[v0, v1, c2, c3, c4, c5, c6]) (blk_put (cs' := #[v0, c1, c2, c3, c4, c5, c6]) h 0 v0 rfl) 1 v1 rfl) 2 v2 rfl) 3 v3 rfl) 4 v4 rfl) 5 v5 rfl) 6 v6 rfl), (below_set (g := g) (j := 6) (v := v6) (below_set (g := g) (j := 5) (v := v5) (below_set (g := g) (j := 4) (v := v4) (below_set (g := g) (j := 3) (v := v3) (below_set (g := g) (j := 2) (v := v2) (below_set (g := g) (j := 1) (v := v1) (below_set (g := g) (j := 0) (v := v0) hb hg) hg) hg) hg) hg) hg) hg), fun k hk => ((Below.heap_setCell _ ⟨g, 6, none⟩ v6 k hk).trans ((Below.heap_setCell _ ⟨g, 5, none⟩ v5 k hk).trans ((Below.heap_setCell _ ⟨g, 4, none⟩ v4 k hk).trans ((Below.heap_setCell _ ⟨g, 3, none⟩ v3 k hk).trans ((Below.heap_setCell _ ⟨g, 2, none⟩ v2 k hk).trans ((Below.heap_setCell _ ⟨g, 1, none⟩ v1 k hk).trans (Below.heap_setCell _ ⟨g, 0, none⟩ v0 k hk)))))))⟩

def held_at.f (r1 r3 : Int) (r7 : Bool) (s1 s3 : Int) (s7 : Bool) (kind version : Int) : Int :=
  if r7 = true ∧ r1 = kind ∧ r3 = version then 0 else if s7 = true ∧ s1 = kind ∧ s3 = version then 1 else -1
set_option maxHeartbeats 4000000 in
set_option maxRecDepth 100000 in
theorem held_at.calls (r1 r2 r3 r4 : Int) (X4 X5 : Option Addr) (m4 x4 m5 x5 : Nat) (r7 : Bool) (s1 s2 s3 s4 : Int) (Y4 Y5 : Option Addr) (n4 y4 n5 y5 : Nat) (s7 : Bool) (kind version : Int) (w : World) :
    Calls Try.prog 39 #[.agg #[.int .u8 r1, .int .i64 r2, .int .i64 r3, .int .i64 r4, .slice X4 m4 x4, .slice X5 m5 x5, .bool r7, .int .u8 s1, .int .i64 s2, .int .i64 s3, .int .i64 s4, .slice Y4 n4 y4, .slice Y5 n5 y5, .bool s7], .int .u8 kind, .int .i64 version] w fun en w' =>
      en = .returned (.int .i64 (held_at.f r1 r3 r7 s1 s3 s7 kind version)) ∧ Below w.heap.size w w' := by
  have hu27 := Try.underlying27
  have hu60 := Try.underlying60
  have hu62 := Try.underlying62
  have HB := Lib.hid (Below.refl w.heap.size w)
  go_enter Try.func39, Try.ntmps39
  go_upto_region 1 with (first | ((with_reducible refine gate_dst (N := 3) rfl ?_); refine box_event ?hg (N := 3) ?hd (cs := #[.int .u8 r1, .int .i64 r2, .int .i64 r3, .int .i64 r4, .slice X4 m4 x4, .slice X5 m5 x5, .bool r7, .int .u8 s1, .int .i64 s2, .int .i64 s3, .int .i64 s4, .slice Y4 n4 y4, .slice Y5 n5 y5, .bool s7]) (t := 62) ?hr ?_; (case hd => rfl); (case hg => rfl); (case hr => first | (go_simp; done) | (go_simp; rfl)); intro gb3 hg_ w1 bk_ hb_; have GE3 := Lib.hid (show w.heap.size ≤ gb3 by rw [hg_]; exact below_size HB.out); have BK3 := Lib.hid bk_; replace HB := Lib.hid (below_step HB.out hb_); clear hb_ hg_ bk_))
  obtain ⟨bc0, bc1, bc2, bc3, bc4, bc5, bc6, bc7, bc8, bc9, bc10, bc11, bc12, bc13, bf0, bf1, bf2, bf3, bf4, bf5, bf6, bf7, bf8, bf9, bf10, bf11, bf12, bf13⟩ := cs14 BK3.out
  have hi0 := ix62_0 (.int .u8 r1) (.int .i64 r2) (.int .i64 r3) (.int .i64 r4) (.slice X4 m4 x4) (.slice X5 m5 x5) (.bool r7) (.int .u8 s1) (.int .i64 s2) (.int .i64 s3) (.int .i64 s4) (.slice Y4 n4 y4) (.slice Y5 n5 y5) (.bool s7)
  have hi1 := ix62_1 (.int .u8 r1) (.int .i64 r2) (.int .i64 r3) (.int .i64 r4) (.slice X4 m4 x4) (.slice X5 m5 x5) (.bool r7) (.int .u8 s1) (.int .i64 s2) (.int .i64 s3) (.int .i64 s4) (.slice Y4 n4 y4) (.slice Y5 n5 y5) (.bool s7)
  go_wp2_with fail
  clear bc0 bf0 bc1 bf1 bc2 bf2 bc3 bf3 bc4 bf4 bc5 bf5 bc6 bf6 bc7 bf7 bc8 bf8 bc9 bf9 bc10 bf10 bc11 bf11 bc12 bf12 bc13 bf13
  refine wp_loop_rounds 3 ?_
  rw [rounds_succ]
  go_upto_region 3 with fail
  go_upto_region 4 with (first | ((with_reducible refine gate_dst (N := 8) rfl ?_); refine box_event ?hg (N := 8) ?hd (cs := #[.int .u8 0, .int .i64 0, .int .i64 0, .int .i64 0, .slice none 0 0, .slice none 0 0, .bool false]) (t := 60) ?hr ?_; (case hd => rfl); (case hg => rfl); (case hr => first | (go_simp; done) | (go_simp; rfl)); intro gb80 hg_ w2a bk_ hb_; have GE80 := Lib.hid (show w.heap.size ≤ gb80 by rw [hg_]; exact below_size HB.out); have NB3_80 := Lib.hid (show gb3 ≠ gb80 by rw [hg_]; exact Nat.ne_of_lt (blk_lt BK3.out)); have NB80_3 := Lib.hid NB3_80.out.symm; replace BK3 := Lib.hid (blk_below BK3.out hb_); have BK80 := Lib.hid bk_; replace HB := Lib.hid (below_step HB.out hb_); clear hb_ hg_ bk_; obtain ⟨yc0, yc1, yc2, yc3, yc4, yc5, yc6, yf0, yf1, yf2, yf3, yf4, yf5, yf6⟩ := cs7 BK80.out))
  clear yc0 yf0 yc1 yf1 yc2 yf2 yc3 yf3 yc4 yf4 yc5 yf5 yc6 yf6
  obtain ⟨hq1_, hq2_, hs_⟩ := st7_0_7 HB.out GE80.out BK80.out (.int .u8 r1) (.int .i64 r2) (.int .i64 r3) (.int .i64 r4) (.slice X4 m4 x4) (.slice X5 m5 x5) (.bool r7)
  generalize (((((((w2a.setCell ⟨gb80, 0, none⟩ (.int .u8 r1)).setCell ⟨gb80, 1, none⟩ (.int .i64 r2)).setCell ⟨gb80, 2, none⟩ (.int .i64 r3)).setCell ⟨gb80, 3, none⟩ (.int .i64 r4)).setCell ⟨gb80, 4, none⟩ (.slice X4 m4 x4)).setCell ⟨gb80, 5, none⟩ (.slice X5 m5 x5)).setCell ⟨gb80, 6, none⟩ (.bool r7)) = w2b at hs_ hq1_ hq2_ ⊢
  replace BK3 := Lib.hid ((hs_ gb3 NB3_80.out).trans BK3.out)
  replace BK80 := Lib.hid hq1_
  replace HB := Lib.hid hq2_
  clear hs_ hq1_ hq2_
  obtain ⟨yc0, yc1, yc2, yc3, yc4, yc5, yc6, yf0, yf1, yf2, yf3, yf4, yf5, yf6⟩ := cs7 BK80.out
  by_cases hf0 : r7 = true
  case neg =>
    replace hf0 := Bool.eq_false_iff.mpr hf0
    subst hf0
    go_wp2_with fail
    clear yc0 yf0 yc1 yf1 yc2 yf2 yc3 yf3 yc4 yf4 yc5 yf5 yc6 yf6
    rw [rounds_succ]
    go_upto_region 3 with fail
    go_upto_region 4 with (first | ((with_reducible refine gate_dst (N := 8) rfl ?_); refine box_event ?hg (N := 8) ?hd (cs := #[.int .u8 0, .int .i64 0, .int .i64 0, .int .i64 0, .slice none 0 0, .slice none 0 0, .bool false]) (t := 60) ?hr ?_; (case hd => rfl); (case hg => rfl); (case hr => first | (go_simp; done) | (go_simp; rfl)); intro gb81 hg_ w3a bk_ hb_; have GE81 := Lib.hid (show w.heap.size ≤ gb81 by rw [hg_]; exact below_size HB.out); have NB3_81 := Lib.hid (show gb3 ≠ gb81 by rw [hg_]; exact Nat.ne_of_lt (blk_lt BK3.out)); have NB81_3 := Lib.hid NB3_81.out.symm; replace BK3 := Lib.hid (blk_below BK3.out hb_); have BK81 := Lib.hid bk_; replace HB := Lib.hid (below_step HB.out hb_); clear hb_ hg_ bk_; obtain ⟨yc0, yc1, yc2, yc3, yc4, yc5, yc6, yf0, yf1, yf2, yf3, yf4, yf5, yf6⟩ := cs7 BK81.out))
    clear yc0 yf0 yc1 yf1 yc2 yf2 yc3 yf3 yc4 yf4 yc5 yf5 yc6 yf6
    obtain ⟨hq1_, hq2_, hs_⟩ := st7_0_7 HB.out GE81.out BK81.out (.int .u8 s1) (.int .i64 s2) (.int .i64 s3) (.int .i64 s4) (.slice Y4 n4 y4) (.slice Y5 n5 y5) (.bool s7)
    generalize (((((((w3a.setCell ⟨gb81, 0, none⟩ (.int .u8 s1)).setCell ⟨gb81, 1, none⟩ (.int .i64 s2)).setCell ⟨gb81, 2, none⟩ (.int .i64 s3)).setCell ⟨gb81, 3, none⟩ (.int .i64 s4)).setCell ⟨gb81, 4, none⟩ (.slice Y4 n4 y4)).setCell ⟨gb81, 5, none⟩ (.slice Y5 n5 y5)).setCell ⟨gb81, 6, none⟩ (.bool s7)) = w3b at hs_ hq1_ hq2_ ⊢
    replace BK3 := Lib.hid ((hs_ gb3 NB3_81.out).trans BK3.out)
    replace BK81 := Lib.hid hq1_
    replace HB := Lib.hid hq2_
    clear hs_ hq1_ hq2_
    obtain ⟨yc0, yc1, yc2, yc3, yc4, yc5, yc6, yf0, yf1, yf2, yf3, yf4, yf5, yf6⟩ := cs7 BK81.out
    by_cases hf1 : s7 = true
    case neg =>
      replace hf1 := Bool.eq_false_iff.mpr hf1
      subst hf1
      go_wp2_with fail
      rw [rounds_succ]
      go_wp2_with fail
      go_ret
      exact ⟨by first | rfl | (unfold held_at.f; simp [*]), HB.out⟩
    subst hf1
    by_cases hk1 : s1 = kind
    case neg =>
      have hk1b : (s1 == kind) = false := beq_eq_false_iff_ne.mpr hk1
      replace hk1 := Lib.hid hk1
      go_wp2_with fail
      rw [rounds_succ]
      go_wp2_with fail
      go_ret
      have hk1_ := hk1.out
      exact ⟨by first | rfl | (unfold held_at.f; simp [*]), HB.out⟩
    have hk1b : (s1 == kind) = true := beq_iff_eq.mpr hk1
    replace hk1 := Lib.hid hk1
    by_cases hv1 : s3 = version
    case neg =>
      have hv1b : (s3 == version) = false := beq_eq_false_iff_ne.mpr hv1
      replace hv1 := Lib.hid hv1
      go_wp2_with fail
      rw [rounds_succ]
      go_wp2_with fail
      go_ret
      have hk1_ := hk1.out
      have hv1_ := hv1.out
      exact ⟨by first | rfl | (unfold held_at.f; simp [*]), HB.out⟩
    have hv1b : (s3 == version) = true := beq_iff_eq.mpr hv1
    replace hv1 := Lib.hid hv1
    go_wp2_with fail
    go_ret
    have hk1_ := hk1.out
    have hv1_ := hv1.out
    exact ⟨by first | rfl | (unfold held_at.f; simp [*]), HB.out⟩
  subst hf0
  by_cases hk0 : r1 = kind
  case neg =>
    have hk0b : (r1 == kind) = false := beq_eq_false_iff_ne.mpr hk0
    replace hk0 := Lib.hid hk0
    go_wp2_with fail
    clear yc0 yf0 yc1 yf1 yc2 yf2 yc3 yf3 yc4 yf4 yc5 yf5 yc6 yf6
    rw [rounds_succ]
    go_upto_region 3 with fail
    go_upto_region 4 with (first | ((with_reducible refine gate_dst (N := 8) rfl ?_); refine box_event ?hg (N := 8) ?hd (cs := #[.int .u8 0, .int .i64 0, .int .i64 0, .int .i64 0, .slice none 0 0, .slice none 0 0, .bool false]) (t := 60) ?hr ?_; (case hd => rfl); (case hg => rfl); (case hr => first | (go_simp; done) | (go_simp; rfl)); intro gb81 hg_ w3a bk_ hb_; have GE81 := Lib.hid (show w.heap.size ≤ gb81 by rw [hg_]; exact below_size HB.out); have NB3_81 := Lib.hid (show gb3 ≠ gb81 by rw [hg_]; exact Nat.ne_of_lt (blk_lt BK3.out)); have NB81_3 := Lib.hid NB3_81.out.symm; replace BK3 := Lib.hid (blk_below BK3.out hb_); have BK81 := Lib.hid bk_; replace HB := Lib.hid (below_step HB.out hb_); clear hb_ hg_ bk_; obtain ⟨yc0, yc1, yc2, yc3, yc4, yc5, yc6, yf0, yf1, yf2, yf3, yf4, yf5, yf6⟩ := cs7 BK81.out))
    clear yc0 yf0 yc1 yf1 yc2 yf2 yc3 yf3 yc4 yf4 yc5 yf5 yc6 yf6
    obtain ⟨hq1_, hq2_, hs_⟩ := st7_0_7 HB.out GE81.out BK81.out (.int .u8 s1) (.int .i64 s2) (.int .i64 s3) (.int .i64 s4) (.slice Y4 n4 y4) (.slice Y5 n5 y5) (.bool s7)
    generalize (((((((w3a.setCell ⟨gb81, 0, none⟩ (.int .u8 s1)).setCell ⟨gb81, 1, none⟩ (.int .i64 s2)).setCell ⟨gb81, 2, none⟩ (.int .i64 s3)).setCell ⟨gb81, 3, none⟩ (.int .i64 s4)).setCell ⟨gb81, 4, none⟩ (.slice Y4 n4 y4)).setCell ⟨gb81, 5, none⟩ (.slice Y5 n5 y5)).setCell ⟨gb81, 6, none⟩ (.bool s7)) = w3b at hs_ hq1_ hq2_ ⊢
    replace BK3 := Lib.hid ((hs_ gb3 NB3_81.out).trans BK3.out)
    replace BK81 := Lib.hid hq1_
    replace HB := Lib.hid hq2_
    clear hs_ hq1_ hq2_
    obtain ⟨yc0, yc1, yc2, yc3, yc4, yc5, yc6, yf0, yf1, yf2, yf3, yf4, yf5, yf6⟩ := cs7 BK81.out
    by_cases hf1 : s7 = true
    case neg =>
      replace hf1 := Bool.eq_false_iff.mpr hf1
      subst hf1
      go_wp2_with fail
      rw [rounds_succ]
      go_wp2_with fail
      go_ret
      have hk0_ := hk0.out
      exact ⟨by first | rfl | (unfold held_at.f; simp [*]), HB.out⟩
    subst hf1
    by_cases hk1 : s1 = kind
    case neg =>
      have hk1b : (s1 == kind) = false := beq_eq_false_iff_ne.mpr hk1
      replace hk1 := Lib.hid hk1
      go_wp2_with fail
      rw [rounds_succ]
      go_wp2_with fail
      go_ret
      have hk0_ := hk0.out
      have hk1_ := hk1.out
      exact ⟨by first | rfl | (unfold held_at.f; simp [*]), HB.out⟩
    have hk1b : (s1 == kind) = true := beq_iff_eq.mpr hk1
    replace hk1 := Lib.hid hk1
    by_cases hv1 : s3 = version
    case neg =>
      have hv1b : (s3 == version) = false := beq_eq_false_iff_ne.mpr hv1
      replace hv1 := Lib.hid hv1
      go_wp2_with fail
      rw [rounds_succ]
      go_wp2_with fail
      go_ret
      have hk0_ := hk0.out
      have hk1_ := hk1.out
      have hv1_ := hv1.out
      exact ⟨by first | rfl | (unfold held_at.f; simp [*]), HB.out⟩
    have hv1b : (s3 == version) = true := beq_iff_eq.mpr hv1
    replace hv1 := Lib.hid hv1
    go_wp2_with fail
    go_ret
    have hk0_ := hk0.out
    have hk1_ := hk1.out
    have hv1_ := hv1.out
    exact ⟨by first | rfl | (unfold held_at.f; simp [*]), HB.out⟩
  have hk0b : (r1 == kind) = true := beq_iff_eq.mpr hk0
  replace hk0 := Lib.hid hk0
  by_cases hv0 : r3 = version
  case neg =>
    have hv0b : (r3 == version) = false := beq_eq_false_iff_ne.mpr hv0
    replace hv0 := Lib.hid hv0
    go_wp2_with fail
    clear yc0 yf0 yc1 yf1 yc2 yf2 yc3 yf3 yc4 yf4 yc5 yf5 yc6 yf6
    rw [rounds_succ]
    go_upto_region 3 with fail
    go_upto_region 4 with (first | ((with_reducible refine gate_dst (N := 8) rfl ?_); refine box_event ?hg (N := 8) ?hd (cs := #[.int .u8 0, .int .i64 0, .int .i64 0, .int .i64 0, .slice none 0 0, .slice none 0 0, .bool false]) (t := 60) ?hr ?_; (case hd => rfl); (case hg => rfl); (case hr => first | (go_simp; done) | (go_simp; rfl)); intro gb81 hg_ w3a bk_ hb_; have GE81 := Lib.hid (show w.heap.size ≤ gb81 by rw [hg_]; exact below_size HB.out); have NB3_81 := Lib.hid (show gb3 ≠ gb81 by rw [hg_]; exact Nat.ne_of_lt (blk_lt BK3.out)); have NB81_3 := Lib.hid NB3_81.out.symm; replace BK3 := Lib.hid (blk_below BK3.out hb_); have BK81 := Lib.hid bk_; replace HB := Lib.hid (below_step HB.out hb_); clear hb_ hg_ bk_; obtain ⟨yc0, yc1, yc2, yc3, yc4, yc5, yc6, yf0, yf1, yf2, yf3, yf4, yf5, yf6⟩ := cs7 BK81.out))
    clear yc0 yf0 yc1 yf1 yc2 yf2 yc3 yf3 yc4 yf4 yc5 yf5 yc6 yf6
    obtain ⟨hq1_, hq2_, hs_⟩ := st7_0_7 HB.out GE81.out BK81.out (.int .u8 s1) (.int .i64 s2) (.int .i64 s3) (.int .i64 s4) (.slice Y4 n4 y4) (.slice Y5 n5 y5) (.bool s7)
    generalize (((((((w3a.setCell ⟨gb81, 0, none⟩ (.int .u8 s1)).setCell ⟨gb81, 1, none⟩ (.int .i64 s2)).setCell ⟨gb81, 2, none⟩ (.int .i64 s3)).setCell ⟨gb81, 3, none⟩ (.int .i64 s4)).setCell ⟨gb81, 4, none⟩ (.slice Y4 n4 y4)).setCell ⟨gb81, 5, none⟩ (.slice Y5 n5 y5)).setCell ⟨gb81, 6, none⟩ (.bool s7)) = w3b at hs_ hq1_ hq2_ ⊢
    replace BK3 := Lib.hid ((hs_ gb3 NB3_81.out).trans BK3.out)
    replace BK81 := Lib.hid hq1_
    replace HB := Lib.hid hq2_
    clear hs_ hq1_ hq2_
    obtain ⟨yc0, yc1, yc2, yc3, yc4, yc5, yc6, yf0, yf1, yf2, yf3, yf4, yf5, yf6⟩ := cs7 BK81.out
    by_cases hf1 : s7 = true
    case neg =>
      replace hf1 := Bool.eq_false_iff.mpr hf1
      subst hf1
      go_wp2_with fail
      rw [rounds_succ]
      go_wp2_with fail
      go_ret
      have hk0_ := hk0.out
      have hv0_ := hv0.out
      exact ⟨by first | rfl | (unfold held_at.f; simp [*]), HB.out⟩
    subst hf1
    by_cases hk1 : s1 = kind
    case neg =>
      have hk1b : (s1 == kind) = false := beq_eq_false_iff_ne.mpr hk1
      replace hk1 := Lib.hid hk1
      go_wp2_with fail
      rw [rounds_succ]
      go_wp2_with fail
      go_ret
      have hk0_ := hk0.out
      have hv0_ := hv0.out
      have hk1_ := hk1.out
      exact ⟨by first | rfl | (unfold held_at.f; simp [*]), HB.out⟩
    have hk1b : (s1 == kind) = true := beq_iff_eq.mpr hk1
    replace hk1 := Lib.hid hk1
    by_cases hv1 : s3 = version
    case neg =>
      have hv1b : (s3 == version) = false := beq_eq_false_iff_ne.mpr hv1
      replace hv1 := Lib.hid hv1
      go_wp2_with fail
      rw [rounds_succ]
      go_wp2_with fail
      go_ret
      have hk0_ := hk0.out
      have hv0_ := hv0.out
      have hk1_ := hk1.out
      have hv1_ := hv1.out
      exact ⟨by first | rfl | (unfold held_at.f; simp [*]), HB.out⟩
    have hv1b : (s3 == version) = true := beq_iff_eq.mpr hv1
    replace hv1 := Lib.hid hv1
    go_wp2_with fail
    go_ret
    have hk0_ := hk0.out
    have hv0_ := hv0.out
    have hk1_ := hk1.out
    have hv1_ := hv1.out
    exact ⟨by first | rfl | (unfold held_at.f; simp [*]), HB.out⟩
  have hv0b : (r3 == version) = true := beq_iff_eq.mpr hv0
  replace hv0 := Lib.hid hv0
  go_wp2_with fail
  go_ret
  have hk0_ := hk0.out
  have hv0_ := hv0.out
  exact ⟨by first | rfl | (unfold held_at.f; simp [*]), HB.out⟩
end Go.Proofs.Ytihefjdabjmmaaa.PD
