/- What cell.Older does. No condition. -/
import Derived.Test.YtihefjdabjmmaaaCellLook
namespace Go.Proofs.Ytihefjdabjmmaaa.PD
open Go Go.RowKit Go.Proofs.YtihefjdabjmmaaaW.PrintWords Go.Proofs.YtihefjdabjmmaaaW.PrintLast Go.Proofs.YtihefjdabjmmaaaW.PrintMore
set_option linter.unusedVariables false
theorem st7_0_7 {w W : World} {g : Nat} {c0 c1 c2 c3 c4 c5 c6 : Value} {t : TypeId} (hb : Below w.heap.size w W) (hg : w.heap.size ≤ g) (h : W.heap[g]? = some (.cells #[c0, c1, c2, c3, c4, c5, c6] t (0, 0))) (v0 v1 v2 v3 v4 v5 v6 : Value) :
    (((((((W.setCell ⟨g, 0, none⟩ v0).setCell ⟨g, 1, none⟩ v1).setCell ⟨g, 2, none⟩ v2).setCell ⟨g, 3, none⟩ v3).setCell ⟨g, 4, none⟩ v4).setCell ⟨g, 5, none⟩ v5).setCell ⟨g, 6, none⟩ v6).heap[g]? = some (.cells #[v0, v1, v2, v3, v4, v5, v6] t (0, 0)) ∧ Below w.heap.size w (((((((W.setCell ⟨g, 0, none⟩ v0).setCell ⟨g, 1, none⟩ v1).setCell ⟨g, 2, none⟩ v2).setCell ⟨g, 3, none⟩ v3).setCell ⟨g, 4, none⟩ v4).setCell ⟨g, 5, none⟩ v5).setCell ⟨g, 6, none⟩ v6) ∧ ∀ k, k ≠ g → (((((((W.setCell ⟨g, 0, none⟩ v0).setCell ⟨g, 1, none⟩ v1).setCell ⟨g, 2, none⟩ v2).setCell ⟨g, 3, none⟩ v3).setCell ⟨g, 4, none⟩ v4).setCell ⟨g, 5, none⟩ v5).setCell ⟨g, 6, none⟩ v6).heap[k]? = W.heap[k]? :=
  ⟨(blk_put (cs' := #[v0, v1, v2, v3, v4, v5, v6]) (blk_put (cs' := #[v0, v1, v2, v3, v4, v5, c6]) (blk_put (cs' := #[v0, v1, v2, v3, v4, c5, c6]) (blk_put (cs' := #[v0, v1, v2, v3, c4, c5, c6]) (blk_put (cs' := #[v0, v1, v2, c3, c4, c5, c6]) (blk_put (cs' := #[v0, v1, c2, c3, c4, c5, c6]) (blk_put (cs' := #[v0, c1, c2, c3, c4, c5, c6]) h 0 v0 rfl) 1 v1 rfl) 2 v2 rfl) 3 v3 rfl) 4 v4 rfl) 5 v5 rfl) 6 v6 rfl), (below_set (g := g) (j := 6) (v := v6) (below_set (g := g) (j := 5) (v := v5) (below_set (g := g) (j := 4) (v := v4) (below_set (g := g) (j := 3) (v := v3) (below_set (g := g) (j := 2) (v := v2) (below_set (g := g) (j := 1) (v := v1) (below_set (g := g) (j := 0) (v := v0) hb hg) hg) hg) hg) hg) hg) hg), fun k hk => ((Below.heap_setCell _ ⟨g, 6, none⟩ v6 k hk).trans ((Below.heap_setCell _ ⟨g, 5, none⟩ v5 k hk).trans ((Below.heap_setCell _ ⟨g, 4, none⟩ v4 k hk).trans ((Below.heap_setCell _ ⟨g, 3, none⟩ v3 k hk).trans ((Below.heap_setCell _ ⟨g, 2, none⟩ v2 k hk).trans ((Below.heap_setCell _ ⟨g, 1, none⟩ v1 k hk).trans (Below.heap_setCell _ ⟨g, 0, none⟩ v0 k hk)))))))⟩

def held_at.f (r1 r3 : Int) (r7 : Bool) (s1 s3 : Int) (s7 : Bool) (kind version : Int) : Int :=
  if r7 = true ∧ r1 = kind ∧ r3 = version then 0 else if s7 = true ∧ s1 = kind ∧ s3 = version then 1 else -1
set_option maxHeartbeats 4000000 in
set_option maxRecDepth 100000 in
theorem held_at.calls (r1 r2 r3 r4 : Int) (X4 X5 : Option Addr) (m4 x4 m5 x5 : Nat) (r7 : Bool) (s1 s2 s3 s4 : Int) (Y4 Y5 : Option Addr) (n4 y4 n5 y5 : Nat) (s7 : Bool) (kind version : Int) (w : World) :
    Calls Try.prog 39 #[.agg #[.int .u8 r1, .int .i64 r2, .int .i64 r3, .int .i64 r4, .slice X4 m4 x4, .slice X5 m5 x5, .bool r7, .int .u8 s1, .int .i64 s2, .int .i64 s3, .int .i64 s4, .slice Y4 n4 y4, .slice Y5 n5 y5, .bool s7], .int .u8 kind, .int .i64 version] w fun en w' =>
      en = .returned (.int .i64 (held_at.f r1 r3 r7 s1 s3 s7 kind version)) ∧ Below w.heap.size w w' := by
  have hu27 := Try.underlying27
  have hu60 := Try.underlying60
  have hu62 := Try.underlying62
  have HB := Lib.hid (Below.refl w.heap.size w)
  go_enter Try.func39, Try.ntmps39
  go_upto_region 1 with (first | ((with_reducible refine gate_dst (N := 3) rfl ?_); refine box_event ?hg (N := 3) ?hd (cs := #[.int .u8 r1, .int .i64 r2, .int .i64 r3, .int .i64 r4, .slice X4 m4 x4, .slice X5 m5 x5, .bool r7, .int .u8 s1, .int .i64 s2, .int .i64 s3, .int .i64 s4, .slice Y4 n4 y4, .slice Y5 n5 y5, .bool s7]) (t := 62) ?hr ?_; (case hd => rfl); (case hg => rfl); (case hr => first | (go_simp; done) | (go_simp; rfl)); intro gb3 hg_ w1 bk_ hb_; have GE3 := Lib.hid (show w.heap.size ≤ gb3 by rw [hg_]; exact below_size HB.out); have BK3 := Lib.hid bk_; replace HB := Lib.hid (below_step HB.out hb_); clear hb_ hg_ bk_))
  obtain ⟨bc0, bc1, bc2, bc3, bc4, bc5, bc6, bc7, bc8, bc9, bc10, bc11, bc12, bc13, bf0, bf1, bf2, bf3, bf4, bf5, bf6, bf7, bf8, bf9, bf10, bf11, bf12, bf13⟩ := cs14 BK3.out
  have hi0 := ix62_0 (.int .u8 r1) (.int .i64 r2) (.int .i64 r3) (.int .i64 r4) (.slice X4 m4 x4) (.slice X5 m5 x5) (.bool r7) (.int .u8 s1) (.int .i64 s2) (.int .i64 s3) (.int .i64 s4) (.slice Y4 n4 y4) (.slice Y5 n5 y5) (.bool s7)
  have hi1 := ix62_1 (.int .u8 r1) (.int .i64 r2) (.int .i64 r3) (.int .i64 r4) (.slice X4 m4 x4) (.slice X5 m5 x5) (.bool r7) (.int .u8 s1) (.int .i64 s2) (.int .i64 s3) (.int .i64 s4) (.slice Y4 n4 y4) (.slice Y5 n5 y5) (.bool s7)
  go_wp2_with fail
  clear bc0 bf0 bc1 bf1 bc2 bf2 bc3 bf3 bc4 bf4 bc5 bf5 bc6 bf6 bc7 bf7 bc8 bf8 bc9 bf9 bc10 bf10 bc11 bf11 bc12 bf12 bc13 bf13
  refine wp_loop_rounds 3 ?_
  rw [rounds_succ]
  go_upto_region 3 with fail
  go_upto_region 4 with (first | ((with_reducible refine gate_dst (N := 8) rfl ?_); refine box_event ?hg (N := 8) ?hd (cs := #[.int .u8 0, .int .i64 0, .int .i64 0, .int .i64 0, .slice none 0 0, .slice none 0 0, .bool false]) (t := 60) ?hr ?_; (case hd => rfl); (case hg => rfl); (case hr => first | (go_simp; done) | (go_simp; rfl)); intro gb80 hg_ w2a bk_ hb_; have GE80 := Lib.hid (show w.heap.size ≤ gb80 by rw [hg_]; exact below_size HB.out); have NB3_80 := Lib.hid (show gb3 ≠ gb80 by rw [hg_]; exact Nat.ne_of_lt (blk_lt BK3.out)); have NB80_3 := Lib.hid NB3_80.out.symm; replace BK3 := Lib.hid (blk_below BK3.out hb_); have BK80 := Lib.hid bk_; replace HB := Lib.hid (below_step HB.out hb_); clear hb_ hg_ bk_; obtain ⟨yc0, yc1, yc2, yc3, yc4, yc5, yc6, yf0, yf1, yf2, yf3, yf4, yf5, yf6⟩ := cs7 BK80.out))
  clear yc0 yf0 yc1 yf1 yc2 yf2 yc3 yf3 yc4 yf4 yc5 yf5 yc6 yf6
  obtain ⟨hq1_, hq2_, hs_⟩ := st7_0_7 HB.out GE80.out BK80.out (.int .u8 r1) (.int .i64 r2) (.int .i64 r3) (.int .i64 r4) (.slice X4 m4 x4) (.slice X5 m5 x5) (.bool r7)
  generalize (((((((w2a.setCell ⟨gb80, 0, none⟩ (.int .u8 r1)).setCell ⟨gb80, 1, none⟩ (.int .i64 r2)).setCell ⟨gb80, 2, none⟩ (.int .i64 r3)).setCell ⟨gb80, 3, none⟩ (.int .i64 r4)).setCell ⟨gb80, 4, none⟩ (.slice X4 m4 x4)).setCell ⟨gb80, 5, none⟩ (.slice X5 m5 x5)).setCell ⟨gb80, 6, none⟩ (.bool r7)) = w2b at hs_ hq1_ hq2_ ⊢
  replace BK3 := Lib.hid ((hs_ gb3 NB3_80.out).trans BK3.out)
  replace BK80 := Lib.hid hq1_
  replace HB := Lib.hid hq2_
  clear hs_ hq1_ hq2_
  obtain ⟨yc0, yc1, yc2, yc3, yc4, yc5, yc6, yf0, yf1, yf2, yf3, yf4, yf5, yf6⟩ := cs7 BK80.out
  by_cases hf0 : r7 = true
  case neg =>
    replace hf0 := Bool.eq_false_iff.mpr hf0
    subst hf0
    go_wp2_with fail
    clear yc0 yf0 yc1 yf1 yc2 yf2 yc3 yf3 yc4 yf4 yc5 yf5 yc6 yf6
    rw [rounds_succ]
    go_upto_region 3 with fail
    go_upto_region 4 with (first | ((with_reducible refine gate_dst (N := 8) rfl ?_); refine box_event ?hg (N := 8) ?hd (cs := #[.int .u8 0, .int .i64 0, .int .i64 0, .int .i64 0, .slice none 0 0, .slice none 0 0, .bool false]) (t := 60) ?hr ?_; (case hd => rfl); (case hg => rfl); (case hr => first | (go_simp; done) | (go_simp; rfl)); intro gb81 hg_ w3a bk_ hb_; have GE81 := Lib.hid (show w.heap.size ≤ gb81 by rw [hg_]; exact below_size HB.out); have NB3_81 := Lib.hid (show gb3 ≠ gb81 by rw [hg_]; exact Nat.ne_of_lt (blk_lt BK3.out)); have NB81_3 := Lib.hid NB3_81.out.symm; replace BK3 := Lib.hid (blk_below BK3.out hb_); have BK81 := Lib.hid bk_; replace HB := Lib.hid (below_step HB.out hb_); clear hb_ hg_ bk_; obtain ⟨yc0, yc1, yc2, yc3, yc4, yc5, yc6, yf0, yf1, yf2, yf3, yf4, yf5, yf6⟩ := cs7 BK81.out))
    clear yc0 yf0 yc1 yf1 yc2 yf2 yc3 yf3 yc4 yf4 yc5 yf5 yc6 yf6
    obtain ⟨hq1_, hq2_, hs_⟩ := st7_0_7 HB.out GE81.out BK81.out (.int .u8 s1) (.int .i64 s2) (.int .i64 s3) (.int .i64 s4) (.slice Y4 n4 y4) (.slice Y5 n5 y5) (.bool s7)
    generalize (((((((w3a.setCell ⟨gb81, 0, none⟩ (.int .u8 s1)).setCell ⟨gb81, 1, none⟩ (.int .i64 s2)).setCell ⟨gb81, 2, none⟩ (.int .i64 s3)).setCell ⟨gb81, 3, none⟩ (.int .i64 s4)).setCell ⟨gb81, 4, none⟩ (.slice Y4 n4 y4)).setCell ⟨gb81, 5, none⟩ (.slice Y5 n5 y5)).setCell ⟨gb81, 6, none⟩ (.bool s7)) = w3b at hs_ hq1_ hq2_ ⊢
    replace BK3 := Lib.hid ((hs_ gb3 NB3_81.out).trans BK3.out)
    replace BK81 := Lib.hid hq1_
    replace HB := Lib.hid hq2_
    clear hs_ hq1_ hq2_
    obtain ⟨yc0, yc1, yc2, yc3, yc4, yc5, yc6, yf0, yf1, yf2, yf3, yf4, yf5, yf6⟩ := cs7 BK81.out
    by_cases hf1 : s7 = true
    case neg =>
      replace hf1 := Bool.eq_false_iff.mpr hf1
      subst hf1
      go_wp2_with fail
      rw [rounds_succ]
      go_wp2_with fail
      go_ret
      exact ⟨by first | rfl | (unfold held_at.f; simp [*]), HB.out⟩
    subst hf1
    by_cases hk1 : s1 = kind
    case neg =>
      have hk1b : (s1 == kind) = false := beq_eq_false_iff_ne.mpr hk1
      replace hk1 := Lib.hid hk1
      go_wp2_with fail
      rw [rounds_succ]
      go_wp2_with fail
      go_ret
      have hk1_ := hk1.out
      exact ⟨by first | rfl | (unfold held_at.f; simp [*]), HB.out⟩
    have hk1b : (s1 == kind) = true := beq_iff_eq.mpr hk1
    replace hk1 := Lib.hid hk1
    by_cases hv1 : s3 = version
    case neg =>
      have hv1b : (s3 == version) = false := beq_eq_false_iff_ne.mpr hv1
      replace hv1 := Lib.hid hv1
      go_wp2_with fail
      rw [rounds_succ]
      go_wp2_with fail
      go_ret
      have hk1_ := hk1.out
      have hv1_ := hv1.out
      exact ⟨by first | rfl | (unfold held_at.f; simp [*]), HB.out⟩
    have hv1b : (s3 == version) = true := beq_iff_eq.mpr hv1
    replace hv1 := Lib.hid hv1
    go_wp2_with fail
    go_ret
    have hk1_ := hk1.out
    have hv1_ := hv1.out
    exact ⟨by first | rfl | (unfold held_at.f; simp [*]), HB.out⟩
  subst hf0
  by_cases hk0 : r1 = kind
  case neg =>
    have hk0b : (r1 == kind) = false := beq_eq_false_iff_ne.mpr hk0
    replace hk0 := Lib.hid hk0
    go_wp2_with fail
    clear yc0 yf0 yc1 yf1 yc2 yf2 yc3 yf3 yc4 yf4 yc5 yf5 yc6 yf6
    rw [rounds_succ]
    go_upto_region 3 with fail
    go_upto_region 4 with (first | ((with_reducible refine gate_dst (N := 8) rfl ?_); refine box_event ?hg (N := 8) ?hd (cs := #[.int .u8 0, .int .i64 0, .int .i64 0, .int .i64 0, .slice none 0 0, .slice none 0 0, .bool false]) (t := 60) ?hr ?_; (case hd => rfl); (case hg => rfl); (case hr => first | (go_simp; done) | (go_simp; rfl)); intro gb81 hg_ w3a bk_ hb_; have GE81 := Lib.hid (show w.heap.size ≤ gb81 by rw [hg_]; exact below_size HB.out); have NB3_81 := Lib.hid (show gb3 ≠ gb81 by rw [hg_]; exact Nat.ne_of_lt (blk_lt BK3.out)); have NB81_3 := Lib.hid NB3_81.out.symm; replace BK3 := Lib.hid (blk_below BK3.out hb_); have BK81 := Lib.hid bk_; replace HB := Lib.hid (below_step HB.out hb_); clear hb_ hg_ bk_; obtain ⟨yc0, yc1, yc2, yc3, yc4, yc5, yc6, yf0, yf1, yf2, yf3, yf4, yf5, yf6⟩ := cs7 BK81.out))
    clear yc0 yf0 yc1 yf1 yc2 yf2 yc3 yf3 yc4 yf4 yc5 yf5 yc6 yf6
    obtain ⟨hq1_, hq2_, hs_⟩ := st7_0_7 HB.out GE81.out BK81.out (.int .u8 s1) (.int .i64 s2) (.int .i64 s3) (.int .i64 s4) (.slice Y4 n4 y4) (.slice Y5 n5 y5) (.bool s7)
    generalize (((((((w3a.setCell ⟨gb81, 0, none⟩ (.int .u8 s1)).setCell ⟨gb81, 1, none⟩ (.int .i64 s2)).setCell ⟨gb81, 2, none⟩ (.int .i64 s3)).setCell ⟨gb81, 3, none⟩ (.int .i64 s4)).setCell ⟨gb81, 4, none⟩ (.slice Y4 n4 y4)).setCell ⟨gb81, 5, none⟩ (.slice Y5 n5 y5)).setCell ⟨gb81, 6, none⟩ (.bool s7)) = w3b at hs_ hq1_ hq2_ ⊢
    replace BK3 := Lib.hid ((hs_ gb3 NB3_81.out).trans BK3.out)
    replace BK81 := Lib.hid hq1_
    replace HB := Lib.hid hq2_
    clear hs_ hq1_ hq2_
    obtain ⟨yc0, yc1, yc2, yc3, yc4, yc5, yc6, yf0, yf1, yf2, yf3, yf4, yf5, yf6⟩ := cs7 BK81.out
    by_cases hf1 : s7 = true
    case neg =>
      replace hf1 := Bool.eq_false_iff.mpr hf1
      subst hf1
      go_wp2_with fail
      rw [rounds_succ]
      go_wp2_with fail
      go_ret
      have hk0_ := hk0.out
      exact ⟨by first | rfl | (unfold held_at.f; simp [*]), HB.out⟩
    subst hf1
    by_cases hk1 : s1 = kind
    case neg =>
      have hk1b : (s1 == kind) = false := beq_eq_false_iff_ne.mpr hk1
      replace hk1 := Lib.hid hk1
      go_wp2_with fail
      rw [rounds_succ]
      go_wp2_with fail
      go_ret
      have hk0_ := hk0.out
      have hk1_ := hk1.out
      exact ⟨by first | rfl | (unfold held_at.f; simp [*]), HB.out⟩
    have hk1b : (s1 == kind) = true := beq_iff_eq.mpr hk1
    replace hk1 := Lib.hid hk1
    by_cases hv1 : s3 = version
    case neg =>
      have hv1b : (s3 == version) = false := beq_eq_false_iff_ne.mpr hv1
      replace hv1 := Lib.hid hv1
      go_wp2_with fail
      rw [rounds_succ]
      go_wp2_with fail
      go_ret
      have hk0_ := hk0.out
      have hk1_ := hk1.out
      have hv1_ := hv1.out
      exact ⟨by first | rfl | (unfold held_at.f; simp [*]), HB.out⟩
    have hv1b : (s3 == version) = true := beq_iff_eq.mpr hv1
    replace hv1 := Lib.hid hv1
    go_wp2_with fail
    go_ret
    have hk0_ := hk0.out
    have hk1_ := hk1.out
    have hv1_ := hv1.out
    exact ⟨by first | rfl | (unfold held_at.f; simp [*]), HB.out⟩
  have hk0b : (r1 == kind) = true := beq_iff_eq.mpr hk0
  replace hk0 := Lib.hid hk0
  by_cases hv0 : r3 = version
  case neg =>
    have hv0b : (r3 == version) = false := beq_eq_false_iff_ne.mpr hv0
    replace hv0 := Lib.hid hv0
    go_wp2_with fail
    clear yc0 yf0 yc1 yf1 yc2 yf2 yc3 yf3 yc4 yf4 yc5 yf5 yc6 yf6
    rw [rounds_succ]
    go_upto_region 3 with fail
    go_upto_region 4 with (first | ((with_reducible refine gate_dst (N := 8) rfl ?_); refine box_event ?hg (N := 8) ?hd (cs := #[.int .u8 0, .int .i64 0, .int .i64 0, .int .i64 0, .slice none 0 0, .slice none 0 0, .bool false]) (t := 60) ?hr ?_; (case hd => rfl); (case hg => rfl); (case hr => first | (go_simp; done) | (go_simp; rfl)); intro gb81 hg_ w3a bk_ hb_; have GE81 := Lib.hid (show w.heap.size ≤ gb81 by rw [hg_]; exact below_size HB.out); have NB3_81 := Lib.hid (show gb3 ≠ gb81 by rw [hg_]; exact Nat.ne_of_lt (blk_lt BK3.out)); have NB81_3 := Lib.hid NB3_81.out.symm; replace BK3 := Lib.hid (blk_below BK3.out hb_); have BK81 := Lib.hid bk_; replace HB := Lib.hid (below_step HB.out hb_); clear hb_ hg_ bk_; obtain ⟨yc0, yc1, yc2, yc3, yc4, yc5, yc6, yf0, yf1, yf2, yf3, yf4, yf5, yf6⟩ := cs7 BK81.out))
    clear yc0 yf0 yc1 yf1 yc2 yf2 yc3 yf3 yc4 yf4 yc5 yf5 yc6 yf6
    obtain ⟨hq1_, hq2_, hs_⟩ := st7_0_7 HB.out GE81.out BK81.out (.int .u8 s1) (.int .i64 s2) (.int .i64 s3) (.int .i64 s4) (.slice Y4 n4 y4) (.slice Y5 n5 y5) (.bool s7)
    generalize (((((((w3a.setCell ⟨gb81, 0, none⟩ (.int .u8 s1)).setCell ⟨gb81, 1, none⟩ (.int .i64 s2)).setCell ⟨gb81, 2, none⟩ (.int .i64 s3)).setCell ⟨gb81, 3, none⟩ (.int .i64 s4)).setCell ⟨gb81, 4, none⟩ (.slice Y4 n4 y4)).setCell ⟨gb81, 5, none⟩ (.slice Y5 n5 y5)).setCell ⟨gb81, 6, none⟩ (.bool s7)) = w3b at hs_ hq1_ hq2_ ⊢
    replace BK3 := Lib.hid ((hs_ gb3 NB3_81.out).trans BK3.out)
    replace BK81 := Lib.hid hq1_
    replace HB := Lib.hid hq2_
    clear hs_ hq1_ hq2_
    obtain ⟨yc0, yc1, yc2, yc3, yc4, yc5, yc6, yf0, yf1, yf2, yf3, yf4, yf5, yf6⟩ := cs7 BK81.out
    by_cases hf1 : s7 = true
    case neg =>
      replace hf1 := Bool.eq_false_iff.mpr hf1
      subst hf1
      go_wp2_with fail
      rw [rounds_succ]
      go_wp2_with fail
      go_ret
      have hk0_ := hk0.out
      have hv0_ := hv0.out
      exact ⟨by first | rfl | (unfold held_at.f; simp [*]), HB.out⟩
    subst hf1
    by_cases hk1 : s1 = kind
    case neg =>
      have hk1b : (s1 == kind) = false := beq_eq_false_iff_ne.mpr hk1
      replace hk1 := Lib.hid hk1
      go_wp2_with fail
      rw [rounds_succ]
      go_wp2_with fail
      go_ret
      have hk0_ := hk0.out
      have hv0_ := hv0.out
      have hk1_ := hk1.out
      exact ⟨by first | rfl | (unfold held_at.f; simp [*]), HB.out⟩
    have hk1b : (s1 == kind) = true := beq_iff_eq.mpr hk1
    replace hk1 := Lib.hid hk1
    by_cases hv1 : s3 = version
    case neg =>
      have hv1b : (s3 == version) = false := beq_eq_false_iff_ne.mpr hv1
      replace hv1 := Lib.hid hv1
      go_wp2_with fail
      rw [rounds_succ]
      go_wp2_with fail
      go_ret
      have hk0_ := hk0.out
      have hv0_ := hv0.out
      have hk1_ := hk1.out
      have hv1_ := hv1.out
      exact ⟨by first | rfl | (unfold held_at.f; simp [*]), HB.out⟩
    have hv1b : (s3 == version) = true := beq_iff_eq.mpr hv1
    replace hv1 := Lib.hid hv1
    go_wp2_with fail
    go_ret
    have hk0_ := hk0.out
    have hv0_ := hv0.out
    have hk1_ := hk1.out
    have hv1_ := hv1.out
    exact ⟨by first | rfl | (unfold held_at.f; simp [*]), HB.out⟩
  have hv0b : (r3 == version) = true := beq_iff_eq.mpr hv0
  replace hv0 := Lib.hid hv0
  go_wp2_with fail
  go_ret
  have hk0_ := hk0.out
  have hv0_ := hv0.out
  exact ⟨by first | rfl | (unfold held_at.f; simp [*]), HB.out⟩
end Go.Proofs.Ytihefjdabjmmaaa.PD
namespace Go.Proofs.Ytihefjdabjmmaaa.PD
open Go Go.RowKit Go.Proofs.YtihefjdabjmmaaaW.PrintWords Go.Proofs.YtihefjdabjmmaaaW.PrintLast Go.Proofs.YtihefjdabjmmaaaW.PrintMore
set_option linter.unusedVariables false
theorem held_at.cases (r1 r3 : Int) (r7 : Bool) (s1 s3 : Int) (s7 : Bool) (kind version : Int) : held_at.f r1 r3 r7 s1 s3 s7 kind version = 0 ∨ held_at.f r1 r3 r7 s1 s3 s7 kind version = 1 ∨ held_at.f r1 r3 r7 s1 s3 s7 kind version = -1 := by
  unfold held_at.f
  split
  · exact .inl rfl
  · split
    · exact .inr (.inl rfl)
    · exact .inr (.inr rfl)
/-- into which slot the next version goes -/
def cell_Older.of (at_ r3 : Int) (r7 : Bool) (s3 : Int) (s7 : Bool) (keep : Int) : Int :=
  if 0 < keep ∧ 0 ≤ at_ then 1 - at_ else if r7 = false then 0 else if s7 = false then 1 else if s3 < r3 then 1 else 0
def cell_Older.f (k : Nat) (a0 a1 a2 a3 : Int) (l0 l1 : List Int) (kind index keep : Int) : Option (Int × Int) :=
  (cell_look.f k a0 a1 a2 a3 l0 l1 kind index).bind fun h => match h with
  | (r1, r2, r3, r4, r5, r6, r7, s1, s2, s3, s4, s5, s6, s7, e) => if e = 0 then (if keep < 0 ∨ 1073741824 < keep then some (0, 2) else some (cell_Older.of (held_at.f r1 r3 r7 s1 s3 s7 kind keep) r3 r7 s3 s7 keep, 0)) else some (0, e)
set_option maxHeartbeats 4000000 in
set_option maxRecDepth 100000 in
theorem cell_Older.calls (k : Nat) (a0 a1 a2 a3 : Int) (A0 : Option Addr) (c0 : Nat) (l0 : List Int) (A1 : Option Addr) (c1 : Nat) (l1 : List Int) (kind index keep : Int) (n te : Int) (w : World)
    (hr0 : Kd.C (Kd.int .u8) w A0 l0.length l0) (hc0 : l0.length ≤ c0) (hr1 : Kd.C (Kd.int .u8) w A1 l1.length l1) (hc1 : l1.length ≤ c1)
    (h : cell_Older.f k a0 a1 a2 a3 l0 l1 kind index keep = some (n, te)) :
    Calls Try.prog 26 #[.agg #[.int .i64 a0, .int .i64 a1, .int .i64 a2, .int .i64 a3], .agg #[.slice A0 l0.length c0, .slice A1 l1.length c1], .int .u8 kind, .int .i64 index, .int .i64 keep] w fun en w' =>
      en = .returned (.tuple #[.int .i64 n, .int .i64 te]) ∧ Below w.heap.size w w' := by
  have hu23 := Try.underlying23
  have hu27 := Try.underlying27
  have hu42 := Try.underlying42
  have hu60 := Try.underlying60
  have hu62 := Try.underlying62
  have HR0 := Lib.hid hr0
  have HR1 := Lib.hid hr1
  have HC0 := Lib.hid hc0
  have HC1 := Lib.hid hc1
  have HB := Lib.hid (Below.refl w.heap.size w)
  clear hr0 hr1 hc0 hc1
  unfold cell_Older.f at h
  obtain ⟨⟨r1, r2, r3, r4, r5, r6, r7, s1, s2, s3, s4, s5, s6, s7, e⟩, hd, h⟩ := Option.bind_eq_some_iff.mp h
  have HD := Lib.hid hd
  have H := Lib.hid h
  clear hd h
  go_enter Try.func26, Try.ntmps26
  go_upto_region 1 with (first | ((with_reducible refine gate_dst (N := 5) rfl ?_); refine box_event ?hg (N := 5) ?hd (cs := #[.int .i64 a0, .int .i64 a1, .int .i64 a2, .int .i64 a3]) (t := 23) ?hr ?_; (case hd => rfl); (case hg => rfl); (case hr => first | (go_simp; done) | (go_simp; rfl)); intro gb5 hg_ w1 bk_ hb_; have GE5 := Lib.hid (show w.heap.size ≤ gb5 by rw [hg_]; exact below_size HB.out); have BK5 := Lib.hid bk_; replace HB := Lib.hid (below_step HB.out hb_); clear hb_ hg_ bk_) | ((with_reducible refine gate_dst (N := 6) rfl ?_); refine box_event ?hg (N := 6) ?hd (cs := #[.slice A0 l0.length c0, .slice A1 l1.length c1]) (t := 42) ?hr ?_; (case hd => rfl); (case hg => rfl); (case hr => first | (go_simp; done) | (go_simp; rfl)); intro gb6 hg_ w2 bk_ hb_; have GE6 := Lib.hid (show w.heap.size ≤ gb6 by rw [hg_]; exact below_size HB.out); have NB5_6 := Lib.hid (show gb5 ≠ gb6 by rw [hg_]; exact Nat.ne_of_lt (blk_lt BK5.out)); have NB6_5 := Lib.hid NB5_6.out.symm; replace BK5 := Lib.hid (blk_below BK5.out hb_); have BK6 := Lib.hid bk_; replace HB := Lib.hid (below_step HB.out hb_); clear hb_ hg_ bk_))
  obtain ⟨pc0, pc1, pc2, pc3, pf0, pf1, pf2, pf3⟩ := cs4 BK5.out
  obtain ⟨qc0, qc1, qf0, qf1⟩ := cs2 BK6.out
  go_wp2_with fail
  clear pc0 pf0 pc1 pf1 pc2 pf2 pc3 pf3
  clear qc0 qf0 qc1 qf1
  refine (cell_look.calls k a0 a1 a2 a3 _ _ l0 _ _ l1 kind index r1 r2 r3 r4 r5 r6 r7 s1 s2 s3 s4 s5 s6 s7 e _ (Kd.C_below HR0.out HB.out) HC0.out (Kd.C_below HR1.out HB.out) HC1.out HD.out).mono ?_
  rintro en w4 ⟨u4, u5, v4, v5, rfl, ho4, ho5, ho6, ho7, hb⟩
  have RU4 := Lib.hid ho4
  have RU5 := Lib.hid ho5
  have RV4 := Lib.hid ho6
  have RV5 := Lib.hid ho7
  clear ho4 ho5 ho6 ho7 HD
  replace HB := Lib.hid (below_step HB.out hb)
  clear hb
  obtain ⟨X4, x4, rfl⟩ := Kd.R_slice RU4.out
  obtain ⟨X5, x5, rfl⟩ := Kd.R_slice RU5.out
  obtain ⟨Y4, y4, rfl⟩ := Kd.R_slice RV4.out
  obtain ⟨Y5, y5, rfl⟩ := Kd.R_slice RV5.out
  clear RU4 RU5 RV4 RV5
  go_upto_region 2 with (first | ((with_reducible refine gate_dst (N := 12) rfl ?_); refine box_event ?hg (N := 12) ?hd (cs := #[.int .u8 0, .int .i64 0, .int .i64 0, .int .i64 0, .slice none 0 0, .slice none 0 0, .bool false, .int .u8 0, .int .i64 0, .int .i64 0, .int .i64 0, .slice none 0 0, .slice none 0 0, .bool false]) (t := 62) ?hr ?_; (case hd => rfl); (case hg => rfl); (case hr => first | (go_simp; done) | (go_simp; rfl)); intro gb12 hg_ w5 bk_ hb_; have GE12 := Lib.hid (show w.heap.size ≤ gb12 by rw [hg_]; exact below_size HB.out); have BK12 := Lib.hid bk_; replace HB := Lib.hid (below_step HB.out hb_); clear hb_ hg_ bk_; obtain ⟨zc0, zc1, zc2, zc3, zc4, zc5, zc6, zc7, zc8, zc9, zc10, zc11, zc12, zc13, zf0, zf1, zf2, zf3, zf4, zf5, zf6, zf7, zf8, zf9, zf10, zf11, zf12, zf13⟩ := cs14 BK12.out))
  clear zc0 zf0 zc1 zf1 zc2 zf2 zc3 zf3 zc4 zf4 zc5 zf5 zc6 zf6 zc7 zf7 zc8 zf8 zc9 zf9 zc10 zf10 zc11 zf11 zc12 zf12 zc13 zf13
  obtain ⟨hq1_, hq2_, hs_⟩ := st14_0_14 HB.out GE12.out BK12.out (.int .u8 r1) (.int .i64 r2) (.int .i64 r3) (.int .i64 r4) (.slice X4 r5.length x4) (.slice X5 r6.length x5) (.bool r7) (.int .u8 s1) (.int .i64 s2) (.int .i64 s3) (.int .i64 s4) (.slice Y4 s5.length y4) (.slice Y5 s6.length y5) (.bool s7)
  generalize ((((((((((((((w5.setCell ⟨gb12, 0, none⟩ (.int .u8 r1)).setCell ⟨gb12, 1, none⟩ (.int .i64 r2)).setCell ⟨gb12, 2, none⟩ (.int .i64 r3)).setCell ⟨gb12, 3, none⟩ (.int .i64 r4)).setCell ⟨gb12, 4, none⟩ (.slice X4 r5.length x4)).setCell ⟨gb12, 5, none⟩ (.slice X5 r6.length x5)).setCell ⟨gb12, 6, none⟩ (.bool r7)).setCell ⟨gb12, 7, none⟩ (.int .u8 s1)).setCell ⟨gb12, 8, none⟩ (.int .i64 s2)).setCell ⟨gb12, 9, none⟩ (.int .i64 s3)).setCell ⟨gb12, 10, none⟩ (.int .i64 s4)).setCell ⟨gb12, 11, none⟩ (.slice Y4 s5.length y4)).setCell ⟨gb12, 12, none⟩ (.slice Y5 s6.length y5)).setCell ⟨gb12, 13, none⟩ (.bool s7)) = w6 at hs_ hq1_ hq2_ ⊢
  replace BK12 := Lib.hid hq1_
  replace HB := Lib.hid hq2_
  clear hs_ hq1_ hq2_
  by_cases hez : e = 0
  case neg =>
    have hd1 : (e != 0) = true := bne_iff_ne.mpr hez
    have h := H.out
    simp only [if_neg hez, Option.some.injEq, Prod.mk.injEq] at h
    obtain ⟨rfl, rfl⟩ := h
    clear H
    go_wp2_with fail
    go_ret2
    exact ⟨rfl, HB.out⟩
  subst hez
  have h := H.out
  simp only [if_true] at h
  replace H := Lib.hid h
  clear h
  by_cases hq0 : keep < 0
  case pos =>
    have hq0b : decide (keep < 0) = true := decide_eq_true hq0
    have h := H.out
    rw [if_pos (.inl hq0)] at h
    simp only [Option.some.injEq, Prod.mk.injEq] at h
    obtain ⟨rfl, rfl⟩ := h
    clear H
    go_wp2_with fail
    go_ret2
    exact ⟨rfl, HB.out⟩
  have hq0b : decide (keep < 0) = false := decide_eq_false hq0
  by_cases hq1 : 1073741824 < keep
  case pos =>
    have hq1b : decide (1073741824 < keep) = true := decide_eq_true hq1
    have hq1c : decide (keep > 1073741824) = true := decide_eq_true hq1
    have h := H.out
    rw [if_pos (.inr hq1)] at h
    simp only [Option.some.injEq, Prod.mk.injEq] at h
    obtain ⟨rfl, rfl⟩ := h
    clear H
    go_wp2_with fail
    go_ret2
    exact ⟨rfl, HB.out⟩
  have hq1b : decide (1073741824 < keep) = false := decide_eq_false hq1
  have hq1c : decide (keep > 1073741824) = false := decide_eq_false hq1
  have h := H.out
  rw [if_neg (by omega)] at h
  simp only [Option.some.injEq, Prod.mk.injEq] at h
  obtain ⟨hn, rfl⟩ := h
  replace H := Lib.hid hn
  replace H := Lib.hid hn
  clear hn
  obtain ⟨bc0, bc1, bc2, bc3, bc4, bc5, bc6, bc7, bc8, bc9, bc10, bc11, bc12, bc13, bf0, bf1, bf2, bf3, bf4, bf5, bf6, bf7, bf8, bf9, bf10, bf11, bf12, bf13⟩ := cs14 BK12.out
  go_wp2_with fail
  clear bc0 bf0 bc1 bf1 bc2 bf2 bc3 bf3 bc4 bf4 bc5 bf5 bc6 bf6 bc7 bf7 bc8 bf8 bc9 bf9 bc10 bf10 bc11 bf11 bc12 bf12 bc13 bf13
  clear hq0 hq0b hq1 hq1b hq1c
  refine (held_at.calls r1 r2 r3 r4 X4 X5 r5.length x4 r6.length x5 r7 s1 s2 s3 s4 Y4 Y5 s5.length y4 s6.length y5 s7 kind keep _).mono ?_
  rintro en w7 ⟨rfl, hb⟩
  replace BK12 := Lib.hid (blk_below BK12.out hb)
  replace HB := Lib.hid (below_step HB.out hb)
  clear hb
  have HA := Lib.hid (held_at.cases r1 r3 r7 s1 s3 s7 kind keep)
  generalize held_at.f r1 r3 r7 s1 s3 s7 kind keep = at_ at H HA ⊢
  by_cases hp : 0 < keep
  case neg =>
    have hpb : decide (0 < keep) = false := decide_eq_false hp
    have hpc : decide (keep > 0) = false := decide_eq_false hp
    replace hp := Lib.hid hp
    obtain ⟨bc0, bc1, bc2, bc3, bc4, bc5, bc6, bc7, bc8, bc9, bc10, bc11, bc12, bc13, bf0, bf1, bf2, bf3, bf4, bf5, bf6, bf7, bf8, bf9, bf10, bf11, bf12, bf13⟩ := cs14 BK12.out
    have hi0 := ix62_0 (.int .u8 r1) (.int .i64 r2) (.int .i64 r3) (.int .i64 r4) (.slice X4 r5.length x4) (.slice X5 r6.length x5) (.bool r7) (.int .u8 s1) (.int .i64 s2) (.int .i64 s3) (.int .i64 s4) (.slice Y4 s5.length y4) (.slice Y5 s6.length y5) (.bool s7)
    have hi1 := ix62_1 (.int .u8 r1) (.int .i64 r2) (.int .i64 r3) (.int .i64 r4) (.slice X4 r5.length x4) (.slice X5 r6.length x5) (.bool r7) (.int .u8 s1) (.int .i64 s2) (.int .i64 s3) (.int .i64 s4) (.slice Y4 s5.length y4) (.slice Y5 s6.length y5) (.bool s7)
    go_wp2_with fail
    clear bc0 bf0 bc1 bf1 bc2 bf2 bc3 bf3 bc4 bf4 bc5 bf5 bc6 bf6 bc7 bf7 bc8 bf8 bc9 bf9 bc10 bf10 bc11 bf11 bc12 bf12 bc13 bf13
    refine wp_loop_rounds 3 ?_
    rw [rounds_succ]
    go_upto_region 11 with fail
    go_upto_region 12 with (first | ((with_reducible refine gate_dst (N := 16) rfl ?_); refine box_event ?hg (N := 16) ?hd (cs := #[.int .u8 0, .int .i64 0, .int .i64 0, .int .i64 0, .slice none 0 0, .slice none 0 0, .bool false]) (t := 60) ?hr ?_; (case hd => rfl); (case hg => rfl); (case hr => first | (go_simp; done) | (go_simp; rfl)); intro gb160 hg_ wa0 bk_ hb_; have GE160 := Lib.hid (show w.heap.size ≤ gb160 by rw [hg_]; exact below_size HB.out); have NB12_160 := Lib.hid (show gb12 ≠ gb160 by rw [hg_]; exact Nat.ne_of_lt (blk_lt BK12.out)); have NB160_12 := Lib.hid NB12_160.out.symm; replace BK12 := Lib.hid (blk_below BK12.out hb_); have BK160 := Lib.hid bk_; replace HB := Lib.hid (below_step HB.out hb_); clear hb_ hg_ bk_; obtain ⟨yc0, yc1, yc2, yc3, yc4, yc5, yc6, yf0, yf1, yf2, yf3, yf4, yf5, yf6⟩ := cs7 BK160.out))
    clear yc0 yf0 yc1 yf1 yc2 yf2 yc3 yf3 yc4 yf4 yc5 yf5 yc6 yf6
    obtain ⟨hq1_, hq2_, hs_⟩ := st7_0_7 HB.out GE160.out BK160.out (.int .u8 r1) (.int .i64 r2) (.int .i64 r3) (.int .i64 r4) (.slice X4 r5.length x4) (.slice X5 r6.length x5) (.bool r7)
    generalize (((((((wa0.setCell ⟨gb160, 0, none⟩ (.int .u8 r1)).setCell ⟨gb160, 1, none⟩ (.int .i64 r2)).setCell ⟨gb160, 2, none⟩ (.int .i64 r3)).setCell ⟨gb160, 3, none⟩ (.int .i64 r4)).setCell ⟨gb160, 4, none⟩ (.slice X4 r5.length x4)).setCell ⟨gb160, 5, none⟩ (.slice X5 r6.length x5)).setCell ⟨gb160, 6, none⟩ (.bool r7)) = wb0 at hs_ hq1_ hq2_ ⊢
    replace BK12 := Lib.hid ((hs_ gb12 NB12_160.out).trans BK12.out)
    replace BK160 := Lib.hid hq1_
    replace HB := Lib.hid hq2_
    clear hs_ hq1_ hq2_
    cases r7 with
    | false =>
      obtain ⟨yc0, yc1, yc2, yc3, yc4, yc5, yc6, yf0, yf1, yf2, yf3, yf4, yf5, yf6⟩ := cs7 BK160.out
      have h := H.out
      unfold cell_Older.of at h
      rw [if_neg (fun z => by have a_ := hp.out; have b_ := z.1; omega), if_pos rfl] at h
      clear H
      subst h
      go_wp2_with fail
      go_ret2
      exact ⟨rfl, HB.out⟩
    | true =>
      obtain ⟨yc0, yc1, yc2, yc3, yc4, yc5, yc6, yf0, yf1, yf2, yf3, yf4, yf5, yf6⟩ := cs7 BK160.out
      go_wp2_with fail
      clear yc0 yf0 yc1 yf1 yc2 yf2 yc3 yf3 yc4 yf4 yc5 yf5 yc6 yf6
      rw [rounds_succ]
      go_upto_region 11 with fail
      go_upto_region 12 with (first | ((with_reducible refine gate_dst (N := 16) rfl ?_); refine box_event ?hg (N := 16) ?hd (cs := #[.int .u8 0, .int .i64 0, .int .i64 0, .int .i64 0, .slice none 0 0, .slice none 0 0, .bool false]) (t := 60) ?hr ?_; (case hd => rfl); (case hg => rfl); (case hr => first | (go_simp; done) | (go_simp; rfl)); intro gb161 hg_ wa1 bk_ hb_; have GE161 := Lib.hid (show w.heap.size ≤ gb161 by rw [hg_]; exact below_size HB.out); have NB12_161 := Lib.hid (show gb12 ≠ gb161 by rw [hg_]; exact Nat.ne_of_lt (blk_lt BK12.out)); have NB161_12 := Lib.hid NB12_161.out.symm; replace BK12 := Lib.hid (blk_below BK12.out hb_); have BK161 := Lib.hid bk_; replace HB := Lib.hid (below_step HB.out hb_); clear hb_ hg_ bk_; obtain ⟨yc0, yc1, yc2, yc3, yc4, yc5, yc6, yf0, yf1, yf2, yf3, yf4, yf5, yf6⟩ := cs7 BK161.out))
      clear yc0 yf0 yc1 yf1 yc2 yf2 yc3 yf3 yc4 yf4 yc5 yf5 yc6 yf6
      obtain ⟨hq1_, hq2_, hs_⟩ := st7_0_7 HB.out GE161.out BK161.out (.int .u8 s1) (.int .i64 s2) (.int .i64 s3) (.int .i64 s4) (.slice Y4 s5.length y4) (.slice Y5 s6.length y5) (.bool s7)
      generalize (((((((wa1.setCell ⟨gb161, 0, none⟩ (.int .u8 s1)).setCell ⟨gb161, 1, none⟩ (.int .i64 s2)).setCell ⟨gb161, 2, none⟩ (.int .i64 s3)).setCell ⟨gb161, 3, none⟩ (.int .i64 s4)).setCell ⟨gb161, 4, none⟩ (.slice Y4 s5.length y4)).setCell ⟨gb161, 5, none⟩ (.slice Y5 s6.length y5)).setCell ⟨gb161, 6, none⟩ (.bool s7)) = wb1 at hs_ hq1_ hq2_ ⊢
      replace BK12 := Lib.hid ((hs_ gb12 NB12_161.out).trans BK12.out)
      replace BK161 := Lib.hid hq1_
      replace HB := Lib.hid hq2_
      clear hs_ hq1_ hq2_
      cases s7 with
      | false =>
        obtain ⟨yc0, yc1, yc2, yc3, yc4, yc5, yc6, yf0, yf1, yf2, yf3, yf4, yf5, yf6⟩ := cs7 BK161.out
        have h := H.out
        unfold cell_Older.of at h
        rw [if_neg (fun z => by have a_ := hp.out; have b_ := z.1; omega), if_neg (by decide), if_pos rfl] at h
        clear H
        subst h
        go_wp2_with fail
        go_ret2
        exact ⟨rfl, HB.out⟩
      | true =>
        obtain ⟨yc0, yc1, yc2, yc3, yc4, yc5, yc6, yf0, yf1, yf2, yf3, yf4, yf5, yf6⟩ := cs7 BK161.out
        go_wp2_with fail
        clear yc0 yf0 yc1 yf1 yc2 yf2 yc3 yf3 yc4 yf4 yc5 yf5 yc6 yf6
        rw [rounds_succ]
        have hj0 := ia62_0' gb12
        have hj1 := ia62_1' gb12
        obtain ⟨bc0, bc1, bc2, bc3, bc4, bc5, bc6, bc7, bc8, bc9, bc10, bc11, bc12, bc13, bf0, bf1, bf2, bf3, bf4, bf5, bf6, bf7, bf8, bf9, bf10, bf11, bf12, bf13⟩ := cs14 BK12.out
        by_cases hl : s3 < r3
        case pos =>
          have hlb : decide (s3 < r3) = true := decide_eq_true hl
          have h := H.out
          unfold cell_Older.of at h
          rw [if_neg (fun z => by have a_ := hp.out; have b_ := z.1; omega), if_neg (by decide), if_neg (by decide), if_pos hl] at h
          clear H
          subst h
          go_wp2_with fail
          go_ret2
          exact ⟨rfl, HB.out⟩
        have hlb : decide (s3 < r3) = false := decide_eq_false hl
        have h := H.out
        unfold cell_Older.of at h
        rw [if_neg (fun z => by have a_ := hp.out; have b_ := z.1; omega), if_neg (by decide), if_neg (by decide), if_neg hl] at h
        clear H
        subst h
        go_wp2_with fail
        go_ret2
        exact ⟨rfl, HB.out⟩
  have hpb : decide (0 < keep) = true := decide_eq_true hp
  have hpc : decide (keep > 0) = true := decide_eq_true hp
  replace hp := Lib.hid hp
  rcases HA.out with ha | ha | ha
  · subst ha
    have h := H.out
    unfold cell_Older.of at h
    rw [if_pos ⟨(by have a_ := hp.out; omega), (by decide)⟩] at h
    clear H
    subst h
    go_wp2_with fail
    go_ret2
    exact ⟨rfl, HB.out⟩
  · subst ha
    have h := H.out
    unfold cell_Older.of at h
    rw [if_pos ⟨(by have a_ := hp.out; omega), (by decide)⟩] at h
    clear H
    subst h
    go_wp2_with fail
    go_ret2
    exact ⟨rfl, HB.out⟩
  · subst ha
    obtain ⟨bc0, bc1, bc2, bc3, bc4, bc5, bc6, bc7, bc8, bc9, bc10, bc11, bc12, bc13, bf0, bf1, bf2, bf3, bf4, bf5, bf6, bf7, bf8, bf9, bf10, bf11, bf12, bf13⟩ := cs14 BK12.out
    have hi0 := ix62_0 (.int .u8 r1) (.int .i64 r2) (.int .i64 r3) (.int .i64 r4) (.slice X4 r5.length x4) (.slice X5 r6.length x5) (.bool r7) (.int .u8 s1) (.int .i64 s2) (.int .i64 s3) (.int .i64 s4) (.slice Y4 s5.length y4) (.slice Y5 s6.length y5) (.bool s7)
    have hi1 := ix62_1 (.int .u8 r1) (.int .i64 r2) (.int .i64 r3) (.int .i64 r4) (.slice X4 r5.length x4) (.slice X5 r6.length x5) (.bool r7) (.int .u8 s1) (.int .i64 s2) (.int .i64 s3) (.int .i64 s4) (.slice Y4 s5.length y4) (.slice Y5 s6.length y5) (.bool s7)
    go_wp2_with fail
    clear bc0 bf0 bc1 bf1 bc2 bf2 bc3 bf3 bc4 bf4 bc5 bf5 bc6 bf6 bc7 bf7 bc8 bf8 bc9 bf9 bc10 bf10 bc11 bf11 bc12 bf12 bc13 bf13
    refine wp_loop_rounds 3 ?_
    rw [rounds_succ]
    go_upto_region 11 with fail
    go_upto_region 12 with (first | ((with_reducible refine gate_dst (N := 16) rfl ?_); refine box_event ?hg (N := 16) ?hd (cs := #[.int .u8 0, .int .i64 0, .int .i64 0, .int .i64 0, .slice none 0 0, .slice none 0 0, .bool false]) (t := 60) ?hr ?_; (case hd => rfl); (case hg => rfl); (case hr => first | (go_simp; done) | (go_simp; rfl)); intro gb160 hg_ wa0 bk_ hb_; have GE160 := Lib.hid (show w.heap.size ≤ gb160 by rw [hg_]; exact below_size HB.out); have NB12_160 := Lib.hid (show gb12 ≠ gb160 by rw [hg_]; exact Nat.ne_of_lt (blk_lt BK12.out)); have NB160_12 := Lib.hid NB12_160.out.symm; replace BK12 := Lib.hid (blk_below BK12.out hb_); have BK160 := Lib.hid bk_; replace HB := Lib.hid (below_step HB.out hb_); clear hb_ hg_ bk_; obtain ⟨yc0, yc1, yc2, yc3, yc4, yc5, yc6, yf0, yf1, yf2, yf3, yf4, yf5, yf6⟩ := cs7 BK160.out))
    clear yc0 yf0 yc1 yf1 yc2 yf2 yc3 yf3 yc4 yf4 yc5 yf5 yc6 yf6
    obtain ⟨hq1_, hq2_, hs_⟩ := st7_0_7 HB.out GE160.out BK160.out (.int .u8 r1) (.int .i64 r2) (.int .i64 r3) (.int .i64 r4) (.slice X4 r5.length x4) (.slice X5 r6.length x5) (.bool r7)
    generalize (((((((wa0.setCell ⟨gb160, 0, none⟩ (.int .u8 r1)).setCell ⟨gb160, 1, none⟩ (.int .i64 r2)).setCell ⟨gb160, 2, none⟩ (.int .i64 r3)).setCell ⟨gb160, 3, none⟩ (.int .i64 r4)).setCell ⟨gb160, 4, none⟩ (.slice X4 r5.length x4)).setCell ⟨gb160, 5, none⟩ (.slice X5 r6.length x5)).setCell ⟨gb160, 6, none⟩ (.bool r7)) = wb0 at hs_ hq1_ hq2_ ⊢
    replace BK12 := Lib.hid ((hs_ gb12 NB12_160.out).trans BK12.out)
    replace BK160 := Lib.hid hq1_
    replace HB := Lib.hid hq2_
    clear hs_ hq1_ hq2_
    cases r7 with
    | false =>
      obtain ⟨yc0, yc1, yc2, yc3, yc4, yc5, yc6, yf0, yf1, yf2, yf3, yf4, yf5, yf6⟩ := cs7 BK160.out
      have h := H.out
      unfold cell_Older.of at h
      rw [if_neg (fun z => by have b_ := z.2; omega), if_pos rfl] at h
      clear H
      subst h
      go_wp2_with fail
      go_ret2
      exact ⟨rfl, HB.out⟩
    | true =>
      obtain ⟨yc0, yc1, yc2, yc3, yc4, yc5, yc6, yf0, yf1, yf2, yf3, yf4, yf5, yf6⟩ := cs7 BK160.out
      go_wp2_with fail
      clear yc0 yf0 yc1 yf1 yc2 yf2 yc3 yf3 yc4 yf4 yc5 yf5 yc6 yf6
      rw [rounds_succ]
      go_upto_region 11 with fail
      go_upto_region 12 with (first | ((with_reducible refine gate_dst (N := 16) rfl ?_); refine box_event ?hg (N := 16) ?hd (cs := #[.int .u8 0, .int .i64 0, .int .i64 0, .int .i64 0, .slice none 0 0, .slice none 0 0, .bool false]) (t := 60) ?hr ?_; (case hd => rfl); (case hg => rfl); (case hr => first | (go_simp; done) | (go_simp; rfl)); intro gb161 hg_ wa1 bk_ hb_; have GE161 := Lib.hid (show w.heap.size ≤ gb161 by rw [hg_]; exact below_size HB.out); have NB12_161 := Lib.hid (show gb12 ≠ gb161 by rw [hg_]; exact Nat.ne_of_lt (blk_lt BK12.out)); have NB161_12 := Lib.hid NB12_161.out.symm; replace BK12 := Lib.hid (blk_below BK12.out hb_); have BK161 := Lib.hid bk_; replace HB := Lib.hid (below_step HB.out hb_); clear hb_ hg_ bk_; obtain ⟨yc0, yc1, yc2, yc3, yc4, yc5, yc6, yf0, yf1, yf2, yf3, yf4, yf5, yf6⟩ := cs7 BK161.out))
      clear yc0 yf0 yc1 yf1 yc2 yf2 yc3 yf3 yc4 yf4 yc5 yf5 yc6 yf6
      obtain ⟨hq1_, hq2_, hs_⟩ := st7_0_7 HB.out GE161.out BK161.out (.int .u8 s1) (.int .i64 s2) (.int .i64 s3) (.int .i64 s4) (.slice Y4 s5.length y4) (.slice Y5 s6.length y5) (.bool s7)
      generalize (((((((wa1.setCell ⟨gb161, 0, none⟩ (.int .u8 s1)).setCell ⟨gb161, 1, none⟩ (.int .i64 s2)).setCell ⟨gb161, 2, none⟩ (.int .i64 s3)).setCell ⟨gb161, 3, none⟩ (.int .i64 s4)).setCell ⟨gb161, 4, none⟩ (.slice Y4 s5.length y4)).setCell ⟨gb161, 5, none⟩ (.slice Y5 s6.length y5)).setCell ⟨gb161, 6, none⟩ (.bool s7)) = wb1 at hs_ hq1_ hq2_ ⊢
      replace BK12 := Lib.hid ((hs_ gb12 NB12_161.out).trans BK12.out)
      replace BK161 := Lib.hid hq1_
      replace HB := Lib.hid hq2_
      clear hs_ hq1_ hq2_
      cases s7 with
      | false =>
        obtain ⟨yc0, yc1, yc2, yc3, yc4, yc5, yc6, yf0, yf1, yf2, yf3, yf4, yf5, yf6⟩ := cs7 BK161.out
        have h := H.out
        unfold cell_Older.of at h
        rw [if_neg (fun z => by have b_ := z.2; omega), if_neg (by decide), if_pos rfl] at h
        clear H
        subst h
        go_wp2_with fail
        go_ret2
        exact ⟨rfl, HB.out⟩
      | true =>
        obtain ⟨yc0, yc1, yc2, yc3, yc4, yc5, yc6, yf0, yf1, yf2, yf3, yf4, yf5, yf6⟩ := cs7 BK161.out
        go_wp2_with fail
        clear yc0 yf0 yc1 yf1 yc2 yf2 yc3 yf3 yc4 yf4 yc5 yf5 yc6 yf6
        rw [rounds_succ]
        have hj0 := ia62_0' gb12
        have hj1 := ia62_1' gb12
        obtain ⟨bc0, bc1, bc2, bc3, bc4, bc5, bc6, bc7, bc8, bc9, bc10, bc11, bc12, bc13, bf0, bf1, bf2, bf3, bf4, bf5, bf6, bf7, bf8, bf9, bf10, bf11, bf12, bf13⟩ := cs14 BK12.out
        by_cases hl : s3 < r3
        case pos =>
          have hlb : decide (s3 < r3) = true := decide_eq_true hl
          have h := H.out
          unfold cell_Older.of at h
          rw [if_neg (fun z => by have b_ := z.2; omega), if_neg (by decide), if_neg (by decide), if_pos hl] at h
          clear H
          subst h
          go_wp2_with fail
          go_ret2
          exact ⟨rfl, HB.out⟩
        have hlb : decide (s3 < r3) = false := decide_eq_false hl
        have h := H.out
        unfold cell_Older.of at h
        rw [if_neg (fun z => by have b_ := z.2; omega), if_neg (by decide), if_neg (by decide), if_neg hl] at h
        clear H
        subst h
        go_wp2_with fail
        go_ret2
        exact ⟨rfl, HB.out⟩
end Go.Proofs.Ytihefjdabjmmaaa.PD
