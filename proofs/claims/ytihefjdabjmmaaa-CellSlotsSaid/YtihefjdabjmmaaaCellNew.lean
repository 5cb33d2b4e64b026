/- What cell.Newest does. No condition. -/
import Derived.Test.YtihefjdabjmmaaaCellOld
namespace Go.Proofs.Ytihefjdabjmmaaa.PD
open Go Go.RowKit Go.Proofs.YtihefjdabjmmaaaW.PrintWords Go.Proofs.YtihefjdabjmmaaaW.PrintLast Go.Proofs.YtihefjdabjmmaaaW.PrintMore
set_option linter.unusedVariables false
theorem st6_0_6 {w W : World} {g : Nat} {c0 c1 c2 c3 c4 c5 : Value} {t : TypeId} (hb : Below w.heap.size w W) (hg : w.heap.size ≤ g) (h : W.heap[g]? = some (.cells #[c0, c1, c2, c3, c4, c5] t (0, 0))) (v0 v1 v2 v3 v4 v5 : Value) :
    ((((((W.setCell ⟨g, 0, none⟩ v0).setCell ⟨g, 1, none⟩ v1).setCell ⟨g, 2, none⟩ v2).setCell ⟨g, 3, none⟩ v3).setCell ⟨g, 4, none⟩ v4).setCell ⟨g, 5, none⟩ v5).heap[g]? = some (.cells #[v0, v1, v2, v3, v4, v5] t (0, 0)) ∧ Below w.heap.size w ((((((W.setCell ⟨g, 0, none⟩ v0).setCell ⟨g, 1, none⟩ v1).setCell ⟨g, 2, none⟩ v2).setCell ⟨g, 3, none⟩ v3).setCell ⟨g, 4, none⟩ v4).setCell ⟨g, 5, none⟩ v5) ∧ ∀ k, k ≠ g → ((((((W.setCell ⟨g, 0, none⟩ v0).setCell ⟨g, 1, none⟩ v1).setCell ⟨g, 2, none⟩ v2).setCell ⟨g, 3, none⟩ v3).setCell ⟨g, 4, none⟩ v4).setCell ⟨g, 5, none⟩ v5).heap[k]? = W.heap[k]? :=
  ⟨(blk_put (cs' := #[v0, v1, v2, v3, v4, v5]) (blk_put (cs' := #[v0, v1, v2, v3, v4, c5]) (blk_put (cs' := #[v0, v1, v2, v3, c4, c5]) (blk_put (cs' := #[v0, v1, v2, c3, c4, c5]) (blk_put (cs' := #[v0, v1, c2, c3, c4, c5]) (blk_put (cs' := #[v0, c1, c2, c3, c4, c5]) h 0 v0 rfl) 1 v1 rfl) 2 v2 rfl) 3 v3 rfl) 4 v4 rfl) 5 v5 rfl), (below_set (g := g) (j := 5) (v := v5) (below_set (g := g) (j := 4) (v := v4) (below_set (g := g) (j := 3) (v := v3) (below_set (g := g) (j := 2) (v := v2) (below_set (g := g) (j := 1) (v := v1) (below_set (g := g) (j := 0) (v := v0) hb hg) hg) hg) hg) hg) hg), fun k hk => ((Below.heap_setCell _ ⟨g, 5, none⟩ v5 k hk).trans ((Below.heap_setCell _ ⟨g, 4, none⟩ v4 k hk).trans ((Below.heap_setCell _ ⟨g, 3, none⟩ v3 k hk).trans ((Below.heap_setCell _ ⟨g, 2, none⟩ v2 k hk).trans ((Below.heap_setCell _ ⟨g, 1, none⟩ v1 k hk).trans (Below.heap_setCell _ ⟨g, 0, none⟩ v0 k hk))))))⟩

theorem results_tctt {P : Program} {fn : Func} {p q u v : Tmp} {ty : TypeId} (h : fn.results = #[.tmp q, .cell p ty, .tmp u, .tmp v]) (tmps : Array Value) (w : World) (g : Nat) (t : TypeId) (cs : Array Value) (fr : Nat × Nat) (d : TypeDesc)
    (hp : tmps.getD p undef = .pointer (some ⟨g, 0, none⟩)) (hg : w.heap[g]? = some (.cells cs t fr))
    (hu : P.underlying ty = some d) (hd : (match d with | .struct _ | .array _ _ => true | _ => false) = true) (hi : (P.info? ty).map (·.size) = some cs.size) :
    (results fn tmps).run P w = .ok (.tuple #[tmps.getD q undef, .agg cs, tmps.getD u undef, tmps.getD v undef]) w := by
  have hp' : tmps[p]?.getD undef = .pointer (some ⟨g, 0, none⟩) := by simpa using hp
  simp [results, h, hp', asAddr, run_loadVar_row w g t ty cs fr d hg hu hd hi]
theorem drew_heap (W : World) (k : Nat) : W.drew.heap[k]? = W.heap[k]? := rfl
abbrev Found := Int × Int × Int × Int × Int × List Int × List Int × Bool × Int
/-- the newest of what is held -/
def cell_Newest.of (r1 r2 r3 r4 : Int) (r5 r6 : List Int) (r7 : Bool) (s1 s2 s3 s4 : Int) (s5 s6 : List Int) (s7 : Bool) (kind : Int) : Found :=
  if r7 = true ∧ r1 = kind ∧ 0 < r3 then
    (if s7 = true ∧ s1 = kind ∧ r3 < s3 then (1, s1, s2, s3, s4, s5, s6, true, 0) else (0, r1, r2, r3, r4, r5, r6, true, 0))
  else (if s7 = true ∧ s1 = kind ∧ 0 < s3 then (1, s1, s2, s3, s4, s5, s6, true, 0) else (0, 0, 0, 0, 0, [], [], false, 0))
def cell_Newest.f (k : Nat) (a0 a1 a2 a3 : Int) (l0 l1 : List Int) (kind index : Int) : Option Found :=
  (cell_look.f k a0 a1 a2 a3 l0 l1 kind index).bind fun h => match h with
  | (r1, r2, r3, r4, r5, r6, r7, s1, s2, s3, s4, s5, s6, s7, e) => if e = 0 then some (cell_Newest.of r1 r2 r3 r4 r5 r6 r7 s1 s2 s3 s4 s5 s6 s7 kind) else some (0, 0, 0, 0, 0, [], [], false, e)
set_option maxHeartbeats 4000000 in
set_option maxRecDepth 100000 in
theorem cell_Newest.calls (k : Nat) (a0 a1 a2 a3 : Int) (A0 : Option Addr) (c0 : Nat) (l0 : List Int) (A1 : Option Addr) (c1 : Nat) (l1 : List Int) (kind index : Int) (n t1 t2 t3 t4 : Int) (t5 t6 : List Int) (t7 : Bool) (te : Int) (w : World)
    (hr0 : Kd.C (Kd.int .u8) w A0 l0.length l0) (hc0 : l0.length ≤ c0) (hr1 : Kd.C (Kd.int .u8) w A1 l1.length l1) (hc1 : l1.length ≤ c1)
    (h : cell_Newest.f k a0 a1 a2 a3 l0 l1 kind index = some (n, t1, t2, t3, t4, t5, t6, t7, te)) :
    Calls Try.prog 24 #[.agg #[.int .i64 a0, .int .i64 a1, .int .i64 a2, .int .i64 a3], .agg #[.slice A0 l0.length c0, .slice A1 l1.length c1], .int .u8 kind, .int .i64 index] w fun en w' => ∃ u4 u5 : Value,
      en = .returned (.tuple #[.int .i64 n, .agg #[.int .u8 t1, .int .i64 t2, .int .i64 t3, .int .i64 t4, u4, u5], .bool t7, .int .i64 te]) ∧
      Kd.R (Kd.int .i64) 3 w' w.heap.size (fun _ => True) u4 t5 ∧ Kd.R (Kd.int .u8) 5 w' w.heap.size (fun _ => True) u5 t6 ∧ Below w.heap.size w w' := by
  have hu23 := Try.underlying23
  have hu27 := Try.underlying27
  have hu42 := Try.underlying42
  have hu60 := Try.underlying60
  have hu62 := Try.underlying62
  have HR0 := Lib.hid hr0
  have HR1 := Lib.hid hr1
  have HC0 := Lib.hid hc0
  have HC1 := Lib.hid hc1
  have HB := Lib.hid (Below.refl w.heap.size w)
  clear hr0 hr1 hc0 hc1
  unfold cell_Newest.f at h
  obtain ⟨⟨r1, r2, r3, r4, r5, r6, r7, s1, s2, s3, s4, s5, s6, s7, e⟩, hd, h⟩ := Option.bind_eq_some_iff.mp h
  have HD := Lib.hid hd
  have H := Lib.hid h
  clear hd h
  go_enter Try.func24, Try.ntmps24
  go_upto_region 1 with (first | ((with_reducible refine gate_dst (N := 4) rfl ?_); refine box_event ?hg (N := 4) ?hd (cs := #[.int .i64 a0, .int .i64 a1, .int .i64 a2, .int .i64 a3]) (t := 23) ?hr ?_; (case hd => rfl); (case hg => rfl); (case hr => first | (go_simp; done) | (go_simp; rfl)); intro gb4 hg_ w1 bk_ hb_; have GE4 := Lib.hid (show w.heap.size ≤ gb4 by rw [hg_]; exact below_size HB.out); have BK4 := Lib.hid bk_; replace HB := Lib.hid (below_step HB.out hb_); clear hb_ hg_ bk_) | ((with_reducible refine gate_dst (N := 5) rfl ?_); refine box_event ?hg (N := 5) ?hd (cs := #[.slice A0 l0.length c0, .slice A1 l1.length c1]) (t := 42) ?hr ?_; (case hd => rfl); (case hg => rfl); (case hr => first | (go_simp; done) | (go_simp; rfl)); intro gb5 hg_ w2 bk_ hb_; have GE5 := Lib.hid (show w.heap.size ≤ gb5 by rw [hg_]; exact below_size HB.out); have NB4_5 := Lib.hid (show gb4 ≠ gb5 by rw [hg_]; exact Nat.ne_of_lt (blk_lt BK4.out)); have NB5_4 := Lib.hid NB4_5.out.symm; replace BK4 := Lib.hid (blk_below BK4.out hb_); have BK5 := Lib.hid bk_; replace HB := Lib.hid (below_step HB.out hb_); clear hb_ hg_ bk_) | ((with_reducible refine gate_dst (N := 9) rfl ?_); refine box_event ?hg (N := 9) ?hd (cs := #[.int .u8 0, .int .i64 0, .int .i64 0, .int .i64 0, .slice none 0 0, .slice none 0 0]) (t := 27) ?hr ?_; (case hd => rfl); (case hg => rfl); (case hr => first | (go_simp; done) | (go_simp; rfl)); intro gb9 hg_ w3 bk_ hb_; have GE9 := Lib.hid (show w.heap.size ≤ gb9 by rw [hg_]; exact below_size HB.out); have NB4_9 := Lib.hid (show gb4 ≠ gb9 by rw [hg_]; exact Nat.ne_of_lt (blk_lt BK4.out)); have NB9_4 := Lib.hid NB4_9.out.symm; replace BK4 := Lib.hid (blk_below BK4.out hb_); have NB5_9 := Lib.hid (show gb5 ≠ gb9 by rw [hg_]; exact Nat.ne_of_lt (blk_lt BK5.out)); have NB9_5 := Lib.hid NB5_9.out.symm; replace BK5 := Lib.hid (blk_below BK5.out hb_); have BK9 := Lib.hid bk_; replace HB := Lib.hid (below_step HB.out hb_); clear hb_ hg_ bk_))
  obtain ⟨pc0, pc1, pc2, pc3, pf0, pf1, pf2, pf3⟩ := cs4 BK4.out
  obtain ⟨qc0, qc1, qf0, qf1⟩ := cs2 BK5.out
  go_wp2_with fail
  clear pc0 pf0 pc1 pf1 pc2 pf2 pc3 pf3
  clear qc0 qf0 qc1 qf1
  refine (cell_look.calls k a0 a1 a2 a3 _ _ l0 _ _ l1 kind index r1 r2 r3 r4 r5 r6 r7 s1 s2 s3 s4 s5 s6 s7 e _ (Kd.C_below HR0.out HB.out) HC0.out (Kd.C_below HR1.out HB.out) HC1.out HD.out).mono ?_
  rintro en w4 ⟨u4, u5, v4, v5, rfl, ho4, ho5, ho6, ho7, hb⟩
  have RU4 := Lib.hid (Kd.R_lower ho4 (below_size HB.out))
  have RU5 := Lib.hid (Kd.R_lower ho5 (below_size HB.out))
  have RV4 := Lib.hid (Kd.R_lower ho6 (below_size HB.out))
  have RV5 := Lib.hid (Kd.R_lower ho7 (below_size HB.out))
  clear ho4 ho5 ho6 ho7 HD
  replace BK9 := Lib.hid (blk_below BK9.out hb)
  replace HB := Lib.hid (below_step HB.out hb)
  clear hb
  obtain ⟨X4, x4, rfl⟩ := Kd.R_slice RU4.out
  obtain ⟨X5, x5, rfl⟩ := Kd.R_slice RU5.out
  obtain ⟨Y4, y4, rfl⟩ := Kd.R_slice RV4.out
  obtain ⟨Y5, y5, rfl⟩ := Kd.R_slice RV5.out
  go_upto_region 2 with (first | ((with_reducible refine gate_dst (N := 12) rfl ?_); refine box_event ?hg (N := 12) ?hd (cs := #[.int .u8 0, .int .i64 0, .int .i64 0, .int .i64 0, .slice none 0 0, .slice none 0 0, .bool false, .int .u8 0, .int .i64 0, .int .i64 0, .int .i64 0, .slice none 0 0, .slice none 0 0, .bool false]) (t := 62) ?hr ?_; (case hd => rfl); (case hg => rfl); (case hr => first | (go_simp; done) | (go_simp; rfl)); intro gb12 hg_ w5 bk_ hb_; have GE12 := Lib.hid (show w.heap.size ≤ gb12 by rw [hg_]; exact below_size HB.out); have NB9_12 := Lib.hid (show gb9 ≠ gb12 by rw [hg_]; exact Nat.ne_of_lt (blk_lt BK9.out)); have NB12_9 := Lib.hid NB9_12.out.symm; replace BK9 := Lib.hid (blk_below BK9.out hb_); have BK12 := Lib.hid bk_; replace RU4 := Lib.hid (Kd.R_below RU4.out hb_); replace RU5 := Lib.hid (Kd.R_below RU5.out hb_); replace RV4 := Lib.hid (Kd.R_below RV4.out hb_); replace RV5 := Lib.hid (Kd.R_below RV5.out hb_); replace HB := Lib.hid (below_step HB.out hb_); clear hb_ hg_ bk_; obtain ⟨zc0, zc1, zc2, zc3, zc4, zc5, zc6, zc7, zc8, zc9, zc10, zc11, zc12, zc13, zf0, zf1, zf2, zf3, zf4, zf5, zf6, zf7, zf8, zf9, zf10, zf11, zf12, zf13⟩ := cs14 BK12.out))
  clear zc0 zf0 zc1 zf1 zc2 zf2 zc3 zf3 zc4 zf4 zc5 zf5 zc6 zf6 zc7 zf7 zc8 zf8 zc9 zf9 zc10 zf10 zc11 zf11 zc12 zf12 zc13 zf13
  obtain ⟨hq1_, hq2_, hs_⟩ := st14_0_14 HB.out GE12.out BK12.out (.int .u8 r1) (.int .i64 r2) (.int .i64 r3) (.int .i64 r4) (.slice X4 r5.length x4) (.slice X5 r6.length x5) (.bool r7) (.int .u8 s1) (.int .i64 s2) (.int .i64 s3) (.int .i64 s4) (.slice Y4 s5.length y4) (.slice Y5 s6.length y5) (.bool s7)
  generalize ((((((((((((((w5.setCell ⟨gb12, 0, none⟩ (.int .u8 r1)).setCell ⟨gb12, 1, none⟩ (.int .i64 r2)).setCell ⟨gb12, 2, none⟩ (.int .i64 r3)).setCell ⟨gb12, 3, none⟩ (.int .i64 r4)).setCell ⟨gb12, 4, none⟩ (.slice X4 r5.length x4)).setCell ⟨gb12, 5, none⟩ (.slice X5 r6.length x5)).setCell ⟨gb12, 6, none⟩ (.bool r7)).setCell ⟨gb12, 7, none⟩ (.int .u8 s1)).setCell ⟨gb12, 8, none⟩ (.int .i64 s2)).setCell ⟨gb12, 9, none⟩ (.int .i64 s3)).setCell ⟨gb12, 10, none⟩ (.int .i64 s4)).setCell ⟨gb12, 11, none⟩ (.slice Y4 s5.length y4)).setCell ⟨gb12, 12, none⟩ (.slice Y5 s6.length y5)).setCell ⟨gb12, 13, none⟩ (.bool s7)) = w6 at hs_ hq1_ hq2_ ⊢
  replace RU4 := Lib.hid (Kd.R_mono (Kd.R_step (Kd.R_types RU4.out BK12.out (by decide)) (fun k hk _ => hs_ k hk.2)) (ok' := fun _ => True) (fun _ _ => trivial))
  replace RU5 := Lib.hid (Kd.R_mono (Kd.R_step (Kd.R_types RU5.out BK12.out (by decide)) (fun k hk _ => hs_ k hk.2)) (ok' := fun _ => True) (fun _ _ => trivial))
  replace RV4 := Lib.hid (Kd.R_mono (Kd.R_step (Kd.R_types RV4.out BK12.out (by decide)) (fun k hk _ => hs_ k hk.2)) (ok' := fun _ => True) (fun _ _ => trivial))
  replace RV5 := Lib.hid (Kd.R_mono (Kd.R_step (Kd.R_types RV5.out BK12.out (by decide)) (fun k hk _ => hs_ k hk.2)) (ok' := fun _ => True) (fun _ _ => trivial))
  replace BK9 := Lib.hid ((hs_ gb9 NB9_12.out).trans BK9.out)
  replace BK12 := Lib.hid hq1_
  replace HB := Lib.hid hq2_
  clear hs_ hq1_ hq2_
  by_cases hez : e = 0
  case neg =>
    have h := H.out
    simp only [if_neg hez, Option.some.injEq, Prod.mk.injEq] at h
    obtain ⟨rfl, rfl, rfl, rfl, rfl, rfl, rfl, rfl, rfl⟩ := h
    have hd1 : (e != 0) = true := bne_iff_ne.mpr hez
    clear H
    obtain ⟨zc0, zc1, zc2, zc3, zc4, zc5, zf0, zf1, zf2, zf3, zf4, zf5⟩ := cs6 BK9.out
    go_wp2_with fail
    clear zc0 zf0 zc1 zf1 zc2 zf2 zc3 zf3 zc4 zf4 zc5 zf5
    obtain ⟨hq1_, hq2_, hs_⟩ := st6_0_6 HB.out GE9.out BK9.out (.int .u8 0) (.int .i64 0) (.int .i64 0) (.int .i64 0) (.slice none 0 0) (.slice none 0 0)
    generalize ((((((w6.setCell ⟨gb9, 0, none⟩ (.int .u8 0)).setCell ⟨gb9, 1, none⟩ (.int .i64 0)).setCell ⟨gb9, 2, none⟩ (.int .i64 0)).setCell ⟨gb9, 3, none⟩ (.int .i64 0)).setCell ⟨gb9, 4, none⟩ (.slice none 0 0)).setCell ⟨gb9, 5, none⟩ (.slice none 0 0)) = wz at hs_ hq1_ hq2_ ⊢
    replace BK9 := Lib.hid hq1_
    replace HB := Lib.hid hq2_
    clear hs_ hq1_ hq2_
    refine bodyPost_ret (results_tctt rfl _ _ gb9 27 #[.int .u8 0, .int .i64 0, .int .i64 0, .int .i64 0, .slice none 0 0, .slice none 0 0] (0, 0) _ rfl BK9.out Try.underlying27 rfl (by kernel_rfl)) rfl ?_
    exact ⟨_, _, rfl, Kd.R_nil _ _ _ _ _, Kd.R_nil _ _ _ _ _, HB.out⟩
  subst hez
  have h := H.out
  simp only [if_true, Option.some.injEq] at h
  replace H := Lib.hid h
  clear h
  have hi0 := ix62_0 (.int .u8 r1) (.int .i64 r2) (.int .i64 r3) (.int .i64 r4) (.slice X4 r5.length x4) (.slice X5 r6.length x5) (.bool r7) (.int .u8 s1) (.int .i64 s2) (.int .i64 s3) (.int .i64 s4) (.slice Y4 s5.length y4) (.slice Y5 s6.length y5) (.bool s7)
  have hi1 := ix62_1 (.int .u8 r1) (.int .i64 r2) (.int .i64 r3) (.int .i64 r4) (.slice X4 r5.length x4) (.slice X5 r6.length x5) (.bool r7) (.int .u8 s1) (.int .i64 s2) (.int .i64 s3) (.int .i64 s4) (.slice Y4 s5.length y4) (.slice Y5 s6.length y5) (.bool s7)
  obtain ⟨bc0, bc1, bc2, bc3, bc4, bc5, bc6, bc7, bc8, bc9, bc10, bc11, bc12, bc13, bf0, bf1, bf2, bf3, bf4, bf5, bf6, bf7, bf8, bf9, bf10, bf11, bf12, bf13⟩ := cs14 BK12.out
  go_wp2_with fail
  clear bc0 bf0 bc1 bf1 bc2 bf2 bc3 bf3 bc4 bf4 bc5 bf5 bc6 bf6 bc7 bf7 bc8 bf8 bc9 bf9 bc10 bf10 bc11 bf11 bc12 bf12 bc13 bf13
  refine wp_loop_rounds 3 ?_
  rw [rounds_succ]
  go_upto_region 6 with fail
  go_upto_region 7 with (first | ((with_reducible refine gate_dst (N := 14) rfl ?_); refine box_event ?hg (N := 14) ?hd (cs := #[.int .u8 0, .int .i64 0, .int .i64 0, .int .i64 0, .slice none 0 0, .slice none 0 0, .bool false]) (t := 60) ?hr ?_; (case hd => rfl); (case hg => rfl); (case hr => first | (go_simp; done) | (go_simp; rfl)); intro gb140 hg_ wa0 bk_ hb_; have GE140 := Lib.hid (show w.heap.size ≤ gb140 by rw [hg_]; exact below_size HB.out); have NB9_140 := Lib.hid (show gb9 ≠ gb140 by rw [hg_]; exact Nat.ne_of_lt (blk_lt BK9.out)); have NB140_9 := Lib.hid NB9_140.out.symm; replace BK9 := Lib.hid (blk_below BK9.out hb_); have NB12_140 := Lib.hid (show gb12 ≠ gb140 by rw [hg_]; exact Nat.ne_of_lt (blk_lt BK12.out)); have NB140_12 := Lib.hid NB12_140.out.symm; replace BK12 := Lib.hid (blk_below BK12.out hb_); have BK140 := Lib.hid bk_; replace RU4 := Lib.hid (Kd.R_below RU4.out hb_); replace RU5 := Lib.hid (Kd.R_below RU5.out hb_); replace RV4 := Lib.hid (Kd.R_below RV4.out hb_); replace RV5 := Lib.hid (Kd.R_below RV5.out hb_); replace HB := Lib.hid (below_step HB.out hb_); clear hb_ hg_ bk_; obtain ⟨yc0, yc1, yc2, yc3, yc4, yc5, yc6, yf0, yf1, yf2, yf3, yf4, yf5, yf6⟩ := cs7 BK140.out))
  clear yc0 yf0 yc1 yf1 yc2 yf2 yc3 yf3 yc4 yf4 yc5 yf5 yc6 yf6
  obtain ⟨hq1_, hq2_, hs_⟩ := st7_0_7 HB.out GE140.out BK140.out (.int .u8 r1) (.int .i64 r2) (.int .i64 r3) (.int .i64 r4) (.slice X4 r5.length x4) (.slice X5 r6.length x5) (.bool r7)
  generalize (((((((wa0.setCell ⟨gb140, 0, none⟩ (.int .u8 r1)).setCell ⟨gb140, 1, none⟩ (.int .i64 r2)).setCell ⟨gb140, 2, none⟩ (.int .i64 r3)).setCell ⟨gb140, 3, none⟩ (.int .i64 r4)).setCell ⟨gb140, 4, none⟩ (.slice X4 r5.length x4)).setCell ⟨gb140, 5, none⟩ (.slice X5 r6.length x5)).setCell ⟨gb140, 6, none⟩ (.bool r7)) = wb0 at hs_ hq1_ hq2_ ⊢
  replace RU4 := Lib.hid (Kd.R_mono (Kd.R_step (Kd.R_types RU4.out BK140.out (by decide)) (fun k hk _ => hs_ k hk.2)) (ok' := fun _ => True) (fun _ _ => trivial))
  replace RU5 := Lib.hid (Kd.R_mono (Kd.R_step (Kd.R_types RU5.out BK140.out (by decide)) (fun k hk _ => hs_ k hk.2)) (ok' := fun _ => True) (fun _ _ => trivial))
  replace RV4 := Lib.hid (Kd.R_mono (Kd.R_step (Kd.R_types RV4.out BK140.out (by decide)) (fun k hk _ => hs_ k hk.2)) (ok' := fun _ => True) (fun _ _ => trivial))
  replace RV5 := Lib.hid (Kd.R_mono (Kd.R_step (Kd.R_types RV5.out BK140.out (by decide)) (fun k hk _ => hs_ k hk.2)) (ok' := fun _ => True) (fun _ _ => trivial))
  replace BK9 := Lib.hid ((hs_ gb9 NB9_140.out).trans BK9.out)
  replace BK12 := Lib.hid ((hs_ gb12 NB12_140.out).trans BK12.out)
  replace BK140 := Lib.hid hq1_
  replace HB := Lib.hid hq2_
  clear hs_ hq1_ hq2_
  obtain ⟨yc0, yc1, yc2, yc3, yc4, yc5, yc6, yf0, yf1, yf2, yf3, yf4, yf5, yf6⟩ := cs7 BK140.out
  obtain ⟨zc0, zc1, zc2, zc3, zc4, zc5, zf0, zf1, zf2, zf3, zf4, zf5⟩ := cs6 BK9.out
  by_cases hf0 : r7 = true
  case neg =>
    replace hf0 := Bool.eq_false_iff.mpr hf0
    subst hf0
    go_wp2_with fail
    clear yc0 yf0 yc1 yf1 yc2 yf2 yc3 yf3 yc4 yf4 yc5 yf5 yc6 yf6
    clear zc0 zf0 zc1 zf1 zc2 zf2 zc3 zf3 zc4 zf4 zc5 zf5
    rw [rounds_succ]
    go_upto_region 6 with fail
    go_upto_region 7 with (first | ((with_reducible refine gate_dst (N := 14) rfl ?_); refine box_event ?hg (N := 14) ?hd (cs := #[.int .u8 0, .int .i64 0, .int .i64 0, .int .i64 0, .slice none 0 0, .slice none 0 0, .bool false]) (t := 60) ?hr ?_; (case hd => rfl); (case hg => rfl); (case hr => first | (go_simp; done) | (go_simp; rfl)); intro gb141 hg_ wa1 bk_ hb_; have GE141 := Lib.hid (show w.heap.size ≤ gb141 by rw [hg_]; exact below_size HB.out); have NB9_141 := Lib.hid (show gb9 ≠ gb141 by rw [hg_]; exact Nat.ne_of_lt (blk_lt BK9.out)); have NB141_9 := Lib.hid NB9_141.out.symm; replace BK9 := Lib.hid (blk_below BK9.out hb_); have NB12_141 := Lib.hid (show gb12 ≠ gb141 by rw [hg_]; exact Nat.ne_of_lt (blk_lt BK12.out)); have NB141_12 := Lib.hid NB12_141.out.symm; replace BK12 := Lib.hid (blk_below BK12.out hb_); have BK141 := Lib.hid bk_; replace RU4 := Lib.hid (Kd.R_below RU4.out hb_); replace RU5 := Lib.hid (Kd.R_below RU5.out hb_); replace RV4 := Lib.hid (Kd.R_below RV4.out hb_); replace RV5 := Lib.hid (Kd.R_below RV5.out hb_); replace HB := Lib.hid (below_step HB.out hb_); clear hb_ hg_ bk_; obtain ⟨yc0, yc1, yc2, yc3, yc4, yc5, yc6, yf0, yf1, yf2, yf3, yf4, yf5, yf6⟩ := cs7 BK141.out))
    clear yc0 yf0 yc1 yf1 yc2 yf2 yc3 yf3 yc4 yf4 yc5 yf5 yc6 yf6
    obtain ⟨hq1_, hq2_, hs_⟩ := st7_0_7 HB.out GE141.out BK141.out (.int .u8 s1) (.int .i64 s2) (.int .i64 s3) (.int .i64 s4) (.slice Y4 s5.length y4) (.slice Y5 s6.length y5) (.bool s7)
    generalize (((((((wa1.setCell ⟨gb141, 0, none⟩ (.int .u8 s1)).setCell ⟨gb141, 1, none⟩ (.int .i64 s2)).setCell ⟨gb141, 2, none⟩ (.int .i64 s3)).setCell ⟨gb141, 3, none⟩ (.int .i64 s4)).setCell ⟨gb141, 4, none⟩ (.slice Y4 s5.length y4)).setCell ⟨gb141, 5, none⟩ (.slice Y5 s6.length y5)).setCell ⟨gb141, 6, none⟩ (.bool s7)) = wb1 at hs_ hq1_ hq2_ ⊢
    replace RU4 := Lib.hid (Kd.R_mono (Kd.R_step (Kd.R_types RU4.out BK141.out (by decide)) (fun k hk _ => hs_ k hk.2)) (ok' := fun _ => True) (fun _ _ => trivial))
    replace RU5 := Lib.hid (Kd.R_mono (Kd.R_step (Kd.R_types RU5.out BK141.out (by decide)) (fun k hk _ => hs_ k hk.2)) (ok' := fun _ => True) (fun _ _ => trivial))
    replace RV4 := Lib.hid (Kd.R_mono (Kd.R_step (Kd.R_types RV4.out BK141.out (by decide)) (fun k hk _ => hs_ k hk.2)) (ok' := fun _ => True) (fun _ _ => trivial))
    replace RV5 := Lib.hid (Kd.R_mono (Kd.R_step (Kd.R_types RV5.out BK141.out (by decide)) (fun k hk _ => hs_ k hk.2)) (ok' := fun _ => True) (fun _ _ => trivial))
    replace BK9 := Lib.hid ((hs_ gb9 NB9_141.out).trans BK9.out)
    replace BK12 := Lib.hid ((hs_ gb12 NB12_141.out).trans BK12.out)
    replace BK141 := Lib.hid hq1_
    replace HB := Lib.hid hq2_
    clear hs_ hq1_ hq2_
    obtain ⟨yc0, yc1, yc2, yc3, yc4, yc5, yc6, yf0, yf1, yf2, yf3, yf4, yf5, yf6⟩ := cs7 BK141.out
    obtain ⟨zc0, zc1, zc2, zc3, zc4, zc5, zf0, zf1, zf2, zf3, zf4, zf5⟩ := cs6 BK9.out
    by_cases hf1 : s7 = true
    case neg =>
      replace hf1 := Bool.eq_false_iff.mpr hf1
      subst hf1
      go_wp2_with fail
      clear yc0 yf0 yc1 yf1 yc2 yf2 yc3 yf3 yc4 yf4 yc5 yf5 yc6 yf6
      clear zc0 zf0 zc1 zf1 zc2 zf2 zc3 zf3 zc4 zf4 zc5 zf5
      rw [rounds_succ]
      obtain ⟨zc0, zc1, zc2, zc3, zc4, zc5, zf0, zf1, zf2, zf3, zf4, zf5⟩ := cs6 BK9.out
      go_wp2_with fail
      go_region
      go_wp2_with fail
      clear zc0 zf0 zc1 zf1 zc2 zf2 zc3 zf3 zc4 zf4 zc5 zf5
      have h := H.out
      unfold cell_Newest.of at h
      rw [if_neg (fun z => Bool.false_ne_true z.1), if_neg (fun z => Bool.false_ne_true z.1)] at h
      simp only [Prod.mk.injEq] at h
      obtain ⟨rfl, rfl, rfl, rfl, rfl, rfl, rfl, rfl, rfl⟩ := h
      clear H
      obtain ⟨hq1_, hq2_, hs_⟩ := st6_0_6 HB.out GE9.out BK9.out (.int .u8 0) (.int .i64 0) (.int .i64 0) (.int .i64 0) (.slice none 0 0) (.slice none 0 0)
      replace hq1_ := blk_drew hq1_
      replace hq2_ := below_drew1 hq2_
      have hsd_ : ∀ k, k ≠ gb9 → (((((((wb1.setCell ⟨gb9, 0, none⟩ (.int .u8 0)).setCell ⟨gb9, 1, none⟩ (.int .i64 0)).setCell ⟨gb9, 2, none⟩ (.int .i64 0)).setCell ⟨gb9, 3, none⟩ (.int .i64 0)).setCell ⟨gb9, 4, none⟩ (.slice none 0 0)).setCell ⟨gb9, 5, none⟩ (.slice none 0 0)).drew).heap[k]? = wb1.heap[k]? := fun k hk => (drew_heap _ k).trans (hs_ k hk)
      clear hs_
      have hs_ := hsd_
      clear hsd_
      generalize ((((((wb1.setCell ⟨gb9, 0, none⟩ (.int .u8 0)).setCell ⟨gb9, 1, none⟩ (.int .i64 0)).setCell ⟨gb9, 2, none⟩ (.int .i64 0)).setCell ⟨gb9, 3, none⟩ (.int .i64 0)).setCell ⟨gb9, 4, none⟩ (.slice none 0 0)).setCell ⟨gb9, 5, none⟩ (.slice none 0 0)).drew = wz at hs_ hq1_ hq2_ ⊢
      replace RU4 := Lib.hid (Kd.R_mono (Kd.R_step (Kd.R_types RU4.out BK9.out (by decide)) (fun k hk _ => hs_ k hk.2)) (ok' := fun _ => True) (fun _ _ => trivial))
      replace RU5 := Lib.hid (Kd.R_mono (Kd.R_step (Kd.R_types RU5.out BK9.out (by decide)) (fun k hk _ => hs_ k hk.2)) (ok' := fun _ => True) (fun _ _ => trivial))
      replace RV4 := Lib.hid (Kd.R_mono (Kd.R_step (Kd.R_types RV4.out BK9.out (by decide)) (fun k hk _ => hs_ k hk.2)) (ok' := fun _ => True) (fun _ _ => trivial))
      replace RV5 := Lib.hid (Kd.R_mono (Kd.R_step (Kd.R_types RV5.out BK9.out (by decide)) (fun k hk _ => hs_ k hk.2)) (ok' := fun _ => True) (fun _ _ => trivial))
      replace BK9 := Lib.hid hq1_
      replace HB := Lib.hid hq2_
      clear hs_ hq1_ hq2_
      refine bodyPost_ret (results_tctt rfl _ _ gb9 27 #[.int .u8 0, .int .i64 0, .int .i64 0, .int .i64 0, .slice none 0 0, .slice none 0 0] (0, 0) _ rfl BK9.out Try.underlying27 rfl (by kernel_rfl)) rfl ?_
      exact ⟨_, _, rfl, Kd.R_nil _ _ _ _ _, Kd.R_nil _ _ _ _ _, HB.out⟩
    subst hf1
    by_cases hk1 : s1 = kind
    case neg =>
      have hk1b : (s1 == kind) = false := beq_eq_false_iff_ne.mpr hk1
      replace hk1 := Lib.hid hk1
      go_wp2_with fail
      clear yc0 yf0 yc1 yf1 yc2 yf2 yc3 yf3 yc4 yf4 yc5 yf5 yc6 yf6
      clear zc0 zf0 zc1 zf1 zc2 zf2 zc3 zf3 zc4 zf4 zc5 zf5
      rw [rounds_succ]
      obtain ⟨zc0, zc1, zc2, zc3, zc4, zc5, zf0, zf1, zf2, zf3, zf4, zf5⟩ := cs6 BK9.out
      go_wp2_with fail
      go_region
      go_wp2_with fail
      clear zc0 zf0 zc1 zf1 zc2 zf2 zc3 zf3 zc4 zf4 zc5 zf5
      have h := H.out
      unfold cell_Newest.of at h
      rw [if_neg (fun z => Bool.false_ne_true z.1), if_neg (fun z => hk1.out z.2.1)] at h
      simp only [Prod.mk.injEq] at h
      obtain ⟨rfl, rfl, rfl, rfl, rfl, rfl, rfl, rfl, rfl⟩ := h
      clear H
      obtain ⟨hq1_, hq2_, hs_⟩ := st6_0_6 HB.out GE9.out BK9.out (.int .u8 0) (.int .i64 0) (.int .i64 0) (.int .i64 0) (.slice none 0 0) (.slice none 0 0)
      replace hq1_ := blk_drew hq1_
      replace hq2_ := below_drew1 hq2_
      have hsd_ : ∀ k, k ≠ gb9 → (((((((wb1.setCell ⟨gb9, 0, none⟩ (.int .u8 0)).setCell ⟨gb9, 1, none⟩ (.int .i64 0)).setCell ⟨gb9, 2, none⟩ (.int .i64 0)).setCell ⟨gb9, 3, none⟩ (.int .i64 0)).setCell ⟨gb9, 4, none⟩ (.slice none 0 0)).setCell ⟨gb9, 5, none⟩ (.slice none 0 0)).drew).heap[k]? = wb1.heap[k]? := fun k hk => (drew_heap _ k).trans (hs_ k hk)
      clear hs_
      have hs_ := hsd_
      clear hsd_
      generalize ((((((wb1.setCell ⟨gb9, 0, none⟩ (.int .u8 0)).setCell ⟨gb9, 1, none⟩ (.int .i64 0)).setCell ⟨gb9, 2, none⟩ (.int .i64 0)).setCell ⟨gb9, 3, none⟩ (.int .i64 0)).setCell ⟨gb9, 4, none⟩ (.slice none 0 0)).setCell ⟨gb9, 5, none⟩ (.slice none 0 0)).drew = wz at hs_ hq1_ hq2_ ⊢
      replace RU4 := Lib.hid (Kd.R_mono (Kd.R_step (Kd.R_types RU4.out BK9.out (by decide)) (fun k hk _ => hs_ k hk.2)) (ok' := fun _ => True) (fun _ _ => trivial))
      replace RU5 := Lib.hid (Kd.R_mono (Kd.R_step (Kd.R_types RU5.out BK9.out (by decide)) (fun k hk _ => hs_ k hk.2)) (ok' := fun _ => True) (fun _ _ => trivial))
      replace RV4 := Lib.hid (Kd.R_mono (Kd.R_step (Kd.R_types RV4.out BK9.out (by decide)) (fun k hk _ => hs_ k hk.2)) (ok' := fun _ => True) (fun _ _ => trivial))
      replace RV5 := Lib.hid (Kd.R_mono (Kd.R_step (Kd.R_types RV5.out BK9.out (by decide)) (fun k hk _ => hs_ k hk.2)) (ok' := fun _ => True) (fun _ _ => trivial))
      replace BK9 := Lib.hid hq1_
      replace HB := Lib.hid hq2_
      clear hs_ hq1_ hq2_
      refine bodyPost_ret (results_tctt rfl _ _ gb9 27 #[.int .u8 0, .int .i64 0, .int .i64 0, .int .i64 0, .slice none 0 0, .slice none 0 0] (0, 0) _ rfl BK9.out Try.underlying27 rfl (by kernel_rfl)) rfl ?_
      exact ⟨_, _, rfl, Kd.R_nil _ _ _ _ _, Kd.R_nil _ _ _ _ _, HB.out⟩
    have hk1b : (s1 == kind) = true := beq_iff_eq.mpr hk1
    replace hk1 := Lib.hid hk1
    by_cases hv1 : 0 < s3
    case neg =>
      have hv1b : decide (0 < s3) = false := decide_eq_false hv1
      have hv1c : decide (s3 > 0) = false := decide_eq_false hv1
      replace hv1 := Lib.hid hv1
      go_wp2_with fail
      clear yc0 yf0 yc1 yf1 yc2 yf2 yc3 yf3 yc4 yf4 yc5 yf5 yc6 yf6
      clear zc0 zf0 zc1 zf1 zc2 zf2 zc3 zf3 zc4 zf4 zc5 zf5
      rw [rounds_succ]
      obtain ⟨zc0, zc1, zc2, zc3, zc4, zc5, zf0, zf1, zf2, zf3, zf4, zf5⟩ := cs6 BK9.out
      go_wp2_with fail
      go_region
      go_wp2_with fail
      clear zc0 zf0 zc1 zf1 zc2 zf2 zc3 zf3 zc4 zf4 zc5 zf5
      have h := H.out
      unfold cell_Newest.of at h
      rw [if_neg (fun z => Bool.false_ne_true z.1), if_neg (fun z => by have a_ := hv1.out; have b_ := z.2.2; omega)] at h
      simp only [Prod.mk.injEq] at h
      obtain ⟨rfl, rfl, rfl, rfl, rfl, rfl, rfl, rfl, rfl⟩ := h
      clear H
      obtain ⟨hq1_, hq2_, hs_⟩ := st6_0_6 HB.out GE9.out BK9.out (.int .u8 0) (.int .i64 0) (.int .i64 0) (.int .i64 0) (.slice none 0 0) (.slice none 0 0)
      replace hq1_ := blk_drew hq1_
      replace hq2_ := below_drew1 hq2_
      have hsd_ : ∀ k, k ≠ gb9 → (((((((wb1.setCell ⟨gb9, 0, none⟩ (.int .u8 0)).setCell ⟨gb9, 1, none⟩ (.int .i64 0)).setCell ⟨gb9, 2, none⟩ (.int .i64 0)).setCell ⟨gb9, 3, none⟩ (.int .i64 0)).setCell ⟨gb9, 4, none⟩ (.slice none 0 0)).setCell ⟨gb9, 5, none⟩ (.slice none 0 0)).drew).heap[k]? = wb1.heap[k]? := fun k hk => (drew_heap _ k).trans (hs_ k hk)
      clear hs_
      have hs_ := hsd_
      clear hsd_
      generalize ((((((wb1.setCell ⟨gb9, 0, none⟩ (.int .u8 0)).setCell ⟨gb9, 1, none⟩ (.int .i64 0)).setCell ⟨gb9, 2, none⟩ (.int .i64 0)).setCell ⟨gb9, 3, none⟩ (.int .i64 0)).setCell ⟨gb9, 4, none⟩ (.slice none 0 0)).setCell ⟨gb9, 5, none⟩ (.slice none 0 0)).drew = wz at hs_ hq1_ hq2_ ⊢
      replace RU4 := Lib.hid (Kd.R_mono (Kd.R_step (Kd.R_types RU4.out BK9.out (by decide)) (fun k hk _ => hs_ k hk.2)) (ok' := fun _ => True) (fun _ _ => trivial))
      replace RU5 := Lib.hid (Kd.R_mono (Kd.R_step (Kd.R_types RU5.out BK9.out (by decide)) (fun k hk _ => hs_ k hk.2)) (ok' := fun _ => True) (fun _ _ => trivial))
      replace RV4 := Lib.hid (Kd.R_mono (Kd.R_step (Kd.R_types RV4.out BK9.out (by decide)) (fun k hk _ => hs_ k hk.2)) (ok' := fun _ => True) (fun _ _ => trivial))
      replace RV5 := Lib.hid (Kd.R_mono (Kd.R_step (Kd.R_types RV5.out BK9.out (by decide)) (fun k hk _ => hs_ k hk.2)) (ok' := fun _ => True) (fun _ _ => trivial))
      replace BK9 := Lib.hid hq1_
      replace HB := Lib.hid hq2_
      clear hs_ hq1_ hq2_
      refine bodyPost_ret (results_tctt rfl _ _ gb9 27 #[.int .u8 0, .int .i64 0, .int .i64 0, .int .i64 0, .slice none 0 0, .slice none 0 0] (0, 0) _ rfl BK9.out Try.underlying27 rfl (by kernel_rfl)) rfl ?_
      exact ⟨_, _, rfl, Kd.R_nil _ _ _ _ _, Kd.R_nil _ _ _ _ _, HB.out⟩
    have hv1b : decide (0 < s3) = true := decide_eq_true hv1
    have hv1c : decide (s3 > 0) = true := decide_eq_true hv1
    replace hv1 := Lib.hid hv1
    go_upto_region 8 with fail
    go_region
    clear yc0 yf0 yc1 yf1 yc2 yf2 yc3 yf3 yc4 yf4 yc5 yf5 yc6 yf6
    clear zc0 zf0 zc1 zf1 zc2 zf2 zc3 zf3 zc4 zf4 zc5 zf5
    obtain ⟨hq1_, hq2_, hs_⟩ := st6_0_6 HB.out GE9.out BK9.out (.int .u8 s1) (.int .i64 s2) (.int .i64 s3) (.int .i64 s4) (.slice Y4 s5.length y4) (.slice Y5 s6.length y5)
    replace hq1_ := blk_drew hq1_
    replace hq2_ := below_drew1 hq2_
    have hsd_ : ∀ k, k ≠ gb9 → (((((((wb1.setCell ⟨gb9, 0, none⟩ (.int .u8 s1)).setCell ⟨gb9, 1, none⟩ (.int .i64 s2)).setCell ⟨gb9, 2, none⟩ (.int .i64 s3)).setCell ⟨gb9, 3, none⟩ (.int .i64 s4)).setCell ⟨gb9, 4, none⟩ (.slice Y4 s5.length y4)).setCell ⟨gb9, 5, none⟩ (.slice Y5 s6.length y5)).drew).heap[k]? = wb1.heap[k]? := fun k hk => (drew_heap _ k).trans (hs_ k hk)
    clear hs_
    have hs_ := hsd_
    clear hsd_
    generalize ((((((wb1.setCell ⟨gb9, 0, none⟩ (.int .u8 s1)).setCell ⟨gb9, 1, none⟩ (.int .i64 s2)).setCell ⟨gb9, 2, none⟩ (.int .i64 s3)).setCell ⟨gb9, 3, none⟩ (.int .i64 s4)).setCell ⟨gb9, 4, none⟩ (.slice Y4 s5.length y4)).setCell ⟨gb9, 5, none⟩ (.slice Y5 s6.length y5)).drew = wc1 at hs_ hq1_ hq2_ ⊢
    replace RU4 := Lib.hid (Kd.R_mono (Kd.R_step (Kd.R_types RU4.out BK9.out (by decide)) (fun k hk _ => hs_ k hk.2)) (ok' := fun _ => True) (fun _ _ => trivial))
    replace RU5 := Lib.hid (Kd.R_mono (Kd.R_step (Kd.R_types RU5.out BK9.out (by decide)) (fun k hk _ => hs_ k hk.2)) (ok' := fun _ => True) (fun _ _ => trivial))
    replace RV4 := Lib.hid (Kd.R_mono (Kd.R_step (Kd.R_types RV4.out BK9.out (by decide)) (fun k hk _ => hs_ k hk.2)) (ok' := fun _ => True) (fun _ _ => trivial))
    replace RV5 := Lib.hid (Kd.R_mono (Kd.R_step (Kd.R_types RV5.out BK9.out (by decide)) (fun k hk _ => hs_ k hk.2)) (ok' := fun _ => True) (fun _ _ => trivial))
    replace BK12 := Lib.hid ((hs_ gb12 NB12_9.out).trans BK12.out)
    replace BK9 := Lib.hid hq1_
    replace HB := Lib.hid hq2_
    clear hs_ hq1_ hq2_
    go_wp2_with fail
    rw [rounds_succ]
    obtain ⟨zc0, zc1, zc2, zc3, zc4, zc5, zf0, zf1, zf2, zf3, zf4, zf5⟩ := cs6 BK9.out
    go_wp2_with fail
    go_region
    go_wp2_with fail
    clear zc0 zf0 zc1 zf1 zc2 zf2 zc3 zf3 zc4 zf4 zc5 zf5
    have h := H.out
    unfold cell_Newest.of at h
    rw [if_neg (fun z => Bool.false_ne_true z.1), if_pos ⟨rfl, hk1.out, by have a_ := hv1.out; omega⟩] at h
    simp only [Prod.mk.injEq] at h
    obtain ⟨rfl, rfl, rfl, rfl, rfl, rfl, rfl, rfl, rfl⟩ := h
    clear H
    obtain ⟨hq1_, hq2_, hs_⟩ := st6_0_6 HB.out GE9.out BK9.out (.int .u8 s1) (.int .i64 s2) (.int .i64 s3) (.int .i64 s4) (.slice Y4 s5.length y4) (.slice Y5 s6.length y5)
    replace hq1_ := blk_drew hq1_
    replace hq2_ := below_drew1 hq2_
    have hsd_ : ∀ k, k ≠ gb9 → (((((((wc1.setCell ⟨gb9, 0, none⟩ (.int .u8 s1)).setCell ⟨gb9, 1, none⟩ (.int .i64 s2)).setCell ⟨gb9, 2, none⟩ (.int .i64 s3)).setCell ⟨gb9, 3, none⟩ (.int .i64 s4)).setCell ⟨gb9, 4, none⟩ (.slice Y4 s5.length y4)).setCell ⟨gb9, 5, none⟩ (.slice Y5 s6.length y5)).drew).heap[k]? = wc1.heap[k]? := fun k hk => (drew_heap _ k).trans (hs_ k hk)
    clear hs_
    have hs_ := hsd_
    clear hsd_
    generalize ((((((wc1.setCell ⟨gb9, 0, none⟩ (.int .u8 s1)).setCell ⟨gb9, 1, none⟩ (.int .i64 s2)).setCell ⟨gb9, 2, none⟩ (.int .i64 s3)).setCell ⟨gb9, 3, none⟩ (.int .i64 s4)).setCell ⟨gb9, 4, none⟩ (.slice Y4 s5.length y4)).setCell ⟨gb9, 5, none⟩ (.slice Y5 s6.length y5)).drew = wz at hs_ hq1_ hq2_ ⊢
    replace RU4 := Lib.hid (Kd.R_mono (Kd.R_step (Kd.R_types RU4.out BK9.out (by decide)) (fun k hk _ => hs_ k hk.2)) (ok' := fun _ => True) (fun _ _ => trivial))
    replace RU5 := Lib.hid (Kd.R_mono (Kd.R_step (Kd.R_types RU5.out BK9.out (by decide)) (fun k hk _ => hs_ k hk.2)) (ok' := fun _ => True) (fun _ _ => trivial))
    replace RV4 := Lib.hid (Kd.R_mono (Kd.R_step (Kd.R_types RV4.out BK9.out (by decide)) (fun k hk _ => hs_ k hk.2)) (ok' := fun _ => True) (fun _ _ => trivial))
    replace RV5 := Lib.hid (Kd.R_mono (Kd.R_step (Kd.R_types RV5.out BK9.out (by decide)) (fun k hk _ => hs_ k hk.2)) (ok' := fun _ => True) (fun _ _ => trivial))
    replace BK9 := Lib.hid hq1_
    replace HB := Lib.hid hq2_
    clear hs_ hq1_ hq2_
    refine bodyPost_ret (results_tctt rfl _ _ gb9 27 #[.int .u8 s1, .int .i64 s2, .int .i64 s3, .int .i64 s4, .slice Y4 s5.length y4, .slice Y5 s6.length y5] (0, 0) _ rfl BK9.out Try.underlying27 rfl (by kernel_rfl)) rfl ?_
    exact ⟨_, _, rfl, RV4.out, RV5.out, HB.out⟩
  subst hf0
  by_cases hk0 : r1 = kind
  case neg =>
    have hk0b : (r1 == kind) = false := beq_eq_false_iff_ne.mpr hk0
    replace hk0 := Lib.hid hk0
    go_wp2_with fail
    clear yc0 yf0 yc1 yf1 yc2 yf2 yc3 yf3 yc4 yf4 yc5 yf5 yc6 yf6
    clear zc0 zf0 zc1 zf1 zc2 zf2 zc3 zf3 zc4 zf4 zc5 zf5
    rw [rounds_succ]
    go_upto_region 6 with fail
    go_upto_region 7 with (first | ((with_reducible refine gate_dst (N := 14) rfl ?_); refine box_event ?hg (N := 14) ?hd (cs := #[.int .u8 0, .int .i64 0, .int .i64 0, .int .i64 0, .slice none 0 0, .slice none 0 0, .bool false]) (t := 60) ?hr ?_; (case hd => rfl); (case hg => rfl); (case hr => first | (go_simp; done) | (go_simp; rfl)); intro gb141 hg_ wa1 bk_ hb_; have GE141 := Lib.hid (show w.heap.size ≤ gb141 by rw [hg_]; exact below_size HB.out); have NB9_141 := Lib.hid (show gb9 ≠ gb141 by rw [hg_]; exact Nat.ne_of_lt (blk_lt BK9.out)); have NB141_9 := Lib.hid NB9_141.out.symm; replace BK9 := Lib.hid (blk_below BK9.out hb_); have NB12_141 := Lib.hid (show gb12 ≠ gb141 by rw [hg_]; exact Nat.ne_of_lt (blk_lt BK12.out)); have NB141_12 := Lib.hid NB12_141.out.symm; replace BK12 := Lib.hid (blk_below BK12.out hb_); have BK141 := Lib.hid bk_; replace RU4 := Lib.hid (Kd.R_below RU4.out hb_); replace RU5 := Lib.hid (Kd.R_below RU5.out hb_); replace RV4 := Lib.hid (Kd.R_below RV4.out hb_); replace RV5 := Lib.hid (Kd.R_below RV5.out hb_); replace HB := Lib.hid (below_step HB.out hb_); clear hb_ hg_ bk_; obtain ⟨yc0, yc1, yc2, yc3, yc4, yc5, yc6, yf0, yf1, yf2, yf3, yf4, yf5, yf6⟩ := cs7 BK141.out))
    clear yc0 yf0 yc1 yf1 yc2 yf2 yc3 yf3 yc4 yf4 yc5 yf5 yc6 yf6
    obtain ⟨hq1_, hq2_, hs_⟩ := st7_0_7 HB.out GE141.out BK141.out (.int .u8 s1) (.int .i64 s2) (.int .i64 s3) (.int .i64 s4) (.slice Y4 s5.length y4) (.slice Y5 s6.length y5) (.bool s7)
    generalize (((((((wa1.setCell ⟨gb141, 0, none⟩ (.int .u8 s1)).setCell ⟨gb141, 1, none⟩ (.int .i64 s2)).setCell ⟨gb141, 2, none⟩ (.int .i64 s3)).setCell ⟨gb141, 3, none⟩ (.int .i64 s4)).setCell ⟨gb141, 4, none⟩ (.slice Y4 s5.length y4)).setCell ⟨gb141, 5, none⟩ (.slice Y5 s6.length y5)).setCell ⟨gb141, 6, none⟩ (.bool s7)) = wb1 at hs_ hq1_ hq2_ ⊢
    replace RU4 := Lib.hid (Kd.R_mono (Kd.R_step (Kd.R_types RU4.out BK141.out (by decide)) (fun k hk _ => hs_ k hk.2)) (ok' := fun _ => True) (fun _ _ => trivial))
    replace RU5 := Lib.hid (Kd.R_mono (Kd.R_step (Kd.R_types RU5.out BK141.out (by decide)) (fun k hk _ => hs_ k hk.2)) (ok' := fun _ => True) (fun _ _ => trivial))
    replace RV4 := Lib.hid (Kd.R_mono (Kd.R_step (Kd.R_types RV4.out BK141.out (by decide)) (fun k hk _ => hs_ k hk.2)) (ok' := fun _ => True) (fun _ _ => trivial))
    replace RV5 := Lib.hid (Kd.R_mono (Kd.R_step (Kd.R_types RV5.out BK141.out (by decide)) (fun k hk _ => hs_ k hk.2)) (ok' := fun _ => True) (fun _ _ => trivial))
    replace BK9 := Lib.hid ((hs_ gb9 NB9_141.out).trans BK9.out)
    replace BK12 := Lib.hid ((hs_ gb12 NB12_141.out).trans BK12.out)
    replace BK141 := Lib.hid hq1_
    replace HB := Lib.hid hq2_
    clear hs_ hq1_ hq2_
    obtain ⟨yc0, yc1, yc2, yc3, yc4, yc5, yc6, yf0, yf1, yf2, yf3, yf4, yf5, yf6⟩ := cs7 BK141.out
    obtain ⟨zc0, zc1, zc2, zc3, zc4, zc5, zf0, zf1, zf2, zf3, zf4, zf5⟩ := cs6 BK9.out
    by_cases hf1 : s7 = true
    case neg =>
      replace hf1 := Bool.eq_false_iff.mpr hf1
      subst hf1
      go_wp2_with fail
      clear yc0 yf0 yc1 yf1 yc2 yf2 yc3 yf3 yc4 yf4 yc5 yf5 yc6 yf6
      clear zc0 zf0 zc1 zf1 zc2 zf2 zc3 zf3 zc4 zf4 zc5 zf5
      rw [rounds_succ]
      obtain ⟨zc0, zc1, zc2, zc3, zc4, zc5, zf0, zf1, zf2, zf3, zf4, zf5⟩ := cs6 BK9.out
      go_wp2_with fail
      go_region
      go_wp2_with fail
      clear zc0 zf0 zc1 zf1 zc2 zf2 zc3 zf3 zc4 zf4 zc5 zf5
      have h := H.out
      unfold cell_Newest.of at h
      rw [if_neg (fun z => hk0.out z.2.1), if_neg (fun z => Bool.false_ne_true z.1)] at h
      simp only [Prod.mk.injEq] at h
      obtain ⟨rfl, rfl, rfl, rfl, rfl, rfl, rfl, rfl, rfl⟩ := h
      clear H
      obtain ⟨hq1_, hq2_, hs_⟩ := st6_0_6 HB.out GE9.out BK9.out (.int .u8 0) (.int .i64 0) (.int .i64 0) (.int .i64 0) (.slice none 0 0) (.slice none 0 0)
      replace hq1_ := blk_drew hq1_
      replace hq2_ := below_drew1 hq2_
      have hsd_ : ∀ k, k ≠ gb9 → (((((((wb1.setCell ⟨gb9, 0, none⟩ (.int .u8 0)).setCell ⟨gb9, 1, none⟩ (.int .i64 0)).setCell ⟨gb9, 2, none⟩ (.int .i64 0)).setCell ⟨gb9, 3, none⟩ (.int .i64 0)).setCell ⟨gb9, 4, none⟩ (.slice none 0 0)).setCell ⟨gb9, 5, none⟩ (.slice none 0 0)).drew).heap[k]? = wb1.heap[k]? := fun k hk => (drew_heap _ k).trans (hs_ k hk)
      clear hs_
      have hs_ := hsd_
      clear hsd_
      generalize ((((((wb1.setCell ⟨gb9, 0, none⟩ (.int .u8 0)).setCell ⟨gb9, 1, none⟩ (.int .i64 0)).setCell ⟨gb9, 2, none⟩ (.int .i64 0)).setCell ⟨gb9, 3, none⟩ (.int .i64 0)).setCell ⟨gb9, 4, none⟩ (.slice none 0 0)).setCell ⟨gb9, 5, none⟩ (.slice none 0 0)).drew = wz at hs_ hq1_ hq2_ ⊢
      replace RU4 := Lib.hid (Kd.R_mono (Kd.R_step (Kd.R_types RU4.out BK9.out (by decide)) (fun k hk _ => hs_ k hk.2)) (ok' := fun _ => True) (fun _ _ => trivial))
      replace RU5 := Lib.hid (Kd.R_mono (Kd.R_step (Kd.R_types RU5.out BK9.out (by decide)) (fun k hk _ => hs_ k hk.2)) (ok' := fun _ => True) (fun _ _ => trivial))
      replace RV4 := Lib.hid (Kd.R_mono (Kd.R_step (Kd.R_types RV4.out BK9.out (by decide)) (fun k hk _ => hs_ k hk.2)) (ok' := fun _ => True) (fun _ _ => trivial))
      replace RV5 := Lib.hid (Kd.R_mono (Kd.R_step (Kd.R_types RV5.out BK9.out (by decide)) (fun k hk _ => hs_ k hk.2)) (ok' := fun _ => True) (fun _ _ => trivial))
      replace BK9 := Lib.hid hq1_
      replace HB := Lib.hid hq2_
      clear hs_ hq1_ hq2_
      refine bodyPost_ret (results_tctt rfl _ _ gb9 27 #[.int .u8 0, .int .i64 0, .int .i64 0, .int .i64 0, .slice none 0 0, .slice none 0 0] (0, 0) _ rfl BK9.out Try.underlying27 rfl (by kernel_rfl)) rfl ?_
      exact ⟨_, _, rfl, Kd.R_nil _ _ _ _ _, Kd.R_nil _ _ _ _ _, HB.out⟩
    subst hf1
    by_cases hk1 : s1 = kind
    case neg =>
      have hk1b : (s1 == kind) = false := beq_eq_false_iff_ne.mpr hk1
      replace hk1 := Lib.hid hk1
      go_wp2_with fail
      clear yc0 yf0 yc1 yf1 yc2 yf2 yc3 yf3 yc4 yf4 yc5 yf5 yc6 yf6
      clear zc0 zf0 zc1 zf1 zc2 zf2 zc3 zf3 zc4 zf4 zc5 zf5
      rw [rounds_succ]
      obtain ⟨zc0, zc1, zc2, zc3, zc4, zc5, zf0, zf1, zf2, zf3, zf4, zf5⟩ := cs6 BK9.out
      go_wp2_with fail
      go_region
      go_wp2_with fail
      clear zc0 zf0 zc1 zf1 zc2 zf2 zc3 zf3 zc4 zf4 zc5 zf5
      have h := H.out
      unfold cell_Newest.of at h
      rw [if_neg (fun z => hk0.out z.2.1), if_neg (fun z => hk1.out z.2.1)] at h
      simp only [Prod.mk.injEq] at h
      obtain ⟨rfl, rfl, rfl, rfl, rfl, rfl, rfl, rfl, rfl⟩ := h
      clear H
      obtain ⟨hq1_, hq2_, hs_⟩ := st6_0_6 HB.out GE9.out BK9.out (.int .u8 0) (.int .i64 0) (.int .i64 0) (.int .i64 0) (.slice none 0 0) (.slice none 0 0)
      replace hq1_ := blk_drew hq1_
      replace hq2_ := below_drew1 hq2_
      have hsd_ : ∀ k, k ≠ gb9 → (((((((wb1.setCell ⟨gb9, 0, none⟩ (.int .u8 0)).setCell ⟨gb9, 1, none⟩ (.int .i64 0)).setCell ⟨gb9, 2, none⟩ (.int .i64 0)).setCell ⟨gb9, 3, none⟩ (.int .i64 0)).setCell ⟨gb9, 4, none⟩ (.slice none 0 0)).setCell ⟨gb9, 5, none⟩ (.slice none 0 0)).drew).heap[k]? = wb1.heap[k]? := fun k hk => (drew_heap _ k).trans (hs_ k hk)
      clear hs_
      have hs_ := hsd_
      clear hsd_
      generalize ((((((wb1.setCell ⟨gb9, 0, none⟩ (.int .u8 0)).setCell ⟨gb9, 1, none⟩ (.int .i64 0)).setCell ⟨gb9, 2, none⟩ (.int .i64 0)).setCell ⟨gb9, 3, none⟩ (.int .i64 0)).setCell ⟨gb9, 4, none⟩ (.slice none 0 0)).setCell ⟨gb9, 5, none⟩ (.slice none 0 0)).drew = wz at hs_ hq1_ hq2_ ⊢
      replace RU4 := Lib.hid (Kd.R_mono (Kd.R_step (Kd.R_types RU4.out BK9.out (by decide)) (fun k hk _ => hs_ k hk.2)) (ok' := fun _ => True) (fun _ _ => trivial))
      replace RU5 := Lib.hid (Kd.R_mono (Kd.R_step (Kd.R_types RU5.out BK9.out (by decide)) (fun k hk _ => hs_ k hk.2)) (ok' := fun _ => True) (fun _ _ => trivial))
      replace RV4 := Lib.hid (Kd.R_mono (Kd.R_step (Kd.R_types RV4.out BK9.out (by decide)) (fun k hk _ => hs_ k hk.2)) (ok' := fun _ => True) (fun _ _ => trivial))
      replace RV5 := Lib.hid (Kd.R_mono (Kd.R_step (Kd.R_types RV5.out BK9.out (by decide)) (fun k hk _ => hs_ k hk.2)) (ok' := fun _ => True) (fun _ _ => trivial))
      replace BK9 := Lib.hid hq1_
      replace HB := Lib.hid hq2_
      clear hs_ hq1_ hq2_
      refine bodyPost_ret (results_tctt rfl _ _ gb9 27 #[.int .u8 0, .int .i64 0, .int .i64 0, .int .i64 0, .slice none 0 0, .slice none 0 0] (0, 0) _ rfl BK9.out Try.underlying27 rfl (by kernel_rfl)) rfl ?_
      exact ⟨_, _, rfl, Kd.R_nil _ _ _ _ _, Kd.R_nil _ _ _ _ _, HB.out⟩
    have hk1b : (s1 == kind) = true := beq_iff_eq.mpr hk1
    replace hk1 := Lib.hid hk1
    by_cases hv1 : 0 < s3
    case neg =>
      have hv1b : decide (0 < s3) = false := decide_eq_false hv1
      have hv1c : decide (s3 > 0) = false := decide_eq_false hv1
      replace hv1 := Lib.hid hv1
      go_wp2_with fail
      clear yc0 yf0 yc1 yf1 yc2 yf2 yc3 yf3 yc4 yf4 yc5 yf5 yc6 yf6
      clear zc0 zf0 zc1 zf1 zc2 zf2 zc3 zf3 zc4 zf4 zc5 zf5
      rw [rounds_succ]
      obtain ⟨zc0, zc1, zc2, zc3, zc4, zc5, zf0, zf1, zf2, zf3, zf4, zf5⟩ := cs6 BK9.out
      go_wp2_with fail
      go_region
      go_wp2_with fail
      clear zc0 zf0 zc1 zf1 zc2 zf2 zc3 zf3 zc4 zf4 zc5 zf5
      have h := H.out
      unfold cell_Newest.of at h
      rw [if_neg (fun z => hk0.out z.2.1), if_neg (fun z => by have a_ := hv1.out; have b_ := z.2.2; omega)] at h
      simp only [Prod.mk.injEq] at h
      obtain ⟨rfl, rfl, rfl, rfl, rfl, rfl, rfl, rfl, rfl⟩ := h
      clear H
      obtain ⟨hq1_, hq2_, hs_⟩ := st6_0_6 HB.out GE9.out BK9.out (.int .u8 0) (.int .i64 0) (.int .i64 0) (.int .i64 0) (.slice none 0 0) (.slice none 0 0)
      replace hq1_ := blk_drew hq1_
      replace hq2_ := below_drew1 hq2_
      have hsd_ : ∀ k, k ≠ gb9 → (((((((wb1.setCell ⟨gb9, 0, none⟩ (.int .u8 0)).setCell ⟨gb9, 1, none⟩ (.int .i64 0)).setCell ⟨gb9, 2, none⟩ (.int .i64 0)).setCell ⟨gb9, 3, none⟩ (.int .i64 0)).setCell ⟨gb9, 4, none⟩ (.slice none 0 0)).setCell ⟨gb9, 5, none⟩ (.slice none 0 0)).drew).heap[k]? = wb1.heap[k]? := fun k hk => (drew_heap _ k).trans (hs_ k hk)
      clear hs_
      have hs_ := hsd_
      clear hsd_
      generalize ((((((wb1.setCell ⟨gb9, 0, none⟩ (.int .u8 0)).setCell ⟨gb9, 1, none⟩ (.int .i64 0)).setCell ⟨gb9, 2, none⟩ (.int .i64 0)).setCell ⟨gb9, 3, none⟩ (.int .i64 0)).setCell ⟨gb9, 4, none⟩ (.slice none 0 0)).setCell ⟨gb9, 5, none⟩ (.slice none 0 0)).drew = wz at hs_ hq1_ hq2_ ⊢
      replace RU4 := Lib.hid (Kd.R_mono (Kd.R_step (Kd.R_types RU4.out BK9.out (by decide)) (fun k hk _ => hs_ k hk.2)) (ok' := fun _ => True) (fun _ _ => trivial))
      replace RU5 := Lib.hid (Kd.R_mono (Kd.R_step (Kd.R_types RU5.out BK9.out (by decide)) (fun k hk _ => hs_ k hk.2)) (ok' := fun _ => True) (fun _ _ => trivial))
      replace RV4 := Lib.hid (Kd.R_mono (Kd.R_step (Kd.R_types RV4.out BK9.out (by decide)) (fun k hk _ => hs_ k hk.2)) (ok' := fun _ => True) (fun _ _ => trivial))
      replace RV5 := Lib.hid (Kd.R_mono (Kd.R_step (Kd.R_types RV5.out BK9.out (by decide)) (fun k hk _ => hs_ k hk.2)) (ok' := fun _ => True) (fun _ _ => trivial))
      replace BK9 := Lib.hid hq1_
      replace HB := Lib.hid hq2_
      clear hs_ hq1_ hq2_
      refine bodyPost_ret (results_tctt rfl _ _ gb9 27 #[.int .u8 0, .int .i64 0, .int .i64 0, .int .i64 0, .slice none 0 0, .slice none 0 0] (0, 0) _ rfl BK9.out Try.underlying27 rfl (by kernel_rfl)) rfl ?_
      exact ⟨_, _, rfl, Kd.R_nil _ _ _ _ _, Kd.R_nil _ _ _ _ _, HB.out⟩
    have hv1b : decide (0 < s3) = true := decide_eq_true hv1
    have hv1c : decide (s3 > 0) = true := decide_eq_true hv1
    replace hv1 := Lib.hid hv1
    go_upto_region 8 with fail
    go_region
    clear yc0 yf0 yc1 yf1 yc2 yf2 yc3 yf3 yc4 yf4 yc5 yf5 yc6 yf6
    clear zc0 zf0 zc1 zf1 zc2 zf2 zc3 zf3 zc4 zf4 zc5 zf5
    obtain ⟨hq1_, hq2_, hs_⟩ := st6_0_6 HB.out GE9.out BK9.out (.int .u8 s1) (.int .i64 s2) (.int .i64 s3) (.int .i64 s4) (.slice Y4 s5.length y4) (.slice Y5 s6.length y5)
    replace hq1_ := blk_drew hq1_
    replace hq2_ := below_drew1 hq2_
    have hsd_ : ∀ k, k ≠ gb9 → (((((((wb1.setCell ⟨gb9, 0, none⟩ (.int .u8 s1)).setCell ⟨gb9, 1, none⟩ (.int .i64 s2)).setCell ⟨gb9, 2, none⟩ (.int .i64 s3)).setCell ⟨gb9, 3, none⟩ (.int .i64 s4)).setCell ⟨gb9, 4, none⟩ (.slice Y4 s5.length y4)).setCell ⟨gb9, 5, none⟩ (.slice Y5 s6.length y5)).drew).heap[k]? = wb1.heap[k]? := fun k hk => (drew_heap _ k).trans (hs_ k hk)
    clear hs_
    have hs_ := hsd_
    clear hsd_
    generalize ((((((wb1.setCell ⟨gb9, 0, none⟩ (.int .u8 s1)).setCell ⟨gb9, 1, none⟩ (.int .i64 s2)).setCell ⟨gb9, 2, none⟩ (.int .i64 s3)).setCell ⟨gb9, 3, none⟩ (.int .i64 s4)).setCell ⟨gb9, 4, none⟩ (.slice Y4 s5.length y4)).setCell ⟨gb9, 5, none⟩ (.slice Y5 s6.length y5)).drew = wc1 at hs_ hq1_ hq2_ ⊢
    replace RU4 := Lib.hid (Kd.R_mono (Kd.R_step (Kd.R_types RU4.out BK9.out (by decide)) (fun k hk _ => hs_ k hk.2)) (ok' := fun _ => True) (fun _ _ => trivial))
    replace RU5 := Lib.hid (Kd.R_mono (Kd.R_step (Kd.R_types RU5.out BK9.out (by decide)) (fun k hk _ => hs_ k hk.2)) (ok' := fun _ => True) (fun _ _ => trivial))
    replace RV4 := Lib.hid (Kd.R_mono (Kd.R_step (Kd.R_types RV4.out BK9.out (by decide)) (fun k hk _ => hs_ k hk.2)) (ok' := fun _ => True) (fun _ _ => trivial))
    replace RV5 := Lib.hid (Kd.R_mono (Kd.R_step (Kd.R_types RV5.out BK9.out (by decide)) (fun k hk _ => hs_ k hk.2)) (ok' := fun _ => True) (fun _ _ => trivial))
    replace BK12 := Lib.hid ((hs_ gb12 NB12_9.out).trans BK12.out)
    replace BK9 := Lib.hid hq1_
    replace HB := Lib.hid hq2_
    clear hs_ hq1_ hq2_
    go_wp2_with fail
    rw [rounds_succ]
    obtain ⟨zc0, zc1, zc2, zc3, zc4, zc5, zf0, zf1, zf2, zf3, zf4, zf5⟩ := cs6 BK9.out
    go_wp2_with fail
    go_region
    go_wp2_with fail
    clear zc0 zf0 zc1 zf1 zc2 zf2 zc3 zf3 zc4 zf4 zc5 zf5
    have h := H.out
    unfold cell_Newest.of at h
    rw [if_neg (fun z => hk0.out z.2.1), if_pos ⟨rfl, hk1.out, by have a_ := hv1.out; omega⟩] at h
    simp only [Prod.mk.injEq] at h
    obtain ⟨rfl, rfl, rfl, rfl, rfl, rfl, rfl, rfl, rfl⟩ := h
    clear H
    obtain ⟨hq1_, hq2_, hs_⟩ := st6_0_6 HB.out GE9.out BK9.out (.int .u8 s1) (.int .i64 s2) (.int .i64 s3) (.int .i64 s4) (.slice Y4 s5.length y4) (.slice Y5 s6.length y5)
    replace hq1_ := blk_drew hq1_
    replace hq2_ := below_drew1 hq2_
    have hsd_ : ∀ k, k ≠ gb9 → (((((((wc1.setCell ⟨gb9, 0, none⟩ (.int .u8 s1)).setCell ⟨gb9, 1, none⟩ (.int .i64 s2)).setCell ⟨gb9, 2, none⟩ (.int .i64 s3)).setCell ⟨gb9, 3, none⟩ (.int .i64 s4)).setCell ⟨gb9, 4, none⟩ (.slice Y4 s5.length y4)).setCell ⟨gb9, 5, none⟩ (.slice Y5 s6.length y5)).drew).heap[k]? = wc1.heap[k]? := fun k hk => (drew_heap _ k).trans (hs_ k hk)
    clear hs_
    have hs_ := hsd_
    clear hsd_
    generalize ((((((wc1.setCell ⟨gb9, 0, none⟩ (.int .u8 s1)).setCell ⟨gb9, 1, none⟩ (.int .i64 s2)).setCell ⟨gb9, 2, none⟩ (.int .i64 s3)).setCell ⟨gb9, 3, none⟩ (.int .i64 s4)).setCell ⟨gb9, 4, none⟩ (.slice Y4 s5.length y4)).setCell ⟨gb9, 5, none⟩ (.slice Y5 s6.length y5)).drew = wz at hs_ hq1_ hq2_ ⊢
    replace RU4 := Lib.hid (Kd.R_mono (Kd.R_step (Kd.R_types RU4.out BK9.out (by decide)) (fun k hk _ => hs_ k hk.2)) (ok' := fun _ => True) (fun _ _ => trivial))
    replace RU5 := Lib.hid (Kd.R_mono (Kd.R_step (Kd.R_types RU5.out BK9.out (by decide)) (fun k hk _ => hs_ k hk.2)) (ok' := fun _ => True) (fun _ _ => trivial))
    replace RV4 := Lib.hid (Kd.R_mono (Kd.R_step (Kd.R_types RV4.out BK9.out (by decide)) (fun k hk _ => hs_ k hk.2)) (ok' := fun _ => True) (fun _ _ => trivial))
    replace RV5 := Lib.hid (Kd.R_mono (Kd.R_step (Kd.R_types RV5.out BK9.out (by decide)) (fun k hk _ => hs_ k hk.2)) (ok' := fun _ => True) (fun _ _ => trivial))
    replace BK9 := Lib.hid hq1_
    replace HB := Lib.hid hq2_
    clear hs_ hq1_ hq2_
    refine bodyPost_ret (results_tctt rfl _ _ gb9 27 #[.int .u8 s1, .int .i64 s2, .int .i64 s3, .int .i64 s4, .slice Y4 s5.length y4, .slice Y5 s6.length y5] (0, 0) _ rfl BK9.out Try.underlying27 rfl (by kernel_rfl)) rfl ?_
    exact ⟨_, _, rfl, RV4.out, RV5.out, HB.out⟩
  have hk0b : (r1 == kind) = true := beq_iff_eq.mpr hk0
  replace hk0 := Lib.hid hk0
  by_cases hv0 : 0 < r3
  case neg =>
    have hv0b : decide (0 < r3) = false := decide_eq_false hv0
    have hv0c : decide (r3 > 0) = false := decide_eq_false hv0
    replace hv0 := Lib.hid hv0
    go_wp2_with fail
    clear yc0 yf0 yc1 yf1 yc2 yf2 yc3 yf3 yc4 yf4 yc5 yf5 yc6 yf6
    clear zc0 zf0 zc1 zf1 zc2 zf2 zc3 zf3 zc4 zf4 zc5 zf5
    rw [rounds_succ]
    go_upto_region 6 with fail
    go_upto_region 7 with (first | ((with_reducible refine gate_dst (N := 14) rfl ?_); refine box_event ?hg (N := 14) ?hd (cs := #[.int .u8 0, .int .i64 0, .int .i64 0, .int .i64 0, .slice none 0 0, .slice none 0 0, .bool false]) (t := 60) ?hr ?_; (case hd => rfl); (case hg => rfl); (case hr => first | (go_simp; done) | (go_simp; rfl)); intro gb141 hg_ wa1 bk_ hb_; have GE141 := Lib.hid (show w.heap.size ≤ gb141 by rw [hg_]; exact below_size HB.out); have NB9_141 := Lib.hid (show gb9 ≠ gb141 by rw [hg_]; exact Nat.ne_of_lt (blk_lt BK9.out)); have NB141_9 := Lib.hid NB9_141.out.symm; replace BK9 := Lib.hid (blk_below BK9.out hb_); have NB12_141 := Lib.hid (show gb12 ≠ gb141 by rw [hg_]; exact Nat.ne_of_lt (blk_lt BK12.out)); have NB141_12 := Lib.hid NB12_141.out.symm; replace BK12 := Lib.hid (blk_below BK12.out hb_); have BK141 := Lib.hid bk_; replace RU4 := Lib.hid (Kd.R_below RU4.out hb_); replace RU5 := Lib.hid (Kd.R_below RU5.out hb_); replace RV4 := Lib.hid (Kd.R_below RV4.out hb_); replace RV5 := Lib.hid (Kd.R_below RV5.out hb_); replace HB := Lib.hid (below_step HB.out hb_); clear hb_ hg_ bk_; obtain ⟨yc0, yc1, yc2, yc3, yc4, yc5, yc6, yf0, yf1, yf2, yf3, yf4, yf5, yf6⟩ := cs7 BK141.out))
    clear yc0 yf0 yc1 yf1 yc2 yf2 yc3 yf3 yc4 yf4 yc5 yf5 yc6 yf6
    obtain ⟨hq1_, hq2_, hs_⟩ := st7_0_7 HB.out GE141.out BK141.out (.int .u8 s1) (.int .i64 s2) (.int .i64 s3) (.int .i64 s4) (.slice Y4 s5.length y4) (.slice Y5 s6.length y5) (.bool s7)
    generalize (((((((wa1.setCell ⟨gb141, 0, none⟩ (.int .u8 s1)).setCell ⟨gb141, 1, none⟩ (.int .i64 s2)).setCell ⟨gb141, 2, none⟩ (.int .i64 s3)).setCell ⟨gb141, 3, none⟩ (.int .i64 s4)).setCell ⟨gb141, 4, none⟩ (.slice Y4 s5.length y4)).setCell ⟨gb141, 5, none⟩ (.slice Y5 s6.length y5)).setCell ⟨gb141, 6, none⟩ (.bool s7)) = wb1 at hs_ hq1_ hq2_ ⊢
    replace RU4 := Lib.hid (Kd.R_mono (Kd.R_step (Kd.R_types RU4.out BK141.out (by decide)) (fun k hk _ => hs_ k hk.2)) (ok' := fun _ => True) (fun _ _ => trivial))
    replace RU5 := Lib.hid (Kd.R_mono (Kd.R_step (Kd.R_types RU5.out BK141.out (by decide)) (fun k hk _ => hs_ k hk.2)) (ok' := fun _ => True) (fun _ _ => trivial))
    replace RV4 := Lib.hid (Kd.R_mono (Kd.R_step (Kd.R_types RV4.out BK141.out (by decide)) (fun k hk _ => hs_ k hk.2)) (ok' := fun _ => True) (fun _ _ => trivial))
    replace RV5 := Lib.hid (Kd.R_mono (Kd.R_step (Kd.R_types RV5.out BK141.out (by decide)) (fun k hk _ => hs_ k hk.2)) (ok' := fun _ => True) (fun _ _ => trivial))
    replace BK9 := Lib.hid ((hs_ gb9 NB9_141.out).trans BK9.out)
    replace BK12 := Lib.hid ((hs_ gb12 NB12_141.out).trans BK12.out)
    replace BK141 := Lib.hid hq1_
    replace HB := Lib.hid hq2_
    clear hs_ hq1_ hq2_
    obtain ⟨yc0, yc1, yc2, yc3, yc4, yc5, yc6, yf0, yf1, yf2, yf3, yf4, yf5, yf6⟩ := cs7 BK141.out
    obtain ⟨zc0, zc1, zc2, zc3, zc4, zc5, zf0, zf1, zf2, zf3, zf4, zf5⟩ := cs6 BK9.out
    by_cases hf1 : s7 = true
    case neg =>
      replace hf1 := Bool.eq_false_iff.mpr hf1
      subst hf1
      go_wp2_with fail
      clear yc0 yf0 yc1 yf1 yc2 yf2 yc3 yf3 yc4 yf4 yc5 yf5 yc6 yf6
      clear zc0 zf0 zc1 zf1 zc2 zf2 zc3 zf3 zc4 zf4 zc5 zf5
      rw [rounds_succ]
      obtain ⟨zc0, zc1, zc2, zc3, zc4, zc5, zf0, zf1, zf2, zf3, zf4, zf5⟩ := cs6 BK9.out
      go_wp2_with fail
      go_region
      go_wp2_with fail
      clear zc0 zf0 zc1 zf1 zc2 zf2 zc3 zf3 zc4 zf4 zc5 zf5
      have h := H.out
      unfold cell_Newest.of at h
      rw [if_neg (fun z => by have a_ := hv0.out; have b_ := z.2.2; omega), if_neg (fun z => Bool.false_ne_true z.1)] at h
      simp only [Prod.mk.injEq] at h
      obtain ⟨rfl, rfl, rfl, rfl, rfl, rfl, rfl, rfl, rfl⟩ := h
      clear H
      obtain ⟨hq1_, hq2_, hs_⟩ := st6_0_6 HB.out GE9.out BK9.out (.int .u8 0) (.int .i64 0) (.int .i64 0) (.int .i64 0) (.slice none 0 0) (.slice none 0 0)
      replace hq1_ := blk_drew hq1_
      replace hq2_ := below_drew1 hq2_
      have hsd_ : ∀ k, k ≠ gb9 → (((((((wb1.setCell ⟨gb9, 0, none⟩ (.int .u8 0)).setCell ⟨gb9, 1, none⟩ (.int .i64 0)).setCell ⟨gb9, 2, none⟩ (.int .i64 0)).setCell ⟨gb9, 3, none⟩ (.int .i64 0)).setCell ⟨gb9, 4, none⟩ (.slice none 0 0)).setCell ⟨gb9, 5, none⟩ (.slice none 0 0)).drew).heap[k]? = wb1.heap[k]? := fun k hk => (drew_heap _ k).trans (hs_ k hk)
      clear hs_
      have hs_ := hsd_
      clear hsd_
      generalize ((((((wb1.setCell ⟨gb9, 0, none⟩ (.int .u8 0)).setCell ⟨gb9, 1, none⟩ (.int .i64 0)).setCell ⟨gb9, 2, none⟩ (.int .i64 0)).setCell ⟨gb9, 3, none⟩ (.int .i64 0)).setCell ⟨gb9, 4, none⟩ (.slice none 0 0)).setCell ⟨gb9, 5, none⟩ (.slice none 0 0)).drew = wz at hs_ hq1_ hq2_ ⊢
      replace RU4 := Lib.hid (Kd.R_mono (Kd.R_step (Kd.R_types RU4.out BK9.out (by decide)) (fun k hk _ => hs_ k hk.2)) (ok' := fun _ => True) (fun _ _ => trivial))
      replace RU5 := Lib.hid (Kd.R_mono (Kd.R_step (Kd.R_types RU5.out BK9.out (by decide)) (fun k hk _ => hs_ k hk.2)) (ok' := fun _ => True) (fun _ _ => trivial))
      replace RV4 := Lib.hid (Kd.R_mono (Kd.R_step (Kd.R_types RV4.out BK9.out (by decide)) (fun k hk _ => hs_ k hk.2)) (ok' := fun _ => True) (fun _ _ => trivial))
      replace RV5 := Lib.hid (Kd.R_mono (Kd.R_step (Kd.R_types RV5.out BK9.out (by decide)) (fun k hk _ => hs_ k hk.2)) (ok' := fun _ => True) (fun _ _ => trivial))
      replace BK9 := Lib.hid hq1_
      replace HB := Lib.hid hq2_
      clear hs_ hq1_ hq2_
      refine bodyPost_ret (results_tctt rfl _ _ gb9 27 #[.int .u8 0, .int .i64 0, .int .i64 0, .int .i64 0, .slice none 0 0, .slice none 0 0] (0, 0) _ rfl BK9.out Try.underlying27 rfl (by kernel_rfl)) rfl ?_
      exact ⟨_, _, rfl, Kd.R_nil _ _ _ _ _, Kd.R_nil _ _ _ _ _, HB.out⟩
    subst hf1
    by_cases hk1 : s1 = kind
    case neg =>
      have hk1b : (s1 == kind) = false := beq_eq_false_iff_ne.mpr hk1
      replace hk1 := Lib.hid hk1
      go_wp2_with fail
      clear yc0 yf0 yc1 yf1 yc2 yf2 yc3 yf3 yc4 yf4 yc5 yf5 yc6 yf6
      clear zc0 zf0 zc1 zf1 zc2 zf2 zc3 zf3 zc4 zf4 zc5 zf5
      rw [rounds_succ]
      obtain ⟨zc0, zc1, zc2, zc3, zc4, zc5, zf0, zf1, zf2, zf3, zf4, zf5⟩ := cs6 BK9.out
      go_wp2_with fail
      go_region
      go_wp2_with fail
      clear zc0 zf0 zc1 zf1 zc2 zf2 zc3 zf3 zc4 zf4 zc5 zf5
      have h := H.out
      unfold cell_Newest.of at h
      rw [if_neg (fun z => by have a_ := hv0.out; have b_ := z.2.2; omega), if_neg (fun z => hk1.out z.2.1)] at h
      simp only [Prod.mk.injEq] at h
      obtain ⟨rfl, rfl, rfl, rfl, rfl, rfl, rfl, rfl, rfl⟩ := h
      clear H
      obtain ⟨hq1_, hq2_, hs_⟩ := st6_0_6 HB.out GE9.out BK9.out (.int .u8 0) (.int .i64 0) (.int .i64 0) (.int .i64 0) (.slice none 0 0) (.slice none 0 0)
      replace hq1_ := blk_drew hq1_
      replace hq2_ := below_drew1 hq2_
      have hsd_ : ∀ k, k ≠ gb9 → (((((((wb1.setCell ⟨gb9, 0, none⟩ (.int .u8 0)).setCell ⟨gb9, 1, none⟩ (.int .i64 0)).setCell ⟨gb9, 2, none⟩ (.int .i64 0)).setCell ⟨gb9, 3, none⟩ (.int .i64 0)).setCell ⟨gb9, 4, none⟩ (.slice none 0 0)).setCell ⟨gb9, 5, none⟩ (.slice none 0 0)).drew).heap[k]? = wb1.heap[k]? := fun k hk => (drew_heap _ k).trans (hs_ k hk)
      clear hs_
      have hs_ := hsd_
      clear hsd_
      generalize ((((((wb1.setCell ⟨gb9, 0, none⟩ (.int .u8 0)).setCell ⟨gb9, 1, none⟩ (.int .i64 0)).setCell ⟨gb9, 2, none⟩ (.int .i64 0)).setCell ⟨gb9, 3, none⟩ (.int .i64 0)).setCell ⟨gb9, 4, none⟩ (.slice none 0 0)).setCell ⟨gb9, 5, none⟩ (.slice none 0 0)).drew = wz at hs_ hq1_ hq2_ ⊢
      replace RU4 := Lib.hid (Kd.R_mono (Kd.R_step (Kd.R_types RU4.out BK9.out (by decide)) (fun k hk _ => hs_ k hk.2)) (ok' := fun _ => True) (fun _ _ => trivial))
      replace RU5 := Lib.hid (Kd.R_mono (Kd.R_step (Kd.R_types RU5.out BK9.out (by decide)) (fun k hk _ => hs_ k hk.2)) (ok' := fun _ => True) (fun _ _ => trivial))
      replace RV4 := Lib.hid (Kd.R_mono (Kd.R_step (Kd.R_types RV4.out BK9.out (by decide)) (fun k hk _ => hs_ k hk.2)) (ok' := fun _ => True) (fun _ _ => trivial))
      replace RV5 := Lib.hid (Kd.R_mono (Kd.R_step (Kd.R_types RV5.out BK9.out (by decide)) (fun k hk _ => hs_ k hk.2)) (ok' := fun _ => True) (fun _ _ => trivial))
      replace BK9 := Lib.hid hq1_
      replace HB := Lib.hid hq2_
      clear hs_ hq1_ hq2_
      refine bodyPost_ret (results_tctt rfl _ _ gb9 27 #[.int .u8 0, .int .i64 0, .int .i64 0, .int .i64 0, .slice none 0 0, .slice none 0 0] (0, 0) _ rfl BK9.out Try.underlying27 rfl (by kernel_rfl)) rfl ?_
      exact ⟨_, _, rfl, Kd.R_nil _ _ _ _ _, Kd.R_nil _ _ _ _ _, HB.out⟩
    have hk1b : (s1 == kind) = true := beq_iff_eq.mpr hk1
    replace hk1 := Lib.hid hk1
    by_cases hv1 : 0 < s3
    case neg =>
      have hv1b : decide (0 < s3) = false := decide_eq_false hv1
      have hv1c : decide (s3 > 0) = false := decide_eq_false hv1
      replace hv1 := Lib.hid hv1
      go_wp2_with fail
      clear yc0 yf0 yc1 yf1 yc2 yf2 yc3 yf3 yc4 yf4 yc5 yf5 yc6 yf6
      clear zc0 zf0 zc1 zf1 zc2 zf2 zc3 zf3 zc4 zf4 zc5 zf5
      rw [rounds_succ]
      obtain ⟨zc0, zc1, zc2, zc3, zc4, zc5, zf0, zf1, zf2, zf3, zf4, zf5⟩ := cs6 BK9.out
      go_wp2_with fail
      go_region
      go_wp2_with fail
      clear zc0 zf0 zc1 zf1 zc2 zf2 zc3 zf3 zc4 zf4 zc5 zf5
      have h := H.out
      unfold cell_Newest.of at h
      rw [if_neg (fun z => by have a_ := hv0.out; have b_ := z.2.2; omega), if_neg (fun z => by have a_ := hv1.out; have b_ := z.2.2; omega)] at h
      simp only [Prod.mk.injEq] at h
      obtain ⟨rfl, rfl, rfl, rfl, rfl, rfl, rfl, rfl, rfl⟩ := h
      clear H
      obtain ⟨hq1_, hq2_, hs_⟩ := st6_0_6 HB.out GE9.out BK9.out (.int .u8 0) (.int .i64 0) (.int .i64 0) (.int .i64 0) (.slice none 0 0) (.slice none 0 0)
      replace hq1_ := blk_drew hq1_
      replace hq2_ := below_drew1 hq2_
      have hsd_ : ∀ k, k ≠ gb9 → (((((((wb1.setCell ⟨gb9, 0, none⟩ (.int .u8 0)).setCell ⟨gb9, 1, none⟩ (.int .i64 0)).setCell ⟨gb9, 2, none⟩ (.int .i64 0)).setCell ⟨gb9, 3, none⟩ (.int .i64 0)).setCell ⟨gb9, 4, none⟩ (.slice none 0 0)).setCell ⟨gb9, 5, none⟩ (.slice none 0 0)).drew).heap[k]? = wb1.heap[k]? := fun k hk => (drew_heap _ k).trans (hs_ k hk)
      clear hs_
      have hs_ := hsd_
      clear hsd_
      generalize ((((((wb1.setCell ⟨gb9, 0, none⟩ (.int .u8 0)).setCell ⟨gb9, 1, none⟩ (.int .i64 0)).setCell ⟨gb9, 2, none⟩ (.int .i64 0)).setCell ⟨gb9, 3, none⟩ (.int .i64 0)).setCell ⟨gb9, 4, none⟩ (.slice none 0 0)).setCell ⟨gb9, 5, none⟩ (.slice none 0 0)).drew = wz at hs_ hq1_ hq2_ ⊢
      replace RU4 := Lib.hid (Kd.R_mono (Kd.R_step (Kd.R_types RU4.out BK9.out (by decide)) (fun k hk _ => hs_ k hk.2)) (ok' := fun _ => True) (fun _ _ => trivial))
      replace RU5 := Lib.hid (Kd.R_mono (Kd.R_step (Kd.R_types RU5.out BK9.out (by decide)) (fun k hk _ => hs_ k hk.2)) (ok' := fun _ => True) (fun _ _ => trivial))
      replace RV4 := Lib.hid (Kd.R_mono (Kd.R_step (Kd.R_types RV4.out BK9.out (by decide)) (fun k hk _ => hs_ k hk.2)) (ok' := fun _ => True) (fun _ _ => trivial))
      replace RV5 := Lib.hid (Kd.R_mono (Kd.R_step (Kd.R_types RV5.out BK9.out (by decide)) (fun k hk _ => hs_ k hk.2)) (ok' := fun _ => True) (fun _ _ => trivial))
      replace BK9 := Lib.hid hq1_
      replace HB := Lib.hid hq2_
      clear hs_ hq1_ hq2_
      refine bodyPost_ret (results_tctt rfl _ _ gb9 27 #[.int .u8 0, .int .i64 0, .int .i64 0, .int .i64 0, .slice none 0 0, .slice none 0 0] (0, 0) _ rfl BK9.out Try.underlying27 rfl (by kernel_rfl)) rfl ?_
      exact ⟨_, _, rfl, Kd.R_nil _ _ _ _ _, Kd.R_nil _ _ _ _ _, HB.out⟩
    have hv1b : decide (0 < s3) = true := decide_eq_true hv1
    have hv1c : decide (s3 > 0) = true := decide_eq_true hv1
    replace hv1 := Lib.hid hv1
    go_upto_region 8 with fail
    go_region
    clear yc0 yf0 yc1 yf1 yc2 yf2 yc3 yf3 yc4 yf4 yc5 yf5 yc6 yf6
    clear zc0 zf0 zc1 zf1 zc2 zf2 zc3 zf3 zc4 zf4 zc5 zf5
    obtain ⟨hq1_, hq2_, hs_⟩ := st6_0_6 HB.out GE9.out BK9.out (.int .u8 s1) (.int .i64 s2) (.int .i64 s3) (.int .i64 s4) (.slice Y4 s5.length y4) (.slice Y5 s6.length y5)
    replace hq1_ := blk_drew hq1_
    replace hq2_ := below_drew1 hq2_
    have hsd_ : ∀ k, k ≠ gb9 → (((((((wb1.setCell ⟨gb9, 0, none⟩ (.int .u8 s1)).setCell ⟨gb9, 1, none⟩ (.int .i64 s2)).setCell ⟨gb9, 2, none⟩ (.int .i64 s3)).setCell ⟨gb9, 3, none⟩ (.int .i64 s4)).setCell ⟨gb9, 4, none⟩ (.slice Y4 s5.length y4)).setCell ⟨gb9, 5, none⟩ (.slice Y5 s6.length y5)).drew).heap[k]? = wb1.heap[k]? := fun k hk => (drew_heap _ k).trans (hs_ k hk)
    clear hs_
    have hs_ := hsd_
    clear hsd_
    generalize ((((((wb1.setCell ⟨gb9, 0, none⟩ (.int .u8 s1)).setCell ⟨gb9, 1, none⟩ (.int .i64 s2)).setCell ⟨gb9, 2, none⟩ (.int .i64 s3)).setCell ⟨gb9, 3, none⟩ (.int .i64 s4)).setCell ⟨gb9, 4, none⟩ (.slice Y4 s5.length y4)).setCell ⟨gb9, 5, none⟩ (.slice Y5 s6.length y5)).drew = wc1 at hs_ hq1_ hq2_ ⊢
    replace RU4 := Lib.hid (Kd.R_mono (Kd.R_step (Kd.R_types RU4.out BK9.out (by decide)) (fun k hk _ => hs_ k hk.2)) (ok' := fun _ => True) (fun _ _ => trivial))
    replace RU5 := Lib.hid (Kd.R_mono (Kd.R_step (Kd.R_types RU5.out BK9.out (by decide)) (fun k hk _ => hs_ k hk.2)) (ok' := fun _ => True) (fun _ _ => trivial))
    replace RV4 := Lib.hid (Kd.R_mono (Kd.R_step (Kd.R_types RV4.out BK9.out (by decide)) (fun k hk _ => hs_ k hk.2)) (ok' := fun _ => True) (fun _ _ => trivial))
    replace RV5 := Lib.hid (Kd.R_mono (Kd.R_step (Kd.R_types RV5.out BK9.out (by decide)) (fun k hk _ => hs_ k hk.2)) (ok' := fun _ => True) (fun _ _ => trivial))
    replace BK12 := Lib.hid ((hs_ gb12 NB12_9.out).trans BK12.out)
    replace BK9 := Lib.hid hq1_
    replace HB := Lib.hid hq2_
    clear hs_ hq1_ hq2_
    go_wp2_with fail
    rw [rounds_succ]
    obtain ⟨zc0, zc1, zc2, zc3, zc4, zc5, zf0, zf1, zf2, zf3, zf4, zf5⟩ := cs6 BK9.out
    go_wp2_with fail
    go_region
    go_wp2_with fail
    clear zc0 zf0 zc1 zf1 zc2 zf2 zc3 zf3 zc4 zf4 zc5 zf5
    have h := H.out
    unfold cell_Newest.of at h
    rw [if_neg (fun z => by have a_ := hv0.out; have b_ := z.2.2; omega), if_pos ⟨rfl, hk1.out, by have a_ := hv1.out; omega⟩] at h
    simp only [Prod.mk.injEq] at h
    obtain ⟨rfl, rfl, rfl, rfl, rfl, rfl, rfl, rfl, rfl⟩ := h
    clear H
    obtain ⟨hq1_, hq2_, hs_⟩ := st6_0_6 HB.out GE9.out BK9.out (.int .u8 s1) (.int .i64 s2) (.int .i64 s3) (.int .i64 s4) (.slice Y4 s5.length y4) (.slice Y5 s6.length y5)
    replace hq1_ := blk_drew hq1_
    replace hq2_ := below_drew1 hq2_
    have hsd_ : ∀ k, k ≠ gb9 → (((((((wc1.setCell ⟨gb9, 0, none⟩ (.int .u8 s1)).setCell ⟨gb9, 1, none⟩ (.int .i64 s2)).setCell ⟨gb9, 2, none⟩ (.int .i64 s3)).setCell ⟨gb9, 3, none⟩ (.int .i64 s4)).setCell ⟨gb9, 4, none⟩ (.slice Y4 s5.length y4)).setCell ⟨gb9, 5, none⟩ (.slice Y5 s6.length y5)).drew).heap[k]? = wc1.heap[k]? := fun k hk => (drew_heap _ k).trans (hs_ k hk)
    clear hs_
    have hs_ := hsd_
    clear hsd_
    generalize ((((((wc1.setCell ⟨gb9, 0, none⟩ (.int .u8 s1)).setCell ⟨gb9, 1, none⟩ (.int .i64 s2)).setCell ⟨gb9, 2, none⟩ (.int .i64 s3)).setCell ⟨gb9, 3, none⟩ (.int .i64 s4)).setCell ⟨gb9, 4, none⟩ (.slice Y4 s5.length y4)).setCell ⟨gb9, 5, none⟩ (.slice Y5 s6.length y5)).drew = wz at hs_ hq1_ hq2_ ⊢
    replace RU4 := Lib.hid (Kd.R_mono (Kd.R_step (Kd.R_types RU4.out BK9.out (by decide)) (fun k hk _ => hs_ k hk.2)) (ok' := fun _ => True) (fun _ _ => trivial))
    replace RU5 := Lib.hid (Kd.R_mono (Kd.R_step (Kd.R_types RU5.out BK9.out (by decide)) (fun k hk _ => hs_ k hk.2)) (ok' := fun _ => True) (fun _ _ => trivial))
    replace RV4 := Lib.hid (Kd.R_mono (Kd.R_step (Kd.R_types RV4.out BK9.out (by decide)) (fun k hk _ => hs_ k hk.2)) (ok' := fun _ => True) (fun _ _ => trivial))
    replace RV5 := Lib.hid (Kd.R_mono (Kd.R_step (Kd.R_types RV5.out BK9.out (by decide)) (fun k hk _ => hs_ k hk.2)) (ok' := fun _ => True) (fun _ _ => trivial))
    replace BK9 := Lib.hid hq1_
    replace HB := Lib.hid hq2_
    clear hs_ hq1_ hq2_
    refine bodyPost_ret (results_tctt rfl _ _ gb9 27 #[.int .u8 s1, .int .i64 s2, .int .i64 s3, .int .i64 s4, .slice Y4 s5.length y4, .slice Y5 s6.length y5] (0, 0) _ rfl BK9.out Try.underlying27 rfl (by kernel_rfl)) rfl ?_
    exact ⟨_, _, rfl, RV4.out, RV5.out, HB.out⟩
  have hv0b : decide (0 < r3) = true := decide_eq_true hv0
  have hv0c : decide (r3 > 0) = true := decide_eq_true hv0
  replace hv0 := Lib.hid hv0
  go_upto_region 8 with fail
  go_region
  clear yc0 yf0 yc1 yf1 yc2 yf2 yc3 yf3 yc4 yf4 yc5 yf5 yc6 yf6
  clear zc0 zf0 zc1 zf1 zc2 zf2 zc3 zf3 zc4 zf4 zc5 zf5
  obtain ⟨hq1_, hq2_, hs_⟩ := st6_0_6 HB.out GE9.out BK9.out (.int .u8 r1) (.int .i64 r2) (.int .i64 r3) (.int .i64 r4) (.slice X4 r5.length x4) (.slice X5 r6.length x5)
  replace hq1_ := blk_drew hq1_
  replace hq2_ := below_drew1 hq2_
  have hsd_ : ∀ k, k ≠ gb9 → (((((((wb0.setCell ⟨gb9, 0, none⟩ (.int .u8 r1)).setCell ⟨gb9, 1, none⟩ (.int .i64 r2)).setCell ⟨gb9, 2, none⟩ (.int .i64 r3)).setCell ⟨gb9, 3, none⟩ (.int .i64 r4)).setCell ⟨gb9, 4, none⟩ (.slice X4 r5.length x4)).setCell ⟨gb9, 5, none⟩ (.slice X5 r6.length x5)).drew).heap[k]? = wb0.heap[k]? := fun k hk => (drew_heap _ k).trans (hs_ k hk)
  clear hs_
  have hs_ := hsd_
  clear hsd_
  generalize ((((((wb0.setCell ⟨gb9, 0, none⟩ (.int .u8 r1)).setCell ⟨gb9, 1, none⟩ (.int .i64 r2)).setCell ⟨gb9, 2, none⟩ (.int .i64 r3)).setCell ⟨gb9, 3, none⟩ (.int .i64 r4)).setCell ⟨gb9, 4, none⟩ (.slice X4 r5.length x4)).setCell ⟨gb9, 5, none⟩ (.slice X5 r6.length x5)).drew = wc0 at hs_ hq1_ hq2_ ⊢
  replace RU4 := Lib.hid (Kd.R_mono (Kd.R_step (Kd.R_types RU4.out BK9.out (by decide)) (fun k hk _ => hs_ k hk.2)) (ok' := fun _ => True) (fun _ _ => trivial))
  replace RU5 := Lib.hid (Kd.R_mono (Kd.R_step (Kd.R_types RU5.out BK9.out (by decide)) (fun k hk _ => hs_ k hk.2)) (ok' := fun _ => True) (fun _ _ => trivial))
  replace RV4 := Lib.hid (Kd.R_mono (Kd.R_step (Kd.R_types RV4.out BK9.out (by decide)) (fun k hk _ => hs_ k hk.2)) (ok' := fun _ => True) (fun _ _ => trivial))
  replace RV5 := Lib.hid (Kd.R_mono (Kd.R_step (Kd.R_types RV5.out BK9.out (by decide)) (fun k hk _ => hs_ k hk.2)) (ok' := fun _ => True) (fun _ _ => trivial))
  replace BK12 := Lib.hid ((hs_ gb12 NB12_9.out).trans BK12.out)
  replace BK9 := Lib.hid hq1_
  replace HB := Lib.hid hq2_
  clear hs_ hq1_ hq2_
  go_wp2_with fail
  rw [rounds_succ]
  go_upto_region 6 with fail
  go_upto_region 7 with (first | ((with_reducible refine gate_dst (N := 14) rfl ?_); refine box_event ?hg (N := 14) ?hd (cs := #[.int .u8 0, .int .i64 0, .int .i64 0, .int .i64 0, .slice none 0 0, .slice none 0 0, .bool false]) (t := 60) ?hr ?_; (case hd => rfl); (case hg => rfl); (case hr => first | (go_simp; done) | (go_simp; rfl)); intro gb141 hg_ wa1 bk_ hb_; have GE141 := Lib.hid (show w.heap.size ≤ gb141 by rw [hg_]; exact below_size HB.out); have NB9_141 := Lib.hid (show gb9 ≠ gb141 by rw [hg_]; exact Nat.ne_of_lt (blk_lt BK9.out)); have NB141_9 := Lib.hid NB9_141.out.symm; replace BK9 := Lib.hid (blk_below BK9.out hb_); have NB12_141 := Lib.hid (show gb12 ≠ gb141 by rw [hg_]; exact Nat.ne_of_lt (blk_lt BK12.out)); have NB141_12 := Lib.hid NB12_141.out.symm; replace BK12 := Lib.hid (blk_below BK12.out hb_); have BK141 := Lib.hid bk_; replace RU4 := Lib.hid (Kd.R_below RU4.out hb_); replace RU5 := Lib.hid (Kd.R_below RU5.out hb_); replace RV4 := Lib.hid (Kd.R_below RV4.out hb_); replace RV5 := Lib.hid (Kd.R_below RV5.out hb_); replace HB := Lib.hid (below_step HB.out hb_); clear hb_ hg_ bk_; obtain ⟨yc0, yc1, yc2, yc3, yc4, yc5, yc6, yf0, yf1, yf2, yf3, yf4, yf5, yf6⟩ := cs7 BK141.out))
  clear yc0 yf0 yc1 yf1 yc2 yf2 yc3 yf3 yc4 yf4 yc5 yf5 yc6 yf6
  obtain ⟨hq1_, hq2_, hs_⟩ := st7_0_7 HB.out GE141.out BK141.out (.int .u8 s1) (.int .i64 s2) (.int .i64 s3) (.int .i64 s4) (.slice Y4 s5.length y4) (.slice Y5 s6.length y5) (.bool s7)
  generalize (((((((wa1.setCell ⟨gb141, 0, none⟩ (.int .u8 s1)).setCell ⟨gb141, 1, none⟩ (.int .i64 s2)).setCell ⟨gb141, 2, none⟩ (.int .i64 s3)).setCell ⟨gb141, 3, none⟩ (.int .i64 s4)).setCell ⟨gb141, 4, none⟩ (.slice Y4 s5.length y4)).setCell ⟨gb141, 5, none⟩ (.slice Y5 s6.length y5)).setCell ⟨gb141, 6, none⟩ (.bool s7)) = wb1 at hs_ hq1_ hq2_ ⊢
  replace RU4 := Lib.hid (Kd.R_mono (Kd.R_step (Kd.R_types RU4.out BK141.out (by decide)) (fun k hk _ => hs_ k hk.2)) (ok' := fun _ => True) (fun _ _ => trivial))
  replace RU5 := Lib.hid (Kd.R_mono (Kd.R_step (Kd.R_types RU5.out BK141.out (by decide)) (fun k hk _ => hs_ k hk.2)) (ok' := fun _ => True) (fun _ _ => trivial))
  replace RV4 := Lib.hid (Kd.R_mono (Kd.R_step (Kd.R_types RV4.out BK141.out (by decide)) (fun k hk _ => hs_ k hk.2)) (ok' := fun _ => True) (fun _ _ => trivial))
  replace RV5 := Lib.hid (Kd.R_mono (Kd.R_step (Kd.R_types RV5.out BK141.out (by decide)) (fun k hk _ => hs_ k hk.2)) (ok' := fun _ => True) (fun _ _ => trivial))
  replace BK9 := Lib.hid ((hs_ gb9 NB9_141.out).trans BK9.out)
  replace BK12 := Lib.hid ((hs_ gb12 NB12_141.out).trans BK12.out)
  replace BK141 := Lib.hid hq1_
  replace HB := Lib.hid hq2_
  clear hs_ hq1_ hq2_
  obtain ⟨yc0, yc1, yc2, yc3, yc4, yc5, yc6, yf0, yf1, yf2, yf3, yf4, yf5, yf6⟩ := cs7 BK141.out
  obtain ⟨zc0, zc1, zc2, zc3, zc4, zc5, zf0, zf1, zf2, zf3, zf4, zf5⟩ := cs6 BK9.out
  by_cases hf1 : s7 = true
  case neg =>
    replace hf1 := Bool.eq_false_iff.mpr hf1
    subst hf1
    go_wp2_with fail
    clear yc0 yf0 yc1 yf1 yc2 yf2 yc3 yf3 yc4 yf4 yc5 yf5 yc6 yf6
    clear zc0 zf0 zc1 zf1 zc2 zf2 zc3 zf3 zc4 zf4 zc5 zf5
    rw [rounds_succ]
    obtain ⟨zc0, zc1, zc2, zc3, zc4, zc5, zf0, zf1, zf2, zf3, zf4, zf5⟩ := cs6 BK9.out
    go_wp2_with fail
    go_region
    go_wp2_with fail
    clear zc0 zf0 zc1 zf1 zc2 zf2 zc3 zf3 zc4 zf4 zc5 zf5
    have h := H.out
    unfold cell_Newest.of at h
    rw [if_pos ⟨rfl, hk0.out, by have a_ := hv0.out; omega⟩, if_neg (fun z => Bool.false_ne_true z.1)] at h
    simp only [Prod.mk.injEq] at h
    obtain ⟨rfl, rfl, rfl, rfl, rfl, rfl, rfl, rfl, rfl⟩ := h
    clear H
    obtain ⟨hq1_, hq2_, hs_⟩ := st6_0_6 HB.out GE9.out BK9.out (.int .u8 r1) (.int .i64 r2) (.int .i64 r3) (.int .i64 r4) (.slice X4 r5.length x4) (.slice X5 r6.length x5)
    replace hq1_ := blk_drew hq1_
    replace hq2_ := below_drew1 hq2_
    have hsd_ : ∀ k, k ≠ gb9 → (((((((wb1.setCell ⟨gb9, 0, none⟩ (.int .u8 r1)).setCell ⟨gb9, 1, none⟩ (.int .i64 r2)).setCell ⟨gb9, 2, none⟩ (.int .i64 r3)).setCell ⟨gb9, 3, none⟩ (.int .i64 r4)).setCell ⟨gb9, 4, none⟩ (.slice X4 r5.length x4)).setCell ⟨gb9, 5, none⟩ (.slice X5 r6.length x5)).drew).heap[k]? = wb1.heap[k]? := fun k hk => (drew_heap _ k).trans (hs_ k hk)
    clear hs_
    have hs_ := hsd_
    clear hsd_
    generalize ((((((wb1.setCell ⟨gb9, 0, none⟩ (.int .u8 r1)).setCell ⟨gb9, 1, none⟩ (.int .i64 r2)).setCell ⟨gb9, 2, none⟩ (.int .i64 r3)).setCell ⟨gb9, 3, none⟩ (.int .i64 r4)).setCell ⟨gb9, 4, none⟩ (.slice X4 r5.length x4)).setCell ⟨gb9, 5, none⟩ (.slice X5 r6.length x5)).drew = wz at hs_ hq1_ hq2_ ⊢
    replace RU4 := Lib.hid (Kd.R_mono (Kd.R_step (Kd.R_types RU4.out BK9.out (by decide)) (fun k hk _ => hs_ k hk.2)) (ok' := fun _ => True) (fun _ _ => trivial))
    replace RU5 := Lib.hid (Kd.R_mono (Kd.R_step (Kd.R_types RU5.out BK9.out (by decide)) (fun k hk _ => hs_ k hk.2)) (ok' := fun _ => True) (fun _ _ => trivial))
    replace RV4 := Lib.hid (Kd.R_mono (Kd.R_step (Kd.R_types RV4.out BK9.out (by decide)) (fun k hk _ => hs_ k hk.2)) (ok' := fun _ => True) (fun _ _ => trivial))
    replace RV5 := Lib.hid (Kd.R_mono (Kd.R_step (Kd.R_types RV5.out BK9.out (by decide)) (fun k hk _ => hs_ k hk.2)) (ok' := fun _ => True) (fun _ _ => trivial))
    replace BK9 := Lib.hid hq1_
    replace HB := Lib.hid hq2_
    clear hs_ hq1_ hq2_
    refine bodyPost_ret (results_tctt rfl _ _ gb9 27 #[.int .u8 r1, .int .i64 r2, .int .i64 r3, .int .i64 r4, .slice X4 r5.length x4, .slice X5 r6.length x5] (0, 0) _ rfl BK9.out Try.underlying27 rfl (by kernel_rfl)) rfl ?_
    exact ⟨_, _, rfl, RU4.out, RU5.out, HB.out⟩
  subst hf1
  by_cases hk1 : s1 = kind
  case neg =>
    have hk1b : (s1 == kind) = false := beq_eq_false_iff_ne.mpr hk1
    replace hk1 := Lib.hid hk1
    go_wp2_with fail
    clear yc0 yf0 yc1 yf1 yc2 yf2 yc3 yf3 yc4 yf4 yc5 yf5 yc6 yf6
    clear zc0 zf0 zc1 zf1 zc2 zf2 zc3 zf3 zc4 zf4 zc5 zf5
    rw [rounds_succ]
    obtain ⟨zc0, zc1, zc2, zc3, zc4, zc5, zf0, zf1, zf2, zf3, zf4, zf5⟩ := cs6 BK9.out
    go_wp2_with fail
    go_region
    go_wp2_with fail
    clear zc0 zf0 zc1 zf1 zc2 zf2 zc3 zf3 zc4 zf4 zc5 zf5
    have h := H.out
    unfold cell_Newest.of at h
    rw [if_pos ⟨rfl, hk0.out, by have a_ := hv0.out; omega⟩, if_neg (fun z => hk1.out z.2.1)] at h
    simp only [Prod.mk.injEq] at h
    obtain ⟨rfl, rfl, rfl, rfl, rfl, rfl, rfl, rfl, rfl⟩ := h
    clear H
    obtain ⟨hq1_, hq2_, hs_⟩ := st6_0_6 HB.out GE9.out BK9.out (.int .u8 r1) (.int .i64 r2) (.int .i64 r3) (.int .i64 r4) (.slice X4 r5.length x4) (.slice X5 r6.length x5)
    replace hq1_ := blk_drew hq1_
    replace hq2_ := below_drew1 hq2_
    have hsd_ : ∀ k, k ≠ gb9 → (((((((wb1.setCell ⟨gb9, 0, none⟩ (.int .u8 r1)).setCell ⟨gb9, 1, none⟩ (.int .i64 r2)).setCell ⟨gb9, 2, none⟩ (.int .i64 r3)).setCell ⟨gb9, 3, none⟩ (.int .i64 r4)).setCell ⟨gb9, 4, none⟩ (.slice X4 r5.length x4)).setCell ⟨gb9, 5, none⟩ (.slice X5 r6.length x5)).drew).heap[k]? = wb1.heap[k]? := fun k hk => (drew_heap _ k).trans (hs_ k hk)
    clear hs_
    have hs_ := hsd_
    clear hsd_
    generalize ((((((wb1.setCell ⟨gb9, 0, none⟩ (.int .u8 r1)).setCell ⟨gb9, 1, none⟩ (.int .i64 r2)).setCell ⟨gb9, 2, none⟩ (.int .i64 r3)).setCell ⟨gb9, 3, none⟩ (.int .i64 r4)).setCell ⟨gb9, 4, none⟩ (.slice X4 r5.length x4)).setCell ⟨gb9, 5, none⟩ (.slice X5 r6.length x5)).drew = wz at hs_ hq1_ hq2_ ⊢
    replace RU4 := Lib.hid (Kd.R_mono (Kd.R_step (Kd.R_types RU4.out BK9.out (by decide)) (fun k hk _ => hs_ k hk.2)) (ok' := fun _ => True) (fun _ _ => trivial))
    replace RU5 := Lib.hid (Kd.R_mono (Kd.R_step (Kd.R_types RU5.out BK9.out (by decide)) (fun k hk _ => hs_ k hk.2)) (ok' := fun _ => True) (fun _ _ => trivial))
    replace RV4 := Lib.hid (Kd.R_mono (Kd.R_step (Kd.R_types RV4.out BK9.out (by decide)) (fun k hk _ => hs_ k hk.2)) (ok' := fun _ => True) (fun _ _ => trivial))
    replace RV5 := Lib.hid (Kd.R_mono (Kd.R_step (Kd.R_types RV5.out BK9.out (by decide)) (fun k hk _ => hs_ k hk.2)) (ok' := fun _ => True) (fun _ _ => trivial))
    replace BK9 := Lib.hid hq1_
    replace HB := Lib.hid hq2_
    clear hs_ hq1_ hq2_
    refine bodyPost_ret (results_tctt rfl _ _ gb9 27 #[.int .u8 r1, .int .i64 r2, .int .i64 r3, .int .i64 r4, .slice X4 r5.length x4, .slice X5 r6.length x5] (0, 0) _ rfl BK9.out Try.underlying27 rfl (by kernel_rfl)) rfl ?_
    exact ⟨_, _, rfl, RU4.out, RU5.out, HB.out⟩
  have hk1b : (s1 == kind) = true := beq_iff_eq.mpr hk1
  replace hk1 := Lib.hid hk1
  by_cases hv1 : r3 < s3
  case neg =>
    have hv1b : decide (r3 < s3) = false := decide_eq_false hv1
    have hv1c : decide (s3 > r3) = false := decide_eq_false hv1
    replace hv1 := Lib.hid hv1
    go_wp2_with fail
    clear yc0 yf0 yc1 yf1 yc2 yf2 yc3 yf3 yc4 yf4 yc5 yf5 yc6 yf6
    clear zc0 zf0 zc1 zf1 zc2 zf2 zc3 zf3 zc4 zf4 zc5 zf5
    rw [rounds_succ]
    obtain ⟨zc0, zc1, zc2, zc3, zc4, zc5, zf0, zf1, zf2, zf3, zf4, zf5⟩ := cs6 BK9.out
    go_wp2_with fail
    go_region
    go_wp2_with fail
    clear zc0 zf0 zc1 zf1 zc2 zf2 zc3 zf3 zc4 zf4 zc5 zf5
    have h := H.out
    unfold cell_Newest.of at h
    rw [if_pos ⟨rfl, hk0.out, by have a_ := hv0.out; omega⟩, if_neg (fun z => by have a_ := hv1.out; have b_ := z.2.2; omega)] at h
    simp only [Prod.mk.injEq] at h
    obtain ⟨rfl, rfl, rfl, rfl, rfl, rfl, rfl, rfl, rfl⟩ := h
    clear H
    obtain ⟨hq1_, hq2_, hs_⟩ := st6_0_6 HB.out GE9.out BK9.out (.int .u8 r1) (.int .i64 r2) (.int .i64 r3) (.int .i64 r4) (.slice X4 r5.length x4) (.slice X5 r6.length x5)
    replace hq1_ := blk_drew hq1_
    replace hq2_ := below_drew1 hq2_
    have hsd_ : ∀ k, k ≠ gb9 → (((((((wb1.setCell ⟨gb9, 0, none⟩ (.int .u8 r1)).setCell ⟨gb9, 1, none⟩ (.int .i64 r2)).setCell ⟨gb9, 2, none⟩ (.int .i64 r3)).setCell ⟨gb9, 3, none⟩ (.int .i64 r4)).setCell ⟨gb9, 4, none⟩ (.slice X4 r5.length x4)).setCell ⟨gb9, 5, none⟩ (.slice X5 r6.length x5)).drew).heap[k]? = wb1.heap[k]? := fun k hk => (drew_heap _ k).trans (hs_ k hk)
    clear hs_
    have hs_ := hsd_
    clear hsd_
    generalize ((((((wb1.setCell ⟨gb9, 0, none⟩ (.int .u8 r1)).setCell ⟨gb9, 1, none⟩ (.int .i64 r2)).setCell ⟨gb9, 2, none⟩ (.int .i64 r3)).setCell ⟨gb9, 3, none⟩ (.int .i64 r4)).setCell ⟨gb9, 4, none⟩ (.slice X4 r5.length x4)).setCell ⟨gb9, 5, none⟩ (.slice X5 r6.length x5)).drew = wz at hs_ hq1_ hq2_ ⊢
    replace RU4 := Lib.hid (Kd.R_mono (Kd.R_step (Kd.R_types RU4.out BK9.out (by decide)) (fun k hk _ => hs_ k hk.2)) (ok' := fun _ => True) (fun _ _ => trivial))
    replace RU5 := Lib.hid (Kd.R_mono (Kd.R_step (Kd.R_types RU5.out BK9.out (by decide)) (fun k hk _ => hs_ k hk.2)) (ok' := fun _ => True) (fun _ _ => trivial))
    replace RV4 := Lib.hid (Kd.R_mono (Kd.R_step (Kd.R_types RV4.out BK9.out (by decide)) (fun k hk _ => hs_ k hk.2)) (ok' := fun _ => True) (fun _ _ => trivial))
    replace RV5 := Lib.hid (Kd.R_mono (Kd.R_step (Kd.R_types RV5.out BK9.out (by decide)) (fun k hk _ => hs_ k hk.2)) (ok' := fun _ => True) (fun _ _ => trivial))
    replace BK9 := Lib.hid hq1_
    replace HB := Lib.hid hq2_
    clear hs_ hq1_ hq2_
    refine bodyPost_ret (results_tctt rfl _ _ gb9 27 #[.int .u8 r1, .int .i64 r2, .int .i64 r3, .int .i64 r4, .slice X4 r5.length x4, .slice X5 r6.length x5] (0, 0) _ rfl BK9.out Try.underlying27 rfl (by kernel_rfl)) rfl ?_
    exact ⟨_, _, rfl, RU4.out, RU5.out, HB.out⟩
  have hv1b : decide (r3 < s3) = true := decide_eq_true hv1
  have hv1c : decide (s3 > r3) = true := decide_eq_true hv1
  replace hv1 := Lib.hid hv1
  go_upto_region 8 with fail
  go_region
  clear yc0 yf0 yc1 yf1 yc2 yf2 yc3 yf3 yc4 yf4 yc5 yf5 yc6 yf6
  clear zc0 zf0 zc1 zf1 zc2 zf2 zc3 zf3 zc4 zf4 zc5 zf5
  obtain ⟨hq1_, hq2_, hs_⟩ := st6_0_6 HB.out GE9.out BK9.out (.int .u8 s1) (.int .i64 s2) (.int .i64 s3) (.int .i64 s4) (.slice Y4 s5.length y4) (.slice Y5 s6.length y5)
  replace hq1_ := blk_drew hq1_
  replace hq2_ := below_drew1 hq2_
  have hsd_ : ∀ k, k ≠ gb9 → (((((((wb1.setCell ⟨gb9, 0, none⟩ (.int .u8 s1)).setCell ⟨gb9, 1, none⟩ (.int .i64 s2)).setCell ⟨gb9, 2, none⟩ (.int .i64 s3)).setCell ⟨gb9, 3, none⟩ (.int .i64 s4)).setCell ⟨gb9, 4, none⟩ (.slice Y4 s5.length y4)).setCell ⟨gb9, 5, none⟩ (.slice Y5 s6.length y5)).drew).heap[k]? = wb1.heap[k]? := fun k hk => (drew_heap _ k).trans (hs_ k hk)
  clear hs_
  have hs_ := hsd_
  clear hsd_
  generalize ((((((wb1.setCell ⟨gb9, 0, none⟩ (.int .u8 s1)).setCell ⟨gb9, 1, none⟩ (.int .i64 s2)).setCell ⟨gb9, 2, none⟩ (.int .i64 s3)).setCell ⟨gb9, 3, none⟩ (.int .i64 s4)).setCell ⟨gb9, 4, none⟩ (.slice Y4 s5.length y4)).setCell ⟨gb9, 5, none⟩ (.slice Y5 s6.length y5)).drew = wc1 at hs_ hq1_ hq2_ ⊢
  replace RU4 := Lib.hid (Kd.R_mono (Kd.R_step (Kd.R_types RU4.out BK9.out (by decide)) (fun k hk _ => hs_ k hk.2)) (ok' := fun _ => True) (fun _ _ => trivial))
  replace RU5 := Lib.hid (Kd.R_mono (Kd.R_step (Kd.R_types RU5.out BK9.out (by decide)) (fun k hk _ => hs_ k hk.2)) (ok' := fun _ => True) (fun _ _ => trivial))
  replace RV4 := Lib.hid (Kd.R_mono (Kd.R_step (Kd.R_types RV4.out BK9.out (by decide)) (fun k hk _ => hs_ k hk.2)) (ok' := fun _ => True) (fun _ _ => trivial))
  replace RV5 := Lib.hid (Kd.R_mono (Kd.R_step (Kd.R_types RV5.out BK9.out (by decide)) (fun k hk _ => hs_ k hk.2)) (ok' := fun _ => True) (fun _ _ => trivial))
  replace BK12 := Lib.hid ((hs_ gb12 NB12_9.out).trans BK12.out)
  replace BK9 := Lib.hid hq1_
  replace HB := Lib.hid hq2_
  clear hs_ hq1_ hq2_
  go_wp2_with fail
  rw [rounds_succ]
  obtain ⟨zc0, zc1, zc2, zc3, zc4, zc5, zf0, zf1, zf2, zf3, zf4, zf5⟩ := cs6 BK9.out
  go_wp2_with fail
  go_region
  go_wp2_with fail
  clear zc0 zf0 zc1 zf1 zc2 zf2 zc3 zf3 zc4 zf4 zc5 zf5
  have h := H.out
  unfold cell_Newest.of at h
  rw [if_pos ⟨rfl, hk0.out, by have a_ := hv0.out; omega⟩, if_pos ⟨rfl, hk1.out, by have a_ := hv1.out; omega⟩] at h
  simp only [Prod.mk.injEq] at h
  obtain ⟨rfl, rfl, rfl, rfl, rfl, rfl, rfl, rfl, rfl⟩ := h
  clear H
  obtain ⟨hq1_, hq2_, hs_⟩ := st6_0_6 HB.out GE9.out BK9.out (.int .u8 s1) (.int .i64 s2) (.int .i64 s3) (.int .i64 s4) (.slice Y4 s5.length y4) (.slice Y5 s6.length y5)
  replace hq1_ := blk_drew hq1_
  replace hq2_ := below_drew1 hq2_
  have hsd_ : ∀ k, k ≠ gb9 → (((((((wc1.setCell ⟨gb9, 0, none⟩ (.int .u8 s1)).setCell ⟨gb9, 1, none⟩ (.int .i64 s2)).setCell ⟨gb9, 2, none⟩ (.int .i64 s3)).setCell ⟨gb9, 3, none⟩ (.int .i64 s4)).setCell ⟨gb9, 4, none⟩ (.slice Y4 s5.length y4)).setCell ⟨gb9, 5, none⟩ (.slice Y5 s6.length y5)).drew).heap[k]? = wc1.heap[k]? := fun k hk => (drew_heap _ k).trans (hs_ k hk)
  clear hs_
  have hs_ := hsd_
  clear hsd_
  generalize ((((((wc1.setCell ⟨gb9, 0, none⟩ (.int .u8 s1)).setCell ⟨gb9, 1, none⟩ (.int .i64 s2)).setCell ⟨gb9, 2, none⟩ (.int .i64 s3)).setCell ⟨gb9, 3, none⟩ (.int .i64 s4)).setCell ⟨gb9, 4, none⟩ (.slice Y4 s5.length y4)).setCell ⟨gb9, 5, none⟩ (.slice Y5 s6.length y5)).drew = wz at hs_ hq1_ hq2_ ⊢
  replace RU4 := Lib.hid (Kd.R_mono (Kd.R_step (Kd.R_types RU4.out BK9.out (by decide)) (fun k hk _ => hs_ k hk.2)) (ok' := fun _ => True) (fun _ _ => trivial))
  replace RU5 := Lib.hid (Kd.R_mono (Kd.R_step (Kd.R_types RU5.out BK9.out (by decide)) (fun k hk _ => hs_ k hk.2)) (ok' := fun _ => True) (fun _ _ => trivial))
  replace RV4 := Lib.hid (Kd.R_mono (Kd.R_step (Kd.R_types RV4.out BK9.out (by decide)) (fun k hk _ => hs_ k hk.2)) (ok' := fun _ => True) (fun _ _ => trivial))
  replace RV5 := Lib.hid (Kd.R_mono (Kd.R_step (Kd.R_types RV5.out BK9.out (by decide)) (fun k hk _ => hs_ k hk.2)) (ok' := fun _ => True) (fun _ _ => trivial))
  replace BK9 := Lib.hid hq1_
  replace HB := Lib.hid hq2_
  clear hs_ hq1_ hq2_
  refine bodyPost_ret (results_tctt rfl _ _ gb9 27 #[.int .u8 s1, .int .i64 s2, .int .i64 s3, .int .i64 s4, .slice Y4 s5.length y4, .slice Y5 s6.length y5] (0, 0) _ rfl BK9.out Try.underlying27 rfl (by kernel_rfl)) rfl ?_
  exact ⟨_, _, rfl, RV4.out, RV5.out, HB.out⟩
end Go.Proofs.Ytihefjdabjmmaaa.PD
