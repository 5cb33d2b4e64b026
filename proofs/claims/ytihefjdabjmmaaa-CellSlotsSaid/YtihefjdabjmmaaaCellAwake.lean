/- awake answers true. No condition. -/
import Derived.Test.YtihefjdabjmmaaaCellFind
namespace Go.Proofs.Ytihefjdabjmmaaa.PD
open Go Go.RowKit Go.Proofs.YtihefjdabjmmaaaW.PrintWords Go.Proofs.YtihefjdabjmmaaaW.PrintLast Go.Proofs.YtihefjdabjmmaaaW.PrintMore
set_option linter.unusedVariables false
set_option maxHeartbeats 4000000 in
set_option maxRecDepth 100000 in
theorem cell_awake.calls (k : Nat) (w : World) (h1 : cell_Older.f k 2 1 16 8 [] [] 1 0 0 = some (0, 0)) (h2 : cell_Newest.f k 2 1 16 8 [] [] 9 0 = some (0, 0, 0, 0, 0, [], [], false, 2)) :
    Calls Try.prog 20 #[] w fun en w' => en = .returned (.bool true) ∧ Below w.heap.size w w' := by
  have hu23 := Try.underlying23
  have hu27 := Try.underlying27
  have hu42 := Try.underlying42
  have HB := Lib.hid (Below.refl w.heap.size w)
  have H1 := Lib.hid h1
  have H2 := Lib.hid h2
  clear h1 h2
  go_enter Try.func20, Try.ntmps20
  go_wp2_with fail
  refine (cell_Older.calls k 2 1 16 8 none 0 [] none 0 [] 1 0 0 0 0 _ (Kd.C_nil _ _) (Nat.le_refl _) (Kd.C_nil _ _) (Nat.le_refl _) H1.out).mono ?_
  rintro en w4 ⟨rfl, hb⟩
  replace HB := Lib.hid (below_step HB.out hb)
  clear hb
  go_wp2_with fail
  refine (cell_Newest.calls k 2 1 16 8 none 0 [] none 0 [] 9 0 0 0 0 0 0 [] [] false 2 _ (Kd.C_nil _ _) (Nat.le_refl _) (Kd.C_nil _ _) (Nat.le_refl _) H2.out).mono ?_
  rintro en w5 ⟨u4, u5, rfl, ho4, ho5, hb⟩
  obtain ⟨X4, x4, rfl⟩ := Kd.R_slice ho4
  obtain ⟨X5, x5, rfl⟩ := Kd.R_slice ho5
  clear ho4 ho5
  replace HB := Lib.hid (below_step HB.out hb)
  clear hb
  go_upto_region 3 with (first | ((with_reducible refine gate_dst (N := 4) rfl ?_); refine box_event ?hg (N := 4) ?hd (cs := #[.int .u8 0, .int .i64 0, .int .i64 0, .int .i64 0, .slice none 0 0, .slice none 0 0]) (t := 27) ?hr ?_; (case hd => rfl); (case hg => rfl); (case hr => first | (go_simp; done) | (go_simp; rfl)); intro gb4 hg_ w6 bk_ hb_; have GE4 := Lib.hid (show w.heap.size ≤ gb4 by rw [hg_]; exact below_size HB.out); have BK4 := Lib.hid bk_; replace HB := Lib.hid (below_step HB.out hb_); clear hb_ hg_ bk_; obtain ⟨zc0, zc1, zc2, zc3, zc4, zc5, zf0, zf1, zf2, zf3, zf4, zf5⟩ := cs6 BK4.out))
  clear zc0 zf0 zc1 zf1 zc2 zf2 zc3 zf3 zc4 zf4 zc5 zf5
  try simp only [List.length_nil]
  obtain ⟨hq1_, hq2_, hs_⟩ := st6_0_6 HB.out GE4.out BK4.out (.int .u8 0) (.int .i64 0) (.int .i64 0) (.int .i64 0) (.slice X4 0 x4) (.slice X5 0 x5)
  generalize ((((((w6.setCell ⟨gb4, 0, none⟩ (.int .u8 0)).setCell ⟨gb4, 1, none⟩ (.int .i64 0)).setCell ⟨gb4, 2, none⟩ (.int .i64 0)).setCell ⟨gb4, 3, none⟩ (.int .i64 0)).setCell ⟨gb4, 4, none⟩ (.slice X4 0 x4)).setCell ⟨gb4, 5, none⟩ (.slice X5 0 x5)) = w7 at hs_ hq1_ hq2_ ⊢
  replace BK4 := Lib.hid hq1_
  replace HB := Lib.hid hq2_
  clear hs_ hq1_ hq2_
  go_wp2_with fail
  go_ret
  exact ⟨rfl, HB.out⟩
end Go.Proofs.Ytihefjdabjmmaaa.PD
