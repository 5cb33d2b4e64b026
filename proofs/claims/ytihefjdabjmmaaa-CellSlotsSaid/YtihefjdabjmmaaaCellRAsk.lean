/- What twoslotref11.asked does. No condition. -/
import Derived.Test.YtihefjdabjmmaaaCellTwin
import Derived.Test.YtihefjdabjmmaaaPDx13
import Derived.Deep.RegionHeld3
namespace Go.Proofs.Ytihefjdabjmmaaa.PD
open Go Go.RowKit Go.Proofs.YtihefjdabjmmaaaW.PrintWords Go.Proofs.YtihefjdabjmmaaaW.PrintLast Go.Proofs.YtihefjdabjmmaaaW.PrintMore
set_option linter.unusedVariables false
def rPair.f (sz : Int) (l0 l1 : List Int) : Bool := ((l0.length : Int) == 0 || (l0.length : Int) == sz) && ((l1.length : Int) == 0 || (l1.length : Int) == sz)
set_option maxHeartbeats 4000000 in
set_option maxRecDepth 100000 in
theorem rPair.calls (a0 a1 a2 a3 : Int) (A0 : Option Addr) (c0 : Nat) (l0 : List Int) (A1 : Option Addr) (c1 : Nat) (l1 : List Int) (sz : Int) (w : World)
    (hs : twoslotref06_Size.f a0 a1 a2 a3 = some sz) :
    Calls Try.prog 52 #[.agg #[.int .i64 a0, .int .i64 a1, .int .i64 a2, .int .i64 a3], .agg #[.slice A0 l0.length c0, .slice A1 l1.length c1]] w fun en w' => en = .returned (.bool (rPair.f sz l0 l1)) ∧ Below w.heap.size w w' := by
  have hu23 := Try.underlying23
  have hu42 := Try.underlying42
  have HB := Lib.hid (Below.refl w.heap.size w)
  have HS := Lib.hid hs
  clear hs
  go_enter Try.func52, Try.ntmps52
  go_upto_region 1 with (first | ((with_reducible refine gate_dst (N := 2) rfl ?_); refine box_event ?hg (N := 2) ?hd (cs := #[.int .i64 a0, .int .i64 a1, .int .i64 a2, .int .i64 a3]) (t := 23) ?hr ?_; (case hd => rfl); (case hg => rfl); (case hr => first | (go_simp; done) | (go_simp; rfl)); intro gb2 hg_ w1 bk_ hb_; have GE2 := Lib.hid (show w.heap.size ≤ gb2 by rw [hg_]; exact below_size HB.out); have BK2 := Lib.hid bk_; replace HB := Lib.hid (below_step HB.out hb_); clear hb_ hg_ bk_) | ((with_reducible refine gate_dst (N := 3) rfl ?_); refine box_event ?hg (N := 3) ?hd (cs := #[.slice A0 l0.length c0, .slice A1 l1.length c1]) (t := 42) ?hr ?_; (case hd => rfl); (case hg => rfl); (case hr => first | (go_simp; done) | (go_simp; rfl)); intro gb3 hg_ w2 bk_ hb_; have GE3 := Lib.hid (show w.heap.size ≤ gb3 by rw [hg_]; exact below_size HB.out); have NB2_3 := Lib.hid (show gb2 ≠ gb3 by rw [hg_]; exact Nat.ne_of_lt (blk_lt BK2.out)); have NB3_2 := Lib.hid NB2_3.out.symm; replace BK2 := Lib.hid (blk_below BK2.out hb_); have BK3 := Lib.hid bk_; replace HB := Lib.hid (below_step HB.out hb_); clear hb_ hg_ bk_))
  have hi0 := tw_ia0 gb3
  have hi1 := tw_ia1 gb3
  go_wp2_with fail
  refine wp_loop_rounds 3 ?_
  rw [rounds_succ]
  go_wp2_with fail
  by_cases hz0 : (l0.length : Int) = 0
  case pos =>
    have hz0b : ((l0.length : Int) != 0) = false := bne_eq_false_iff_eq.mpr hz0
    have hz0c : ((l0.length : Int) == 0) = true := beq_iff_eq.mpr hz0
    clear hz0
    obtain ⟨pc0, pc1, pc2, pc3, pf0, pf1, pf2, pf3⟩ := cs4 BK2.out
    obtain ⟨qc0, qc1, qf0, qf1⟩ := cs2 BK3.out
    go_region
    clear pc0 pf0 pc1 pf1 pc2 pf2 pc3 pf3
    clear qc0 qf0 qc1 qf1
    replace BK2 := Lib.hid (blk_drew BK2.out)
    replace BK3 := Lib.hid (blk_drew BK3.out)
    replace HB := Lib.hid (below_drew1 HB.out)
    generalize w2.drew = wn at BK2 BK3 HB ⊢
    go_wp2_with fail
    rw [rounds_succ]
    go_wp2_with fail
    by_cases hz1 : (l1.length : Int) = 0
    case pos =>
      have hz1b : ((l1.length : Int) != 0) = false := bne_eq_false_iff_eq.mpr hz1
      have hz1c : ((l1.length : Int) == 0) = true := beq_iff_eq.mpr hz1
      clear hz1
      obtain ⟨pc0, pc1, pc2, pc3, pf0, pf1, pf2, pf3⟩ := cs4 BK2.out
      obtain ⟨qc0, qc1, qf0, qf1⟩ := cs2 BK3.out
      go_region
      clear pc0 pf0 pc1 pf1 pc2 pf2 pc3 pf3
      clear qc0 qf0 qc1 qf1
      replace BK2 := Lib.hid (blk_drew BK2.out)
      replace BK3 := Lib.hid (blk_drew BK3.out)
      replace HB := Lib.hid (below_drew1 HB.out)
      generalize wn.drew = wn at BK2 BK3 HB ⊢
      go_wp2_with fail
      rw [rounds_succ]
      go_wp2_with fail
      go_ret
      exact ⟨by first | rfl | (unfold rPair.f; simp [*]), HB.out⟩
    have hz1b : ((l1.length : Int) != 0) = true := bne_iff_ne.mpr hz1
    have hz1c : ((l1.length : Int) == 0) = false := beq_eq_false_iff_ne.mpr hz1
    clear hz1
    by_cases hy1 : (l1.length : Int) = sz
    case neg =>
      have hy1b : ((l1.length : Int) != sz) = true := bne_iff_ne.mpr hy1
      have hy1c : ((l1.length : Int) == sz) = false := beq_eq_false_iff_ne.mpr hy1
      clear hy1
      go_region_held3 (fun w' => w'.cell? ⟨gb3, 1, none⟩ = some (.slice A1 l1.length c1) ∧ w'.cell? ⟨gb2, 0, none⟩ = some (.int .i64 a0) ∧ w'.cell? ⟨gb2, 1, none⟩ = some (.int .i64 a1) ∧ w'.cell? ⟨gb2, 2, none⟩ = some (.int .i64 a2) ∧ w'.cell? ⟨gb2, 3, none⟩ = some (.int .i64 a3)) (first | (exact ⟨(blk_cell (blk_drew BK3.out) 1).trans rfl, (blk_cell (blk_drew BK2.out) 0).trans rfl, (blk_cell (blk_drew BK2.out) 1).trans rfl, (blk_cell (blk_drew BK2.out) 2).trans rfl, (blk_cell (blk_drew BK2.out) 3).trans rfl⟩) | (exact ⟨(blk_cell BK3.out 1).trans rfl, (blk_cell BK2.out 0).trans rfl, (blk_cell BK2.out 1).trans rfl, (blk_cell BK2.out 2).trans rfl, (blk_cell BK2.out 3).trans rfl⟩)) ((go_at_call 31; refine (twoslotref06_Size.calls a0 a1 a2 a3 sz _ HS.out).mono ?_; rintro e w9 ⟨rfl, hb⟩; replace BK2 := Lib.hid (blk_below (blk_drew BK2.out) hb); replace BK3 := Lib.hid (blk_below (blk_drew BK3.out) hb); replace HB := Lib.hid (below_step (below_drew1 HB.out) hb); clear hb))
      go_wp2_with fail
      go_ret
      exact ⟨by first | rfl | (unfold rPair.f; simp [*]), HB.out⟩
    have hy1b : ((l1.length : Int) != sz) = false := bne_eq_false_iff_eq.mpr hy1
    have hy1c : ((l1.length : Int) == sz) = true := beq_iff_eq.mpr hy1
    clear hy1
    go_region_held3 (fun w' => w'.cell? ⟨gb3, 1, none⟩ = some (.slice A1 l1.length c1) ∧ w'.cell? ⟨gb2, 0, none⟩ = some (.int .i64 a0) ∧ w'.cell? ⟨gb2, 1, none⟩ = some (.int .i64 a1) ∧ w'.cell? ⟨gb2, 2, none⟩ = some (.int .i64 a2) ∧ w'.cell? ⟨gb2, 3, none⟩ = some (.int .i64 a3)) (first | (exact ⟨(blk_cell (blk_drew BK3.out) 1).trans rfl, (blk_cell (blk_drew BK2.out) 0).trans rfl, (blk_cell (blk_drew BK2.out) 1).trans rfl, (blk_cell (blk_drew BK2.out) 2).trans rfl, (blk_cell (blk_drew BK2.out) 3).trans rfl⟩) | (exact ⟨(blk_cell BK3.out 1).trans rfl, (blk_cell BK2.out 0).trans rfl, (blk_cell BK2.out 1).trans rfl, (blk_cell BK2.out 2).trans rfl, (blk_cell BK2.out 3).trans rfl⟩)) ((go_at_call 31; refine (twoslotref06_Size.calls a0 a1 a2 a3 sz _ HS.out).mono ?_; rintro e w9 ⟨rfl, hb⟩; replace BK2 := Lib.hid (blk_below (blk_drew BK2.out) hb); replace BK3 := Lib.hid (blk_below (blk_drew BK3.out) hb); replace HB := Lib.hid (below_step (below_drew1 HB.out) hb); clear hb))
    go_wp2_with fail
    rw [rounds_succ]
    go_wp2_with fail
    go_ret
    exact ⟨by first | rfl | (unfold rPair.f; simp [*]), HB.out⟩
  have hz0b : ((l0.length : Int) != 0) = true := bne_iff_ne.mpr hz0
  have hz0c : ((l0.length : Int) == 0) = false := beq_eq_false_iff_ne.mpr hz0
  clear hz0
  by_cases hy0 : (l0.length : Int) = sz
  case neg =>
    have hy0b : ((l0.length : Int) != sz) = true := bne_iff_ne.mpr hy0
    have hy0c : ((l0.length : Int) == sz) = false := beq_eq_false_iff_ne.mpr hy0
    clear hy0
    go_region_held3 (fun w' => w'.cell? ⟨gb3, 0, none⟩ = some (.slice A0 l0.length c0) ∧ w'.cell? ⟨gb2, 0, none⟩ = some (.int .i64 a0) ∧ w'.cell? ⟨gb2, 1, none⟩ = some (.int .i64 a1) ∧ w'.cell? ⟨gb2, 2, none⟩ = some (.int .i64 a2) ∧ w'.cell? ⟨gb2, 3, none⟩ = some (.int .i64 a3)) (first | (exact ⟨(blk_cell (blk_drew BK3.out) 0).trans rfl, (blk_cell (blk_drew BK2.out) 0).trans rfl, (blk_cell (blk_drew BK2.out) 1).trans rfl, (blk_cell (blk_drew BK2.out) 2).trans rfl, (blk_cell (blk_drew BK2.out) 3).trans rfl⟩) | (exact ⟨(blk_cell BK3.out 0).trans rfl, (blk_cell BK2.out 0).trans rfl, (blk_cell BK2.out 1).trans rfl, (blk_cell BK2.out 2).trans rfl, (blk_cell BK2.out 3).trans rfl⟩)) ((go_at_call 31; refine (twoslotref06_Size.calls a0 a1 a2 a3 sz _ HS.out).mono ?_; rintro e w9 ⟨rfl, hb⟩; replace BK2 := Lib.hid (blk_below (blk_drew BK2.out) hb); replace BK3 := Lib.hid (blk_below (blk_drew BK3.out) hb); replace HB := Lib.hid (below_step (below_drew1 HB.out) hb); clear hb))
    go_wp2_with fail
    go_ret
    exact ⟨by first | rfl | (unfold rPair.f; simp [*]), HB.out⟩
  have hy0b : ((l0.length : Int) != sz) = false := bne_eq_false_iff_eq.mpr hy0
  have hy0c : ((l0.length : Int) == sz) = true := beq_iff_eq.mpr hy0
  clear hy0
  go_region_held3 (fun w' => w'.cell? ⟨gb3, 0, none⟩ = some (.slice A0 l0.length c0) ∧ w'.cell? ⟨gb2, 0, none⟩ = some (.int .i64 a0) ∧ w'.cell? ⟨gb2, 1, none⟩ = some (.int .i64 a1) ∧ w'.cell? ⟨gb2, 2, none⟩ = some (.int .i64 a2) ∧ w'.cell? ⟨gb2, 3, none⟩ = some (.int .i64 a3)) (first | (exact ⟨(blk_cell (blk_drew BK3.out) 0).trans rfl, (blk_cell (blk_drew BK2.out) 0).trans rfl, (blk_cell (blk_drew BK2.out) 1).trans rfl, (blk_cell (blk_drew BK2.out) 2).trans rfl, (blk_cell (blk_drew BK2.out) 3).trans rfl⟩) | (exact ⟨(blk_cell BK3.out 0).trans rfl, (blk_cell BK2.out 0).trans rfl, (blk_cell BK2.out 1).trans rfl, (blk_cell BK2.out 2).trans rfl, (blk_cell BK2.out 3).trans rfl⟩)) ((go_at_call 31; refine (twoslotref06_Size.calls a0 a1 a2 a3 sz _ HS.out).mono ?_; rintro e w9 ⟨rfl, hb⟩; replace BK2 := Lib.hid (blk_below (blk_drew BK2.out) hb); replace BK3 := Lib.hid (blk_below (blk_drew BK3.out) hb); replace HB := Lib.hid (below_step (below_drew1 HB.out) hb); clear hb))
  go_wp2_with fail
  rw [rounds_succ]
  go_wp2_with fail
  by_cases hz1 : (l1.length : Int) = 0
  case pos =>
    have hz1b : ((l1.length : Int) != 0) = false := bne_eq_false_iff_eq.mpr hz1
    have hz1c : ((l1.length : Int) == 0) = true := beq_iff_eq.mpr hz1
    clear hz1
    obtain ⟨pc0, pc1, pc2, pc3, pf0, pf1, pf2, pf3⟩ := cs4 BK2.out
    obtain ⟨qc0, qc1, qf0, qf1⟩ := cs2 BK3.out
    go_region
    clear pc0 pf0 pc1 pf1 pc2 pf2 pc3 pf3
    clear qc0 qf0 qc1 qf1
    replace BK2 := Lib.hid (blk_drew BK2.out)
    replace BK3 := Lib.hid (blk_drew BK3.out)
    replace HB := Lib.hid (below_drew1 HB.out)
    generalize w9.drew = wn at BK2 BK3 HB ⊢
    go_wp2_with fail
    rw [rounds_succ]
    go_wp2_with fail
    go_ret
    exact ⟨by first | rfl | (unfold rPair.f; simp [*]), HB.out⟩
  have hz1b : ((l1.length : Int) != 0) = true := bne_iff_ne.mpr hz1
  have hz1c : ((l1.length : Int) == 0) = false := beq_eq_false_iff_ne.mpr hz1
  clear hz1
  by_cases hy1 : (l1.length : Int) = sz
  case neg =>
    have hy1b : ((l1.length : Int) != sz) = true := bne_iff_ne.mpr hy1
    have hy1c : ((l1.length : Int) == sz) = false := beq_eq_false_iff_ne.mpr hy1
    clear hy1
    go_region_held3 (fun w' => w'.cell? ⟨gb3, 1, none⟩ = some (.slice A1 l1.length c1) ∧ w'.cell? ⟨gb2, 0, none⟩ = some (.int .i64 a0) ∧ w'.cell? ⟨gb2, 1, none⟩ = some (.int .i64 a1) ∧ w'.cell? ⟨gb2, 2, none⟩ = some (.int .i64 a2) ∧ w'.cell? ⟨gb2, 3, none⟩ = some (.int .i64 a3)) (first | (exact ⟨(blk_cell (blk_drew BK3.out) 1).trans rfl, (blk_cell (blk_drew BK2.out) 0).trans rfl, (blk_cell (blk_drew BK2.out) 1).trans rfl, (blk_cell (blk_drew BK2.out) 2).trans rfl, (blk_cell (blk_drew BK2.out) 3).trans rfl⟩) | (exact ⟨(blk_cell BK3.out 1).trans rfl, (blk_cell BK2.out 0).trans rfl, (blk_cell BK2.out 1).trans rfl, (blk_cell BK2.out 2).trans rfl, (blk_cell BK2.out 3).trans rfl⟩)) ((go_at_call 31; refine (twoslotref06_Size.calls a0 a1 a2 a3 sz _ HS.out).mono ?_; rintro e w9 ⟨rfl, hb⟩; replace BK2 := Lib.hid (blk_below (blk_drew BK2.out) hb); replace BK3 := Lib.hid (blk_below (blk_drew BK3.out) hb); replace HB := Lib.hid (below_step (below_drew1 HB.out) hb); clear hb))
    go_wp2_with fail
    go_ret
    exact ⟨by first | rfl | (unfold rPair.f; simp [*]), HB.out⟩
  have hy1b : ((l1.length : Int) != sz) = false := bne_eq_false_iff_eq.mpr hy1
  have hy1c : ((l1.length : Int) == sz) = true := beq_iff_eq.mpr hy1
  clear hy1
  go_region_held3 (fun w' => w'.cell? ⟨gb3, 1, none⟩ = some (.slice A1 l1.length c1) ∧ w'.cell? ⟨gb2, 0, none⟩ = some (.int .i64 a0) ∧ w'.cell? ⟨gb2, 1, none⟩ = some (.int .i64 a1) ∧ w'.cell? ⟨gb2, 2, none⟩ = some (.int .i64 a2) ∧ w'.cell? ⟨gb2, 3, none⟩ = some (.int .i64 a3)) (first | (exact ⟨(blk_cell (blk_drew BK3.out) 1).trans rfl, (blk_cell (blk_drew BK2.out) 0).trans rfl, (blk_cell (blk_drew BK2.out) 1).trans rfl, (blk_cell (blk_drew BK2.out) 2).trans rfl, (blk_cell (blk_drew BK2.out) 3).trans rfl⟩) | (exact ⟨(blk_cell BK3.out 1).trans rfl, (blk_cell BK2.out 0).trans rfl, (blk_cell BK2.out 1).trans rfl, (blk_cell BK2.out 2).trans rfl, (blk_cell BK2.out 3).trans rfl⟩)) ((go_at_call 31; refine (twoslotref06_Size.calls a0 a1 a2 a3 sz _ HS.out).mono ?_; rintro e w9 ⟨rfl, hb⟩; replace BK2 := Lib.hid (blk_below (blk_drew BK2.out) hb); replace BK3 := Lib.hid (blk_below (blk_drew BK3.out) hb); replace HB := Lib.hid (below_step (below_drew1 HB.out) hb); clear hb))
  go_wp2_with fail
  rw [rounds_succ]
  go_wp2_with fail
  go_ret
  exact ⟨by first | rfl | (unfold rPair.f; simp [*]), HB.out⟩
end Go.Proofs.Ytihefjdabjmmaaa.PD
namespace Go.Proofs.Ytihefjdabjmmaaa.PD
open Go Go.RowKit Go.Proofs.YtihefjdabjmmaaaW.PrintWords Go.Proofs.YtihefjdabjmmaaaW.PrintLast Go.Proofs.YtihefjdabjmmaaaW.PrintMore
set_option linter.unusedVariables false
def rAsked.f (m : Bool) (sz nn : Int) (l0 l1 : List Int) (kind index : Int) : Int :=
  if m = false then 2 else if rPair.f sz l0 l1 = false then 100 else if (kind ≠ 1 ∧ kind ≠ 2) ∨ index < 0 ∨ index ≥ nn then 2 else 0
set_option maxHeartbeats 4000000 in
set_option maxRecDepth 100000 in
theorem rAsked.calls (a0 a1 a2 a3 : Int) (A0 : Option Addr) (c0 : Nat) (l0 : List Int) (A1 : Option Addr) (c1 : Nat) (l1 : List Int) (kind index : Int) (m : Bool) (sz nn : Int) (w : World)
    (hm : twoslotref06_May.f a0 a1 a2 a3 = some m) (hs : twoslotref06_Size.f a0 a1 a2 a3 = some sz) (hn : twoslotref06_N.f a0 a1 a2 a3 = some nn) :
    Calls Try.prog 40 #[.agg #[.int .i64 a0, .int .i64 a1, .int .i64 a2, .int .i64 a3], .agg #[.slice A0 l0.length c0, .slice A1 l1.length c1], .int .u8 kind, .int .i64 index] w fun en w' => en = .returned (.int .i64 (rAsked.f m sz nn l0 l1 kind index)) ∧ Below w.heap.size w w' := by
  have hu23 := Try.underlying23
  have hu42 := Try.underlying42
  have HB := Lib.hid (Below.refl w.heap.size w)
  have HM := Lib.hid hm
  have HS := Lib.hid hs
  have HN := Lib.hid hn
  clear hm hs hn
  go_enter Try.func40, Try.ntmps40
  go_upto_region 1 with (first | ((with_reducible refine gate_dst (N := 4) rfl ?_); refine box_event ?hg (N := 4) ?hd (cs := #[.int .i64 a0, .int .i64 a1, .int .i64 a2, .int .i64 a3]) (t := 23) ?hr ?_; (case hd => rfl); (case hg => rfl); (case hr => first | (go_simp; done) | (go_simp; rfl)); intro gb4 hg_ w1 bk_ hb_; have GE4 := Lib.hid (show w.heap.size ≤ gb4 by rw [hg_]; exact below_size HB.out); have BK4 := Lib.hid bk_; replace HB := Lib.hid (below_step HB.out hb_); clear hb_ hg_ bk_) | ((with_reducible refine gate_dst (N := 5) rfl ?_); refine box_event ?hg (N := 5) ?hd (cs := #[.slice A0 l0.length c0, .slice A1 l1.length c1]) (t := 42) ?hr ?_; (case hd => rfl); (case hg => rfl); (case hr => first | (go_simp; done) | (go_simp; rfl)); intro gb5 hg_ w2 bk_ hb_; have GE5 := Lib.hid (show w.heap.size ≤ gb5 by rw [hg_]; exact below_size HB.out); have NB4_5 := Lib.hid (show gb4 ≠ gb5 by rw [hg_]; exact Nat.ne_of_lt (blk_lt BK4.out)); have NB5_4 := Lib.hid NB4_5.out.symm; replace BK4 := Lib.hid (blk_below BK4.out hb_); have BK5 := Lib.hid bk_; replace HB := Lib.hid (below_step HB.out hb_); clear hb_ hg_ bk_))
  obtain ⟨pc0, pc1, pc2, pc3, pf0, pf1, pf2, pf3⟩ := cs4 BK4.out
  obtain ⟨qc0, qc1, qf0, qf1⟩ := cs2 BK5.out
  go_wp2_with fail
  clear pc0 pf0 pc1 pf1 pc2 pf2 pc3 pf3
  clear qc0 qf0 qc1 qf1
  refine (twoslotref06_May.calls a0 a1 a2 a3 m _ HM.out).mono ?_
  rintro en w3 ⟨rfl, hb⟩
  replace BK4 := Lib.hid (blk_below BK4.out hb)
  replace BK5 := Lib.hid (blk_below BK5.out hb)
  replace HB := Lib.hid (below_step HB.out hb)
  clear hb
  cases m with
  | false =>
    go_wp2_with fail
    go_ret
    exact ⟨rfl, HB.out⟩
  | true =>
    obtain ⟨pc0, pc1, pc2, pc3, pf0, pf1, pf2, pf3⟩ := cs4 BK4.out
    obtain ⟨qc0, qc1, qf0, qf1⟩ := cs2 BK5.out
    go_wp2_with fail
    clear pc0 pf0 pc1 pf1 pc2 pf2 pc3 pf3
    clear qc0 qf0 qc1 qf1
    refine (rPair.calls a0 a1 a2 a3 A0 c0 l0 A1 c1 l1 sz _ HS.out).mono ?_
    rintro en w4 ⟨rfl, hb⟩
    replace BK4 := Lib.hid (blk_below BK4.out hb)
    replace BK5 := Lib.hid (blk_below BK5.out hb)
    replace HB := Lib.hid (below_step HB.out hb)
    clear hb
    cases hp : rPair.f sz l0 l1 with
    | false =>
      go_wp2_with fail
      go_ret
      exact ⟨by unfold rAsked.f; rw [hp]; rfl, HB.out⟩
    | true =>
      have HP := Lib.hid hp
      clear hp
      obtain ⟨pc0, pc1, pc2, pc3, pf0, pf1, pf2, pf3⟩ := cs4 BK4.out
      by_cases hk1 : kind = 1
      · have hb1 : (kind != 1) = false := bne_eq_false_iff_eq.mpr hk1
        by_cases hi0 : index < 0
        · have hb3 : decide (index < 0) = true := decide_eq_true hi0
          go_wp2_with fail
          go_ret
          exact ⟨by unfold rAsked.f; rw [HP.out, if_neg (by decide), if_neg (by decide), if_pos (by omega)] <;> rfl, HB.out⟩
        · have hb3 : decide (index < 0) = false := decide_eq_false hi0
          by_cases hi1 : index ≥ nn
          · have hb4 : decide (index ≥ nn) = true := decide_eq_true hi1
            have hb5 : decide (nn ≤ index) = true := decide_eq_true hi1
            go_wp2_with fail
            clear pc0 pf0 pc1 pf1 pc2 pf2 pc3 pf3
            refine (twoslotref06_N.calls a0 a1 a2 a3 nn _ HN.out).mono ?_
            rintro en w5 ⟨rfl, hb⟩
            replace HB := Lib.hid (below_step HB.out hb)
            clear hb
            go_wp2_with fail
            go_ret
            exact ⟨by unfold rAsked.f; rw [HP.out, if_neg (by decide), if_neg (by decide), if_pos (by omega)] <;> rfl, HB.out⟩
          · have hb4 : decide (index ≥ nn) = false := decide_eq_false hi1
            have hb5 : decide (nn ≤ index) = false := decide_eq_false hi1
            go_wp2_with fail
            clear pc0 pf0 pc1 pf1 pc2 pf2 pc3 pf3
            refine (twoslotref06_N.calls a0 a1 a2 a3 nn _ HN.out).mono ?_
            rintro en w5 ⟨rfl, hb⟩
            replace HB := Lib.hid (below_step HB.out hb)
            clear hb
            go_wp2_with fail
            go_ret
            exact ⟨by unfold rAsked.f; rw [HP.out, if_neg (by decide), if_neg (by decide), if_neg (by omega)] <;> rfl, HB.out⟩
      · have hb1 : (kind != 1) = true := bne_iff_ne.mpr hk1
        by_cases hk2 : kind = 2
        · have hb2 : (kind != 2) = false := bne_eq_false_iff_eq.mpr hk2
          by_cases hi0 : index < 0
          · have hb3 : decide (index < 0) = true := decide_eq_true hi0
            go_wp2_with fail
            go_ret
            exact ⟨by unfold rAsked.f; rw [HP.out, if_neg (by decide), if_neg (by decide), if_pos (by omega)] <;> rfl, HB.out⟩
          · have hb3 : decide (index < 0) = false := decide_eq_false hi0
            by_cases hi1 : index ≥ nn
            · have hb4 : decide (index ≥ nn) = true := decide_eq_true hi1
              have hb5 : decide (nn ≤ index) = true := decide_eq_true hi1
              go_wp2_with fail
              clear pc0 pf0 pc1 pf1 pc2 pf2 pc3 pf3
              refine (twoslotref06_N.calls a0 a1 a2 a3 nn _ HN.out).mono ?_
              rintro en w5 ⟨rfl, hb⟩
              replace HB := Lib.hid (below_step HB.out hb)
              clear hb
              go_wp2_with fail
              go_ret
              exact ⟨by unfold rAsked.f; rw [HP.out, if_neg (by decide), if_neg (by decide), if_pos (by omega)] <;> rfl, HB.out⟩
            · have hb4 : decide (index ≥ nn) = false := decide_eq_false hi1
              have hb5 : decide (nn ≤ index) = false := decide_eq_false hi1
              go_wp2_with fail
              clear pc0 pf0 pc1 pf1 pc2 pf2 pc3 pf3
              refine (twoslotref06_N.calls a0 a1 a2 a3 nn _ HN.out).mono ?_
              rintro en w5 ⟨rfl, hb⟩
              replace HB := Lib.hid (below_step HB.out hb)
              clear hb
              go_wp2_with fail
              go_ret
              exact ⟨by unfold rAsked.f; rw [HP.out, if_neg (by decide), if_neg (by decide), if_neg (by omega)] <;> rfl, HB.out⟩
        · have hb2 : (kind != 2) = true := bne_iff_ne.mpr hk2
          go_wp2_with fail
          go_ret
          exact ⟨by unfold rAsked.f; rw [HP.out, if_neg (by decide), if_neg (by decide), if_pos (by omega)] <;> rfl, HB.out⟩
end Go.Proofs.Ytihefjdabjmmaaa.PD
