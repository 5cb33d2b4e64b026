-- written by the session's own program (wip/prt.py) over the kit's print: not print.sh's own text
import Derived.Test.YtihefjdabjmmaaaPDx0
import Derived.Test.YtihefjdabjmmaaaPDx2
namespace Go.Proofs.Ytihefjdabjmmaaa.PD
open Go.RowKit Go.Proofs.YtihefjdabjmmaaaW.PrintWords Go.Proofs.YtihefjdabjmmaaaW.PrintLast Go.Proofs.YtihefjdabjmmaaaW.PrintMore
attribute [local go_sem] max2_int min2_int max_two min_two max_three min_three max_four min_four   -- for this text's walks alone
set_option linter.unusedVariables false
set_option linter.unusedSimpArgs false

/-! ### vector_Last: function 48 -/
def vector_Last.l0 : Nat → Int → List Int → Int → Int → Option (Int × Int)
  | 0, _, _, _, _ => none
  | k + 1, x7, x16, x17, x18 => if x18 < x17 then (if 0 ≤ x18 then (if x18 < (x16.length : Int) then (vector_Last.l0 k (mx x7 (rd x16 x18)) x16 x17 (wrap64 (x18 + 1))) else (none)) else (none)) else (some (x7, 0))
def vector_Last.f (k : Nat) (a0_0 : Int) (a0_1 : Int) (a0_2 : Int) (a0_3 : Int) (l1 : List Int) : Option (Int × Int) := (vector_Check.f k a0_0 a0_1 a0_2 a0_3 l1).bind fun t109 => (if t109 = 0 then (vector_Last.l0 k 0 l1 (l1.length : Int) 0) else (some (0, t109)))
theorem vector_Last.mono_l : ∀ k, (∀ y0 y1 y2 y3, LeO (vector_Last.l0 k y0 y1 y2 y3) (vector_Last.l0 (k + 1) y0 y1 y2 y3))
  | 0 => fun _ _ _ _ r h => by simp [vector_Last.l0] at h
  | k + 1 => by
    have ih0 := vector_Last.mono_l k
    · intro y0 y1 y2 y3
      unfold vector_Last.l0
      repeat' first
      | (with_reducible exact ih0 _ _ _ _)
      | (with_reducible exact vector_Check.mono _ _ _ _ _ _)
      | (with_reducible exact LeO.refl _)
      | (with_reducible exact LeO.none _)
      | (with_reducible refine LeO.ite ?_ ?_)
      | (with_reducible refine LeO.bind ?_ (fun _ => ?_))
      | exact ih0 _ _ _ _
      | exact vector_Check.mono _ _ _ _ _ _
      | exact LeO.none _
      | refine LeO.ite ?_ ?_
      | refine LeO.bind ?_ (fun _ => ?_)
theorem vector_Last.mono : ∀ a0 a1 a2 a3 a4 k, LeO (vector_Last.f k a0 a1 a2 a3 a4) (vector_Last.f (k + 1) a0 a1 a2 a3 a4) := by
  intro a0 a1 a2 a3 a4 k
  have ih0 := vector_Last.mono_l k
  unfold vector_Last.f
  repeat' first
      | (with_reducible exact ih0 _ _ _ _)
      | (with_reducible exact vector_Check.mono _ _ _ _ _ _)
      | (with_reducible exact LeO.refl _)
      | (with_reducible exact LeO.none _)
      | (with_reducible refine LeO.ite ?_ ?_)
      | (with_reducible refine LeO.bind ?_ (fun _ => ?_))
      | exact ih0 _ _ _ _
      | exact vector_Check.mono _ _ _ _ _ _
      | exact LeO.none _
      | refine LeO.ite ?_ ?_
      | refine LeO.bind ?_ (fun _ => ?_)
set_option maxHeartbeats 8000000 in
set_option maxRecDepth 100000 in
theorem vector_Last.calls (k : Nat) (a0_0 : Int) (a0_1 : Int) (a0_2 : Int) (a0_3 : Int) (A1 : Option Addr) (c1 : Nat) (l1 : List Int) (r1 : Int) (r2 : Int) (w : World) (hr1 : Kd.C (Kd.int .i64) w A1 l1.length l1) (hc1 : l1.length ≤ c1) (h : vector_Last.f k a0_0 a0_1 a0_2 a0_3 l1 = some (r1, r2)) :
    Calls Try.prog 48 #[.agg #[.int .i64 a0_0, .int .i64 a0_1, .int .i64 a0_2, .int .i64 a0_3], .slice A1 l1.length c1] w fun e w' => e = .returned (.tuple #[.int .i64 r1, .int .i64 r2]) ∧ Below w.heap.size w w' := by
  have hu23 := Try.underlying23
  have HR1 := Aside0.mk hr1
  have HC1 := Aside0.mk hc1
  clear hr1 hc1
  have HB := Aside0.mk (Below.refl w.heap.size w)
  have H : ((vector_Check.f k a0_0 a0_1 a0_2 a0_3 l1).bind fun t109 => (if t109 = 0 then (vector_Last.l0 k 0 l1 (l1.length : Int) 0) else (some (0, t109)))) = some (r1, r2) := h
  clear h
  replace H := Option.bind_eq_some_iff.mp H
  obtain ⟨t109, A30, H⟩ := H
  replace H : (if t109 = 0 then (vector_Last.l0 k 0 l1 (l1.length : Int) 0) else (some (0, t109))) = some (r1, r2) := H
  have A3 := Aside0.mk A30
  clear A30
  by_cases c4 : t109 = 0
  · rw [if_pos c4] at H
    have c4b0 : (t109 == 0) = true := beq_iff_eq.mpr c4
    have c4b1 : (t109 != 0) = false := bne_eq_false_iff_eq.mpr c4
    clear c4
    have H' := Aside0.mk H
    clear H
    go_enter Try.func48, Try.ntmps48
    go_wp2_with (first | ((with_reducible refine gate_dst (N := 2) rfl ?_); refine box_event ?hg (N := 2) ?hd (cs := #[.int .i64 a0_0, .int .i64 a0_1, .int .i64 a0_2, .int .i64 a0_3]) (t := 23) ?hr ?_; (case hd => rfl); (case hg => rfl); (case hr => first | (go_simp; done) | (go_simp; rfl)); intro gb108 hg w5 hbox hb; have n0_ := Aside0.mk (below_step (by repeat (first | (with_reducible first | exact HB.out | apply below_alloc | apply pw_below_drewN | apply below_drew1) | exact HB.out)) hb); have n1_ := Aside0.mk (hbox); have n2_ := Aside0.mk ((by rw [hg]; exact (below_size (by repeat (first | (with_reducible first | exact HB.out | apply below_alloc | apply pw_below_drewN | apply below_drew1) | exact HB.out))) : w.heap.size ≤ gb108)); have n3_ := Aside0.mk ((by rw [hg]; exact (below_size (by repeat (first | (with_reducible first | exact HB.out | apply below_alloc | apply pw_below_drewN | apply below_drew1) | exact HB.out))) : w.heap.size ≤ gb108)); clear HB; have HB := n0_; have BK108 := n1_; have GW108 := n2_; have GE108 := n3_; clear n0_ n1_ n2_ n3_; clear hb hbox hg; have hcz6_0 : w5.cell? ⟨gb108, 0, none⟩ = some (.int .i64 a0_0) := (blk_cell BK108.out 0).trans rfl; have hcz6_1 : w5.cell? ⟨gb108, 1, none⟩ = some (.int .i64 a0_1) := (blk_cell BK108.out 1).trans rfl; have hcz6_2 : w5.cell? ⟨gb108, 2, none⟩ = some (.int .i64 a0_2) := (blk_cell BK108.out 2).trans rfl; have hcz6_3 : w5.cell? ⟨gb108, 3, none⟩ = some (.int .i64 a0_3) := (blk_cell BK108.out 3).trans rfl; have hfz6_0 := blk_frozen BK108.out 0; have hfz6_1 := blk_frozen BK108.out 1; have hfz6_2 := blk_frozen BK108.out 2; have hfz6_3 := blk_frozen BK108.out 3) | ((with_reducible refine gate_callee (f := 54) rfl ?_); refine goesL_ (some 12) rfl rfl Try.func54 (by kernel_rfl) rfl #[.agg #[.int .i64 a0_0, .int .i64 a0_1, .int .i64 a0_2, .int .i64 a0_3], .slice A1 l1.length c1] rfl (by (try simp only [List.map_toArray, List.map_cons, List.map_nil]); first | done | rfl | (simp only [List.length_drop, List.length_take]; rfl)) ?_; (with_reducible refine (vector_Check.calls k a0_0 a0_1 a0_2 a0_3 _ _ l1 t109 _ ?side1 ?side2 A3.out).mono ?_); (case side1 => repeat (first | exact (Kd.C_below HR1.out HB.out) | (with_reducible refine Kd.C_alloc ?_ _) | (with_reducible refine Kd.C_drewN ?_ _) | (with_reducible refine Kd.C_drew ?_))); (case side2 => exact HC1.out); rintro e w7 ⟨rfl, hb⟩; refine ⟨_, rfl, ?_⟩; have n0_ := Aside0.mk (blk_below (g := gb108) (o := .cells #[.int .i64 a0_0, .int .i64 a0_1, .int .i64 a0_2, .int .i64 a0_3] 23 (0, 0)) (by (with_reducible repeat (first | refine blk_drewN ?_ _ | refine blk_drew ?_ | refine blk_alloc ?_ _)); exact BK108.out) hb); have n1_ := Aside0.mk (below_step (by repeat (first | (with_reducible first | exact HB.out | apply below_alloc | apply pw_below_drewN | apply below_drew1 | refine below_set ?_ GE108.out) | exact HB.out)) hb); clear BK108; clear HB; have BK108 := n0_; have HB := n1_; clear n0_ n1_; (try clear hb); (try clear hb2); (try clear hk); (try clear hi)))
    go_loopg [7, 18] k (fun kq v7 v18 w' => ∃ (x7_1 : Int) (x18_1 : Int), v7 = .int .i64 x7_1 ∧ v18 = .int .i64 x18_1 ∧ Aside0 (vector_Last.l0 kq x7_1 l1 (l1.length : Int) x18_1 = some (r1, r2)) ∧ Aside0 (kq ≤ k) ∧ Aside0 (w'.heap[gb108]? = some (.cells #[.int .i64 a0_0, .int .i64 a0_1, .int .i64 a0_2, .int .i64 a0_3] 23 (0, 0))) ∧ Aside0 (Below w.heap.size w w'))
    case atStart => exact ⟨(0), (0), (by first | rfl | (simp; done) | (simp [*]; done)), (by first | rfl | (simp; done) | (simp [*]; done)), H', ⟨Nat.le_refl _⟩, ⟨by (with_reducible repeat (first | refine blk_drewN ?_ _ | refine blk_drew ?_ | refine blk_alloc ?_ _)); exact BK108.out⟩, ⟨by repeat (first | (with_reducible first | exact HB.out | apply below_alloc | apply pw_below_drewN | apply below_drew1 | refine below_set ?_ GE108.out) | exact HB.out)⟩⟩
    case round =>
      clear H'
      try clear c1
      try clear p2
      try clear c4
      try clear c4b0
      try clear c4b1
      try clear c5
      try clear hcz6_0
      try clear hcz6_1
      try clear hcz6_2
      try clear hcz6_3
      try clear hfz6_0
      try clear hfz6_1
      try clear hfz6_2
      try clear hfz6_3
      obtain ⟨x7_1, x18_1, rfl, rfl, HA, HK1, BK108, HB⟩ := hrel
      cases gk with
      | zero => exact absurd HA.out (by simp [vector_Last.l0])
      | succ k1 =>
        have H := HA.out
        clear HA
        simp only [vector_Last.l0] at H
        by_cases c8 : x18_1 < (l1.length : Int)
        · rw [if_pos c8] at H
          have c8b0 : decide (x18_1 < (l1.length : Int)) = true := decide_eq_true c8
          clear c8
          by_cases c9 : 0 ≤ x18_1
          · rw [if_pos c9] at H
            have c9b0 : decide (0 ≤ x18_1) = true := decide_eq_true c9
            clear c9
            by_cases c10 : x18_1 < (l1.length : Int)
            · rw [if_pos c10] at H
              have c10b0 : decide (x18_1 < (l1.length : Int)) = true := decide_eq_true c10
              clear c10
              obtain ⟨ji11, hji11⟩ : ∃ j_ : Int, (mx x7_1 (rd l1 x18_1)) = j_ := ⟨_, rfl⟩
              replace H : (vector_Last.l0 k1 ji11 l1 (l1.length : Int) (wrap64 (x18_1 + 1))) = some (r1, r2) := by first | (rw [hji11] at H; exact H) | (simp only [hji11] at H ⊢; exact H)
              have hji11_ : (if x7_1 < (rd l1 x18_1) then (rd l1 x18_1) else x7_1) = ji11 := hji11
              have H' := Aside0.mk H
              clear H
              have p110 : 0 ≤ (x18_1 : Int) := of_decide_eq_true (by first | (with_reducible assumption) | assumption)
              have q110 : x18_1 < (l1.length : Int) := of_decide_eq_true (by first | (with_reducible assumption) | assumption)
              obtain ⟨ad110, e110, hx110_0⟩ := Kd.at_int HR1.out x18_1 p110 q110
              cases e110
              replace hx110_0 := (HB.out.cell (World.block_lt_of_cell? w _ hx110_0)).trans hx110_0
              replace p110 := eq_true p110
              replace q110 := eq_true q110
              go_wp2
              go_roundg k1
              case measure => have := HK1.out; omega
              case rel => exact ⟨(ji11), (wrap64 (x18_1 + 1)), (by first | rfl | (simp; done) | (simp only [← hji11] <;> (first | rfl | simp)) | (simp [*]; done)), (by first | rfl | (simp; done) | (simp [*]; done)), H', ⟨by have := HK1.out; omega⟩, ⟨by (with_reducible repeat (first | refine blk_drewN ?_ _ | refine blk_drew ?_ | refine blk_alloc ?_ _)); exact BK108.out⟩, ⟨by repeat (first | (with_reducible first | exact HB.out | apply below_alloc | apply pw_below_drewN | apply below_drew1 | refine below_set ?_ GE108.out) | exact HB.out)⟩⟩
            · rw [if_neg c10] at H
              exact absurd H (by simp)
          · rw [if_neg c9] at H
            exact absurd H (by simp)
        · rw [if_neg c8] at H
          have c8b0 : decide (x18_1 < (l1.length : Int)) = false := decide_eq_false c8
          clear c8
          simp only [Option.some.injEq, Prod.mk.injEq] at H
          obtain ⟨rfl, rfl⟩ := H
          go_wp2
          go_ret2
          exact ⟨by first | rfl | (simp [errW_none, errW_some] <;> rfl) | (simp [*, errW_none, errW_some] <;> rfl), by repeat (first | (with_reducible first | exact HB.out | apply below_alloc | apply pw_below_drewN | apply below_drew1 | refine below_set ?_ GE108.out) | exact HB.out)⟩
  · rw [if_neg c4] at H
    have c4b0 : (t109 == 0) = false := beq_eq_false_iff_ne.mpr c4
    have c4b1 : (t109 != 0) = true := bne_iff_ne.mpr c4
    simp only [Option.some.injEq, Prod.mk.injEq] at H
    obtain ⟨rfl, rfl⟩ := H
    go_enter Try.func48, Try.ntmps48
    go_wp2_with (first | ((with_reducible refine gate_dst (N := 2) rfl ?_); refine box_event ?hg (N := 2) ?hd (cs := #[.int .i64 a0_0, .int .i64 a0_1, .int .i64 a0_2, .int .i64 a0_3]) (t := 23) ?hr ?_; (case hd => rfl); (case hg => rfl); (case hr => first | (go_simp; done) | (go_simp; rfl)); intro gb108 hg w12 hbox hb; have n0_ := Aside0.mk (below_step (by repeat (first | (with_reducible first | exact HB.out | apply below_alloc | apply pw_below_drewN | apply below_drew1) | exact HB.out)) hb); have n1_ := Aside0.mk (hbox); have n2_ := Aside0.mk ((by rw [hg]; exact (below_size (by repeat (first | (with_reducible first | exact HB.out | apply below_alloc | apply pw_below_drewN | apply below_drew1) | exact HB.out))) : w.heap.size ≤ gb108)); have n3_ := Aside0.mk ((by rw [hg]; exact (below_size (by repeat (first | (with_reducible first | exact HB.out | apply below_alloc | apply pw_below_drewN | apply below_drew1) | exact HB.out))) : w.heap.size ≤ gb108)); clear HB; have HB := n0_; have BK108 := n1_; have GW108 := n2_; have GE108 := n3_; clear n0_ n1_ n2_ n3_; clear hb hbox hg; have hcz13_0 : w12.cell? ⟨gb108, 0, none⟩ = some (.int .i64 a0_0) := (blk_cell BK108.out 0).trans rfl; have hcz13_1 : w12.cell? ⟨gb108, 1, none⟩ = some (.int .i64 a0_1) := (blk_cell BK108.out 1).trans rfl; have hcz13_2 : w12.cell? ⟨gb108, 2, none⟩ = some (.int .i64 a0_2) := (blk_cell BK108.out 2).trans rfl; have hcz13_3 : w12.cell? ⟨gb108, 3, none⟩ = some (.int .i64 a0_3) := (blk_cell BK108.out 3).trans rfl; have hfz13_0 := blk_frozen BK108.out 0; have hfz13_1 := blk_frozen BK108.out 1; have hfz13_2 := blk_frozen BK108.out 2; have hfz13_3 := blk_frozen BK108.out 3) | ((with_reducible refine gate_callee (f := 54) rfl ?_); refine goesL_ (some 12) rfl rfl Try.func54 (by kernel_rfl) rfl #[.agg #[.int .i64 a0_0, .int .i64 a0_1, .int .i64 a0_2, .int .i64 a0_3], .slice A1 l1.length c1] rfl (by (try simp only [List.map_toArray, List.map_cons, List.map_nil]); first | done | rfl | (simp only [List.length_drop, List.length_take]; rfl)) ?_; (with_reducible refine (vector_Check.calls k a0_0 a0_1 a0_2 a0_3 _ _ l1 t109 _ ?side1 ?side2 A3.out).mono ?_); (case side1 => repeat (first | exact (Kd.C_below HR1.out HB.out) | (with_reducible refine Kd.C_alloc ?_ _) | (with_reducible refine Kd.C_drewN ?_ _) | (with_reducible refine Kd.C_drew ?_))); (case side2 => exact HC1.out); rintro e w14 ⟨rfl, hb⟩; refine ⟨_, rfl, ?_⟩; have n0_ := Aside0.mk (blk_below (g := gb108) (o := .cells #[.int .i64 a0_0, .int .i64 a0_1, .int .i64 a0_2, .int .i64 a0_3] 23 (0, 0)) (by (with_reducible repeat (first | refine blk_drewN ?_ _ | refine blk_drew ?_ | refine blk_alloc ?_ _)); exact BK108.out) hb); have n1_ := Aside0.mk (below_step (by repeat (first | (with_reducible first | exact HB.out | apply below_alloc | apply pw_below_drewN | apply below_drew1 | refine below_set ?_ GE108.out) | exact HB.out)) hb); clear BK108; clear HB; have BK108 := n0_; have HB := n1_; clear n0_ n1_; (try clear hb); (try clear hb2); (try clear hk); (try clear hi)))
    go_ret2
    exact ⟨by first | rfl | (simp [errW_none, errW_some] <;> rfl) | (simp [*, errW_none, errW_some] <;> rfl), by repeat (first | (with_reducible first | exact HB.out | apply below_alloc | apply pw_below_drewN | apply below_drew1 | refine below_set ?_ GE108.out) | exact HB.out)⟩

/-! ### slot_may: function 32 -/
def slot_may.f (k : Nat) (a0_0 : Int) (a0_1 : Int) (a0_2 : Int) (a0_3 : Int) (a1_0 : Int) (a1_1 : Int) (a1_2 : Int) (a1_3 : Int) (l1_4 : List Int) (l1_5 : List Int) : Option (Bool) := (vector_Last.f k a0_0 a0_1 a0_2 a0_3 l1_4).bind fun bt113 => (if bt113.2 = 0 then (if a1_3 = bt113.1 then (if a1_1 < 0 then (some false) else (if a1_1 ≥ (l1_4.length : Int) then (some false) else (if a1_0 = 1 then (if 0 ≤ a1_1 then (if a1_1 < (l1_4.length : Int) then (if a1_2 = (rd l1_4 a1_1) then (some ((l1_5.length : Int) == a0_2)) else (some false)) else (none)) else (none)) else (if a1_0 = 2 then (if 0 ≤ a1_1 then (if a1_1 < (l1_4.length : Int) then (if a1_2 = (rd l1_4 a1_1) then (some ((l1_5.length : Int) == a0_2)) else (some false)) else (none)) else (none)) else (some false))))) else (some false)) else (some false))
theorem slot_may.mono : ∀ a0 a1 a2 a3 a4 a5 a6 a7 a8 a9 k, LeO (slot_may.f k a0 a1 a2 a3 a4 a5 a6 a7 a8 a9) (slot_may.f (k + 1) a0 a1 a2 a3 a4 a5 a6 a7 a8 a9) := by
  intro a0 a1 a2 a3 a4 a5 a6 a7 a8 a9 k
  unfold slot_may.f
  repeat' first
      | (with_reducible exact vector_Last.mono _ _ _ _ _ _)
      | (with_reducible exact LeO.refl _)
      | (with_reducible exact LeO.none _)
      | (with_reducible refine LeO.ite ?_ ?_)
      | (with_reducible refine LeO.bind ?_ (fun _ => ?_))
      | exact vector_Last.mono _ _ _ _ _ _
      | exact LeO.none _
      | refine LeO.ite ?_ ?_
      | refine LeO.bind ?_ (fun _ => ?_)
theorem slot_may_cs4 {W : World} {g : Nat} {c0 c1 c2 c3 : Value} {t : TypeId} (h : W.heap[g]? = some (.cells #[c0, c1, c2, c3] t (0, 0))) : W.cell? ⟨g, 0, none⟩ = some c0 ∧ W.cell? ⟨g, 1, none⟩ = some c1 ∧ W.cell? ⟨g, 2, none⟩ = some c2 ∧ W.cell? ⟨g, 3, none⟩ = some c3 ∧ W.frozen? ⟨g, 0, none⟩ = false ∧ W.frozen? ⟨g, 1, none⟩ = false ∧ W.frozen? ⟨g, 2, none⟩ = false ∧ W.frozen? ⟨g, 3, none⟩ = false :=
  ⟨(blk_cell h 0).trans rfl, (blk_cell h 1).trans rfl, (blk_cell h 2).trans rfl, (blk_cell h 3).trans rfl, blk_frozen h 0, blk_frozen h 1, blk_frozen h 2, blk_frozen h 3⟩
theorem slot_may_cs6 {W : World} {g : Nat} {c0 c1 c2 c3 c4 c5 : Value} {t : TypeId} (h : W.heap[g]? = some (.cells #[c0, c1, c2, c3, c4, c5] t (0, 0))) : W.cell? ⟨g, 0, none⟩ = some c0 ∧ W.cell? ⟨g, 1, none⟩ = some c1 ∧ W.cell? ⟨g, 2, none⟩ = some c2 ∧ W.cell? ⟨g, 3, none⟩ = some c3 ∧ W.cell? ⟨g, 4, none⟩ = some c4 ∧ W.cell? ⟨g, 5, none⟩ = some c5 ∧ W.frozen? ⟨g, 0, none⟩ = false ∧ W.frozen? ⟨g, 1, none⟩ = false ∧ W.frozen? ⟨g, 2, none⟩ = false ∧ W.frozen? ⟨g, 3, none⟩ = false ∧ W.frozen? ⟨g, 4, none⟩ = false ∧ W.frozen? ⟨g, 5, none⟩ = false :=
  ⟨(blk_cell h 0).trans rfl, (blk_cell h 1).trans rfl, (blk_cell h 2).trans rfl, (blk_cell h 3).trans rfl, (blk_cell h 4).trans rfl, (blk_cell h 5).trans rfl, blk_frozen h 0, blk_frozen h 1, blk_frozen h 2, blk_frozen h 3, blk_frozen h 4, blk_frozen h 5⟩
set_option maxHeartbeats 4000000 in
set_option maxRecDepth 100000 in
theorem slot_may.calls (k : Nat) (a0_0 : Int) (a0_1 : Int) (a0_2 : Int) (a0_3 : Int) (a1_0 : Int) (a1_1 : Int) (a1_2 : Int) (a1_3 : Int) (A1_4 : Option Addr) (c1_4 : Nat) (l1_4 : List Int) (A1_5 : Option Addr) (c1_5 : Nat) (l1_5 : List Int) (r : Bool) (w : World) (hr1_4 : Kd.C (Kd.int .i64) w A1_4 l1_4.length l1_4) (hc1_4 : l1_4.length ≤ c1_4) (hr1_5 : Kd.C (Kd.int .u8) w A1_5 l1_5.length l1_5) (hc1_5 : l1_5.length ≤ c1_5) (h : slot_may.f k a0_0 a0_1 a0_2 a0_3 a1_0 a1_1 a1_2 a1_3 l1_4 l1_5 = some r) :
    Calls Try.prog 32 #[.agg #[.int .i64 a0_0, .int .i64 a0_1, .int .i64 a0_2, .int .i64 a0_3], .agg #[.int .u8 a1_0, .int .i64 a1_1, .int .i64 a1_2, .int .i64 a1_3, .slice A1_4 l1_4.length c1_4, .slice A1_5 l1_5.length c1_5]] w fun e w' => e = .returned (.bool r) ∧ Below w.heap.size w w' := by
  have hu23 := Try.underlying23
  have hu27 := Try.underlying27
  have HB := Lib.hid (Below.refl w.heap.size w)
  have HR4 := Lib.hid hr1_4
  have HC4 := Lib.hid hc1_4
  have HR5 := Lib.hid hr1_5
  have HC5 := Lib.hid hc1_5
  clear hr1_4 hc1_4 hr1_5 hc1_5
  unfold slot_may.f at h
  obtain ⟨⟨la, le⟩, hl, h⟩ := Option.bind_eq_some_iff.mp h
  dsimp only at h
  have HL := Lib.hid hl
  have H := Lib.hid h
  clear hl h
  go_enter Try.func32, Try.ntmps32
  go_upto_region 1 with (first | ((with_reducible refine gate_dst (N := 2) rfl ?_); refine box_event ?hg (N := 2) ?hd (cs := #[.int .i64 a0_0, .int .i64 a0_1, .int .i64 a0_2, .int .i64 a0_3]) (t := 23) ?hr ?_; (case hd => rfl); (case hg => rfl); (case hr => first | (go_simp; done) | (go_simp; rfl)); intro gb2 hg_ w1 bk_ hb_; have GE2 := Lib.hid (show w.heap.size ≤ gb2 by rw [hg_]; exact below_size HB.out); have BK2 := Lib.hid bk_; replace HB := Lib.hid (below_step HB.out hb_); clear hb_ hg_ bk_) | ((with_reducible refine gate_dst (N := 3) rfl ?_); refine box_event ?hg (N := 3) ?hd (cs := #[.int .u8 a1_0, .int .i64 a1_1, .int .i64 a1_2, .int .i64 a1_3, .slice A1_4 l1_4.length c1_4, .slice A1_5 l1_5.length c1_5]) (t := 27) ?hr ?_; (case hd => rfl); (case hg => rfl); (case hr => first | (go_simp; done) | (go_simp; rfl)); intro gb3 hg_ w2 bk_ hb_; have GE3 := Lib.hid (show w.heap.size ≤ gb3 by rw [hg_]; exact below_size HB.out); have NB2_3 := Lib.hid (show gb2 ≠ gb3 by rw [hg_]; exact Nat.ne_of_lt (blk_lt BK2.out)); have NB3_2 := Lib.hid NB2_3.out.symm; replace BK2 := Lib.hid (blk_below BK2.out hb_); have BK3 := Lib.hid bk_; replace HB := Lib.hid (below_step HB.out hb_); clear hb_ hg_ bk_))
  obtain ⟨pc0, pc1, pc2, pc3, pf0, pf1, pf2, pf3⟩ := slot_may_cs4 BK2.out
  obtain ⟨xc0, xc1, xc2, xc3, xc4, xc5, xf0, xf1, xf2, xf3, xf4, xf5⟩ := slot_may_cs6 BK3.out
  go_wp2_with fail
  clear pc0 pf0 pc1 pf1 pc2 pf2 pc3 pf3
  clear xc0 xf0 xc1 xf1 xc2 xf2 xc3 xf3 xc4 xf4 xc5 xf5
  refine (vector_Last.calls k a0_0 a0_1 a0_2 a0_3 A1_4 c1_4 l1_4 la le _ (Kd.C_below HR4.out HB.out) HC4.out HL.out).mono ?_
  rintro en w3 ⟨rfl, hb⟩
  replace BK2 := Lib.hid (blk_below BK2.out hb)
  replace BK3 := Lib.hid (blk_below BK3.out hb)
  replace HB := Lib.hid (below_step HB.out hb)
  clear hb
  obtain ⟨pc0, pc1, pc2, pc3, pf0, pf1, pf2, pf3⟩ := slot_may_cs4 BK2.out
  obtain ⟨xc0, xc1, xc2, xc3, xc4, xc5, xf0, xf1, xf2, xf3, xf4, xf5⟩ := slot_may_cs6 BK3.out
  have h := H.out
  clear H HL
  by_cases c1 : le = 0
  case pos =>
    rw [if_pos c1] at h
    have c1e : (le == 0) = true := beq_iff_eq.mpr c1
    have c1n : (le != 0) = false := bne_eq_false_iff_eq.mpr c1
    replace c1 := Lib.hid c1
    by_cases c2 : a1_3 = la
    case pos =>
      rw [if_pos c2] at h
      have c2e : (a1_3 == la) = true := beq_iff_eq.mpr c2
      have c2n : (a1_3 != la) = false := bne_eq_false_iff_eq.mpr c2
      replace c2 := Lib.hid c2
      by_cases c3 : a1_1 < 0
      case pos =>
        rw [if_pos c3] at h
        have c3d0 : decide (a1_1 < 0) = true := decide_eq_true (by omega)
        replace c3 := Lib.hid c3
        obtain rfl := Option.some.inj h
        go_wp2_with fail
        go_ret
        exact ⟨by first | rfl | simp [*], by repeat (first | (with_reducible first | exact HB.out | apply pw_below_drewN | apply below_drew1) | exact HB.out)⟩
      rw [if_neg c3] at h
      have c3d0 : decide (a1_1 < 0) = false := decide_eq_false (by omega)
      replace c3 := Lib.hid c3
      by_cases c4 : a1_1 ≥ (l1_4.length : Int)
      case pos =>
        rw [if_pos c4] at h
        have c4d0 : decide (a1_1 ≥ (l1_4.length : Int)) = true := decide_eq_true (by omega)
        have c4d1 : decide ((l1_4.length : Int) ≤ a1_1) = true := decide_eq_true (by omega)
        replace c4 := Lib.hid c4
        obtain rfl := Option.some.inj h
        go_wp2_with fail
        go_ret
        exact ⟨by first | rfl | simp [*], by repeat (first | (with_reducible first | exact HB.out | apply pw_below_drewN | apply below_drew1) | exact HB.out)⟩
      rw [if_neg c4] at h
      have c4d0 : decide (a1_1 ≥ (l1_4.length : Int)) = false := decide_eq_false (by omega)
      have c4d1 : decide ((l1_4.length : Int) ≤ a1_1) = false := decide_eq_false (by omega)
      replace c4 := Lib.hid c4
      by_cases c5 : a1_0 = 1
      case pos =>
        rw [if_pos c5] at h
        have c5e : (a1_0 == 1) = true := beq_iff_eq.mpr c5
        have c5n : (a1_0 != 1) = false := bne_eq_false_iff_eq.mpr c5
        replace c5 := Lib.hid c5
        by_cases c91 : 0 ≤ a1_1
        case pos =>
          rw [if_pos c91] at h
          have c91d0 : decide (0 ≤ a1_1) = true := decide_eq_true (by omega)
          replace c91 := Lib.hid c91
          by_cases c92 : a1_1 < (l1_4.length : Int)
          case pos =>
            rw [if_pos c92] at h
            have c92d0 : decide (a1_1 < (l1_4.length : Int)) = true := decide_eq_true (by omega)
            replace c92 := Lib.hid c92
            have hge := c91.out
            have hlt := c92.out
            obtain ⟨ad, rfl, hx⟩ := Kd.at_int HR4.out a1_1 hge hlt
            replace hx := (HB.out.cell (World.block_lt_of_cell? w _ hx)).trans hx
            replace hge := eq_true hge
            replace hlt := eq_true hlt
            by_cases c93 : a1_2 = (rd l1_4 a1_1)
            case pos =>
              rw [if_pos c93] at h
              have c93e : (a1_2 == (rd l1_4 a1_1)) = true := beq_iff_eq.mpr c93
              have c93n : (a1_2 != (rd l1_4 a1_1)) = false := bne_eq_false_iff_eq.mpr c93
              replace c93 := Lib.hid c93
              obtain rfl := Option.some.inj h
              go_wp2_with fail
              go_quiet (fail)
              go_wp2_with fail
              go_ret
              exact ⟨by first | rfl | simp [*], by repeat (first | (with_reducible first | exact HB.out | apply pw_below_drewN | apply below_drew1) | exact HB.out)⟩
            rw [if_neg c93] at h
            have c93e : (a1_2 == (rd l1_4 a1_1)) = false := beq_eq_false_iff_ne.mpr c93
            have c93n : (a1_2 != (rd l1_4 a1_1)) = true := bne_iff_ne.mpr c93
            replace c93 := Lib.hid c93
            obtain rfl := Option.some.inj h
            go_wp2_with fail
            go_quiet (fail)
            go_wp2_with fail
            go_ret
            exact ⟨by first | rfl | simp [*], by repeat (first | (with_reducible first | exact HB.out | apply pw_below_drewN | apply below_drew1) | exact HB.out)⟩
          rw [if_neg c92] at h
          have c92d0 : decide (a1_1 < (l1_4.length : Int)) = false := decide_eq_false (by omega)
          replace c92 := Lib.hid c92
          exact absurd h (by simp)
        rw [if_neg c91] at h
        have c91d0 : decide (0 ≤ a1_1) = false := decide_eq_false (by omega)
        replace c91 := Lib.hid c91
        exact absurd h (by simp)
      rw [if_neg c5] at h
      have c5e : (a1_0 == 1) = false := beq_eq_false_iff_ne.mpr c5
      have c5n : (a1_0 != 1) = true := bne_iff_ne.mpr c5
      replace c5 := Lib.hid c5
      by_cases c6 : a1_0 = 2
      case pos =>
        rw [if_pos c6] at h
        have c6e : (a1_0 == 2) = true := beq_iff_eq.mpr c6
        have c6n : (a1_0 != 2) = false := bne_eq_false_iff_eq.mpr c6
        replace c6 := Lib.hid c6
        by_cases c91 : 0 ≤ a1_1
        case pos =>
          rw [if_pos c91] at h
          have c91d0 : decide (0 ≤ a1_1) = true := decide_eq_true (by omega)
          replace c91 := Lib.hid c91
          by_cases c92 : a1_1 < (l1_4.length : Int)
          case pos =>
            rw [if_pos c92] at h
            have c92d0 : decide (a1_1 < (l1_4.length : Int)) = true := decide_eq_true (by omega)
            replace c92 := Lib.hid c92
            have hge := c91.out
            have hlt := c92.out
            obtain ⟨ad, rfl, hx⟩ := Kd.at_int HR4.out a1_1 hge hlt
            replace hx := (HB.out.cell (World.block_lt_of_cell? w _ hx)).trans hx
            replace hge := eq_true hge
            replace hlt := eq_true hlt
            by_cases c93 : a1_2 = (rd l1_4 a1_1)
            case pos =>
              rw [if_pos c93] at h
              have c93e : (a1_2 == (rd l1_4 a1_1)) = true := beq_iff_eq.mpr c93
              have c93n : (a1_2 != (rd l1_4 a1_1)) = false := bne_eq_false_iff_eq.mpr c93
              replace c93 := Lib.hid c93
              obtain rfl := Option.some.inj h
              go_wp2_with fail
              go_quiet (fail)
              go_wp2_with fail
              go_ret
              exact ⟨by first | rfl | simp [*], by repeat (first | (with_reducible first | exact HB.out | apply pw_below_drewN | apply below_drew1) | exact HB.out)⟩
            rw [if_neg c93] at h
            have c93e : (a1_2 == (rd l1_4 a1_1)) = false := beq_eq_false_iff_ne.mpr c93
            have c93n : (a1_2 != (rd l1_4 a1_1)) = true := bne_iff_ne.mpr c93
            replace c93 := Lib.hid c93
            obtain rfl := Option.some.inj h
            go_wp2_with fail
            go_quiet (fail)
            go_wp2_with fail
            go_ret
            exact ⟨by first | rfl | simp [*], by repeat (first | (with_reducible first | exact HB.out | apply pw_below_drewN | apply below_drew1) | exact HB.out)⟩
          rw [if_neg c92] at h
          have c92d0 : decide (a1_1 < (l1_4.length : Int)) = false := decide_eq_false (by omega)
          replace c92 := Lib.hid c92
          exact absurd h (by simp)
        rw [if_neg c91] at h
        have c91d0 : decide (0 ≤ a1_1) = false := decide_eq_false (by omega)
        replace c91 := Lib.hid c91
        exact absurd h (by simp)
      rw [if_neg c6] at h
      have c6e : (a1_0 == 2) = false := beq_eq_false_iff_ne.mpr c6
      have c6n : (a1_0 != 2) = true := bne_iff_ne.mpr c6
      replace c6 := Lib.hid c6
      obtain rfl := Option.some.inj h
      go_wp2_with fail
      go_quiet (fail)
      go_wp2_with fail
      go_ret
      exact ⟨by first | rfl | simp [*], by repeat (first | (with_reducible first | exact HB.out | apply pw_below_drewN | apply below_drew1) | exact HB.out)⟩
    rw [if_neg c2] at h
    have c2e : (a1_3 == la) = false := beq_eq_false_iff_ne.mpr c2
    have c2n : (a1_3 != la) = true := bne_iff_ne.mpr c2
    replace c2 := Lib.hid c2
    obtain rfl := Option.some.inj h
    go_wp2_with fail
    go_ret
    exact ⟨by first | rfl | simp [*], by repeat (first | (with_reducible first | exact HB.out | apply pw_below_drewN | apply below_drew1) | exact HB.out)⟩
  rw [if_neg c1] at h
  have c1e : (le == 0) = false := beq_eq_false_iff_ne.mpr c1
  have c1n : (le != 0) = true := bne_iff_ne.mpr c1
  replace c1 := Lib.hid c1
  obtain rfl := Option.some.inj h
  go_wp2_with fail
  go_ret
  exact ⟨by first | rfl | simp [*], by repeat (first | (with_reducible first | exact HB.out | apply pw_below_drewN | apply below_drew1) | exact HB.out)⟩


end Go.Proofs.Ytihefjdabjmmaaa.PD
