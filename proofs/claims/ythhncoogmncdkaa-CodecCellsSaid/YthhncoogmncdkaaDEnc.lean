/- What codec.Encode and the counting of cells tell, for every input. No condition. -/
import Derived.Test.YthhncoogmncdkaaPCx0
import Derived.Test.YthhncoogmncdkaaCSol
import Derived.Test.YthhncoogmncdkaaPCx13
-- written by the session's own program (wip/prt.py) over the kit's print: not print.sh's own text
namespace Go.Proofs.Ythhncoogmncdkaa.PC
open Go.RowKit Go.Proofs.YthhncoogmncdkaaW.PrintWords Go.Proofs.YthhncoogmncdkaaW.PrintLast Go.Proofs.YthhncoogmncdkaaW.PrintMore
attribute [local go_sem] max2_int min2_int max_two min_two max_three min_three max_four min_four   -- for this text's walks alone
set_option linter.unusedVariables false
set_option linter.unusedSimpArgs false

/-! ### codec_there: function 24 -/
def codec_there.l0 : Nat → List (List Int) → List Int → List (List Int) → Int → Int → Option (List Int × Bool)
  | 0, _, _, _, _, _ => none
  | k + 1, x0, x6, x13, x14, x15 => if x15 < x14 then (if 0 ≤ x15 then (if x15 < (x13.length : Int) then (if ((rd_L1 x13 x15).length : Int) = 0 then (codec_there.l0 k x0 x6 x13 x14 (wrap64 (x15 + 1))) else (if x6.length < 17592186044416 then ((some (x6 ++ [x15] : List Int)).bind fun y113 => (if ((rd_L1 x13 x15).length : Int) > 65536 then (some (([] : List Int), false)) else (if 0 < (y113.length : Int) then (if 0 ≤ (rd y113 0) then (if (rd y113 0) < (x0.length : Int) then (if ((rd_L1 x13 x15).length : Int) = ((rd_L1 x0 (rd y113 0)).length : Int) then (codec_there.l0 k x0 y113 x13 x14 (wrap64 (x15 + 1))) else (some (([] : List Int), false))) else (none)) else (none)) else (none)))) else (none))) else (none)) else (none)) else (some (x6, true))
def codec_there.f (k : Nat) (l0 : List (List Int)) (a1 : Int) : Option (List Int × Bool) := if (l0.length : Int) = a1 then (codec_there.l0 k l0 ([] : List Int) l0 (l0.length : Int) 0) else (some (([] : List Int), false))
theorem codec_there.mono_l : ∀ k, (∀ y0 y1 y2 y3 y4, LeO (codec_there.l0 k y0 y1 y2 y3 y4) (codec_there.l0 (k + 1) y0 y1 y2 y3 y4))
  | 0 => fun _ _ _ _ _ r h => by simp [codec_there.l0] at h
  | k + 1 => by
    have ih0 := codec_there.mono_l k
    · intro y0 y1 y2 y3 y4
      unfold codec_there.l0
      repeat' first
      | (with_reducible exact ih0 _ _ _ _ _)
      | (with_reducible exact LeO.refl _)
      | (with_reducible exact LeO.none _)
      | (with_reducible refine LeO.ite ?_ ?_)
      | (with_reducible refine LeO.bind ?_ (fun _ => ?_))
      | exact ih0 _ _ _ _ _
      | exact LeO.none _
      | refine LeO.ite ?_ ?_
      | refine LeO.bind ?_ (fun _ => ?_)
theorem codec_there.mono : ∀ a0 a1 k, LeO (codec_there.f k a0 a1) (codec_there.f (k + 1) a0 a1) := by
  intro a0 a1 k
  have ih0 := codec_there.mono_l k
  unfold codec_there.f
  repeat' first
      | (with_reducible exact ih0 _ _ _ _ _)
      | (with_reducible exact LeO.refl _)
      | (with_reducible exact LeO.none _)
      | (with_reducible refine LeO.ite ?_ ?_)
      | (with_reducible refine LeO.bind ?_ (fun _ => ?_))
      | exact ih0 _ _ _ _ _
      | exact LeO.none _
      | refine LeO.ite ?_ ?_
      | refine LeO.bind ?_ (fun _ => ?_)
set_option maxHeartbeats 8000000 in
set_option maxRecDepth 100000 in
theorem codec_there.calls (k : Nat) (A0 : Option Addr) (c0 : Nat) (l0 : List (List Int)) (a1 : Int) (r1 : List Int) (r2 : Bool) (w : World) (hr0 : Kd.C (Kd.slice 5 (Kd.int .u8)) w A0 l0.length l0) (hc0 : l0.length ≤ c0) (h : codec_there.f k l0 a1 = some (r1, r2)) :
    Calls Try.prog 24 #[.slice A0 l0.length c0, .int .i64 a1] w fun e w' => ∃ v0_ : Value, e = .returned (.tuple #[v0_, .bool r2]) ∧ Kd.R (Kd.int .i64) 3 w' w.heap.size (fun _ => True) v0_ r1 ∧ Below w.heap.size w w' := by
  have HR0 := Aside0.mk hr0
  have HC0 := Aside0.mk hc0
  clear hr0 hc0
  have HB := Aside0.mk (Below.refl w.heap.size w)
  have H : (if (l0.length : Int) = a1 then (codec_there.l0 k l0 ([] : List Int) l0 (l0.length : Int) 0) else (some (([] : List Int), false))) = some (r1, r2) := h
  clear h
  by_cases c3 : (l0.length : Int) = a1
  · rw [if_pos c3] at H
    have c3b0 : ((l0.length : Int) == a1) = true := beq_iff_eq.mpr c3
    have c3b1 : ((l0.length : Int) != a1) = false := bne_eq_false_iff_eq.mpr c3
    clear c3
    have H' := Aside0.mk H
    clear H
    go_enter Try.func24, Try.ntmps24
    go_wp2
    go_loopg [6, 15] k (fun kq v6 v15 w' => ∃ (x6_1 : List Int) (x15_1 : Int), v15 = .int .i64 x15_1 ∧ Aside0 (codec_there.l0 kq l0 x6_1 l0 (l0.length : Int) x15_1 = some (r1, r2)) ∧ Aside0 (kq ≤ k) ∧ Aside0 (Kd.R (Kd.int .i64) 3 w' w.heap.size (fun _ => True) v6 x6_1) ∧ Aside0 (Below w.heap.size w w'))
    case atStart => exact ⟨(([] : List Int)), (0), (by first | rfl | (simp; done) | (simp [*]; done)), H', ⟨Nat.le_refl _⟩, ⟨by first | exact Kd.R_nil _ _ _ _ _ | exact Kd.N_nil _ _ _ _ _ | exact Kd.V_nil _ _ _ _ _ | exact Kd.Q_nil _ _ _ _ _ | exact Kd.S_nil _ _ _ _ _⟩, ⟨by repeat (first | (with_reducible first | exact HB.out | apply below_alloc | apply pw_below_drewN | apply below_drew1) | exact HB.out)⟩⟩
    case round =>
      clear H'
      try clear c2
      try clear p2
      try clear c3
      try clear c3b0
      try clear c3b1
      obtain ⟨x6_1, x15_1, rfl, HA, HK1, HO_6, HB⟩ := hrel
      cases gk with
      | zero => exact absurd HA.out (by simp [codec_there.l0])
      | succ k1 =>
        have H := HA.out
        clear HA
        simp only [codec_there.l0] at H
        by_cases c4 : x15_1 < (l0.length : Int)
        · rw [if_pos c4] at H
          have c4b0 : decide (x15_1 < (l0.length : Int)) = true := decide_eq_true c4
          clear c4
          by_cases c5 : 0 ≤ x15_1
          · rw [if_pos c5] at H
            have c5b0 : decide (0 ≤ x15_1) = true := decide_eq_true c5
            clear c5
            by_cases c6 : x15_1 < (l0.length : Int)
            · rw [if_pos c6] at H
              have c6b0 : decide (x15_1 < (l0.length : Int)) = true := decide_eq_true c6
              clear c6
              by_cases c7 : ((rd_L1 l0 x15_1).length : Int) = 0
              · rw [if_pos c7] at H
                have c7b0 : (((rd_L1 l0 x15_1).length : Int) == 0) = true := beq_iff_eq.mpr c7
                have c7b1 : (((rd_L1 l0 x15_1).length : Int) != 0) = false := bne_eq_false_iff_eq.mpr c7
                clear c7
                have H' := Aside0.mk H
                clear H
                have p112 : 0 ≤ (x15_1 : Int) := of_decide_eq_true (by first | (with_reducible assumption) | assumption)
                have q112 : x15_1 < (l0.length : Int) := of_decide_eq_true (by first | (with_reducible assumption) | assumption)
                obtain ⟨ad112, A112_0, c112_0, e112, hx112_0, hl112_0, hi112_0⟩ := at_L1 HR0.out x15_1 p112 q112
                cases e112
                replace hx112_0 := (HB.out.cell (World.block_lt_of_cell? w _ hx112_0)).trans hx112_0
                have HR112_0 := Aside0.mk hi112_0
                have HC112_0 := Aside0.mk hl112_0
                clear hi112_0 hl112_0
                replace p112 := eq_true p112
                replace q112 := eq_true q112
                go_wp2
                go_roundg k1
                case measure => have := HK1.out; omega
                case rel => exact ⟨(x6_1), (wrap64 (x15_1 + 1)), (by first | rfl | (simp; done) | (simp [*]; done)), H', ⟨by have := HK1.out; omega⟩, ⟨by (with_reducible repeat (first | apply Kd.R_alloc | apply Kd.R_drewN | apply Kd.R_drew)); exact HO_6.out⟩, ⟨by repeat (first | (with_reducible first | exact HB.out | apply below_alloc | apply pw_below_drewN | apply below_drew1) | exact HB.out)⟩⟩
              · rw [if_neg c7] at H
                have c7b0 : (((rd_L1 l0 x15_1).length : Int) == 0) = false := beq_eq_false_iff_ne.mpr c7
                have c7b1 : (((rd_L1 l0 x15_1).length : Int) != 0) = true := bne_iff_ne.mpr c7
                have c7b2 : ¬ ((rd_L1 l0 x15_1) = []) := fun h_ => c7 (by rw [h_]; rfl)
                by_cases c8 : x6_1.length < 17592186044416
                · rw [if_pos c8] at H
                  have LMc8 := Aside0.mk c8
                  clear c8
                  obtain ⟨y113, hy113⟩ : ∃ y_ : List Int, y_ = (x6_1 ++ [x15_1]) := ⟨_, rfl⟩
                  replace H : (if ((rd_L1 l0 x15_1).length : Int) > 65536 then (some (([] : List Int), false)) else (if 0 < (y113.length : Int) then (if 0 ≤ (rd y113 0) then (if (rd y113 0) < (l0.length : Int) then (if ((rd_L1 l0 x15_1).length : Int) = ((rd_L1 l0 (rd y113 0)).length : Int) then (codec_there.l0 k1 l0 y113 l0 (l0.length : Int) (wrap64 (x15_1 + 1))) else (some (([] : List Int), false))) else (none)) else (none)) else (none))) = some (r1, r2) := by first | (rw [hy113]; with_reducible exact H) | (have H2_ := (Option.bind_some _ _).symm.trans H; rw [hy113]; with_reducible exact H2_) | (have H2_ := (Option.bind_some _ _).symm.trans H; with_reducible exact H2_) | with_reducible exact H | (rw [hy113]; exact H) | exact H
                  have Ny113 := Aside0.mk hy113
                  clear hy113
                  by_cases c9 : ((rd_L1 l0 x15_1).length : Int) > 65536
                  · rw [if_pos c9] at H
                    have c9b0 : decide (65536 < ((rd_L1 l0 x15_1).length : Int)) = true := decide_eq_true c9
                    have c9b1 : decide (65536 < (rd_L1 l0 x15_1).length) = true := decide_eq_true (by omega)
                    clear c9
                    simp only [Option.some.injEq, Prod.mk.injEq] at H
                    obtain ⟨rfl, rfl⟩ := H
                    have p112 : 0 ≤ (x15_1 : Int) := of_decide_eq_true (by first | (with_reducible assumption) | assumption)
                    have q112 : x15_1 < (l0.length : Int) := of_decide_eq_true (by first | (with_reducible assumption) | assumption)
                    obtain ⟨ad112, A112_0, c112_0, e112, hx112_0, hl112_0, hi112_0⟩ := at_L1 HR0.out x15_1 p112 q112
                    cases e112
                    replace hx112_0 := (HB.out.cell (World.block_lt_of_cell? w _ hx112_0)).trans hx112_0
                    have HR112_0 := Aside0.mk hi112_0
                    have HC112_0 := Aside0.mk hl112_0
                    clear hi112_0 hl112_0
                    replace p112 := eq_true p112
                    replace q112 := eq_true q112
                    go_wp2_with (first | ((with_reducible refine gate_builtin (b := .append) (xs := #[.tmp 23, .tmp 25]) rfl ?_); (try (refine gate_guard (by rfl) ?_; dsimp only)); at_builtin; refine Kd.R_append (Kd.int .i64) (w0 := w) w.heap.size rfl (.tmp 23) (.tmp 25) 37 3 (.int .i64 0) 8 rfl Try.underlying37 info3 rfl (by decide) (by omega) u6 x6_1 x15_1 [.int .i64 x15_1] (fun _ => True) (fun _ => False) rfl rfl ?aP (fun _ hk => hk.elim) ?aF ?aO ?aB ?aS ?aL ?_; (case aP => exact rfl); (case aB => exact (by repeat (first | (with_reducible first | exact HB.out | apply below_alloc | apply pw_below_drewN | apply below_drew1) | exact HB.out))); (case aF => exact (fun _ _ => trivial)); (case aO => exact (by (with_reducible repeat (first | apply Kd.R_alloc | apply Kd.R_drewN | apply Kd.R_drew)); exact HO_6.out)); (case aS => exact (below_size (by repeat (first | (with_reducible first | exact HB.out | apply below_alloc | apply pw_below_drewN | apply below_drew1) | exact HB.out)))); (case aL => have := LMc8.out; omega); intro v114 w10 ho hb hg hat; rw [← Ny113.out] at ho; have n0_ := Aside0.mk (hb); have n1_ := Aside0.mk (ho); clear HB; clear HO_6; have HB := n0_; have HO115 := n1_; clear n0_ n1_; clear ho hb hg hat))
                    go_ret2
                    exact ⟨_, by first | rfl | (simp [errW_none, errW_some] <;> rfl) | (simp [*, errW_none, errW_some] <;> rfl), by first | exact Kd.R_nil _ _ _ _ _ | exact Kd.N_nil _ _ _ _ _ | exact Kd.V_nil _ _ _ _ _ | exact Kd.Q_nil _ _ _ _ _ | exact Kd.S_nil _ _ _ _ _, by repeat (first | (with_reducible first | exact HB.out | apply below_alloc | apply pw_below_drewN | apply below_drew1) | exact HB.out)⟩
                  · rw [if_neg c9] at H
                    have c9b0 : decide (65536 < ((rd_L1 l0 x15_1).length : Int)) = false := decide_eq_false c9
                    have c9b1 : decide (65536 < (rd_L1 l0 x15_1).length) = false := decide_eq_false (by omega)
                    clear c9
                    by_cases c11 : 0 < (y113.length : Int)
                    · rw [if_pos c11] at H
                      have c11b0 : decide (0 < (y113.length : Int)) = true := decide_eq_true c11
                      have c11b1 : decide (0 < y113.length) = true := decide_eq_true (by omega)
                      clear c11
                      by_cases c12 : 0 ≤ (rd y113 0)
                      · rw [if_pos c12] at H
                        have c12b0 : decide (0 ≤ (rd y113 0)) = true := decide_eq_true c12
                        clear c12
                        by_cases c13 : (rd y113 0) < (l0.length : Int)
                        · rw [if_pos c13] at H
                          have c13b0 : decide ((rd y113 0) < (l0.length : Int)) = true := decide_eq_true c13
                          clear c13
                          by_cases c14 : ((rd_L1 l0 x15_1).length : Int) = ((rd_L1 l0 (rd y113 0)).length : Int)
                          · rw [if_pos c14] at H
                            have c14b0 : (((rd_L1 l0 x15_1).length : Int) == ((rd_L1 l0 (rd y113 0)).length : Int)) = true := beq_iff_eq.mpr c14
                            have c14b1 : (((rd_L1 l0 x15_1).length : Int) != ((rd_L1 l0 (rd y113 0)).length : Int)) = false := bne_eq_false_iff_eq.mpr c14
                            have c14b2 : ((rd_L1 l0 x15_1).length == (rd_L1 l0 (rd y113 0)).length) = true := by first | simpa using c14 | (simp at c14 ⊢; omega)
                            clear c14
                            have H' := Aside0.mk H
                            clear H
                            have p112 : 0 ≤ (x15_1 : Int) := of_decide_eq_true (by first | (with_reducible assumption) | assumption)
                            have q112 : x15_1 < (l0.length : Int) := of_decide_eq_true (by first | (with_reducible assumption) | assumption)
                            obtain ⟨ad112, A112_0, c112_0, e112, hx112_0, hl112_0, hi112_0⟩ := at_L1 HR0.out x15_1 p112 q112
                            cases e112
                            replace hx112_0 := (HB.out.cell (World.block_lt_of_cell? w _ hx112_0)).trans hx112_0
                            have HR112_0 := Aside0.mk hi112_0
                            have HC112_0 := Aside0.mk hl112_0
                            clear hi112_0 hl112_0
                            replace p112 := eq_true p112
                            replace q112 := eq_true q112
                            go_wp2_with (first | ((with_reducible refine gate_builtin (b := .append) (xs := #[.tmp 23, .tmp 25]) rfl ?_); (try (refine gate_guard (by rfl) ?_; dsimp only)); at_builtin; refine Kd.R_append (Kd.int .i64) (w0 := w) w.heap.size rfl (.tmp 23) (.tmp 25) 37 3 (.int .i64 0) 8 rfl Try.underlying37 info3 rfl (by decide) (by omega) u6 x6_1 x15_1 [.int .i64 x15_1] (fun _ => True) (fun _ => False) rfl rfl ?aP (fun _ hk => hk.elim) ?aF ?aO ?aB ?aS ?aL ?_; (case aP => exact rfl); (case aB => exact (by repeat (first | (with_reducible first | exact HB.out | apply below_alloc | apply pw_below_drewN | apply below_drew1) | exact HB.out))); (case aF => exact (fun _ _ => trivial)); (case aO => exact (by (with_reducible repeat (first | apply Kd.R_alloc | apply Kd.R_drewN | apply Kd.R_drew)); exact HO_6.out)); (case aS => exact (below_size (by repeat (first | (with_reducible first | exact HB.out | apply below_alloc | apply pw_below_drewN | apply below_drew1) | exact HB.out)))); (case aL => have := LMc8.out; omega); intro v114 w15 ho hb hg hat; rw [← Ny113.out] at ho; have n0_ := Aside0.mk (hb); have n1_ := Aside0.mk (ho); clear HB; clear HO_6; have HB := n0_; have HO115 := n1_; clear n0_ n1_; clear ho hb hg hat; obtain ⟨Ao16, co16, eo16⟩ := Kd.R_slice HO115.out; subst eo16; have p116 : 0 ≤ (0 : Int) := (by omega); have q116 : 0 < (y113.length : Int) := of_decide_eq_true (by first | (with_reducible assumption) | assumption); obtain ⟨ad116, e116, hx116_0⟩ := Kd.at_int (Kd.R_reads' HO115.out).2.2 0 p116 q116; cases e116; have qi116 : (0 < y113.length) = True := eq_true (by omega); (try rw [show ((0 : Int)).toNat = 0 from rfl] at hx116_0); (try rw [Addr.add_zero'] at hx116_0); replace p116 := eq_true p116; replace q116 := eq_true q116; have p117 : 0 ≤ ((rd y113 0) : Int) := of_decide_eq_true (by first | (with_reducible assumption) | assumption); have q117 : (rd y113 0) < (l0.length : Int) := of_decide_eq_true (by first | (with_reducible assumption) | assumption); obtain ⟨ad117, A117_0, c117_0, e117, hx117_0, hl117_0, hi117_0⟩ := at_L1 HR0.out (rd y113 0) p117 q117; obtain rfl : ad112 = ad117 := (by injection e117); replace hx117_0 := (HB.out.cell (World.block_lt_of_cell? w _ hx117_0)).trans hx117_0; have HR117_0 := Aside0.mk hi117_0; have HC117_0 := Aside0.mk hl117_0; clear hi117_0 hl117_0; replace p117 := eq_true p117; replace q117 := eq_true q117))
                            go_roundg k1
                            case measure => have := HK1.out; omega
                            case rel => exact ⟨(y113), (wrap64 (x15_1 + 1)), (by first | rfl | (simp; done) | (simp [*]; done)), H', ⟨by have := HK1.out; omega⟩, ⟨by (with_reducible repeat (first | apply Kd.R_alloc | apply Kd.R_drewN | apply Kd.R_drew)); exact HO115.out⟩, ⟨by repeat (first | (with_reducible first | exact HB.out | apply below_alloc | apply pw_below_drewN | apply below_drew1) | exact HB.out)⟩⟩
                          · rw [if_neg c14] at H
                            have c14b0 : (((rd_L1 l0 x15_1).length : Int) == ((rd_L1 l0 (rd y113 0)).length : Int)) = false := beq_eq_false_iff_ne.mpr c14
                            have c14b1 : (((rd_L1 l0 x15_1).length : Int) != ((rd_L1 l0 (rd y113 0)).length : Int)) = true := bne_iff_ne.mpr c14
                            have c14b2 : ((rd_L1 l0 x15_1).length == (rd_L1 l0 (rd y113 0)).length) = false := by first | simpa using c14 | (simp at c14 ⊢; omega)
                            simp only [Option.some.injEq, Prod.mk.injEq] at H
                            obtain ⟨rfl, rfl⟩ := H
                            have p112 : 0 ≤ (x15_1 : Int) := of_decide_eq_true (by first | (with_reducible assumption) | assumption)
                            have q112 : x15_1 < (l0.length : Int) := of_decide_eq_true (by first | (with_reducible assumption) | assumption)
                            obtain ⟨ad112, A112_0, c112_0, e112, hx112_0, hl112_0, hi112_0⟩ := at_L1 HR0.out x15_1 p112 q112
                            cases e112
                            replace hx112_0 := (HB.out.cell (World.block_lt_of_cell? w _ hx112_0)).trans hx112_0
                            have HR112_0 := Aside0.mk hi112_0
                            have HC112_0 := Aside0.mk hl112_0
                            clear hi112_0 hl112_0
                            replace p112 := eq_true p112
                            replace q112 := eq_true q112
                            go_wp2_with (first | ((with_reducible refine gate_builtin (b := .append) (xs := #[.tmp 23, .tmp 25]) rfl ?_); (try (refine gate_guard (by rfl) ?_; dsimp only)); at_builtin; refine Kd.R_append (Kd.int .i64) (w0 := w) w.heap.size rfl (.tmp 23) (.tmp 25) 37 3 (.int .i64 0) 8 rfl Try.underlying37 info3 rfl (by decide) (by omega) u6 x6_1 x15_1 [.int .i64 x15_1] (fun _ => True) (fun _ => False) rfl rfl ?aP (fun _ hk => hk.elim) ?aF ?aO ?aB ?aS ?aL ?_; (case aP => exact rfl); (case aB => exact (by repeat (first | (with_reducible first | exact HB.out | apply below_alloc | apply pw_below_drewN | apply below_drew1) | exact HB.out))); (case aF => exact (fun _ _ => trivial)); (case aO => exact (by (with_reducible repeat (first | apply Kd.R_alloc | apply Kd.R_drewN | apply Kd.R_drew)); exact HO_6.out)); (case aS => exact (below_size (by repeat (first | (with_reducible first | exact HB.out | apply below_alloc | apply pw_below_drewN | apply below_drew1) | exact HB.out)))); (case aL => have := LMc8.out; omega); intro v114 w17 ho hb hg hat; rw [← Ny113.out] at ho; have n0_ := Aside0.mk (hb); have n1_ := Aside0.mk (ho); clear HB; clear HO_6; have HB := n0_; have HO115 := n1_; clear n0_ n1_; clear ho hb hg hat; obtain ⟨Ao18, co18, eo18⟩ := Kd.R_slice HO115.out; subst eo18; have p116 : 0 ≤ (0 : Int) := (by omega); have q116 : 0 < (y113.length : Int) := of_decide_eq_true (by first | (with_reducible assumption) | assumption); obtain ⟨ad116, e116, hx116_0⟩ := Kd.at_int (Kd.R_reads' HO115.out).2.2 0 p116 q116; cases e116; have qi116 : (0 < y113.length) = True := eq_true (by omega); (try rw [show ((0 : Int)).toNat = 0 from rfl] at hx116_0); (try rw [Addr.add_zero'] at hx116_0); replace p116 := eq_true p116; replace q116 := eq_true q116; have p117 : 0 ≤ ((rd y113 0) : Int) := of_decide_eq_true (by first | (with_reducible assumption) | assumption); have q117 : (rd y113 0) < (l0.length : Int) := of_decide_eq_true (by first | (with_reducible assumption) | assumption); obtain ⟨ad117, A117_0, c117_0, e117, hx117_0, hl117_0, hi117_0⟩ := at_L1 HR0.out (rd y113 0) p117 q117; obtain rfl : ad112 = ad117 := (by injection e117); replace hx117_0 := (HB.out.cell (World.block_lt_of_cell? w _ hx117_0)).trans hx117_0; have HR117_0 := Aside0.mk hi117_0; have HC117_0 := Aside0.mk hl117_0; clear hi117_0 hl117_0; replace p117 := eq_true p117; replace q117 := eq_true q117))
                            go_ret2
                            exact ⟨_, by first | rfl | (simp [errW_none, errW_some] <;> rfl) | (simp [*, errW_none, errW_some] <;> rfl), by first | exact Kd.R_nil _ _ _ _ _ | exact Kd.N_nil _ _ _ _ _ | exact Kd.V_nil _ _ _ _ _ | exact Kd.Q_nil _ _ _ _ _ | exact Kd.S_nil _ _ _ _ _, by repeat (first | (with_reducible first | exact HB.out | apply below_alloc | apply pw_below_drewN | apply below_drew1) | exact HB.out)⟩
                        · rw [if_neg c13] at H
                          exact absurd H (by simp)
                      · rw [if_neg c12] at H
                        exact absurd H (by simp)
                    · rw [if_neg c11] at H
                      exact absurd H (by simp)
                · rw [if_neg c8] at H
                  exact absurd H (by simp)
            · rw [if_neg c6] at H
              exact absurd H (by simp)
          · rw [if_neg c5] at H
            exact absurd H (by simp)
        · rw [if_neg c4] at H
          have c4b0 : decide (x15_1 < (l0.length : Int)) = false := decide_eq_false c4
          clear c4
          simp only [Option.some.injEq, Prod.mk.injEq] at H
          obtain ⟨rfl, rfl⟩ := H
          go_wp2
          go_ret2
          exact ⟨_, by first | rfl | (simp [errW_none, errW_some] <;> rfl) | (simp [*, errW_none, errW_some] <;> rfl), by (with_reducible repeat (first | apply Kd.R_alloc | apply Kd.R_drewN | apply Kd.R_drew)); exact HO_6.out, by repeat (first | (with_reducible first | exact HB.out | apply below_alloc | apply pw_below_drewN | apply below_drew1) | exact HB.out)⟩
  · rw [if_neg c3] at H
    have c3b0 : ((l0.length : Int) == a1) = false := beq_eq_false_iff_ne.mpr c3
    have c3b1 : ((l0.length : Int) != a1) = true := bne_iff_ne.mpr c3
    simp only [Option.some.injEq, Prod.mk.injEq] at H
    obtain ⟨rfl, rfl⟩ := H
    go_enter Try.func24, Try.ntmps24
    go_wp2
    go_ret2
    exact ⟨_, by first | rfl | (simp [errW_none, errW_some] <;> rfl) | (simp [*, errW_none, errW_some] <;> rfl), by first | exact Kd.R_nil _ _ _ _ _ | exact Kd.N_nil _ _ _ _ _ | exact Kd.V_nil _ _ _ _ _ | exact Kd.Q_nil _ _ _ _ _ | exact Kd.S_nil _ _ _ _ _, by repeat (first | (with_reducible first | exact HB.out | apply below_alloc | apply pw_below_drewN | apply below_drew1) | exact HB.out)⟩

-- NOT PRINTED: function 25 (codec_rows_cells)

end Go.Proofs.Ythhncoogmncdkaa.PC
-- written by the session's own program (wip/prt.py) over the kit's print: not print.sh's own text
namespace Go.Proofs.Ythhncoogmncdkaa.PC
open Go.RowKit Go.Proofs.YthhncoogmncdkaaW.PrintWords Go.Proofs.YthhncoogmncdkaaW.PrintLast Go.Proofs.YthhncoogmncdkaaW.PrintMore
attribute [local go_sem] max2_int min2_int max_two min_two max_three min_three max_four min_four   -- for this text's walks alone
set_option linter.unusedVariables false
set_option linter.unusedSimpArgs false

/-! ### codec_Encode: function 9 -/
theorem codec_Encode.i2 : (Try.prog.info? 23).map (fun i => (i.zero, i.size, i.bytes)) = some (some (.slice none 0 0), 1, 24) := by kernel_rfl
/-- cells by their rows -/
def codec_Encode.dots (K : Nat) : List (List Int) → List (List Int) → List (List Int) → Option (List (List Int) × Int)
  | [], _, out => some (out, 0)
  | row :: rs, data, out => (kernel_Dot.f K row data).bind fun c => if c.2 ≠ 0 then some ([], c.2) else codec_Encode.dots K rs data (out ++ [c.1])
theorem codec_Encode.dots_mono {K : Nat} : ∀ (rs data out : List (List Int)), LeO (codec_Encode.dots K rs data out) (codec_Encode.dots (K + 1) rs data out)
  | [], _, _ => LeO.refl _
  | _ :: rs, _, _ => LeO.bind (kernel_Dot.mono _ _ _) (fun _ => LeO.ite (LeO.refl _) (codec_Encode.dots_mono rs _ _))
def codec_Encode.f (K : Nat) (a0 a1 : Int) (data : List (List Int)) : Option (List (List Int) × Int) :=
  if codec_Row.bad a0 a1 then some ([], 2) else if codec_Row.inv a0 a1 then (codec_there.f K data a0).bind fun t => if t.2 = false then some ([], 40) else if (t.1.length : Int) < a0 then some ([], 40) else codec_Encode.dots K ((codec_Row.M a0.toNat a1.toNat).drop a0.toNat) data [] else none
theorem codec_Encode.mono : ∀ a0 a1 a2 k, LeO (codec_Encode.f k a0 a1 a2) (codec_Encode.f (k + 1) a0 a1 a2) := fun _ _ _ _ => LeO.ite (LeO.refl _) (LeO.ite (LeO.bind (codec_there.mono _ _ _) (fun _ => LeO.ite (LeO.refl _) (LeO.ite (LeO.refl _) (codec_Encode.dots_mono _ _ _)))) (LeO.refl _))
set_option maxHeartbeats 4000000 in
/-- from row k on -/
theorem codec_Encode.cells (K k r : Nat) (hk : k ≤ 12) (hr : r ≤ 4) (g : Nat) (val : Nat → Value) (A : Option Addr) (c : Nat) (data : List (List Int)) (r1 : List (List Int)) (r2 : Int) (W : World) (hmp : MapIs W g (k + r) (fun i => pk k r i) val) (hv : ∀ i, i < k + r → RowC W (val i) (rw_ (codec_Row.M k r) i))
    (hC : Kd.C (Kd.slice 5 (Kd.int .u8)) W A data.length data) (hc : data.length ≤ c) (h : codec_Encode.dots K ((codec_Row.M k r).drop k) data [] = some (r1, r2)) :
    Calls Try.prog 25 #[.map (some g), .int .i64 k, .int .i64 r, .int .i64 k, .int .i64 ((k : Int) + r), .slice A data.length c] W fun e w' => ∃ v, e = .returned (.tuple #[v, .int .i64 r2]) ∧ Kd.S (Kd.slice 5 (Kd.int .u8)) 23 w' W.heap.size (fun _ => True) v r1 ∧ Below W.heap.size W w' := by
  have H := Lib.hid h
  have HMP := Lib.hid hmp
  have HV := Lib.hid hv
  have HC := Lib.hid hC
  have HCL := Lib.hid hc
  have HK := Lib.hid hk
  have HR := Lib.hid hr
  have HB := Lib.hid (Below.refl W.heap.size W)
  clear h hmp hv hC hc hk hr
  go_enter Try.func25, Try.ntmps25
  go_wp2_with fail
  go_loopg [14, 15, 16, 17] r (fun gk s14 s15 s16 s17 wx => ∃ (i : Nat) (out : List (List Int)), i + gk = r ∧ s15 = .int .i64 ((k : Int) + i) ∧ Hid (out.length = i) ∧ Hid (codec_Encode.dots K ((codec_Row.M k r).drop (k + i)) data out = some (r1, r2)) ∧ Hid (Kd.S (Kd.slice 5 (Kd.int .u8)) 23 wx W.heap.size (fun _ => True) s14 out) ∧ Hid (Below W.heap.size W wx))
  case atStart => exact ⟨0, [], by omega, by simp, Lib.hid rfl, H, Lib.hid (Kd.S_nil _ _ _ _ _), HB⟩
  case round =>
    clear H HB
    obtain ⟨i, out, hig, rfl, HOL, H, HS, HB⟩ := hrel
    cases gk with
    | zero =>
      obtain rfl : i = r := by omega
      have h := H.out
      rw [List.drop_of_length_le (by rw [codec_Row.M_len]; exact Nat.le_refl _), codec_Encode.dots] at h
      injection h with h; injection h with ha hc; subst ha hc
      have hd : decide ((k : Int) + (i : Int) < (k : Int) + (i : Int)) = false := decide_eq_false (Int.lt_irrefl _)
      clear H hig
      go_wp2_with fail
      go_ret2
      exact ⟨_, rfl, HS.out, HB.out⟩
    | succ d =>
      have hlt : (k : Int) + (i : Int) < (k : Int) + (r : Int) := by omega
      have hin : k + i < (codec_Row.M k r).length := by rw [codec_Row.M_len]; omega
      have h := H.out
      rw [List.drop_eq_getElem_cons hin, codec_Encode.dots] at h
      have hrow : (codec_Row.M k r)[k + i] = rw_ (codec_Row.M k r) (k + i) := by simp [rw_, hin]
      rw [hrow] at h
      obtain ⟨⟨y, ye⟩, hdot, h⟩ := Option.bind_eq_some_iff.mp h
      obtain ⟨Ar, cr, hval, hcr, hCr⟩ := HV.out (k + i) (by omega)
      have HD := Lib.hid hdot
      have H2 := Lib.hid h
      have HCR := Lib.hid (Kd.C_below hCr HB.out)
      have HCRL := Lib.hid hcr
      have hlook : (Instr.lookup 44 (.map (some g)) (.agg #[.int .i64 (k : Int), .int .i64 (r : Int), .int .i64 ((k : Int) + (i : Int))]) false).run Try.prog wr = .ok (.slice Ar (rw_ (codec_Row.M k r) (k + i)).length cr) wr := by
        have hkey := fun q (hq : q < k + r) => codec_Row.keys (n := 0) (i := q) HK.out HR.out (by have := HK.out; have := HR.out; omega)
        have e1 : ((k + i : Nat) : Int) = (k : Int) + (i : Int) := by omega
        rcases (HMP.out.below HB.out).look hkey (.slice none 0 0) (codec_Row.zero wr) false (hkey (k + i) (by omega)) with ⟨j, hj, hx, hl⟩ | ⟨hno, -⟩
        · have := pk_inj hx
          obtain rfl : k + i = j := by omega
          simp only [pk, e1, Bool.false_eq_true, if_false, hval] at hl
          exact hl
        · exact absurd rfl (hno (k + i) (by omega))
      have HIN := Lib.hid hin
      clear h hdot hrow H hval hcr hCr hin
      go_wp2_with fail
      refine (kernel_Dot.calls K Ar cr (rw_ (codec_Row.M k r) (k + i)) A c data y ye _ HCR.out HCRL.out (Kd.C_below HC.out HB.out) HCL.out HD.out).mono ?_
      rintro e w1 ⟨v1, rfl, ho, hb⟩
      have HY := Lib.hid ho
      have HB1 := Lib.hid (below_step HB.out hb)
      have HW := Lib.hid hb
      clear ho hb hlook HCR HCRL HD
      by_cases h0 : ye = 0
      case neg =>
        have h := H2.out
        try dsimp only at h
        rw [if_pos h0] at h
        injection h with h; injection h with ha hc; subst ha hc
        have e1 : (ye != 0) = true := bne_iff_ne.mpr h0
        clear h0 H2
        go_wp2_with fail
        go_ret2
        exact ⟨_, rfl, Kd.S_nil _ _ _ _ _, HB1.out⟩
      subst h0
      have h := H2.out
      try dsimp only at h
      rw [if_neg (fun z => z rfl)] at h
      have HN := Lib.hid (show codec_Encode.dots K ((codec_Row.M k r).drop (k + (i + 1))) data (out ++ [y]) = some (r1, r2) from h)
      obtain ⟨Ay, cy, rfl⟩ := Kd.R_slice HY.out
      have hw : wrap64 ((k : Int) + (i : Int) + 1) = (k : Int) + ((i + 1 : Nat) : Int) := by have := HK.out; have := HR.out; unfold wrap64; omega
      have HWR := Lib.hid hw
      have HOLD := Lib.hid (Kd.S_mono (Kd.S_old HS.out HW.out) (ok' := fun k_ => True ∧ ¬ wr.heap.size ≤ k_) (fun k_ hk_ => ⟨trivial, by have := hk_.2; omega⟩))
      have HLT := Lib.hid (Kd.S_lt HS.out)
      have HYM := Lib.hid (Kd.M_row (Kd.R_lower (Kd.R_mono (Kd.R_bound HY.out) (ok' := fun k_ => wr.heap.size ≤ k_) (fun k_ hk_ => hk_.2.1)) HB.out.size))
      have HRB := Lib.hid (show r ≤ 4 from HR.out)
      clear h H2 hw HS HY HW
      go_wp2_with ((with_reducible refine gate_builtin (b := .append) (xs := #[.tmp 38, .tmp 40]) rfl ?_); at_builtin; refine Kd.S_append (Kd.slice 5 (Kd.int .u8)) (w0 := W) W.heap.size rfl (.tmp 38) (.tmp 40) 24 23 (.slice none 0 0) 24 rfl Try.underlying24 codec_Encode.i2 rfl (by decide) (by omega) _ out y [.slice Ay y.length cy] (fun _ => True) (fun k_ => wr.heap.size ≤ k_) rfl rfl HYM.out (fun k_ hk_ => ⟨trivial, fun e_ => by have := HLT.out k_ e_.symm; omega⟩) (fun _ _ => trivial) HOLD.out HB1.out HB1.out.size (by have := HOL.out; have := HRB.out; omega) ?_; intro v5 w5 ho hb hg hat; have HS := Lib.hid ho; have HB := Lib.hid hb; clear ho hb hg hat)
      go_roundg d
      case measure => omega
      case rel => exact ⟨i + 1, out ++ [y], by omega, by first | rw [HWR.out] | (simp [Int.add_assoc]; done), Lib.hid (by rw [List.length_append, HOL.out]; rfl), HN, HS, HB⟩
theorem codec_Encode.calls (k : Nat) (a0 a1 : Int) (A2 : Option Addr) (c2 : Nat) (l2 : List (List Int)) (r1 : List (List Int)) (r2 : Int) (w : World) (hr2 : Kd.C (Kd.slice 5 (Kd.int .u8)) w A2 l2.length l2) (hc2 : l2.length ≤ c2) (h : codec_Encode.f k a0 a1 l2 = some (r1, r2)) :
    Calls Try.prog 9 #[.int .i64 a0, .int .i64 a1, .slice A2 l2.length c2] w fun e w' => ∃ v0_ : Value, e = .returned (.tuple #[v0_, .int .i64 r2]) ∧ Kd.S (Kd.slice 5 (Kd.int .u8)) 23 w' w.heap.size (fun _ => True) v0_ r1 ∧ Below w.heap.size w w' := by
  unfold codec_Encode.f at h
  have HR2 := Lib.hid hr2
  have HC2 := Lib.hid hc2
  clear hr2 hc2
  by_cases hbad : codec_Row.bad a0 a1
  case pos =>
    rw [if_pos hbad] at h
    injection h with h; injection h with ha hc; subst ha hc
    have HBAD := Lib.hid hbad
    clear hbad
    go_enter Try.func9, Try.ntmps9
    go_wp2_with fail
    refine (codec_Row.bad1 a0 a1 HBAD.out _).mono ?_
    rintro e w1 ⟨rfl, rfl⟩
    have heq := map_eql_nil none w
    go_wp2_with fail
    go_ret2
    exact ⟨_, rfl, Kd.S_nil _ _ _ _ _, Below.refl _ _⟩
  rw [if_neg hbad] at h
  by_cases hinv : codec_Row.inv a0 a1
  case neg => rw [if_neg hinv] at h; cases h
  rw [if_pos hinv] at h
  unfold codec_Row.bad at hbad
  obtain ⟨n, rfl⟩ := Int.eq_ofNat_of_zero_le (show 0 ≤ a0 by omega)
  obtain ⟨m, rfl⟩ := Int.eq_ofNat_of_zero_le (show 0 ≤ a1 by omega)
  simp only [Int.toNat_natCast] at h
  have hk0 : 1 ≤ n := by omega
  have hk : n ≤ 12 := by omega
  have hr : m ≤ 4 := by omega
  obtain ⟨⟨tl, tb⟩, hth, h⟩ := Option.bind_eq_some_iff.mp h
  have HI := Lib.hid hinv
  have HK0 := Lib.hid hk0
  have HK := Lib.hid hk
  have HR := Lib.hid hr
  have HTH := Lib.hid hth
  have H := Lib.hid h
  clear hbad hinv hk0 hk hr hth h
  go_enter Try.func9, Try.ntmps9
  go_wp2_with fail
  refine (codec_Row.made n m HK0.out HK.out HR.out HI.out _).mono ?_
  rintro e w1 ⟨g, val, rfl, hmp, hrow, hb⟩
  have heq := map_eql_nil (some g) w1
  have HB := Lib.hid hb
  have HMP := Lib.hid hmp
  have HRW := Lib.hid (fun i (hi : i < n + m) => RowC.of_R (hrow i hi))
  clear hmp hrow hb
  go_wp2_with fail
  refine (codec_there.calls k A2 c2 l2 (n : Int) tl tb _ (Kd.C_below HR2.out HB.out) HC2.out HTH.out).mono ?_
  rintro e w2 ⟨v2, rfl, ho, hb⟩
  obtain ⟨At, ct, rfl⟩ := Kd.R_slice ho
  replace HMP := Lib.hid (HMP.out.below hb)
  replace HRW := Lib.hid (fun i (hi : i < n + m) => (HRW.out i hi).below hb)
  replace HB := Lib.hid (below_step HB.out hb)
  clear ho hb HTH heq
  have h := H.out
  try dsimp only at h
  cases tb with
  | false =>
    rw [if_pos rfl] at h
    injection h with h; injection h with ha hc; subst ha hc
    clear H
    go_wp2_with fail
    go_ret2
    exact ⟨_, rfl, Kd.S_nil _ _ _ _ _, HB.out⟩
  | true =>
    rw [if_neg (by decide)] at h
    by_cases hlt : (tl.length : Int) < (n : Int)
    case pos =>
      rw [if_pos hlt] at h
      injection h with h; injection h with ha hc; subst ha hc
      have hd : decide ((tl.length : Int) < (n : Int)) = true := decide_eq_true hlt
      clear H
      go_wp2_with fail
      go_ret2
      exact ⟨_, rfl, Kd.S_nil _ _ _ _ _, HB.out⟩
    rw [if_neg hlt] at h
    have hd : decide ((tl.length : Int) < (n : Int)) = false := decide_eq_false hlt
    have HD := Lib.hid h
    have hb1 : (n : Int) ≤ 12 := by have := HK.out; omega
    have hb2 : (m : Int) ≤ 4 := by have := HR.out; omega
    clear H h
    go_wp2_with fail
    refine (codec_Encode.cells k n m HK.out HR.out g val A2 c2 l2 r1 r2 _ HMP.out HRW.out (Kd.C_below HR2.out HB.out) HC2.out HD.out).mono ?_
    rintro e w3 ⟨v3, rfl, ho, hb⟩
    have HO := Lib.hid (Kd.S_lower ho HB.out.size)
    have HB3 := Lib.hid (below_step HB.out hb)
    clear ho hb
    go_wp2_with fail
    go_ret2
    exact ⟨_, rfl, HO.out, HB3.out⟩

/-! ### bytes_Equal: function 28 -/
def bytes_Equal.f (l0 : List Int) (l1 : List Int) : Option (Bool) := some ((strOfNums l0).toList == (strOfNums l1).toList)
set_option maxHeartbeats 8000000 in
set_option maxRecDepth 100000 in
theorem bytes_Equal.calls (A0 : Option Addr) (c0 : Nat) (l0 : List Int) (A1 : Option Addr) (c1 : Nat) (l1 : List Int) (r : Bool) (w : World) (hr0 : Kd.C (Kd.int .u8) w A0 l0.length l0) (hc0 : l0.length ≤ c0) (hr1 : Kd.C (Kd.int .u8) w A1 l1.length l1) (hc1 : l1.length ≤ c1) (h : bytes_Equal.f l0 l1 = some r) :
    Calls Try.prog 28 #[.slice A0 l0.length c0, .slice A1 l1.length c1] w fun e w' => e = .returned (.bool r) ∧ Drawn0 w w' := by
  have HR0 := Aside0.mk hr0
  have HC0 := Aside0.mk hc0
  clear hr0 hc0
  have HR1 := Aside0.mk hr1
  have HC1 := Aside0.mk hc1
  clear hr1 hc1
  have H : (some ((strOfNums l0).toList == (strOfNums l1).toList)) = some r := h
  clear h
  obtain rfl := Option.some.inj H
  have hcv3 := Kd.C_string (P := Try.prog) (A := A0) (c := c0) Try.underlying23 Try.underlying5 Try.underlying9 HR0.out
  have hcv4 := fun n_ : Nat => Kd.C_string (P := Try.prog) (A := A0) (c := c0) Try.underlying23 Try.underlying5 Try.underlying9 (Kd.C_drewN (HR0.out) n_)
  have hcv5 := Kd.C_string (P := Try.prog) (A := A1) (c := c1) Try.underlying23 Try.underlying5 Try.underlying9 HR1.out
  have hcv6 := fun n_ : Nat => Kd.C_string (P := Try.prog) (A := A1) (c := c1) Try.underlying23 Try.underlying5 Try.underlying9 (Kd.C_drewN (HR1.out) n_)
  go_enter Try.func28, Try.ntmps28
  go_wp2
  go_ret
  exact ⟨by first | rfl | (simp; done) | (simp [*]; done), by repeat (first | exact Drawn0.refl _ | apply Drawn0.step)⟩

-- NOT PRINTED: function 27 (slices_EqualFunc_byte_byte_byte_byte)

end Go.Proofs.Ythhncoogmncdkaa.PC
namespace Go.Proofs.Ythhncoogmncdkaa.Pure
open Go Go.RowKit Go.TwoGf Go.Proofs.Ythhncoogmncdkaa Go.Proofs.Ythhncoogmncdkaa.PC Go.Proofs.YthhncoogmncdkaaW.PrintWords Go.Proofs.YthhncoogmncdkaaW.PrintLast Go.Proofs.YthhncoogmncdkaaW.PrintMore
set_option linter.unusedVariables false
/-- cells that may be, and are alike -/
def Alk (n : Nat) (l : List (List Int)) : Prop := ∀ x ∈ l, 1 ≤ x.length ∧ x.length ≤ 65536 ∧ x.length = n
instance alkDec (n : Nat) (l : List (List Int)) : Decidable (Alk n l) := by unfold Alk; infer_instance
theorem alk_dots {n : Nat} {l : List (List Int)} (h : Alk n l) : alk l = true := by
  unfold alk
  rw [List.all_eq_true]
  intro x hx
  have hx' := h x hx
  have e : (rd_L1 l 0).length = n := by
    cases l with
    | nil => cases hx
    | cons y l => exact (h y (by simp)).2.2
  simp [e, hx'.2.2]
  omega
theorem rd_L1_n {n : Nat} {l : List (List Int)} (h : Alk n l) {i : Nat} (hi : i < l.length) : (rd_L1 l (i : Int)).length = n := by
  rw [rd_L1_nat hi]; exact (h _ (List.getElem_mem _)).2.2
/-- may the code be -/
def okK (k r : Int) : Prop := 1 ≤ k ∧ k ≤ 12 ∧ 0 ≤ r ∧ r ≤ 4
instance okKDec (k r : Int) : Decidable (okK k r) := by unfold okK; infer_instance
end Go.Proofs.Ythhncoogmncdkaa.Pure
namespace Go.Proofs.Ythhncoogmncdkaa.Pure
open Go Go.RowKit Go.TwoGf Go.Proofs.Ythhncoogmncdkaa Go.Proofs.Ythhncoogmncdkaa.PC Go.Proofs.YthhncoogmncdkaaW.PrintWords Go.Proofs.YthhncoogmncdkaaW.PrintLast Go.Proofs.YthhncoogmncdkaaW.PrintMore
set_option linter.unusedVariables false
/-- numbers of the rows that are not empty -/
def posI : List (List Int) → Nat → List Int
  | [], _ => []
  | x :: xs, i => if x.length = 0 then posI xs (i + 1) else (i : Int) :: posI xs (i + 1)
def like (m : Nat) (l : List (List Int)) : Prop := ∀ x ∈ l, x.length = 0 ∨ x.length = m
instance likeDec (m : Nat) (l : List (List Int)) : Decidable (like m l) := by unfold like; infer_instance
def thv : List (List Int) → Nat → List Int × Bool
  | [], _ => ([], true)
  | x :: xs, i => if x.length = 0 then thv xs (i + 1) else if x.length > 65536 then ([], false) else if like x.length xs then ((i : Int) :: posI xs (i + 1), true) else ([], false)
theorem there_a (l : List (List Int)) (hl : l.length ≤ 100000) {a : Int} (ha : 0 ≤ a ∧ a < l.length) {m : Nat} (hm : (rd_L1 l a).length = m) (h1 : 1 ≤ m) (h2 : m ≤ 65536) :
    ∀ (d K i : Nat) (t : List Int), i + d = l.length → d < K → t.length + 1 ≤ i → codec_there.l0 K l (a :: t) l (l.length : Int) (i : Int) = some (if like m (l.drop i) then (a :: t ++ posI (l.drop i) i, true) else ([], false))
  | 0, K, i, t, hi, hK, ht => by
    obtain ⟨K, rfl⟩ : ∃ m, K = m + 1 := ⟨K - 1, by omega⟩
    obtain rfl : i = l.length := by omega
    simp only [codec_there.l0]
    rw [if_neg (by omega), List.drop_length, if_pos (show like m [] from fun x hx => by cases hx)]
    simp [posI]
  | d + 1, K, i, t, hi, hK, ht => by
    obtain ⟨K, rfl⟩ : ∃ m, K = m + 1 := ⟨K - 1, by omega⟩
    have hlt : i < l.length := by omega
    simp only [codec_there.l0]
    rw [if_pos (by omega), if_pos (by omega), if_pos (by omega), rd_L1_nat hlt, wrap_s (by omega) (by omega), List.drop_eq_getElem_cons hlt]
    rw [show (i : Int) + 1 = ((i + 1 : Nat) : Int) by omega]
    by_cases h0 : l[i].length = 0
    · rw [if_pos (by omega), there_a l hl ha hm h1 h2 d K (i + 1) t (by omega) (by omega) (by omega), posI, if_pos h0]
      by_cases h3 : like m (l.drop (i + 1))
      · rw [if_pos h3, if_pos (show like m (l[i] :: l.drop (i + 1)) from fun x hx => (List.mem_cons.1 hx).elim (fun e => .inl (by rw [e]; exact h0)) (h3 x))]
      · rw [if_neg h3, if_neg (fun z : like m (l[i] :: l.drop (i + 1)) => h3 fun x hx => z x (List.mem_cons_of_mem _ hx))]
    · rw [if_neg (by omega), if_pos (by simp only [List.length_cons]; omega), posI, if_neg h0]
      simp only [Option.bind_some]
      have e0 : rd (a :: t ++ [(i : Int)]) 0 = a := rfl
      rw [e0, hm]
      by_cases h3 : l[i].length = m
      · rw [if_neg (by omega), if_pos (by simp only [List.length_cons, List.cons_append]; omega), if_pos ha.1, if_pos ha.2, if_pos (by omega)]
        have := there_a l hl ha hm h1 h2 d K (i + 1) (t ++ [(i : Int)]) (by omega) (by omega) (by simp; omega)
        rw [List.cons_append, this]
        by_cases h4 : like m (l.drop (i + 1))
        · rw [if_pos h4, if_pos (show like m (l[i] :: l.drop (i + 1)) from fun x hx => (List.mem_cons.1 hx).elim (fun e => .inr (by rw [e]; exact h3)) (h4 x))]
          simp
        · rw [if_neg h4, if_neg (fun z : like m (l[i] :: l.drop (i + 1)) => h4 fun x hx => z x (List.mem_cons_of_mem _ hx))]
      · have h5 : ¬ like m (l[i] :: l.drop (i + 1)) := fun z => (z l[i] List.mem_cons_self).elim h0 h3
        rw [if_neg h5]
        by_cases h6 : (l[i].length : Int) > 65536
        · rw [if_pos h6]
        · rw [if_neg h6, if_pos (by simp only [List.length_cons, List.cons_append]; omega), if_pos ha.1, if_pos ha.2, if_neg (by omega)]
theorem there_b (l : List (List Int)) (hl : l.length ≤ 100000) :
    ∀ (d K i : Nat), i + d = l.length → d < K → codec_there.l0 K l [] l (l.length : Int) (i : Int) = some (thv (l.drop i) i)
  | 0, K, i, hi, hK => by
    obtain ⟨K, rfl⟩ : ∃ m, K = m + 1 := ⟨K - 1, by omega⟩
    obtain rfl : i = l.length := by omega
    simp only [codec_there.l0]
    rw [if_neg (by omega), List.drop_length]; rfl
  | d + 1, K, i, hi, hK => by
    obtain ⟨K, rfl⟩ : ∃ m, K = m + 1 := ⟨K - 1, by omega⟩
    have hlt : i < l.length := by omega
    simp only [codec_there.l0]
    rw [if_pos (by omega), if_pos (by omega), if_pos (by omega), rd_L1_nat hlt, wrap_s (by omega) (by omega), List.drop_eq_getElem_cons hlt, thv]
    rw [show (i : Int) + 1 = ((i + 1 : Nat) : Int) by omega]
    by_cases h0 : l[i].length = 0
    · rw [if_pos (by omega), if_pos h0, there_b l hl d K (i + 1) (by omega) (by omega)]
    · rw [if_neg (by omega), if_neg h0, if_pos (by simp)]
      simp only [Option.bind_some]
      have e0 : rd ([] ++ [(i : Int)]) 0 = (i : Int) := rfl
      rw [e0, rd_L1_nat hlt]
      by_cases h3 : l[i].length > 65536
      · rw [if_pos (by omega), if_pos h3]
      · rw [if_neg (by omega), if_neg h3, if_pos (by simp), if_pos (by omega), if_pos (by omega), if_pos rfl]
        have := there_a l hl (a := (i : Int)) ⟨by omega, by omega⟩ (m := l[i].length) (by rw [rd_L1_nat hlt]) (by omega) (by omega) d K (i + 1) [] (by omega) (by omega) (by simp)
        rw [List.nil_append, this]
        rfl
theorem there_f {K : Nat} {l : List (List Int)} {n : Int} (hK : 200 ≤ K) (hn : n ≤ 100) : codec_there.f K l n = some (if (l.length : Int) = n then thv l 0 else ([], false)) := by
  unfold codec_there.f
  by_cases h : (l.length : Int) = n
  · rw [if_pos h, if_pos h]
    exact there_b l (by omega) l.length K 0 (by omega) (by omega)
  · rw [if_neg h, if_neg h]
theorem posI_le : ∀ (l : List (List Int)) (i : Nat), (posI l i).length ≤ l.length
  | [], _ => Nat.le_refl _
  | x :: xs, i => by
    have := posI_le xs (i + 1)
    unfold posI
    split
    · simp; omega
    · simp; omega
theorem thv_le : ∀ (l : List (List Int)) (i : Nat), (thv l i).1.length ≤ l.length
  | [], _ => Nat.le_refl _
  | x :: xs, i => by
    have := thv_le xs (i + 1)
    have := posI_le xs (i + 1)
    unfold thv
    split
    · simp; omega
    · split
      · simp
      · split
        · simp; omega
        · simp
theorem posI_full : ∀ (l : List (List Int)) (i : Nat), (posI l i).length = l.length → ∀ x ∈ l, x.length ≠ 0
  | [], _, _, x, hx => by cases hx
  | y :: ys, i, h, x, hx => by
    have h1 := posI_le ys (i + 1)
    unfold posI at h
    by_cases e : y.length = 0
    · rw [if_pos e] at h; simp at h; omega
    · rw [if_neg e] at h
      rcases List.mem_cons.1 hx with rfl | hx
      · exact e
      · exact posI_full ys (i + 1) (by simpa using h) x hx
theorem posI_all : ∀ (l : List (List Int)) (i : Nat), (∀ x ∈ l, x.length ≠ 0) → (posI l i).length = l.length
  | [], _, _ => rfl
  | y :: ys, i, h => by
    unfold posI
    rw [if_neg (h y (by simp))]
    simp [posI_all ys (i + 1) (fun x hx => h x (by simp [hx]))]
theorem thv_full {l : List (List Int)} (h1 : 1 ≤ l.length) (h : (thv l 0).2 = true) (h2 : l.length ≤ (thv l 0).1.length) : ∃ n, Alk n l := by
  cases l with
  | nil => simp at h1
  | cons x xs =>
    have hle := thv_le xs (0 + 1)
    unfold thv at h h2
    by_cases e : x.length = 0
    · rw [if_pos e] at h2; simp at h2 hle; omega
    · rw [if_neg e] at h h2
      by_cases e2 : x.length > 65536
      · rw [if_pos e2] at h; cases h
      · rw [if_neg e2] at h h2
        by_cases e3 : like x.length xs
        · rw [if_pos e3] at h2
          have hp := posI_le xs (0 + 1)
          have h3 := posI_full xs (0 + 1) (by simp only [List.length_cons] at h2; omega)
          refine ⟨x.length, fun y hy => ?_⟩
          rcases List.mem_cons.1 hy with rfl | hy
          · omega
          · have := h3 y hy
            have := e3 y hy
            omega
        · rw [if_neg e3] at h; cases h
theorem thv_alk {n : Nat} {l : List (List Int)} (h1 : 1 ≤ l.length) (h : Alk n l) : (thv l 0).2 = true ∧ (thv l 0).1.length = l.length := by
  cases l with
  | nil => simp at h1
  | cons x xs =>
    have hx := h x (by simp)
    have hp := posI_all xs (0 + 1) (fun y hy => by have := h y (by simp [hy]); omega)
    unfold thv
    rw [if_neg (by omega), if_neg (by omega), if_pos (show like x.length xs from fun y hy => by have := h y (by simp [hy]); omega)]
    exact ⟨rfl, by simp [hp]⟩
theorem dot_v {K : Nat} (hK : 60 ≤ K) {n : Nat} {row : List Int} {data : List (List Int)} (hr : isB row) (hd : ∀ b ∈ data, isB b) (ha : Alk n data) (h1 : 1 ≤ data.length) (h2 : data.length ≤ 16) (h3 : row.length = data.length) :
    kernel_Dot.f K row data = some (dacc (List.replicate n 0) row data, 0) := by
  rw [dot_f (by omega) (by omega) hr hd]
  unfold dotv
  rw [if_pos ⟨by omega, by omega, alk_dots ha⟩, if_neg (by omega), show (rd_L1 data 0).length = n from rd_L1_n ha (i := 0) (by omega)]
/-- the cells of rows -/
def coded (n : Nat) (rs : List (List Int)) (data : List (List Int)) : List (List Int) := rs.map fun row => dacc (List.replicate n 0) row data
theorem dots_v {K : Nat} (hK : 60 ≤ K) {n : Nat} {data : List (List Int)} (hd : ∀ b ∈ data, isB b) (ha : Alk n data) (h1 : 1 ≤ data.length) (h2 : data.length ≤ 16) :
    ∀ (rs out : List (List Int)), (∀ row ∈ rs, isB row ∧ row.length = data.length) → codec_Encode.dots K rs data out = some (out ++ coded n rs data, 0)
  | [], out, _ => by simp [codec_Encode.dots, coded]
  | row :: rs, out, h => by
    obtain ⟨b1, b2⟩ := h row (by simp)
    rw [codec_Encode.dots, dot_v hK b1 hd ha h1 h2 b2]
    simp only [Option.bind_some]
    rw [if_neg (by simp), dots_v hK hd ha h1 h2 rs _ (fun r hr => h r (by simp [hr]))]
    simp [coded]
theorem mem_dropM {k r : Int} (h : okK k r) {data : List (List Int)} (hl : (data.length : Int) = k) : ∀ row ∈ (codec_Row.M k.toNat r.toNat).drop k.toNat, isB row ∧ row.length = data.length := fun row hr => by
  have hm := List.mem_of_mem_drop hr
  obtain ⟨h1, h2, h3, h4⟩ := h
  exact ⟨allM_B (by omega) (by omega) row hm, by rw [(allM_rect k.toNat r.toNat).2 row hm]; omega⟩
theorem enc_ok {K : Nat} (hK : 200 ≤ K) {k r : Int} (h : okK k r) {data : List (List Int)} (hl : (data.length : Int) = k) {n : Nat} (ha : Alk n data) (hd : ∀ b ∈ data, isB b) :
    codec_Encode.f K k r data = some (coded n ((codec_Row.M k.toNat r.toNat).drop k.toNat) data, 0) := by
  obtain ⟨h1, h2, h3, h4⟩ := h
  unfold codec_Encode.f
  obtain ⟨t1, t2⟩ := thv_alk (by omega) ha
  rw [if_neg (by unfold codec_Row.bad; omega), if_pos (row_inv h1 h2 h4), there_f hK (by omega), if_pos hl]
  simp only [Option.bind_some]
  rw [if_neg (by rw [t1]; simp), if_neg (by omega), dots_v (by omega) hd ha (by omega) (by omega) _ _ (mem_dropM ⟨h1, h2, h3, h4⟩ hl), List.nil_append]
end Go.Proofs.Ythhncoogmncdkaa.Pure
