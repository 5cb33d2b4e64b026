/- What solve comes to: an elimination. No condition. -/
import Derived.Test.YthhncoogmncdkaaPCx0
import Derived.Test.YthhncoogmncdkaaPCx11
import Derived.Test.YthhncoogmncdkaaLin
import Derived.Lib.Bytes
import Derived.Test.YthhncoogmncdkaaPCx30
import Derived.Test.YthhncoogmncdkaaPCx13
import Derived.Test.YthhncoogmncdkaaCdMap
import Derived.Test.YthhncoogmncdkaaMxSpo
import Derived.Test.YthhncoogmncdkaaPCx12
-- written by the session's own program (wip/prt.py) over the kit's print: not print.sh's own text
namespace Go.Proofs.Ythhncoogmncdkaa.PC
open Go.RowKit Go.Proofs.YthhncoogmncdkaaW.PrintWords Go.Proofs.YthhncoogmncdkaaW.PrintLast Go.Proofs.YthhncoogmncdkaaW.PrintMore
attribute [local go_sem] max2_int min2_int max_two min_two max_three min_three max_four min_four   -- for this text's walks alone
set_option linter.unusedVariables false
set_option linter.unusedSimpArgs false

/-! ### kernel_Dot: function 21 -/
mutual
def kernel_Dot.j0 : Nat → List Int → List (List Int) → Bool → Option (List Int × Int)
 | 0, _, _, _ => none
 | k + 1, x0, x1, x22 => if x22 = true then (some (([] : List Int), 20)) else (if (x1.length : Int) = 0 then (some (([] : List Int), 0)) else (if 0 < (x1.length : Int) then (if 0 ≤ ((rd_L1 x1 0).length : Int) then (if (((rd_L1 x1 0).length : Int) : Int).toNat ≤ 281474976710656 then (kernel_Dot.l0 k x0 x1 (List.replicate (((rd_L1 x1 0).length : Int) : Int).toNat 0) (x1.length : Int) 0) else (none)) else (none)) else (none)))
def kernel_Dot.l0 : Nat → List Int → List (List Int) → List Int → Int → Int → Option (List Int × Int)
 | 0, _, _, _, _, _ => none
 | k + 1, x0, x1, x6, x32, x33 => if x33 < x32 then (if 0 ≤ x33 then (if x33 < (x0.length : Int) then (if x33 < (x1.length : Int) then ((kernel_add.f k x6 (rd x0 x33) (rd_L1 x1 x33)).bind fun t111 => (kernel_Dot.l0 k x0 x1 t111 x32 (wrap64 (x33 + 1)))) else (none)) else (none)) else (none)) else (some (x6, 0))
end
def kernel_Dot.f (k : Nat) (l0 : List Int) (l1 : List (List Int)) : Option (List Int × Int) := if (l0.length : Int) > 16 then (kernel_Dot.j0 k l0 l1 true) else (if (l1.length : Int) = (l0.length : Int) then ((kernel_alike.f k l1).bind fun t104 => (kernel_Dot.j0 k l0 l1 (!t104))) else (kernel_Dot.j0 k l0 l1 true))
theorem kernel_Dot.mono_l : ∀ k, (∀ y0 y1 y2, LeO (kernel_Dot.j0 k y0 y1 y2) (kernel_Dot.j0 (k + 1) y0 y1 y2)) ∧ (∀ y0 y1 y2 y3 y4, LeO (kernel_Dot.l0 k y0 y1 y2 y3 y4) (kernel_Dot.l0 (k + 1) y0 y1 y2 y3 y4))
 | 0 => ⟨fun _ _ _ r h => by simp [kernel_Dot.j0] at h, fun _ _ _ _ _ r h => by simp [kernel_Dot.l0] at h⟩
 | k + 1 => by
  obtain ⟨ih0, ih1⟩ := kernel_Dot.mono_l k
  refine ⟨?_, ?_⟩
  ·intro y0 y1 y2
   unfold kernel_Dot.j0
   repeat' first
   | (with_reducible exact ih0 _ _ _)
   | (with_reducible exact ih1 _ _ _ _ _)
   | (with_reducible exact kernel_add.mono _ _ _ _)
   | (with_reducible exact kernel_alike.mono _ _)
   | (with_reducible exact LeO.refl _)
   | (with_reducible exact LeO.none _)
   | (with_reducible refine LeO.ite ?_ ?_)
   | (with_reducible refine LeO.bind ?_ (fun _ => ?_))
   | exact ih0 _ _ _
   | exact ih1 _ _ _ _ _
   | exact kernel_add.mono _ _ _ _
   | exact kernel_alike.mono _ _
   | exact LeO.none _
   | refine LeO.ite ?_ ?_
   | refine LeO.bind ?_ (fun _ => ?_)
  ·intro y0 y1 y2 y3 y4
   unfold kernel_Dot.l0
   repeat' first
   | (with_reducible exact ih0 _ _ _)
   | (with_reducible exact ih1 _ _ _ _ _)
   | (with_reducible exact kernel_add.mono _ _ _ _)
   | (with_reducible exact kernel_alike.mono _ _)
   | (with_reducible exact LeO.refl _)
   | (with_reducible exact LeO.none _)
   | (with_reducible refine LeO.ite ?_ ?_)
   | (with_reducible refine LeO.bind ?_ (fun _ => ?_))
   | exact ih0 _ _ _
   | exact ih1 _ _ _ _ _
   | exact kernel_add.mono _ _ _ _
   | exact kernel_alike.mono _ _
   | exact LeO.none _
   | refine LeO.ite ?_ ?_
   | refine LeO.bind ?_ (fun _ => ?_)
theorem kernel_Dot.mono : ∀ a0 a1 k, LeO (kernel_Dot.f k a0 a1) (kernel_Dot.f (k + 1) a0 a1) := by
 intro a0 a1 k
 obtain ⟨ih0, ih1⟩ := kernel_Dot.mono_l k
 unfold kernel_Dot.f
 repeat' first
   | (with_reducible exact ih0 _ _ _)
   | (with_reducible exact ih1 _ _ _ _ _)
   | (with_reducible exact kernel_add.mono _ _ _ _)
   | (with_reducible exact kernel_alike.mono _ _)
   | (with_reducible exact LeO.refl _)
   | (with_reducible exact LeO.none _)
   | (with_reducible refine LeO.ite ?_ ?_)
   | (with_reducible refine LeO.bind ?_ (fun _ => ?_))
   | exact ih0 _ _ _
   | exact ih1 _ _ _ _ _
   | exact kernel_add.mono _ _ _ _
   | exact kernel_alike.mono _ _
   | exact LeO.none _
   | refine LeO.ite ?_ ?_
   | refine LeO.bind ?_ (fun _ => ?_)
def kernel_Dot.T9 : Bool × List (List Nat × List Nat) := (true, [([], []), ([], []), ([], []), ([1, 2], [1, 2]), ([3], [3]), ([], []), ([], []), ([5, 6], [5, 6]), ([7], [7]), ([0, 4, 8], [0, 4, 8])])
def kernel_Dot.B9 : List Nat := [0, 0, 0, 6, 14, 0, 0, 96, 224, 511]
theorem kernel_Dot.tab9 : rtab .any (opsOf Try.f21 9) = kernel_Dot.T9 := by kernel_rfl
theorem kernel_Dot.bits9 : waitsOk kernel_Dot.T9.2 kernel_Dot.B9 = true := by kernel_rfl
set_option maxHeartbeats 8000000 in
set_option maxRecDepth 100000 in
theorem kernel_Dot.calls (k : Nat) (A0 : Option Addr) (c0 : Nat) (l0 : List Int) (A1 : Option Addr) (c1 : Nat) (l1 : List (List Int)) (r1 : List Int) (r2 : Int) (w : World) (hr0 : Kd.C (Kd.int .u8) w A0 l0.length l0) (hc0 : l0.length ≤ c0) (hr1 : Kd.C (Kd.slice 5 (Kd.int .u8)) w A1 l1.length l1) (hc1 : l1.length ≤ c1) (h : kernel_Dot.f k l0 l1 = some (r1, r2)) :
  Calls Try.prog 21 #[.slice A0 l0.length c0, .slice A1 l1.length c1] w fun e w' => ∃ v0_ : Value, e = .returned (.tuple #[v0_, .int .i64 r2]) ∧ Kd.R (Kd.int .u8) 5 w' w.heap.size (fun _ => True) v0_ r1 ∧ Below w.heap.size w w' := by
 have HR0 := Aside0.mk hr0
 have HC0 := Aside0.mk hc0
 clear hr0 hc0
 have HR1 := Aside0.mk hr1
 have HC1 := Aside0.mk hc1
 clear hr1 hc1
 have HB := Aside0.mk (Below.refl w.heap.size w)
 have H : (if (l0.length : Int) > 16 then (kernel_Dot.j0 k l0 l1 true) else (if (l1.length : Int) = (l0.length : Int) then ((kernel_alike.f k l1).bind fun t104 => (kernel_Dot.j0 k l0 l1 (!t104))) else (kernel_Dot.j0 k l0 l1 true))) = some (r1, r2) := h
 clear h
 have HC3 := Aside0.mk H
 clear H
 go_enter Try.func21, Try.ntmps21
 go_upto_region 1 with (fail)
 go_cut [22] (fun v22 wc => ∃ (kq : Nat) (x22_2 : Bool), v22 = .bool x22_2 ∧ Aside0 (kernel_Dot.j0 kq l0 l1 x22_2 = some (r1, r2)) ∧ Aside0 (kq ≤ k) ∧ Aside0 (Below w.heap.size w wc))
 case first =>
  have H := HC3.out
  clear HC3
  by_cases c4 : (l0.length : Int) > 16
  ·rw [if_pos c4] at H
   have c4b0 : decide (16 < (l0.length : Int)) = true := decide_eq_true c4
   have c4b1 : decide (16 < l0.length) = true := decide_eq_true (by omega)
   clear c4
   (first | rw [c4b0] | (simp only [i64_w, i32_w]; rw [c4b0]) | skip)
   have H' := Aside0.mk H
   clear H
   go_wp2
   go_meet
   case rel => exact ⟨_, (true), (by first | rfl | (simp; done) | (simp [*]; done)), H', ⟨by first | omega | exact Nat.le_refl _⟩, ⟨by repeat (first | (with_reducible first | exact HB.out | apply below_alloc | apply pw_below_drewN | apply below_drew1) | exact HB.out)⟩⟩
  ·rw [if_neg c4] at H
   have c4b0 : decide (16 < (l0.length : Int)) = false := decide_eq_false c4
   have c4b1 : decide (16 < l0.length) = false := decide_eq_false (by omega)
   clear c4
   (first | rw [c4b0] | (simp only [i64_w, i32_w]; rw [c4b0]) | skip)
   by_cases c5 : (l1.length : Int) = (l0.length : Int)
   ·rw [if_pos c5] at H
    have c5b0 : ((l1.length : Int) == (l0.length : Int)) = true := beq_iff_eq.mpr c5
    have c5b1 : ((l1.length : Int) != (l0.length : Int)) = false := bne_eq_false_iff_eq.mpr c5
    have c5b2 : (l1.length == l0.length) = true := by first | simpa using c5 | (simp at c5 ⊢; omega)
    clear c5
    replace H := Option.bind_eq_some_iff.mp H
    obtain ⟨t104, A60, H⟩ := H
    replace H : (kernel_Dot.j0 k l0 l1 (!t104)) = some (r1, r2) := H
    have A6 := Aside0.mk A60
    clear A60
    have H' := Aside0.mk H
    clear H
    go_wp2_with (first | (go_at_call 35; (with_reducible refine (kernel_alike.calls k _ _ l1 t104 _ ?side1 ?side2 A6.out).mono ?_); (case side1 => repeat (first | exact (Kd.C_below HR1.out HB.out) | (with_reducible refine Kd.C_alloc ?_ _) | (with_reducible refine Kd.C_drewN ?_ _) | (with_reducible refine Kd.C_drew ?_))); (case side2 => exact HC1.out); rintro e w' ⟨rfl, ⟨nd, rfl⟩⟩))
    go_meet
    case rel => exact ⟨_, (!t104), (by first | rfl | (simp; done) | (simp [*]; done)), H', ⟨by first | omega | exact Nat.le_refl _⟩, ⟨by repeat (first | (with_reducible first | exact HB.out | apply below_alloc | apply pw_below_drewN | apply below_drew1) | exact HB.out)⟩⟩
   ·rw [if_neg c5] at H
    have c5b0 : ((l1.length : Int) == (l0.length : Int)) = false := beq_eq_false_iff_ne.mpr c5
    have c5b1 : ((l1.length : Int) != (l0.length : Int)) = true := bne_iff_ne.mpr c5
    have c5b2 : (l1.length == l0.length) = false := by first | simpa using c5 | (simp at c5 ⊢; omega)
    have H' := Aside0.mk H
    clear H
    go_wp2
    go_meet
    case rel => exact ⟨_, (true), (by first | rfl | (simp; done) | (simp [*]; done)), H', ⟨by first | omega | exact Nat.le_refl _⟩, ⟨by repeat (first | (with_reducible first | exact HB.out | apply below_alloc | apply pw_below_drewN | apply below_drew1) | exact HB.out)⟩⟩
 case rest =>
  clear HC3
  try clear c1
  try clear c2
  try clear p2
  try clear c4
  try clear c4b0
  try clear c4b1
  try clear c5
  try clear c5b0
  try clear c5b1
  try clear c5b2
  obtain ⟨kq, x22_2, rfl, HA, HJ2, HB⟩ := hcut
  cases kq with
  | zero => exact absurd HA.out (by simp [kernel_Dot.j0])
  | succ kj2 =>
   have H := HA.out
   clear HA
   simp only [kernel_Dot.j0] at H
   by_cases c7 : x22_2 = true
   ·subst c7
    have H1 : (some (([] : List Int), 20)) = some (r1, r2) := by rw [if_pos rfl] at H; exact H
    clear H
    have H := H1
    clear H1
    simp only [Option.some.injEq, Prod.mk.injEq] at H
    obtain ⟨rfl, rfl⟩ := H
    go_wp2
    go_ret2
    exact ⟨_, by first | rfl | (simp [errW_none, errW_some] <;> rfl) | (simp [*, errW_none, errW_some] <;> rfl), by first | exact Kd.R_nil _ _ _ _ _ | exact Kd.N_nil _ _ _ _ _ | exact Kd.V_nil _ _ _ _ _ | exact Kd.Q_nil _ _ _ _ _ | exact Kd.S_nil _ _ _ _ _, by repeat (first | (with_reducible first | exact HB.out | apply below_alloc | apply pw_below_drewN | apply below_drew1) | exact HB.out)⟩
   ·replace c7 := Bool.eq_false_iff.mpr c7
    subst c7
    have H1 : (if (l1.length : Int) = 0 then (some (([] : List Int), 0)) else (if 0 < (l1.length : Int) then (if 0 ≤ ((rd_L1 l1 0).length : Int) then (if (((rd_L1 l1 0).length : Int) : Int).toNat ≤ 281474976710656 then (kernel_Dot.l0 kj2 l0 l1 (List.replicate (((rd_L1 l1 0).length : Int) : Int).toNat 0) (l1.length : Int) 0) else (none)) else (none)) else (none))) = some (r1, r2) := by rw [if_neg (show ¬ (false = true) by decide)] at H; exact H
    clear H
    have H := H1
    clear H1
    by_cases c8 : (l1.length : Int) = 0
    ·rw [if_pos c8] at H
     have c8b0 : ((l1.length : Int) == 0) = true := beq_iff_eq.mpr c8
     have c8b1 : ((l1.length : Int) != 0) = false := bne_eq_false_iff_eq.mpr c8
     clear c8
     simp only [Option.some.injEq, Prod.mk.injEq] at H
     obtain ⟨rfl, rfl⟩ := H
     go_wp2
     go_ret2
     exact ⟨_, by first | rfl | (simp [errW_none, errW_some] <;> rfl) | (simp [*, errW_none, errW_some] <;> rfl), by first | exact Kd.R_nil _ _ _ _ _ | exact Kd.N_nil _ _ _ _ _ | exact Kd.V_nil _ _ _ _ _ | exact Kd.Q_nil _ _ _ _ _ | exact Kd.S_nil _ _ _ _ _, by repeat (first | (with_reducible first | exact HB.out | apply below_alloc | apply pw_below_drewN | apply below_drew1) | exact HB.out)⟩
    ·rw [if_neg c8] at H
     have c8b0 : ((l1.length : Int) == 0) = false := beq_eq_false_iff_ne.mpr c8
     have c8b1 : ((l1.length : Int) != 0) = true := bne_iff_ne.mpr c8
     have c8b2 : ¬ (l1 = []) := fun h_ => c8 (by rw [h_]; rfl)
     by_cases c9 : 0 < (l1.length : Int)
     ·rw [if_pos c9] at H
      have c9b0 : decide (0 < (l1.length : Int)) = true := decide_eq_true c9
      have c9b1 : decide (0 < l1.length) = true := decide_eq_true (by omega)
      clear c9
      by_cases c10 : 0 ≤ ((rd_L1 l1 0).length : Int)
      ·rw [if_pos c10] at H
       have c10b0 := eq_true c10
       have c10b1 : decide (0 ≤ ((rd_L1 l1 0).length : Int)) = true := decide_eq_true c10
       clear c10
       by_cases c11 : (((rd_L1 l1 0).length : Int) : Int).toNat ≤ 281474976710656
       ·rw [if_pos c11] at H
        have c11b0 := eq_true c11
        have c11b1 : decide ((((rd_L1 l1 0).length : Int) : Int).toNat ≤ 281474976710656) = true := decide_eq_true c11
        clear c11
        obtain ⟨y106, hy106⟩ : ∃ y_ : List Int, y_ = (List.replicate (((rd_L1 l1 0).length : Int) : Int).toNat 0) := ⟨_, rfl⟩
        replace H : (kernel_Dot.l0 kj2 l0 l1 y106 (l1.length : Int) 0) = some (r1, r2) := by first | (rw [hy106]; with_reducible exact H) | (have H2_ := (Option.bind_some _ _).symm.trans H; rw [hy106]; with_reducible exact H2_) | (have H2_ := (Option.bind_some _ _).symm.trans H; with_reducible exact H2_) | with_reducible exact H | (rw [hy106]; exact H) | exact H
        have Ny106 := Aside0.mk hy106
        clear hy106
        have H' := Aside0.mk H
        clear H
        have p105 : 0 ≤ (0 : Int) := (by omega)
        have q105 : 0 < (l1.length : Int) := of_decide_eq_true (by first | (with_reducible assumption) | assumption)
        obtain ⟨ad105, A105_0, c105_0, e105, hx105_0, hl105_0, hi105_0⟩ := at_L1 HR1.out 0 p105 q105
        cases e105
        have qi105 : (0 < l1.length) = True := eq_true (by omega)
        (try rw [show ((0 : Int)).toNat = 0 from rfl] at hx105_0)
        (try rw [Addr.add_zero'] at hx105_0)
        replace hx105_0 := (HB.out.cell (World.block_lt_of_cell? w _ hx105_0)).trans hx105_0
        have HR105_0 := Aside0.mk hi105_0
        have HC105_0 := Aside0.mk hl105_0
        clear hi105_0 hl105_0
        replace p105 := eq_true p105
        replace q105 := eq_true q105
        go_wp2_with (first | ((with_reducible refine gate_dst (N := 30) rfl ?_); (try (refine gate_guard (by rfl) ?_; dsimp only)); refine Kd.R_make (Kd.int .u8) _ 5 rfl (N := 30) rfl 23 _ _ rfl ((rd_L1 l1 0).length : Int) rfl rfl Try.underlying23 (.int .u8 0) 1 info5 rfl (by decide) (by omega) 0 (ok := fun _ => True) (okp := fun _ => True) rfl (fun _ hk => hk) trivial (of_decide_eq_true (by first | (with_reducible assumption) | assumption)) (Nat.le_trans (Nat.mul_le_mul_right _ (of_decide_eq_true (by first | (with_reducible assumption) | assumption) : ((rd_L1 l1 0).length : Int).toNat ≤ 281474976710656)) (by omega)) (Below.refl _ _) (Nat.le_refl _) ?_; intro v107 w12 ho13 hb hg_ hnew_; clear hg_ hnew_; (first | rw [← Ny106.out] at ho13 | (simp only [Int.reduceToNat] at ho13; rw [← Ny106.out] at ho13)); have n0_ := Aside0.mk (Kd.R_lower ho13 (below_size (by repeat (first | (with_reducible first | exact HB.out | apply below_alloc | apply pw_below_drewN | apply below_drew1) | exact HB.out)))); have n1_ := Aside0.mk (below_step (by repeat (first | (with_reducible first | exact HB.out | apply below_alloc | apply pw_below_drewN | apply below_drew1) | exact HB.out)) hb); clear HB; have HO108 := n0_; have HB := n1_; clear n0_ n1_; clear hb ho13))
        go_loopg [33] kj2 (fun kq v33 w' => ∃ (x6_2 : List Int) (x33_2 : Int), v33 = .int .i64 x33_2 ∧ Aside0 (kernel_Dot.l0 kq l0 l1 x6_2 (l1.length : Int) x33_2 = some (r1, r2)) ∧ Aside0 (kq ≤ kj2) ∧ Aside0 (Kd.R (Kd.int .u8) 5 w' w.heap.size (fun _ => True) v107 x6_2) ∧ Aside0 (Below w.heap.size w w'))
        case atStart => exact ⟨(y106), (0), (by first | rfl | (simp; done) | (simp [*]; done)), H', ⟨Nat.le_refl _⟩, ⟨by (with_reducible repeat (first | apply Kd.R_alloc | apply Kd.R_drewN | apply Kd.R_drew)); exact HO108.out⟩, ⟨by repeat (first | (with_reducible first | exact HB.out | apply below_alloc | apply pw_below_drewN | apply below_drew1) | exact HB.out)⟩⟩
        case round =>
         clear H'
         try clear c1
         try clear p1
         try clear q1
         try clear hx1
         try clear qi1
         try clear c2
         try clear p2
         try clear c4
         try clear c4b0
         try clear c4b1
         try clear c5
         try clear c5b0
         try clear c5b1
         try clear c5b2
         try clear c7
         try clear c8
         try clear c8b0
         try clear c8b1
         try clear c8b2
         try clear c9
         try clear c9b0
         try clear c9b1
         try clear c10
         try clear c10b0
         try clear c10b1
         try clear p10
         try clear q10
         try clear hx10
         try clear qi10
         try clear c11
         try clear c11b0
         try clear c11b1
         try clear hx105_0
         try clear p105
         try clear p2
         try clear q105
         obtain ⟨x6_2, x33_2, rfl, HA, HK2, HO_6, HB⟩ := hrel
         cases gk with
         | zero => exact absurd HA.out (by simp [kernel_Dot.l0])
         | succ k2 =>
          have H := HA.out
          clear HA
          simp only [kernel_Dot.l0] at H
          by_cases c14 : x33_2 < (l1.length : Int)
          ·rw [if_pos c14] at H
           have c14b0 : decide (x33_2 < (l1.length : Int)) = true := decide_eq_true c14
           clear c14
           by_cases c15 : 0 ≤ x33_2
           ·rw [if_pos c15] at H
            have c15b0 : decide (0 ≤ x33_2) = true := decide_eq_true c15
            clear c15
            by_cases c16 : x33_2 < (l0.length : Int)
            ·rw [if_pos c16] at H
             have c16b0 : decide (x33_2 < (l0.length : Int)) = true := decide_eq_true c16
             clear c16
             by_cases c17 : x33_2 < (l1.length : Int)
             ·rw [if_pos c17] at H
              have c17b0 : decide (x33_2 < (l1.length : Int)) = true := decide_eq_true c17
              clear c17
              replace H := Option.bind_eq_some_iff.mp H
              obtain ⟨t111, A180, H⟩ := H
              replace H : (kernel_Dot.l0 k2 l0 l1 t111 (l1.length : Int) (wrap64 (x33_2 + 1))) = some (r1, r2) := H
              have A18 := Aside0.mk A180
              clear A180
              have H' := Aside0.mk H
              clear H
              try go_wp2
              have n0_ := Aside0.mk (Kd.R_drew HO_6.out)
              have n1_ := Aside0.mk (below_drew1 HB.out)
              clear HO_6
              clear HB
              have HO_6 := n0_
              have HB := n1_
              clear n0_ n1_
              have p109 : 0 ≤ (x33_2 : Int) := of_decide_eq_true (by first | (with_reducible assumption) | assumption)
              have q109 : x33_2 < (l0.length : Int) := of_decide_eq_true (by first | (with_reducible assumption) | assumption)
              obtain ⟨ad109, e109, hx109_0⟩ := Kd.at_int HR0.out x33_2 p109 q109
              have hw109_0 := hx109_0
              cases e109
              replace hx109_0 := (HB.out.cell (World.block_lt_of_cell? w _ hx109_0)).trans hx109_0
              replace p109 := eq_true p109
              replace q109 := eq_true q109
              have p110 : 0 ≤ (x33_2 : Int) := of_decide_eq_true (by first | (with_reducible assumption) | assumption)
              have q110 : x33_2 < (l1.length : Int) := of_decide_eq_true (by first | (with_reducible assumption) | assumption)
              obtain ⟨ad110, A110_0, c110_0, e110, hx110_0, hl110_0, hi110_0⟩ := at_L1 HR1.out x33_2 p110 q110
              have hw110_0 := hx110_0
              obtain rfl : ad105 = ad110 := (by injection e110)
              replace hx110_0 := (HB.out.cell (World.block_lt_of_cell? w _ hx110_0)).trans hx110_0
              have HR110_0 := Aside0.mk hi110_0
              have HC110_0 := Aside0.mk hl110_0
              clear hi110_0 hl110_0
              replace p110 := eq_true p110
              replace q110 := eq_true q110
              obtain ⟨Ao20, co20, eo20⟩ := Kd.R_slice HO_6.out
              (first | subst eo20 | (injection eo20 with f1_ f2_ f3_; have f4_ := f1_.symm; have f5_ := f3_.symm; clear f1_ f2_ f3_; subst f4_; subst f5_))
              refine start_ (n := 10) (S := fun w' => w'.cell? (ad109.add (x33_2).toNat) = some (.int .u8 (rd l0 x33_2)) ∧ w'.cell? (ad105.add (x33_2).toNat) = some (.slice A110_0 (rd_L1 l1 x33_2).length c110_0)) (ds := []) #[false, false, false, false, false, false, false, false, false, false] (by kernel_rfl) rfl rfl ⟨((HB.out.cell (World.block_lt_of_cell? w _ hw109_0)).trans hw109_0), ((HB.out.cell (World.block_lt_of_cell? w _ hw110_0)).trans hw110_0)⟩ (fun hHeld => ?_); refine with_tabW kernel_Dot.tab9 kernel_Dot.bits9 (fun HT_ HW_ => ?_)
              generalize wr.drew = w19 at HO_6 HB HR110_0 hx109_0 hx110_0 hHeld ⊢
              refine pure_ (i := 0) (N := some 36) (v := ?_) (a' := ?_) #[true, false, false, false, false, false, false, false, false, false] rfl rfl (any_of HT_.out (by kernel_rfl)) (fun _ _ _ h => h) (Or.inl ⟨by rfl, ?_⟩) ?_ ?_
              rotate_left
              ·intro w'
               go_simp
               with_reducible rfl
              rotate_left
              ·simp only [Act.put, List.setIfInBounds_toArray, List.set_cons_zero, List.set_cons_succ, i64_w, i32_w]
               rfl
              refine pure_ (i := 1) (N := some 37) (v := ?_) (a' := ?_) #[true, true, false, false, false, false, false, false, false, false] rfl rfl (any_of HT_.out (by kernel_rfl)) (fun _ _ _ h => h) (Or.inl ⟨by rfl, ?_⟩) ?_ ?_
              rotate_left
              ·intro w'
               go_simp
               with_reducible rfl
              rotate_left
              ·simp only [Act.put, List.setIfInBounds_toArray, List.set_cons_zero, List.set_cons_succ, i64_w, i32_w]
               rfl
              refine pure_ (i := 2) (N := some 38) (v := ?_) (a' := ?_) #[true, true, true, false, false, false, false, false, false, false] rfl rfl (any_of HT_.out (by kernel_rfl)) (fun _ _ _ h => h) (Or.inl ⟨by rfl, ?_⟩) ?_ ?_
              rotate_left
              ·intro w'
               go_simp
               with_reducible rfl
              rotate_left
              ·simp only [Act.put, List.setIfInBounds_toArray, List.set_cons_zero, List.set_cons_succ, i64_w, i32_w]
               rfl
              refine pure_ (i := 3) (N := some 39) (v := ?_) (a' := ?_) #[true, true, true, true, false, false, false, false, false, false] rfl rfl (any_of HT_.out (by kernel_rfl)) (fun _ _ _ h => h) (Or.inl ⟨by rfl, ?_⟩) ?_ ?_
              rotate_left
              ·intro w'
               go_simp
               with_reducible rfl
              rotate_left
              ·simp only [Act.put, List.setIfInBounds_toArray, List.set_cons_zero, List.set_cons_succ, i64_w, i32_w]
               rfl
              refine pure_ (i := 5) (N := some 41) (v := ?_) (a' := ?_) #[true, true, true, true, false, true, false, false, false, false] rfl rfl (any_of HT_.out (by kernel_rfl)) (fun _ _ _ h => h) (Or.inl ⟨by rfl, ?_⟩) ?_ ?_
              rotate_left
              ·intro w'
               go_simp
               with_reducible rfl
              rotate_left
              ·simp only [Act.put, List.setIfInBounds_toArray, List.set_cons_zero, List.set_cons_succ, i64_w, i32_w]
               rfl
              refine pure_ (i := 6) (N := some 42) (v := ?_) (a' := ?_) #[true, true, true, true, false, true, true, false, false, false] rfl rfl (any_of HT_.out (by kernel_rfl)) (fun _ _ _ h => h) (Or.inl ⟨by rfl, ?_⟩) ?_ ?_
              rotate_left
              ·intro w'
               go_simp
               with_reducible rfl
              rotate_left
              ·simp only [Act.put, List.setIfInBounds_toArray, List.set_cons_zero, List.set_cons_succ, i64_w, i32_w]
               rfl
              refine pure_ (i := 7) (N := some 43) (v := ?_) (a' := ?_) #[true, true, true, true, false, true, true, true, false, false] rfl rfl (any_of HT_.out (by kernel_rfl)) (fun _ _ _ h => h) (Or.inl ⟨by rfl, ?_⟩) ?_ ?_
              rotate_left
              ·intro w'
               go_simp
               with_reducible rfl
              rotate_left
              ·simp only [Act.put, List.setIfInBounds_toArray, List.set_cons_zero, List.set_cons_succ, i64_w, i32_w]
               rfl
              refine take_ (i := 4) (N := some 40) (v := ?_) (a' := ?_) #[true, true, true, true, true, true, true, true, false, false] rfl rfl (take_ofW HT_.out HW_.out (by kernel_rfl)) (fun _ _ _ h => h) (Or.inl ⟨by rfl, ?_⟩) hHeld ?_ ?_
              rotate_left
              ·rintro w' ⟨s0, s1⟩
               go_simp
               with_reducible rfl
              rotate_left
              ·simp only [Act.put, List.setIfInBounds_toArray, List.set_cons_zero, List.set_cons_succ, i64_w, i32_w]
               rfl
              refine take_ (i := 8) (N := some 44) (v := ?_) (a' := ?_) #[true, true, true, true, true, true, true, true, true, false] rfl rfl (take_ofW HT_.out HW_.out (by kernel_rfl)) (fun _ _ _ h => h) (Or.inl ⟨by rfl, ?_⟩) hHeld ?_ ?_
              rotate_left
              ·rintro w' ⟨s0, s1⟩
               go_simp
               with_reducible rfl
              rotate_left
              ·simp only [Act.put, List.setIfInBounds_toArray, List.set_cons_zero, List.set_cons_succ, i64_w, i32_w]
               rfl
              refine one_ (i := 9) (N := some 45) #[true, true, true, true, true, true, true, true, true, true] rfl rfl (one_of HT_.out (by kernel_rfl)) (by decide) (fun K hK => ?_)
              refine goes_ Try.func36 (by kernel_rfl) rfl #[.slice Ao20 x6_2.length co20, .int .u8 (rd l0 x33_2), .slice A110_0 (rd_L1 l1 x33_2).length c110_0] (by rfl) rfl rfl (by (try simp only [List.map_toArray, List.map_cons, List.map_nil]); first | done | rfl | (simp only [List.length_drop, List.length_take]; rfl)) ?_
              with_reducible refine (kernel_add.calls k2 (fun k_ => some k_ = (.slice Ao20 x6_2.length co20 : Value).ownBlock) (.slice Ao20 x6_2.length co20) x6_2 (rd l0 x33_2) _ _ (rd_L1 l1 x33_2) t111 w _ ?side1 ?side2 ?side3 ?side4 A18.out).mono ?_
              (case side1 => repeat (first | (with_reducible first | exact HB.out | apply below_alloc | apply pw_below_drewN | apply below_drew1) | exact HB.out))
              (case side2 => exact Kd.R_tight rfl HO_6.out)
              (case side3 => exact Kd.C_kept_came (Kd.heap_int .u8) HR110_0.out (by repeat (first | (with_reducible first | exact HB.out | apply below_alloc | apply pw_below_drewN | apply below_drew1) | exact HB.out)) (fun k_ hs_ => (fun e_ => Kd.R_base HO_6.out k_ e_.symm) hs_))
              (case side4 => exact HC110_0.out)
              rintro e w21 ⟨rfl, hy0, hb, hkp⟩
              refine ⟨_, rfl, ?_⟩
              have n0_ := Aside0.mk (Kd.R_reok rfl hy0 (fun k_ e_ => HO_6.out.1 k_ e_))
              have n1_ := Aside0.mk (hb)
              clear HO_6
              clear HB
              have HO_6 := n0_
              have HB := n1_
              clear n0_ n1_
              (try clear hb)
              (try clear hkp)
              (try clear hy0)
              refine hK.out _ _ ⟨((HB.out.cell (World.block_lt_of_cell? w _ hw109_0)).trans hw109_0), ((HB.out.cell (World.block_lt_of_cell? w _ hw110_0)).trans hw110_0)⟩ (fun hHeld => ?_)
              clear hK K
              refine norm_ (a' := ?_) ?_ ?_
              rotate_left
              ·show Act.put _ (some 45) _ = _
               simp only [Act.put, List.setIfInBounds_toArray, List.set_cons_zero, List.set_cons_succ, i64_w, i32_w]
               rfl
              refine done_ (done_of HT_.out (by kernel_rfl)) ?_
              try go_wp2
              go_roundg k2
              case measure => have := HJ2.out; have := HK2.out; omega
              case rel => exact ⟨(t111), (wrap64 (x33_2 + 1)), (by first | rfl | (simp; done) | (simp [*]; done)), H', ⟨by have := HJ2.out; have := HK2.out; omega⟩, ⟨by (with_reducible repeat (first | apply Kd.R_alloc | apply Kd.R_drewN | apply Kd.R_drew)); exact HO_6.out⟩, ⟨by repeat (first | (with_reducible first | exact HB.out | apply below_alloc | apply pw_below_drewN | apply below_drew1) | exact HB.out)⟩⟩
             ·rw [if_neg c17] at H
              exact absurd H (by simp)
            ·rw [if_neg c16] at H
             exact absurd H (by simp)
           ·rw [if_neg c15] at H
            exact absurd H (by simp)
          ·rw [if_neg c14] at H
           have c14b0 : decide (x33_2 < (l1.length : Int)) = false := decide_eq_false c14
           clear c14
           simp only [Option.some.injEq, Prod.mk.injEq] at H
           obtain ⟨rfl, rfl⟩ := H
           go_wp2
           go_ret2
           exact ⟨_, by first | rfl | (simp [errW_none, errW_some] <;> rfl) | (simp [*, errW_none, errW_some] <;> rfl), by (with_reducible repeat (first | apply Kd.R_alloc | apply Kd.R_drewN | apply Kd.R_drew)); exact HO_6.out, by repeat (first | (with_reducible first | exact HB.out | apply below_alloc | apply pw_below_drewN | apply below_drew1) | exact HB.out)⟩
       ·rw [if_neg c11] at H
        exact absurd H (by simp)
      ·rw [if_neg c10] at H
       exact absurd H (by simp)
     ·rw [if_neg c9] at H
      exact absurd H (by simp)

end Go.Proofs.Ythhncoogmncdkaa.PC
namespace Go.Proofs.Ythhncoogmncdkaa.Pure
open Go Go.RowKit Go.TwoGf Go.Proofs.Ythhncoogmncdkaa Go.Proofs.Ythhncoogmncdkaa.PC Go.Proofs.YthhncoogmncdkaaW.PrintWords Go.Proofs.YthhncoogmncdkaaW.PrintLast Go.Proofs.YthhncoogmncdkaaW.PrintMore
def isB (l : List Int) : Prop := ∀ x ∈ l, 0 ≤ x ∧ x < 256
instance isBDec (l : List Int) : Decidable (isB l) := by unfold isB; infer_instance
theorem isB_nil : isB [] := fun x hx => by cases hx
theorem isB_cons {x : Int} {l : List Int} (h : isB (x :: l)) : (0 ≤ x ∧ x < 256) ∧ isB l := ⟨h x (by simp), fun y hy => h y (by simp [hy])⟩
theorem isB_wf {l : List Int} (h : ∀ x ∈ l, (Lit.int .u8 x).wf = true) : isB l := fun x hx => by
  have h2 : IntKind.u8.min ≤ x ∧ x ≤ IntKind.u8.max := by simpa [Lit.wf] using h x hx
  have e1 : IntKind.u8.min = 0 := by decide
  have e2 : IntKind.u8.max = 255 := by decide
  omega
theorem isB_rep (n : Nat) : isB (List.replicate n 0) := fun x hx => by rw [(List.mem_replicate.1 hx).2]; omega
theorem isB_rd {l : List Int} (h : isB l) (i : Int) : 0 ≤ rd l i ∧ rd l i < 256 := by
  unfold rd
  by_cases e : i.toNat < l.length
  · have : l.getD i.toNat 0 = l[i.toNat] := by simp [e]
    rw [this]; exact h _ (List.getElem_mem _)
  · have : l.getD i.toNat 0 = 0 := by simp [List.getElem?_eq_none (Nat.le_of_not_lt e)]
    rw [this]; omega
/-- the field's product, sum -/
def mI (c x : Int) : Int := ((gm c.toNat x.toNat : Nat) : Int)
def aI (x y : Int) : Int := Go.bits .xor .u8 x y
theorem mI_rng (c x : Int) : 0 ≤ mI c x ∧ mI c x < 256 := ⟨by unfold mI; omega, by have := gm_lt c.toNat x.toNat; unfold mI; omega⟩
theorem nat_of {x : Int} (h : 0 ≤ x ∧ x < 256) : ∃ n : Nat, n < 256 ∧ x = n := ⟨x.toNat, by omega, by omega⟩
theorem aI_nat {a b : Nat} (ha : a < 256) (hb : b < 256) : aI (a : Int) (b : Int) = ((a ^^^ b : Nat) : Int) := u8_xor_nat a b ha hb
theorem aI_rng {x y : Int} (hx : 0 ≤ x ∧ x < 256) (hy : 0 ≤ y ∧ y < 256) : 0 ≤ aI x y ∧ aI x y < 256 := by
  obtain ⟨a, ha, rfl⟩ := nat_of hx
  obtain ⟨b, hb, rfl⟩ := nat_of hy
  rw [aI_nat ha hb]
  have := xor_lt ha hb
  omega
theorem mulI_f {k : Nat} (hk : 9 ≤ k) {c x : Int} (hc : 0 ≤ c ∧ c < 256) (hx : 0 ≤ x ∧ x < 256) : gf_Mul.f k c x = some (mI c x) := by
  obtain ⟨a, ha, rfl⟩ := nat_of hc
  obtain ⟨b, hb, rfl⟩ := nat_of hx
  exact mul_f k a b hk ha hb
/-- a and c times b, byte by byte -/
def addv (a : List Int) (c : Int) (b : List Int) : List Int := List.zipWith (fun x y => aI x (mI c y)) a b
theorem addv_len {a b : List Int} (c : Int) (h : a.length ≤ b.length) : (addv a c b).length = a.length := by simp [addv]; omega
theorem addv_B {a : List Int} (c : Int) : ∀ {b : List Int}, isB a → isB (addv a c b) := by
  induction a with
  | nil => intro b _; simp [addv, isB]
  | cons x a ih =>
    intro b ha
    cases b with
    | nil => simp [addv, isB]
    | cons y b =>
      intro z hz
      simp only [addv, List.zipWith_cons_cons, List.mem_cons] at hz
      rcases hz with rfl | hz
      · exact aI_rng (isB_cons ha).1 (mI_rng _ _)
      · exact ih (isB_cons ha).2 z hz
theorem zipWith_on {f g : Int → Int → Int} : ∀ {a b : List Int}, (∀ x, ∀ y ∈ b, f x y = g x y) → List.zipWith f a b = List.zipWith g a b
  | [], _, _ => rfl
  | _ :: _, [], _ => rfl
  | x :: a, y :: b, h => by
    rw [List.zipWith_cons_cons, List.zipWith_cons_cons, h x y (by simp), zipWith_on (fun x z hz => h x z (by simp [hz]))]
theorem tab_f {k : Nat} (hk : 9 ≤ k) {c : Int} (hc : 0 ≤ c ∧ c < 256) : ∀ n, n ≤ 256 → kernel_add.tab k c n = some ((List.range n).map fun (i : Nat) => mI c (i : Int))
  | 0, _ => rfl
  | n + 1, h => by
    rw [kernel_add.tab, tab_f hk hc n (by omega)]
    simp only [Option.bind_some]
    rw [mulI_f hk hc ⟨by omega, by omega⟩]
    simp [List.range_succ]
theorem add_v {k : Nat} (hk : 9 ≤ k) {c : Int} (hc : 0 ≤ c ∧ c < 256) {a b : List Int} (hb : isB b) (hl : a.length ≤ b.length) : kernel_add.f k a c b = some (addv a c b) := by
  unfold kernel_add.f
  rw [tab_f hk hc 256 (Nat.le_refl _)]
  simp only [Option.bind_some]
  rw [if_pos ⟨hl, hb⟩]
  congr 1
  refine zipWith_on fun x y hy => ?_
  have := hb y hy
  unfold aI rd
  congr 1
  simp only [List.getD_eq_getElem?_getD, List.getElem?_map]
  rw [List.getElem?_range (by omega)]
  simp [Int.toNat_of_nonneg this.1]
/-- may slices be, and are they alike -/
def alk (l : List (List Int)) : Bool := l.all fun a => decide (a.length ≤ 65536) && decide (a.length = (rd_L1 l 0).length)
theorem wrap_s {i : Int} (h0 : 0 ≤ i) (h1 : i < 1000000) : wrap64 (i + 1) = i + 1 := by unfold wrap64; omega
theorem rd_L1_nat {l : List (List Int)} {i : Nat} (h : i < l.length) : rd_L1 l (i : Int) = l[i] := by simp [rd_L1, h]
theorem rd_nat {l : List Int} {i : Nat} (h : i < l.length) : rd l (i : Int) = l[i] := by simp [rd, h]
theorem alike_l0 (l : List (List Int)) (hl : l.length < 100000) : ∀ (d k i : Nat), i + d = l.length → d < k → kernel_alike.l0 k l l (l.length : Int) (i : Int) = some ((l.drop i).all fun a => decide (a.length ≤ 65536) && decide (a.length = (rd_L1 l 0).length))
  | 0, k, i, hi, hk => by
    obtain ⟨k, rfl⟩ : ∃ m, k = m + 1 := ⟨k - 1, by omega⟩
    obtain rfl : i = l.length := by omega
    simp [kernel_alike.l0]
  | d + 1, k, i, hi, hk => by
    obtain ⟨k, rfl⟩ : ∃ m, k = m + 1 := ⟨k - 1, by omega⟩
    have hlt : i < l.length := by omega
    simp only [kernel_alike.l0]
    rw [if_pos (by omega), if_pos (by omega), if_pos (by omega), rd_L1_nat hlt, List.drop_eq_getElem_cons hlt, List.all_cons]
    by_cases h1 : l[i].length ≤ 65536
    · rw [if_neg (by omega), if_pos (by omega)]
      by_cases h2 : l[i].length = (rd_L1 l 0).length
      · rw [if_pos (by omega), wrap_s (by omega) (by omega)]
        have := alike_l0 l hl d k (i + 1) (by omega) (by omega)
        rw [show ((i + 1 : Nat) : Int) = (i : Int) + 1 by omega] at this
        rw [this, decide_eq_true h1, decide_eq_true h2, Bool.true_and, Bool.true_and]
      · rw [if_neg (by omega), decide_eq_false h2, Bool.and_false, Bool.false_and]
    · rw [if_pos (by omega), decide_eq_false h1, Bool.false_and, Bool.false_and]
theorem alike_f {k : Nat} {l : List (List Int)} (hl : l.length < 100000) (hk : l.length < k) : kernel_alike.f k l = some (alk l) := by
  have := alike_l0 l hl l.length k 0 (by omega) hk
  exact this
/-- sums of multiples -/
def dacc : List Int → List Int → List (List Int) → List Int
  | acc, c :: cs, b :: bs => dacc (addv acc c b) cs bs
  | acc, _, _ => acc
def dotv (c : List Int) (l : List (List Int)) : List Int × Int :=
  if c.length ≤ 16 ∧ l.length = c.length ∧ alk l = true then (if l.length = 0 then ([], 0) else (dacc (List.replicate (rd_L1 l 0).length 0) c l, 0)) else ([], 20)
theorem dot_l0 {c : List Int} {l : List (List Int)} (hc : isB c) (hl : ∀ b ∈ l, isB b) (hcl : l.length = c.length) (hs : l.length ≤ 16) {n : Nat} (hn : ∀ b ∈ l, b.length = n) :
    ∀ (d k i : Nat) (acc : List Int), i + d = l.length → d + 9 < k → acc.length = n → kernel_Dot.l0 k c l acc (l.length : Int) (i : Int) = some (dacc acc (c.drop i) (l.drop i), 0)
  | 0, k, i, acc, hi, hk, _ => by
    obtain ⟨k, rfl⟩ : ∃ m, k = m + 1 := ⟨k - 1, by omega⟩
    obtain rfl : i = l.length := by omega
    simp [kernel_Dot.l0, dacc]
  | d + 1, k, i, acc, hi, hk, ha => by
    obtain ⟨k, rfl⟩ : ∃ m, k = m + 1 := ⟨k - 1, by omega⟩
    have hlt : i < l.length := by omega
    have hlt2 : i < c.length := by omega
    have hm : l[i] ∈ l := List.getElem_mem _
    simp only [kernel_Dot.l0]
    rw [if_pos (by omega), if_pos (by omega), if_pos (by omega), if_pos (by omega), rd_L1_nat hlt, add_v (by omega) (isB_rd hc _) (hl _ hm) (by rw [hn _ hm, ha]; exact Nat.le_refl _)]
    simp only [Option.bind_some]
    rw [wrap_s (by omega) (by omega)]
    have := dot_l0 hc hl hcl hs hn d k (i + 1) (addv acc (rd c i) l[i]) (by omega) (by omega) (by rw [addv_len _ (by rw [hn _ hm, ha]; exact Nat.le_refl _), ha])
    rw [show ((i + 1 : Nat) : Int) = (i : Int) + 1 by omega] at this
    rw [this, List.drop_eq_getElem_cons hlt, List.drop_eq_getElem_cons hlt2, dacc, rd_nat hlt2]
theorem alk_all {l : List (List Int)} (h : alk l = true) : ∀ b ∈ l, b.length = (rd_L1 l 0).length := fun b hb => by
  have := List.all_eq_true.1 h b hb
  simp at this; exact this.2
theorem dot_f {k : Nat} {c : List Int} {l : List (List Int)} (hs : l.length < 50000) (hk : l.length + 30 < k) (hc : isB c) (hl : ∀ b ∈ l, isB b) : kernel_Dot.f k c l = some (dotv c l) := by
  have hk1 : ∃ m, k = m + 1 := ⟨k - 1, by omega⟩
  unfold kernel_Dot.f dotv
  by_cases h1 : c.length ≤ 16
  case neg =>
    rw [if_pos (by omega), if_neg (by omega)]
    obtain ⟨k, rfl⟩ := hk1
    simp [kernel_Dot.j0]
  rw [if_neg (by omega)]
  by_cases h2 : l.length = c.length
  case neg =>
    rw [if_neg (by omega), if_neg (by omega)]
    obtain ⟨k, rfl⟩ := hk1
    simp [kernel_Dot.j0]
  rw [if_pos (by omega), alike_f (by omega) (by omega)]
  simp only [Option.bind_some]
  obtain ⟨k, rfl⟩ := hk1
  simp only [kernel_Dot.j0]
  cases h3 : alk l with
  | false => rw [if_pos (by decide), if_neg (by simp)]
  | true =>
    rw [if_neg (show ¬ (!true) = true by decide), if_pos (show c.length ≤ 16 ∧ l.length = c.length ∧ true = true from ⟨h1, h2, rfl⟩)]
    by_cases h4 : l.length = 0
    · rw [if_pos (show (l.length : Int) = 0 by omega), if_pos h4]
    · have h0 : 0 < l.length := by omega
      have e : rd_L1 l 0 = l[0] := rd_L1_nat (i := 0) h0
      have h5 : l[0].length ≤ 65536 := by
        have := List.all_eq_true.1 h3 l[0] (List.getElem_mem _)
        simp at this; exact this.1
      rw [if_neg (show ¬ (l.length : Int) = 0 by omega), if_neg h4, if_pos (show (0 : Int) < (l.length : Int) by omega), if_pos (show (0 : Int) ≤ ((rd_L1 l 0).length : Int) by omega), if_pos (show (((rd_L1 l 0).length : Int)).toNat ≤ 281474976710656 by rw [e, Int.toNat_natCast]; omega), Int.toNat_natCast]
      exact dot_l0 hc hl h2 (by omega) (alk_all h3) l.length k 0 _ (by omega) (by omega) (by simp)
theorem dacc_len : ∀ {c : List Int} {l : List (List Int)} {acc : List Int}, (∀ b ∈ l, acc.length ≤ b.length) → (dacc acc c l).length = acc.length
  | [], _, _, _ => rfl
  | _ :: _, [], _, _ => rfl
  | c :: cs, b :: bs, acc, h => by
    have h0 := h b (by simp)
    rw [dacc, dacc_len (fun b' hb => by rw [addv_len _ h0]; exact h b' (by simp [hb])), addv_len _ h0]
theorem dacc_B : ∀ {c : List Int} {l : List (List Int)} {acc : List Int}, isB acc → isB (dacc acc c l)
  | [], _, _, h => h
  | _ :: _, [], _, h => h
  | c :: cs, b :: bs, acc, h => by rw [dacc]; exact dacc_B (addv_B _ h)
theorem strOfNums_inj {x y : List Int} (hx : isB x) (hy : isB y) (h : (strOfNums x).toList = (strOfNums y).toList) : x = y := by
  rw [Lib.strOfNums_toList, Lib.strOfNums_toList] at h
  have key : ∀ l : List Int, isB l → (Lib.bytesOf l).map (fun b => (b.toNat : Int)) = l := by
    intro l
    induction l with
    | nil => intro _; rfl
    | cons a l ih =>
      intro hl
      have ha := hl a (by simp)
      have e := ih (fun z hz => hl z (by simp [hz]))
      unfold Lib.bytesOf at *
      simp only [List.map_cons, List.cons.injEq]
      refine ⟨?_, e⟩
      have : (UInt8.ofNat a.toNat).toNat = a.toNat := by
        rw [UInt8.toNat_ofNat']; omega
      omega
  rw [← key x hx, ← key y hy, h]
end Go.Proofs.Ythhncoogmncdkaa.Pure
namespace Go.Proofs.Ythhncoogmncdkaa.Pure
open Go Go.RowKit Go.TwoGf Go.Proofs.Ythhncoogmncdkaa Go.Proofs.Ythhncoogmncdkaa.PC Go.Proofs.YthhncoogmncdkaaW.PrintWords Go.Proofs.YthhncoogmncdkaaW.PrintLast Go.Proofs.YthhncoogmncdkaaW.PrintMore
set_option linter.unusedVariables false
theorem sameAll_l0 (l : List (List Int)) (hs : l.length ≤ 100000) : ∀ (d k i : Nat), i + d = l.length → d < k → twoslotref02_SameAll.l0 k l l (i : Int) = some true
  | 0, k, i, hi, hk => by
    obtain ⟨k, rfl⟩ : ∃ m, k = m + 1 := ⟨k - 1, by omega⟩
    obtain rfl : i = l.length := by omega
    simp [twoslotref02_SameAll.l0]
  | d + 1, k, i, hi, hk => by
    obtain ⟨k, rfl⟩ : ∃ m, k = m + 1 := ⟨k - 1, by omega⟩
    have hlt : i < l.length := by omega
    have := sameAll_l0 l hs d k (i + 1) (by omega) (by omega)
    rw [show ((i + 1 : Nat) : Int) = (i : Int) + 1 by omega] at this
    simp only [twoslotref02_SameAll.l0]
    rw [if_pos (by omega), if_pos (by omega), if_pos (by omega), if_pos trivial, wrap_s (by omega) (by omega), this]
theorem sameAll_f {k : Nat} {l : List (List Int)} (hs : l.length ≤ 100000) (hk : l.length < k) : twoslotref02_SameAll.f k l l = some true := by
  unfold twoslotref02_SameAll.f
  rw [if_pos rfl]
  exact sameAll_l0 l hs l.length k 0 (by omega) hk
end Go.Proofs.Ythhncoogmncdkaa.Pure
namespace Go.Proofs.Ythhncoogmncdkaa.Pure
open Go Go.RowKit Go.TwoGf Go.Proofs.Ythhncoogmncdkaa Go.Proofs.Ythhncoogmncdkaa.PC Go.Proofs.YthhncoogmncdkaaW.PrintWords Go.Proofs.YthhncoogmncdkaaW.PrintLast Go.Proofs.YthhncoogmncdkaaW.PrintMore
set_option linter.unusedVariables false
def isM (M : List (List Int)) : Prop := ∀ r ∈ M, isB r
def rect (n m : Nat) (M : List (List Int)) : Prop := M.length = n ∧ ∀ r ∈ M, r.length = m
theorem rw_lt {M : List (List Int)} {i : Nat} (h : i < M.length) : rw_ M i = M[i] := by simp [rw_, h]
theorem rw_mem {M : List (List Int)} {i : Nat} (h : i < M.length) : rw_ M i ∈ M := by rw [rw_lt h]; exact List.getElem_mem _
theorem rw_ge {M : List (List Int)} {i : Nat} (h : M.length ≤ i) : rw_ M i = [] := by simp [rw_, h]
theorem rw_B {M : List (List Int)} (h : isM M) (i : Nat) : isB (rw_ M i) := by
  by_cases e : i < M.length
  · exact h _ (rw_mem e)
  · rw [rw_ge (by omega)]; exact isB_nil
theorem rect_row {n m : Nat} {M : List (List Int)} (h : rect n m M) {i : Nat} (hi : i < n) : (rw_ M i).length = m := h.2 _ (rw_mem (by rw [h.1]; exact hi))
theorem at_nat (k i j : Nat) (hk : k ≤ 12) (hi : i < 4) (hj : j < 12) : matrix_Cauchy.at_ (k : Int) i j = (((k + i) ^^^ j : Nat) : Int) ∧ (k + i) ^^^ j < 256 := by
  refine ⟨?_, xor_lt (by omega) (by omega)⟩
  unfold matrix_Cauchy.at_
  rw [show (k : Int) + (i : Int) = ((k + i : Nat) : Int) by omega]
  exact u8_xor_nat (k + i) j (by omega) (by omega)
theorem G_val {k i j : Nat} (hk : k ≤ 12) (hi : i < 4) (hj : j < 12) : gf_Inv.f (matrix_Cauchy.at_ (k : Int) i j) = some ((gi ((k + i) ^^^ j) : Int), if (k + i) ^^^ j = 0 then 10 else 0) := by
  obtain ⟨h1, h2⟩ := at_nat k i j hk hi hj
  rw [h1, inv_f _ h2]
theorem G_gi {k i j : Nat} (hk : k ≤ 12) (hi : i < 4) (hj : j < 12) : matrix_Cauchy.G (k : Int) i j = (gi ((k + i) ^^^ j) : Int) := by
  unfold matrix_Cauchy.G
  rw [G_val hk hi hj]; rfl
theorem row_inv {a b : Int} (h1 : 1 ≤ a) (h2 : a ≤ 12) (h4 : b ≤ 4) : codec_Row.inv a b := fun i hi j hj => by
  obtain ⟨k, rfl⟩ : ∃ k : Nat, a = k := ⟨a.toNat, by omega⟩
  rw [G_val (by omega) (by omega) (by omega)]; rfl
theorem oneM_B (k : Nat) : isM (matrix_One.M k) := fun r hr x hx => by
  simp only [matrix_One.M, List.mem_map] at hr
  obtain ⟨i, _, rfl⟩ := hr
  simp only [List.mem_map] at hx
  obtain ⟨j, _, rfl⟩ := hx
  split <;> omega
theorem cauM_B {k r : Nat} (hk : k ≤ 12) (hr : r ≤ 4) : isM (matrix_Cauchy.M k r) := fun y hy x hx => by
  simp only [matrix_Cauchy.M, List.mem_map, List.mem_range] at hy
  obtain ⟨i, hi, rfl⟩ := hy
  simp only [List.mem_map, List.mem_range] at hx
  obtain ⟨j, hj, rfl⟩ := hx
  rw [G_gi hk (by omega) (by omega)]
  have := gi_lt ((k + i) ^^^ j)
  omega
theorem allM_B {k r : Nat} (hk : k ≤ 12) (hr : r ≤ 4) : isM (codec_Row.M k r) := fun y hy => by
  unfold codec_Row.M at hy
  rw [List.mem_append] at hy
  rcases hy with hy | hy
  · exact oneM_B k y hy
  · by_cases e : r = 0
    · rw [if_pos e] at hy; cases hy
    · rw [if_neg e] at hy; exact cauM_B hk hr y hy
theorem allM_rect (k r : Nat) : rect (k + r) k (codec_Row.M k r) := by
  unfold codec_Row.M
  refine ⟨?_, fun y hy => ?_⟩
  · by_cases e : r = 0
    · subst e; simp [matrix_One.M]
    · rw [if_neg e]; simp [matrix_One.M, matrix_Cauchy.M]
  · rw [List.mem_append] at hy
    rcases hy with hy | hy
    · simp only [matrix_One.M, List.mem_map] at hy
      obtain ⟨i, _, rfl⟩ := hy
      simp
    · by_cases e : r = 0
      · rw [if_pos e] at hy; cases hy
      · rw [if_neg e] at hy
        simp only [matrix_Cauchy.M, List.mem_map] at hy
        obtain ⟨i, _, rfl⟩ := hy
        simp
theorem in64_of {a : Int} (h1 : -1000 ≤ a) (h2 : a ≤ 1000) : in64 a := by
  have e1 : IntKind.i64.min = -9223372036854775808 := by decide
  have e2 : IntKind.i64.max = 9223372036854775807 := by decide
  unfold in64 Lit.wf
  simp only [e1, e2, Bool.and_eq_true, decide_eq_true_eq]
  omega
theorem row_f {a b c : Int} (h1 : 1 ≤ a) (h2 : a ≤ 12) (h3 : 0 ≤ b) (h4 : b ≤ 4) (h5 : 0 ≤ c) (h6 : c < a + b) : codec_Row.f a b c = some (rw_ (codec_Row.M a.toNat b.toNat) c.toNat, 0) := by
  unfold codec_Row.f
  rw [if_pos ⟨in64_of (by omega) (by omega), in64_of (by omega) (by omega), in64_of (by omega) (by omega)⟩, if_neg (by unfold codec_Row.bad; omega), if_pos (row_inv h1 h2 h4), if_pos ⟨h5, h6⟩]
theorem row_bad {a b c : Int} (ha : in64 a) (hb : in64 b) (hc : in64 c) (h : ¬ (1 ≤ a ∧ a ≤ 12 ∧ 0 ≤ b ∧ b ≤ 4)) : codec_Row.f a b c = some ([], 2) := by
  unfold codec_Row.f
  rw [if_pos ⟨ha, hb, hc⟩, if_pos (by unfold codec_Row.bad; omega)]
end Go.Proofs.Ythhncoogmncdkaa.Pure
namespace Go.Proofs.Ythhncoogmncdkaa.Pure
open Go Go.RowKit Go.TwoGf Go.TwoLin Go.Proofs.Ythhncoogmncdkaa Go.Proofs.Ythhncoogmncdkaa.PC Go.Proofs.YthhncoogmncdkaaW.PrintWords Go.Proofs.YthhncoogmncdkaaW.PrintLast
set_option linter.unusedVariables false
def toF (x : Int) : F := F.mk (x.toNat % 256) (Nat.mod_lt _ (by decide))
def ofF (a : F) : Int := (a.v : Int)
theorem v_toF {x : Int} (h : 0 ≤ x ∧ x < 256) : (toF x).v = x.toNat := Nat.mod_eq_of_lt (by omega)
theorem ofF_toF {x : Int} (h : 0 ≤ x ∧ x < 256) : ofF (toF x) = x := by unfold ofF; rw [v_toF h]; omega
theorem ofF_rng (a : F) : 0 ≤ ofF a ∧ ofF a < 256 := ⟨by unfold ofF; omega, by have := a.lt; unfold ofF; omega⟩
theorem toF_ofF (a : F) : toF (ofF a) = a := F.ext (by rw [v_toF (ofF_rng a)]; unfold ofF; omega)
theorem toF_zero : toF 0 = 0 := rfl
theorem ofF_zero : ofF 0 = 0 := rfl
theorem toF_eq_zero {x : Int} (h : 0 ≤ x ∧ x < 256) : toF x = 0 ↔ x = 0 := ⟨fun z => by rw [← ofF_toF h, z]; rfl, fun z => by rw [z]; rfl⟩
theorem v_nat {n : Nat} (h : n < 256) : (toF (n : Int)).v = n := Nat.mod_eq_of_lt (by omega)
theorem mul_v {k : Nat} (hk : 9 ≤ k) {x y : Int} (hx : 0 ≤ x ∧ x < 256) (hy : 0 ≤ y ∧ y < 256) : gf_Mul.f k x y = some (ofF (toF x * toF y)) := by
  obtain ⟨a, ha, rfl⟩ := nat_of hx
  obtain ⟨b, hb, rfl⟩ := nat_of hy
  rw [mul_f k a b hk ha hb]
  unfold ofF
  rw [v_mul, v_nat ha, v_nat hb]
theorem xor_v {x y : Int} (hx : 0 ≤ x ∧ x < 256) (hy : 0 ≤ y ∧ y < 256) : Go.bits .xor .u8 x y = ofF (toF x + toF y) := by
  obtain ⟨a, ha, rfl⟩ := nat_of hx
  obtain ⟨b, hb, rfl⟩ := nat_of hy
  rw [u8_xor_nat a b ha hb]
  unfold ofF
  rw [v_add, v_nat ha, v_nat hb]
theorem inv_v {x : Int} (hx : 0 ≤ x ∧ x < 256) : gf_Inv.f x = some (ofF (inv (toF x)), if x = 0 then 10 else 0) := by
  obtain ⟨a, ha, rfl⟩ := nat_of hx
  rw [inv_f a ha]
  unfold ofF
  rw [v_inv, v_nat ha]
  by_cases h : a = 0
  · rw [if_pos h, if_pos (by omega)]
  · rw [if_neg h, if_neg (by omega)]
/-! matrices -/
def cell (M : List (List Int)) (i j : Nat) : F := toF (rd (rw_ M i) (j : Int))
def mkF (n m : Nat) (A : Nat → Nat → F) : List (List Int) := (List.range n).map fun i => (List.range m).map fun j => ofF (A i j)
theorem rd_lt {l : List Int} {j : Nat} (h : j < l.length) : rd l (j : Int) = l[j] := by simp [rd, h]
theorem rd_ge {l : List Int} {j : Nat} (h : l.length ≤ j) : rd l (j : Int) = 0 := by simp [rd, h]
theorem rd_B {l : List Int} (h : isB l) (j : Nat) : 0 ≤ rd l (j : Int) ∧ rd l (j : Int) < 256 := by
  by_cases e : j < l.length
  · rw [rd_lt e]; exact h _ (List.getElem_mem _)
  · rw [rd_ge (by omega)]; decide
theorem cell_rd {M : List (List Int)} (h : isM M) (i j : Nat) : rd (rw_ M i) (j : Int) = ofF (cell M i j) := (ofF_toF (rd_B (rw_B h i) j)).symm
theorem cell_zero {M : List (List Int)} (h : isM M) (i j : Nat) : rd (rw_ M i) (j : Int) = 0 ↔ cell M i j = 0 := (toF_eq_zero (rd_B (rw_B h i) j)).symm
theorem rect_mkF (n m : Nat) (A : Nat → Nat → F) : rect n m (mkF n m A) := ⟨by simp [mkF], fun r hr => by
  simp only [mkF, List.mem_map] at hr
  obtain ⟨i, _, rfl⟩ := hr
  simp⟩
theorem isM_mkF (n m : Nat) (A : Nat → Nat → F) : isM (mkF n m A) := fun r hr x hx => by
  simp only [mkF, List.mem_map] at hr
  obtain ⟨i, _, rfl⟩ := hr
  simp only [List.mem_map] at hx
  obtain ⟨j, _, rfl⟩ := hx
  exact ofF_rng _
theorem rw_mkF {n m : Nat} {A : Nat → Nat → F} {i : Nat} (h : i < n) : rw_ (mkF n m A) i = (List.range m).map fun j => ofF (A i j) := by simp [rw_, mkF, h]
theorem rd_mkF {n m : Nat} {A : Nat → Nat → F} {i j : Nat} (h : i < n) (hj : j < m) : rd (rw_ (mkF n m A) i) (j : Int) = ofF (A i j) := by rw [rw_mkF h]; simp [rd, hj]
theorem cell_mkF {n m : Nat} {A : Nat → Nat → F} {i j : Nat} (h : i < n) (hj : j < m) : cell (mkF n m A) i j = A i j := by unfold cell; rw [rd_mkF h hj, toF_ofF]
theorem ext_rw {M M' : List (List Int)} (hl : M.length = M'.length) (h : ∀ i, i < M.length → rw_ M i = rw_ M' i) : M = M' := by
  apply List.ext_getElem hl
  intro i h1 h2
  have := h i h1
  rwa [rw_lt h1, rw_lt h2] at this
theorem ext_rd {l l' : List Int} (hl : l.length = l'.length) (h : ∀ j : Nat, j < l.length → rd l (j : Int) = rd l' (j : Int)) : l = l' := by
  apply List.ext_getElem hl
  intro i h1 h2
  have := h i h1
  rwa [rd_lt h1, rd_lt h2] at this
theorem ext_cell {n m : Nat} {M M' : List (List Int)} (h1 : rect n m M) (h2 : rect n m M') (b1 : isM M) (b2 : isM M') (h : ∀ i j, i < n → j < m → cell M i j = cell M' i j) : M = M' := by
  refine ext_rw (h1.1.trans h2.1.symm) fun i hi => ?_
  rw [h1.1] at hi
  refine ext_rd ((rect_row h1 hi).trans (rect_row h2 hi).symm) fun j hj => ?_
  rw [rect_row h1 hi] at hj
  rw [cell_rd b1, cell_rd b2, h i j hi hj]
theorem mkF_congr {n m : Nat} {A B : Nat → Nat → F} (h : ∀ i j, i < n → j < m → A i j = B i j) : mkF n m A = mkF n m B :=
  ext_cell (rect_mkF n m _) (rect_mkF n m _) (isM_mkF n m _) (isM_mkF n m _) fun i j hi hj => by rw [cell_mkF hi hj, cell_mkF hi hj, h i j hi hj]
/-! Check -/
def good (M : List (List Int)) : Prop := 1 ≤ M.length ∧ M.length ≤ 32 ∧ 1 ≤ (rw_ M 0).length ∧ (rw_ M 0).length ≤ 32 ∧ ∀ r ∈ M, r.length = (rw_ M 0).length
instance (M : List (List Int)) : Decidable (good M) := by unfold good; infer_instance
def ckv (M : List (List Int)) : Int := if good M then 0 else 30
theorem good_rect {M : List (List Int)} (h : good M) : rect M.length (rw_ M 0).length M := ⟨rfl, h.2.2.2.2⟩
theorem good_of {n m : Nat} {M : List (List Int)} (h : rect n m M) (h1 : 1 ≤ n) (h2 : n ≤ 32) (h3 : 1 ≤ m) (h4 : m ≤ 32) : good M ∧ M.length = n ∧ (rw_ M 0).length = m := by
  have e : (rw_ M 0).length = m := rect_row h (by omega)
  refine ⟨⟨by rw [h.1]; exact h1, by rw [h.1]; exact h2, by rw [e]; exact h3, by rw [e]; exact h4, fun r hr => by rw [e]; exact h.2 r hr⟩, h.1, e⟩
theorem w64 {i : Nat} (h : i < 100000) : wrap64 ((i : Int) + 1) = ((i + 1 : Nat) : Int) := by unfold wrap64; omega
theorem rdL {M : List (List Int)} (i : Nat) : rd_L1 M (i : Int) = rw_ M i := rfl
theorem rdL0 {M : List (List Int)} : rd_L1 M 0 = rw_ M 0 := rfl
theorem check_l0 {M : List (List Int)} (h0 : 0 < M.length) (hM : M.length ≤ 32) : ∀ (d k i : Nat), i + d = M.length → d < k → matrix_Check.l0 k M M (M.length : Int) (i : Int) = some (if ∀ r ∈ M.drop i, 1 ≤ r.length ∧ r.length ≤ 32 ∧ r.length = (rw_ M 0).length then 0 else 30) := by
  intro d
  induction d with
  | zero =>
    intro k i hi hk
    obtain ⟨k, rfl⟩ : ∃ q, k = q + 1 := ⟨k - 1, by omega⟩
    unfold matrix_Check.l0
    rw [if_neg (by omega), List.drop_of_length_le (by omega), if_pos (fun r hr => by cases hr)]
  | succ d ih =>
    intro k i hi hk
    obtain ⟨k, rfl⟩ : ∃ q, k = q + 1 := ⟨k - 1, by omega⟩
    have hil : i < M.length := by omega
    unfold matrix_Check.l0
    rw [if_pos (by omega), if_pos (by omega), if_pos (by omega), rdL, rdL0, List.drop_eq_getElem_cons hil, ← rw_lt hil]
    by_cases h1 : (rw_ M i).length < 1
    · rw [if_pos (by omega), if_neg (fun z => by have := z (rw_ M i) (by simp); omega)]
    rw [if_neg (by omega)]
    by_cases h2 : (rw_ M i).length > 32
    · rw [if_pos (by omega), if_neg (fun z => by have := z (rw_ M i) (by simp); omega)]
    rw [if_neg (by omega), if_pos (by omega)]
    by_cases h3 : (rw_ M i).length = (rw_ M 0).length
    · rw [if_pos (by omega), w64 (by omega), ih k (i + 1) (by omega) (by omega)]
      by_cases h4 : ∀ r ∈ M.drop (i + 1), 1 ≤ r.length ∧ r.length ≤ 32 ∧ r.length = (rw_ M 0).length
      · rw [if_pos h4, if_pos (fun r hr => by
          rcases List.mem_cons.1 hr with rfl | hr
          · exact ⟨by omega, by omega, h3⟩
          · exact h4 r hr)]
      · rw [if_neg h4, if_neg (fun z => h4 fun r hr => z r (List.mem_cons_of_mem _ hr))]
    · rw [if_neg (by omega), if_neg (fun z => by have := z (rw_ M i) (by simp); omega)]
theorem check_f {k : Nat} (hk : 40 ≤ k) (M : List (List Int)) : matrix_Check.f k M = some (ckv M) := by
  obtain ⟨k, rfl⟩ : ∃ q, k = q + 1 := ⟨k - 1, by omega⟩
  unfold matrix_Check.f ckv
  by_cases h1 : M.length < 1
  · rw [if_pos (by omega), if_neg (fun z => by have := z.1; omega)]
    unfold matrix_Check.j0
    rfl
  rw [if_neg (by omega)]
  simp only [matrix_Check.j0]
  by_cases h2 : M.length > 32
  · rw [if_pos (by simp; omega), if_neg (fun z => by have := z.2.1; omega)]
  rw [if_neg (by simp; omega), show (0 : Int) = ((0 : Nat) : Int) from rfl, check_l0 (by omega) (by omega) M.length k 0 (by omega) (by omega), List.drop_zero]
  have h0 := rw_mem (M := M) (i := 0) (by omega)
  by_cases h3 : ∀ r ∈ M, 1 ≤ r.length ∧ r.length ≤ 32 ∧ r.length = (rw_ M 0).length
  · rw [if_pos h3, if_pos ⟨by omega, by omega, (h3 _ h0).1, (h3 _ h0).2.1, fun r hr => (h3 r hr).2.2⟩]; rfl
  · rw [if_neg h3, if_neg (fun z => h3 fun r hr => by have := z.2.2.2.2 r hr; have := z.2.2.1; have := z.2.2.2.1; omega)]
end Go.Proofs.Ythhncoogmncdkaa.Pure
namespace Go.Proofs.Ythhncoogmncdkaa.Pure
open Go Go.RowKit Go.TwoGf Go.TwoLin Go.Proofs.Ythhncoogmncdkaa Go.Proofs.Ythhncoogmncdkaa.PC Go.Proofs.YthhncoogmncdkaaW.PrintWords Go.Proofs.YthhncoogmncdkaaW.PrintLast
set_option linter.unusedVariables false
theorem rd_set {x : List Int} {i : Nat} (hi : i < x.length) (v : Int) (j : Nat) : rd (x.set i v) (j : Int) = if j = i then v else rd x (j : Int) := by
  unfold rd
  rw [Int.toNat_natCast, List.getD_eq_getElem?_getD, List.getD_eq_getElem?_getD, List.getElem?_set]
  by_cases h : i = j
  · subst h; simp [hi]
  · rw [if_neg h, if_neg (fun z => h z.symm)]
theorem isB_set {x : List Int} (h : isB x) {i : Nat} {v : Int} (hv : 0 ≤ v ∧ v < 256) : isB (x.set i v) := fun y hy => by
  rcases List.mem_or_eq_of_mem_set hy with h1 | h1
  · exact h y h1
  · rw [h1]; exact hv
theorem times_l0 {c : Int} (hc : 0 ≤ c ∧ c < 256) {n : Nat} (hn : n ≤ 1000) : ∀ (d k i : Nat) (x : List Int), x.length = n → i + d = n → d + 10 < k → isB x →
    ∃ r, matrix_times.l0 k x c (n : Int) (i : Int) = some r ∧ r.length = n ∧ isB r ∧ (∀ j, j < i → rd r (j : Int) = rd x (j : Int)) ∧ (∀ j, i ≤ j → toF (rd r (j : Int)) = toF (rd x (j : Int)) * toF c) := by
  intro d
  induction d with
  | zero =>
    intro k i x hx hi hk hb
    obtain ⟨k, rfl⟩ : ∃ q, k = q + 1 := ⟨k - 1, by omega⟩
    unfold matrix_times.l0
    rw [if_neg (by omega)]
    refine ⟨x, rfl, hx, hb, fun _ _ => rfl, fun j hj => ?_⟩
    rw [rd_ge (by omega), toF_zero, zero_mul]
  | succ d ih =>
    intro k i x hx hi hk hb
    obtain ⟨k, rfl⟩ : ∃ q, k = q + 1 := ⟨k - 1, by omega⟩
    unfold matrix_times.l0
    rw [if_pos (by omega), if_pos (by omega), if_pos (by omega), mul_v (by omega) (rd_B hb i) hc, Option.bind_some, Int.toNat_natCast, w64 (by omega)]
    obtain ⟨r, h1, h2, h3, h4, h5⟩ := ih k (i + 1) (x.set i (ofF (toF (rd x (i : Int)) * toF c))) (by simpa using hx) (by omega) (by omega) (isB_set hb (ofF_rng _))
    refine ⟨r, h1, h2, h3, fun j hj => ?_, fun j hj => ?_⟩
    · rw [h4 j (by omega), rd_set (by omega), if_neg (by omega)]
    · by_cases e : j = i
      · subst e
        rw [h4 j (by omega), rd_set (by omega), if_pos rfl, toF_ofF]
      · rw [h5 j (by omega), rd_set (by omega), if_neg e]
theorem times_v {k : Nat} {l : List Int} {c : Int} (hk : l.length + 10 < k) (hl : l.length ≤ 1000) (hb : isB l) (hc : 0 ≤ c ∧ c < 256) : ∃ r, matrix_times.f k l c = some r ∧ r.length = l.length ∧ isB r ∧ ∀ j : Nat, toF (rd r (j : Int)) = toF (rd l (j : Int)) * toF c := by
  obtain ⟨r, h1, h2, h3, _, h5⟩ := times_l0 hc hl l.length k 0 l rfl (by omega) (by omega) hb
  exact ⟨r, h1, h2, h3, fun j => h5 j (by omega)⟩
theorem plus_l0 {c : Int} (hc : 0 ≤ c ∧ c < 256) {n : Nat} (hn : n ≤ 1000) {b : List Int} (hbl : b.length = n) (hbb : isB b) : ∀ (d k i : Nat) (x : List Int), x.length = n → i + d = n → d + 10 < k → isB x →
    ∃ r, matrix_plus.l0 k x c b (n : Int) (i : Int) = some r ∧ r.length = n ∧ isB r ∧ (∀ j, j < i → rd r (j : Int) = rd x (j : Int)) ∧ (∀ j, i ≤ j → toF (rd r (j : Int)) = toF (rd x (j : Int)) + toF c * toF (rd b (j : Int))) := by
  intro d
  induction d with
  | zero =>
    intro k i x hx hi hk hb
    obtain ⟨k, rfl⟩ : ∃ q, k = q + 1 := ⟨k - 1, by omega⟩
    unfold matrix_plus.l0
    rw [if_neg (by omega)]
    refine ⟨x, rfl, hx, hb, fun _ _ => rfl, fun j hj => ?_⟩
    rw [rd_ge (by omega), rd_ge (by omega), toF_zero, mul_zero, add_zero]
  | succ d ih =>
    intro k i x hx hi hk hb
    obtain ⟨k, rfl⟩ : ∃ q, k = q + 1 := ⟨k - 1, by omega⟩
    unfold matrix_plus.l0
    rw [if_pos (by omega), if_pos (by omega), if_pos (by omega), if_pos (by omega), mul_v (by omega) hc (rd_B hbb i), Option.bind_some]
    unfold gf_Add.f
    rw [Option.bind_some, Int.toNat_natCast, w64 (by omega), xor_v (rd_B hb i) (ofF_rng _), toF_ofF]
    obtain ⟨r, h1, h2, h3, h4, h5⟩ := ih k (i + 1) (x.set i (ofF (toF (rd x (i : Int)) + toF c * toF (rd b (i : Int))))) (by simpa using hx) (by omega) (by omega) (isB_set hb (ofF_rng _))
    refine ⟨r, h1, h2, h3, fun j hj => ?_, fun j hj => ?_⟩
    · rw [h4 j (by omega), rd_set (by omega), if_neg (by omega)]
    · by_cases e : j = i
      · subst e
        rw [h4 j (by omega), rd_set (by omega), if_pos rfl, toF_ofF]
      · rw [h5 j (by omega), rd_set (by omega), if_neg e]
theorem plus_v {k : Nat} {a b : List Int} {c : Int} (hk : a.length + 10 < k) (hl : a.length ≤ 1000) (hab : b.length = a.length) (ha : isB a) (hb : isB b) (hc : 0 ≤ c ∧ c < 256) : ∃ r, matrix_plus.f k a c b = some r ∧ r.length = a.length ∧ isB r ∧ ∀ j : Nat, toF (rd r (j : Int)) = toF (rd a (j : Int)) + toF c * toF (rd b (j : Int)) := by
  obtain ⟨r, h1, h2, h3, _, h5⟩ := plus_l0 hc hl hab hb a.length k 0 a rfl (by omega) (by omega) ha
  exact ⟨r, h1, h2, h3, fun j => h5 j (by omega)⟩
/-! rows that are put back -/
theorem isM_set {M : List (List Int)} (h : isM M) {i : Nat} {r : List Int} (hr : isB r) : isM (M.set i r) := fun y hy => by
  rcases List.mem_or_eq_of_mem_set hy with h1 | h1
  · exact h y h1
  · rw [h1]; exact hr
theorem rect_set {n m : Nat} {M : List (List Int)} (h : rect n m M) {i : Nat} {r : List Int} (hr : r.length = m) : rect n m (M.set i r) := ⟨by simpa using h.1, fun y hy => by
  rcases List.mem_or_eq_of_mem_set hy with h1 | h1
  · exact h.2 y h1
  · rw [h1]; exact hr⟩
theorem isM_sw {M : List (List Int)} (h : isM M) (i j : Nat) : isM (swL M i j) := isM_set (isM_set h (rw_B h j)) (rw_B h i)
theorem rect_sw {n m : Nat} {M : List (List Int)} (h : rect n m M) {i j : Nat} (hi : i < n) (hj : j < n) : rect n m (swL M i j) := rect_set (rect_set h (rect_row h hj)) (rect_row h hi)
/-- a matrix, and another one beside -/
def J (m : Nat) (M B : List (List Int)) (i j : Nat) : F := if j < m then cell M i j else cell B i (j - m)
theorem Inv_congr {n j r : Nat} {piv : Nat → Nat} {X Y : Nat → Nat → F} (h : ∀ i j, i < n → X i j = Y i j) (hI : Inv n j r piv X) : Inv n j r piv Y :=
  ⟨hI.le, hI.lt, hI.up, fun a ha => by rw [← h _ _ (Nat.lt_of_lt_of_le ha hI.le)]; exact hI.nz a ha, fun a ha i hi hne => by rw [← h _ _ hi]; exact hI.off a ha i hi hne, fun i h1 h2 k hk => by rw [← h _ _ h2]; exact hI.low i h1 h2 k hk⟩
theorem Eqv_congr {n : Nat} {X Y Z : Nat → Nat → F} (h : ∀ i j, i < n → Y i j = Z i j) (hE : Eqv n X Y) : Eqv n X Z := by
  obtain ⟨⟨Q, hQ⟩, P, hP⟩ := hE
  exact ⟨⟨Q, fun i j hi => (h i j hi).symm.trans (hQ i j hi)⟩, P, fun i j hi => (hP i j hi).trans (mm_congr (fun _ _ => rfl) fun k hk => h k j hk)⟩
theorem find_spec (M : List (List Int)) (j : Nat) : ∀ d i, (matrix_solve.find M j d i = i + d ∧ ∀ q, i ≤ q → q < i + d → rd (rw_ M q) (j : Int) = 0) ∨ (i ≤ matrix_solve.find M j d i ∧ matrix_solve.find M j d i < i + d ∧ rd (rw_ M (matrix_solve.find M j d i)) (j : Int) ≠ 0)
  | 0, i => .inl ⟨rfl, fun q h1 h2 => by omega⟩
  | d + 1, i => by
    unfold matrix_solve.find
    by_cases h : rd (rw_ M i) (j : Int) ≠ 0
    · rw [if_pos h]; exact .inr ⟨Nat.le_refl _, by omega, h⟩
    · rw [if_neg h]
      rcases find_spec M j d (i + 1) with ⟨h1, h2⟩ | ⟨h1, h2, h3⟩
      · refine .inl ⟨by omega, fun q hq1 hq2 => ?_⟩
        by_cases e : q = i
        · rw [e]; exact Classical.byContradiction h
        · exact h2 q (by omega) (by omega)
      · exact .inr ⟨by omega, by omega, h3⟩
theorem clear_v {k j n n0 m m2 : Nat} (hm : m ≤ 100) (hm2 : m2 ≤ 100) (hk : 200 ≤ k) (hn : n < n0) : ∀ (d i : Nat) (M B : List (List Int)), rect n0 m M → rect n0 m2 B → isM M → isM B → i + d = n0 →
    ∃ M' B', matrix_solve.clear k j n d i M B = some (M', B') ∧ rect n0 m M' ∧ rect n0 m2 B' ∧ isM M' ∧ isM B' ∧ (∀ q, q < n0 → q < i ∨ q = n → rw_ M' q = rw_ M q ∧ rw_ B' q = rw_ B q) ∧
      (∀ q, i ≤ q → q < n0 → q ≠ n → ∀ l, cell M' q l = cell M q l + cell M q j * cell M n l ∧ cell B' q l = cell B q l + cell M q j * cell B n l) := by
  intro d
  induction d with
  | zero =>
    intro i M B hM hB bM bB hi
    unfold matrix_solve.clear
    exact ⟨M, B, rfl, hM, hB, bM, bB, fun _ _ _ => ⟨rfl, rfl⟩, fun q h1 h2 => by omega⟩
  | succ d ih =>
    intro i M B hM hB bM bB hi
    unfold matrix_solve.clear
    have hil : i < M.length := by rw [hM.1]; omega
    have hil2 : i < B.length := by rw [hB.1]; omega
    by_cases h : i ≠ n ∧ rd (rw_ M i) (j : Int) ≠ 0
    · rw [if_pos h]
      obtain ⟨r, r1, r2, r3, r4⟩ := plus_v (k := k) (a := rw_ M i) (b := rw_ M n) (c := rd (rw_ M i) (j : Int)) (by rw [rect_row hM (by omega)]; omega) (by rw [rect_row hM (by omega)]; omega) (by rw [rect_row hM (by omega), rect_row hM (by omega)]) (rw_B bM i) (rw_B bM n) (rd_B (rw_B bM i) j)
      obtain ⟨s, s1, s2, s3, s4⟩ := plus_v (k := k) (a := rw_ B i) (b := rw_ B n) (c := rd (rw_ M i) (j : Int)) (by rw [rect_row hB (by omega)]; omega) (by rw [rect_row hB (by omega)]; omega) (by rw [rect_row hB (by omega), rect_row hB (by omega)]) (rw_B bB i) (rw_B bB n) (rd_B (rw_B bM i) j)
      rw [r1, Option.bind_some, s1, Option.bind_some]
      obtain ⟨M', B', h1, h2, h3, h4, h5, h6, h7⟩ := ih (i + 1) (M.set i r) (B.set i s) (rect_set hM (by rw [r2, rect_row hM (by omega)])) (rect_set hB (by rw [s2, rect_row hB (by omega)])) (isM_set bM r3) (isM_set bB s3) (by omega)
      refine ⟨M', B', h1, h2, h3, h4, h5, fun q hq hqi => ?_, fun q h8 h9 h10 l => ?_⟩
      · have := h6 q hq (by omega)
        rw [rw_set hil, rw_set hil2, if_neg (by omega), if_neg (by omega)] at this
        exact this
      · by_cases e : q = i
        · subst e
          have := h6 q h9 (by omega)
          rw [rw_set hil, rw_set hil2, if_pos rfl, if_pos rfl] at this
          unfold cell
          rw [this.1, this.2, r4, s4]
          exact ⟨rfl, rfl⟩
        · have := h7 q (by omega) h9 h10 l
          have c1 : ∀ l, cell (M.set i r) q l = cell M q l := fun l => by unfold cell; rw [rw_set hil, if_neg e]
          have c2 : ∀ l, cell (M.set i r) n l = cell M n l := fun l => by unfold cell; rw [rw_set hil, if_neg (by omega)]
          have c3 : ∀ l, cell (B.set i s) q l = cell B q l := fun l => by unfold cell; rw [rw_set hil2, if_neg e]
          have c4 : ∀ l, cell (B.set i s) n l = cell B n l := fun l => by unfold cell; rw [rw_set hil2, if_neg (by omega)]
          rw [c1, c1, c2, c3, c4] at this
          exact this
    · rw [if_neg h]
      obtain ⟨M', B', h1, h2, h3, h4, h5, h6, h7⟩ := ih (i + 1) M B hM hB bM bB (by omega)
      refine ⟨M', B', h1, h2, h3, h4, h5, fun q hq hqi => h6 q hq (by omega), fun q h8 h9 h10 l => ?_⟩
      by_cases e : q = i
      · subst e
        have := h6 q h9 (by omega)
        have hz : cell M q j = 0 := (cell_zero bM q j).1 (Classical.byContradiction fun z => h ⟨h10, z⟩)
        have e1 : cell M' q l = cell M q l := by unfold cell; rw [this.1]
        have e2 : cell B' q l = cell B q l := by unfold cell; rw [this.2]
        rw [e1, e2, hz, zero_mul, zero_mul, add_zero, add_zero]
        exact ⟨rfl, rfl⟩
      · exact h7 q (by omega) h9 h10 l
theorem cell_swL {n m : Nat} {M : List (List Int)} (h : rect n m M) {a r : Nat} (ha : a < n) (hr : r < n) (q l : Nat) : cell (swL M a r) q l = if q = r then cell M a l else cell M (sw r a q) l := by
  unfold cell
  rw [rw_swL (by rw [h.1]; exact ha) (by rw [h.1]; exact hr)]
  unfold swp sw
  by_cases e1 : q = a
  · by_cases e2 : q = r
    · rw [if_pos e1, if_pos e2, ← e1, e2]
    · rw [if_pos e1, if_neg e2, if_neg e2, if_pos e1]
  · by_cases e2 : q = r
    · rw [if_neg e1, if_pos e2, if_pos e2]
    · rw [if_neg e1, if_neg e2, if_neg e2, if_neg e2, if_neg e1]
theorem cols_v {k n0 m m2 : Nat} (hn0 : n0 ≤ 100) (hm : m ≤ 100) (hm2 : m2 ≤ 100) (hk : 200 ≤ k) : ∀ (d j n : Nat) (M B : List (List Int)) (piv : Nat → Nat), rect n0 m M → rect n0 m2 B → isM M → isM B → j + d = m → Inv n0 j n piv (J m M B) → (∀ a, a < n → J m M B a (piv a) = 1) →
    ∃ (M' B' : List (List Int)) (r : Nat) (piv' : Nat → Nat), matrix_solve.cols k d j n M B = some (M', B', r) ∧ rect n0 m M' ∧ rect n0 m2 B' ∧ isM M' ∧ isM B' ∧ Inv n0 m r piv' (J m M' B') ∧ (∀ a, a < r → J m M' B' a (piv' a) = 1) ∧ Eqv n0 (J m M B) (J m M' B') := by
  intro d
  induction d with
  | zero =>
    intro j n M B piv hM hB bM bB hj hI h1
    obtain rfl : j = m := by omega
    exact ⟨M, B, n, piv, rfl, hM, hB, bM, bB, hI, h1, Eqv_refl _ _⟩
  | succ d ih =>
    intro j n M B piv hM hB bM bB hj hI h1
    have hjm : j < m := by omega
    have hJ : ∀ q, J m M B q j = cell M q j := fun q => by unfold J; rw [if_pos hjm]
    unfold matrix_solve.cols
    have hnl := hI.le
    rcases find_spec M j (M.length - n) n with ⟨f1, f2⟩ | ⟨f1, f2, f3⟩
    · rw [if_pos (by rw [f1, hM.1]; omega)]
      exact ih (j + 1) n M B piv hM hB bM bB (by omega) (Inv_skip hI fun i h2 h3 => by rw [hJ]; exact (cell_zero bM i j).1 (f2 i h2 (by rw [hM.1]; omega))) h1
    · rw [if_neg (by omega)]
      rw [hM.1] at f1 f2 f3 ⊢
      generalize matrix_solve.find M j (n0 - n) n = a at f1 f2 f3
      have ha : a < n0 := by omega
      have hn : n < n0 := by omega
      have hx : cell M a j ≠ 0 := fun z => f3 ((cell_zero bM a j).2 z)
      have hs1 := rect_sw hM ha hn
      have hs2 := rect_sw hB ha hn
      have bs1 := isM_sw bM a n
      have bs2 := isM_sw bB a n
      have hp : rd (rw_ (swL M a n) n) (j : Int) = rd (rw_ M a) (j : Int) := by
        rw [cell_rd bs1, cell_rd bM, cell_swL hM ha hn, if_pos rfl]
      rw [hp, inv_v (rd_B (rw_B bM a) j), Option.bind_some]
      simp only
      obtain ⟨r, r1, r2, r3, r4⟩ := times_v (k := k) (l := rw_ (swL M a n) n) (c := ofF (inv (toF (rd (rw_ M a) (j : Int))))) (by rw [rect_row hs1 hn]; omega) (by rw [rect_row hs1 hn]; omega) (rw_B bs1 n) (ofF_rng _)
      obtain ⟨s, s1, s2, s3, s4⟩ := times_v (k := k) (l := rw_ (swL B a n) n) (c := ofF (inv (toF (rd (rw_ M a) (j : Int))))) (by rw [rect_row hs2 hn]; omega) (by rw [rect_row hs2 hn]; omega) (rw_B bs2 n) (ofF_rng _)
      rw [r1, Option.bind_some, s1, Option.bind_some]
      have hl1 : n < (swL M a n).length := by rw [hs1.1]; exact hn
      have hl2 : n < (swL B a n).length := by rw [hs2.1]; exact hn
      obtain ⟨M', B', q1, q2, q3, q4, q5, q6, q7⟩ := clear_v (k := k) (j := j) hm hm2 hk hn n0 0 ((swL M a n).set n r) ((swL B a n).set n s) (rect_set hs1 (by rw [r2, rect_row hs1 hn])) (rect_set hs2 (by rw [s2, rect_row hs2 hn])) (isM_set bs1 r3) (isM_set bs2 s3) (by omega)
      rw [q1, Option.bind_some]
      simp only
      have cn1 : ∀ l, cell ((swL M a n).set n r) n l = inv (cell M a j) * cell M a l := fun l => by
        have : cell ((swL M a n).set n r) n l = toF (rd r (l : Int)) := by unfold cell; rw [rw_set hl1, if_pos rfl]
        rw [this, r4, toF_ofF, mul_comm]
        have e : toF (rd (rw_ (swL M a n) n) (l : Int)) = cell (swL M a n) n l := rfl
        rw [e, cell_swL hM ha hn, if_pos rfl]
        rfl
      have cn2 : ∀ l, cell ((swL B a n).set n s) n l = inv (cell M a j) * cell B a l := fun l => by
        have : cell ((swL B a n).set n s) n l = toF (rd s (l : Int)) := by unfold cell; rw [rw_set hl2, if_pos rfl]
        rw [this, s4, toF_ofF, mul_comm]
        have e : toF (rd (rw_ (swL B a n) n) (l : Int)) = cell (swL B a n) n l := rfl
        rw [e, cell_swL hB ha hn, if_pos rfl]
        rfl
      have co1 : ∀ q l, q ≠ n → cell ((swL M a n).set n r) q l = cell M (sw n a q) l := fun q l hq => by
        have : cell ((swL M a n).set n r) q l = cell (swL M a n) q l := by unfold cell; rw [rw_set hl1, if_neg hq]
        rw [this, cell_swL hM ha hn, if_neg hq]
      have co2 : ∀ q l, q ≠ n → cell ((swL B a n).set n s) q l = cell B (sw n a q) l := fun q l hq => by
        have : cell ((swL B a n).set n s) q l = cell (swL B a n) q l := by unfold cell; rw [rw_set hl2, if_neg hq]
        rw [this, cell_swL hB ha hn, if_neg hq]
      have hst : ∀ i l, i < n0 → stp (J m M B) n a (inv (cell M a j)) (fun q => cell M (sw n a q) j) i l = J m M' B' i l := fun i l hi => by
        unfold stp J
        by_cases e : i = n
        · subst e
          have := q6 i hi (.inr rfl)
          have e1 : cell M' i l = cell ((swL M a i).set i r) i l := by unfold cell; rw [this.1]
          have e2 : cell B' i (l - m) = cell ((swL B a i).set i s) i (l - m) := by unfold cell; rw [this.2]
          rw [if_pos rfl, e1, e2, cn1, cn2]
          split <;> rfl
        · have h8 := q7 i (Nat.zero_le _) hi e
          rw [if_neg e, (h8 l).1, (h8 (l - m)).2, co1 _ _ e, co1 _ _ e, co2 _ _ e, cn1, cn2]
          split <;> rfl
      have hd : ∀ i, i < n0 → i ≠ n → stp (J m M B) n a (inv (cell M a j)) (fun q => cell M (sw n a q) j) i j = 0 := fun i hi hne => by
        unfold stp
        rw [if_neg hne, hJ, hJ, inv_mul hx, mul_one, add_self]
      have hstep := Inv_step (c := inv (cell M a j)) (d := fun q => cell M (sw n a q) j) hI f1 ha (by rw [hJ]; exact hx) (inv_ne hx) hd
      have hone : ∀ b, b < n + 1 → J m M' B' b (if b = n then j else piv b) = 1 := fun b hb => by
        rw [← hst b _ (by omega)]
        unfold stp
        by_cases e : b = n
        · rw [if_pos e, if_pos e, hJ, inv_mul hx]
        · rw [if_neg e, if_neg e]
          have e3 : sw n a b = b := by unfold sw; rw [if_neg e, if_neg (by omega)]
          rw [e3, hI.off b (by omega) a ha (by omega), mul_zero, mul_zero, add_zero, h1 b (by omega)]
      obtain ⟨M2, B2, r', piv', t1, t2, t3, t4, t5, t6, t7, t8⟩ := ih (j + 1) (n + 1) M' B' (fun b => if b = n then j else piv b) q2 q3 q4 q5 (by omega) (Inv_congr hst hstep) hone
      exact ⟨M2, B2, r', piv', t1, t2, t3, t4, t5, t6, t7, Eqv_trans (Eqv_congr hst (Eqv_stp (inv_ne hx) hn ha _ _)) t8⟩
theorem solve_v {k n0 m m2 : Nat} {M B : List (List Int)} (h0 : 0 < n0) (hn0 : n0 ≤ 100) (hm : m ≤ 100) (hm2 : m2 ≤ 100) (hk : 200 ≤ k) (hM : rect n0 m M) (hB : rect n0 m2 B) (bM : isM M) (bB : isM B) :
    ∃ (M' B' : List (List Int)) (r : Nat) (piv : Nat → Nat), matrix_solve.f k M B = some (M', B', r) ∧ rect n0 m M' ∧ rect n0 m2 B' ∧ isM M' ∧ isM B' ∧ Inv n0 m r piv (J m M' B') ∧ (∀ a, a < r → J m M' B' a (piv a) = 1) ∧ Eqv n0 (J m M B) (J m M' B') := by
  unfold matrix_solve.f
  rw [rect_row hM h0]
  exact cols_v hn0 hm hm2 hk m 0 0 M B (fun a => a) hM hB bM bB (by omega) (Inv_start _ _ _) (fun a ha => by omega)
theorem J_left {m : Nat} {M B : List (List Int)} {i j : Nat} (h : j < m) : J m M B i j = cell M i j := if_pos h
theorem J_right (m : Nat) (M B : List (List Int)) (i j : Nat) : J m M B i (m + j) = cell B i j := by unfold J; rw [if_neg (by omega), Nat.add_sub_cancel_left]
end Go.Proofs.Ythhncoogmncdkaa.Pure
