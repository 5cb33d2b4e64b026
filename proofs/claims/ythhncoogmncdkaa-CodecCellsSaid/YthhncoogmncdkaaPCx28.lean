import Derived.Test.YthhncoogmncdkaaPCx0
import Derived.Test.YthhncoogmncdkaaPCx19
import Derived.Test.YthhncoogmncdkaaPCx22
-- written by the session's own program (wip/prt.py) over the kit's print: not print.sh's own text
namespace Go.Proofs.Ythhncoogmncdkaa.PC
open Go.RowKit Go.Proofs.YthhncoogmncdkaaW.PrintWords Go.Proofs.YthhncoogmncdkaaW.PrintLast Go.Proofs.YthhncoogmncdkaaW.PrintMore
attribute [local go_sem] max2_int min2_int max_two min_two max_three min_three max_four min_four   -- for this text's walks alone
set_option linter.unusedVariables false
set_option linter.unusedSimpArgs false

/-! ### twoslotref03_Check: function 45 -/
mutual
def twoslotref03_Check.j0 : Nat → List (List Int) → Bool → Option (Int)
  | 0, _, _ => none
  | k + 1, x0, x25 => if x25 = true then (some 30) else (twoslotref03_Check.l0 k x0 0)
def twoslotref03_Check.l0 : Nat → List (List Int) → Int → Option (Int)
  | 0, _, _ => none
  | k + 1, x0, x3 => if x3 < (x0.length : Int) then (if 0 ≤ x3 then (if 0 < (x0.length : Int) then (if ((rd_L1 x0 x3).length : Int) = ((rd_L1 x0 0).length : Int) then (twoslotref03_Check.l0 k x0 (wrap64 (x3 + 1))) else (some 30)) else (none)) else (none)) else (some 0)
end
def twoslotref03_Check.f (k : Nat) (l0 : List (List Int)) : Option (Int) := if (l0.length : Int) < 1 then (twoslotref03_Check.j0 k l0 true) else (if (l0.length : Int) > 32 then (twoslotref03_Check.j0 k l0 true) else (if 0 < (l0.length : Int) then (if ((rd_L1 l0 0).length : Int) < 1 then (twoslotref03_Check.j0 k l0 true) else (twoslotref03_Check.j0 k l0 (decide (((rd_L1 l0 0).length : Int) > 32)))) else (none)))
theorem twoslotref03_Check.mono_l : ∀ k, (∀ y0 y1, LeO (twoslotref03_Check.j0 k y0 y1) (twoslotref03_Check.j0 (k + 1) y0 y1)) ∧ (∀ y0 y1, LeO (twoslotref03_Check.l0 k y0 y1) (twoslotref03_Check.l0 (k + 1) y0 y1))
  | 0 => ⟨fun _ _ r h => by simp [twoslotref03_Check.j0] at h, fun _ _ r h => by simp [twoslotref03_Check.l0] at h⟩
  | k + 1 => by
    obtain ⟨ih0, ih1⟩ := twoslotref03_Check.mono_l k
    refine ⟨?_, ?_⟩
    · intro y0 y1
      unfold twoslotref03_Check.j0
      repeat' first
      | (with_reducible exact ih0 _ _)
      | (with_reducible exact ih1 _ _)
      | (with_reducible exact LeO.refl _)
      | (with_reducible exact LeO.none _)
      | (with_reducible refine LeO.ite ?_ ?_)
      | (with_reducible refine LeO.bind ?_ (fun _ => ?_))
      | exact ih0 _ _
      | exact ih1 _ _
      | exact LeO.none _
      | refine LeO.ite ?_ ?_
      | refine LeO.bind ?_ (fun _ => ?_)
    · intro y0 y1
      unfold twoslotref03_Check.l0
      repeat' first
      | (with_reducible exact ih0 _ _)
      | (with_reducible exact ih1 _ _)
      | (with_reducible exact LeO.refl _)
      | (with_reducible exact LeO.none _)
      | (with_reducible refine LeO.ite ?_ ?_)
      | (with_reducible refine LeO.bind ?_ (fun _ => ?_))
      | exact ih0 _ _
      | exact ih1 _ _
      | exact LeO.none _
      | refine LeO.ite ?_ ?_
      | refine LeO.bind ?_ (fun _ => ?_)
theorem twoslotref03_Check.mono : ∀ a0 k, LeO (twoslotref03_Check.f k a0) (twoslotref03_Check.f (k + 1) a0) := by
  intro a0 k
  obtain ⟨ih0, ih1⟩ := twoslotref03_Check.mono_l k
  unfold twoslotref03_Check.f
  repeat' first
      | (with_reducible exact ih0 _ _)
      | (with_reducible exact ih1 _ _)
      | (with_reducible exact LeO.refl _)
      | (with_reducible exact LeO.none _)
      | (with_reducible refine LeO.ite ?_ ?_)
      | (with_reducible refine LeO.bind ?_ (fun _ => ?_))
      | exact ih0 _ _
      | exact ih1 _ _
      | exact LeO.none _
      | refine LeO.ite ?_ ?_
      | refine LeO.bind ?_ (fun _ => ?_)
set_option maxHeartbeats 8000000 in
set_option maxRecDepth 100000 in
theorem twoslotref03_Check.calls (k : Nat) (A0 : Option Addr) (c0 : Nat) (l0 : List (List Int)) (r : Int) (w : World) (hr0 : Kd.C (Kd.slice 5 (Kd.int .u8)) w A0 l0.length l0) (hc0 : l0.length ≤ c0) (h : twoslotref03_Check.f k l0 = some r) :
    Calls Try.prog 45 #[.slice A0 l0.length c0] w fun e w' => e = .returned (.int .i64 r) ∧ Drawn0 w w' := by
  have HR0 := Aside0.mk hr0
  have HC0 := Aside0.mk hc0
  clear hr0 hc0
  have H : (if (l0.length : Int) < 1 then (twoslotref03_Check.j0 k l0 true) else (if (l0.length : Int) > 32 then (twoslotref03_Check.j0 k l0 true) else (if 0 < (l0.length : Int) then (if ((rd_L1 l0 0).length : Int) < 1 then (twoslotref03_Check.j0 k l0 true) else (twoslotref03_Check.j0 k l0 (decide (((rd_L1 l0 0).length : Int) > 32)))) else (none)))) = some r := h
  clear h
  have HC2 := Aside0.mk H
  clear H
  go_enter Try.func45, Try.ntmps45
  go_upto_region 1 with (fail)
  repeat (go_quiet (fail); go_upto_region 1 with (fail))
  go_cut [25] (fun v25 wc => ∃ (kq : Nat) (x25_1 : Bool), v25 = .bool x25_1 ∧ Aside0 (twoslotref03_Check.j0 kq l0 x25_1 = some r) ∧ Aside0 (kq ≤ k) ∧ Drawn0 w wc)
  case first =>
    have H := HC2.out
    clear HC2
    by_cases c3 : (l0.length : Int) < 1
    · rw [if_pos c3] at H
      have c3b0 : decide ((l0.length : Int) < 1) = true := decide_eq_true c3
      have c3b1 : decide (l0.length < 1) = true := decide_eq_true (by omega)
      clear c3
      (first | rw [c3b0] | (simp only [i64_w, i32_w]; rw [c3b0]) | skip)
      have H' := Aside0.mk H
      clear H
      go_wp2
      repeat (go_quiet (fail); try go_wp2)
      go_meet
      case rel => exact ⟨_, (true), (by first | rfl | (simp; done) | (simp [*]; done)), H', ⟨by first | omega | exact Nat.le_refl _⟩, by repeat (first | exact Drawn0.refl _ | apply Drawn0.step)⟩
    · rw [if_neg c3] at H
      have c3b0 : decide ((l0.length : Int) < 1) = false := decide_eq_false c3
      have c3b1 : decide (l0.length < 1) = false := decide_eq_false (by omega)
      clear c3
      (first | rw [c3b0] | (simp only [i64_w, i32_w]; rw [c3b0]) | skip)
      by_cases c4 : (l0.length : Int) > 32
      · rw [if_pos c4] at H
        have c4b0 : decide (32 < (l0.length : Int)) = true := decide_eq_true c4
        have c4b1 : decide (32 < l0.length) = true := decide_eq_true (by omega)
        clear c4
        have H' := Aside0.mk H
        clear H
        go_wp2
        repeat (go_quiet (fail); try go_wp2)
        go_meet
        case rel => exact ⟨_, (true), (by first | rfl | (simp; done) | (simp [*]; done)), H', ⟨by first | omega | exact Nat.le_refl _⟩, by repeat (first | exact Drawn0.refl _ | apply Drawn0.step)⟩
      · rw [if_neg c4] at H
        have c4b0 : decide (32 < (l0.length : Int)) = false := decide_eq_false c4
        have c4b1 : decide (32 < l0.length) = false := decide_eq_false (by omega)
        clear c4
        by_cases c5 : 0 < (l0.length : Int)
        · rw [if_pos c5] at H
          have c5b0 : decide (0 < (l0.length : Int)) = true := decide_eq_true c5
          have c5b1 : decide (0 < l0.length) = true := decide_eq_true (by omega)
          clear c5
          by_cases c6 : ((rd_L1 l0 0).length : Int) < 1
          · rw [if_pos c6] at H
            have c6b0 : decide (((rd_L1 l0 0).length : Int) < 1) = true := decide_eq_true c6
            have c6b1 : decide ((rd_L1 l0 0).length < 1) = true := decide_eq_true (by omega)
            clear c6
            have H' := Aside0.mk H
            clear H
            have p155 : 0 ≤ (0 : Int) := (by omega)
            have q155 : 0 < (l0.length : Int) := of_decide_eq_true (by first | (with_reducible assumption) | assumption)
            obtain ⟨ad155, A155_0, c155_0, e155, hx155_0, hl155_0, hi155_0⟩ := at_L1 HR0.out 0 p155 q155
            cases e155
            have qi155 : (0 < l0.length) = True := eq_true (by omega)
            (try rw [show ((0 : Int)).toNat = 0 from rfl] at hx155_0)
            (try rw [Addr.add_zero'] at hx155_0)
            have HR155_0 := Aside0.mk hi155_0
            have HC155_0 := Aside0.mk hl155_0
            clear hi155_0 hl155_0
            replace p155 := eq_true p155
            replace q155 := eq_true q155
            go_wp2
            repeat (go_quiet (fail); try go_wp2)
            go_meet
            case rel => exact ⟨_, (true), (by first | rfl | (simp; done) | (simp [*]; done)), H', ⟨by first | omega | exact Nat.le_refl _⟩, by repeat (first | exact Drawn0.refl _ | apply Drawn0.step)⟩
          · rw [if_neg c6] at H
            have c6b0 : decide (((rd_L1 l0 0).length : Int) < 1) = false := decide_eq_false c6
            have c6b1 : decide ((rd_L1 l0 0).length < 1) = false := decide_eq_false (by omega)
            clear c6
            have H' := Aside0.mk H
            clear H
            have p155 : 0 ≤ (0 : Int) := (by omega)
            have q155 : 0 < (l0.length : Int) := of_decide_eq_true (by first | (with_reducible assumption) | assumption)
            obtain ⟨ad155, A155_0, c155_0, e155, hx155_0, hl155_0, hi155_0⟩ := at_L1 HR0.out 0 p155 q155
            cases e155
            have qi155 : (0 < l0.length) = True := eq_true (by omega)
            (try rw [show ((0 : Int)).toNat = 0 from rfl] at hx155_0)
            (try rw [Addr.add_zero'] at hx155_0)
            have HR155_0 := Aside0.mk hi155_0
            have HC155_0 := Aside0.mk hl155_0
            clear hi155_0 hl155_0
            replace p155 := eq_true p155
            replace q155 := eq_true q155
            have p156 : 0 ≤ (0 : Int) := (by omega)
            have q156 : 0 < (l0.length : Int) := of_decide_eq_true (by first | (with_reducible assumption) | assumption)
            obtain ⟨ad156, A156_0, c156_0, e156, hx156_0, hl156_0, hi156_0⟩ := at_L1 HR0.out 0 p156 q156
            obtain rfl : ad155 = ad156 := (by injection e156)
            have qi156 : (0 < l0.length) = True := eq_true (by omega)
            (try rw [show ((0 : Int)).toNat = 0 from rfl] at hx156_0)
            (try rw [Addr.add_zero'] at hx156_0)
            have HR156_0 := Aside0.mk hi156_0
            have HC156_0 := Aside0.mk hl156_0
            clear hi156_0 hl156_0
            replace p156 := eq_true p156
            replace q156 := eq_true q156
            have ea_ := Option.some.inj (hx155_0.symm.trans hx156_0)
            injection ea_ with ea_ en_ ec_
            subst ea_
            subst ec_
            clear en_
            go_wp2
            repeat (go_quiet (fail); try go_wp2)
            go_meet
            case rel => exact ⟨_, (decide (((rd_L1 l0 0).length : Int) > 32)), (by first | rfl | (simp; done) | (simp [*]; done)), H', ⟨by first | omega | exact Nat.le_refl _⟩, by repeat (first | exact Drawn0.refl _ | apply Drawn0.step)⟩
        · rw [if_neg c5] at H
          exact absurd H (by simp)
  case rest =>
    clear HC2
    try clear c1
    try clear p1
    try clear q1
    try clear hx1
    try clear qi1
    try clear p2
    try clear c3
    try clear c3b0
    try clear c3b1
    try clear c4
    try clear c4b0
    try clear c4b1
    try clear c5
    try clear c5b0
    try clear c5b1
    try clear c6
    try clear c6b0
    try clear c6b1
    try clear hx155_0
    try clear hx156_0
    try clear p155
    try clear p156
    try clear q155
    try clear q156
    obtain ⟨kq, x25_1, rfl, HA, HJ1, ⟨mc1, rfl⟩⟩ := hcut
    cases kq with
    | zero => exact absurd HA.out (by simp [twoslotref03_Check.j0])
    | succ kj1 =>
      have H := HA.out
      clear HA
      simp only [twoslotref03_Check.j0] at H
      by_cases c7 : x25_1 = true
      · subst c7
        have H1 : (some 30) = some r := by rw [if_pos rfl] at H; exact H
        clear H
        have H := H1
        clear H1
        obtain rfl := Option.some.inj H
        go_wp2
        repeat (go_quiet (fail); try go_wp2)
        go_ret
        exact ⟨by first | rfl | (simp; done) | (simp [*]; done), by repeat (first | exact Drawn0.refl _ | apply Drawn0.step)⟩
      · replace c7 := Bool.eq_false_iff.mpr c7
        subst c7
        have H1 : (twoslotref03_Check.l0 kj1 l0 0) = some r := by rw [if_neg (show ¬ (false = true) by decide)] at H; exact H
        clear H
        have H := H1
        clear H1
        have H' := Aside0.mk H
        clear H
        go_wp2
        repeat (go_quiet (fail); try go_wp2)
        go_loopg [3] kj1 (fun kq v3 w' => ∃ (x3_2 : Int), v3 = .int .i64 x3_2 ∧ Aside0 (twoslotref03_Check.l0 kq l0 x3_2 = some r) ∧ Aside0 (kq ≤ kj1) ∧ Drawn0 w w')
        case atStart => exact ⟨(0), (by first | rfl | (simp; done) | (simp [*]; done)), H', ⟨Nat.le_refl _⟩, by repeat (first | exact Drawn0.refl _ | apply Drawn0.step)⟩
        case round =>
          clear H'
          try clear c1
          try clear p1
          try clear q1
          try clear hx1
          try clear qi1
          try clear p2
          try clear c3
          try clear c3b0
          try clear c3b1
          try clear c4
          try clear c4b0
          try clear c4b1
          try clear c5
          try clear c5b0
          try clear c5b1
          try clear c6
          try clear c6b0
          try clear c6b1
          try clear c7
          try clear hx155_0
          try clear hx156_0
          try clear p1
          try clear p155
          try clear p156
          try clear p2
          try clear q1
          try clear q155
          try clear q156
          obtain ⟨x3_2, rfl, HA, HK2, ⟨m2, rfl⟩⟩ := hrel
          cases gk with
          | zero => exact absurd HA.out (by simp [twoslotref03_Check.l0])
          | succ k2 =>
            have H := HA.out
            clear HA
            simp only [twoslotref03_Check.l0] at H
            by_cases c8 : x3_2 < (l0.length : Int)
            · rw [if_pos c8] at H
              have c8b0 : decide (x3_2 < (l0.length : Int)) = true := decide_eq_true c8
              clear c8
              by_cases c9 : 0 ≤ x3_2
              · rw [if_pos c9] at H
                have c9b0 : decide (0 ≤ x3_2) = true := decide_eq_true c9
                clear c9
                by_cases c10 : 0 < (l0.length : Int)
                · rw [if_pos c10] at H
                  have c10b0 : decide (0 < (l0.length : Int)) = true := decide_eq_true c10
                  have c10b1 : decide (0 < l0.length) = true := decide_eq_true (by omega)
                  clear c10
                  by_cases c11 : ((rd_L1 l0 x3_2).length : Int) = ((rd_L1 l0 0).length : Int)
                  · rw [if_pos c11] at H
                    have c11b0 : (((rd_L1 l0 x3_2).length : Int) == ((rd_L1 l0 0).length : Int)) = true := beq_iff_eq.mpr c11
                    have c11b1 : (((rd_L1 l0 x3_2).length : Int) != ((rd_L1 l0 0).length : Int)) = false := bne_eq_false_iff_eq.mpr c11
                    have c11b2 : ((rd_L1 l0 x3_2).length == (rd_L1 l0 0).length) = true := by first | simpa using c11 | (simp at c11 ⊢; omega)
                    clear c11
                    have H' := Aside0.mk H
                    clear H
                    have p157 : 0 ≤ (x3_2 : Int) := of_decide_eq_true (by first | (with_reducible assumption) | assumption)
                    have q157 : x3_2 < (l0.length : Int) := of_decide_eq_true (by first | (with_reducible assumption) | assumption)
                    obtain ⟨ad157, A157_0, c157_0, e157, hx157_0, hl157_0, hi157_0⟩ := at_L1 HR0.out x3_2 p157 q157
                    cases e157
                    have HR157_0 := Aside0.mk hi157_0
                    have HC157_0 := Aside0.mk hl157_0
                    clear hi157_0 hl157_0
                    replace p157 := eq_true p157
                    replace q157 := eq_true q157
                    have p158 : 0 ≤ (0 : Int) := (by omega)
                    have q158 : 0 < (l0.length : Int) := of_decide_eq_true (by first | (with_reducible assumption) | assumption)
                    obtain ⟨ad158, A158_0, c158_0, e158, hx158_0, hl158_0, hi158_0⟩ := at_L1 HR0.out 0 p158 q158
                    obtain rfl : ad157 = ad158 := (by injection e158)
                    have qi158 : (0 < l0.length) = True := eq_true (by omega)
                    (try rw [show ((0 : Int)).toNat = 0 from rfl] at hx158_0)
                    (try rw [Addr.add_zero'] at hx158_0)
                    have HR158_0 := Aside0.mk hi158_0
                    have HC158_0 := Aside0.mk hl158_0
                    clear hi158_0 hl158_0
                    replace p158 := eq_true p158
                    replace q158 := eq_true q158
                    go_wp2
                    repeat (go_quiet (fail); try go_wp2)
                    go_roundg k2
                    case measure => have := HJ1.out; have := HK2.out; omega
                    case rel => exact ⟨(wrap64 (x3_2 + 1)), (by first | rfl | (simp; done) | (simp [*]; done)), H', ⟨by have := HJ1.out; have := HK2.out; omega⟩, by repeat (first | exact Drawn0.refl _ | apply Drawn0.step)⟩
                  · rw [if_neg c11] at H
                    have c11b0 : (((rd_L1 l0 x3_2).length : Int) == ((rd_L1 l0 0).length : Int)) = false := beq_eq_false_iff_ne.mpr c11
                    have c11b1 : (((rd_L1 l0 x3_2).length : Int) != ((rd_L1 l0 0).length : Int)) = true := bne_iff_ne.mpr c11
                    have c11b2 : ((rd_L1 l0 x3_2).length == (rd_L1 l0 0).length) = false := by first | simpa using c11 | (simp at c11 ⊢; omega)
                    obtain rfl := Option.some.inj H
                    have p157 : 0 ≤ (x3_2 : Int) := of_decide_eq_true (by first | (with_reducible assumption) | assumption)
                    have q157 : x3_2 < (l0.length : Int) := of_decide_eq_true (by first | (with_reducible assumption) | assumption)
                    obtain ⟨ad157, A157_0, c157_0, e157, hx157_0, hl157_0, hi157_0⟩ := at_L1 HR0.out x3_2 p157 q157
                    cases e157
                    have HR157_0 := Aside0.mk hi157_0
                    have HC157_0 := Aside0.mk hl157_0
                    clear hi157_0 hl157_0
                    replace p157 := eq_true p157
                    replace q157 := eq_true q157
                    have p158 : 0 ≤ (0 : Int) := (by omega)
                    have q158 : 0 < (l0.length : Int) := of_decide_eq_true (by first | (with_reducible assumption) | assumption)
                    obtain ⟨ad158, A158_0, c158_0, e158, hx158_0, hl158_0, hi158_0⟩ := at_L1 HR0.out 0 p158 q158
                    obtain rfl : ad157 = ad158 := (by injection e158)
                    have qi158 : (0 < l0.length) = True := eq_true (by omega)
                    (try rw [show ((0 : Int)).toNat = 0 from rfl] at hx158_0)
                    (try rw [Addr.add_zero'] at hx158_0)
                    have HR158_0 := Aside0.mk hi158_0
                    have HC158_0 := Aside0.mk hl158_0
                    clear hi158_0 hl158_0
                    replace p158 := eq_true p158
                    replace q158 := eq_true q158
                    go_wp2
                    repeat (go_quiet (fail); try go_wp2)
                    go_ret
                    exact ⟨by first | rfl | (simp; done) | (simp [*]; done), by repeat (first | exact Drawn0.refl _ | apply Drawn0.step)⟩
                · rw [if_neg c10] at H
                  exact absurd H (by simp)
              · rw [if_neg c9] at H
                exact absurd H (by simp)
            · rw [if_neg c8] at H
              have c8b0 : decide (x3_2 < (l0.length : Int)) = false := decide_eq_false c8
              clear c8
              obtain rfl := Option.some.inj H
              go_wp2
              repeat (go_quiet (fail); try go_wp2)
              go_ret
              exact ⟨by first | rfl | (simp; done) | (simp [*]; done), by repeat (first | exact Drawn0.refl _ | apply Drawn0.step)⟩

end Go.Proofs.Ythhncoogmncdkaa.PC
-- written by the session's own program (wip/prt.py) over the kit's print: not print.sh's own text
namespace Go.Proofs.Ythhncoogmncdkaa.PC
open Go.RowKit Go.Proofs.YthhncoogmncdkaaW.PrintWords Go.Proofs.YthhncoogmncdkaaW.PrintLast Go.Proofs.YthhncoogmncdkaaW.PrintMore
attribute [local go_sem] max2_int min2_int max_two min_two max_three min_three max_four min_four   -- for this text's walks alone
set_option linter.unusedVariables false
set_option linter.unusedSimpArgs false

/-! ### twoslotref03_Inverse: function 33 -/
theorem twoslotref03_Inverse.info : (Try.prog.info? 5).map (fun i => (i.zero, i.size, i.bytes)) = some (some (.int .u8 0), 1, 1) := by kernel_rfl
theorem twoslotref03_Inverse.info1 : (Try.prog.info? 5).map (·.size) = some 1 := by kernel_rfl
def twoslotref03_Inverse.ok (M : List (List Int)) : Prop := 0 < M.length ∧ M.length ≤ 100 ∧ 0 < (rw_ M 0).length ∧ (rw_ M 0).length ≤ 100 ∧ ∀ r ∈ M, r.length = (rw_ M 0).length
instance twoslotref03_Inverse.dec1 (M : List (List Int)) : Decidable (twoslotref03_Inverse.ok M) := by unfold twoslotref03_Inverse.ok; infer_instance
def twoslotref03_Inverse.xr (l0 : List (List Int)) (n k : Nat) : List Int := rw_ l0 k ++ (List.replicate n 0).set k 1
def twoslotref03_Inverse.X (l0 : List (List Int)) : List (List Int) := (List.range l0.length).map fun k => twoslotref03_Inverse.xr l0 l0.length k
def twoslotref03_Inverse.d (k n : Nat) (X : List (List Int)) (i j : Nat) : Option (Int × Int) := twoslotref01_Div.f k (rd (rw_ X i) ((n + j : Nat) : Int)) (rd (rw_ X i) (i : Int))
def twoslotref03_Inverse.G (k n : Nat) (X : List (List Int)) (i j : Nat) : Int := ((twoslotref03_Inverse.d k n X i j).getD (0, 0)).1
def twoslotref03_Inverse.M (k n : Nat) (X : List (List Int)) : List (List Int) := (List.range n).map fun i => (List.range n).map fun j => twoslotref03_Inverse.G k n X i j
def twoslotref03_Inverse.all (k n : Nat) (X : List (List Int)) : Prop := ∀ i, i < n → ∀ j, j < n → (twoslotref03_Inverse.d k n X i j).isSome = true
instance twoslotref03_Inverse.dec2 (k n : Nat) (X : List (List Int)) : Decidable (twoslotref03_Inverse.all k n X) := by unfold twoslotref03_Inverse.all; infer_instance
def twoslotref03_Inverse.f (k : Nat) (l0 : List (List Int)) : Option (List (List Int) × Int) := (twoslotref03_Check.f k l0).bind fun e => if e = 0 then (if twoslotref03_Inverse.ok l0 then (if l0.length = (rw_ l0 0).length then
    (twoslotref03_blank.f k (l0.length : Int) ((2 * l0.length : Nat) : Int)).bind fun z => if z = List.replicate l0.length (List.replicate (2 * l0.length) 0) then
    (twoslotref03_steps.f k (twoslotref03_Inverse.X l0) l0.length).bind fun q => if q.2 < l0.length then some ([], 5) else
    (twoslotref03_blank.f k (l0.length : Int) (l0.length : Int)).bind fun o => if o = List.replicate l0.length (List.replicate l0.length 0) then
    (if twoslotref03_Inverse.all k l0.length q.1 then some (twoslotref03_Inverse.M k l0.length q.1, 0) else none) else none else none
  else some ([], 30)) else none) else some ([], 30)
theorem twoslotref03_Inverse.d_up {k n : Nat} {X : List (List Int)} {i j : Nat} (h : (twoslotref03_Inverse.d k n X i j).isSome = true) : twoslotref03_Inverse.d (k + 1) n X i j = twoslotref03_Inverse.d k n X i j := by
  obtain ⟨x, hx⟩ := Option.isSome_iff_exists.1 h
  rw [hx]
  exact twoslotref01_Div.mono _ _ _ _ hx
theorem twoslotref03_Inverse.mono : ∀ a0 k, LeO (twoslotref03_Inverse.f k a0) (twoslotref03_Inverse.f (k + 1) a0) := fun a0 k => LeO.bind (twoslotref03_Check.mono _ _) (fun _ => LeO.ite (LeO.ite (LeO.ite (LeO.bind (twoslotref03_blank.mono _ _ _) (fun _ => LeO.ite (LeO.bind (twoslotref03_steps.mono _ _ _) (fun q => LeO.ite (LeO.refl _) (LeO.bind (twoslotref03_blank.mono _ _ _) (fun _ => LeO.ite (fun r hr => by
  by_cases h : twoslotref03_Inverse.all k a0.length q.1
  case neg => rw [if_neg h] at hr; cases hr
  rw [if_pos h] at hr
  have h' : twoslotref03_Inverse.all (k + 1) a0.length q.1 := fun i hi j hj => by rw [twoslotref03_Inverse.d_up (h i hi j hj)]; exact h i hi j hj
  rw [if_pos h', ← hr]
  have e : twoslotref03_Inverse.M (k + 1) a0.length q.1 = twoslotref03_Inverse.M k a0.length q.1 := by
    unfold twoslotref03_Inverse.M
    refine List.map_congr_left (fun i hi => List.map_congr_left (fun j hj => ?_))
    unfold twoslotref03_Inverse.G
    rw [twoslotref03_Inverse.d_up (h i (List.mem_range.1 hi) j (List.mem_range.1 hj))]
  rw [e]) (LeO.refl _))))) (LeO.refl _))) (LeO.refl _)) (LeO.refl _)) (LeO.refl _))
theorem twoslotref03_Inverse.ext {A B : List (List Int)} (hl : A.length = B.length) (h : ∀ k, k < A.length → rw_ A k = rw_ B k) : A = B := by
  apply List.ext_getElem hl
  intro k h1 h2
  have := h k h1
  simpa [rw_, h1, h2] using this
theorem twoslotref03_Inverse.rw_map {n k : Nat} (f : Nat → List Int) (h : k < n) : rw_ ((List.range n).map f) k = f k := by simp [rw_, h]
theorem twoslotref03_Inverse.rw_rep {n k : Nat} (x : List Int) (h : k < n) : rw_ (List.replicate n x) k = x := by simp [rw_, h]
set_option maxHeartbeats 16000000 in
set_option maxRecDepth 100000 in
theorem twoslotref03_Inverse.calls (k : Nat) (A0 : Option Addr) (c0 : Nat) (l0 : List (List Int)) (r1 : List (List Int)) (r2 : Int) (w : World) (hr0 : Kd.C (Kd.slice 5 (Kd.int .u8)) w A0 l0.length l0) (hc0 : l0.length ≤ c0) (h : twoslotref03_Inverse.f k l0 = some (r1, r2)) :
    Calls Try.prog 33 #[.slice A0 l0.length c0] w fun e w' => ∃ v0_ : Value, e = .returned (.tuple #[v0_, .int .i64 r2]) ∧ Kd.S (Kd.slice 5 (Kd.int .u8)) 23 w' w.heap.size (fun _ => True) v0_ r1 ∧ Below w.heap.size w w' := by
  obtain ⟨e, he, h⟩ := Option.bind_eq_some_iff.mp h
  have HE := Lib.hid he
  have HR := Lib.hid hr0
  have HC := Lib.hid hc0
  clear he hr0 hc0
  by_cases h0 : e = 0
  case neg =>
    rw [if_neg h0] at h
    injection h with h; injection h with ha hb; subst ha hb
    have he1 : (e != 0) = true := bne_iff_ne.mpr h0
    clear h0
    go_enter Try.func33, Try.ntmps33
    go_wp2_with fail
    refine (twoslotref03_Check.calls k A0 c0 l0 e _ HR.out HC.out HE.out).mono ?_
    rintro e' w1 ⟨rfl, n, rfl⟩
    go_wp2_with fail
    go_ret2
    exact ⟨_, rfl, Kd.S_nil _ _ _ _ _, pw_below_drewN (Below.refl _ _) n⟩
  rw [if_pos h0] at h
  subst h0
  by_cases hok : twoslotref03_Inverse.ok l0
  case neg => rw [if_neg hok] at h; cases h
  rw [if_pos hok] at h
  have HK := Lib.hid hok
  have hp : (0 : Int) < (l0.length : Int) := by have := hok.1; omega
  obtain ⟨ad, B0, d0, rfl, hx, -, -⟩ : ∃ ad A1 c1, A0 = some ad ∧ w.cell? (ad.add 0) = some (.slice A1 (rw_ l0 0).length c1) ∧ (rw_ l0 0).length ≤ c1 ∧ Kd.C (Kd.int .u8) w A1 (rw_ l0 0).length (rw_ l0 0) := at_L1 HR.out 0 (by omega) (by omega)
  have ea : ad.add 0 = ad := by cases ad; simp [Addr.add]
  rw [ea] at hx
  clear ea hok
  by_cases h1 : l0.length = (rw_ l0 0).length
  case neg =>
    rw [if_neg h1] at h
    injection h with h; injection h with ha hb; subst ha hb
    have he1 : ((l0.length : Int) != ((rw_ l0 0).length : Int)) = true := bne_iff_ne.mpr (by omega)
    clear h1
    go_enter Try.func33, Try.ntmps33
    go_wp2_with fail
    refine (twoslotref03_Check.calls k (some ad) c0 l0 0 _ HR.out HC.out HE.out).mono ?_
    rintro e' w1 ⟨rfl, n, rfl⟩
    replace hx : (w.drewN n).cell? ad = some (.slice B0 (rw_ l0 0).length d0) := hx
    go_wp2_with fail
    go_ret2
    exact ⟨_, rfl, Kd.S_nil _ _ _ _ _, pw_below_drewN (Below.refl _ _) n⟩
  rw [if_pos h1] at h
  have he1 : ((l0.length : Int) != ((rw_ l0 0).length : Int)) = false := bne_eq_false_iff_eq.mpr (by omega)
  obtain ⟨z, hz, h⟩ := Option.bind_eq_some_iff.mp h
  by_cases hzl : z = List.replicate l0.length (List.replicate (2 * l0.length) 0)
  case neg => rw [if_neg hzl] at h; cases h
  rw [if_pos hzl] at h
  obtain ⟨⟨X', r⟩, hs, h⟩ := Option.bind_eq_some_iff.mp h
  have HROW := Lib.hid (fun i (hi : i < l0.length) => (HK.out.2.2.2.2 (rw_ l0 i) (by simp [rw_, hi])).trans h1.symm)
  obtain ⟨N2, hN2⟩ : ∃ N2, N2 = 2 * l0.length := ⟨_, rfl⟩
  rw [← hN2] at hz hzl
  have hmul : wrap64 (2 * (l0.length : Int)) = (N2 : Int) := by have := HK.out.2.1; unfold wrap64; omega
  have HN2 := Lib.hid hN2
  have HZ := Lib.hid hz
  have HZL := Lib.hid hzl
  have HS := Lib.hid hs
  have H := Lib.hid h
  clear hN2 hz hzl hs h h1
  go_enter Try.func33, Try.ntmps33
  go_wp2_with fail
  refine (twoslotref03_Check.calls k (some ad) c0 l0 0 _ HR.out HC.out HE.out).mono ?_
  rintro e' w1 ⟨rfl, n, hw⟩
  replace hx : w1.cell? ad = some (.slice B0 (rw_ l0 0).length d0) := by rw [hw]; exact hx
  have HB := Lib.hid (show Below w.heap.size w w1 by rw [hw]; exact pw_below_drewN (Below.refl _ _) n)
  clear hw
  go_wp2_with fail
  refine (twoslotref03_blank.calls k (l0.length : Int) (N2 : Int) z _ HZ.out).mono ?_
  rintro e' w2 ⟨v1, rfl, ho, hb⟩
  obtain ⟨g, cap, b, c, rfl, -, hM⟩ := Mat.of_S (m := N2) ho (by rw [HZL.out]; intro r hr; rw [(List.mem_replicate.1 hr).2]; simp) (by rw [HZL.out]; simpa using HK.out.1) (by rw [HN2.out]; have := HK.out.1; omega)
  have HL := Lib.hid (show z.length = l0.length by rw [HZL.out]; simp)
  have HM := Lib.hid (hM.mono (S' := fun k => w.heap.size ≤ k) (fun k hk => Nat.le_trans HB.out.size hk))
  replace HB := Lib.hid (below_step HB.out hb)
  clear ho hb hM hx he1
  rw [HL.out]
  go_wp2_with fail
  go_loopg [6] l0.length (fun gk s6 wx => ∃ (i : Nat) (M4 : List (List Int)), i + gk = l0.length ∧ s6 = .int .i64 i ∧ Aside0 (M4.length = l0.length ∧ ∀ q, q < l0.length → rw_ M4 q = if q < i then twoslotref03_Inverse.xr l0 l0.length q else List.replicate N2 0) ∧ Aside0 (Mat wx (fun k => w.heap.size ≤ k) g cap b c M4 N2) ∧ Aside0 (Below w.heap.size w wx))
  case atStart => exact ⟨0, z, by omega, rfl, ⟨HL.out, fun q hq => by rw [if_neg (by omega), HZL.out, twoslotref03_Inverse.rw_rep _ hq]⟩, ⟨HM.out⟩, ⟨HB.out⟩⟩
  case round =>
    clear HM HB HL HZ HZL
    obtain ⟨i, M4, hig, rfl, HL, HM, HB⟩ := hrel
    have hle : (i : Int) ≤ (l0.length : Int) := by omega
    cases gk with
    | zero =>
      obtain rfl : i = l0.length := by omega
      have hX : M4 = twoslotref03_Inverse.X l0 := twoslotref03_Inverse.ext (by rw [HL.out.1]; simp [twoslotref03_Inverse.X]) (fun q hq => by
        have hq' : q < l0.length := by rw [← HL.out.1]; exact hq
        rw [HL.out.2 q hq', if_pos hq']
        unfold twoslotref03_Inverse.X
        rw [twoslotref03_Inverse.rw_map _ hq'])
      have HXL := Lib.hid (show (twoslotref03_Inverse.X l0).length = l0.length by simp [twoslotref03_Inverse.X])
      rw [hX] at HM
      clear hX HL
      go_wp2_with fail
      have hC := twoslotref03_steps.calls k _ g cap N2 l0.length b c (twoslotref03_Inverse.X l0) X' r w _ HB.out HM.out (fun k hk => hk) (by rw [HXL.out]; exact HK.out.2.1) (by rw [HN2.out]; omega) (by rw [HN2.out]; have := HK.out.2.1; omega) HS.out
      rw [HXL.out] at hC
      refine hC.mono ?_
      clear hC
      rintro e' w3 ⟨rfl, ⟨b3, c3, hM⟩, hl3, hb⟩
      have HM3 := Lib.hid ((Mat.size hM).mono (S' := fun k => w.heap.size ≤ k ∧ k < w3.heap.size) (fun k hk => hk))
      have HL3 := Lib.hid (show X'.length = l0.length from hl3)
      replace HB := Aside0.mk hb
      clear hM hl3 hb HM HS
      by_cases hlt : r < l0.length
      case pos =>
        have h := H.out
        rw [if_pos hlt] at h
        injection h with h; injection h with ha hb; subst ha hb
        have hd2 : (r : Int) < (l0.length : Int) := by omega
        clear hlt H
        go_wp2_with fail
        go_ret2
        exact ⟨_, rfl, Kd.S_nil _ _ _ _ _, HB.out⟩
      case neg =>
        have h := H.out
        rw [if_neg hlt] at h
        have hd2 : ¬ (r : Int) < (l0.length : Int) := by omega
        obtain ⟨o, ho, h⟩ := Option.bind_eq_some_iff.mp h
        by_cases hol : o = List.replicate l0.length (List.replicate l0.length 0)
        case neg => rw [if_neg hol] at h; cases h
        rw [if_pos hol] at h
        by_cases hall : twoslotref03_Inverse.all k l0.length X'
        case neg => rw [if_neg hall] at h; cases h
        rw [if_pos hall] at h
        injection h with h; injection h with ha hb; subst hb
        have HA := Lib.hid ha
        have HO := Lib.hid ho
        have HOL := Lib.hid hol
        have HAL := Lib.hid hall
        clear ha ho hol hall h hlt H
        go_wp2_with fail
        refine (twoslotref03_blank.calls k (l0.length : Int) (l0.length : Int) o _ HO.out).mono ?_
        rintro e' w4 ⟨v2, rfl, ho, hb⟩
        obtain ⟨g2, cap2, b2, c2, rfl, -, hM2⟩ := Mat.of_S (m := l0.length) ho (by rw [HOL.out]; intro r hr; rw [(List.mem_replicate.1 hr).2]; simp) (by rw [HOL.out]; simpa using HK.out.1) HK.out.1
        have HL2 := Lib.hid (show o.length = l0.length by rw [HOL.out]; simp)
        have HM2 := Lib.hid hM2
        replace HM3 := Lib.hid (HM3.out.below hb)
        have HZ3 := Lib.hid HB.out.size
        replace HB := Aside0.mk (below_step HB.out hb)
        clear ho hb hM2 hd2
        rw [HL2.out]
        generalize w3.heap.size = B3 at HM3 HM2 HZ3
        go_wp2_with fail
        go_loopg [8] l0.length (fun gk s8 wx => ∃ (i : Nat) (M5 : List (List Int)), i + gk = l0.length ∧ s8 = .int .i64 i ∧ Aside0 (M5.length = l0.length ∧ ∀ q, q < l0.length → rw_ M5 q = if q < i then mrow (twoslotref03_Inverse.G k l0.length X' q) l0.length l0.length else List.replicate l0.length 0) ∧ Aside0 (Mat wx (fun k => B3 ≤ k) g2 cap2 b2 c2 M5 l0.length) ∧ Aside0 (Mat wx (fun k => w.heap.size ≤ k ∧ k < B3) g cap b3 c3 X' N2) ∧ Aside0 (Below w.heap.size w wx))
        case atStart => exact ⟨0, o, by omega, rfl, ⟨HL2.out, fun q hq => by rw [if_neg (by omega), HOL.out, twoslotref03_Inverse.rw_rep _ hq]⟩, ⟨HM2.out⟩, ⟨HM3.out⟩, ⟨HB.out⟩⟩
        case round =>
          clear HM2 HM3 HB HL2 HO HOL
          obtain ⟨i, M5, hig, rfl, HL, HM2, HM3, HB⟩ := hrel
          have hle : (i : Int) ≤ (l0.length : Int) := by omega
          cases gk with
          | zero =>
            obtain rfl : i = l0.length := by omega
            have hX : M5 = twoslotref03_Inverse.M k l0.length X' := twoslotref03_Inverse.ext (by rw [HL.out.1]; simp [twoslotref03_Inverse.M]) (fun q hq => by
              have hq' : q < l0.length := by rw [← HL.out.1]; exact hq
              rw [HL.out.2 q hq', if_pos hq', mrow_all]
              unfold twoslotref03_Inverse.M
              rw [twoslotref03_Inverse.rw_map _ hq'])
            have HF := Lib.hid (HM2.out.toS (base := w.heap.size) (fun k hk => Nat.le_trans HZ3.out hk))
            rw [hX, HA.out] at HF
            have hl5 : r1.length = l0.length := by rw [← HA.out]; simp [twoslotref03_Inverse.M]
            rw [hl5] at HF
            clear hX hl5 HL HM2 HM3
            go_wp2_with fail
            go_ret2
            exact ⟨_, rfl, HF.out, HB.out⟩
          | succ d =>
            have hi1 : (i : Int) < (l0.length : Int) := by omega
            go_wp2_with fail
            go_loopg [9] l0.length (fun gk s9 wx => ∃ (j : Nat) (M6 : List (List Int)), j + gk = l0.length ∧ s9 = .int .i64 j ∧ Aside0 (M6.length = l0.length ∧ ∀ q, q < l0.length → rw_ M6 q = if q = i then mrow (twoslotref03_Inverse.G k l0.length X' i) l0.length j else rw_ M5 q) ∧ Aside0 (Mat wx (fun k => B3 ≤ k) g2 cap2 b2 c2 M6 l0.length) ∧ Aside0 (Mat wx (fun k => w.heap.size ≤ k ∧ k < B3) g cap b3 c3 X' N2) ∧ Aside0 (Below w.heap.size w wx))
            case atStart => exact ⟨0, M5, by omega, rfl, ⟨HL.out.1, fun q hq => by
              by_cases e : q = i
              · rw [if_pos e, HL.out.2 q hq, if_neg (by omega)]; simp [mrow]
              · rw [if_neg e]⟩, ⟨HM2.out⟩, ⟨HM3.out⟩, ⟨HB.out⟩⟩
            case round =>
              clear HM2 HM3 HB
              obtain ⟨j, M6, hjg, rfl, HL6, HM2, HM3, HB⟩ := hrel
              have hlj : (j : Int) ≤ (l0.length : Int) := by omega
              cases gk with
              | zero =>
                obtain rfl : j = l0.length := by omega
                go_wp2_with fail
                go_roundg d
                case measure => omega
                case rel => exact ⟨i + 1, M6, by omega, by have := HK.out.2.1; rw [show wrap64 ((i : Int) + 1) = ((i + 1 : Nat) : Int) by unfold wrap64; omega], ⟨HL6.out.1, fun q hq => by
                  rw [HL6.out.2 q hq]
                  by_cases e : q = i
                  · subst e; rw [if_pos rfl, if_pos (by omega)]
                  · rw [if_neg e, HL.out.2 q hq]
                    by_cases e2 : q < i
                    · rw [if_pos e2, if_pos (by omega)]
                    · rw [if_neg e2, if_neg (by omega)]⟩, ⟨HM2.out⟩, ⟨HM3.out⟩, ⟨HB.out⟩⟩
              | succ d2 =>
                have hj1 : (j : Int) < (l0.length : Int) := by omega
                obtain ⟨p, hpe⟩ : ∃ p, p = l0.length + j := ⟨_, rfl⟩
                have hw : wrap64 ((l0.length : Int) + (j : Int)) = (p : Int) := by have := HK.out.2.1; unfold wrap64; omega
                have hw2 : IntKind.i64.wrap ((l0.length : Int) + (j : Int)) = (p : Int) := (IntWalk.i64_left _).trans hw
                have hp2 : (p : Int) < (N2 : Int) := by have := HN2.out; omega
                have hi2 : (i : Int) < (N2 : Int) := by have := HN2.out; omega
                have HI := Lib.hid (show i < M6.length by rw [HL6.out.1]; omega)
                have HI3 := Lib.hid (show i < X'.length by rw [HL3.out]; omega)
                obtain ⟨⟨t1, t2⟩, ht⟩ := Option.isSome_iff_exists.1 (HAL.out i (by omega) j (by omega))
                have HT := Lib.hid (show twoslotref01_Div.f k (rd (rw_ X' i) (p : Int)) (rd (rw_ X' i) (i : Int)) = some (t1, t2) by rw [hpe]; exact ht)
                have HG := Lib.hid (show twoslotref03_Inverse.G k l0.length X' i j = t1 by unfold twoslotref03_Inverse.G; rw [ht]; rfl)
                have hy1 := HM2.out.out HI.out
                have hy2 := HM3.out.out HI3.out
                have hy3 := HM3.out.at_ HI3.out (j := p) (by omega)
                have hy4 := HM3.out.at_ HI3.out (j := i) (by omega)
                have hz1 := HM2.out.at_ HI.out (j := j) (by omega)
                have hz2 := HM2.out.atF HI.out j
                have NE1 := Lib.hid (fun z : g2 = b2 i => (HM2.out.2.2.1 i HI.out).1 z.symm)
                have NE2 := Lib.hid (show g ≠ b2 i by have h1 : B3 ≤ b2 i := HM2.out.own HI.out; have h2 := HM3.out.2.1; omega)
                have NE3 := Lib.hid (show b3 i ≠ b2 i by have h1 : B3 ≤ b2 i := HM2.out.own HI.out; have h2 := HM3.out.own HI3.out; omega)
                clear ht hpe
                go_wp2_with fail
                go_region_held3 (fun w' => w'.cell? ⟨g2, i, none⟩ = some (.slice (some ⟨b2 i, 0, none⟩) l0.length (c2 i)) ∧ w'.cell? ⟨g, i, none⟩ = some (.slice (some ⟨b3 i, 0, none⟩) N2 (c3 i)) ∧ w'.cell? ⟨b3 i, p, none⟩ = some (.int .u8 (rd (rw_ X' i) (p : Int))) ∧ w'.cell? ⟨b3 i, i, none⟩ = some (.int .u8 (rd (rw_ X' i) (i : Int)))) (first | exact ⟨hy1, hy2, hy3, hy4⟩ | exact ⟨(far_cell NE1.out _).trans hy1, (far_cell NE2.out _).trans hy2, (far_cell NE3.out _).trans hy3, (far_cell NE3.out _).trans hy4⟩) (first | ((go_at_call 47; refine (twoslotref01_Div.calls k _ _ t1 t2 _ HT.out).mono ?_; rintro e w' ⟨rfl, n, rfl⟩)))
                have HB7 := Lib.hid (below_set (g := b2 i) (j := j) (v := .int .u8 t1) (pw_below_drewN HB.out (1 + n)) (Nat.le_trans HZ3.out (HM2.out.own HI.out)))
                have HM8 := Lib.hid ((HM2.out.below (pw_below_drewN (Below.refl _ _) (1 + n))).store HI.out (j := j) (by omega) t1)
                have HM9 := Lib.hid ((HM3.out.below (pw_below_drewN (Below.refl _ _) (1 + n))).keep (W' := (wr.drewN (1 + n)).setCell ⟨b2 i, j, none⟩ (.int .u8 t1)) (fun k hk => Below.heap_setCell _ ⟨b2 i, j, none⟩ _ k (fun z => by have h1 : B3 ≤ b2 i := HM2.out.own HI.out; have z' : k = b2 i := z; omega)))
                clear hy1 hy2 hy3 hy4 hz1 hz2 HM2 HM3 HB
                go_wp2_with fail
                go_roundg d2
                case measure => omega
                case rel => exact ⟨j + 1, _, by omega, by have := HK.out.2.1; rw [show wrap64 ((j : Int) + 1) = ((j + 1 : Nat) : Int) by unfold wrap64; omega], ⟨by rw [List.length_set]; exact HL6.out.1, fun q hq => by
                  rw [rw_set HI.out]
                  by_cases e : q = i
                  · subst e
                    rw [if_pos rfl, if_pos rfl, HL6.out.2 q hq, if_pos rfl, ← HG.out, mrow_set _ (by omega)]
                  · rw [if_neg e, if_neg e, HL6.out.2 q hq, if_neg e]⟩, ⟨HM8.out⟩, ⟨HM9.out⟩, ⟨HB7.out⟩⟩
    | succ d =>
      have hi1 : (i : Int) < (l0.length : Int) := by omega
      have hi : i < M4.length := by rw [HL.out.1]; omega
      obtain ⟨ad2, A1, c1, ead, hx, hd1, hr1⟩ : ∃ ad' A1 c1, some ad = some ad' ∧ wr.cell? (ad'.add i) = some (.slice A1 (rw_ l0 i).length c1) ∧ (rw_ l0 i).length ≤ c1 ∧ Kd.C (Kd.int .u8) wr A1 (rw_ l0 i).length (rw_ l0 i) := at_L1 (Kd.C_below HR.out HB.out) (i : Int) (by omega) (by omega)
      cases ead
      have hrl := HROW.out i (by omega)
      have hx1 := HM.out.out hi
      obtain ⟨cur, hcur, hcs, hMc⟩ := (HM.out.below (below_drew (Below.refl _ _))).copy hi (rw_ l0 i) (by rw [hrl, HN2.out]; omega)
      obtain ⟨ad3, rfl, hsrc⟩ : ∃ ad3, A1 = some ad3 ∧ ∀ j v, (nums .u8 (rw_ l0 i))[j]? = some v → wr.cell? (ad3.add j) = some v := by
        obtain ⟨ad3, e3, -⟩ := Kd.at_int hr1 0 (by omega) (by have := HK.out.1; omega)
        refine ⟨ad3, e3, fun j v hj => ?_⟩
        have hjl : j < (rw_ l0 i).length := by
          have := (List.getElem?_eq_some_iff.1 hj).1
          simpa [nums] using this
        obtain ⟨ad4, e4, hx4⟩ := Kd.at_int hr1 (j : Int) (by omega) (by omega)
        rw [e3] at e4
        injection e4 with e4
        subst e4
        rw [Int.toNat_natCast] at hx4
        rw [hx4]
        simp only [nums, List.getElem?_map, List.getElem?_eq_getElem hjl, Option.map_some] at hj
        injection hj with hj
        rw [← hj]
        simp [rd, hjl]
      have HSRC := Lib.hid hsrc
      have HCUR := Lib.hid hcur
      have HCS := Lib.hid hcs
      have HMC := Lib.hid hMc
      have HRL := Lib.hid hrl
      have HBD := Lib.hid (below_setRow (g := b i) (below_drew HB.out) ((HM.out.own hi)) (cur.toList.take 0 ++ (nums .u8 (rw_ l0 i) ++ cur.toList.drop (0 + (nums .u8 (rw_ l0 i)).length))).toArray)
      have HI := Lib.hid hi
      clear hsrc hcur hcs hMc hd1 hr1 hi
      rw [hrl] at hx
      clear hrl
      go_wp2_with fail
      go_still_tail 8, (by kernel_rfl)
      change wpList _ _ _ _ _ wr.drew
      clear hx hx1
      go_upto_region 9 with ((with_reducible refine gate_builtin (b := .copy) (xs := #[.tmp 36, .tmp 40]) rfl ?_); refine wpList_copy_own rfl (.tmp 36) (.tmp 40) 23 23 rfl 5 Try.underlying23 twoslotref03_Inverse.info1 (b i) 0 N2 (c i) ad3 l0.length c1 rfl rfl cur 5 HCUR.out (nums .u8 (rw_ l0 i)) ?cn HSRC.out ?cf ?co ?_; (case cn => rw [show (nums .u8 (rw_ l0 i)).length = l0.length by simp [nums]; exact HRL.out]; have := HN2.out; exact (Nat.min_eq_left (by omega)).symm); (case cf => have := HCS.out; simp [nums]; omega); (case co => intro v hv; simp only [nums, List.mem_map] at hv; obtain ⟨x, _, rfl⟩ := hv; rfl); generalize wr.drew.setRow (b i) (cur.toList.take 0 ++ (nums .u8 (rw_ l0 i) ++ cur.toList.drop (0 + (nums .u8 (rw_ l0 i)).length))).toArray = w5 at HMC HBD ⊢)
      have HI2 := Lib.hid (show i < (M4.set i (rw_ l0 i ++ (rw_ M4 i).drop (rw_ l0 i).length)).length by rw [List.length_set]; exact HI.out)
      have hx1 := HMC.out.out HI2.out
      obtain ⟨p, hpe⟩ : ∃ p, p = l0.length + i := ⟨_, rfl⟩
      have hw : wrap64 ((l0.length : Int) + (i : Int)) = (p : Int) := by have := HK.out.2.1; unfold wrap64; omega
      have hp2 : (p : Int) < (N2 : Int) := by have := HN2.out; omega
      have hx2 := HMC.out.at_ HI2.out (j := p) (by omega)
      have hxf := HMC.out.atF HI2.out p
      have HM6 := Lib.hid (HMC.out.store HI2.out (j := p) (by omega) 1)
      have HB6 := Lib.hid (below_set (g := b i) (j := p) (v := .int .u8 1) HBD.out (HM.out.own HI.out))
      have HPE := Lib.hid hpe
      clear hpe HM HB HMC HBD HSRC HCUR HCS
      go_wp2_with fail
      go_roundg d
      case measure => omega
      case rel => exact ⟨i + 1, _, by omega, by have := HK.out.2.1; rw [show wrap64 ((i : Int) + 1) = ((i + 1 : Nat) : Int) by unfold wrap64; omega], ⟨by rw [List.length_set, List.length_set]; exact HL.out.1, fun q hq => by
        rw [rw_set HI2.out, rw_set HI.out, rw_set HI.out]
        by_cases e : q = i
        · subst e
          rw [if_pos rfl, if_pos rfl, if_pos (by omega), HPE.out, HL.out.2 q hq, if_neg (by omega), HRL.out]
          unfold twoslotref03_Inverse.xr
          rw [List.set_append_right _ _ (by rw [HRL.out]; omega), HRL.out, Nat.add_sub_cancel_left, HN2.out, List.drop_replicate, show 2 * l0.length - l0.length = l0.length by omega]
        · rw [if_neg e, if_neg e, HL.out.2 q hq]
          by_cases e2 : q < i
          · rw [if_pos e2, if_pos (by omega)]
          · rw [if_neg e2, if_neg (by omega)]⟩, ⟨HM6.out⟩, ⟨HB6.out⟩⟩

end Go.Proofs.Ythhncoogmncdkaa.PC
