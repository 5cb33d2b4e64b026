import Derived.Test.YthhncoogmncdkaaPCx0
import Derived.Test.YthhncoogmncdkaaPCx13
import Derived.Test.YthhncoogmncdkaaDEnc
import Derived.Test.YthhncoogmncdkaaPCx14
import Derived.Test.YthhncoogmncdkaaMxSpo
import Derived.Test.YthhncoogmncdkaaCdLit
import Derived.Test.YthhncoogmncdkaaPCx30
import Derived.Test.YthhncoogmncdkaaPCx27
import Derived.Test.YthhncoogmncdkaaPCx29
-- written by the session's own program (wip/prt.py) over the kit's print: not print.sh's own text
namespace Go.Proofs.Ythhncoogmncdkaa.PC
open Go.RowKit Go.Proofs.YthhncoogmncdkaaW.PrintWords Go.Proofs.YthhncoogmncdkaaW.PrintLast Go.Proofs.YthhncoogmncdkaaW.PrintMore
attribute [local go_sem] max2_int min2_int max_two min_two max_three min_three max_four min_four   -- for this text's walks alone
set_option linter.unusedVariables false
set_option linter.unusedSimpArgs false

/-! ### twoslotlaw04_much: function 12 -/
def twoslotlaw04_much.l0 : Nat → List (List Int) → Int → Option (Bool)
  | 0, _, _ => none
  | k + 1, x0, x3 => if x3 < (x0.length : Int) then (if 0 ≤ x3 then (if ((rd_L1 x0 x3).length : Int) > 3000 then (if ((rd_L1 x0 x3).length : Int) ≤ 65536 then (some true) else (if ((rd_L1 x0 x3).length : Int) > 70000 then (some true) else (twoslotlaw04_much.l0 k x0 (wrap64 (x3 + 1))))) else (if ((rd_L1 x0 x3).length : Int) > 70000 then (some true) else (twoslotlaw04_much.l0 k x0 (wrap64 (x3 + 1))))) else (none)) else (some false)
def twoslotlaw04_much.f (k : Nat) (l0 : List (List Int)) : Option (Bool) := if (l0.length : Int) > 60 then (some true) else (twoslotlaw04_much.l0 k l0 0)
theorem twoslotlaw04_much.mono_l : ∀ k, (∀ y0 y1, LeO (twoslotlaw04_much.l0 k y0 y1) (twoslotlaw04_much.l0 (k + 1) y0 y1))
  | 0 => fun _ _ r h => by simp [twoslotlaw04_much.l0] at h
  | k + 1 => by
    have ih0 := twoslotlaw04_much.mono_l k
    · intro y0 y1
      unfold twoslotlaw04_much.l0
      repeat' first
      | (with_reducible exact ih0 _ _)
      | (with_reducible exact LeO.refl _)
      | (with_reducible exact LeO.none _)
      | (with_reducible refine LeO.ite ?_ ?_)
      | (with_reducible refine LeO.bind ?_ (fun _ => ?_))
      | exact ih0 _ _
      | exact LeO.none _
      | refine LeO.ite ?_ ?_
      | refine LeO.bind ?_ (fun _ => ?_)
theorem twoslotlaw04_much.mono : ∀ a0 k, LeO (twoslotlaw04_much.f k a0) (twoslotlaw04_much.f (k + 1) a0) := by
  intro a0 k
  have ih0 := twoslotlaw04_much.mono_l k
  unfold twoslotlaw04_much.f
  repeat' first
      | (with_reducible exact ih0 _ _)
      | (with_reducible exact LeO.refl _)
      | (with_reducible exact LeO.none _)
      | (with_reducible refine LeO.ite ?_ ?_)
      | (with_reducible refine LeO.bind ?_ (fun _ => ?_))
      | exact ih0 _ _
      | exact LeO.none _
      | refine LeO.ite ?_ ?_
      | refine LeO.bind ?_ (fun _ => ?_)
set_option maxHeartbeats 8000000 in
set_option maxRecDepth 100000 in
theorem twoslotlaw04_much.calls (k : Nat) (A0 : Option Addr) (c0 : Nat) (l0 : List (List Int)) (r : Bool) (w : World) (hr0 : Kd.C (Kd.slice 5 (Kd.int .u8)) w A0 l0.length l0) (hc0 : l0.length ≤ c0) (h : twoslotlaw04_much.f k l0 = some r) :
    Calls Try.prog 12 #[.slice A0 l0.length c0] w fun e w' => e = .returned (.bool r) ∧ Drawn0 w w' := by
  have HR0 := Aside0.mk hr0
  have HC0 := Aside0.mk hc0
  clear hr0 hc0
  have H : (if (l0.length : Int) > 60 then (some true) else (twoslotlaw04_much.l0 k l0 0)) = some r := h
  clear h
  by_cases c2 : (l0.length : Int) > 60
  · rw [if_pos c2] at H
    have c2b0 : decide (60 < (l0.length : Int)) = true := decide_eq_true c2
    have c2b1 : decide (60 < l0.length) = true := decide_eq_true (by omega)
    clear c2
    obtain rfl := Option.some.inj H
    go_enter Try.func12, Try.ntmps12
    go_wp2
    go_ret
    exact ⟨by first | rfl | (simp; done) | (simp [*]; done), by repeat (first | exact Drawn0.refl _ | apply Drawn0.step)⟩
  · rw [if_neg c2] at H
    have c2b0 : decide (60 < (l0.length : Int)) = false := decide_eq_false c2
    have c2b1 : decide (60 < l0.length) = false := decide_eq_false (by omega)
    clear c2
    have H' := Aside0.mk H
    clear H
    go_enter Try.func12, Try.ntmps12
    go_wp2
    go_loopg [3] k (fun kq v3 w' => ∃ (x3_1 : Int), v3 = .int .i64 x3_1 ∧ Aside0 (twoslotlaw04_much.l0 kq l0 x3_1 = some r) ∧ Aside0 (kq ≤ k) ∧ Drawn0 w w')
    case atStart => exact ⟨(0), (by first | rfl | (simp; done) | (simp [*]; done)), H', ⟨Nat.le_refl _⟩, by repeat (first | exact Drawn0.refl _ | apply Drawn0.step)⟩
    case round =>
      clear H'
      try clear c1
      try clear c2
      try clear c2b0
      try clear c2b1
      try clear p2
      obtain ⟨x3_1, rfl, HA, HK1, ⟨m1, rfl⟩⟩ := hrel
      cases gk with
      | zero => exact absurd HA.out (by simp [twoslotlaw04_much.l0])
      | succ k1 =>
        have H := HA.out
        clear HA
        simp only [twoslotlaw04_much.l0] at H
        by_cases c3 : x3_1 < (l0.length : Int)
        · rw [if_pos c3] at H
          have c3b0 : decide (x3_1 < (l0.length : Int)) = true := decide_eq_true c3
          clear c3
          by_cases c4 : 0 ≤ x3_1
          · rw [if_pos c4] at H
            have c4b0 : decide (0 ≤ x3_1) = true := decide_eq_true c4
            clear c4
            by_cases c5 : ((rd_L1 l0 x3_1).length : Int) > 3000
            · rw [if_pos c5] at H
              have c5b0 : decide (3000 < ((rd_L1 l0 x3_1).length : Int)) = true := decide_eq_true c5
              have c5b1 : decide (3000 < (rd_L1 l0 x3_1).length) = true := decide_eq_true (by omega)
              clear c5
              by_cases c6 : ((rd_L1 l0 x3_1).length : Int) ≤ 65536
              · rw [if_pos c6] at H
                have c6b0 : decide (((rd_L1 l0 x3_1).length : Int) ≤ 65536) = true := decide_eq_true c6
                have c6b1 : decide ((rd_L1 l0 x3_1).length ≤ 65536) = true := decide_eq_true (by omega)
                clear c6
                obtain rfl := Option.some.inj H
                have p130 : 0 ≤ (x3_1 : Int) := of_decide_eq_true (by first | (with_reducible assumption) | assumption)
                have q130 : x3_1 < (l0.length : Int) := of_decide_eq_true (by first | (with_reducible assumption) | assumption)
                obtain ⟨ad130, A130_0, c130_0, e130, hx130_0, hl130_0, hi130_0⟩ := at_L1 HR0.out x3_1 p130 q130
                cases e130
                have HR130_0 := Aside0.mk hi130_0
                have HC130_0 := Aside0.mk hl130_0
                clear hi130_0 hl130_0
                replace p130 := eq_true p130
                replace q130 := eq_true q130
                have p131 : 0 ≤ (x3_1 : Int) := of_decide_eq_true (by first | (with_reducible assumption) | assumption)
                have q131 : x3_1 < (l0.length : Int) := of_decide_eq_true (by first | (with_reducible assumption) | assumption)
                obtain ⟨ad131, A131_0, c131_0, e131, hx131_0, hl131_0, hi131_0⟩ := at_L1 HR0.out x3_1 p131 q131
                obtain rfl : ad130 = ad131 := (by injection e131)
                have HR131_0 := Aside0.mk hi131_0
                have HC131_0 := Aside0.mk hl131_0
                clear hi131_0 hl131_0
                replace p131 := eq_true p131
                replace q131 := eq_true q131
                have ea_ := Option.some.inj (hx130_0.symm.trans hx131_0)
                injection ea_ with ea_ en_ ec_
                subst ea_
                subst ec_
                clear en_
                go_wp2
                go_ret
                exact ⟨by first | rfl | (simp; done) | (simp [*]; done), by repeat (first | exact Drawn0.refl _ | apply Drawn0.step)⟩
              · rw [if_neg c6] at H
                have c6b0 : decide (((rd_L1 l0 x3_1).length : Int) ≤ 65536) = false := decide_eq_false c6
                have c6b1 : decide ((rd_L1 l0 x3_1).length ≤ 65536) = false := decide_eq_false (by omega)
                clear c6
                by_cases c7 : ((rd_L1 l0 x3_1).length : Int) > 70000
                · rw [if_pos c7] at H
                  have c7b0 : decide (70000 < ((rd_L1 l0 x3_1).length : Int)) = true := decide_eq_true c7
                  have c7b1 : decide (70000 < (rd_L1 l0 x3_1).length) = true := decide_eq_true (by omega)
                  clear c7
                  obtain rfl := Option.some.inj H
                  have p130 : 0 ≤ (x3_1 : Int) := of_decide_eq_true (by first | (with_reducible assumption) | assumption)
                  have q130 : x3_1 < (l0.length : Int) := of_decide_eq_true (by first | (with_reducible assumption) | assumption)
                  obtain ⟨ad130, A130_0, c130_0, e130, hx130_0, hl130_0, hi130_0⟩ := at_L1 HR0.out x3_1 p130 q130
                  cases e130
                  have HR130_0 := Aside0.mk hi130_0
                  have HC130_0 := Aside0.mk hl130_0
                  clear hi130_0 hl130_0
                  replace p130 := eq_true p130
                  replace q130 := eq_true q130
                  have p131 : 0 ≤ (x3_1 : Int) := of_decide_eq_true (by first | (with_reducible assumption) | assumption)
                  have q131 : x3_1 < (l0.length : Int) := of_decide_eq_true (by first | (with_reducible assumption) | assumption)
                  obtain ⟨ad131, A131_0, c131_0, e131, hx131_0, hl131_0, hi131_0⟩ := at_L1 HR0.out x3_1 p131 q131
                  obtain rfl : ad130 = ad131 := (by injection e131)
                  have HR131_0 := Aside0.mk hi131_0
                  have HC131_0 := Aside0.mk hl131_0
                  clear hi131_0 hl131_0
                  replace p131 := eq_true p131
                  replace q131 := eq_true q131
                  have ea_ := Option.some.inj (hx130_0.symm.trans hx131_0)
                  injection ea_ with ea_ en_ ec_
                  subst ea_
                  subst ec_
                  clear en_
                  have p132 : 0 ≤ (x3_1 : Int) := of_decide_eq_true (by first | (with_reducible assumption) | assumption)
                  have q132 : x3_1 < (l0.length : Int) := of_decide_eq_true (by first | (with_reducible assumption) | assumption)
                  obtain ⟨ad132, A132_0, c132_0, e132, hx132_0, hl132_0, hi132_0⟩ := at_L1 HR0.out x3_1 p132 q132
                  obtain rfl : ad130 = ad132 := (by injection e132)
                  have HR132_0 := Aside0.mk hi132_0
                  have HC132_0 := Aside0.mk hl132_0
                  clear hi132_0 hl132_0
                  replace p132 := eq_true p132
                  replace q132 := eq_true q132
                  have ea_ := Option.some.inj (hx130_0.symm.trans hx132_0)
                  injection ea_ with ea_ en_ ec_
                  subst ea_
                  subst ec_
                  clear en_
                  go_wp2
                  go_ret
                  exact ⟨by first | rfl | (simp; done) | (simp [*]; done), by repeat (first | exact Drawn0.refl _ | apply Drawn0.step)⟩
                · rw [if_neg c7] at H
                  have c7b0 : decide (70000 < ((rd_L1 l0 x3_1).length : Int)) = false := decide_eq_false c7
                  have c7b1 : decide (70000 < (rd_L1 l0 x3_1).length) = false := decide_eq_false (by omega)
                  clear c7
                  have H' := Aside0.mk H
                  clear H
                  have p130 : 0 ≤ (x3_1 : Int) := of_decide_eq_true (by first | (with_reducible assumption) | assumption)
                  have q130 : x3_1 < (l0.length : Int) := of_decide_eq_true (by first | (with_reducible assumption) | assumption)
                  obtain ⟨ad130, A130_0, c130_0, e130, hx130_0, hl130_0, hi130_0⟩ := at_L1 HR0.out x3_1 p130 q130
                  cases e130
                  have HR130_0 := Aside0.mk hi130_0
                  have HC130_0 := Aside0.mk hl130_0
                  clear hi130_0 hl130_0
                  replace p130 := eq_true p130
                  replace q130 := eq_true q130
                  have p131 : 0 ≤ (x3_1 : Int) := of_decide_eq_true (by first | (with_reducible assumption) | assumption)
                  have q131 : x3_1 < (l0.length : Int) := of_decide_eq_true (by first | (with_reducible assumption) | assumption)
                  obtain ⟨ad131, A131_0, c131_0, e131, hx131_0, hl131_0, hi131_0⟩ := at_L1 HR0.out x3_1 p131 q131
                  obtain rfl : ad130 = ad131 := (by injection e131)
                  have HR131_0 := Aside0.mk hi131_0
                  have HC131_0 := Aside0.mk hl131_0
                  clear hi131_0 hl131_0
                  replace p131 := eq_true p131
                  replace q131 := eq_true q131
                  have ea_ := Option.some.inj (hx130_0.symm.trans hx131_0)
                  injection ea_ with ea_ en_ ec_
                  subst ea_
                  subst ec_
                  clear en_
                  have p132 : 0 ≤ (x3_1 : Int) := of_decide_eq_true (by first | (with_reducible assumption) | assumption)
                  have q132 : x3_1 < (l0.length : Int) := of_decide_eq_true (by first | (with_reducible assumption) | assumption)
                  obtain ⟨ad132, A132_0, c132_0, e132, hx132_0, hl132_0, hi132_0⟩ := at_L1 HR0.out x3_1 p132 q132
                  obtain rfl : ad130 = ad132 := (by injection e132)
                  have HR132_0 := Aside0.mk hi132_0
                  have HC132_0 := Aside0.mk hl132_0
                  clear hi132_0 hl132_0
                  replace p132 := eq_true p132
                  replace q132 := eq_true q132
                  have ea_ := Option.some.inj (hx130_0.symm.trans hx132_0)
                  injection ea_ with ea_ en_ ec_
                  subst ea_
                  subst ec_
                  clear en_
                  go_wp2
                  go_roundg k1
                  case measure => have := HK1.out; omega
                  case rel => exact ⟨(wrap64 (x3_1 + 1)), (by first | rfl | (simp; done) | (simp [*]; done)), H', ⟨by have := HK1.out; omega⟩, by repeat (first | exact Drawn0.refl _ | apply Drawn0.step)⟩
            · rw [if_neg c5] at H
              have c5b0 : decide (3000 < ((rd_L1 l0 x3_1).length : Int)) = false := decide_eq_false c5
              have c5b1 : decide (3000 < (rd_L1 l0 x3_1).length) = false := decide_eq_false (by omega)
              clear c5
              by_cases c8 : ((rd_L1 l0 x3_1).length : Int) > 70000
              · rw [if_pos c8] at H
                have c8b0 : decide (70000 < ((rd_L1 l0 x3_1).length : Int)) = true := decide_eq_true c8
                have c8b1 : decide (70000 < (rd_L1 l0 x3_1).length) = true := decide_eq_true (by omega)
                clear c8
                obtain rfl := Option.some.inj H
                have p130 : 0 ≤ (x3_1 : Int) := of_decide_eq_true (by first | (with_reducible assumption) | assumption)
                have q130 : x3_1 < (l0.length : Int) := of_decide_eq_true (by first | (with_reducible assumption) | assumption)
                obtain ⟨ad130, A130_0, c130_0, e130, hx130_0, hl130_0, hi130_0⟩ := at_L1 HR0.out x3_1 p130 q130
                cases e130
                have HR130_0 := Aside0.mk hi130_0
                have HC130_0 := Aside0.mk hl130_0
                clear hi130_0 hl130_0
                replace p130 := eq_true p130
                replace q130 := eq_true q130
                have p133 : 0 ≤ (x3_1 : Int) := of_decide_eq_true (by first | (with_reducible assumption) | assumption)
                have q133 : x3_1 < (l0.length : Int) := of_decide_eq_true (by first | (with_reducible assumption) | assumption)
                obtain ⟨ad133, A133_0, c133_0, e133, hx133_0, hl133_0, hi133_0⟩ := at_L1 HR0.out x3_1 p133 q133
                obtain rfl : ad130 = ad133 := (by injection e133)
                have HR133_0 := Aside0.mk hi133_0
                have HC133_0 := Aside0.mk hl133_0
                clear hi133_0 hl133_0
                replace p133 := eq_true p133
                replace q133 := eq_true q133
                have ea_ := Option.some.inj (hx130_0.symm.trans hx133_0)
                injection ea_ with ea_ en_ ec_
                subst ea_
                subst ec_
                clear en_
                go_wp2
                go_ret
                exact ⟨by first | rfl | (simp; done) | (simp [*]; done), by repeat (first | exact Drawn0.refl _ | apply Drawn0.step)⟩
              · rw [if_neg c8] at H
                have c8b0 : decide (70000 < ((rd_L1 l0 x3_1).length : Int)) = false := decide_eq_false c8
                have c8b1 : decide (70000 < (rd_L1 l0 x3_1).length) = false := decide_eq_false (by omega)
                clear c8
                have H' := Aside0.mk H
                clear H
                have p130 : 0 ≤ (x3_1 : Int) := of_decide_eq_true (by first | (with_reducible assumption) | assumption)
                have q130 : x3_1 < (l0.length : Int) := of_decide_eq_true (by first | (with_reducible assumption) | assumption)
                obtain ⟨ad130, A130_0, c130_0, e130, hx130_0, hl130_0, hi130_0⟩ := at_L1 HR0.out x3_1 p130 q130
                cases e130
                have HR130_0 := Aside0.mk hi130_0
                have HC130_0 := Aside0.mk hl130_0
                clear hi130_0 hl130_0
                replace p130 := eq_true p130
                replace q130 := eq_true q130
                have p133 : 0 ≤ (x3_1 : Int) := of_decide_eq_true (by first | (with_reducible assumption) | assumption)
                have q133 : x3_1 < (l0.length : Int) := of_decide_eq_true (by first | (with_reducible assumption) | assumption)
                obtain ⟨ad133, A133_0, c133_0, e133, hx133_0, hl133_0, hi133_0⟩ := at_L1 HR0.out x3_1 p133 q133
                obtain rfl : ad130 = ad133 := (by injection e133)
                have HR133_0 := Aside0.mk hi133_0
                have HC133_0 := Aside0.mk hl133_0
                clear hi133_0 hl133_0
                replace p133 := eq_true p133
                replace q133 := eq_true q133
                have ea_ := Option.some.inj (hx130_0.symm.trans hx133_0)
                injection ea_ with ea_ en_ ec_
                subst ea_
                subst ec_
                clear en_
                go_wp2
                go_roundg k1
                case measure => have := HK1.out; omega
                case rel => exact ⟨(wrap64 (x3_1 + 1)), (by first | rfl | (simp; done) | (simp [*]; done)), H', ⟨by have := HK1.out; omega⟩, by repeat (first | exact Drawn0.refl _ | apply Drawn0.step)⟩
          · rw [if_neg c4] at H
            exact absurd H (by simp)
        · rw [if_neg c3] at H
          have c3b0 : decide (x3_1 < (l0.length : Int)) = false := decide_eq_false c3
          clear c3
          obtain rfl := Option.some.inj H
          go_wp2
          go_ret
          exact ⟨by first | rfl | (simp; done) | (simp [*]; done), by repeat (first | exact Drawn0.refl _ | apply Drawn0.step)⟩

end Go.Proofs.Ythhncoogmncdkaa.PC
-- written by the session's own program (wip/prt.py) over the kit's print: not print.sh's own text
namespace Go.Proofs.Ythhncoogmncdkaa.PC
open Go.RowKit Go.Proofs.YthhncoogmncdkaaW.PrintWords Go.Proofs.YthhncoogmncdkaaW.PrintLast Go.Proofs.YthhncoogmncdkaaW.PrintMore
attribute [local go_sem] max2_int min2_int max_two min_two max_three min_three max_four min_four   -- for this text's walks alone
set_option linter.unusedVariables false
set_option linter.unusedSimpArgs false

/-! ### twoslotlaw04_alive: function 8 -/
def twoslotlaw04_alive.ok (k : Nat) : Prop := codec_Row.f 2 2 2 = some ([142, 244], 0) ∧ codec_Encode.f k 2 1 [[1], [0]] = some ([[142]], 0) ∧ codec_Decode.f k 2 1 [[], [7], [9]] = some ([[227], [7], [9]], 0) ∧ codec_Decode.f k 2 1 [[], [], [9]] = some ([], 5) ∧ codec_Encode.f k 2 1 [[1], []] = some ([], 40) ∧ codec_Verify.f k 2 1 [[227], [7], [9]] = some (true, 0)
instance twoslotlaw04_alive.okDec (k : Nat) : Decidable (twoslotlaw04_alive.ok k) := by unfold twoslotlaw04_alive.ok; infer_instance
def twoslotlaw04_alive.f (k : Nat) : Option Bool := if twoslotlaw04_alive.ok k then some true else none
theorem twoslotlaw04_alive.mono : ∀ k, LeO (twoslotlaw04_alive.f k) (twoslotlaw04_alive.f (k + 1)) := fun k r h => by
  unfold twoslotlaw04_alive.f at h ⊢
  by_cases e : twoslotlaw04_alive.ok k
  · rw [if_pos e] at h
    rw [if_pos ?_]; · exact h
    obtain ⟨h1, h2, h3, h4, h5, h6⟩ := e
    exact ⟨h1, codec_Encode.mono _ _ _ _ _ h2, codec_Decode.mono _ _ _ _ _ h3, codec_Decode.mono _ _ _ _ _ h4, codec_Encode.mono _ _ _ _ _ h5, codec_Verify.mono _ _ _ _ _ h6⟩
  · rw [if_neg e] at h; cases h
set_option maxHeartbeats 8000000 in
set_option maxRecDepth 100000 in
theorem twoslotlaw04_alive.calls (k : Nat) (r : Bool) (w : World) (h : twoslotlaw04_alive.f k = some r) : Calls Try.prog 8 #[] w fun e w' => e = .returned (.bool r) ∧ Below w.heap.size w w' := by
  unfold twoslotlaw04_alive.f at h
  by_cases e : twoslotlaw04_alive.ok k
  case neg => rw [if_neg e] at h; cases h
  rw [if_pos e] at h
  injection h with h
  subst h
  obtain ⟨h1, h2, h3, h4, h5, h6⟩ := e
  have H1 := Lib.hid h1
  have H2 := Lib.hid h2
  have H3 := Lib.hid h3
  have H4 := Lib.hid h4
  have H5 := Lib.hid h5
  have H6 := Lib.hid h6
  clear h1 h2 h3 h4 h5 h6
  have HB := Lib.hid (Below.refl w.heap.size w)
  go_enter Try.func8, Try.ntmps8
  go_wp2_with fail
  refine (codec_Row.calls 2 2 2 [142, 244] 0 _ H1.out).mono ?_
  rintro en w1 ⟨v1, rfl, ho, hb⟩
  have hbn := hb
  replace HB := Lib.hid (below_step HB.out hbn)
  obtain ⟨Ar, cr, rfl⟩ := Kd.R_slice ho
  have Fr := Lib.hid (Kd.R_reads' ho).2.2
  have Gr := Lib.hid (Kd.R_reads' ho).2.1
  clear ho
  clear hb hbn
  have bw2 := below_alloc (below_alloc (below_alloc (Below.refl w1.heap.size w1) (.cells #[.int .u8 1] 5)) (.cells #[.int .u8 0] 5)) (.cells #[.slice (some ⟨w1.heap.size, 0, none⟩) 1 1, .slice (some ⟨w1.heap.size + 1, 0, none⟩) 1 1] 23)
  have q2_0 : (((w1.alloc (.cells #[.int .u8 1] 5)).alloc (.cells #[.int .u8 0] 5)).alloc (.cells #[.slice (some ⟨w1.heap.size, 0, none⟩) 1 1, .slice (some ⟨w1.heap.size + 1, 0, none⟩) 1 1] 23)).heap[w1.heap.size]? = some (.cells #[.int .u8 1] 5) := blk_alloc (blk_alloc (heap_alloc_at _ _ (by first | rfl | simp)) _) _
  have hL2_0 : Kd.C (Kd.int .u8) (((w1.alloc (.cells #[.int .u8 1] 5)).alloc (.cells #[.int .u8 0] 5)).alloc (.cells #[.slice (some ⟨w1.heap.size, 0, none⟩) 1 1, .slice (some ⟨w1.heap.size + 1, 0, none⟩) 1 1] 23)) (some ⟨w1.heap.size, 0, none⟩) 1 [1] := lit_C (k := .u8) (xs := [1]) q2_0 (by simp [encs]) (by decide)
  have q2_1 : (((w1.alloc (.cells #[.int .u8 1] 5)).alloc (.cells #[.int .u8 0] 5)).alloc (.cells #[.slice (some ⟨w1.heap.size, 0, none⟩) 1 1, .slice (some ⟨w1.heap.size + 1, 0, none⟩) 1 1] 23)).heap[w1.heap.size + 1]? = some (.cells #[.int .u8 0] 5) := blk_alloc (heap_alloc_at _ _ (by first | rfl | simp)) _
  have hL2_1 : Kd.C (Kd.int .u8) (((w1.alloc (.cells #[.int .u8 1] 5)).alloc (.cells #[.int .u8 0] 5)).alloc (.cells #[.slice (some ⟨w1.heap.size, 0, none⟩) 1 1, .slice (some ⟨w1.heap.size + 1, 0, none⟩) 1 1] 23)) (some ⟨w1.heap.size + 1, 0, none⟩) 1 [0] := lit_C (k := .u8) (xs := [0]) q2_1 (by simp [encs]) (by decide)
  have q2_2 : (((w1.alloc (.cells #[.int .u8 1] 5)).alloc (.cells #[.int .u8 0] 5)).alloc (.cells #[.slice (some ⟨w1.heap.size, 0, none⟩) 1 1, .slice (some ⟨w1.heap.size + 1, 0, none⟩) 1 1] 23)).heap[w1.heap.size + 2]? = some (.cells #[.slice (some ⟨w1.heap.size, 0, none⟩) 1 1, .slice (some ⟨w1.heap.size + 1, 0, none⟩) 1 1] 23) := heap_alloc_at _ _ (by first | rfl | simp)
  have hL2_2 : Kd.C (Kd.slice 5 (Kd.int .u8)) (((w1.alloc (.cells #[.int .u8 1] 5)).alloc (.cells #[.int .u8 0] 5)).alloc (.cells #[.slice (some ⟨w1.heap.size, 0, none⟩) 1 1, .slice (some ⟨w1.heap.size + 1, 0, none⟩) 1 1] 23)) (some ⟨w1.heap.size + 2, 0, none⟩) 2 [[1], [0]] := lit_rows (ys := [[1], [0]]) q2_2 rfl ((RowsC.one (RowC.mk hL2_0 (Nat.le_refl _))).append (RowsC.one (RowC.mk hL2_1 (Nat.le_refl _)))) (by simp)
  have H_hL2_0 := Lib.hid hL2_0
  have H_hL2_1 := Lib.hid hL2_1
  have H_hL2_2 := Lib.hid hL2_2
  have H_bw2 := Lib.hid bw2
  clear q2_0 q2_1 q2_2 hL2_0 hL2_1 hL2_2 bw2
  go_wp2_with fail
  refine (codec_Encode.calls k 2 1 (some ⟨w1.heap.size + 2, 0, none⟩) 2 [[1], [0]] [[142]] 0 _ H_hL2_2.out (Nat.le_refl _) H2.out).mono ?_
  rintro en w3 ⟨v1, rfl, ho, hb⟩
  have hbn := (below_step H_bw2.out hb)
  replace Fr := Lib.hid (Kd.C_below Fr.out hbn)
  replace HB := Lib.hid (below_step HB.out hbn)
  obtain ⟨Ap, cp, rfl⟩ := Kd.S_slice ho
  have Fp := Lib.hid (Kd.S_reads' ho).2.2
  have Gp := Lib.hid (Kd.S_reads' ho).2.1
  clear ho
  clear hb hbn
  clear H_hL2_0 H_hL2_1 H_hL2_2
  clear H_bw2
  have bw4 := below_alloc (below_alloc (below_alloc (Below.refl w3.heap.size w3) (.cells #[.int .u8 7] 5)) (.cells #[.int .u8 9] 5)) (.cells #[.slice none 0 0, .slice (some ⟨w3.heap.size, 0, none⟩) 1 1, .slice (some ⟨w3.heap.size + 1, 0, none⟩) 1 1] 23)
  have q4_0 : (((w3.alloc (.cells #[.int .u8 7] 5)).alloc (.cells #[.int .u8 9] 5)).alloc (.cells #[.slice none 0 0, .slice (some ⟨w3.heap.size, 0, none⟩) 1 1, .slice (some ⟨w3.heap.size + 1, 0, none⟩) 1 1] 23)).heap[w3.heap.size]? = some (.cells #[.int .u8 7] 5) := blk_alloc (blk_alloc (heap_alloc_at _ _ (by first | rfl | simp)) _) _
  have hL4_0 : Kd.C (Kd.int .u8) (((w3.alloc (.cells #[.int .u8 7] 5)).alloc (.cells #[.int .u8 9] 5)).alloc (.cells #[.slice none 0 0, .slice (some ⟨w3.heap.size, 0, none⟩) 1 1, .slice (some ⟨w3.heap.size + 1, 0, none⟩) 1 1] 23)) (some ⟨w3.heap.size, 0, none⟩) 1 [7] := lit_C (k := .u8) (xs := [7]) q4_0 (by simp [encs]) (by decide)
  have q4_1 : (((w3.alloc (.cells #[.int .u8 7] 5)).alloc (.cells #[.int .u8 9] 5)).alloc (.cells #[.slice none 0 0, .slice (some ⟨w3.heap.size, 0, none⟩) 1 1, .slice (some ⟨w3.heap.size + 1, 0, none⟩) 1 1] 23)).heap[w3.heap.size + 1]? = some (.cells #[.int .u8 9] 5) := blk_alloc (heap_alloc_at _ _ (by first | rfl | simp)) _
  have hL4_1 : Kd.C (Kd.int .u8) (((w3.alloc (.cells #[.int .u8 7] 5)).alloc (.cells #[.int .u8 9] 5)).alloc (.cells #[.slice none 0 0, .slice (some ⟨w3.heap.size, 0, none⟩) 1 1, .slice (some ⟨w3.heap.size + 1, 0, none⟩) 1 1] 23)) (some ⟨w3.heap.size + 1, 0, none⟩) 1 [9] := lit_C (k := .u8) (xs := [9]) q4_1 (by simp [encs]) (by decide)
  have q4_2 : (((w3.alloc (.cells #[.int .u8 7] 5)).alloc (.cells #[.int .u8 9] 5)).alloc (.cells #[.slice none 0 0, .slice (some ⟨w3.heap.size, 0, none⟩) 1 1, .slice (some ⟨w3.heap.size + 1, 0, none⟩) 1 1] 23)).heap[w3.heap.size + 2]? = some (.cells #[.slice none 0 0, .slice (some ⟨w3.heap.size, 0, none⟩) 1 1, .slice (some ⟨w3.heap.size + 1, 0, none⟩) 1 1] 23) := heap_alloc_at _ _ (by first | rfl | simp)
  have hL4_2 : Kd.C (Kd.slice 5 (Kd.int .u8)) (((w3.alloc (.cells #[.int .u8 7] 5)).alloc (.cells #[.int .u8 9] 5)).alloc (.cells #[.slice none 0 0, .slice (some ⟨w3.heap.size, 0, none⟩) 1 1, .slice (some ⟨w3.heap.size + 1, 0, none⟩) 1 1] 23)) (some ⟨w3.heap.size + 2, 0, none⟩) 3 [[], [7], [9]] := lit_rows (ys := [[], [7], [9]]) q4_2 rfl (((RowsC.one (RowC.mk (Kd.C_below (Kd.C_nil _ _) bw4) (Nat.le_refl _))).append (RowsC.one (RowC.mk hL4_0 (Nat.le_refl _)))).append (RowsC.one (RowC.mk hL4_1 (Nat.le_refl _)))) (by simp)
  have H_hL4_0 := Lib.hid hL4_0
  have H_hL4_1 := Lib.hid hL4_1
  have H_hL4_2 := Lib.hid hL4_2
  have H_bw4 := Lib.hid bw4
  clear q4_0 q4_1 q4_2 hL4_0 hL4_1 hL4_2 bw4
  go_wp2_with fail
  refine (codec_Decode.calls k 2 1 (some ⟨w3.heap.size + 2, 0, none⟩) 3 [[], [7], [9]] [[227], [7], [9]] 0 _ H_hL4_2.out (Nat.le_refl _) H3.out).mono ?_
  rintro en w5 ⟨v1, rfl, ho, hb⟩
  have hbn := (below_step H_bw4.out hb)
  replace Fr := Lib.hid (Kd.C_below Fr.out hbn)
  replace Fp := Lib.hid (Kd.C_below Fp.out hbn)
  replace HB := Lib.hid (below_step HB.out hbn)
  obtain ⟨Ad, cd, rfl⟩ := Kd.S_slice ho
  have Fd := Lib.hid (Kd.S_reads' ho).2.2
  have Gd := Lib.hid (Kd.S_reads' ho).2.1
  clear ho
  clear hb hbn
  clear H_hL4_0 H_hL4_1 H_hL4_2
  clear H_bw4
  have bw6 := below_alloc (below_alloc (Below.refl w5.heap.size w5) (.cells #[.int .u8 9] 5)) (.cells #[.slice none 0 0, .slice none 0 0, .slice (some ⟨w5.heap.size, 0, none⟩) 1 1] 23)
  have q6_0 : ((w5.alloc (.cells #[.int .u8 9] 5)).alloc (.cells #[.slice none 0 0, .slice none 0 0, .slice (some ⟨w5.heap.size, 0, none⟩) 1 1] 23)).heap[w5.heap.size]? = some (.cells #[.int .u8 9] 5) := blk_alloc (heap_alloc_at _ _ (by first | rfl | simp)) _
  have hL6_0 : Kd.C (Kd.int .u8) ((w5.alloc (.cells #[.int .u8 9] 5)).alloc (.cells #[.slice none 0 0, .slice none 0 0, .slice (some ⟨w5.heap.size, 0, none⟩) 1 1] 23)) (some ⟨w5.heap.size, 0, none⟩) 1 [9] := lit_C (k := .u8) (xs := [9]) q6_0 (by simp [encs]) (by decide)
  have q6_1 : ((w5.alloc (.cells #[.int .u8 9] 5)).alloc (.cells #[.slice none 0 0, .slice none 0 0, .slice (some ⟨w5.heap.size, 0, none⟩) 1 1] 23)).heap[w5.heap.size + 1]? = some (.cells #[.slice none 0 0, .slice none 0 0, .slice (some ⟨w5.heap.size, 0, none⟩) 1 1] 23) := heap_alloc_at _ _ (by first | rfl | simp)
  have hL6_1 : Kd.C (Kd.slice 5 (Kd.int .u8)) ((w5.alloc (.cells #[.int .u8 9] 5)).alloc (.cells #[.slice none 0 0, .slice none 0 0, .slice (some ⟨w5.heap.size, 0, none⟩) 1 1] 23)) (some ⟨w5.heap.size + 1, 0, none⟩) 3 [[], [], [9]] := lit_rows (ys := [[], [], [9]]) q6_1 rfl (((RowsC.one (RowC.mk (Kd.C_below (Kd.C_nil _ _) bw6) (Nat.le_refl _))).append (RowsC.one (RowC.mk (Kd.C_below (Kd.C_nil _ _) bw6) (Nat.le_refl _)))).append (RowsC.one (RowC.mk hL6_0 (Nat.le_refl _)))) (by simp)
  have H_hL6_0 := Lib.hid hL6_0
  have H_hL6_1 := Lib.hid hL6_1
  have H_bw6 := Lib.hid bw6
  clear q6_0 q6_1 hL6_0 hL6_1 bw6
  go_wp2_with fail
  refine (codec_Decode.calls k 2 1 (some ⟨w5.heap.size + 1, 0, none⟩) 3 [[], [], [9]] [] 5 _ H_hL6_1.out (Nat.le_refl _) H4.out).mono ?_
  rintro en w7 ⟨v1, rfl, -, hb⟩
  have hbn := (below_step H_bw6.out hb)
  replace Fr := Lib.hid (Kd.C_below Fr.out hbn)
  replace Fp := Lib.hid (Kd.C_below Fp.out hbn)
  replace Fd := Lib.hid (Kd.C_below Fd.out hbn)
  replace HB := Lib.hid (below_step HB.out hbn)
  clear hb hbn
  clear H_hL6_0 H_hL6_1
  clear H_bw6
  have bw8 := below_alloc (below_alloc (Below.refl w7.heap.size w7) (.cells #[.int .u8 1] 5)) (.cells #[.slice (some ⟨w7.heap.size, 0, none⟩) 1 1, .slice none 0 0] 23)
  have q8_0 : ((w7.alloc (.cells #[.int .u8 1] 5)).alloc (.cells #[.slice (some ⟨w7.heap.size, 0, none⟩) 1 1, .slice none 0 0] 23)).heap[w7.heap.size]? = some (.cells #[.int .u8 1] 5) := blk_alloc (heap_alloc_at _ _ (by first | rfl | simp)) _
  have hL8_0 : Kd.C (Kd.int .u8) ((w7.alloc (.cells #[.int .u8 1] 5)).alloc (.cells #[.slice (some ⟨w7.heap.size, 0, none⟩) 1 1, .slice none 0 0] 23)) (some ⟨w7.heap.size, 0, none⟩) 1 [1] := lit_C (k := .u8) (xs := [1]) q8_0 (by simp [encs]) (by decide)
  have q8_1 : ((w7.alloc (.cells #[.int .u8 1] 5)).alloc (.cells #[.slice (some ⟨w7.heap.size, 0, none⟩) 1 1, .slice none 0 0] 23)).heap[w7.heap.size + 1]? = some (.cells #[.slice (some ⟨w7.heap.size, 0, none⟩) 1 1, .slice none 0 0] 23) := heap_alloc_at _ _ (by first | rfl | simp)
  have hL8_1 : Kd.C (Kd.slice 5 (Kd.int .u8)) ((w7.alloc (.cells #[.int .u8 1] 5)).alloc (.cells #[.slice (some ⟨w7.heap.size, 0, none⟩) 1 1, .slice none 0 0] 23)) (some ⟨w7.heap.size + 1, 0, none⟩) 2 [[1], []] := lit_rows (ys := [[1], []]) q8_1 rfl ((RowsC.one (RowC.mk hL8_0 (Nat.le_refl _))).append (RowsC.one (RowC.mk (Kd.C_below (Kd.C_nil _ _) bw8) (Nat.le_refl _)))) (by simp)
  have H_hL8_0 := Lib.hid hL8_0
  have H_hL8_1 := Lib.hid hL8_1
  have H_bw8 := Lib.hid bw8
  clear q8_0 q8_1 hL8_0 hL8_1 bw8
  go_wp2_with fail
  refine (codec_Encode.calls k 2 1 (some ⟨w7.heap.size + 1, 0, none⟩) 2 [[1], []] [] 40 _ H_hL8_1.out (Nat.le_refl _) H5.out).mono ?_
  rintro en w9 ⟨v1, rfl, -, hb⟩
  have hbn := (below_step H_bw8.out hb)
  replace Fr := Lib.hid (Kd.C_below Fr.out hbn)
  replace Fp := Lib.hid (Kd.C_below Fp.out hbn)
  replace Fd := Lib.hid (Kd.C_below Fd.out hbn)
  replace HB := Lib.hid (below_step HB.out hbn)
  clear hb hbn
  clear H_hL8_0 H_hL8_1
  clear H_bw8
  obtain ⟨adp0, Bp0, ep0, rp0, hxp0, -, -⟩ := at_L1 Fp.out 0 (by decide) (by decide)
  have hup0 : (adp0.add (0 : Int).toNat) = adp0 := by cases adp0; simp [Addr.add]
  rw [hup0] at hxp0
  subst rp0
  have hxp0' : w9.cell? adp0 = some (.slice Bp0 1 ep0) := hxp0
  clear hxp0 hup0
  obtain ⟨add0, Bd0, ed0, rd0, hxd0, -, -⟩ := at_L1 Fd.out 0 (by decide) (by decide)
  have hud0 : (add0.add (0 : Int).toNat) = add0 := by cases add0; simp [Addr.add]
  rw [hud0] at hxd0
  subst rd0
  have hxd0' : w9.cell? add0 = some (.slice Bd0 1 ed0) := hxd0
  clear hxd0 hud0
  go_wp2_with fail
  refine (codec_Verify.calls k 2 1 (some add0) cd [[227], [7], [9]] true 0 _ Fd.out Gd.out H6.out).mono ?_
  rintro en w10 ⟨rfl, hb⟩
  have hbn := hb
  replace Fr := Lib.hid (Kd.C_below Fr.out hbn)
  replace Fp := Lib.hid (Kd.C_below Fp.out hbn)
  replace Fd := Lib.hid (Kd.C_below Fd.out hbn)
  replace HB := Lib.hid (below_step HB.out hbn)
  clear hb hbn
  clear hxp0' hxd0'
  obtain ⟨adp0z, Bp0z, ep0z, rp0z, hxp0z, -, hrp0z⟩ := at_L1 Fp.out 0 (by decide) (by decide)
  injection rp0z with rp0z
  subst rp0z
  have hup0z : (adp0.add (0 : Int).toNat) = adp0 := by cases adp0; simp [Addr.add]
  rw [hup0z] at hxp0z
  clear hup0z
  obtain ⟨bdp0z, sp0z, hyp0z⟩ := Kd.at_int hrp0z 0 (by decide) (by decide)
  subst sp0z
  have hzp0z : (bdp0z.add (0 : Int).toNat) = bdp0z := by cases bdp0z; simp [Addr.add]
  rw [hzp0z] at hyp0z
  have hxp0z' : w10.cell? adp0 = some (.slice (some bdp0z) 1 ep0z) := hxp0z
  have hyp0z' : w10.cell? bdp0z = some (.int .u8 142) := hyp0z
  clear hrp0z hzp0z hxp0z hyp0z
  obtain ⟨add0z, Bd0z, ed0z, rd0z, hxd0z, -, hrd0z⟩ := at_L1 Fd.out 0 (by decide) (by decide)
  injection rd0z with rd0z
  subst rd0z
  have hud0z : (add0.add (0 : Int).toNat) = add0 := by cases add0; simp [Addr.add]
  rw [hud0z] at hxd0z
  clear hud0z
  obtain ⟨bdd0z, sd0z, hyd0z⟩ := Kd.at_int hrd0z 0 (by decide) (by decide)
  subst sd0z
  have hzd0z : (bdd0z.add (0 : Int).toNat) = bdd0z := by cases bdd0z; simp [Addr.add]
  rw [hzd0z] at hyd0z
  have hxd0z' : w10.cell? add0 = some (.slice (some bdd0z) 1 ed0z) := hxd0z
  have hyd0z' : w10.cell? bdd0z = some (.int .u8 227) := hyd0z
  clear hrd0z hzd0z hxd0z hyd0z
  obtain ⟨add1z, Bd1z, ed1z, rd1z, hxd1z, -, hrd1z⟩ := at_L1 Fd.out 1 (by decide) (by decide)
  injection rd1z with rd1z
  subst rd1z
  obtain ⟨bdd1z, sd1z, hyd1z⟩ := Kd.at_int hrd1z 0 (by decide) (by decide)
  subst sd1z
  have hzd1z : (bdd1z.add (0 : Int).toNat) = bdd1z := by cases bdd1z; simp [Addr.add]
  rw [hzd1z] at hyd1z
  have hxd1z' : w10.cell? ⟨add0.block, add0.off + 1, none⟩ = some (.slice (some bdd1z) 1 ed1z) := hxd1z
  have hyd1z' : w10.cell? bdd1z = some (.int .u8 7) := hyd1z
  clear hrd1z hzd1z hxd1z hyd1z
  obtain ⟨adr, sr, hr0⟩ := Kd.at_int Fr.out 0 (by decide) (by decide)
  subst sr
  obtain ⟨adr', sr, hr1⟩ := Kd.at_int Fr.out 1 (by decide) (by decide)
  injection sr with sr
  subst sr
  have hur : (adr.add (0 : Int).toNat) = adr := by cases adr; simp [Addr.add]
  rw [hur] at hr0
  have hr0' : w10.cell? adr = some (.int .u8 142) := hr0
  have hr1' : w10.cell? ⟨adr.block, adr.off + 1, none⟩ = some (.int .u8 244) := hr1
  clear hr0 hr1 hur
  go_wp2_with fail
  go_ret
  exact ⟨by first | rfl | simp, HB.out⟩

end Go.Proofs.Ythhncoogmncdkaa.PC
-- written by the session's own program (wip/prt.py) over the kit's print: not print.sh's own text
namespace Go.Proofs.Ythhncoogmncdkaa.PC
open Go.RowKit Go.Proofs.YthhncoogmncdkaaW.PrintWords Go.Proofs.YthhncoogmncdkaaW.PrintLast Go.Proofs.YthhncoogmncdkaaW.PrintMore
attribute [local go_sem] max2_int min2_int max_two min_two max_three min_three max_four min_four   -- for this text's walks alone
set_option linter.unusedVariables false
set_option linter.unusedSimpArgs false

/-! ### twoslotlaw04_spoil: function 20 -/
theorem twoslotlaw04_spoil.info : (Try.prog.info? 5).map (fun i => (i.zero, i.size, i.bytes)) = some (some (.int .u8 0), 1, 1) := by kernel_rfl
def twoslotlaw04_spoil.ok (M : List (List Int)) : Prop := M = [] ∨ (M.length ≤ 100 ∧ 0 < M.length ∧ 0 < (rw_ M 0).length ∧ (rw_ M 0).length ≤ 70000 ∧ ∀ r ∈ M, r.length = (rw_ M 0).length)
instance twoslotlaw04_spoil.dec1 (M : List (List Int)) : Decidable (twoslotlaw04_spoil.ok M) := by unfold twoslotlaw04_spoil.ok; infer_instance
def twoslotlaw04_spoil.f (M : List (List Int)) : Option Unit := if twoslotlaw04_spoil.ok M then some () else none
set_option maxHeartbeats 16000000 in
set_option maxRecDepth 100000 in
theorem twoslotlaw04_spoil.mat (Q : Nat → Prop) (base g cap m : Nat) (b c : Nat → Nat) (l0 : List (List Int)) (w0 w : World) (hB : Below w0.heap.size w0 w) (hb0 : w0.heap.size ≤ base) (hM : Mat w (fun k => base ≤ k ∧ Q k) g cap b c l0 m) (o1 : l0.length ≤ 100) (o3 : 0 < m) (o4 : m ≤ 70000) :
    Calls Try.prog 20 #[.slice (some ⟨g, 0, none⟩) l0.length cap] w fun e w' => e = .returned (.tuple #[]) ∧ Kept w w' (fun k => base ≤ k ∧ Q k) ∧ Below w0.heap.size w0 w' := by
  have HB := Lib.hid hB
  have HS := Lib.hid (Sp.start hM)
  have O1 := Lib.hid o1
  have O4 := Lib.hid o4
  have HBASE := Lib.hid (fun q (hq : q < l0.length) => Nat.le_trans hb0 (hM.own hq).1)
  have HQ := Lib.hid (fun q (hq : q < l0.length) => hM.own hq)
  clear hB hM o1 o4
  generalize l0.length = n at *
  go_enter Try.func20, Try.ntmps20
  go_wp2_with fail
  go_loopg [2] n (fun gk s2 wx => ∃ i : Nat, i + gk = n ∧ s2 = .int .i64 i ∧ Aside0 (Sp w wx (fun k => base ≤ k ∧ Q k) g cap n m i b c) ∧ Aside0 (Below w0.heap.size w0 wx))
  case atStart => exact ⟨0, by omega, rfl, ⟨HS.out⟩, ⟨HB.out⟩⟩
  case round =>
    clear HS HB
    obtain ⟨i, hig, rfl, HS, HB⟩ := hrel
    have hle : (i : Int) ≤ (n : Int) := by omega
    cases gk with
    | zero =>
      obtain rfl : i = n := by omega
      go_wp2_with fail
      first | go_end0 | ((try simp only [Exit.inBlock, Exit.then]); refine bodyPost_ret (results_none rfl _ _ _) rfl ?_)
      exact ⟨rfl, HS.out.2.2.2.2.2, HB.out⟩
    | succ d =>
      have hi1 : (i : Int) < (n : Int) := by omega
      go_wp2_with fail
      go_loopg [3] m (fun gk s3 wx => ∃ j : Nat, j + gk = m ∧ s3 = .int .i64 j ∧ Aside0 (Sp w wx (fun k => base ≤ k ∧ Q k) g cap n m i b c) ∧ Aside0 (Below w0.heap.size w0 wx))
      case atStart => exact ⟨0, by omega, rfl, ⟨HS.out⟩, ⟨HB.out⟩⟩
      case round =>
        clear HS HB
        obtain ⟨j, hjg, rfl, HS, HB⟩ := hrel
        have hlj : (j : Int) ≤ (m : Int) := by omega
        have hx1 := HS.out.out (q := i) (by omega)
        cases gk with
        | zero =>
          obtain rfl : j = m := by omega
          obtain ⟨r, hr1, hr2⟩ := HS.out.2.2.2.2.1 i (Nat.le_refl _) (by omega)
          have hown := hr2.R (HBASE.out i (by omega))
          rw [hr1] at hown
          have HO := Lib.hid hown
          have HR1 := Lib.hid hr1
          have HL8 := Lib.hid (lit8 (xs := [1, 2, 3, 4, 5, 6, 7, 8]) (blk_new wr (.cells #[.int .u8 1, .int .u8 2, .int .u8 3, .int .u8 4, .int .u8 5, .int .u8 6, .int .u8 7, .int .u8 8] 5)) rfl (by decide))
          clear hown hr1 hr2
          go_upto_region 8 with ((with_reducible refine gate_builtin (b := .append) (xs := #[.tmp 37, .tmp 38]) rfl ?_); at_builtin; refine Kd.R_append_rows (Kd.int .u8) (w0 := w0) w0.heap.size rfl (.tmp 37) (.tmp 38) 23 5 (.int .u8 0) 1 rfl Try.underlying23 twoslotlaw04_spoil.info rfl (by decide) (by omega) (.slice (some ⟨b i, 0, none⟩) j (c i)) r [1, 2, 3, 4, 5, 6, 7, 8] _ _ _ (fun _ => True) (fun _ => False) rfl rfl (Kd.R_below (Kd.R_mono HO.out (fun _ _ => trivial)) (below_alloc (Below.refl _ _) _)) ?aR (fun _ _ h => h) (fun _ h => h.elim) (fun _ _ => trivial) ?aB ?aS ?aL ?_; (case aR => exact HL8.out); (case aB => exact below_alloc HB.out _); (case aS => exact (below_alloc HB.out _).size); (case aL => have := HR1.out; have := O4.out; simp; omega); intro v1 w1 ho hb hg hat; have HO2 := Lib.hid ho; have HB2 := Lib.hid hb; have HG2 := Lib.hid hg; have HAT := Lib.hid hat; clear ho hb hg hat)
          obtain ⟨g1, cap1, rfl, hg1, hg2, -⟩ := Kd.R_form HO2.out (by simp)
          have hg3 : g1 = b i ∨ wr.heap.size < g1 := by
            rcases HAT.out with h | ⟨b', h, h'⟩
            · left; simpa [Value.ownBlock] using h
            · right
              have e : g1 = b' := by simpa [Value.ownBlock] using h
              rw [e]
              have : (wr.alloc (.cells #[.int .u8 1, .int .u8 2, .int .u8 3, .int .u8 4, .int .u8 5, .int .u8 6, .int .u8 7, .int .u8 8] 5)).heap.size = wr.heap.size + 1 := by simp
              omega
          obtain ⟨hv, hvl⟩ := RowV.of_R HO2.out
          obtain ⟨X, hX⟩ : ∃ X, w1.cell? ⟨g1, 0, none⟩ = some X := ⟨_, hv.cell (by simp [encs])⟩
          have hXf := hv.frozen 0
          have hp8 : (0 : Int) < ((r ++ [1, 2, 3, 4, 5, 6, 7, 8]).length : Int) := by simp; omega
          have HS2 := Lib.hid (HS.out.step (wy := w1.setCell ⟨g1, 0, none⟩ (.int .u8 9)) (by omega) (by have := HG2.out.size; simp at this ⊢; omega) (fun k hk hne => by
            rw [Below.heap_setCell _ ⟨g1, 0, none⟩ _ k (fun z => by have z' : k = g1 := z; rcases hg3 with h | h <;> omega), HG2.out.block k (by simp; omega) (by simpa [Value.ownBlock] using hne)]
            exact Below.heap_alloc _ _ k hk))
          have HB3 := Lib.hid (below_set (g := g1) (j := 0) (v := .int .u8 9) HB2.out hg1)
          clear hx1 hv hvl hg3 HO HL8 HS HB HO2 HB2 HG2 HAT
          go_wp2_with fail
          go_roundg d
          case measure => omega
          case rel => exact ⟨i + 1, by omega, by have := O1.out; rw [show wrap64 ((i : Int) + 1) = ((i + 1 : Nat) : Int) by unfold wrap64; omega], ⟨HS2.out⟩, ⟨HB3.out⟩⟩
        | succ d2 =>
          have hj1 : (j : Int) < (m : Int) := by omega
          obtain ⟨r, hr1, hr2⟩ := HS.out.2.2.2.2.1 i (Nat.le_refl _) (by omega)
          have hx2 : wr.cell? ⟨b i, j, none⟩ = some (.int .u8 (rd r (j : Int))) := by
            rw [hr2.cell (i := j) (by simp [encs]; omega)]
            simp [encs, rd, show j < r.length by omega]
          have hxf := hr2.frozen j
          clear hr1 hr2
          go_wp2_with fail
          go_still_tail 14, (by kernel_rfl)
          change wpList _ _ _ _ _ wr.drew
          have HS2 := Lib.hid ((HS.out.below (below_drew (Below.refl _ _))).store (i := i) (by omega) (j := j) (by omega) (Go.bits .xor .u8 (rd r (j : Int)) 85))
          have HB3 := Lib.hid (below_set (g := b i) (j := j) (v := .int .u8 (Go.bits .xor .u8 (rd r (j : Int)) 85)) (below_drew HB.out) (HBASE.out i (by omega)))
          replace hx2 : wr.drew.cell? ⟨b i, j, none⟩ = some (.int .u8 (rd r (j : Int))) := hx2
          replace hxf : wr.drew.frozen? ⟨b i, j, none⟩ = false := hxf
          clear hx1 HS HB
          go_wp2_with fail
          go_roundg d2
          case measure => omega
          case rel => exact ⟨j + 1, by omega, by have := O4.out; rw [show wrap64 ((j : Int) + 1) = ((j + 1 : Nat) : Int) by unfold wrap64; omega], ⟨HS2.out⟩, ⟨HB3.out⟩⟩
theorem twoslotlaw04_spoil.real (Q : Nat → Prop) (base : Nat) (v : Value) (l0 : List (List Int)) (w0 w : World) (hB : Below w0.heap.size w0 w) (hb0 : w0.heap.size ≤ base) (hS : Kd.S (Kd.slice 5 (Kd.int .u8)) 23 w base Q v l0) (h : twoslotlaw04_spoil.f l0 = some ()) :
    Calls Try.prog 20 #[v] w fun e w' => e = .returned (.tuple #[]) ∧ Kept w w' (fun k => base ≤ k ∧ Q k) ∧ Below w0.heap.size w0 w' := by
  unfold twoslotlaw04_spoil.f at h
  by_cases hok : twoslotlaw04_spoil.ok l0
  case neg => rw [if_neg hok] at h; cases h
  clear h
  have HB := Lib.hid hB
  rcases hok with rfl | ⟨o1, o2, o3, o4, o5⟩
  · obtain ⟨A, c, rfl, -, -⟩ := Kd.S_reads hS
    clear hB hS
    go_enter Try.func20, Try.ntmps20
    go_wp2_with fail
    go_loopg [2] 0 (fun gk s2 wx => s2 = .int .i64 0 ∧ wx = w)
    case atStart => exact ⟨rfl, rfl⟩
    case round =>
      obtain ⟨rfl, rfl⟩ := hrel
      go_wp2_with fail
      first | go_end0 | ((try simp only [Exit.inBlock, Exit.then]); refine bodyPost_ret (results_none rfl _ _ _) rfl ?_)
      exact ⟨rfl, Kept.refl _ _, HB.out⟩
  obtain ⟨g, cap, b, c, rfl, hcap, hM⟩ := Mat.of_SQ hS o5 o2 o3
  exact twoslotlaw04_spoil.mat Q base g cap _ b c l0 w0 w hB hb0 hM o1 o3 o4
set_option maxHeartbeats 16000000 in
set_option maxRecDepth 100000 in
theorem twoslotlaw04_spoil.nil (Q : Nat → Prop) (g : Nat) (v : Value) (ok : Nat → Prop) (base : Nat) (w0 w : World) (hB : Below w0.heap.size w0 w) (hb0 : w0.heap.size ≤ base) (hR : Kd.R (Kd.int .u8) 5 w base ok v []) (hg : w.heap[g]? = some (.cells #[v] 23 (0, 0))) (hgb : base ≤ g) (hQ : ∀ k, v.ownBlock = some k → Q k) :
    Calls Try.prog 20 #[.slice (some ⟨g, 0, none⟩) 1 1] w fun e w' => e = .returned (.tuple #[]) ∧ Kept w w' (fun k => base ≤ k ∧ Q k) ∧ Below w0.heap.size w0 w' := by
  obtain ⟨A, c, rfl⟩ := Kd.R_slice hR
  have hbs : base ≤ w.heap.size := Nat.le_trans hgb (Nat.le_of_lt (blk_lt hg))
  have hR2 := Kd.R_mono (ok' := fun k => (base ≤ k ∧ Q k) ∨ w.heap.size ≤ k) (Kd.R_tight rfl hR) (fun k hk => .inl ⟨Kd.R_base hR k hk.symm, hQ k hk.symm⟩)
  have HB := Lib.hid hB
  have HR := Lib.hid (Kd.R_lower hR2 hb0)
  have HBS := Lib.hid hbs
  have HB0 := Lib.hid hb0
  have hx : w.cell? ⟨g, 0, none⟩ = some (.slice A 0 c) := blk_cell hg 0
  clear hB hR hg hgb hb0 hR2 hbs hQ
  go_enter Try.func20, Try.ntmps20
  go_wp2_with fail
  go_loopg [2] 1 (fun gk s2 wx => (gk = 1 ∧ s2 = .int .i64 0 ∧ wx = w) ∨ (gk = 0 ∧ s2 = .int .i64 1 ∧ Aside0 (Kept w wx (fun k => base ≤ k ∧ Q k)) ∧ Aside0 (Below w0.heap.size w0 wx)))
  case atStart => exact .inl ⟨rfl, rfl, rfl⟩
  case round =>
    rcases hrel with ⟨rfl, rfl, rfl⟩ | ⟨rfl, rfl, HK, HB2⟩
    case inr =>
      go_wp2_with fail
      first | go_end0 | ((try simp only [Exit.inBlock, Exit.then]); refine bodyPost_ret (results_none rfl _ _ _) rfl ?_)
      exact ⟨rfl, HK.out, HB2.out⟩
    go_wp2_with fail
    go_loopg [3] 0 (fun gk s3 wx => s3 = .int .i64 0 ∧ wr = wx)
    case atStart => exact ⟨rfl, rfl⟩
    case round =>
      obtain ⟨rfl, rfl⟩ := hrel
      have HL8 := Lib.hid (lit8 (xs := [1, 2, 3, 4, 5, 6, 7, 8]) (blk_new wr (.cells #[.int .u8 1, .int .u8 2, .int .u8 3, .int .u8 4, .int .u8 5, .int .u8 6, .int .u8 7, .int .u8 8] 5)) rfl (by decide))
      go_upto_region 8 with ((with_reducible refine gate_builtin (b := .append) (xs := #[.tmp 37, .tmp 38]) rfl ?_); at_builtin; refine Kd.R_append_rows (Kd.int .u8) (w0 := w0) w0.heap.size rfl (.tmp 37) (.tmp 38) 23 5 (.int .u8 0) 1 rfl Try.underlying23 twoslotlaw04_spoil.info rfl (by decide) (by omega) (.slice A 0 c) [] [1, 2, 3, 4, 5, 6, 7, 8] _ _ _ (fun k => (base ≤ k ∧ Q k) ∨ wr.heap.size ≤ k) (fun _ => False) rfl rfl (Kd.R_below HR.out (below_alloc (Below.refl _ _) _)) ?aR (fun _ _ h => h) (fun _ h => h.elim) (fun k hk => ?aF) ?aB ?aS ?aL ?_; (case aR => exact HL8.out); (case aF => simp at hk; exact .inr (by omega)); (case aB => exact below_alloc HB.out _); (case aS => exact (below_alloc HB.out _).size); (case aL => simp); intro v1 w1 ho hb hg hat; have HO2 := Lib.hid ho; have HB2 := Lib.hid hb; have HG2 := Lib.hid hg; clear ho hb hg hat)
      obtain ⟨g1, cap1, rfl, hg1, hg2, -⟩ := Kd.R_form HO2.out (by simp)
      have hg3 : (base ≤ g1 ∧ Q g1) ∨ wr.heap.size ≤ g1 := HO2.out.1 g1 (by simp [Value.ownBlock])
      obtain ⟨hv, hvl⟩ := RowV.of_R HO2.out
      obtain ⟨X, hX⟩ : ∃ X, w1.cell? ⟨g1, 0, none⟩ = some X := ⟨_, hv.cell (by simp [encs])⟩
      have hXf := hv.frozen 0
      have hp8 : (0 : Int) < (([] ++ [1, 2, 3, 4, 5, 6, 7, 8] : List Int).length : Int) := by simp
      have HKK := Lib.hid (show Kept wr (w1.setCell ⟨g1, 0, none⟩ (.int .u8 9)) (fun k => base ≤ k ∧ Q k) from ⟨by have := HG2.out.size; simp at this ⊢; omega, fun k hk hq => by
        rw [Below.heap_setCell _ ⟨g1, 0, none⟩ _ k (fun z => by have z' : k = g1 := z; rcases hg3 with h | h <;> (first | exact hq (z' ▸ h) | omega)), HG2.out.block k (by simp; omega) (fun z => by rcases HR.out.1 k (by simpa using z.symm) with h | h <;> (first | exact hq h | omega))]
        exact Below.heap_alloc _ _ k hk⟩)
      have HB3 := Lib.hid (below_set (g := g1) (j := 0) (v := .int .u8 9) HB2.out hg1)
      clear hx hv hvl HR HL8 HB HO2 HB2 HG2
      go_wp2_with fail
      go_roundg 0
      case measure => omega
      case rel => exact .inr ⟨rfl, by first | rfl | (simp; done) | decide, ⟨HKK.out⟩, ⟨HB3.out⟩⟩
/-- one row, in a list made for it -/
theorem twoslotlaw04_spoil.one (Q : Nat → Prop) (g : Nat) (v : Value) (ok : Nat → Prop) (base : Nat) (d : List Int) (w0 w : World) (hB : Below w0.heap.size w0 w) (hb0 : w0.heap.size ≤ base) (hR : Kd.R (Kd.int .u8) 5 w base ok v d) (hd : d.length ≤ 70000) (hg : w.heap[g]? = some (.cells #[v] 23 (0, 0))) (hgb : base ≤ g) (hgv : some g ≠ v.ownBlock) (hQ : ∀ k, v.ownBlock = some k → Q k) (hQg : Q g) :
    Calls Try.prog 20 #[.slice (some ⟨g, 0, none⟩) 1 1] w fun e w' => e = .returned (.tuple #[]) ∧ Kept w w' (fun k => base ≤ k ∧ Q k) ∧ Below w0.heap.size w0 w' := by
  by_cases h0 : d = []
  · subst h0
    exact twoslotlaw04_spoil.nil Q g v ok base w0 w hB hb0 hR hg hgb hQ
  have hp : 0 < d.length := List.length_pos_iff.2 h0
  obtain ⟨b, c, rfl, hb, hlt, -⟩ := Kd.R_form hR hp
  have hV := (RowV.of_R hR).1
  refine (twoslotlaw04_spoil.mat Q base g 1 d.length (fun _ => b) (fun _ => c) [d] w0 w hB hb0 ⟨⟨_, hg, by simp [outC], by decide, rfl, by simp [outC]⟩, ⟨hgb, hQg⟩, fun i hi => ?_, fun i j hi hj _ => ?_⟩ (by simp) hp hd).mono ?_
  · obtain rfl : i = 0 := by simpa using hi
    exact ⟨fun z => hgv (by rw [← z]; simp [Value.ownBlock]), ⟨hb, hQ b (by simp [Value.ownBlock])⟩, rfl, hV⟩
  · simp at hi hj; omega
  · rintro e w' ⟨rfl, h1, h2⟩
    exact ⟨rfl, h1, h2⟩

end Go.Proofs.Ythhncoogmncdkaa.PC
-- written by the session's own program (wip/prt.py) over the kit's print: not print.sh's own text
namespace Go.Proofs.Ythhncoogmncdkaa.PC
open Go.RowKit Go.Proofs.YthhncoogmncdkaaW.PrintWords Go.Proofs.YthhncoogmncdkaaW.PrintLast Go.Proofs.YthhncoogmncdkaaW.PrintMore
attribute [local go_sem] max2_int min2_int max_two min_two max_three min_three max_four min_four   -- for this text's walks alone
set_option linter.unusedVariables false
set_option linter.unusedSimpArgs false

/-! ### twoslotlaw04_CodecCells: function 4 -/
def twoslotlaw04_CodecCells.ok (k : Nat) (a0 a1 a2 : Int) (l3 : List (List Int)) : Prop :=
  twoslotlaw04_alive.f k = some true ∧ ∃ b0, twoslotlaw04_much.f k l3 = some b0 ∧ (b0 = false → ∃ (row : List Int) (e1 : Int) (p : List (List Int)) (e2 : Int) (d : List (List Int)) (e3 : Int) (v : Bool) (e4 : Int),
    twoslotref02_Twin.f k l3 = some l3 ∧ codec_Row.f a0 a1 a2 = some (row, e1) ∧ codec_Encode.f k a0 a1 l3 = some (p, e2) ∧ codec_Decode.f k a0 a1 l3 = some (d, e3) ∧ codec_Verify.f k a0 a1 l3 = some (v, e4) ∧
    twoslotref04_Row.f k a0 a1 a2 = some (row, e1) ∧ twoslotref04_Encode.f k a0 a1 l3 = some (p, e2) ∧ twoslotref04_Decode.f k a0 a1 l3 = some (d, e3) ∧ twoslotref04_Verify.f k a0 a1 l3 = some (v, e4) ∧
    twoslotref02_SameAll.f k p p = some true ∧ twoslotref02_SameAll.f k d d = some true ∧ twoslotlaw04_spoil.f p = some () ∧ twoslotlaw04_spoil.f d = some () ∧ row.length ≤ 70000 ∧ twoslotref02_SameAll.f k l3 l3 = some true)
set_option maxHeartbeats 16000000 in
set_option maxRecDepth 100000 in
theorem twoslotlaw04_CodecCells.calls (k : Nat) (a0 : Int) (a1 : Int) (a2 : Int) (A3 : Option Addr) (c3 : Nat) (l3 : List (List Int)) (w : World) (hr3 : Kd.C (Kd.slice 5 (Kd.int .u8)) w A3 l3.length l3) (hc3 : l3.length ≤ c3) (h : twoslotlaw04_CodecCells.ok k a0 a1 a2 l3) :
    Calls Try.prog 4 #[.int .i64 a0, .int .i64 a1, .int .i64 a2, .slice A3 l3.length c3] w fun e w' => e = .returned (.bool true) ∧ Below w.heap.size w w' := by
  obtain ⟨hal, b0, hm0, h⟩ := h
  have F3 := Lib.hid (Kd.C_F (Kd.heap_slice 5 (Kd.heap_int .u8)) hr3)
  have G3 := Lib.hid hc3
  have HAL := Lib.hid hal
  have HM0 := Lib.hid hm0
  have H := Lib.hid h
  have HB := Lib.hid (Below.refl w.heap.size w)
  clear hr3 hc3 hal hm0 h
  go_enter Try.func4, Try.ntmps4
  go_wp2_with fail
  refine (twoslotlaw04_alive.calls k true _ HAL.out).mono ?_
  rintro en w1 ⟨rfl, hb⟩
  have hbn := hb
  replace F3 := Lib.hid (Kd.F_below F3.out hbn)
  replace HB := Lib.hid (below_step HB.out hbn)
  clear hbn hb
  go_wp2_with fail
  refine (twoslotlaw04_much.calls k A3 c3 l3 b0 _ (Kd.F_now F3.out) G3.out HM0.out).mono ?_
  rintro en w2 ⟨rfl, n_, hw_⟩
  have hbn : Below (World.heap w1).size w1 w2 := by rw [hw_]; exact pw_below_drewN (Below.refl _ _) n_
  clear hw_
  replace F3 := Lib.hid (Kd.F_below F3.out hbn)
  replace HB := Lib.hid (below_step HB.out hbn)
  clear hbn
  cases b0 with
  | true =>
    go_wp2_with fail
    go_ret
    exact ⟨rfl, HB.out⟩
  | false =>
    obtain ⟨row, e1, p, e2, d, e3, v, e4, t0, t1, t2, t3, t4, t5, t6, t7, t8, t9, s0, s1, s2, s3, s4⟩ := H.out rfl
    have Ht0 := Lib.hid t0
    have Ht1 := Lib.hid t1
    have Ht2 := Lib.hid t2
    have Ht3 := Lib.hid t3
    have Ht4 := Lib.hid t4
    have Ht5 := Lib.hid t5
    have Ht6 := Lib.hid t6
    have Ht7 := Lib.hid t7
    have Ht8 := Lib.hid t8
    have Ht9 := Lib.hid t9
    have Hs0 := Lib.hid s0
    have Hs1 := Lib.hid s1
    have Hs2 := Lib.hid s2
    have Hs3 := Lib.hid s3
    have Hs4 := Lib.hid s4
    clear t0 t1 t2 t3 t4 t5 t6 t7 t8 t9 s0 s1 s2 s3 s4 H
    go_wp2_with fail
    refine (twoslotref02_Twin.calls k A3 c3 l3 l3 _ (Kd.F_now F3.out) G3.out Ht0.out).mono ?_
    rintro en w3 ⟨v1, rfl, ho, hb⟩
    have hbn := hb
    replace F3 := Lib.hid (Kd.F_below F3.out hbn)
    replace HB := Lib.hid (below_step HB.out hbn)
    obtain ⟨Ax, cx, rfl⟩ := Kd.S_slice ho
    have Gx := Lib.hid (Kd.S_reads' ho).2.1
    have FX := Lib.hid (Kd.C_F (Kd.heap_slice 5 (Kd.heap_int .u8)) (Kd.S_reads' ho).2.2)
    have HWX := HB.out.size
    clear ho
    clear hbn hb
    have HZ := Lib.hid HWX
    clear HWX
    have HBW := HB
    have HN := Lib.hid (Below.refl w3.heap.size w3)
    go_wp2_with fail
    refine (codec_Row.calls a0 a1 a2 row e1 _ Ht1.out).mono ?_
    rintro en w4 ⟨v1, rfl, ho, hb⟩
    have hbn := hb
    replace F3 := Lib.hid (Kd.F_below F3.out hbn)
    replace FX := Lib.hid (Kd.F_below FX.out hbn)
    replace HN := Lib.hid (below_step HN.out hbn)
    obtain ⟨Ar, cr, rfl⟩ := Kd.R_slice ho
    have Gr := Lib.hid (Kd.R_reads' ho).2.1
    have Or := Lib.hid (Kd.R_mono (ok' := fun k_ => k_ < w4.heap.size) (Kd.R_bound ho) (fun k_ hk_ => hk_.2.2.1))
    replace HZ := Lib.hid (And.intro HZ.out hbn.size)
    clear ho
    clear hbn hb
    go_wp2_with fail
    refine (codec_Encode.calls k a0 a1 Ax cx l3 p e2 _ (Kd.F_now FX.out) Gx.out Ht2.out).mono ?_
    rintro en w5 ⟨v1, rfl, ho, hb⟩
    have hbn := hb
    replace F3 := Lib.hid (Kd.F_below F3.out hbn)
    replace FX := Lib.hid (Kd.F_below FX.out hbn)
    replace Or := Lib.hid (Kd.R_below Or.out hbn)
    replace HN := Lib.hid (below_step HN.out hbn)
    obtain ⟨Ap, cp, rfl⟩ := Kd.S_slice ho
    have Gp := Lib.hid (Kd.S_reads' ho).2.1
    have Op := Lib.hid (Kd.S_mono (ok' := fun k_ => k_ < w5.heap.size) (Kd.S_bound ho) (fun k_ hk_ => hk_.2.2.1))
    replace HZ := Lib.hid (And.intro HZ.out hbn.size)
    clear ho
    clear hbn hb
    go_wp2_with fail
    refine (codec_Decode.calls k a0 a1 Ax cx l3 d e3 _ (Kd.F_now FX.out) Gx.out Ht3.out).mono ?_
    rintro en w6 ⟨v1, rfl, ho, hb⟩
    have hbn := hb
    replace F3 := Lib.hid (Kd.F_below F3.out hbn)
    replace FX := Lib.hid (Kd.F_below FX.out hbn)
    replace Or := Lib.hid (Kd.R_below Or.out hbn)
    replace Op := Lib.hid (Kd.S_below Op.out hbn)
    replace HN := Lib.hid (below_step HN.out hbn)
    obtain ⟨Ad, cd, rfl⟩ := Kd.S_slice ho
    have Gd := Lib.hid (Kd.S_reads' ho).2.1
    have Od := Lib.hid (Kd.S_mono (ok' := fun k_ => k_ < w6.heap.size) (Kd.S_bound ho) (fun k_ hk_ => hk_.2.2.1))
    replace HZ := Lib.hid (And.intro HZ.out hbn.size)
    clear ho
    clear hbn hb
    go_wp2_with fail
    refine (codec_Verify.calls k a0 a1 Ax cx l3 v e4 _ (Kd.F_now FX.out) Gx.out Ht4.out).mono ?_
    rintro en w7 ⟨rfl, hb⟩
    have hbn := hb
    replace F3 := Lib.hid (Kd.F_below F3.out hbn)
    replace FX := Lib.hid (Kd.F_below FX.out hbn)
    replace Or := Lib.hid (Kd.R_below Or.out hbn)
    replace Op := Lib.hid (Kd.S_below Op.out hbn)
    replace Od := Lib.hid (Kd.S_below Od.out hbn)
    replace HN := Lib.hid (below_step HN.out hbn)
    replace HZ := Lib.hid (And.intro HZ.out hbn.size)
    clear hbn hb
    go_wp2_with fail
    refine (twoslotref04_Row.calls k a0 a1 a2 row e1 _ Ht5.out).mono ?_
    rintro en w8 ⟨v1, rfl, ho, hb⟩
    have hbn := hb
    replace F3 := Lib.hid (Kd.F_below F3.out hbn)
    replace FX := Lib.hid (Kd.F_below FX.out hbn)
    replace Or := Lib.hid (Kd.R_below Or.out hbn)
    replace Op := Lib.hid (Kd.S_below Op.out hbn)
    replace Od := Lib.hid (Kd.S_below Od.out hbn)
    replace HN := Lib.hid (below_step HN.out hbn)
    obtain ⟨Ar2, cr2, rfl⟩ := Kd.R_slice ho
    have Gr2 := Lib.hid (Kd.R_reads' ho).2.1
    have Fr2 := Lib.hid (Kd.R_F (Kd.R_mono (ok' := fun k_ => w6.heap.size ≤ k_) (Kd.R_bound ho) (fun k_ hk_ => by have z := HZ.out; have h := hk_.2.1; omega)))
    replace HZ := Lib.hid (And.intro HZ.out hbn.size)
    clear ho
    clear hbn hb
    go_wp2_with fail
    refine (twoslotref04_Encode.calls k a0 a1 A3 c3 l3 p e2 _ (Kd.F_now F3.out) G3.out Ht6.out).mono ?_
    rintro en w9 ⟨v1, rfl, ho, hb⟩
    have hbn := hb
    replace F3 := Lib.hid (Kd.F_below F3.out hbn)
    replace FX := Lib.hid (Kd.F_below FX.out hbn)
    replace Fr2 := Lib.hid (Kd.F_below Fr2.out hbn)
    replace Or := Lib.hid (Kd.R_below Or.out hbn)
    replace Op := Lib.hid (Kd.S_below Op.out hbn)
    replace Od := Lib.hid (Kd.S_below Od.out hbn)
    replace HN := Lib.hid (below_step HN.out hbn)
    obtain ⟨Ap2, cp2, rfl⟩ := Kd.S_slice ho
    have Gp2 := Lib.hid (Kd.S_reads' ho).2.1
    have Fp2 := Lib.hid (Kd.R_F (Kd.S_R (Kd.S_mono (ok' := fun k_ => w6.heap.size ≤ k_) (Kd.S_bound ho) (fun k_ hk_ => by have z := HZ.out; have h := hk_.2.1; omega))))
    replace HZ := Lib.hid (And.intro HZ.out hbn.size)
    clear ho
    clear hbn hb
    go_wp2_with fail
    refine (twoslotref04_Decode.calls k a0 a1 (fun k_ => k_ < w.heap.size) A3 c3 l3 d e3 _ (Kd.V_mk G3.out F3.out) Ht7.out).mono ?_
    rintro en w10 ⟨v1, rfl, ho, hb⟩
    have hbn := hb
    replace F3 := Lib.hid (Kd.F_below F3.out hbn)
    replace FX := Lib.hid (Kd.F_below FX.out hbn)
    replace Fr2 := Lib.hid (Kd.F_below Fr2.out hbn)
    replace Fp2 := Lib.hid (Kd.F_below Fp2.out hbn)
    replace Or := Lib.hid (Kd.R_below Or.out hbn)
    replace Op := Lib.hid (Kd.S_below Op.out hbn)
    replace Od := Lib.hid (Kd.S_below Od.out hbn)
    replace HN := Lib.hid (below_step HN.out hbn)
    obtain ⟨Ad2, cd2, rfl⟩ := Kd.N_slice ho
    have Gd2 := Lib.hid (Kd.N_reads' ho).2.1
    have Fd2 := Lib.hid (Kd.N_F (Kd.N_mono (ok' := fun k_ => k_ < w.heap.size ∨ w6.heap.size ≤ k_) ho (fun k_ hk_ => by have z := HZ.out; rcases hk_ with h | h <;> omega)))
    replace HZ := Lib.hid (And.intro HZ.out hbn.size)
    clear ho
    clear hbn hb
    go_wp2_with fail
    refine (twoslotref04_Verify.calls k a0 a1 A3 c3 l3 v e4 _ (Kd.F_now F3.out) G3.out Ht8.out).mono ?_
    rintro en w11 ⟨rfl, hb⟩
    have hbn := hb
    replace F3 := Lib.hid (Kd.F_below F3.out hbn)
    replace FX := Lib.hid (Kd.F_below FX.out hbn)
    replace Fr2 := Lib.hid (Kd.F_below Fr2.out hbn)
    replace Fp2 := Lib.hid (Kd.F_below Fp2.out hbn)
    replace Fd2 := Lib.hid (Kd.F_below Fd2.out hbn)
    replace Or := Lib.hid (Kd.R_below Or.out hbn)
    replace Op := Lib.hid (Kd.S_below Op.out hbn)
    replace Od := Lib.hid (Kd.S_below Od.out hbn)
    replace HN := Lib.hid (below_step HN.out hbn)
    clear hbn hb
    have hcr := Kd.C_string (P := Try.prog) (A := Ar) (c := cr) Try.underlying23 Try.underlying5 Try.underlying9 (Kd.R_reads' Or.out).2.2
    have hcrn := fun n_ : Nat => Kd.C_string (P := Try.prog) (A := Ar) (c := cr) Try.underlying23 Try.underlying5 Try.underlying9 (Kd.C_drewN (Kd.R_reads' Or.out).2.2 n_)
    have hcr2 := Kd.C_string (P := Try.prog) (A := Ar2) (c := cr2) Try.underlying23 Try.underlying5 Try.underlying9 (Kd.F_now Fr2.out)
    have hcr2n := fun n_ : Nat => Kd.C_string (P := Try.prog) (A := Ar2) (c := cr2) Try.underlying23 Try.underlying5 Try.underlying9 (Kd.C_drewN (Kd.F_now Fr2.out) n_)
    go_wp2_with fail
    refine (twoslotref02_SameAll.calls k Ap cp p Ap2 cp2 p true _ (Kd.S_reads' Op.out).2.2 Gp.out (Kd.F_now Fp2.out) Gp2.out Ht9.out).mono ?_
    rintro en w12 ⟨rfl, n_, hw_⟩
    have hbn : Below (World.heap w11).size w11 w12 := by rw [hw_]; exact pw_below_drewN (Below.refl _ _) n_
    clear hw_
    replace F3 := Lib.hid (Kd.F_below F3.out hbn)
    replace FX := Lib.hid (Kd.F_below FX.out hbn)
    replace Fr2 := Lib.hid (Kd.F_below Fr2.out hbn)
    replace Fp2 := Lib.hid (Kd.F_below Fp2.out hbn)
    replace Fd2 := Lib.hid (Kd.F_below Fd2.out hbn)
    replace Or := Lib.hid (Kd.R_below Or.out hbn)
    replace Op := Lib.hid (Kd.S_below Op.out hbn)
    replace Od := Lib.hid (Kd.S_below Od.out hbn)
    replace HN := Lib.hid (below_step HN.out hbn)
    clear hbn
    go_wp2_with fail
    refine (twoslotref02_SameAll.calls k Ad cd d Ad2 cd2 d true _ (Kd.S_reads' Od.out).2.2 Gd.out (Kd.F_now Fd2.out) Gd2.out Hs0.out).mono ?_
    rintro en w13 ⟨rfl, n_, hw_⟩
    have hbn : Below (World.heap w12).size w12 w13 := by rw [hw_]; exact pw_below_drewN (Below.refl _ _) n_
    clear hw_
    replace F3 := Lib.hid (Kd.F_below F3.out hbn)
    replace FX := Lib.hid (Kd.F_below FX.out hbn)
    replace Fr2 := Lib.hid (Kd.F_below Fr2.out hbn)
    replace Fp2 := Lib.hid (Kd.F_below Fp2.out hbn)
    replace Fd2 := Lib.hid (Kd.F_below Fd2.out hbn)
    replace Or := Lib.hid (Kd.R_below Or.out hbn)
    replace Op := Lib.hid (Kd.S_below Op.out hbn)
    replace Od := Lib.hid (Kd.S_below Od.out hbn)
    replace HN := Lib.hid (below_step HN.out hbn)
    clear hbn
    have hvv : (v == v) = true := beq_self_eq_true v
    clear hcr hcrn hcr2 hcr2n Fp2 Gp2 Gp Gd
    go_wp2_with fail
    refine (twoslotlaw04_spoil.real _ w5.heap.size _ d w3 _ HN.out (by have z := HZ.out; omega) Od.out Hs2.out).mono ?_
    rintro en w14 ⟨rfl, hk_, hb⟩
    replace F3 := Lib.hid (Kd.F_kept F3.out hk_ (fun k_ hk2_ hs_ => by have z := HZ.out; omega))
    replace FX := Lib.hid (Kd.F_kept FX.out hk_ (fun k_ hk2_ hs_ => by have z := HZ.out; omega))
    replace Fr2 := Lib.hid (Kd.F_kept Fr2.out hk_ (fun k_ hk2_ hs_ => by have z := HZ.out; omega))
    replace Fd2 := Lib.hid (Kd.F_kept Fd2.out hk_ (fun k_ hk2_ hs_ => by have z := HZ.out; omega))
    replace Op := Lib.hid (Kd.S_kept Op.out hk_ (fun k_ hk2_ hs_ => by have z := HZ.out; omega))
    replace Or := Lib.hid (Kd.R_kept Or.out hk_ (fun k_ hk2_ hs_ => by have z := HZ.out; omega))
    replace HN := Lib.hid hb
    clear hb hk_ Od
    go_wp2_with fail
    refine (twoslotlaw04_spoil.real _ w4.heap.size _ p w3 _ HN.out (by have z := HZ.out; omega) Op.out Hs1.out).mono ?_
    rintro en w15 ⟨rfl, hk_, hb⟩
    replace F3 := Lib.hid (Kd.F_kept F3.out hk_ (fun k_ hk2_ hs_ => by have z := HZ.out; omega))
    replace FX := Lib.hid (Kd.F_kept FX.out hk_ (fun k_ hk2_ hs_ => by have z := HZ.out; omega))
    replace Fr2 := Lib.hid (Kd.F_kept Fr2.out hk_ (fun k_ hk2_ hs_ => by have z := HZ.out; omega))
    replace Fd2 := Lib.hid (Kd.F_kept Fd2.out hk_ (fun k_ hk2_ hs_ => by have z := HZ.out; omega))
    replace Or := Lib.hid (Kd.R_kept Or.out hk_ (fun k_ hk2_ hs_ => by have z := HZ.out; omega))
    replace HN := Lib.hid hb
    clear hb hk_ Op
    go_wp2_with fail
    have hra := Kd.R_below Or.out (below_alloc (Below.refl w15.heap.size w15) (.cells #[.slice Ar row.length cr] 23))
    refine (twoslotlaw04_spoil.one (fun k_ => k_ < w4.heap.size ∨ w15.heap.size ≤ k_) w15.heap.size _ _ w3.heap.size row w3 _ (below_alloc HN.out _) (Nat.le_refl _) hra Hs3.out (heap_alloc_at _ _ (by first | rfl | simp)) HN.out.size (fun z => absurd (Kd.R_lt Or.out _ z.symm) (Nat.lt_irrefl _)) (fun k_ hk_ => .inl (Or.out.1 k_ hk_)) (.inr (Nat.le_refl _))).mono ?_
    rintro en w16 ⟨rfl, hk0_, hb⟩
    have hk_ : Kept w15 w16 (fun k_ => w3.heap.size ≤ k_ ∧ k_ < w4.heap.size) := ⟨by have := hk0_.1; simp at this; omega, fun k_ hlt_ hn_ => by rw [hk0_.2 k_ (by simp; omega) (fun z => hn_ ⟨z.1, by rcases z.2 with h | h <;> omega⟩)]; exact Below.heap_alloc _ _ k_ hlt_⟩
    replace F3 := Lib.hid (Kd.F_kept F3.out hk_ (fun k_ hk2_ hs_ => by have z := HZ.out; omega))
    replace FX := Lib.hid (Kd.F_kept FX.out hk_ (fun k_ hk2_ hs_ => by have z := HZ.out; omega))
    replace Fr2 := Lib.hid (Kd.F_kept Fr2.out hk_ (fun k_ hk2_ hs_ => by have z := HZ.out; omega))
    replace Fd2 := Lib.hid (Kd.F_kept Fd2.out hk_ (fun k_ hk2_ hs_ => by have z := HZ.out; omega))
    replace HN := Lib.hid hb
    clear hb hk_ Or hk0_ hra
    go_wp2_with fail
    refine (codec_Decode.calls k a0 a1 Ax cx l3 d e3 _ (Kd.F_now FX.out) Gx.out Ht3.out).mono ?_
    rintro en w17 ⟨v1, rfl, ho, hb⟩
    have hbn := hb
    replace F3 := Lib.hid (Kd.F_below F3.out hbn)
    replace FX := Lib.hid (Kd.F_below FX.out hbn)
    replace Fr2 := Lib.hid (Kd.F_below Fr2.out hbn)
    replace Fd2 := Lib.hid (Kd.F_below Fd2.out hbn)
    replace HN := Lib.hid (below_step HN.out hbn)
    obtain ⟨Aag, cag, rfl⟩ := Kd.S_slice ho
    have Gag := Lib.hid (Kd.S_reads' ho).2.1
    have Fag := Lib.hid (Kd.C_F (Kd.heap_slice 5 (Kd.heap_int .u8)) (Kd.S_reads' ho).2.2)
    clear ho
    clear hbn hb
    go_wp2_with fail
    refine (codec_Row.calls a0 a1 a2 row e1 _ Ht1.out).mono ?_
    rintro en w18 ⟨v1, rfl, ho, hb⟩
    have hbn := hb
    replace F3 := Lib.hid (Kd.F_below F3.out hbn)
    replace FX := Lib.hid (Kd.F_below FX.out hbn)
    replace Fr2 := Lib.hid (Kd.F_below Fr2.out hbn)
    replace Fd2 := Lib.hid (Kd.F_below Fd2.out hbn)
    replace Fag := Lib.hid (Kd.F_below Fag.out hbn)
    replace HN := Lib.hid (below_step HN.out hbn)
    obtain ⟨Atw, ctw, rfl⟩ := Kd.R_slice ho
    have Gtw := Lib.hid (Kd.R_reads' ho).2.1
    have Ftw := Lib.hid (Kd.C_F (Kd.heap_int .u8) (Kd.R_reads' ho).2.2)
    clear ho
    clear hbn hb
    go_wp2_with fail
    refine (twoslotref02_SameAll.calls k Aag cag d Ad2 cd2 d true _ (Kd.F_now Fag.out) Gag.out (Kd.F_now Fd2.out) Gd2.out Hs0.out).mono ?_
    rintro en w19 ⟨rfl, n_, hw_⟩
    have hbn : Below (World.heap w18).size w18 w19 := by rw [hw_]; exact pw_below_drewN (Below.refl _ _) n_
    clear hw_
    replace F3 := Lib.hid (Kd.F_below F3.out hbn)
    replace FX := Lib.hid (Kd.F_below FX.out hbn)
    replace Fr2 := Lib.hid (Kd.F_below Fr2.out hbn)
    replace Fd2 := Lib.hid (Kd.F_below Fd2.out hbn)
    replace Fag := Lib.hid (Kd.F_below Fag.out hbn)
    replace Ftw := Lib.hid (Kd.F_below Ftw.out hbn)
    replace HN := Lib.hid (below_step HN.out hbn)
    clear hbn
    have hct := Kd.C_string (P := Try.prog) (A := Atw) (c := ctw) Try.underlying23 Try.underlying5 Try.underlying9 (Kd.F_now Ftw.out)
    have hctn := fun n_ : Nat => Kd.C_string (P := Try.prog) (A := Atw) (c := ctw) Try.underlying23 Try.underlying5 Try.underlying9 (Kd.C_drewN (Kd.F_now Ftw.out) n_)
    have hcr2 := Kd.C_string (P := Try.prog) (A := Ar2) (c := cr2) Try.underlying23 Try.underlying5 Try.underlying9 (Kd.F_now Fr2.out)
    have hcr2n := fun n_ : Nat => Kd.C_string (P := Try.prog) (A := Ar2) (c := cr2) Try.underlying23 Try.underlying5 Try.underlying9 (Kd.C_drewN (Kd.F_now Fr2.out) n_)
    go_wp2_with fail
    refine (twoslotref02_SameAll.calls k Ax cx l3 A3 c3 l3 true _ (Kd.F_now FX.out) Gx.out (Kd.F_now F3.out) G3.out Hs4.out).mono ?_
    rintro en w20 ⟨rfl, n_, hw_⟩
    have hbn : Below (World.heap w19).size w19 w20 := by rw [hw_]; exact pw_below_drewN (Below.refl _ _) n_
    clear hw_
    replace F3 := Lib.hid (Kd.F_below F3.out hbn)
    replace FX := Lib.hid (Kd.F_below FX.out hbn)
    replace Fr2 := Lib.hid (Kd.F_below Fr2.out hbn)
    replace Fd2 := Lib.hid (Kd.F_below Fd2.out hbn)
    replace Fag := Lib.hid (Kd.F_below Fag.out hbn)
    replace Ftw := Lib.hid (Kd.F_below Ftw.out hbn)
    replace HN := Lib.hid (below_step HN.out hbn)
    clear hbn
    clear hct hctn hcr2 hcr2n
    have q1 : (e1 == e1) = true := beq_self_eq_true e1
    have q2 : (e2 == e2) = true := beq_self_eq_true e2
    have q3 : (e3 == e3) = true := beq_self_eq_true e3
    have q4 : (e4 == e4) = true := beq_self_eq_true e4
    go_wp2_with fail
    go_ret
    exact ⟨by first | rfl | simp, below_step HBW.out HN.out⟩

end Go.Proofs.Ythhncoogmncdkaa.PC
