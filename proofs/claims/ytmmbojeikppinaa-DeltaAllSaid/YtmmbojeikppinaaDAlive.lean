/- alive and much of layer 5, in plain Lean. No condition. -/
import Derived.Test.YtmmbojeikppinaaPEx0
import Derived.Test.YtmmbojeikppinaaPEx9
import Derived.Test.YtmmbojeikppinaaPEx7
import Derived.Test.YtmmbojeikppinaaPEx8
import Derived.Test.YtmmbojeikppinaaDlt
import Derived.Test.YtmmbojeikppinaaDRefC
import Derived.Test.YtmmbojeikppinaaDSame
-- written by the session's own program (wip/prt.py) over the kit's print: not print.sh's own text
namespace Go.Proofs.Ytmmbojeikppinaa.PE
open Go.RowKit Go.Proofs.YtmmbojeikppinaaW.PrintWords Go.Proofs.YtmmbojeikppinaaW.PrintLast Go.Proofs.YtmmbojeikppinaaW.PrintMore
attribute [local go_sem] max2_int min2_int max_two min_two max_three min_three max_four min_four   -- for this text's walks alone
set_option linter.unusedVariables false
set_option linter.unusedSimpArgs false

/-! ### twoslotlaw05_much: function 12 -/
def twoslotlaw05_much.l0 : Nat → List (List Int) → Int → Option (Bool)
  | 0, _, _ => none
  | k + 1, x0, x3 => if x3 < (x0.length : Int) then (if 0 ≤ x3 then (if ((rd_L1 x0 x3).length : Int) > 3000 then (if ((rd_L1 x0 x3).length : Int) ≤ 65536 then (some true) else (if ((rd_L1 x0 x3).length : Int) > 70000 then (some true) else (twoslotlaw05_much.l0 k x0 (wrap64 (x3 + 1))))) else (if ((rd_L1 x0 x3).length : Int) > 70000 then (some true) else (twoslotlaw05_much.l0 k x0 (wrap64 (x3 + 1))))) else (none)) else (some false)
def twoslotlaw05_much.f (k : Nat) (l0 : List (List Int)) : Option (Bool) := if (l0.length : Int) > 60 then (some true) else (twoslotlaw05_much.l0 k l0 0)
theorem twoslotlaw05_much.mono_l : ∀ k, (∀ y0 y1, LeO (twoslotlaw05_much.l0 k y0 y1) (twoslotlaw05_much.l0 (k + 1) y0 y1))
  | 0 => fun _ _ r h => by simp [twoslotlaw05_much.l0] at h
  | k + 1 => by
    have ih0 := twoslotlaw05_much.mono_l k
    · intro y0 y1
      unfold twoslotlaw05_much.l0
      repeat' first
      | (with_reducible exact ih0 _ _)
      | (with_reducible exact LeO.refl _)
      | (with_reducible exact LeO.none _)
      | (with_reducible refine LeO.ite ?_ ?_)
      | (with_reducible refine LeO.bind ?_ (fun _ => ?_))
      | exact ih0 _ _
      | exact LeO.none _
      | refine LeO.ite ?_ ?_
      | refine LeO.bind ?_ (fun _ => ?_)
theorem twoslotlaw05_much.mono : ∀ a0 k, LeO (twoslotlaw05_much.f k a0) (twoslotlaw05_much.f (k + 1) a0) := by
  intro a0 k
  have ih0 := twoslotlaw05_much.mono_l k
  unfold twoslotlaw05_much.f
  repeat' first
      | (with_reducible exact ih0 _ _)
      | (with_reducible exact LeO.refl _)
      | (with_reducible exact LeO.none _)
      | (with_reducible refine LeO.ite ?_ ?_)
      | (with_reducible refine LeO.bind ?_ (fun _ => ?_))
      | exact ih0 _ _
      | exact LeO.none _
      | refine LeO.ite ?_ ?_
      | refine LeO.bind ?_ (fun _ => ?_)
set_option maxHeartbeats 8000000 in
set_option maxRecDepth 100000 in
theorem twoslotlaw05_much.calls (k : Nat) (A0 : Option Addr) (c0 : Nat) (l0 : List (List Int)) (r : Bool) (w : World) (hr0 : Kd.C (Kd.slice 5 (Kd.int .u8)) w A0 l0.length l0) (hc0 : l0.length ≤ c0) (h : twoslotlaw05_much.f k l0 = some r) :
    Calls Try.prog 12 #[.slice A0 l0.length c0] w fun e w' => e = .returned (.bool r) ∧ Drawn0 w w' := by
  have HR0 := Aside0.mk hr0
  have HC0 := Aside0.mk hc0
  clear hr0 hc0
  have H : (if (l0.length : Int) > 60 then (some true) else (twoslotlaw05_much.l0 k l0 0)) = some r := h
  clear h
  by_cases c2 : (l0.length : Int) > 60
  · rw [if_pos c2] at H
    have c2b0 : decide (60 < (l0.length : Int)) = true := decide_eq_true c2
    have c2b1 : decide (60 < l0.length) = true := decide_eq_true (by omega)
    clear c2
    obtain rfl := Option.some.inj H
    go_enter Try.func12, Try.ntmps12
    go_wp2
    go_ret
    exact ⟨by first | rfl | (simp; done) | (simp [*]; done), by repeat (first | exact Drawn0.refl _ | apply Drawn0.step)⟩
  · rw [if_neg c2] at H
    have c2b0 : decide (60 < (l0.length : Int)) = false := decide_eq_false c2
    have c2b1 : decide (60 < l0.length) = false := decide_eq_false (by omega)
    clear c2
    have H' := Aside0.mk H
    clear H
    go_enter Try.func12, Try.ntmps12
    go_wp2
    go_loopg [3] k (fun kq v3 w' => ∃ (x3_1 : Int), v3 = .int .i64 x3_1 ∧ Aside0 (twoslotlaw05_much.l0 kq l0 x3_1 = some r) ∧ Aside0 (kq ≤ k) ∧ Drawn0 w w')
    case atStart => exact ⟨(0), (by first | rfl | (simp; done) | (simp [*]; done)), H', ⟨Nat.le_refl _⟩, by repeat (first | exact Drawn0.refl _ | apply Drawn0.step)⟩
    case round =>
      clear H'
      try clear c1
      try clear c2
      try clear c2b0
      try clear c2b1
      try clear p2
      obtain ⟨x3_1, rfl, HA, HK1, ⟨m1, rfl⟩⟩ := hrel
      cases gk with
      | zero => exact absurd HA.out (by simp [twoslotlaw05_much.l0])
      | succ k1 =>
        have H := HA.out
        clear HA
        simp only [twoslotlaw05_much.l0] at H
        by_cases c3 : x3_1 < (l0.length : Int)
        · rw [if_pos c3] at H
          have c3b0 : decide (x3_1 < (l0.length : Int)) = true := decide_eq_true c3
          clear c3
          by_cases c4 : 0 ≤ x3_1
          · rw [if_pos c4] at H
            have c4b0 : decide (0 ≤ x3_1) = true := decide_eq_true c4
            clear c4
            by_cases c5 : ((rd_L1 l0 x3_1).length : Int) > 3000
            · rw [if_pos c5] at H
              have c5b0 : decide (3000 < ((rd_L1 l0 x3_1).length : Int)) = true := decide_eq_true c5
              have c5b1 : decide (3000 < (rd_L1 l0 x3_1).length) = true := decide_eq_true (by omega)
              clear c5
              by_cases c6 : ((rd_L1 l0 x3_1).length : Int) ≤ 65536
              · rw [if_pos c6] at H
                have c6b0 : decide (((rd_L1 l0 x3_1).length : Int) ≤ 65536) = true := decide_eq_true c6
                have c6b1 : decide ((rd_L1 l0 x3_1).length ≤ 65536) = true := decide_eq_true (by omega)
                clear c6
                obtain rfl := Option.some.inj H
                have p140 : 0 ≤ (x3_1 : Int) := of_decide_eq_true (by first | (with_reducible assumption) | assumption)
                have q140 : x3_1 < (l0.length : Int) := of_decide_eq_true (by first | (with_reducible assumption) | assumption)
                obtain ⟨ad140, A140_0, c140_0, e140, hx140_0, hl140_0, hi140_0⟩ := at_L1 HR0.out x3_1 p140 q140
                cases e140
                have HR140_0 := Aside0.mk hi140_0
                have HC140_0 := Aside0.mk hl140_0
                clear hi140_0 hl140_0
                replace p140 := eq_true p140
                replace q140 := eq_true q140
                have p141 : 0 ≤ (x3_1 : Int) := of_decide_eq_true (by first | (with_reducible assumption) | assumption)
                have q141 : x3_1 < (l0.length : Int) := of_decide_eq_true (by first | (with_reducible assumption) | assumption)
                obtain ⟨ad141, A141_0, c141_0, e141, hx141_0, hl141_0, hi141_0⟩ := at_L1 HR0.out x3_1 p141 q141
                obtain rfl : ad140 = ad141 := (by injection e141)
                have HR141_0 := Aside0.mk hi141_0
                have HC141_0 := Aside0.mk hl141_0
                clear hi141_0 hl141_0
                replace p141 := eq_true p141
                replace q141 := eq_true q141
                have ea_ := Option.some.inj (hx140_0.symm.trans hx141_0)
                injection ea_ with ea_ en_ ec_
                subst ea_
                subst ec_
                clear en_
                go_wp2
                go_ret
                exact ⟨by first | rfl | (simp; done) | (simp [*]; done), by repeat (first | exact Drawn0.refl _ | apply Drawn0.step)⟩
              · rw [if_neg c6] at H
                have c6b0 : decide (((rd_L1 l0 x3_1).length : Int) ≤ 65536) = false := decide_eq_false c6
                have c6b1 : decide ((rd_L1 l0 x3_1).length ≤ 65536) = false := decide_eq_false (by omega)
                clear c6
                by_cases c7 : ((rd_L1 l0 x3_1).length : Int) > 70000
                · rw [if_pos c7] at H
                  have c7b0 : decide (70000 < ((rd_L1 l0 x3_1).length : Int)) = true := decide_eq_true c7
                  have c7b1 : decide (70000 < (rd_L1 l0 x3_1).length) = true := decide_eq_true (by omega)
                  clear c7
                  obtain rfl := Option.some.inj H
                  have p140 : 0 ≤ (x3_1 : Int) := of_decide_eq_true (by first | (with_reducible assumption) | assumption)
                  have q140 : x3_1 < (l0.length : Int) := of_decide_eq_true (by first | (with_reducible assumption) | assumption)
                  obtain ⟨ad140, A140_0, c140_0, e140, hx140_0, hl140_0, hi140_0⟩ := at_L1 HR0.out x3_1 p140 q140
                  cases e140
                  have HR140_0 := Aside0.mk hi140_0
                  have HC140_0 := Aside0.mk hl140_0
                  clear hi140_0 hl140_0
                  replace p140 := eq_true p140
                  replace q140 := eq_true q140
                  have p141 : 0 ≤ (x3_1 : Int) := of_decide_eq_true (by first | (with_reducible assumption) | assumption)
                  have q141 : x3_1 < (l0.length : Int) := of_decide_eq_true (by first | (with_reducible assumption) | assumption)
                  obtain ⟨ad141, A141_0, c141_0, e141, hx141_0, hl141_0, hi141_0⟩ := at_L1 HR0.out x3_1 p141 q141
                  obtain rfl : ad140 = ad141 := (by injection e141)
                  have HR141_0 := Aside0.mk hi141_0
                  have HC141_0 := Aside0.mk hl141_0
                  clear hi141_0 hl141_0
                  replace p141 := eq_true p141
                  replace q141 := eq_true q141
                  have ea_ := Option.some.inj (hx140_0.symm.trans hx141_0)
                  injection ea_ with ea_ en_ ec_
                  subst ea_
                  subst ec_
                  clear en_
                  have p142 : 0 ≤ (x3_1 : Int) := of_decide_eq_true (by first | (with_reducible assumption) | assumption)
                  have q142 : x3_1 < (l0.length : Int) := of_decide_eq_true (by first | (with_reducible assumption) | assumption)
                  obtain ⟨ad142, A142_0, c142_0, e142, hx142_0, hl142_0, hi142_0⟩ := at_L1 HR0.out x3_1 p142 q142
                  obtain rfl : ad140 = ad142 := (by injection e142)
                  have HR142_0 := Aside0.mk hi142_0
                  have HC142_0 := Aside0.mk hl142_0
                  clear hi142_0 hl142_0
                  replace p142 := eq_true p142
                  replace q142 := eq_true q142
                  have ea_ := Option.some.inj (hx140_0.symm.trans hx142_0)
                  injection ea_ with ea_ en_ ec_
                  subst ea_
                  subst ec_
                  clear en_
                  go_wp2
                  go_ret
                  exact ⟨by first | rfl | (simp; done) | (simp [*]; done), by repeat (first | exact Drawn0.refl _ | apply Drawn0.step)⟩
                · rw [if_neg c7] at H
                  have c7b0 : decide (70000 < ((rd_L1 l0 x3_1).length : Int)) = false := decide_eq_false c7
                  have c7b1 : decide (70000 < (rd_L1 l0 x3_1).length) = false := decide_eq_false (by omega)
                  clear c7
                  have H' := Aside0.mk H
                  clear H
                  have p140 : 0 ≤ (x3_1 : Int) := of_decide_eq_true (by first | (with_reducible assumption) | assumption)
                  have q140 : x3_1 < (l0.length : Int) := of_decide_eq_true (by first | (with_reducible assumption) | assumption)
                  obtain ⟨ad140, A140_0, c140_0, e140, hx140_0, hl140_0, hi140_0⟩ := at_L1 HR0.out x3_1 p140 q140
                  cases e140
                  have HR140_0 := Aside0.mk hi140_0
                  have HC140_0 := Aside0.mk hl140_0
                  clear hi140_0 hl140_0
                  replace p140 := eq_true p140
                  replace q140 := eq_true q140
                  have p141 : 0 ≤ (x3_1 : Int) := of_decide_eq_true (by first | (with_reducible assumption) | assumption)
                  have q141 : x3_1 < (l0.length : Int) := of_decide_eq_true (by first | (with_reducible assumption) | assumption)
                  obtain ⟨ad141, A141_0, c141_0, e141, hx141_0, hl141_0, hi141_0⟩ := at_L1 HR0.out x3_1 p141 q141
                  obtain rfl : ad140 = ad141 := (by injection e141)
                  have HR141_0 := Aside0.mk hi141_0
                  have HC141_0 := Aside0.mk hl141_0
                  clear hi141_0 hl141_0
                  replace p141 := eq_true p141
                  replace q141 := eq_true q141
                  have ea_ := Option.some.inj (hx140_0.symm.trans hx141_0)
                  injection ea_ with ea_ en_ ec_
                  subst ea_
                  subst ec_
                  clear en_
                  have p142 : 0 ≤ (x3_1 : Int) := of_decide_eq_true (by first | (with_reducible assumption) | assumption)
                  have q142 : x3_1 < (l0.length : Int) := of_decide_eq_true (by first | (with_reducible assumption) | assumption)
                  obtain ⟨ad142, A142_0, c142_0, e142, hx142_0, hl142_0, hi142_0⟩ := at_L1 HR0.out x3_1 p142 q142
                  obtain rfl : ad140 = ad142 := (by injection e142)
                  have HR142_0 := Aside0.mk hi142_0
                  have HC142_0 := Aside0.mk hl142_0
                  clear hi142_0 hl142_0
                  replace p142 := eq_true p142
                  replace q142 := eq_true q142
                  have ea_ := Option.some.inj (hx140_0.symm.trans hx142_0)
                  injection ea_ with ea_ en_ ec_
                  subst ea_
                  subst ec_
                  clear en_
                  go_wp2
                  go_roundg k1
                  case measure => have := HK1.out; omega
                  case rel => exact ⟨(wrap64 (x3_1 + 1)), (by first | rfl | (simp; done) | (simp [*]; done)), H', ⟨by have := HK1.out; omega⟩, by repeat (first | exact Drawn0.refl _ | apply Drawn0.step)⟩
            · rw [if_neg c5] at H
              have c5b0 : decide (3000 < ((rd_L1 l0 x3_1).length : Int)) = false := decide_eq_false c5
              have c5b1 : decide (3000 < (rd_L1 l0 x3_1).length) = false := decide_eq_false (by omega)
              clear c5
              by_cases c8 : ((rd_L1 l0 x3_1).length : Int) > 70000
              · rw [if_pos c8] at H
                have c8b0 : decide (70000 < ((rd_L1 l0 x3_1).length : Int)) = true := decide_eq_true c8
                have c8b1 : decide (70000 < (rd_L1 l0 x3_1).length) = true := decide_eq_true (by omega)
                clear c8
                obtain rfl := Option.some.inj H
                have p140 : 0 ≤ (x3_1 : Int) := of_decide_eq_true (by first | (with_reducible assumption) | assumption)
                have q140 : x3_1 < (l0.length : Int) := of_decide_eq_true (by first | (with_reducible assumption) | assumption)
                obtain ⟨ad140, A140_0, c140_0, e140, hx140_0, hl140_0, hi140_0⟩ := at_L1 HR0.out x3_1 p140 q140
                cases e140
                have HR140_0 := Aside0.mk hi140_0
                have HC140_0 := Aside0.mk hl140_0
                clear hi140_0 hl140_0
                replace p140 := eq_true p140
                replace q140 := eq_true q140
                have p143 : 0 ≤ (x3_1 : Int) := of_decide_eq_true (by first | (with_reducible assumption) | assumption)
                have q143 : x3_1 < (l0.length : Int) := of_decide_eq_true (by first | (with_reducible assumption) | assumption)
                obtain ⟨ad143, A143_0, c143_0, e143, hx143_0, hl143_0, hi143_0⟩ := at_L1 HR0.out x3_1 p143 q143
                obtain rfl : ad140 = ad143 := (by injection e143)
                have HR143_0 := Aside0.mk hi143_0
                have HC143_0 := Aside0.mk hl143_0
                clear hi143_0 hl143_0
                replace p143 := eq_true p143
                replace q143 := eq_true q143
                have ea_ := Option.some.inj (hx140_0.symm.trans hx143_0)
                injection ea_ with ea_ en_ ec_
                subst ea_
                subst ec_
                clear en_
                go_wp2
                go_ret
                exact ⟨by first | rfl | (simp; done) | (simp [*]; done), by repeat (first | exact Drawn0.refl _ | apply Drawn0.step)⟩
              · rw [if_neg c8] at H
                have c8b0 : decide (70000 < ((rd_L1 l0 x3_1).length : Int)) = false := decide_eq_false c8
                have c8b1 : decide (70000 < (rd_L1 l0 x3_1).length) = false := decide_eq_false (by omega)
                clear c8
                have H' := Aside0.mk H
                clear H
                have p140 : 0 ≤ (x3_1 : Int) := of_decide_eq_true (by first | (with_reducible assumption) | assumption)
                have q140 : x3_1 < (l0.length : Int) := of_decide_eq_true (by first | (with_reducible assumption) | assumption)
                obtain ⟨ad140, A140_0, c140_0, e140, hx140_0, hl140_0, hi140_0⟩ := at_L1 HR0.out x3_1 p140 q140
                cases e140
                have HR140_0 := Aside0.mk hi140_0
                have HC140_0 := Aside0.mk hl140_0
                clear hi140_0 hl140_0
                replace p140 := eq_true p140
                replace q140 := eq_true q140
                have p143 : 0 ≤ (x3_1 : Int) := of_decide_eq_true (by first | (with_reducible assumption) | assumption)
                have q143 : x3_1 < (l0.length : Int) := of_decide_eq_true (by first | (with_reducible assumption) | assumption)
                obtain ⟨ad143, A143_0, c143_0, e143, hx143_0, hl143_0, hi143_0⟩ := at_L1 HR0.out x3_1 p143 q143
                obtain rfl : ad140 = ad143 := (by injection e143)
                have HR143_0 := Aside0.mk hi143_0
                have HC143_0 := Aside0.mk hl143_0
                clear hi143_0 hl143_0
                replace p143 := eq_true p143
                replace q143 := eq_true q143
                have ea_ := Option.some.inj (hx140_0.symm.trans hx143_0)
                injection ea_ with ea_ en_ ec_
                subst ea_
                subst ec_
                clear en_
                go_wp2
                go_roundg k1
                case measure => have := HK1.out; omega
                case rel => exact ⟨(wrap64 (x3_1 + 1)), (by first | rfl | (simp; done) | (simp [*]; done)), H', ⟨by have := HK1.out; omega⟩, by repeat (first | exact Drawn0.refl _ | apply Drawn0.step)⟩
          · rw [if_neg c4] at H
            exact absurd H (by simp)
        · rw [if_neg c3] at H
          have c3b0 : decide (x3_1 < (l0.length : Int)) = false := decide_eq_false c3
          clear c3
          obtain rfl := Option.some.inj H
          go_wp2
          go_ret
          exact ⟨by first | rfl | (simp; done) | (simp [*]; done), by repeat (first | exact Drawn0.refl _ | apply Drawn0.step)⟩

end Go.Proofs.Ytmmbojeikppinaa.PE
namespace Go.Proofs.Ytmmbojeikppinaa.Pure
open Go Go.RowKit Go.TwoGf Go.Proofs.Ytmmbojeikppinaa Go.Proofs.Ytmmbojeikppinaa.PE Go.Proofs.YtmmbojeikppinaaW.PrintWords Go.Proofs.YtmmbojeikppinaaW.PrintLast Go.Proofs.YtmmbojeikppinaaW.PrintMore
set_option linter.unusedVariables false
theorem M21 : codec_Row.M 2 1 = [[1, 0], [0, 1], [142, 244]] := by
  have h0 : matrix_Cauchy.G ((2 : Nat) : Int) 0 0 = 142 := by rw [G_gi (by decide) (by decide) (by decide)]; decide +kernel
  have h1 : matrix_Cauchy.G ((2 : Nat) : Int) 0 1 = 244 := by rw [G_gi (by decide) (by decide) (by decide)]; decide +kernel
  show _ :: _ :: [[matrix_Cauchy.G ((2 : Nat) : Int) 0 0, matrix_Cauchy.G ((2 : Nat) : Int) 0 1]] = _
  rw [h0, h1]; rfl
theorem B_of {l : List Int} (h : (l.all fun x => decide (0 ≤ x) && decide (x < 256)) = true) : isB l := fun x hx => by
  have := List.all_eq_true.1 h x hx
  simpa using this
theorem of_f {K : Nat} (hK : 60 ≤ K) {a b : List Int} (hb : isB b) : delta_Of.f K a b = some (if 1 ≤ a.length ∧ a.length ≤ 65536 ∧ b.length = a.length then (addv a 1 b, 0) else ([], 40)) := by
  unfold delta_Of.f
  rw [dalike_f]
  simp only [Option.bind_some]
  by_cases h : 1 ≤ a.length ∧ a.length ≤ 65536 ∧ b.length = a.length
  · rw [if_pos h, if_pos, xor_f (by omega) hb]
    · unfold plusv; rw [if_pos ⟨by omega, by omega⟩]
    · refine decide_eq_true (fun x hx => ?_)
      show 1 ≤ x.length ∧ x.length ≤ 65536 ∧ x.length = a.length
      simp only [List.mem_cons, List.not_mem_nil, or_false] at hx
      rcases hx with rfl | rfl <;> omega
  · rw [if_neg h, if_neg]
    simp only [decide_eq_true_eq]
    intro z
    have h1 := z a (by simp)
    have h2 := z b (by simp)
    have e : (rd_L1 [a, b] 0).length = a.length := rfl
    rw [e] at h1 h2
    exact h ⟨h1.1, h1.2.1, h2.2.2⟩
theorem alive_ok {K : Nat} (hK : 60 ≤ K) : twoslotlaw05_alive.ok K := by
  have b1 : ∀ {x : Int}, 0 ≤ x ∧ x < 256 → ∀ b ∈ [[x]], isB b := fun hx b hb => by
    rw [List.mem_singleton.1 hb]; intro y hy; rw [List.mem_singleton.1 hy]; exact hx
  have b2 : ∀ b ∈ [[(1 : Int)], [1]], isB b := fun b hb => by
    have : b = [1] := by simpa using hb
    rw [this]; exact B_of (by decide)
  refine ⟨?_, ?_, ?_, ?_, ?_⟩
  · rw [of_f hK (B_of (by decide)), if_pos (by decide)]
    decide +kernel
  · rw [parity_ok hK (k := 2) (r := 1) (parity := [[142]]) (c := 1) (d := [1]) (n := 1) ⟨by decide, rfl, by decide, by decide, rfl, by decide, by decide⟩ (b1 (by decide)) (B_of (by decide))]
    unfold moved co
    rw [show ((2 : Int).toNat) = 2 from rfl, show ((1 : Int).toNat) = 1 from rfl, M21]
    decide +kernel
  · rw [all_ok hK (k := 2) (r := 1) (parity := [[0]]) (cells := [0, 1]) (deltas := [[1], [1]]) (n := 1) ⟨by decide, rfl, by decide, by decide, rfl, by decide, by decide⟩ (b1 (by decide)) b2]
    unfold moved co
    rw [show ((2 : Int).toNat) = 2 from rfl, show ((1 : Int).toNat) = 1 from rfl, M21]
    decide +kernel
  · unfold delta_All.f
    rw [asked_f (in64_of (by decide) (by decide)) (in64_of (by decide) (by decide)), if_pos (by decide), if_pos (by decide)]
    simp only [Option.bind_some]
    rw [if_neg (by decide), if_neg (by decide), if_neg (by decide)]
  · rw [of_f hK isB_nil, if_neg (by decide)]
theorem alive_f {K : Nat} (hK : 60 ≤ K) : twoslotlaw05_alive.f K = some true := by
  unfold twoslotlaw05_alive.f
  rw [if_pos (alive_ok hK)]
theorem much_l0 (l : List (List Int)) (hl : l.length ≤ 60) : ∀ (d k i : Nat), i + d = l.length → d < k → ∃ b, twoslotlaw05_much.l0 k l (i : Int) = some b
  | 0, k, i, hi, hk => by
    obtain ⟨k, rfl⟩ : ∃ m, k = m + 1 := ⟨k - 1, by omega⟩
    exact ⟨false, by simp only [twoslotlaw05_much.l0]; rw [if_neg (by omega)]⟩
  | d + 1, k, i, hi, hk => by
    obtain ⟨k, rfl⟩ : ∃ m, k = m + 1 := ⟨k - 1, by omega⟩
    obtain ⟨b, hb⟩ := much_l0 l hl d k (i + 1) (by omega) (by omega)
    rw [show ((i + 1 : Nat) : Int) = (i : Int) + 1 by omega] at hb
    simp only [twoslotlaw05_much.l0]
    rw [if_pos (by omega), if_pos (by omega), wrap_s (by omega) (by omega), hb]
    by_cases h1 : ((rd_L1 l i).length : Int) > 3000
    · rw [if_pos h1]
      by_cases h2 : ((rd_L1 l i).length : Int) ≤ 65536
      · rw [if_pos h2]; exact ⟨_, rfl⟩
      · rw [if_neg h2]
        by_cases h3 : ((rd_L1 l i).length : Int) > 70000
        · rw [if_pos h3]; exact ⟨_, rfl⟩
        · rw [if_neg h3]; exact ⟨_, rfl⟩
    · rw [if_neg h1]
      by_cases h3 : ((rd_L1 l i).length : Int) > 70000
      · rw [if_pos h3]; exact ⟨_, rfl⟩
      · rw [if_neg h3]; exact ⟨_, rfl⟩
theorem much_f {K : Nat} (hK : 62 ≤ K) (l : List (List Int)) : twoslotlaw05_much.f K l = some true ∨ (twoslotlaw05_much.f K l = some false ∧ l.length ≤ 60) := by
  unfold twoslotlaw05_much.f
  by_cases h : (l.length : Int) > 60
  · rw [if_pos h]; exact .inl rfl
  · rw [if_neg h]
    obtain ⟨b, hb⟩ := much_l0 l (by omega) l.length K 0 (by omega) (by omega)
    rw [show ((0 : Nat) : Int) = 0 from rfl] at hb
    rw [hb]
    cases b
    · exact .inr ⟨rfl, by omega⟩
    · exact .inl rfl
end Go.Proofs.Ytmmbojeikppinaa.Pure
